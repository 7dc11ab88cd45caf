/- The program's cells and entities, walked. -/
import Derived.Test.YtecodneffflpoaaD8
namespace Go.Ad
open Go.RowKit Go.Maps
/-- A call of a closure. -/
theorem En_callC {P : Program} {W : World} {M : List Nat} {L : List Bk} {ρ : Operand → Value} {x : Operand} {ty : TypeId} {f : FuncId} {fn : Func} {first cap : List Value} {args : List Operand} {ts : Array TypeId} {vs : List Value} (hx : ρ x = .func (.func f) first.toArray cap.toArray) (hf : P.funcs[f]? = some fn) (hb : fn.body.isNone = false) (hn : (fn.name == "runtime.NumGoroutine") = false) (hv : args.map ρ = vs) :
    En P W M L ρ (.call { callee := .value x, args := args.toArray, argTypes := ts }) ty f (first ++ vs ++ cap) := fun w _ o ho _ => by
  have h1 : ¬ fn.name = "runtime.NumGoroutine" := by intro h; simp [h] at hn
  have h2 : ¬ fn.body = none := by intro h; simp [h] at hb
  unfold execOp
  simp [ho, resolve, hx, Deferred.ofValue, invoke, callFunc, hf, ← hv, Result.andThen, h1, h2]
theorem Ex.ro {W w : World} {b o : Nat} {c : List Value} (h : Ex [] W w) (hr : Ro W b o c) : Ro w b o c := fun j v hv => by
  have h1 := hr j v hv
  rw [h.cell (p := ⟨b, o + j, none⟩) (block_lt_of_cell h1) (by simp)]; exact h1
end Go.Ad
namespace Go.Proofs.Ytecodneffflpoaa
open Go.RowKit Go.Ad Go.Maps
set_option linter.unusedVariables false
set_option linter.unusedSimpArgs false
section
variable {W : World}
set_option maxRecDepth 100000 in
theorem prows_d {b o n c : Nat} (hn : n ≤ c) (hg : c ≤ maxLen) : Does Try.prog 72 [.slice (some ⟨b, o, none⟩) n c] W [] (fun v L => v = .slice (some ⟨b, o, none⟩) (min n 32) c ∧ L = []) := by
  simp only [maxLen] at hg
  refine enter Try.func72 rfl rfl rfl (Has.start _) ?_
  refine c_seq ?_
  -- ents.go:33 R0
  refine c_reg ?_
  refine s_y (Y_asC) rfl rfl ?_
  refine s_nil ?_
  refine q_then ?_
  refine c_seq ?_
  -- ents.go:33 R1
  refine c_reg ?_
  refine s_y (Y_mv) rfl rfl ?_
  refine s_y (Y_mv) rfl rfl ?_
  refine s_y (Y_len rfl rfl Try.underlying26) rfl rfl ?_
  refine s_y ((Y_min rfl rfl).num (show min (n : Int) 32 = ((min n 32 : Nat) : Int) by omega)) rfl rfl ?_
  refine s_y (Y_slHi rfl rfl Try.underlying26 sz48 rfl (by omega)) rfl rfl ?_
  refine s_y (Y_as) rfl rfl ?_
  refine s_nil ?_
  refine q_then ?_
  refine c_ret ?_
  refine q_retG1 rfl gt_ (L' := _) sl_ (⟨rfl, rfl⟩)
set_option maxRecDepth 100000 in
theorem pfind_d {b o n c : Nat} {l : List Ent} (hs : SlB W b o n c 11 (ecells l)) {f : FuncId} {fn : Func} {cap : List Value} (p : Ent → Bool) (hf : Try.prog.funcs[f]? = some fn) (hb : fn.body.isNone = false) (hnm : (fn.name == "runtime.NumGoroutine") = false)
    (hcl : ∀ w, Ex [] W w → ∀ (i : Nat) (e : Ent), Does Try.prog f ([iv i, .agg e.cells.toArray] ++ cap) w [] (fun v L => v = .bool (p e) ∧ L = [])) :
    Does Try.prog 61 [.slice (some ⟨b, o, none⟩) n c, .func (.func f) #[] cap.toArray] W [] (fun v L => v = iv (fnd p (l.take 32) 0) ∧ L = []) := by
  obtain rfl : n = l.length := by have := hs.len; rw [ecells_len] at this; omega
  have hc := hs.cap
  have hg := hs.big
  refine enter Try.func61 rfl rfl rfl (Has.start _) ?_
  refine c_seq ?_
  -- ents.go:36 R0
  refine c_reg ?_
  refine s_y (Y_asC) rfl rfl ?_
  refine s_nil ?_
  refine q_then ?_
  refine c_seq ?_
  refine c_seq ?_
  -- ents.go:37 R1
  refine c_reg ?_
  refine s_y (Y_mv) rfl rfl ?_
  refine s_c (En_call (fun _ => rfl) Try.func72 rfl (by kernel_rfl) rfl) (fun w hH => prows_d hc hg) rfl rfl ?_
  rintro _ _ ⟨rfl, rfl⟩
  refine s_y (Y_len rfl rfl Try.underlying26) rfl rfl ?_
  refine s_y (Y_mvC) rfl rfl ?_
  refine s_nil ?_
  refine q_then ?_
  refine c_block ?_
  refine c_loop [4, 5, 6, 10, 11, 12, 13, 14, 15, 16, 17, 18, 19, 20] (fun m i => i + m = min l.length 32 ∧ fnd p ((l.take 32).drop i) i = fnd p (l.take 32) 0) (fun i => [(10, iv i)]) (fun _ => []) (min l.length 32) (0) (⟨by omega, rfl⟩) (by repeat (first | exact trivial | refine ⟨rfl, ?_⟩)) (fun _ h => h.sub sl_) (fun _ => rfl) ?_
  rintro m i j ⟨hi, hfd⟩ K hK
  refine c_seq ?_
  -- ents.go:37 R2
  refine c_reg ?_
  refine s_y (Y_lss rfl rfl) rfl rfl ?_
  refine s_nil ?_
  refine q_then ?_
  refine c_seq ?_
  first | refine c_cond' rfl (fun hc2 => ?_) (fun hc2 => ?_) | refine c_cond rfl (fun hc2 => ?_) (fun hc2 => ?_)
  · skip
    try simp only [nrm_] at hc2
    refine c_skip ?_
    refine q_then ?_
    refine c_seq ?_
    refine c_block ?_
    refine c_seq ?_
    -- ents.go:37 R3
    obtain ⟨e, he⟩ := take_lt (show i < (l.take 32).length by rw [List.length_take]; omega)
    have he2 : l[i]? = some e := by rw [List.getElem?_take_of_lt (by omega)] at he; exact he
    have hr := hs.at' Ent.len he2
    refine c_reg ?_
    refine s_y (Y_mv) rfl rfl ?_
    refine s_y (Y_ia rfl rfl Try.underlying26 sz48 rfl (by omega)) rfl rfl ?_
    refine s_y ((by first | exact Y_loadAll rfl many48 mm_ (by rfl) | exact Y_loadN rfl many48 mm_ ‹_› ‹_› | exact Y_loadNR rfl many48 hr rfl | exact Y_loadNR rfl many48 hr2 rfl | exact Y_loadNR rfl many48 ‹_› rfl)) rfl rfl ?_
    refine s_n (N_alloc (z := .agg #[.int .i64 0, .int .i64 0, .int .i64 0, .int .i64 0, .int .i64 0, .int .i64 0, .int .i64 0, .int .i64 0, .int .i64 0, .int .i64 0, .int .i64 0]) (cs := [.int .i64 0, .int .i64 0, .int .i64 0, .int .i64 0, .int .i64 0, .int .i64 0, .int .i64 0, .int .i64 0, .int .i64 0, .int .i64 0, .int .i64 0]) zv48 rfl) rfl rfl (fun b6 _ => ?_)
    refine s_y (Y_as) rfl rfl ?_
    refine s_s ((by first | exact S_storeA rfl rfl sz48 (by first | rfl | assumption) (by first | rfl | assumption) (by repeat (first | exact Upd.head | apply Upd.tail)) (by first | rfl | assumption) | exact S_storeN rfl rfl sz48 (by rfl) (by first | rfl | assumption) (by repeat (first | exact Upd.head | apply Upd.tail)) (by simp only [setAll, List.set_cons_zero, List.set_cons_succ, Nat.zero_add, Nat.reduceAdd]; rfl) (by first | rfl | assumption))) rfl ?_
    refine s_nil ?_
    refine q_then ?_
    refine c_seq ?_
    -- ents.go:38 R4
    refine c_reg ?_
    refine s_y (Y_mv) rfl rfl ?_
    refine s_y (Y_mv) rfl rfl ?_
    refine s_y ((by first | exact Y_loadAll rfl many48 mm_ (by rfl) | exact Y_loadN rfl many48 mm_ ‹_› ‹_› | exact Y_loadNR rfl many48 hr rfl | exact Y_loadNR rfl many48 hr2 rfl | exact Y_loadNR rfl many48 ‹_› rfl)) rfl rfl ?_
    refine s_c (En_callC (first := []) (cap := cap) rfl hf hb hnm rfl) (fun w hH => hcl w (hH.ex) i e) rfl rfl ?_
    rintro _ _ ⟨rfl, rfl⟩
    refine s_nil ?_
    refine q_then ?_
    refine c_cond (t := (p e)) rfl (fun hp => ?_) (fun hp => ?_)
    · skip
      try simp only [nrm_] at hp
      refine c_seq ?_
      -- ents.go:39 R5
      refine c_reg ?_
      refine s_y (Y_mv) rfl rfl ?_
      refine s_y (Y_as) rfl rfl ?_
      refine s_nil ?_
      refine q_then ?_
      refine c_ret ?_
      refine q_retG1 rfl gt_ (L' := _) sl_ (⟨by rw [← hfd, fnd_here he hp], rfl⟩)
    · skip
      try simp only [nrm_] at hp
      refine c_skip ?_
      refine q_bn ?_
      refine q_then ?_
      -- ents.go:37 R6
      refine c_reg ?_
      refine s_y ((by first | exact Y_add rfl rfl (by omega) | exact Y_addw rfl rfl)) rfl rfl ?_
      refine s_y (Y_mv) rfl rfl ?_
      refine s_nil ?_
      refine hK (m - 1) (i + 1) _ _ (by omega) ⟨by omega, by rw [← fnd_step he hp]; exact hfd⟩ ⟨rfl, trivial⟩ rfl (fun _ h => h.sub sl_)
  · skip
    try simp only [nrm_] at hc2
    refine c_exit ?_
    repeat with_reducible refine q_te ?_
    refine q_exit ?_
    refine q_then ?_
    refine c_seq ?_
    -- ents.go:42 R7
    refine c_reg ?_
    refine s_y (Y_asC) rfl rfl ?_
    refine s_nil ?_
    refine q_then ?_
    refine c_ret ?_
    refine q_retG1 rfl gt_ (L' := _) sl_ (⟨by rw [← hfd, fnd_end (by rw [List.length_take]; omega)], rfl⟩)
set_option maxRecDepth 100000 in
theorem pat1_d {e : Ent} {i x y : Int} {b1 b2 : Nat} (h1 : Ro W b1 0 [iv x]) (h2 : Ro W b2 0 [iv y]) : Does Try.prog 62 [iv i, .agg e.cells.toArray, .pointer (some ⟨b1, 0, none⟩), .pointer (some ⟨b2, 0, none⟩)] W [] (fun v L => v = .bool (decide (e.kind ≠ 0 ∧ e.x = x ∧ e.y = y)) ∧ L = []) := by
  refine enter Try.func62 rfl rfl rfl (Has.start _) ?_
  refine c_seq ?_
  -- ents.go:74 R0
  refine c_reg ?_
  refine s_n (N_box rfl) rfl rfl (fun b5 _ => ?_)
  refine s_y (Y_asC) rfl rfl ?_
  refine s_nil ?_
  refine q_then ?_
  refine c_seq ?_
  -- ents.go:74 R1
  refine c_reg ?_
  refine s_y (Y_fa 0 rfl Try.underlying48 rfl sz3 rfl) rfl rfl ?_
  refine s_y ((by first | exact Y_load rfl one3 mm_ (by rfl) | exact Y_loadR rfl one3 hr rfl rfl | exact Y_loadR rfl one3 hr2 rfl rfl | exact Y_load rfl one3 mm_ (eget he rfl) | exact Y_load rfl one3 mm_ (iget hx rfl) | exact Y_load rfl one3 mm_ (by assumption) | exact Y_loadR rfl one3 (by assumption) rfl (by assumption))) rfl rfl ?_
  refine s_y (Y_neq rfl rfl) rfl rfl ?_
  refine s_y (Y_mv) rfl rfl ?_
  apply s_and 10 [10, 11, 12, 13, 14, 15, 16, 17, 18, 19, 20] 20 (g := 10) rfl rfl
  · intro ht4 hm
    try simp only [nrm_] at ht4
    first | refine s_y (Y_fa 3 rfl Try.underlying48 rfl sz3 rfl) rfl rfl ?_ | refine s_pass rfl rfl ?_
    first | refine s_y ((by first | exact Y_load rfl one3 mm_ (by rfl) | exact Y_loadR rfl one3 hr rfl rfl | exact Y_loadR rfl one3 hr2 rfl rfl | exact Y_load rfl one3 mm_ (eget he rfl) | exact Y_load rfl one3 mm_ (iget hx rfl) | exact Y_load rfl one3 mm_ (by assumption) | exact Y_loadR rfl one3 (by assumption) rfl (by assumption))) rfl rfl ?_ | refine s_pass rfl rfl ?_
    first | refine s_y (Y_fa 4 rfl Try.underlying48 rfl sz3 rfl) rfl rfl ?_ | refine s_pass rfl rfl ?_
    first | refine s_y ((by first | exact Y_load rfl one3 mm_ (by rfl) | exact Y_loadR rfl one3 hr rfl rfl | exact Y_loadR rfl one3 hr2 rfl rfl | exact Y_load rfl one3 mm_ (eget he rfl) | exact Y_load rfl one3 mm_ (iget hx rfl) | exact Y_load rfl one3 mm_ (by assumption) | exact Y_loadR rfl one3 (by assumption) rfl (by assumption))) rfl rfl ?_ | refine s_pass rfl rfl ?_
    first | refine s_y (Y_build (cs := [_, _]) (by repeat (first | exact Gp.nil | apply Gp.const | apply Gp.tmp gt_)) (bld98 _ _ (by first | rfl | (simp; rfl)))) rfl rfl ?_ | refine s_pass rfl rfl ?_
    first | refine s_y (Y_loadR (i := 0) rfl one3 h1 rfl rfl) rfl rfl ?_ | refine s_pass rfl rfl ?_
    first | refine s_y (Y_loadR (i := 0) rfl one3 h2 rfl rfl) rfl rfl ?_ | refine s_pass rfl rfl ?_
    first | refine s_y (Y_build (cs := [_, _]) (by repeat (first | exact Gp.nil | apply Gp.const | apply Gp.tmp gt_)) (bld98 _ _ (by first | rfl | (simp; rfl)))) rfl rfl ?_ | refine s_pass rfl rfl ?_
    first | refine s_y (Y_eqF (zs := [_, _]) (zs' := [_, _]) rfl rfl flat98 rfl rfl) rfl rfl ?_ | refine s_pass rfl rfl ?_
    refine s_y (Y_pk rfl (Gx.tmp gt_) Gx.const) rfl rfl ?_
    first | exact hm _ ⟨rfl, trivial⟩ rfl | exact QL.sub sl_ (hm _ ⟨rfl, trivial⟩ rfl)
  · intro ht4 hm
    iterate 9 refine s_pass rfl rfl ?_
    refine s_y (Y_pk rfl (Gx.tmp gt_) Gx.const) rfl rfl ?_
    exact hm _ ⟨rfl, trivial⟩ rfl
  intro j20
  refine s_y (Y_as) rfl rfl ?_
  refine s_nil ?_
  refine q_then ?_
  refine c_ret ?_
  refine q_retG1 rfl gt_ (L' := _) sl_ (⟨by congr 1; rw [Bool.eq_iff_iff]; simp only [nrm_]; simp, rfl⟩)
set_option maxRecDepth 100000 in
theorem phero1_d {e : Ent} {i x : Int} {b1 : Nat} (h1 : Ro W b1 0 [iv x]) : Does Try.prog 63 [iv i, .agg e.cells.toArray, .pointer (some ⟨b1, 0, none⟩)] W [] (fun v L => v = .bool (decide (e.kind = 1 ∧ e.seat = x)) ∧ L = []) := by
  refine enter Try.func63 rfl rfl rfl (Has.start _) ?_
  refine c_seq ?_
  -- ents.go:78 R0
  refine c_reg ?_
  refine s_n (N_box rfl) rfl rfl (fun b4 _ => ?_)
  refine s_y (Y_asC) rfl rfl ?_
  refine s_nil ?_
  refine q_then ?_
  refine c_seq ?_
  -- ents.go:78 R1
  refine c_reg ?_
  refine s_y (Y_fa 0 rfl Try.underlying48 rfl sz3 rfl) rfl rfl ?_
  refine s_y ((by first | exact Y_load rfl one3 mm_ (by rfl) | exact Y_loadR rfl one3 hr rfl rfl | exact Y_loadR rfl one3 hr2 rfl rfl | exact Y_load rfl one3 mm_ (eget he rfl) | exact Y_load rfl one3 mm_ (iget hx rfl) | exact Y_load rfl one3 mm_ (by assumption) | exact Y_loadR rfl one3 (by assumption) rfl (by assumption))) rfl rfl ?_
  refine s_y (Y_eql rfl rfl) rfl rfl ?_
  refine s_y (Y_mv) rfl rfl ?_
  apply s_and 5 [9, 10, 11, 12, 13, 14] 14 (g := 9) rfl rfl
  · intro ht4 hm
    try simp only [nrm_] at ht4
    first | refine s_y (Y_fa 2 rfl Try.underlying48 rfl sz3 rfl) rfl rfl ?_ | refine s_pass rfl rfl ?_
    first | refine s_y ((by first | exact Y_load rfl one3 mm_ (by rfl) | exact Y_loadR rfl one3 hr rfl rfl | exact Y_loadR rfl one3 hr2 rfl rfl | exact Y_load rfl one3 mm_ (eget he rfl) | exact Y_load rfl one3 mm_ (iget hx rfl) | exact Y_load rfl one3 mm_ (by assumption) | exact Y_loadR rfl one3 (by assumption) rfl (by assumption))) rfl rfl ?_ | refine s_pass rfl rfl ?_
    first | refine s_y (Y_loadR (i := 0) rfl one3 h1 rfl rfl) rfl rfl ?_ | refine s_pass rfl rfl ?_
    first | refine s_y (Y_eql rfl rfl) rfl rfl ?_ | refine s_pass rfl rfl ?_
    refine s_y (Y_pk rfl (Gx.tmp gt_) Gx.const) rfl rfl ?_
    first | exact hm _ ⟨rfl, trivial⟩ rfl | exact QL.sub sl_ (hm _ ⟨rfl, trivial⟩ rfl)
  · intro ht4 hm
    iterate 4 refine s_pass rfl rfl ?_
    refine s_y (Y_pk rfl (Gx.tmp gt_) Gx.const) rfl rfl ?_
    exact hm _ ⟨rfl, trivial⟩ rfl
  intro j14
  refine s_y (Y_as) rfl rfl ?_
  refine s_nil ?_
  refine q_then ?_
  refine c_ret ?_
  refine q_retG1 rfl gt_ (L' := _) sl_ (⟨by congr 1; rw [Bool.eq_iff_iff]; simp only [nrm_], rfl⟩)
set_option maxRecDepth 100000 in
theorem peat_d {b o n c : Nat} {l : List Ent} (hs : SlB W b o n c 11 (ecells l)) {x y : Int} : Does Try.prog 43 [.slice (some ⟨b, o, none⟩) n c, iv x, iv y] W [] (fun v L => v = iv (eAt (l.take 32) x y) ∧ L = []) := by
  refine enter Try.func43 rfl rfl rfl (Has.start _) ?_
  refine c_seq ?_
  -- ents.go:73 R0
  refine c_reg ?_
  refine s_n (N_box1 rfl rfl) rfl rfl (fun b4 _ => ?_)
  refine s_n (N_box1 rfl rfl) rfl rfl (fun b5 _ => ?_)
  refine s_y (Y_asC) rfl rfl ?_
  refine s_nil ?_
  refine q_then ?_
  refine c_seq ?_
  -- ents.go:74 R1
  refine c_reg ?_
  refine s_y (Y_mv) rfl rfl ?_
  refine s_y (Y_mk (by repeat (first | exact Gv.nil | apply Gv.const | apply Gv.tmp gt_)) (by repeat (first | exact Gv.nil | apply Gv.const | apply Gv.tmp gt_))) rfl rfl ?_
  refine s_c (En_call (fun _ => rfl) Try.func61 rfl (by kernel_rfl) rfl) (fun w hH => pfind_d (hs.has hH) (cap := [.pointer (some ⟨b4, 0, none⟩), .pointer (some ⟨b5, 0, none⟩)]) _ Try.func62 (by kernel_rfl) rfl (fun w' hx i e => pat1_d (hx.ro (hH.at' (x := ⟨b4, 3, 1, 1, [iv x]⟩) mm_).ro) (hx.ro (hH.at' (x := ⟨b5, 3, 1, 1, [iv y]⟩) mm_).ro))) rfl rfl ?_
  rintro _ _ ⟨rfl, rfl⟩
  refine s_y (Y_as) rfl rfl ?_
  refine s_nil ?_
  refine q_then ?_
  refine c_ret ?_
  refine q_retG1 rfl gt_ (L' := _) sl_ (⟨rfl, rfl⟩)
set_option maxRecDepth 100000 in
theorem phero_d {b o n c : Nat} {l : List Ent} (hs : SlB W b o n c 11 (ecells l)) {x : Int} : Does Try.prog 44 [.slice (some ⟨b, o, none⟩) n c, iv x] W [] (fun v L => v = iv (eHero (l.take 32) x) ∧ L = []) := by
  refine enter Try.func44 rfl rfl rfl (Has.start _) ?_
  refine c_seq ?_
  -- ents.go:77 R0
  refine c_reg ?_
  refine s_n (N_box1 rfl rfl) rfl rfl (fun b3 _ => ?_)
  refine s_y (Y_asC) rfl rfl ?_
  refine s_nil ?_
  refine q_then ?_
  refine c_seq ?_
  -- ents.go:78 R1
  refine c_reg ?_
  refine s_y (Y_mv) rfl rfl ?_
  refine s_y (Y_mk (by repeat (first | exact Gv.nil | apply Gv.const | apply Gv.tmp gt_)) (by repeat (first | exact Gv.nil | apply Gv.const | apply Gv.tmp gt_))) rfl rfl ?_
  refine s_c (En_call (fun _ => rfl) Try.func61 rfl (by kernel_rfl) rfl) (fun w hH => pfind_d (hs.has hH) (cap := [.pointer (some ⟨b3, 0, none⟩)]) _ Try.func63 (by kernel_rfl) rfl (fun w' hx i e => phero1_d (hx.ro (hH.at' (x := ⟨b3, 3, 1, 1, [iv x]⟩) mm_).ro))) rfl rfl ?_
  rintro _ _ ⟨rfl, rfl⟩
  refine s_y (Y_as) rfl rfl ?_
  refine s_nil ?_
  refine q_then ?_
  refine c_ret ?_
  refine q_retG1 rfl gt_ (L' := _) sl_ (⟨rfl, rfl⟩)
def placeM (x y : Int) : Int := if inM x y = true then y * 24 + x else -1
set_option maxRecDepth 100000 in
theorem pplace_d {x y : Int} : Does Try.prog 60 [iv x, iv y] W [] (fun v L => v = iv (placeM x y) ∧ L = []) := by
  refine enter Try.func60 rfl rfl rfl (Has.start _) ?_
  refine c_seq ?_
  -- grid.go:11 R0
  refine c_reg ?_
  refine s_y (Y_asC) rfl rfl ?_
  refine s_nil ?_
  refine q_then ?_
  refine c_seq ?_
  refine c_seq ?_
  -- grid.go:12 R1
  refine c_reg ?_
  refine s_y (Y_mv) rfl rfl ?_
  refine s_y (Y_lss rfl rfl) rfl rfl ?_
  refine s_y (Y_mv) rfl rfl ?_
  apply s_or 3 [7, 8, 9, 10] 10 (g := 7) rfl rfl
  · intro ht3 hm
    try simp only [nrm_] at ht3
    first | refine s_y (Y_mv) rfl rfl ?_ | refine s_pass rfl rfl ?_
    first | refine s_y (Y_geq rfl rfl) rfl rfl ?_ | refine s_pass rfl rfl ?_
    refine s_y (Y_pk rfl Gx.const (Gx.tmp gt_)) rfl rfl ?_
    first | exact hm _ ⟨rfl, trivial⟩ rfl | exact QL.sub sl_ (hm _ ⟨rfl, trivial⟩ rfl)
  · intro ht3 hm
    iterate 2 refine s_pass rfl rfl ?_
    refine s_y (Y_pk rfl Gx.const (Gx.tmp gt_)) rfl rfl ?_
    exact hm _ ⟨rfl, trivial⟩ rfl
  intro j10
  refine s_y (Y_mv) rfl rfl ?_
  apply s_or 3 [11, 12, 13, 14] 14 (g := 11) rfl rfl
  · intro ht7 hm
    try simp only [nrm_] at ht7
    first | refine s_y (Y_mv) rfl rfl ?_ | refine s_pass rfl rfl ?_
    first | refine s_y (Y_lss rfl rfl) rfl rfl ?_ | refine s_pass rfl rfl ?_
    refine s_y (Y_pk rfl Gx.const (Gx.tmp gt_)) rfl rfl ?_
    first | exact hm _ ⟨rfl, trivial⟩ rfl | exact QL.sub sl_ (hm _ ⟨rfl, trivial⟩ rfl)
  · intro ht7 hm
    iterate 2 refine s_pass rfl rfl ?_
    refine s_y (Y_pk rfl Gx.const (Gx.tmp gt_)) rfl rfl ?_
    exact hm _ ⟨rfl, trivial⟩ rfl
  intro j14
  refine s_y (Y_mv) rfl rfl ?_
  apply s_or 3 [15, 16, 17, 18] 18 (g := 15) rfl rfl
  · intro ht11 hm
    try simp only [nrm_] at ht11
    first | refine s_y (Y_mv) rfl rfl ?_ | refine s_pass rfl rfl ?_
    first | refine s_y (Y_geq rfl rfl) rfl rfl ?_ | refine s_pass rfl rfl ?_
    refine s_y (Y_pk rfl Gx.const (Gx.tmp gt_)) rfl rfl ?_
    first | exact hm _ ⟨rfl, trivial⟩ rfl | exact QL.sub sl_ (hm _ ⟨rfl, trivial⟩ rfl)
  · intro ht11 hm
    iterate 2 refine s_pass rfl rfl ?_
    refine s_y (Y_pk rfl Gx.const (Gx.tmp gt_)) rfl rfl ?_
    exact hm _ ⟨rfl, trivial⟩ rfl
  intro j18
  refine s_nil ?_
  refine q_then ?_
  first | refine c_cond' rfl (fun hc1 => ?_) (fun hc1 => ?_) | refine c_cond rfl (fun hc1 => ?_) (fun hc1 => ?_)
  · skip
    try simp only [nrm_] at hc1
    refine c_seq ?_
    -- grid.go:13 R2
    refine c_reg ?_
    refine s_y (Y_asC) rfl rfl ?_
    refine s_nil ?_
    refine q_then ?_
    refine c_ret ?_
    refine q_retG1 rfl gt_ (L' := _) sl_ (⟨by rw [placeM, if_neg]; simp only [inM, decide_eq_true_eq]; omega, rfl⟩)
  · skip
    try simp only [nrm_] at hc1
    refine c_skip ?_
    refine q_then ?_
    refine c_seq ?_
    -- grid.go:15 R3
    refine c_reg ?_
    refine s_y (Y_mv) rfl rfl ?_
    refine s_y ((by first | exact Y_mul rfl rfl (by omega) | exact Y_mulw rfl rfl)) rfl rfl ?_
    refine s_y (Y_mv) rfl rfl ?_
    refine s_y ((by first | exact Y_add rfl rfl (by omega) | exact Y_addw rfl rfl)) rfl rfl ?_
    refine s_y (Y_as) rfl rfl ?_
    refine s_nil ?_
    refine q_then ?_
    refine c_ret ?_
    refine q_retG1 rfl gt_ (L' := _) sl_ (⟨by rw [placeM, if_pos]; simp only [inM, decide_eq_true_eq]; omega, rfl⟩)
def kindM (cells : List UInt8) (k : Int) : Int := if 0 ≤ k ∧ k < cells.length then byteAt cells k.toNat else 0
set_option maxRecDepth 100000 in
theorem pkind_d {b o n c : Nat} {l : List UInt8} (hs : SlB W b o n c 1 (l.map bv)) {k : Int} : Does Try.prog 59 [.slice (some ⟨b, o, none⟩) n c, iv k] W [] (fun v L => v = iv (kindM l k) ∧ L = []) := by
  have hn : l.length = n := by have := hs.len; simpa using this
  refine enter Try.func59 rfl rfl rfl (Has.start _) ?_
  refine c_seq ?_
  -- grid.go:19 R0
  refine c_reg ?_
  refine s_y (Y_asC) rfl rfl ?_
  refine s_nil ?_
  refine q_then ?_
  refine c_seq ?_
  refine c_seq ?_
  -- grid.go:20 R1
  refine c_reg ?_
  refine s_y (Y_mv) rfl rfl ?_
  refine s_y (Y_lss rfl rfl) rfl rfl ?_
  refine s_y (Y_mv) rfl rfl ?_
  apply s_or 5 [7, 8, 9, 10, 11, 12] 12 (g := 7) rfl rfl
  · intro ht3 hm
    try simp only [nrm_] at ht3
    first | refine s_y (Y_mv) rfl rfl ?_ | refine s_pass rfl rfl ?_
    first | refine s_y (Y_mv) rfl rfl ?_ | refine s_pass rfl rfl ?_
    first | refine s_y (Y_len rfl rfl Try.underlying25) rfl rfl ?_ | refine s_pass rfl rfl ?_
    first | refine s_y (Y_geq rfl rfl) rfl rfl ?_ | refine s_pass rfl rfl ?_
    refine s_y (Y_pk rfl Gx.const (Gx.tmp gt_)) rfl rfl ?_
    first | exact hm _ ⟨rfl, trivial⟩ rfl | exact QL.sub sl_ (hm _ ⟨rfl, trivial⟩ rfl)
  · intro ht3 hm
    iterate 4 refine s_pass rfl rfl ?_
    refine s_y (Y_pk rfl Gx.const (Gx.tmp gt_)) rfl rfl ?_
    exact hm _ ⟨rfl, trivial⟩ rfl
  intro j12
  refine s_nil ?_
  refine q_then ?_
  first | refine c_cond' rfl (fun hc1 => ?_) (fun hc1 => ?_) | refine c_cond rfl (fun hc1 => ?_) (fun hc1 => ?_)
  · skip
    try simp only [nrm_] at hc1
    refine c_seq ?_
    -- grid.go:21 R2
    refine c_reg ?_
    refine s_y (Y_asC) rfl rfl ?_
    refine s_nil ?_
    refine q_then ?_
    refine c_ret ?_
    refine q_retG1 rfl gt_ (L' := _) sl_ (⟨by rw [kindM, if_neg]; omega, rfl⟩)
  · skip
    try simp only [nrm_] at hc1
    refine c_skip ?_
    refine q_then ?_
    refine c_seq ?_
    -- grid.go:23 R3
    obtain ⟨q, rfl⟩ : ∃ q : Nat, k = (q : Int) := ⟨k.toNat, by omega⟩
    obtain ⟨u, hu⟩ := take_lt (show q < l.length by omega)
    refine c_reg ?_
    refine s_y (Y_mv) rfl rfl ?_
    refine s_y (Y_mv) rfl rfl ?_
    refine s_y (Y_ia1 rfl rfl Try.underlying25 sz5 rfl (by omega)) rfl rfl ?_
    refine s_y (Y_loadR (i := q) rfl one5 hs.ro rfl (by rw [List.getElem?_map, hu]; rfl)) rfl rfl ?_
    refine s_y ((by first | exact Y_conv rfl Try.underlying5 Try.underlying3 (by first | exact i64_u8 _ | exact u64_u8 _ | exact i64_id (by omega) | exact u64_id (by omega) | exact u8_id (by omega) | exact u32_id (by omega)) | exact Y_convw rfl Try.underlying5 Try.underlying3)) rfl rfl ?_
    refine s_y (Y_as) rfl rfl ?_
    refine s_nil ?_
    refine q_then ?_
    refine c_ret ?_
    refine q_retG1 rfl gt_ (L' := _) sl_ (⟨by rw [kindM, if_pos (by omega), Int.toNat_natCast, byteAt_of hu], rfl⟩)
theorem at_eq (cells : List UInt8) (x y : Int) : kindM cells (placeM x y) = atM cells x y := by
  unfold kindM placeM atM
  by_cases h : inM x y = true
  · simp only [h, if_true, true_and]
    simp only [inM, decide_eq_true_eq] at h
    by_cases h2 : y * 24 + x < cells.length
    · rw [if_pos ⟨by omega, h2⟩, if_pos h2]
    · rw [if_neg (fun h => h2 h.2), if_neg h2]
  · rw [Bool.not_eq_true] at h
    simp [h]
set_option maxRecDepth 100000 in
theorem pgat_d {b o n c : Nat} {l : List UInt8} (hs : SlB W b o n c 1 (l.map bv)) {x y : Int} : Does Try.prog 42 [.slice (some ⟨b, o, none⟩) n c, iv x, iv y] W [] (fun v L => v = iv (atM l x y) ∧ L = []) := by
  refine enter Try.func42 rfl rfl rfl (Has.start _) ?_
  refine c_seq ?_
  -- grid.go:27 R0
  refine c_reg ?_
  refine s_y (Y_asC) rfl rfl ?_
  refine s_nil ?_
  refine q_then ?_
  refine c_seq ?_
  -- grid.go:27 R1
  refine c_reg ?_
  refine s_y (Y_mv) rfl rfl ?_
  refine s_y (Y_mv) rfl rfl ?_
  refine s_y (Y_mv) rfl rfl ?_
  refine s_c (En_call (fun _ => rfl) Try.func60 rfl (by kernel_rfl) rfl) (fun w hH => pplace_d) rfl rfl ?_
  rintro _ _ ⟨rfl, rfl⟩
  refine s_c (En_call (fun _ => rfl) Try.func59 rfl (by kernel_rfl) rfl) (fun w hH => pkind_d (hs.has hH)) rfl rfl ?_
  rintro _ _ ⟨rfl, rfl⟩
  refine s_y (Y_as) rfl rfl ?_
  refine s_nil ?_
  refine q_then ?_
  refine c_ret ?_
  refine q_retG1 rfl gt_ (L' := _) sl_ (⟨by rw [at_eq], rfl⟩)
set_option maxRecDepth 100000 in
theorem pwalk_d {k : Int} : Does Try.prog 41 [iv k] W [] (fun v L => v = .bool (walkM k) ∧ L = []) := by
  refine enter Try.func41 rfl rfl rfl (Has.start _) ?_
  refine c_seq ?_
  -- grid.go:30 R0
  refine c_reg ?_
  refine s_y (Y_asC) rfl rfl ?_
  refine s_nil ?_
  refine q_then ?_
  refine c_seq ?_
  -- grid.go:30 R1
  refine c_reg ?_
  refine s_y (Y_mv) rfl rfl ?_
  refine s_y (Y_geq rfl rfl) rfl rfl ?_
  refine s_y (Y_mv) rfl rfl ?_
  apply s_and 3 [5, 6, 7, 8] 8 (g := 5) rfl rfl
  · intro ht3 hm
    try simp only [nrm_] at ht3
    first | refine s_y (Y_mv) rfl rfl ?_ | refine s_pass rfl rfl ?_
    first | refine s_y (Y_leq rfl rfl) rfl rfl ?_ | refine s_pass rfl rfl ?_
    refine s_y (Y_pk rfl (Gx.tmp gt_) Gx.const) rfl rfl ?_
    first | exact hm _ ⟨rfl, trivial⟩ rfl | exact QL.sub sl_ (hm _ ⟨rfl, trivial⟩ rfl)
  · intro ht3 hm
    iterate 2 refine s_pass rfl rfl ?_
    refine s_y (Y_pk rfl (Gx.tmp gt_) Gx.const) rfl rfl ?_
    exact hm _ ⟨rfl, trivial⟩ rfl
  intro j8
  refine s_y (Y_as) rfl rfl ?_
  refine s_nil ?_
  refine q_then ?_
  refine c_ret ?_
  refine q_retG1 rfl gt_ (L' := _) sl_ (⟨by congr 1; simp only [walkM]; rw [Bool.eq_iff_iff]; (first | (simp only [nrm_]; done) | (simp only [nrm_]; omega)), rfl⟩)
set_option maxRecDepth 100000 in
theorem pwithin_d {n f t : Int} : Does Try.prog 24 [iv n, iv f, iv t] W [] (fun v L => v = .bool (btw n f t) ∧ L = []) := by
  refine enter Try.func24 rfl rfl rfl (Has.start _) ?_
  refine c_seq ?_
  -- snap.go:25 R0
  refine c_reg ?_
  refine s_y (Y_asC) rfl rfl ?_
  refine s_nil ?_
  refine q_then ?_
  refine c_seq ?_
  -- snap.go:25 R1
  refine c_reg ?_
  refine s_y (Y_mv) rfl rfl ?_
  refine s_y (Y_mv) rfl rfl ?_
  refine s_y (Y_geq rfl rfl) rfl rfl ?_
  refine s_y (Y_mv) rfl rfl ?_
  apply s_and 4 [10, 11, 12, 13, 14] 14 (g := 10) rfl rfl
  · intro ht4 hm
    try simp only [nrm_] at ht4
    first | refine s_y (Y_mv) rfl rfl ?_ | refine s_pass rfl rfl ?_
    first | refine s_y (Y_mv) rfl rfl ?_ | refine s_pass rfl rfl ?_
    first | refine s_y (Y_leq rfl rfl) rfl rfl ?_ | refine s_pass rfl rfl ?_
    refine s_y (Y_pk rfl (Gx.tmp gt_) Gx.const) rfl rfl ?_
    first | exact hm _ ⟨rfl, trivial⟩ rfl | exact QL.sub sl_ (hm _ ⟨rfl, trivial⟩ rfl)
  · intro ht4 hm
    iterate 3 refine s_pass rfl rfl ?_
    refine s_y (Y_pk rfl (Gx.tmp gt_) Gx.const) rfl rfl ?_
    exact hm _ ⟨rfl, trivial⟩ rfl
  intro j14
  refine s_y (Y_as) rfl rfl ?_
  refine s_nil ?_
  refine q_then ?_
  refine c_ret ?_
  refine q_retG1 rfl gt_ (L' := _) sl_ (⟨by congr 1; simp only [btw]; rw [Bool.eq_iff_iff]; (first | (simp only [nrm_]; done) | (simp only [nrm_]; omega)), rfl⟩)
end
end Go.Proofs.Ytecodneffflpoaa
