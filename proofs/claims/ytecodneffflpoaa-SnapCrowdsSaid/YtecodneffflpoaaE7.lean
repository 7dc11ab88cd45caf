/- Worlds are checked and written: the program's, walked. -/
import Derived.Test.YtecodneffflpoaaE6
import Derived.Test.YtecodneffflpoaaG6
namespace Go.Ad
def keysOf (l : List Itm) : List (List Int) := (l.filter fun y => !y.isZ).map fun y => [0, y.whr, y.a, y.b]
theorem keys_len (l : List Itm) : ∀ k ∈ keysOf l, k.length = 4 := fun k hk => by
  obtain ⟨y, _, rfl⟩ := List.mem_map.1 hk
  rfl
theorem keys_step {l : List Itm} {i : Nat} {x : Itm} (h : l[i]? = some x) : keysOf (l.take (i + 1)) = keysOf (l.take i) ++ if x.isZ then [] else [[0, x.whr, x.a, x.b]] := by
  obtain ⟨hi, rfl⟩ := List.getElem?_eq_some_iff.1 h
  unfold keysOf
  rw [← List.take_append_getElem hi, List.filter_append, List.map_append, List.filter_cons, List.filter_nil]
  cases (l[i]).isZ <;> rfl
theorem alone_keys {l : List Itm} {x : Itm} (hnz : ∀ y ∈ l, y.isZ = false → y.whr ≠ 0) : aloneM l x = !decide ([0, x.whr, x.a, x.b] ∈ keysOf l) := by
  rw [Bool.eq_iff_iff, Bool.not_eq_true', decide_eq_false_iff_not, aloneM, List.all_eq_true]
  constructor
  · rintro h hm
    obtain ⟨y, hy', he⟩ := List.mem_map.1 hm
    obtain ⟨hy, hz⟩ := List.mem_filter.1 hy'
    simp only [List.cons.injEq, and_true, true_and] at he
    have := h y hy
    rw [Bool.not_eq_true', decide_eq_false_iff_not] at this
    exact this ⟨he.1, he.2.1, he.2.2, hnz y hy (by simpa using hz)⟩
  · intro h y hy
    rw [Bool.not_eq_true', decide_eq_false_iff_not]
    rintro ⟨h1, h2, h3, h4⟩
    refine h (List.mem_map.2 ⟨y, List.mem_filter.2 ⟨hy, ?_⟩, by rw [h1, h2, h3]⟩)
    rw [Bool.not_eq_true', isz_iff, decide_eq_false_iff_not]
    intro h5
    simp only [List.cons.injEq, and_true] at h5
    exact h4 h5.2.1
theorem placed_whr {cells : List UInt8} {x : Itm} (h : placedM cells x = true) : x.whr ≠ 0 := by
  intro h0
  unfold placedM at h
  rw [if_neg (by omega), if_neg (by omega), if_neg (by omega), if_neg (by omega)] at h
  cases h
theorem Ex.fresh {W w w' : World} {b : Nat} (h : Ex [] W w) (k : Ex [b] w w') (hb : W.heap.size ≤ b) : Ex [] W w' :=
  ⟨k.os.trans h.os, k.tape.trans h.tape, k.output.trans h.output, Nat.le_trans h.size k.size, fun i hi _ => by
    rw [k.block i (Nat.lt_of_lt_of_le hi h.size) (by simp; omega)]
    exact h.block i hi (by simp)⟩
theorem Ex.roN {W w : World} {b o b2 : Nat} {c : List Value} (h : Ex [b2] W w) (hr : Ro W b o c) (hne : b ≠ b2) : Ro w b o c := fun j v hv => by
  have h1 := hr j v hv
  rw [h.cell (p := ⟨b, o + j, none⟩) (block_lt_of_cell h1) (by simpa using hne)]; exact h1
theorem Ex.hasN {W w : World} (h : Ex [] W w) : Has W [] [] w := ⟨h, by simp, by simp⟩
end Go.Ad
namespace Go.Proofs.Ytecodneffflpoaa
open Go.RowKit Go.Ad Go.Maps
set_option linter.unusedVariables false
set_option linter.unusedSimpArgs false
theorem keyItem : KeyOk Try.prog 57 4 := ⟨flat57, ⟨_, Try.underlying57⟩, by
  intro e w zs hz
  rcases zs with _ | ⟨a, _ | ⟨b, _ | ⟨c, _ | ⟨d, _ | ⟨x, r⟩⟩⟩⟩⟩ <;> first | (simp at hz; done) | kernel_rfl⟩
section
variable {W : World}
set_option maxRecDepth 100000 in
theorem pplaceI_d {x : Itm} : Does Try.prog 45 [.agg x.cells.toArray] W [] (fun v L => v = .agg (ints [0, x.whr, x.a, x.b]) ∧ L = []) := by
  refine enter Try.func45 rfl rfl rfl (Has.start _) ?_
  refine c_seq ?_
  -- goods.go:193 R0
  refine c_reg ?_
  refine s_n (N_box (cs := x.cells) rfl) rfl rfl (fun b1 _ => ?_)
  refine s_n (N_alloc (z := .agg #[.int .i64 0, .int .i64 0, .int .i64 0, .int .i64 0]) (cs := [.int .i64 0, .int .i64 0, .int .i64 0, .int .i64 0]) zv57 rfl) rfl rfl (fun b2 _ => ?_)
  refine s_nil ?_
  refine q_then ?_
  refine c_seq ?_
  -- goods.go:194 R1
  refine c_reg ?_
  refine s_y (Y_fa 0 rfl Try.underlying57 rfl sz3 rfl) rfl rfl ?_
  refine s_s (S_stC (cs' := ({ x with kind := 0 } : Itm).cells) rfl sz3 (by rfl) (by repeat (first | exact Upd.head | apply Upd.tail)) (by rfl) (by rw [Itm.len]; decide)) rfl ?_
  refine s_nil ?_
  refine q_then ?_
  refine c_seq ?_
  -- goods.go:195 R2
  refine c_reg ?_
  refine s_y ((by first | exact Y_loadAll rfl many57 mm_ (by rfl) | exact Y_loadN rfl many57 mm_ ‹_› ‹_› | exact Y_loadNR rfl many57 hr rfl | exact Y_loadNR rfl many57 hr2 rfl | exact Y_loadNR rfl many57 ‹_› rfl)) rfl rfl ?_
  refine s_s (S_storeA (vs := ({ x with kind := 0 } : Itm).cells) rfl rfl sz57 (by rfl) (by rfl) (by repeat (first | exact Upd.head | apply Upd.tail)) (by rfl)) rfl ?_
  refine s_nil ?_
  refine q_then ?_
  refine c_ret ?_
  refine q_ret1c rfl rfl many57 mm_ (by rfl) (L' := _) sl_ (⟨rfl, rfl⟩)
set_option maxRecDepth 100000 in
theorem pgoods_d {d : Wd} {s : Ws} (hw : WAt W d s) (hok : ∀ x ∈ d.items, Itm.ok x) : Does Try.prog 26 [.agg (wv d s).toArray] W [] (fun v L => v = .bool (goodsM d) ∧ L = []) := by
  have hcap := hw.i.cap
  refine enter Try.func26 rfl rfl rfl (Has.start _) ?_
  refine c_seq ?_
  -- goods.go:199 R0
  refine c_reg ?_
  refine s_n (N_box (cs := wv d s) rfl) rfl rfl (fun b1 _ => ?_)
  refine s_y (Y_asC) rfl rfl ?_
  refine s_nil ?_
  refine q_then ?_
  refine c_seq ?_
  refine c_seq ?_
  -- goods.go:200 R1
  refine c_reg ?_
  refine s_y (Y_fa 6 rfl Try.underlying29 rfl sz23 rfl) rfl rfl ?_
  refine s_y ((by first | exact Y_load rfl one23 mm_ (by rfl) | exact Y_loadR rfl one23 hr rfl rfl | exact Y_loadR rfl one23 hr2 rfl rfl | exact Y_load rfl one23 mm_ (eget he rfl) | exact Y_load rfl one23 mm_ (iget hx rfl) | exact Y_load rfl one23 mm_ (by assumption) | exact Y_loadR rfl one23 (by assumption) rfl (by assumption))) rfl rfl ?_
  refine s_y (Y_len rfl rfl Try.underlying23) rfl rfl ?_
  refine s_y (Y_neq rfl rfl) rfl rfl ?_
  refine s_nil ?_
  refine q_then ?_
  first | refine c_cond' rfl (fun hc1 => ?_) (fun hc1 => ?_) | refine c_cond rfl (fun hc1 => ?_) (fun hc1 => ?_)
  · skip
    try simp only [nrm_] at hc1
    refine c_seq ?_
    -- goods.go:201 R2
    refine c_reg ?_
    refine s_y (Y_asC) rfl rfl ?_
    refine s_nil ?_
    refine q_then ?_
    refine c_ret ?_
    refine q_retG1 rfl gt_ (L' := _) sl_ (⟨by unfold goodsM; rw [decide_eq_false (by omega)]; rfl, rfl⟩)
  · skip
    try simp only [nrm_] at hc1
    refine c_skip ?_
    refine q_then ?_
    refine c_seq ?_
    -- goods.go:203 R3
    have hlen : d.items.length = 40 := by omega
    refine c_reg ?_
    refine s_makeMap rfl rfl (fun W1 bm hH1 hm hbm => ?_)
    have hb1 := (hH1.at' (x := wB b1 (wv d s)) mm_).ro
    have hne : b1 ≠ bm := fun h => by
      have h2 := (hH1.at' (x := wB b1 (wv d s)) mm_)
      obtain ⟨cur, h3, _⟩ := h2
      rw [h] at h3
      rw [h3] at hm
      cases hm
    have hx1 := hH1.ex
    refine s_y (Y_as) rfl rfl ?_
    refine s_nil ?_
    refine q_then ?_
    refine c_seq ?_
    refine c_seq ?_
    -- goods.go:204 R4
    refine c_reg ?_
    refine s_y (Y_fa 6 rfl Try.underlying29 rfl sz23 rfl) rfl rfl ?_
    refine s_y (Y_loadR (i := 6) rfl one23 hb1 rfl rfl) rfl rfl ?_
    refine s_y (Y_len rfl rfl Try.underlying23) rfl rfl ?_
    refine s_y (Y_mvC) rfl rfl ?_
    refine s_nil ?_
    refine q_then ?_
    refine c_block ?_
    refine c_loopW [2, 4, 5, 6, 7, 16, 17, 18, 19, 20, 21, 22, 23, 24, 25, 26, 27, 28, 29, 30, 31, 32, 33, 34, 35, 36, 37, 38, 39, 40, 41, 42] (fun m i w => i + m = 40 ∧ Ex [] W w ∧ Ro w b1 0 (wv d s) ∧ (∃ es clock, w.heap[bm]? = some (.map es clock) ∧ es.toList.map (·.key) = (keysOf (d.items.take i)).map (fun z => .agg (ints z))) ∧ itemsM d.cells d.items (d.items.drop i) i = itemsM d.cells d.items d.items 0 ∧ (∀ y ∈ d.items.take i, y.isZ = false → y.whr ≠ 0)) (fun i => [(16, iv i)]) (40) (0) ?_ (by repeat (first | exact trivial | refine ⟨rfl, ?_⟩)) (fun _ => rfl) ?_
    · intro w hH
      exact ⟨rfl, hx1.trans hH.ex, hH.ex.ro hb1, ⟨#[], 0, by rw [hH.ex.block bm (Array.getElem?_eq_some_iff.1 hm).1 (by simp)]; exact hm, rfl⟩, rfl, by simp⟩
    rintro m i j W2 ⟨hi, hx2, hb2, ⟨es, clock, hm2, hes⟩, hf, hnz⟩ K hK
    have hlt2 := (Array.getElem?_eq_some_iff.1 hm2).1
    refine c_seq ?_
    -- goods.go:204 R5
    refine c_reg ?_
    refine s_y (Y_lss rfl rfl) rfl rfl ?_
    refine s_nil ?_
    refine q_then ?_
    refine c_seq ?_
    first | refine c_cond' rfl (fun hc5 => ?_) (fun hc5 => ?_) | refine c_cond rfl (fun hc5 => ?_) (fun hc5 => ?_)
    · skip
      try simp only [nrm_] at hc5
      refine c_skip ?_
      refine q_then ?_
      refine c_seq ?_
      refine c_block ?_
      refine c_seq ?_
      -- goods.go:204 R6
      obtain ⟨x, hx⟩ := take_lt (show i < d.items.length by omega)
      have hr := (hw.has hx2.hasN).i.at' Itm.len hx
      have hst := items_step (cells := d.cells) hx
      rw [hf] at hst
      have hks := keys_step hx
      refine c_reg ?_
      refine s_y (Y_mv) rfl rfl ?_
      refine s_y (Y_ia rfl rfl Try.underlying23 sz57 rfl (by omega)) rfl rfl ?_
      refine s_y ((by first | exact Y_loadAll rfl many57 mm_ (by rfl) | exact Y_loadN rfl many57 mm_ ‹_› ‹_› | exact Y_loadNR rfl many57 hr rfl | exact Y_loadNR rfl many57 hr2 rfl | exact Y_loadNR rfl many57 ‹_› rfl)) rfl rfl ?_
      refine s_n (N_alloc (z := .agg #[.int .i64 0, .int .i64 0, .int .i64 0, .int .i64 0]) (cs := [.int .i64 0, .int .i64 0, .int .i64 0, .int .i64 0]) zv57 rfl) rfl rfl (fun b5 _ => ?_)
      refine s_y (Y_as) rfl rfl ?_
      refine s_s (S_storeA (vs := x.cells) rfl rfl sz57 (by rfl) (by rfl) (by repeat (first | exact Upd.head | apply Upd.tail)) (by rfl)) rfl ?_
      refine s_nil ?_
      refine q_then ?_
      refine c_seq ?_
      refine c_seq ?_
      -- goods.go:205 R7
      refine c_reg ?_
      refine s_y ((by first | exact Y_loadAll rfl many57 mm_ (by rfl) | exact Y_loadN rfl many57 mm_ ‹_› ‹_› | exact Y_loadNR rfl many57 hr rfl | exact Y_loadNR rfl many57 hr2 rfl | exact Y_loadNR rfl many57 ‹_› rfl)) rfl rfl ?_
      refine s_y (Y_build (cs := [.int .i64 0, .int .i64 0, .int .i64 0, .int .i64 0]) (by repeat (first | exact Gp.nil | apply Gp.const | apply Gp.tmp gt_)) (bld57 _ _ (by first | rfl | (simp; rfl)))) rfl rfl ?_
      refine s_y (Y_eqF (zs := [x.kind, x.whr, x.a, x.b]) (zs' := [0, 0, 0, 0]) rfl rfl flat57 rfl rfl) rfl rfl ?_
      refine s_nil ?_
      refine q_then ?_
      first | refine c_cond' rfl (fun hc7 => ?_) (fun hc7 => ?_) | refine c_cond rfl (fun hc7 => ?_) (fun hc7 => ?_)
      · skip
        try simp only [nrm_] at hc7
        refine c_exit ?_
        repeat with_reducible refine q_te ?_
        refine q_exit ?_
        refine q_then ?_
        -- goods.go:204 R12
        refine c_reg ?_
        refine s_y ((by first | exact Y_add rfl rfl (by omega) | exact Y_addw rfl rfl)) rfl rfl ?_
        refine s_y (Y_mv) rfl rfl ?_
        refine s_nil ?_
        have hz : x.isZ = true := by rw [isz_iff]; exact decide_eq_true hc7
        rw [if_pos hz] at hst hks
        rw [List.append_nil] at hks
        refine hK (m - 1) (i + 1) _ _ _ (by omega) (fun w hH => ⟨by omega, hx2.trans hH.ex, hH.ex.ro hb2, ⟨es, clock, by rw [hH.ex.block bm hlt2 (by simp)]; exact hm2, by rw [hks]; exact hes⟩, hst.symm, fun y hy hyz => ?_⟩) ⟨rfl, trivial⟩ rfl
        obtain ⟨hlt, rfl⟩ := List.getElem?_eq_some_iff.1 hx
        rw [← List.take_append_getElem hlt] at hy
        rcases List.mem_append.1 hy with h | h
        · exact hnz y h hyz
        · obtain rfl := List.mem_singleton.1 h
          rw [hz] at hyz; cases hyz
      · skip
        try simp only [nrm_] at hc7
        refine c_skip ?_
        refine q_then ?_
        refine c_seq ?_
        refine c_seq ?_
        -- goods.go:208 R8
        have hz : ¬ x.isZ = true := by rw [isz_iff, decide_eq_true_eq]; exact hc7
        rw [if_neg hz] at hst hks
        refine c_reg ?_
        refine s_y (Y_mv) rfl rfl ?_
        refine s_y ((by first | exact Y_loadAll rfl many57 mm_ (by rfl) | exact Y_loadN rfl many57 mm_ ‹_› ‹_› | exact Y_loadNR rfl many57 hr rfl | exact Y_loadNR rfl many57 hr2 rfl | exact Y_loadNR rfl many57 ‹_› rfl)) rfl rfl ?_
        refine s_c (En_call (fun _ => rfl) Try.func45 rfl (by kernel_rfl) rfl) (fun w hH => pplaceI_d) rfl rfl ?_
        rintro _ _ ⟨rfl, rfl⟩
        refine s_n (N_look (zs := [0, x.whr, x.a, x.b]) (n := 4) rfl rfl Try.underlying80 keyItem rfl zv3 hm2 hes (keys_len _)) rfl rfl (fun lv _ => ?_)
        refine s_y (Y_mv) rfl rfl ?_
        refine s_y (Y_extract rfl rfl) rfl rfl ?_
        refine s_y (Y_extract rfl rfl) rfl rfl ?_
        refine s_y (Y_as) rfl rfl ?_
        refine s_y (Y_as) rfl rfl ?_
        refine s_nil ?_
        refine q_then ?_
        refine c_seq ?_
        -- goods.go:208 R9
        refine c_reg ?_
        refine s_y (Y_mv) rfl rfl ?_
        refine s_y (Y_mv) rfl rfl ?_
        apply s_or 5 [32, 33, 34, 35, 36, 37] 37 (g := 32) rfl rfl
        · intro ht2 hm
          try simp only [nrm_] at ht2
          first | refine s_y (Y_loadNR rfl many29 hb2 rfl) rfl rfl ?_ | refine s_pass rfl rfl ?_
          first | refine s_y ((by first | exact Y_loadAll rfl many57 mm_ (by rfl) | exact Y_loadN rfl many57 mm_ ‹_› ‹_› | exact Y_loadNR rfl many57 hr rfl | exact Y_loadNR rfl many57 hr2 rfl | exact Y_loadNR rfl many57 ‹_› rfl)) rfl rfl ?_ | refine s_pass rfl rfl ?_
          refine s_c (En_call (fun _ => rfl) Try.func46 rfl (by kernel_rfl) rfl) (fun w hH => pmay_d ((hw.has hx2.hasN).has hH) x (hok x (List.mem_of_getElem? hx))) rfl rfl ?_
          rintro _ _ ⟨rfl, rfl⟩
          first | refine s_y (Y_not rfl) rfl rfl ?_ | refine s_pass rfl rfl ?_
          refine s_y (Y_pk rfl Gx.const (Gx.tmp gt_)) rfl rfl ?_
          first | exact hm _ ⟨rfl, trivial⟩ rfl | exact QL.sub sl_ (hm _ ⟨rfl, trivial⟩ rfl)
        · intro ht2 hm
          iterate 4 refine s_pass rfl rfl ?_
          refine s_y (Y_pk rfl Gx.const (Gx.tmp gt_)) rfl rfl ?_
          exact hm _ ⟨rfl, trivial⟩ rfl
        intro j37
        refine s_nil ?_
        refine q_then ?_
        first | refine c_cond' rfl (fun hc9 => ?_) (fun hc9 => ?_) | refine c_cond rfl (fun hc9 => ?_) (fun hc9 => ?_)
        · skip
          try simp only [nrm_] at hc9
          refine c_seq ?_
          -- goods.go:209 R10
          have hal := alone_keys (x := x) hnz
          have hno : (btw x.kind 1 4 && placedM d.cells x && aloneM (d.items.take i) x) = false := by
            rw [hal]
            rcases hc9 with h | h
            · rw [decide_eq_true h]; simp
            · rcases h with h | h <;> rw [h] <;> simp
          rw [hno] at hst
          refine c_reg ?_
          refine s_y (Y_asC) rfl rfl ?_
          refine s_nil ?_
          refine q_then ?_
          refine c_ret ?_
          refine q_retW (fun w h => hx2.trans h) rfl gt_ ⟨by unfold goodsM; rw [hst]; simp, rfl⟩
        · skip
          try simp only [nrm_] at hc9
          refine c_skip ?_
          refine q_then ?_
          -- goods.go:211 R11
          have hal := alone_keys (x := x) hnz
          have hmem : [0, x.whr, x.a, x.b] ∉ keysOf (d.items.take i) := hc9.1
          rw [decide_eq_false hmem] at hal
          have hyes : (btw x.kind 1 4 && placedM d.cells x && aloneM (d.items.take i) x) = true := by
            rw [hal]
            simp only [nrm_, and_true]
            exact hc9.2
          rw [hyes, if_pos rfl] at hst
          refine c_reg ?_
          refine s_y (Y_mv) rfl rfl ?_
          refine s_y ((by first | exact Y_loadAll rfl many57 mm_ (by rfl) | exact Y_loadN rfl many57 mm_ ‹_› ‹_› | exact Y_loadNR rfl many57 hr rfl | exact Y_loadNR rfl many57 hr2 rfl | exact Y_loadNR rfl many57 ‹_› rfl)) rfl rfl ?_
          refine s_c (En_call (fun _ => rfl) Try.func45 rfl (by kernel_rfl) rfl) (fun w hH => pplaceI_d) rfl rfl ?_
          rintro _ _ ⟨rfl, rfl⟩
          refine s_y (Y_mv) rfl rfl ?_
          refine s_mapUpd (zs := [0, x.whr, x.a, x.b]) (n := 4) (v := iv i) rfl rfl rfl Try.underlying80 keyItem rfl hm2 hes (keys_len _) hmem rfl (fun W3 hm3 hx3 => ?_)
          refine s_nil ?_
          refine q_bn ?_
          refine q_then ?_
          -- goods.go:204 R12
          refine c_reg ?_
          refine s_y ((by first | exact Y_add rfl rfl (by omega) | exact Y_addw rfl rfl)) rfl rfl ?_
          refine s_y (Y_mv) rfl rfl ?_
          refine s_nil ?_
          refine hK (m - 1) (i + 1) _ _ _ (by omega) (fun w hH => ⟨by omega, (hx2.fresh hx3 hbm).trans hH.ex, hH.ex.ro (hx3.roN hb2 hne), ⟨_, _, by rw [hH.ex.block bm (Array.getElem?_eq_some_iff.1 hm3).1 (by simp)]; exact hm3, by rw [hks, List.map_append, ← hes]; simp⟩, hst.symm, fun y hy hyz => ?_⟩) ⟨rfl, trivial⟩ rfl
          obtain ⟨hlt, rfl⟩ := List.getElem?_eq_some_iff.1 hx
          rw [← List.take_append_getElem hlt] at hy
          rcases List.mem_append.1 hy with h | h
          · exact hnz y h hyz
          · obtain rfl := List.mem_singleton.1 h
            simp only [nrm_] at hyes
            exact placed_whr hyes.1.2
    · skip
      try simp only [nrm_] at hc5
      refine c_exit ?_
      repeat with_reducible refine q_te ?_
      refine q_exit ?_
      refine q_then ?_
      refine c_seq ?_
      -- goods.go:213 R13
      refine c_reg ?_
      refine s_y (Y_asC) rfl rfl ?_
      refine s_nil ?_
      refine q_then ?_
      refine c_ret ?_
      refine q_retW (fun w h => hx2.trans h) rfl gt_ ⟨by rw [List.drop_eq_nil_of_le (by omega)] at hf; unfold goodsM; rw [← hf, decide_eq_true hlen]; rfl, rfl⟩
end
end Go.Proofs.Ytecodneffflpoaa
