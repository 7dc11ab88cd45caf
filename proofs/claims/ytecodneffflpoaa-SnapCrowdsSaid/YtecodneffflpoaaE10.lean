/- Bytes are read as a world: the program's, walked. -/
import Derived.Test.YtecodneffflpoaaE9
namespace Go.Ad
def entAt (bs : List UInt8) (k : Nat) : Ent := ⟨byteAt bs (k + 0), byteAt bs (k + 1), byteAt bs (k + 2), byteAt bs (k + 3), byteAt bs (k + 4), byteAt bs (k + 5), byteAt bs (k + 6), byteAt bs (k + 7), byteAt bs (k + 8), byteAt bs (k + 9), byteAt bs (k + 10)⟩
def itmAt (bs : List UInt8) (k : Nat) : Itm := ⟨byteAt bs (k + 0), byteAt bs (k + 1), byteAt bs (k + 2), byteAt bs (k + 3)⟩
def num2 (bs : List UInt8) (k : Nat) : Int := (numM ((bs.drop k).take 2) : Nat)
def goldD (bs : List UInt8) : Nat → Four
  | 0 => ⟨0, 0, 0, 0⟩
  | i + 1 => (goldD bs i).set (num2 bs (14 + 2 * i)) i
/-- A world out of bytes. -/
def decM (bs : List UInt8) : Wd := ⟨IntKind.i64.wrap (numM ((bs.drop 0).take 8) : Nat), (numM ((bs.drop 8).take 4) : Nat), byteAt bs (12 + 0), byteAt bs (12 + 1), (bs.drop 22).take 384, (List.range 32).map (fun i => entAt bs (406 + i * 11)), (List.range 40).map (fun i => itmAt bs (758 + i * 4)), goldD bs 4⟩
theorem fill_set {α : Type} {f : Nat → α} {z : α} {n i : Nat} (h : i < n) : ((List.range i).map f ++ List.replicate (n - i) z).set i (f i) = (List.range (i + 1)).map f ++ List.replicate (n - (i + 1)) z := by
  obtain ⟨q, hq⟩ : ∃ q, n - i = q + 1 := ⟨n - i - 1, by omega⟩
  rw [hq, show n - (i + 1) = q by omega, List.replicate_succ, List.range_succ, List.map_append]
  have hl : ((List.range i).map f).length = i := by simp
  conv => lhs; arg 2; rw [← hl]
  rw [List.set_append_right _ _ (Nat.le_refl _), Nat.sub_self, List.set_cons_zero]
  simp
theorem fill_len {α : Type} {f : Nat → α} {z : α} {n i : Nat} (h : i ≤ n) : ((List.range i).map f ++ List.replicate (n - i) z).length = n := by simp; omega
theorem Has.ne_old {W w : World} {L : List Bk} {x : Bk} {b : Nat} (hH : Has W [] L w) (hx : x ∈ L) (hb : b < W.heap.size) : b ≠ x.b := fun h => by
  rcases (hH.bk x hx).2 with h1 | h1
  · simp at h1
  · omega
theorem SlB.sub {W : World} {b o n c k m : Nat} {bs : List UInt8} (h : SlB W b o n c 1 (bs.map bv)) (hk : k + m ≤ n) : SlB W b (o + k) m (c - k) 1 (((bs.drop k).take m).map bv) := by
  have hl : bs.length = n := by have := h.len; simpa using this
  have hc := h.cap
  have hb := h.big
  refine ⟨by rw [List.length_map, List.length_take, List.length_drop]; omega, by omega, by omega, h.lt, fun j v hj => ?_⟩
  rw [Nat.add_assoc]
  apply h.ro
  rw [List.getElem?_map] at hj ⊢
  have hjl : j < m := by
    cases hq : ((bs.drop k).take m)[j]? with
    | none => rw [hq] at hj; cases hj
    | some x => have := (List.getElem?_eq_some_iff.1 hq).1; rw [List.length_take] at this; omega
  rw [List.getElem?_take_of_lt hjl, List.getElem?_drop] at hj
  exact hj
end Go.Ad
namespace Go.Proofs.Ytecodneffflpoaa
open Go.RowKit Go.Ad Go.Maps
set_option linter.unusedVariables false
set_option linter.unusedSimpArgs false
abbrev wcD (a b c d : Int) (x y z : Value) (g : Four) : List Value := [iv a, iv b, iv c, iv d, x, y, z, iv g.a, iv g.b, iv g.c, iv g.d]
theorem wcD_gold {a b c d : Int} {x y z : Value} {g : Four} {v : Int} {i : Nat} (h : i < 4) : (wcD a b c d x y z g).set (0 + 7 + i * 1) (iv v) = wcD a b c d x y z (g.set v i) := by
  rcases (show i = 0 ∨ i = 1 ∨ i = 2 ∨ i = 3 by omega) with rfl | rfl | rfl | rfl <;> rfl
abbrev pB (b tb j0 n : Nat) : Bk := ⟨b, 71, 1, n, (List.range n).map fun t => Value.pointer (some ⟨tb, j0 + t, none⟩)⟩
abbrev entF (bs : List UInt8) (i : Nat) : List Ent := (List.range i).map (fun i => entAt bs (406 + i * 11)) ++ List.replicate (32 - i) Ent.zero
abbrev itmF (bs : List UInt8) (i : Nat) : List Itm := (List.range i).map (fun i => itmAt bs (758 + i * 4)) ++ List.replicate (40 - i) Itm.zero
theorem entF_put {bs : List UInt8} {i : Nat} (h : i < 32) : putB (ecells (entF bs i)) (0 + i * 11) bs (406 + i * 11) 11 = ecells (entF bs (i + 1)) := by
  rw [entF, entF, ← fill_set (f := fun i => entAt bs (406 + i * 11)) h]
  exact eall (entAt bs (406 + i * 11)) (by rw [fill_len (by omega)]; omega)
theorem itmF_put {bs : List UInt8} {i : Nat} (h : i < 40) : putB (icells (itmF bs i)) (0 + i * 4) bs (758 + i * 4) 4 = icells (itmF bs (i + 1)) := by
  rw [itmF, itmF, ← fill_set (f := fun i => itmAt bs (758 + i * 4)) h]
  exact iall (itmAt bs (758 + i * 4)) (by rw [fill_len (by omega)]; omega)
section
variable {W : World}
set_option maxRecDepth 100000 in
theorem pclone_d {b o n c : Nat} {l : List UInt8} (hs : SlB W b o n c 1 (l.map bv)) (hn : n ≤ 100000) : Does Try.prog 34 [.slice (some ⟨b, o, none⟩) n c] W [] (fun v L => ∃ g cap, n ≤ cap ∧ v = .slice (some ⟨g, 0, none⟩) n cap ∧ L = [cB g cap l]) := by
  refine enter Try.func34 rfl rfl rfl (Has.start _) ?_
  refine c_seq ?_
  -- slices.go:355 R0
  refine c_reg ?_
  refine s_y (Y_asC) rfl rfl ?_
  refine s_nil ?_
  refine q_then ?_
  refine c_seq ?_
  refine c_seq ?_
  -- slices.go:357 R1
  refine c_reg ?_
  refine s_y (Y_mv) rfl rfl ?_
  refine s_y (Y_eqN rfl rfl Try.underlying25) rfl rfl ?_
  refine s_nil ?_
  refine q_then ?_
  refine c_F rfl (rfl) ?_
  refine c_skip ?_
  refine q_then ?_
  refine c_seq ?_
  -- slices.go:362 R3
  refine c_reg ?_
  refine s_n (N_bs0 rfl Try.underlying25 sz5) rfl rfl (fun b5 _ => ?_)
  refine s_y (Y_mv) rfl rfl ?_
  refine s_n (N_appE (news := l.map bv) rfl rfl Try.underlying25 inf5 rfl (by omega) (by repeat (first | exact Sel.head | apply Sel.tail)) hs.src hs.len (bvs_one _) (by omega) (by omega)) rfl rfl (fun ⟨g7, cp7⟩ hc7 => ?_)
  refine s_y (Y_as) rfl rfl ?_
  refine s_nil ?_
  refine q_then ?_
  refine c_ret ?_
  refine q_retG1 rfl gt_ (L' := _) sl_ (⟨g7, cp7, hc7, rfl, rfl⟩)
/-- What Decode gives. -/
def DecP (bs : List UInt8) (v : Value) (L : List Bk) : Prop := (∃ e : Int, e ≠ 0 ∧ v = .tuple #[.agg wz.toArray, iv e] ∧ L = [] ∧ e = (if bs.length < 918 then 7 else if 918 < bs.length then 8 else checkM (decM bs))) ∨ (bs.length = 918 ∧ checkM (decM bs) = 0 ∧ ∃ cb cc eb ec ib ic, v = .tuple #[.agg (wv (decM bs) ⟨cb, 0, cc, eb, 0, ec, ib, 0, ic⟩).toArray, iv 0] ∧ L = [cB cb cc (decM bs).cells, eB eb ec (decM bs).ents, iB ib ic (decM bs).items] ∧ (decM bs).cells.length ≤ cc ∧ (decM bs).ents.length ≤ ec ∧ (decM bs).items.length ≤ ic)
theorem dec_ok (bs : List UInt8) : ∀ x ∈ (decM bs).items, Itm.ok x := fun x hx => by
  obtain ⟨i, _, rfl⟩ := List.mem_map.1 hx
  have := byteAt_rng bs (758 + i * 4 + 3)
  exact ⟨by show _ ≤ byteAt bs (758 + i * 4 + 3); omega, by show byteAt bs (758 + i * 4 + 3) ≤ _; omega⟩
set_option maxRecDepth 100000 in
set_option maxHeartbeats 3200000 in
theorem pdec_d {bb o n c : Nat} {bs : List UInt8} (hs : SlB W bb o n c 1 (bs.map bv)) (hn : n ≤ 100000000) : Does Try.prog 11 [.slice (some ⟨bb, o, none⟩) n c] W [] (DecP bs) := by
  obtain rfl : n = bs.length := by have := hs.len; simpa using this.symm
  have hcap := hs.cap
  have hbig := hs.big
  simp only [maxLen] at hbig
  refine enter Try.func11 rfl rfl rfl (Has.start _) ?_
  refine c_seq ?_
  -- snap.go:140 R0
  refine c_reg ?_
  refine s_n (N_alloc (z := .agg #[.int .i64 0, .int .i64 0, .int .i64 0, .int .i64 0, .slice none 0 0, .slice none 0 0, .slice none 0 0, .int .i64 0, .int .i64 0, .int .i64 0, .int .i64 0]) (cs := [.int .i64 0, .int .i64 0, .int .i64 0, .int .i64 0, .slice none 0 0, .slice none 0 0, .slice none 0 0, .int .i64 0, .int .i64 0, .int .i64 0, .int .i64 0]) zv29 rfl) rfl rfl (fun b2 _ => ?_)
  refine s_y (Y_asC) rfl rfl ?_
  refine s_nil ?_
  refine q_then ?_
  refine c_seq ?_
  refine c_block ?_
  refine c_seq ?_
  -- snap.go:142 R1
  refine c_reg ?_
  refine s_y (Y_mv) rfl rfl ?_
  refine s_y (Y_len rfl rfl Try.underlying25) rfl rfl ?_
  refine s_y (Y_lss rfl rfl) rfl rfl ?_
  refine s_y (Y_as) rfl rfl ?_
  refine s_nil ?_
  refine q_then ?_
  first | refine c_cond' rfl (fun hc1 => ?_) (fun hc1 => ?_) | refine c_cond rfl (fun hc1 => ?_) (fun hc1 => ?_)
  · skip
    try simp only [nrm_] at hc1
    refine c_seq ?_
    -- snap.go:143 R2
    refine c_reg ?_
    refine s_y (Y_build (cs := [.int .i64 0, .int .i64 0, .int .i64 0, .int .i64 0, .slice none 0 0, .slice none 0 0, .slice none 0 0, .int .i64 0, .int .i64 0, .int .i64 0, .int .i64 0]) (by repeat (first | exact Gp.nil | apply Gp.const | apply Gp.tmp gt_)) (bld29 _ _ (by kernel_rfl))) rfl rfl ?_
    refine s_s ((by first | exact S_storeA rfl rfl sz29 (by first | rfl | assumption) (by first | rfl | assumption) (by repeat (first | exact Upd.head | apply Upd.tail)) (by first | rfl | assumption) | exact S_storeN rfl rfl sz29 (by rfl) (by first | rfl | assumption) (by repeat (first | exact Upd.head | apply Upd.tail)) (by simp only [setAll, List.set_cons_zero, List.set_cons_succ, Nat.zero_add, Nat.reduceAdd]; rfl) (by first | rfl | assumption))) rfl ?_
    refine s_y (Y_asC) rfl rfl ?_
    refine s_nil ?_
    refine q_then ?_
    refine c_ret ?_
    refine q_ret2c rfl rfl many29 rfl mm_ (by rfl) (L' := []) sl_ (.inl ⟨7, by decide, rfl, rfl, by rw [if_pos (by omega)]⟩)
  · skip
    try simp only [nrm_] at hc1
    refine c_seq ?_
    -- snap.go:144 R3
    refine c_reg ?_
    refine s_y (Y_mv) rfl rfl ?_
    refine s_y (Y_len rfl rfl Try.underlying25) rfl rfl ?_
    refine s_y (Y_gtr rfl rfl) rfl rfl ?_
    refine s_y (Y_as) rfl rfl ?_
    refine s_nil ?_
    refine q_then ?_
    first | refine c_cond' rfl (fun hc3 => ?_) (fun hc3 => ?_) | refine c_cond rfl (fun hc3 => ?_) (fun hc3 => ?_)
    · skip
      try simp only [nrm_] at hc3
      refine c_seq ?_
      -- snap.go:145 R4
      refine c_reg ?_
      refine s_y (Y_build (cs := [.int .i64 0, .int .i64 0, .int .i64 0, .int .i64 0, .slice none 0 0, .slice none 0 0, .slice none 0 0, .int .i64 0, .int .i64 0, .int .i64 0, .int .i64 0]) (by repeat (first | exact Gp.nil | apply Gp.const | apply Gp.tmp gt_)) (bld29 _ _ (by kernel_rfl))) rfl rfl ?_
      refine s_s ((by first | exact S_storeA rfl rfl sz29 (by first | rfl | assumption) (by first | rfl | assumption) (by repeat (first | exact Upd.head | apply Upd.tail)) (by first | rfl | assumption) | exact S_storeN rfl rfl sz29 (by rfl) (by first | rfl | assumption) (by repeat (first | exact Upd.head | apply Upd.tail)) (by simp only [setAll, List.set_cons_zero, List.set_cons_succ, Nat.zero_add, Nat.reduceAdd]; rfl) (by first | rfl | assumption))) rfl ?_
      refine s_y (Y_asC) rfl rfl ?_
      refine s_nil ?_
      refine q_then ?_
      refine c_ret ?_
      refine q_ret2c rfl rfl many29 rfl mm_ (by rfl) (L' := []) sl_ (.inl ⟨8, by decide, rfl, rfl, by rw [if_neg (by omega), if_pos (by omega)]⟩)
    · skip
      try simp only [nrm_] at hc3
      refine c_skip ?_
      refine q_bn ?_
      refine q_then ?_
      refine c_seq ?_
      -- snap.go:147 R5
      have hl : bs.length = 918 := by omega
      rw [hl]
      rw [hl] at hs
      refine c_reg ?_
      refine s_y (Y_mv) rfl rfl ?_
      refine s_y (Y_build (cs := [_]) (by repeat (first | exact Gp.nil | apply Gp.const | apply Gp.tmp gt_)) (bld68 _ _ (by first | rfl | (simp; rfl)))) rfl rfl ?_
      refine s_n (N_box (cs := [.slice (some ⟨bb, o, none⟩) 918 c]) rfl) rfl rfl (fun b24 _ => ?_)
      refine s_y (Y_as) rfl rfl ?_
      refine s_nil ?_
      refine q_then ?_
      refine c_seq ?_
      -- snap.go:148 R6
      refine c_reg ?_
      refine s_y (Y_mv) rfl rfl ?_
      refine s_cm [rB b24 (.slice (some ⟨bb, o, none⟩) 918 c)] (En_call (fun _ => rfl) Try.func32 rfl (by kernel_rfl) rfl) (by repeat (first | exact Sels.nil | apply Sels.cons (by repeat (first | exact Sel.head | apply Sel.tail)))) (fun w hH => prnum_d (k := 0) (m := 8) (hs.has hH) ⟨_, rfl, fun _ => rfl⟩ (by decide) (by omega) (hH.at' (x := rB b24 (.slice (some ⟨bb, o, none⟩) 918 c)) mm_) (hH.ne_old (x := rB b24 (.slice (some ⟨bb, o, none⟩) 918 c)) mm_ hs.lt)) rfl rfl ?_
      rintro _ _ ⟨rfl, v1, hv1, rfl⟩
      have hb8 := numM_lt ((bs.drop 8).take 4)
      rw [show ((bs.drop 8).take 4).length = 4 by rw [List.length_take, List.length_drop]; omega] at hb8
      rw [Nat.zero_add] at hv1
      refine s_y (Y_convw rfl Try.underlying54 Try.underlying2) rfl rfl ?_
      refine s_y (Y_mv) rfl rfl ?_
      refine s_cm [rB b24 v1] (En_call (fun _ => rfl) Try.func32 rfl (by kernel_rfl) rfl) (by repeat (first | exact Sels.nil | apply Sels.cons (by repeat (first | exact Sel.head | apply Sel.tail)))) (fun w hH => prnum_d (k := 8) (m := 4) (hs.has hH) hv1 (by decide) (by omega) (hH.at' (x := rB b24 v1) mm_) (hH.ne_old (x := rB b24 v1) mm_ hs.lt)) rfl rfl ?_
      rintro _ _ ⟨rfl, v2, hv2, rfl⟩
      refine s_y (Y_conv rfl Try.underlying54 Try.underlying3 (i64_id (by omega))) rfl rfl ?_
      refine s_y (Y_build (cs := wcD (decM bs).seed (decM bs).frame 0 0 (.slice none 0 0) (.slice none 0 0) (.slice none 0 0) ⟨0, 0, 0, 0⟩) (by repeat (first | exact Gp.nil | apply Gp.const | apply Gp.tmp gt_)) (bld29 _ _ (by kernel_rfl))) rfl rfl ?_
      refine s_n (N_alloc (z := .agg #[.int .i64 0, .int .i64 0, .int .i64 0, .int .i64 0, .slice none 0 0, .slice none 0 0, .slice none 0 0, .int .i64 0, .int .i64 0, .int .i64 0, .int .i64 0]) (cs := [.int .i64 0, .int .i64 0, .int .i64 0, .int .i64 0, .slice none 0 0, .slice none 0 0, .slice none 0 0, .int .i64 0, .int .i64 0, .int .i64 0, .int .i64 0]) zv29 rfl) rfl rfl (fun b5 _ => ?_)
      refine s_s (S_storeA (vs := wcD (decM bs).seed (decM bs).frame 0 0 (.slice none 0 0) (.slice none 0 0) (.slice none 0 0) ⟨0, 0, 0, 0⟩) rfl rfl sz29 (by rfl) (by rfl) (by repeat (first | exact Upd.head | apply Upd.tail)) (by rfl)) rfl ?_
      refine s_nil ?_
      refine QL.pick (L' := [wB b5 (wcD (decM bs).seed (decM bs).frame 0 0 (.slice none 0 0) (.slice none 0 0) (.slice none 0 0) ⟨0, 0, 0, 0⟩), rB b24 v2, wB b2 wz]) (by repeat (first | exact Sels.nil | apply Sels.cons (by repeat (first | exact Sel.head | apply Sel.tail)))) ?_
      refine q_then ?_
      refine c_seq ?_
      -- snap.go:149 R7
      refine c_reg ?_
      refine s_y (Y_mv) rfl rfl ?_
      refine s_y (Y_fa 2 rfl Try.underlying29 rfl sz3 rfl) rfl rfl ?_
      refine s_y (Y_fa 3 rfl Try.underlying29 rfl sz3 rfl) rfl rfl ?_
      refine s_n (N_bs (xs := [.tmp 33, .tmp 34]) (by repeat (first | exact Gv.nil | apply Gv.const | apply Gv.tmp gt_)) rfl Try.underlying93 inf71 rfl (by omega) (by omega) (by first | simp [Value.oneCell'] | (intro v hv; simp at hv; subst hv; rfl))) rfl rfl (fun b35 _ => ?_)
      refine s_cm [rB b24 v2, wB b5 (wcD (decM bs).seed (decM bs).frame 0 0 (.slice none 0 0) (.slice none 0 0) (.slice none 0 0) ⟨0, 0, 0, 0⟩)] (En_call (fun _ => rfl) Try.func33 rfl (by kernel_rfl) rfl) (by repeat (first | exact Sels.nil | apply Sels.cons (by repeat (first | exact Sel.head | apply Sel.tail)))) (fun w hH => prsmall_d (k := 12) (m := 2) (j0 := 2) (y := wB b5 (wcD (decM bs).seed (decM bs).frame 0 0 (.slice none 0 0) (.slice none 0 0) (.slice none 0 0) ⟨0, 0, 0, 0⟩)) (hs.has hH) hv2 (by decide) (by omega) (hH.at' (x := rB b24 v2) mm_) (hH.at' mm_) (hH.ne_old (x := rB b24 v2) mm_ hs.lt) (hH.nodup2 (x := rB b24 v2) (y := wB b5 (wcD (decM bs).seed (decM bs).frame 0 0 (.slice none 0 0) (.slice none 0 0) (.slice none 0 0) ⟨0, 0, 0, 0⟩)) (by repeat (first | exact Sels.nil | apply Sels.cons (by repeat (first | exact Sel.head | apply Sel.tail))))) (hH.ne_old (x := wB b5 (wcD (decM bs).seed (decM bs).frame 0 0 (.slice none 0 0) (.slice none 0 0) (.slice none 0 0) ⟨0, 0, 0, 0⟩)) mm_ hs.lt) (hH.at' (x := ⟨b35, 71, 1, 2, [.pointer (some ⟨b5, 2, none⟩), .pointer (some ⟨b5, 3, none⟩)]⟩) mm_).ro ⟨hH.nodup2 (x := ⟨b35, 71, 1, 2, [.pointer (some ⟨b5, 2, none⟩), .pointer (some ⟨b5, 3, none⟩)]⟩) (y := rB b24 v2) (by repeat (first | exact Sels.nil | apply Sels.cons (by repeat (first | exact Sel.head | apply Sel.tail)))), hH.nodup2 (x := ⟨b35, 71, 1, 2, [.pointer (some ⟨b5, 2, none⟩), .pointer (some ⟨b5, 3, none⟩)]⟩) (y := wB b5 (wcD (decM bs).seed (decM bs).frame 0 0 (.slice none 0 0) (.slice none 0 0) (.slice none 0 0) ⟨0, 0, 0, 0⟩)) (by repeat (first | exact Sels.nil | apply Sels.cons (by repeat (first | exact Sel.head | apply Sel.tail))))⟩ (by simp only [List.length_cons, List.length_nil]; omega)) rfl rfl ?_
      rintro _ _ ⟨rfl, v3, hv3, rfl⟩
      refine s_nil ?_
      refine QL.pick (L' := [wB b5 (wcD (decM bs).seed (decM bs).frame (decM bs).floor (decM bs).state (.slice none 0 0) (.slice none 0 0) (.slice none 0 0) ⟨0, 0, 0, 0⟩), rB b24 v3, wB b2 wz]) (by repeat (first | exact Sels.nil | apply Sels.cons (by repeat (first | exact Sel.head | apply Sel.tail)))) ?_
      refine q_then ?_
      refine c_seq ?_
      refine c_seq ?_
      -- snap.go:150 R8
      refine c_reg ?_
      refine s_y (Y_mvC) rfl rfl ?_
      refine s_nil ?_
      refine q_then ?_
      refine c_block ?_
      refine c_loop [6, 37, 38, 39, 40, 41, 42, 43, 44, 45, 46] (fun m (y : Nat × Value) => y.1 + m = 4 ∧ RdV bb o 918 c (14 + 2 * y.1) y.2) (fun y => [(37, iv y.1)]) (fun y => [wB b5 (wcD (decM bs).seed (decM bs).frame (decM bs).floor (decM bs).state (.slice none 0 0) (.slice none 0 0) (.slice none 0 0) (goldD bs y.1)), rB b24 y.2, wB b2 wz]) (4) ((0, v3)) (⟨rfl, hv3⟩) (by repeat (first | exact trivial | refine ⟨rfl, ?_⟩)) (fun _ h => h.sub sl_) (fun _ => rfl) ?_
      rintro m ⟨i, v4⟩ j ⟨hi, hv4⟩ K hK
      simp only at hi hv4 ⊢
      refine c_seq ?_
      -- snap.go:150 R9
      refine c_reg ?_
      refine s_y (Y_lss rfl rfl) rfl rfl ?_
      refine s_nil ?_
      refine q_then ?_
      refine c_seq ?_
      first | refine c_cond' rfl (fun hc9 => ?_) (fun hc9 => ?_) | refine c_cond rfl (fun hc9 => ?_) (fun hc9 => ?_)
      · skip
        try simp only [nrm_] at hc9
        refine c_skip ?_
        refine q_then ?_
        refine c_seq ?_
        refine c_block ?_
        refine c_seq ?_
        -- snap.go:150 R10
        refine c_reg ?_
        refine s_y (Y_mv) rfl rfl ?_
        refine s_y (Y_as) rfl rfl ?_
        refine s_nil ?_
        refine q_then ?_
        -- snap.go:151 R11
        have hb2 := numM_lt ((bs.drop (14 + 2 * i)).take 2)
        rw [show ((bs.drop (14 + 2 * i)).take 2).length = 2 by rw [List.length_take, List.length_drop]; omega] at hb2
        refine c_reg ?_
        refine s_y (Y_mv) rfl rfl ?_
        refine s_y (Y_mv) rfl rfl ?_
        refine s_cm [rB b24 v4] (En_call (fun _ => rfl) Try.func32 rfl (by kernel_rfl) rfl) (by repeat (first | exact Sels.nil | apply Sels.cons (by repeat (first | exact Sel.head | apply Sel.tail)))) (fun w hH => prnum_d (k := 14 + 2 * i) (m := 2) (hs.has hH) hv4 (by decide) (by omega) (hH.at' (x := rB b24 v4) mm_) (hH.ne_old (x := rB b24 v4) mm_ hs.lt)) rfl rfl ?_
        rintro _ _ ⟨rfl, v5, hv5, rfl⟩
        refine s_y (Y_conv rfl Try.underlying54 Try.underlying3 (i64_id (by omega))) rfl rfl ?_
        refine s_y (Y_fa 7 rfl Try.underlying29 rfl sz27 rfl) rfl rfl ?_
        refine s_y (Y_iaA rfl rfl Try.underlying27 sz3 rfl (by omega)) rfl rfl ?_
        refine s_s (S_st (cs' := wcD (decM bs).seed (decM bs).frame (decM bs).floor (decM bs).state (.slice none 0 0) (.slice none 0 0) (.slice none 0 0) (goldD bs (i + 1))) rfl gt_ sz3 (by rfl) (by repeat (first | exact Upd.head | apply Upd.tail)) (wcD_gold (by omega)) (by simp only [List.length_cons, List.length_nil]; omega)) rfl ?_
        refine s_nil ?_
        refine q_bn ?_
        refine q_then ?_
        -- snap.go:150 R12
        refine c_reg ?_
        refine s_y ((by first | exact Y_add rfl rfl (by omega) | exact Y_addw rfl rfl)) rfl rfl ?_
        refine s_y (Y_mv) rfl rfl ?_
        refine s_nil ?_
        refine hK (m - 1) (i + 1, v5) _ _ (by omega) ⟨by simp only; omega, hv5⟩ ⟨rfl, trivial⟩ rfl (fun _ h => h.pick (by repeat (first | exact Sels.nil | apply Sels.cons (by repeat (first | exact Sel.head | apply Sel.tail)))))
      · skip
        try simp only [nrm_] at hc9
        refine c_exit ?_
        repeat with_reducible refine q_te ?_
        refine q_exit ?_
        refine q_then ?_
        refine c_seq ?_
        -- snap.go:153 R13
        obtain rfl : i = 4 := by omega
        obtain ⟨a4, rfl, ha4⟩ := hv4
        obtain rfl := ha4 (by omega)
        refine c_reg ?_
        refine s_y (Y_mv) rfl rfl ?_
        refine s_y ((by first | exact Y_nil rfl | exact Y_nilF rfl | exact Y_nilM rfl (by assumption) | exact Y_nilM rfl (by intro w k; kernel_rfl))) rfl rfl ?_
        refine s_y (Y_fa 0 rfl Try.underlying68 rfl sz25 rfl) rfl rfl ?_
        refine s_y ((by first | exact Y_load rfl one25 mm_ (by rfl) | exact Y_loadR rfl one25 hr rfl rfl | exact Y_loadR rfl one25 hr2 rfl rfl | exact Y_load rfl one25 mm_ (eget he rfl) | exact Y_load rfl one25 mm_ (iget hx rfl) | exact Y_load rfl one25 mm_ (by assumption) | exact Y_loadR rfl one25 (by assumption) rfl (by assumption))) rfl rfl ?_
        refine s_y (Y_slHi (h := 384) rfl rfl Try.underlying25 sz5 rfl (by omega)) rfl rfl ?_
        refine s_c (En_call (fun _ => rfl) Try.func34 rfl (by kernel_rfl) rfl) (fun w hH => pclone_d (b := bb) (o := o + 22) (c := c - 22) ((hs.sub (k := 22) (m := 384) (by omega)).has hH) (by omega)) rfl rfl ?_
        rintro _ _ ⟨cg, ccap, hcc, rfl, rfl⟩
        refine s_y (Y_fa 4 rfl Try.underlying29 rfl sz25 rfl) rfl rfl ?_
        refine s_s (S_st rfl gt_ sz25 (by rfl) (by repeat (first | exact Upd.head | apply Upd.tail)) (by first | (simp only [Nat.zero_add, Nat.reduceAdd, List.set_cons_succ, List.set_cons_zero]; rfl) | rfl) (by first | (simp; done) | omega)) rfl ?_
        refine s_nil ?_
        refine QL.pick (L' := [wB b5 (wcD (decM bs).seed (decM bs).frame (decM bs).floor (decM bs).state (.slice (some ⟨cg, 0, none⟩) 384 ccap) (.slice none 0 0) (.slice none 0 0) (goldD bs 4)), rB b24 (.slice (some ⟨bb, o + 22, none⟩) (918 - 22) (c - 22)), cB cg ccap (decM bs).cells, wB b2 wz]) (by repeat (first | exact Sels.nil | apply Sels.cons (by repeat (first | exact Sel.head | apply Sel.tail)))) ?_
        refine q_then ?_
        refine c_seq ?_
        -- snap.go:154 R14
        refine c_reg ?_
        refine s_y (Y_mv) rfl rfl ?_
        refine s_y (Y_mv) rfl rfl ?_
        refine s_y ((by first | exact Y_nil rfl | exact Y_nilF rfl | exact Y_nilM rfl (by assumption) | exact Y_nilM rfl (by intro w k; kernel_rfl))) rfl rfl ?_
        refine s_y (Y_fa 0 rfl Try.underlying68 rfl sz25 rfl) rfl rfl ?_
        refine s_y ((by first | exact Y_load rfl one25 mm_ (by rfl) | exact Y_loadR rfl one25 hr rfl rfl | exact Y_loadR rfl one25 hr2 rfl rfl | exact Y_load rfl one25 mm_ (eget he rfl) | exact Y_load rfl one25 mm_ (iget hx rfl) | exact Y_load rfl one25 mm_ (by assumption) | exact Y_loadR rfl one25 (by assumption) rfl (by assumption))) rfl rfl ?_
        refine s_y (Y_slLo (l := 384) rfl rfl Try.underlying25 sz5 rfl (by omega)) rfl rfl ?_
        refine s_y ((by first | exact Y_nil rfl | exact Y_nilF rfl | exact Y_nilM rfl (by assumption) | exact Y_nilM rfl (by intro w k; kernel_rfl))) rfl rfl ?_
        refine s_y (Y_fa 0 rfl Try.underlying68 rfl sz25 rfl) rfl rfl ?_
        refine s_s (S_st rfl gt_ sz25 (by rfl) (by repeat (first | exact Upd.head | apply Upd.tail)) (by first | (simp only [Nat.zero_add, Nat.reduceAdd, List.set_cons_succ, List.set_cons_zero]; rfl) | rfl) (by first | (simp; done) | omega)) rfl ?_
        refine s_nil ?_
        have hv6 : RdV bb o 918 c 406 (.slice (slAt (some ⟨bb, o + 22, none⟩) (c - 22) 384 1) (918 - 22 - 384) (c - 22 - 384)) := RdV.next (k := 22) (m := 384) (by omega) (by omega)
        obtain ⟨v6, hv6e⟩ : ∃ q_, Value.slice (slAt (some ⟨bb, o + 22, none⟩) (c - 22) 384 1) (918 - 22 - 384) (c - 22 - 384) = q_ := ⟨_, rfl⟩
        rw [hv6e] at hv6 ⊢
        refine q_then ?_
        refine c_seq ?_
        -- snap.go:155 R15
        refine c_reg ?_
        refine s_n (N_makeU (n := 32) (u0 := .int .i64 0) rfl rfl Try.underlying26 inf48 rfl (by omega) rfl (by omega) (by omega)) rfl rfl (fun b62 _ => ?_)
        refine s_y (Y_fa 5 rfl Try.underlying29 rfl sz26 rfl) rfl rfl ?_
        refine s_s (S_st rfl gt_ sz26 (by rfl) (by repeat (first | exact Upd.head | apply Upd.tail)) (by first | (simp only [Nat.zero_add, Nat.reduceAdd, List.set_cons_succ, List.set_cons_zero]; rfl) | rfl) (by first | (simp; done) | omega)) rfl ?_
        refine s_nil ?_
        refine QL.pick (L' := [wB b5 (wcD (decM bs).seed (decM bs).frame (decM bs).floor (decM bs).state (.slice (some ⟨cg, 0, none⟩) 384 ccap) (.slice (some ⟨b62, 0, none⟩) 32 32) (.slice none 0 0) (goldD bs 4)), ⟨b62, 48, 11, 32, List.replicate (32 * 11) (iv 0)⟩, rB b24 v6, cB cg ccap (decM bs).cells, wB b2 wz]) (by repeat (first | exact Sels.nil | apply Sels.cons (by repeat (first | exact Sel.head | apply Sel.tail)))) ?_
        rw [← ezero b62 32, show List.replicate 32 Ent.zero = entF bs 0 by simp [entF]]
        refine q_then ?_
        refine c_seq ?_
        refine c_seq ?_
        -- snap.go:156 R16
        refine c_reg ?_
        refine s_y (Y_fa 5 rfl Try.underlying29 rfl sz26 rfl) rfl rfl ?_
        refine s_y ((by first | exact Y_load rfl one26 mm_ (by rfl) | exact Y_loadR rfl one26 hr rfl rfl | exact Y_loadR rfl one26 hr2 rfl rfl | exact Y_load rfl one26 mm_ (eget he rfl) | exact Y_load rfl one26 mm_ (iget hx rfl) | exact Y_load rfl one26 mm_ (by assumption) | exact Y_loadR rfl one26 (by assumption) rfl (by assumption))) rfl rfl ?_
        refine s_y (Y_len rfl rfl Try.underlying26) rfl rfl ?_
        refine s_y (Y_mvC) rfl rfl ?_
        refine s_nil ?_
        refine q_then ?_
        refine c_block ?_
        refine c_loop [7, 8, 67, 68, 69, 70, 71, 72, 73, 74, 75, 76, 77, 78, 79, 80, 81, 82, 83, 84, 85, 86, 87, 88, 89, 90, 91, 92, 93, 94, 95, 96, 97, 98, 99, 100, 101, 102, 103, 104, 105, 106, 107, 108, 109, 110] (fun m (y : Nat × Value) => y.1 + m = 32 ∧ RdV bb o 918 c (406 + y.1 * 11) y.2) (fun y => [(67, iv y.1)]) (fun y => [wB b5 (wcD (decM bs).seed (decM bs).frame (decM bs).floor (decM bs).state (.slice (some ⟨cg, 0, none⟩) 384 ccap) (.slice (some ⟨b62, 0, none⟩) 32 32) (.slice none 0 0) (goldD bs 4)), eB b62 32 (entF bs y.1), rB b24 y.2, cB cg ccap (decM bs).cells, wB b2 wz]) (32) ((0, v6)) (⟨rfl, hv6⟩) (by repeat (first | exact trivial | refine ⟨rfl, ?_⟩)) (fun _ h => h.sub sl_) (fun _ => rfl) ?_
        rintro m ⟨i, v7⟩ j ⟨hi, hv7⟩ K hK
        simp only at hi hv7 ⊢
        refine c_seq ?_
        -- snap.go:156 R17
        refine c_reg ?_
        refine s_y (Y_lss rfl rfl) rfl rfl ?_
        refine s_nil ?_
        refine q_then ?_
        refine c_seq ?_
        first | refine c_cond' rfl (fun hc17 => ?_) (fun hc17 => ?_) | refine c_cond rfl (fun hc17 => ?_) (fun hc17 => ?_)
        · skip
          try simp only [nrm_] at hc17
          refine c_skip ?_
          refine q_then ?_
          refine c_seq ?_
          refine c_block ?_
          refine c_seq ?_
          -- snap.go:156 R18
          refine c_reg ?_
          refine s_y (Y_mv) rfl rfl ?_
          refine s_y (Y_as) rfl rfl ?_
          refine s_nil ?_
          refine q_then ?_
          refine c_seq ?_
          -- snap.go:157 R19
          refine c_reg ?_
          refine s_y (Y_fa 5 rfl Try.underlying29 rfl sz26 rfl) rfl rfl ?_
          refine s_y ((by first | exact Y_load rfl one26 mm_ (by rfl) | exact Y_loadR rfl one26 hr rfl rfl | exact Y_loadR rfl one26 hr2 rfl rfl | exact Y_load rfl one26 mm_ (eget he rfl) | exact Y_load rfl one26 mm_ (iget hx rfl) | exact Y_load rfl one26 mm_ (by assumption) | exact Y_loadR rfl one26 (by assumption) rfl (by assumption))) rfl rfl ?_
          refine s_y (Y_mv) rfl rfl ?_
          refine s_y (Y_ia rfl rfl Try.underlying26 sz48 rfl (by omega)) rfl rfl ?_
          refine s_y (Y_as) rfl rfl ?_
          refine s_nil ?_
          refine q_then ?_
          -- snap.go:158 R20
          have hfl : (entF bs i).length = 32 := fill_len (by omega)
          refine c_rordS (L0 := []) sl_ [35] [(0, true), (1, true), (2, true), (3, true), (4, true), (5, true), (6, true), (7, true), (8, true), (9, true), (10, true), (11, true), (12, true), (13, true), (14, true), (15, true), (16, true), (17, true), (18, true), (19, true), (20, true), (21, true), (22, true), (23, true), (24, true), (25, true), (26, true), (27, true), (28, true), (29, true), (30, true), (31, true), (32, true), (33, true), (34, false), (35, false)] (by kernel_rfl) (by kernel_rfl) (by kernel_rfl) (by kernel_rfl) rfl (by intro c a d v w h; cases d <;> exact h) rfl ?_
          simp only [mkOrd, List.filterMap_cons, List.filterMap_nil, List.getElem?_toArray, List.getElem?_cons_zero, List.getElem?_cons_succ, Option.map_some]
          refine o_y (Y_mv) rfl rfl ?_
          refine o_y (Y_mv) rfl rfl ?_
          refine o_y ((by first | exact Y_nil rfl | exact Y_nilF rfl | exact Y_nilM rfl (by assumption) | exact Y_nilM rfl (by intro w k; kernel_rfl))) rfl rfl ?_
          refine o_y (Y_fa 0 rfl Try.underlying48 rfl sz3 rfl) rfl rfl ?_
          refine o_y (Y_mv) rfl rfl ?_
          refine o_y ((by first | exact Y_nil rfl | exact Y_nilF rfl | exact Y_nilM rfl (by assumption) | exact Y_nilM rfl (by intro w k; kernel_rfl))) rfl rfl ?_
          refine o_y (Y_fa 1 rfl Try.underlying48 rfl sz3 rfl) rfl rfl ?_
          refine o_y (Y_mv) rfl rfl ?_
          refine o_y ((by first | exact Y_nil rfl | exact Y_nilF rfl | exact Y_nilM rfl (by assumption) | exact Y_nilM rfl (by intro w k; kernel_rfl))) rfl rfl ?_
          refine o_y (Y_fa 2 rfl Try.underlying48 rfl sz3 rfl) rfl rfl ?_
          refine o_y (Y_mv) rfl rfl ?_
          refine o_y ((by first | exact Y_nil rfl | exact Y_nilF rfl | exact Y_nilM rfl (by assumption) | exact Y_nilM rfl (by intro w k; kernel_rfl))) rfl rfl ?_
          refine o_y (Y_fa 3 rfl Try.underlying48 rfl sz3 rfl) rfl rfl ?_
          refine o_y (Y_mv) rfl rfl ?_
          refine o_y ((by first | exact Y_nil rfl | exact Y_nilF rfl | exact Y_nilM rfl (by assumption) | exact Y_nilM rfl (by intro w k; kernel_rfl))) rfl rfl ?_
          refine o_y (Y_fa 4 rfl Try.underlying48 rfl sz3 rfl) rfl rfl ?_
          refine o_y (Y_mv) rfl rfl ?_
          refine o_y ((by first | exact Y_nil rfl | exact Y_nilF rfl | exact Y_nilM rfl (by assumption) | exact Y_nilM rfl (by intro w k; kernel_rfl))) rfl rfl ?_
          refine o_y (Y_fa 5 rfl Try.underlying48 rfl sz3 rfl) rfl rfl ?_
          refine o_y (Y_mv) rfl rfl ?_
          refine o_y ((by first | exact Y_nil rfl | exact Y_nilF rfl | exact Y_nilM rfl (by assumption) | exact Y_nilM rfl (by intro w k; kernel_rfl))) rfl rfl ?_
          refine o_y (Y_fa 6 rfl Try.underlying48 rfl sz3 rfl) rfl rfl ?_
          refine o_y (Y_mv) rfl rfl ?_
          refine o_y ((by first | exact Y_nil rfl | exact Y_nilF rfl | exact Y_nilM rfl (by assumption) | exact Y_nilM rfl (by intro w k; kernel_rfl))) rfl rfl ?_
          refine o_y (Y_fa 7 rfl Try.underlying48 rfl sz3 rfl) rfl rfl ?_
          refine o_y (Y_mv) rfl rfl ?_
          refine o_y ((by first | exact Y_nil rfl | exact Y_nilF rfl | exact Y_nilM rfl (by assumption) | exact Y_nilM rfl (by intro w k; kernel_rfl))) rfl rfl ?_
          refine o_y (Y_fa 8 rfl Try.underlying48 rfl sz3 rfl) rfl rfl ?_
          refine o_y (Y_mv) rfl rfl ?_
          refine o_y ((by first | exact Y_nil rfl | exact Y_nilF rfl | exact Y_nilM rfl (by assumption) | exact Y_nilM rfl (by intro w k; kernel_rfl))) rfl rfl ?_
          refine o_y (Y_fa 9 rfl Try.underlying48 rfl sz3 rfl) rfl rfl ?_
          refine o_y (Y_mv) rfl rfl ?_
          refine o_y ((by first | exact Y_nil rfl | exact Y_nilF rfl | exact Y_nilM rfl (by assumption) | exact Y_nilM rfl (by intro w k; kernel_rfl))) rfl rfl ?_
          refine o_y (Y_fa 10 rfl Try.underlying48 rfl sz3 rfl) rfl rfl ?_
          refine o_n (N_bs (xs := [.tmp 77, .tmp 80, .tmp 83, .tmp 86, .tmp 89, .tmp 92, .tmp 95, .tmp 98, .tmp 101, .tmp 104, .tmp 107]) (by repeat (first | exact Gv.nil | apply Gv.const | apply Gv.tmp gt_)) rfl Try.underlying93 inf71 rfl (by omega) (by omega) (by first | simp [Value.oneCell'] | (intro v hv; simp at hv; subst hv; rfl))) (fun _ => (by first | exact keep_no rfl | (refine keep_sub ?_; (repeat (first | exact List.Sublist.refl _ | exact List.nil_sublist _ | apply List.Sublist.cons_cons | apply List.Sublist.cons)); done) | (refine keep_sub (List.Sublist.trans ?_ (List.sublist_append_right _ _)); (repeat (first | exact List.Sublist.refl _ | exact List.nil_sublist _ | apply List.Sublist.cons_cons | apply List.Sublist.cons)); done))) rfl rfl (fun b108 _ => ?_)
          refine o_cm [rB b24 v7, eB b62 32 (entF bs i)] (En_call (fun _ => rfl) Try.func33 rfl (by kernel_rfl) rfl) (by repeat (first | exact Sels.nil | apply Sels.cons (by repeat (first | exact Sel.head | apply Sel.tail)))) (fun w hH => prsmall_d (k := 406 + i * 11) (m := 11) (j0 := 0 + i * 11) (y := eB b62 32 (entF bs i)) (hs.has hH) hv7 (by decide) (by omega) (hH.at' (x := rB b24 v7) mm_) (hH.at' mm_) (hH.ne_old (x := rB b24 v7) mm_ hs.lt) (hH.nodup2 (x := rB b24 v7) (y := eB b62 32 (entF bs i)) (by repeat (first | exact Sels.nil | apply Sels.cons (by repeat (first | exact Sel.head | apply Sel.tail))))) (hH.ne_old (x := eB b62 32 (entF bs i)) mm_ hs.lt) (hH.at' (x := pB b108 b62 (0 + i * 11) 11) mm_).ro ⟨hH.nodup2 (x := pB b108 b62 (0 + i * 11) 11) (y := rB b24 v7) (by repeat (first | exact Sels.nil | apply Sels.cons (by repeat (first | exact Sel.head | apply Sel.tail)))), hH.nodup2 (x := pB b108 b62 (0 + i * 11) 11) (y := eB b62 32 (entF bs i)) (by repeat (first | exact Sels.nil | apply Sels.cons (by repeat (first | exact Sel.head | apply Sel.tail))))⟩ (by rw [ecells_len, hfl]; omega)) (fun _ _ h => by obtain ⟨rfl, v8, hv8, rfl⟩ := h; exact (by first | exact keep_no rfl | (refine keep_sub ?_; (repeat (first | exact List.Sublist.refl _ | exact List.nil_sublist _ | apply List.Sublist.cons_cons | apply List.Sublist.cons)); done) | (refine keep_sub (List.Sublist.trans ?_ (List.sublist_append_right _ _)); (repeat (first | exact List.Sublist.refl _ | exact List.nil_sublist _ | apply List.Sublist.cons_cons | apply List.Sublist.cons)); done))) rfl rfl ?_
          rintro _ _ ⟨rfl, v8, hv8, rfl⟩
          refine o_nil ?_
          refine q_bn ?_
          refine q_then ?_
          -- snap.go:156 R21
          refine c_reg ?_
          refine s_y ((by first | exact Y_add rfl rfl (by omega) | exact Y_addw rfl rfl)) rfl rfl ?_
          refine s_y (Y_mv) rfl rfl ?_
          refine s_nil ?_
          rw [entF_put (by omega)]
          refine hK (m - 1) (i + 1, v8) _ _ (by omega) ⟨by simp only; omega, by simp only; rw [show 406 + (i + 1) * 11 = 406 + i * 11 + 11 by omega]; exact hv8⟩ ⟨rfl, trivial⟩ rfl (fun _ h => h.pick (by repeat (first | exact Sels.nil | apply Sels.cons (by repeat (first | exact Sel.head | apply Sel.tail)))))
        · skip
          try simp only [nrm_] at hc17
          refine c_exit ?_
          repeat with_reducible refine q_te ?_
          refine q_exit ?_
          refine q_then ?_
          refine c_seq ?_
          -- snap.go:160 R22
          obtain rfl : i = 32 := by omega
          refine c_reg ?_
          refine s_n (N_makeU (n := 40) (u0 := .int .i64 0) rfl rfl Try.underlying23 inf57 rfl (by omega) rfl (by omega) (by omega)) rfl rfl (fun b111 _ => ?_)
          refine s_y (Y_fa 6 rfl Try.underlying29 rfl sz23 rfl) rfl rfl ?_
          refine s_s (S_st rfl gt_ sz23 (by rfl) (by repeat (first | exact Upd.head | apply Upd.tail)) (by first | (simp only [Nat.zero_add, Nat.reduceAdd, List.set_cons_succ, List.set_cons_zero]; rfl) | rfl) (by first | (simp; done) | omega)) rfl ?_
          refine s_nil ?_
          refine QL.pick (L' := [wB b5 (wcD (decM bs).seed (decM bs).frame (decM bs).floor (decM bs).state (.slice (some ⟨cg, 0, none⟩) 384 ccap) (.slice (some ⟨b62, 0, none⟩) 32 32) (.slice (some ⟨b111, 0, none⟩) 40 40) (goldD bs 4)), eB b62 32 (entF bs 32), ⟨b111, 57, 4, 40, List.replicate (40 * 4) (iv 0)⟩, rB b24 v7, cB cg ccap (decM bs).cells, wB b2 wz]) (by repeat (first | exact Sels.nil | apply Sels.cons (by repeat (first | exact Sel.head | apply Sel.tail)))) ?_
          rw [← izero b111 40, show List.replicate 40 Itm.zero = itmF bs 0 by simp [itmF]]
          refine q_then ?_
          refine c_seq ?_
          refine c_seq ?_
          -- snap.go:161 R23
          refine c_reg ?_
          refine s_y (Y_fa 6 rfl Try.underlying29 rfl sz23 rfl) rfl rfl ?_
          refine s_y ((by first | exact Y_load rfl one23 mm_ (by rfl) | exact Y_loadR rfl one23 hr rfl rfl | exact Y_loadR rfl one23 hr2 rfl rfl | exact Y_load rfl one23 mm_ (eget he rfl) | exact Y_load rfl one23 mm_ (iget hx rfl) | exact Y_load rfl one23 mm_ (by assumption) | exact Y_loadR rfl one23 (by assumption) rfl (by assumption))) rfl rfl ?_
          refine s_y (Y_len rfl rfl Try.underlying23) rfl rfl ?_
          refine s_y (Y_mvC) rfl rfl ?_
          refine s_nil ?_
          refine q_then ?_
          refine c_block ?_
          refine c_loop [9, 10, 116, 117, 118, 119, 120, 121, 122, 123, 124, 125, 126, 127, 128, 129, 130, 131, 132, 133, 134, 135, 136, 137, 138] (fun m (y : Nat × Value) => y.1 + m = 40 ∧ RdV bb o 918 c (758 + y.1 * 4) y.2) (fun y => [(116, iv y.1)]) (fun y => [wB b5 (wcD (decM bs).seed (decM bs).frame (decM bs).floor (decM bs).state (.slice (some ⟨cg, 0, none⟩) 384 ccap) (.slice (some ⟨b62, 0, none⟩) 32 32) (.slice (some ⟨b111, 0, none⟩) 40 40) (goldD bs 4)), eB b62 32 (entF bs 32), iB b111 40 (itmF bs y.1), rB b24 y.2, cB cg ccap (decM bs).cells, wB b2 wz]) (40) ((0, v7)) (⟨rfl, hv7⟩) (by repeat (first | exact trivial | refine ⟨rfl, ?_⟩)) (fun _ h => h.sub sl_) (fun _ => rfl) ?_
          rintro m2 ⟨i2, v9⟩ j2 ⟨hi2, hv9⟩ K hK
          simp only at hi2 hv9 ⊢
          refine c_seq ?_
          -- snap.go:161 R24
          refine c_reg ?_
          refine s_y (Y_lss rfl rfl) rfl rfl ?_
          refine s_nil ?_
          refine q_then ?_
          refine c_seq ?_
          first | refine c_cond' rfl (fun hc24 => ?_) (fun hc24 => ?_) | refine c_cond rfl (fun hc24 => ?_) (fun hc24 => ?_)
          · skip
            try simp only [nrm_] at hc24
            refine c_skip ?_
            refine q_then ?_
            refine c_seq ?_
            refine c_block ?_
            refine c_seq ?_
            -- snap.go:161 R25
            refine c_reg ?_
            refine s_y (Y_mv) rfl rfl ?_
            refine s_y (Y_as) rfl rfl ?_
            refine s_nil ?_
            refine q_then ?_
            refine c_seq ?_
            -- snap.go:162 R26
            refine c_reg ?_
            refine s_y (Y_fa 6 rfl Try.underlying29 rfl sz23 rfl) rfl rfl ?_
            refine s_y ((by first | exact Y_load rfl one23 mm_ (by rfl) | exact Y_loadR rfl one23 hr rfl rfl | exact Y_loadR rfl one23 hr2 rfl rfl | exact Y_load rfl one23 mm_ (eget he rfl) | exact Y_load rfl one23 mm_ (iget hx rfl) | exact Y_load rfl one23 mm_ (by assumption) | exact Y_loadR rfl one23 (by assumption) rfl (by assumption))) rfl rfl ?_
            refine s_y (Y_mv) rfl rfl ?_
            refine s_y (Y_ia rfl rfl Try.underlying23 sz57 rfl (by omega)) rfl rfl ?_
            refine s_y (Y_as) rfl rfl ?_
            refine s_nil ?_
            refine q_then ?_
            -- snap.go:163 R27
            have hfl : (itmF bs i2).length = 40 := fill_len (by omega)
            refine c_rordS (L0 := []) sl_ [14] [(0, true), (1, true), (2, true), (3, true), (4, true), (5, true), (6, true), (7, true), (8, true), (9, true), (10, true), (11, true), (12, true), (13, false), (14, false)] (by kernel_rfl) (by kernel_rfl) (by kernel_rfl) (by kernel_rfl) rfl (by intro c a d v w h; cases d <;> exact h) rfl ?_
            simp only [mkOrd, List.filterMap_cons, List.filterMap_nil, List.getElem?_toArray, List.getElem?_cons_zero, List.getElem?_cons_succ, Option.map_some]
            refine o_y (Y_mv) rfl rfl ?_
            refine o_y (Y_mv) rfl rfl ?_
            refine o_y ((by first | exact Y_nil rfl | exact Y_nilF rfl | exact Y_nilM rfl (by assumption) | exact Y_nilM rfl (by intro w k; kernel_rfl))) rfl rfl ?_
            refine o_y (Y_fa 0 rfl Try.underlying57 rfl sz3 rfl) rfl rfl ?_
            refine o_y (Y_mv) rfl rfl ?_
            refine o_y ((by first | exact Y_nil rfl | exact Y_nilF rfl | exact Y_nilM rfl (by assumption) | exact Y_nilM rfl (by intro w k; kernel_rfl))) rfl rfl ?_
            refine o_y (Y_fa 1 rfl Try.underlying57 rfl sz3 rfl) rfl rfl ?_
            refine o_y (Y_mv) rfl rfl ?_
            refine o_y ((by first | exact Y_nil rfl | exact Y_nilF rfl | exact Y_nilM rfl (by assumption) | exact Y_nilM rfl (by intro w k; kernel_rfl))) rfl rfl ?_
            refine o_y (Y_fa 2 rfl Try.underlying57 rfl sz3 rfl) rfl rfl ?_
            refine o_y (Y_mv) rfl rfl ?_
            refine o_y ((by first | exact Y_nil rfl | exact Y_nilF rfl | exact Y_nilM rfl (by assumption) | exact Y_nilM rfl (by intro w k; kernel_rfl))) rfl rfl ?_
            refine o_y (Y_fa 3 rfl Try.underlying57 rfl sz3 rfl) rfl rfl ?_
            refine o_n (N_bs (xs := [.tmp 126, .tmp 129, .tmp 132, .tmp 135]) (by repeat (first | exact Gv.nil | apply Gv.const | apply Gv.tmp gt_)) rfl Try.underlying93 inf71 rfl (by omega) (by omega) (by first | simp [Value.oneCell'] | (intro v hv; simp at hv; subst hv; rfl))) (fun _ => (by first | exact keep_no rfl | (refine keep_sub ?_; (repeat (first | exact List.Sublist.refl _ | exact List.nil_sublist _ | apply List.Sublist.cons_cons | apply List.Sublist.cons)); done) | (refine keep_sub (List.Sublist.trans ?_ (List.sublist_append_right _ _)); (repeat (first | exact List.Sublist.refl _ | exact List.nil_sublist _ | apply List.Sublist.cons_cons | apply List.Sublist.cons)); done))) rfl rfl (fun b136 _ => ?_)
            refine o_cm [rB b24 v9, iB b111 40 (itmF bs i2)] (En_call (fun _ => rfl) Try.func33 rfl (by kernel_rfl) rfl) (by repeat (first | exact Sels.nil | apply Sels.cons (by repeat (first | exact Sel.head | apply Sel.tail)))) (fun w hH => prsmall_d (k := 758 + i2 * 4) (m := 4) (j0 := 0 + i2 * 4) (y := iB b111 40 (itmF bs i2)) (hs.has hH) hv9 (by decide) (by omega) (hH.at' (x := rB b24 v9) mm_) (hH.at' mm_) (hH.ne_old (x := rB b24 v9) mm_ hs.lt) (hH.nodup2 (x := rB b24 v9) (y := iB b111 40 (itmF bs i2)) (by repeat (first | exact Sels.nil | apply Sels.cons (by repeat (first | exact Sel.head | apply Sel.tail))))) (hH.ne_old (x := iB b111 40 (itmF bs i2)) mm_ hs.lt) (hH.at' (x := pB b136 b111 (0 + i2 * 4) 4) mm_).ro ⟨hH.nodup2 (x := pB b136 b111 (0 + i2 * 4) 4) (y := rB b24 v9) (by repeat (first | exact Sels.nil | apply Sels.cons (by repeat (first | exact Sel.head | apply Sel.tail)))), hH.nodup2 (x := pB b136 b111 (0 + i2 * 4) 4) (y := iB b111 40 (itmF bs i2)) (by repeat (first | exact Sels.nil | apply Sels.cons (by repeat (first | exact Sel.head | apply Sel.tail))))⟩ (by rw [icells_len, hfl]; omega)) (fun _ _ h => by obtain ⟨rfl, v8, hv8, rfl⟩ := h; exact (by first | exact keep_no rfl | (refine keep_sub ?_; (repeat (first | exact List.Sublist.refl _ | exact List.nil_sublist _ | apply List.Sublist.cons_cons | apply List.Sublist.cons)); done) | (refine keep_sub (List.Sublist.trans ?_ (List.sublist_append_right _ _)); (repeat (first | exact List.Sublist.refl _ | exact List.nil_sublist _ | apply List.Sublist.cons_cons | apply List.Sublist.cons)); done))) rfl rfl ?_
            rintro _ _ ⟨rfl, v8, hv8, rfl⟩
            refine o_nil ?_
            refine q_bn ?_
            refine q_then ?_
            -- snap.go:161 R28
            refine c_reg ?_
            refine s_y ((by first | exact Y_add rfl rfl (by omega) | exact Y_addw rfl rfl)) rfl rfl ?_
            refine s_y (Y_mv) rfl rfl ?_
            refine s_nil ?_
            rw [itmF_put (by omega)]
            refine hK (m2 - 1) (i2 + 1, v8) _ _ (by omega) ⟨by simp only; omega, by simp only; rw [show 758 + (i2 + 1) * 4 = 758 + i2 * 4 + 4 by omega]; exact hv8⟩ ⟨rfl, trivial⟩ rfl (fun _ h => h.pick (by repeat (first | exact Sels.nil | apply Sels.cons (by repeat (first | exact Sel.head | apply Sel.tail)))))
          · skip
            try simp only [nrm_] at hc24
            refine c_exit ?_
            repeat with_reducible refine q_te ?_
            refine q_exit ?_
            refine q_then ?_
            refine c_seq ?_
            refine c_seq ?_
            -- snap.go:165 R29
            obtain rfl : i2 = 40 := by omega
            have e1 : entF bs 32 = (decM bs).ents := by show _ ++ List.replicate 0 _ = _; rw [List.replicate_zero, List.append_nil]; rfl
            have e2 : itmF bs 40 = (decM bs).items := by show _ ++ List.replicate 0 _ = _; rw [List.replicate_zero, List.append_nil]; rfl
            have l1 : (decM bs).cells.length = 384 := by show ((bs.drop 22).take 384).length = 384; rw [List.length_take, List.length_drop]; omega
            have l2 : (decM bs).ents.length = 32 := by rw [← e1]; exact fill_len (by omega)
            have l3 : (decM bs).items.length = 40 := by rw [← e2]; exact fill_len (by omega)
            rw [e1, e2]
            have hwv : Value.agg (wcD (decM bs).seed (decM bs).frame (decM bs).floor (decM bs).state (.slice (some ⟨cg, 0, none⟩) 384 ccap) (.slice (some ⟨b62, 0, none⟩) 32 32) (.slice (some ⟨b111, 0, none⟩) 40 40) (goldD bs 4)).toArray = .agg (wv (decM bs) ⟨cg, 0, ccap, b62, 0, 32, b111, 0, 40⟩).toArray := wv_eq l1 l2 l3 rfl
            refine c_reg ?_
            refine s_y (Y_loadN (vs := wv (decM bs) ⟨cg, 0, ccap, b62, 0, 32, b111, 0, 40⟩) rfl many29 mm_ (by rfl) (by intro i v h; rw [Nat.zero_add]; unfold wv at h; rw [l1, l2, l3] at h; exact h)) rfl rfl ?_
            refine s_c (En_call (fun _ => rfl) Try.func8 rfl (by kernel_rfl) rfl) (fun w hH => pcheck_d (d := decM bs) (s := ⟨cg, 0, ccap, b62, 0, 32, b111, 0, 40⟩) (wAt_of hH mm_ mm_ mm_ (by omega) (by omega) (by omega)) (dec_ok bs)) rfl rfl ?_
            rintro _ _ ⟨rfl, rfl⟩
            refine s_y (Y_as) rfl rfl ?_
            refine s_nil ?_
            refine q_then ?_
            refine c_seq ?_
            -- snap.go:165 R30
            refine c_reg ?_
            refine s_y (Y_mv) rfl rfl ?_
            refine s_y (Y_neq rfl rfl) rfl rfl ?_
            refine s_nil ?_
            refine q_then ?_
            first | refine c_cond' rfl (fun hc30 => ?_) (fun hc30 => ?_) | refine c_cond rfl (fun hc30 => ?_) (fun hc30 => ?_)
            · skip
              try simp only [nrm_] at hc30
              refine c_seq ?_
              -- snap.go:166 R31
              refine c_reg ?_
              refine s_y (Y_build (cs := [.int .i64 0, .int .i64 0, .int .i64 0, .int .i64 0, .slice none 0 0, .slice none 0 0, .slice none 0 0, .int .i64 0, .int .i64 0, .int .i64 0, .int .i64 0]) (by repeat (first | exact Gp.nil | apply Gp.const | apply Gp.tmp gt_)) (bld29 _ _ (by kernel_rfl))) rfl rfl ?_
              refine s_y (Y_mv) rfl rfl ?_
              refine s_s (S_storeA (vs := wz) rfl rfl sz29 (by rfl) (by rfl) (by repeat (first | exact Upd.head | apply Upd.tail)) (by rfl)) rfl ?_
              refine s_y (Y_as) rfl rfl ?_
              refine s_nil ?_
              refine q_then ?_
              refine c_ret ?_
              refine q_ret2c rfl rfl many29 rfl mm_ (by rfl) (L' := []) sl_ (.inl ⟨_, hc30, rfl, rfl, by rw [if_neg (by omega), if_neg (by omega)]⟩)
            · skip
              try simp only [nrm_] at hc30
              refine c_skip ?_
              refine q_then ?_
              refine c_seq ?_
              -- snap.go:168 R32
              refine c_reg ?_
              refine s_y ((by first | exact Y_loadAll rfl many29 mm_ (by rfl) | exact Y_loadN rfl many29 mm_ ‹_› ‹_› | exact Y_loadNR rfl many29 hr rfl | exact Y_loadNR rfl many29 hr2 rfl | exact Y_loadNR rfl many29 ‹_› rfl)) rfl rfl ?_
              refine s_s (S_storeA (vs := (wcD (decM bs).seed (decM bs).frame (decM bs).floor (decM bs).state (.slice (some ⟨cg, 0, none⟩) 384 ccap) (.slice (some ⟨b62, 0, none⟩) 32 32) (.slice (some ⟨b111, 0, none⟩) 40 40) (goldD bs 4))) rfl rfl sz29 (by rfl) (by rfl) (by repeat (first | exact Upd.head | apply Upd.tail)) (by rfl)) rfl ?_
              refine s_y (Y_asC) rfl rfl ?_
              refine s_nil ?_
              refine q_then ?_
              refine c_ret ?_
              refine QL.pick (L' := [wB b2 (wcD (decM bs).seed (decM bs).frame (decM bs).floor (decM bs).state (.slice (some ⟨cg, 0, none⟩) 384 ccap) (.slice (some ⟨b62, 0, none⟩) 32 32) (.slice (some ⟨b111, 0, none⟩) 40 40) (goldD bs 4)), cB cg ccap (decM bs).cells, eB b62 32 (decM bs).ents, iB b111 40 (decM bs).items]) (by repeat (first | exact Sels.nil | apply Sels.cons (by repeat (first | exact Sel.head | apply Sel.tail)))) ?_
              refine q_ret2c rfl rfl many29 rfl mm_ (by rfl) (L' := [cB cg ccap (decM bs).cells, eB b62 32 (decM bs).ents, iB b111 40 (decM bs).items]) sl_ (.inr ⟨hl, by simpa using hc30, cg, ccap, b62, 32, b111, 40, by rw [hwv]; rfl, rfl, by omega, by omega, by omega⟩)
end
end Go.Proofs.Ytecodneffflpoaa
