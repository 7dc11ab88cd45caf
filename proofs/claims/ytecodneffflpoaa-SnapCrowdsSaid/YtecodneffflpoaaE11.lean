/- Are two worlds the same: the law's own function, walked. -/
import Derived.Test.YtecodneffflpoaaE10
namespace Go.Ad
def Ent.nums (e : Ent) : List Int := [e.kind, e.gen, e.seat, e.x, e.y, e.hp, e.max, e.atk, e.df, e.poison, e.stun]
theorem Ent.nums_inj {e f : Ent} (h : e.nums = f.nums) : e = f := by
  cases e; cases f
  simp only [Ent.nums, List.cons.injEq, and_true] at h
  obtain ⟨rfl, rfl, rfl, rfl, rfl, rfl, rfl, rfl, rfl, rfl, rfl⟩ := h
  rfl
def Itm.nums (x : Itm) : List Int := [x.kind, x.whr, x.a, x.b]
theorem Itm.nums_inj {e f : Itm} (h : e.nums = f.nums) : e = f := by
  cases e; cases f
  simp only [Itm.nums, List.cons.injEq, and_true] at h
  obtain ⟨rfl, rfl, rfl, rfl⟩ := h
  rfl
def Four.nums (g : Four) : List Int := [g.a, g.b, g.c, g.d]
theorem Four.nums_inj {e f : Four} (h : e.nums = f.nums) : e = f := by
  cases e; cases f
  simp only [Four.nums, List.cons.injEq, and_true] at h
  obtain ⟨rfl, rfl, rfl, rfl⟩ := h
  rfl
theorem bytes_inj {xs ys : List UInt8} (h : (⟨xs.toArray⟩ : ByteArray) = ⟨ys.toArray⟩) : xs = ys := by
  simpa using h
theorem bytes_injL {xs ys : List UInt8} (h : (⟨xs.toArray⟩ : ByteArray).toList = (⟨ys.toArray⟩ : ByteArray).toList) : xs = ys := by
  rw [Lib.toList_data, Lib.toList_data] at h
  simpa using h
theorem take_next {α : Type} {l m : List α} {i : Nat} {a b : α} (h : l[i]? = some a) (k : m[i]? = some b) (hab : a = b) (ht : l.take i = m.take i) : l.take (i + 1) = m.take (i + 1) := by
  obtain ⟨hi, rfl⟩ := List.getElem?_eq_some_iff.1 h
  obtain ⟨hj, rfl⟩ := List.getElem?_eq_some_iff.1 k
  rw [← List.take_append_getElem hi, ← List.take_append_getElem hj, ht, hab]
/-- A world whose rows may be nil. -/
structure WAtV (W : World) (d : Wd) (cv ev iv' : Value) : Prop where
  c : SlV W 1 cv d.cells.length (d.cells.map bv)
  e : SlV W 11 ev d.ents.length (ecells d.ents)
  i : SlV W 4 iv' d.items.length (icells d.items)
theorem WAt.v {W : World} {d : Wd} {s : Ws} (h : WAt W d s) : WAtV W d (.slice (some ⟨s.cb, s.co, none⟩) d.cells.length s.cc) (.slice (some ⟨s.eb, s.eo, none⟩) d.ents.length s.ec) (.slice (some ⟨s.ib, s.io, none⟩) d.items.length s.ic) := ⟨.some h.c, .some h.e, .some h.i⟩
theorem SlV.bytes {W : World} {v : Value} {n : Nat} {xs : List UInt8} (h : SlV W 1 v n (xs.map bv)) : ∃ a c, v = .slice a n c ∧ BytesAt W a n xs := by
  have hl := h.len
  rw [List.length_map, Nat.mul_one] at hl
  generalize hcs : xs.map bv = cs at h
  cases h with
  | nil =>
    cases xs with
    | nil => exact ⟨_, _, rfl, ⟨rfl, .inl rfl⟩⟩
    | cons a r => simp at hl
  | zero =>
    cases xs with
    | nil => exact ⟨_, _, rfl, ⟨rfl, .inl rfl⟩⟩
    | cons a r => simp at hl
  | @some b o n c cs h => subst hcs; exact ⟨_, _, rfl, ⟨hl, .inr ⟨b, o, rfl, h.lt, h.ro⟩⟩⟩
end Go.Ad
namespace Go.Proofs.Ytecodneffflpoaa
open Go.RowKit Go.Ad Go.Maps
set_option linter.unusedVariables false
set_option linter.unusedSimpArgs false
abbrev wcV (d : Wd) (x y z : Value) : List Value := wcD d.seed d.frame d.floor d.state x y z d.gold
theorem gold_subV {d : Wd} {x y z : Value} : ∀ i v, ([iv d.gold.a, iv d.gold.b, iv d.gold.c, iv d.gold.d] : List Value)[i]? = some v → (wcV d x y z)[0 + 7 + i]? = some v
  | 0, v, h => h
  | 1, v, h => h
  | 2, v, h => h
  | 3, v, h => h
  | n + 4, v, h => by simp at h
theorem SlV.one' {W : World} {k n : Nat} {v : Value} {cs : List Value} (h : SlV W k v n cs) : v.oneCell' = true := by cases h <;> rfl
section
variable {W : World}
set_option maxRecDepth 100000 in
set_option maxHeartbeats 1600000 in
theorem lsame_d {d1 d2 : Wd} {c1 e1 i1 c2 e2 i2 : Value} (h1 : WAtV W d1 c1 e1 i1) (h2 : WAtV W d2 c2 e2 i2) : Does Try.prog 12 [.agg (wcV d1 c1 e1 i1).toArray, .agg (wcV d2 c2 e2 i2).toArray] W [] (fun v L => (∃ q : Bool, v = .bool q ∧ (q = true ↔ d1 = d2)) ∧ L = []) := by
  obtain ⟨a1, k1, rfl, hb1⟩ := h1.c.bytes
  obtain ⟨a2, k2, rfl, hb2⟩ := h2.c.bytes
  have hle1 := h1.e.le
  have hle2 := h2.e.le
  have hli1 := h1.i.le
  have hli2 := h2.i.le
  simp only [maxLen] at hle1 hle2 hli1 hli2
  refine enter Try.func12 rfl rfl rfl (Has.start _) ?_
  refine c_seq ?_
  refine c_reg ?_
  refine s_n (N_box (cs := wcV d1 (.slice a1 d1.cells.length k1) e1 i1) rfl) rfl rfl (fun b2 _ => ?_)
  refine s_n (N_box (cs := wcV d2 (.slice a2 d2.cells.length k2) e2 i2) rfl) rfl rfl (fun b3 _ => ?_)
  refine s_y (Y_asC) rfl rfl ?_
  refine s_nil ?_
  refine q_then ?_
  refine c_seq ?_
  refine c_seq ?_
  refine c_reg ?_
  refine s_y (Y_fa 0 rfl Try.underlying29 rfl sz2 rfl) rfl rfl ?_
  refine s_y ((by first | exact Y_load rfl one2 mm_ (by rfl) | exact Y_loadR rfl one2 hr rfl rfl | exact Y_loadR rfl one2 hr2 rfl rfl | exact Y_load rfl one2 mm_ (eget he rfl) | exact Y_load rfl one2 mm_ (iget hx rfl) | exact Y_load rfl one2 mm_ (by assumption) | exact Y_loadR rfl one2 (by assumption) rfl (by assumption))) rfl rfl ?_
  refine s_y (Y_fa 0 rfl Try.underlying29 rfl sz2 rfl) rfl rfl ?_
  refine s_y ((by first | exact Y_load rfl one2 mm_ (by rfl) | exact Y_loadR rfl one2 hr rfl rfl | exact Y_loadR rfl one2 hr2 rfl rfl | exact Y_load rfl one2 mm_ (eget he rfl) | exact Y_load rfl one2 mm_ (iget hx rfl) | exact Y_load rfl one2 mm_ (by assumption) | exact Y_loadR rfl one2 (by assumption) rfl (by assumption))) rfl rfl ?_
  refine s_y (Y_neq rfl rfl) rfl rfl ?_
  refine s_y (Y_mv) rfl rfl ?_
  apply s_or 6 [12, 13, 14, 15, 16, 17, 18] 18 (g := 12) rfl rfl
  · intro ht6 hm
    try simp only [nrm_] at ht6
    first | refine s_y (Y_fa 1 rfl Try.underlying29 rfl sz3 rfl) rfl rfl ?_ | refine s_pass rfl rfl ?_
    first | refine s_y ((by first | exact Y_load rfl one3 mm_ (by rfl) | exact Y_loadR rfl one3 hr rfl rfl | exact Y_loadR rfl one3 hr2 rfl rfl | exact Y_load rfl one3 mm_ (eget he rfl) | exact Y_load rfl one3 mm_ (iget hx rfl) | exact Y_load rfl one3 mm_ (by assumption) | exact Y_loadR rfl one3 (by assumption) rfl (by assumption))) rfl rfl ?_ | refine s_pass rfl rfl ?_
    first | refine s_y (Y_fa 1 rfl Try.underlying29 rfl sz3 rfl) rfl rfl ?_ | refine s_pass rfl rfl ?_
    first | refine s_y ((by first | exact Y_load rfl one3 mm_ (by rfl) | exact Y_loadR rfl one3 hr rfl rfl | exact Y_loadR rfl one3 hr2 rfl rfl | exact Y_load rfl one3 mm_ (eget he rfl) | exact Y_load rfl one3 mm_ (iget hx rfl) | exact Y_load rfl one3 mm_ (by assumption) | exact Y_loadR rfl one3 (by assumption) rfl (by assumption))) rfl rfl ?_ | refine s_pass rfl rfl ?_
    first | refine s_y (Y_neq rfl rfl) rfl rfl ?_ | refine s_pass rfl rfl ?_
    refine s_y (Y_pk rfl Gx.const (Gx.tmp gt_)) rfl rfl ?_
    first | exact hm _ ⟨rfl, trivial⟩ rfl | exact QL.sub sl_ (hm _ ⟨rfl, trivial⟩ rfl)
  · intro ht6 hm
    iterate 5 refine s_pass rfl rfl ?_
    refine s_y (Y_pk rfl Gx.const (Gx.tmp gt_)) rfl rfl ?_
    exact hm _ ⟨rfl, trivial⟩ rfl
  intro j18
  refine s_y (Y_mv) rfl rfl ?_
  apply s_or 6 [19, 20, 21, 22, 23, 24, 25] 25 (g := 19) rfl rfl
  · intro ht13 hm
    try simp only [nrm_] at ht13
    first | refine s_y (Y_fa 2 rfl Try.underlying29 rfl sz3 rfl) rfl rfl ?_ | refine s_pass rfl rfl ?_
    first | refine s_y ((by first | exact Y_load rfl one3 mm_ (by rfl) | exact Y_loadR rfl one3 hr rfl rfl | exact Y_loadR rfl one3 hr2 rfl rfl | exact Y_load rfl one3 mm_ (eget he rfl) | exact Y_load rfl one3 mm_ (iget hx rfl) | exact Y_load rfl one3 mm_ (by assumption) | exact Y_loadR rfl one3 (by assumption) rfl (by assumption))) rfl rfl ?_ | refine s_pass rfl rfl ?_
    first | refine s_y (Y_fa 2 rfl Try.underlying29 rfl sz3 rfl) rfl rfl ?_ | refine s_pass rfl rfl ?_
    first | refine s_y ((by first | exact Y_load rfl one3 mm_ (by rfl) | exact Y_loadR rfl one3 hr rfl rfl | exact Y_loadR rfl one3 hr2 rfl rfl | exact Y_load rfl one3 mm_ (eget he rfl) | exact Y_load rfl one3 mm_ (iget hx rfl) | exact Y_load rfl one3 mm_ (by assumption) | exact Y_loadR rfl one3 (by assumption) rfl (by assumption))) rfl rfl ?_ | refine s_pass rfl rfl ?_
    first | refine s_y (Y_neq rfl rfl) rfl rfl ?_ | refine s_pass rfl rfl ?_
    refine s_y (Y_pk rfl Gx.const (Gx.tmp gt_)) rfl rfl ?_
    first | exact hm _ ⟨rfl, trivial⟩ rfl | exact QL.sub sl_ (hm _ ⟨rfl, trivial⟩ rfl)
  · intro ht13 hm
    iterate 5 refine s_pass rfl rfl ?_
    refine s_y (Y_pk rfl Gx.const (Gx.tmp gt_)) rfl rfl ?_
    exact hm _ ⟨rfl, trivial⟩ rfl
  intro j25
  refine s_y (Y_mv) rfl rfl ?_
  apply s_or 6 [26, 27, 28, 29, 30, 31, 32] 32 (g := 26) rfl rfl
  · intro ht20 hm
    try simp only [nrm_] at ht20
    first | refine s_y (Y_fa 3 rfl Try.underlying29 rfl sz3 rfl) rfl rfl ?_ | refine s_pass rfl rfl ?_
    first | refine s_y ((by first | exact Y_load rfl one3 mm_ (by rfl) | exact Y_loadR rfl one3 hr rfl rfl | exact Y_loadR rfl one3 hr2 rfl rfl | exact Y_load rfl one3 mm_ (eget he rfl) | exact Y_load rfl one3 mm_ (iget hx rfl) | exact Y_load rfl one3 mm_ (by assumption) | exact Y_loadR rfl one3 (by assumption) rfl (by assumption))) rfl rfl ?_ | refine s_pass rfl rfl ?_
    first | refine s_y (Y_fa 3 rfl Try.underlying29 rfl sz3 rfl) rfl rfl ?_ | refine s_pass rfl rfl ?_
    first | refine s_y ((by first | exact Y_load rfl one3 mm_ (by rfl) | exact Y_loadR rfl one3 hr rfl rfl | exact Y_loadR rfl one3 hr2 rfl rfl | exact Y_load rfl one3 mm_ (eget he rfl) | exact Y_load rfl one3 mm_ (iget hx rfl) | exact Y_load rfl one3 mm_ (by assumption) | exact Y_loadR rfl one3 (by assumption) rfl (by assumption))) rfl rfl ?_ | refine s_pass rfl rfl ?_
    first | refine s_y (Y_neq rfl rfl) rfl rfl ?_ | refine s_pass rfl rfl ?_
    refine s_y (Y_pk rfl Gx.const (Gx.tmp gt_)) rfl rfl ?_
    first | exact hm _ ⟨rfl, trivial⟩ rfl | exact QL.sub sl_ (hm _ ⟨rfl, trivial⟩ rfl)
  · intro ht20 hm
    iterate 5 refine s_pass rfl rfl ?_
    refine s_y (Y_pk rfl Gx.const (Gx.tmp gt_)) rfl rfl ?_
    exact hm _ ⟨rfl, trivial⟩ rfl
  intro j32
  refine s_y (Y_mv) rfl rfl ?_
  apply s_or 6 [33, 34, 35, 36, 37, 38, 39] 39 (g := 33) rfl rfl
  · intro ht27 hm
    try simp only [nrm_] at ht27
    first | refine s_y (Y_fa 7 rfl Try.underlying29 rfl sz27 rfl) rfl rfl ?_ | refine s_pass rfl rfl ?_
    first | refine s_y (Y_loadN (vs := [iv d1.gold.a, iv d1.gold.b, iv d1.gold.c, iv d1.gold.d]) rfl many27 mm_ (by rfl) gold_subV) rfl rfl ?_ | refine s_pass rfl rfl ?_
    first | refine s_y (Y_fa 7 rfl Try.underlying29 rfl sz27 rfl) rfl rfl ?_ | refine s_pass rfl rfl ?_
    first | refine s_y (Y_loadN (vs := [iv d2.gold.a, iv d2.gold.b, iv d2.gold.c, iv d2.gold.d]) rfl many27 mm_ (by rfl) gold_subV) rfl rfl ?_ | refine s_pass rfl rfl ?_
    first | refine s_y (Y_neF (zs := d1.gold.nums) (zs' := d2.gold.nums) rfl rfl flat27 rfl rfl) rfl rfl ?_ | refine s_pass rfl rfl ?_
    refine s_y (Y_pk rfl Gx.const (Gx.tmp gt_)) rfl rfl ?_
    first | exact hm _ ⟨rfl, trivial⟩ rfl | exact QL.sub sl_ (hm _ ⟨rfl, trivial⟩ rfl)
  · intro ht27 hm
    iterate 5 refine s_pass rfl rfl ?_
    refine s_y (Y_pk rfl Gx.const (Gx.tmp gt_)) rfl rfl ?_
    exact hm _ ⟨rfl, trivial⟩ rfl
  intro j39
  refine s_y (Y_mv) rfl rfl ?_
  apply s_or 8 [40, 41, 42, 43, 44, 45, 46, 47, 48] 48 (g := 40) rfl rfl
  · intro ht34 hm
    try simp only [nrm_] at ht34
    first | refine s_y (Y_fa 4 rfl Try.underlying29 rfl sz25 rfl) rfl rfl ?_ | refine s_pass rfl rfl ?_
    first | refine s_y ((by first | exact Y_load rfl one25 mm_ (by rfl) | exact Y_loadR rfl one25 hr rfl rfl | exact Y_loadR rfl one25 hr2 rfl rfl | exact Y_load rfl one25 mm_ (eget he rfl) | exact Y_load rfl one25 mm_ (iget hx rfl) | exact Y_load rfl one25 mm_ (by assumption) | exact Y_loadR rfl one25 (by assumption) rfl (by assumption))) rfl rfl ?_ | refine s_pass rfl rfl ?_
    first | refine s_y (Y_bs rfl Try.underlying25 Try.underlying5 Try.underlying9 (fun w hH => hb1.has (by simp) hH)) rfl rfl ?_ | refine s_pass rfl rfl ?_
    first | refine s_y (Y_fa 4 rfl Try.underlying29 rfl sz25 rfl) rfl rfl ?_ | refine s_pass rfl rfl ?_
    first | refine s_y ((by first | exact Y_load rfl one25 mm_ (by rfl) | exact Y_loadR rfl one25 hr rfl rfl | exact Y_loadR rfl one25 hr2 rfl rfl | exact Y_load rfl one25 mm_ (eget he rfl) | exact Y_load rfl one25 mm_ (iget hx rfl) | exact Y_load rfl one25 mm_ (by assumption) | exact Y_loadR rfl one25 (by assumption) rfl (by assumption))) rfl rfl ?_ | refine s_pass rfl rfl ?_
    first | refine s_y (Y_bs rfl Try.underlying25 Try.underlying5 Try.underlying9 (fun w hH => hb2.has (by simp) hH)) rfl rfl ?_ | refine s_pass rfl rfl ?_
    first | refine s_y (Y_neS rfl rfl) rfl rfl ?_ | refine s_pass rfl rfl ?_
    refine s_y (Y_pk rfl Gx.const (Gx.tmp gt_)) rfl rfl ?_
    first | exact hm _ ⟨rfl, trivial⟩ rfl | exact QL.sub sl_ (hm _ ⟨rfl, trivial⟩ rfl)
  · intro ht34 hm
    iterate 7 refine s_pass rfl rfl ?_
    refine s_y (Y_pk rfl Gx.const (Gx.tmp gt_)) rfl rfl ?_
    exact hm _ ⟨rfl, trivial⟩ rfl
  intro j48
  refine s_y (Y_mv) rfl rfl ?_
  apply s_or 8 [49, 50, 51, 52, 53, 54, 55, 56, 57] 57 (g := 49) rfl rfl
  · intro ht43 hm
    try simp only [nrm_] at ht43
    first | refine s_y (Y_fa 5 rfl Try.underlying29 rfl sz26 rfl) rfl rfl ?_ | refine s_pass rfl rfl ?_
    first | refine s_y ((by first | exact Y_load rfl one26 mm_ (by rfl) | exact Y_loadR rfl one26 hr rfl rfl | exact Y_loadR rfl one26 hr2 rfl rfl | exact Y_load rfl one26 mm_ (eget he rfl) | exact Y_load rfl one26 mm_ (iget hx rfl) | exact Y_load rfl one26 mm_ (by assumption) | exact Y_loadR rfl one26 (by assumption) rfl (by assumption))) rfl rfl ?_ | refine s_pass rfl rfl ?_
    first | refine s_y (Y_lenV h1.e rfl rfl Try.underlying26) rfl rfl ?_ | refine s_pass rfl rfl ?_
    first | refine s_y (Y_fa 5 rfl Try.underlying29 rfl sz26 rfl) rfl rfl ?_ | refine s_pass rfl rfl ?_
    first | refine s_y ((by first | exact Y_load rfl one26 mm_ (by rfl) | exact Y_loadR rfl one26 hr rfl rfl | exact Y_loadR rfl one26 hr2 rfl rfl | exact Y_load rfl one26 mm_ (eget he rfl) | exact Y_load rfl one26 mm_ (iget hx rfl) | exact Y_load rfl one26 mm_ (by assumption) | exact Y_loadR rfl one26 (by assumption) rfl (by assumption))) rfl rfl ?_ | refine s_pass rfl rfl ?_
    first | refine s_y (Y_lenV h2.e rfl rfl Try.underlying26) rfl rfl ?_ | refine s_pass rfl rfl ?_
    first | refine s_y (Y_neq rfl rfl) rfl rfl ?_ | refine s_pass rfl rfl ?_
    refine s_y (Y_pk rfl Gx.const (Gx.tmp gt_)) rfl rfl ?_
    first | exact hm _ ⟨rfl, trivial⟩ rfl | exact QL.sub sl_ (hm _ ⟨rfl, trivial⟩ rfl)
  · intro ht43 hm
    iterate 7 refine s_pass rfl rfl ?_
    refine s_y (Y_pk rfl Gx.const (Gx.tmp gt_)) rfl rfl ?_
    exact hm _ ⟨rfl, trivial⟩ rfl
  intro j57
  refine s_y (Y_mv) rfl rfl ?_
  apply s_or 8 [58, 59, 60, 61, 62, 63, 64, 65, 66] 66 (g := 58) rfl rfl
  · intro ht52 hm
    try simp only [nrm_] at ht52
    first | refine s_y (Y_fa 6 rfl Try.underlying29 rfl sz23 rfl) rfl rfl ?_ | refine s_pass rfl rfl ?_
    first | refine s_y ((by first | exact Y_load rfl one23 mm_ (by rfl) | exact Y_loadR rfl one23 hr rfl rfl | exact Y_loadR rfl one23 hr2 rfl rfl | exact Y_load rfl one23 mm_ (eget he rfl) | exact Y_load rfl one23 mm_ (iget hx rfl) | exact Y_load rfl one23 mm_ (by assumption) | exact Y_loadR rfl one23 (by assumption) rfl (by assumption))) rfl rfl ?_ | refine s_pass rfl rfl ?_
    first | refine s_y (Y_lenV h1.i rfl rfl Try.underlying23) rfl rfl ?_ | refine s_pass rfl rfl ?_
    first | refine s_y (Y_fa 6 rfl Try.underlying29 rfl sz23 rfl) rfl rfl ?_ | refine s_pass rfl rfl ?_
    first | refine s_y ((by first | exact Y_load rfl one23 mm_ (by rfl) | exact Y_loadR rfl one23 hr rfl rfl | exact Y_loadR rfl one23 hr2 rfl rfl | exact Y_load rfl one23 mm_ (eget he rfl) | exact Y_load rfl one23 mm_ (iget hx rfl) | exact Y_load rfl one23 mm_ (by assumption) | exact Y_loadR rfl one23 (by assumption) rfl (by assumption))) rfl rfl ?_ | refine s_pass rfl rfl ?_
    first | refine s_y (Y_lenV h2.i rfl rfl Try.underlying23) rfl rfl ?_ | refine s_pass rfl rfl ?_
    first | refine s_y (Y_neq rfl rfl) rfl rfl ?_ | refine s_pass rfl rfl ?_
    refine s_y (Y_pk rfl Gx.const (Gx.tmp gt_)) rfl rfl ?_
    first | exact hm _ ⟨rfl, trivial⟩ rfl | exact QL.sub sl_ (hm _ ⟨rfl, trivial⟩ rfl)
  · intro ht52 hm
    iterate 7 refine s_pass rfl rfl ?_
    refine s_y (Y_pk rfl Gx.const (Gx.tmp gt_)) rfl rfl ?_
    exact hm _ ⟨rfl, trivial⟩ rfl
  intro j66
  refine s_nil ?_
  refine q_then ?_
  first | refine c_cond' rfl (fun hc1 => ?_) (fun hc1 => ?_) | refine c_cond rfl (fun hc1 => ?_) (fun hc1 => ?_)
  · skip
    try simp only [nrm_] at hc1
    refine c_seq ?_
    refine c_reg ?_
    refine s_y (Y_asC) rfl rfl ?_
    refine s_nil ?_
    refine q_then ?_
    refine c_ret ?_
    refine q_retG1 rfl gt_ (L' := _) sl_ (⟨⟨false, rfl, by
        refine ⟨fun h => absurd h (by decide), fun h => ?_⟩
        subst h
        simp at hc1⟩, rfl⟩)
  · skip
    try simp only [nrm_] at hc1
    refine c_skip ?_
    refine q_then ?_
    refine c_seq ?_
    refine c_seq ?_
    obtain ⟨⟨⟨⟨⟨⟨⟨hs1, hs2⟩, hs3⟩, hs4⟩, hs5⟩, hs6⟩, hs7⟩, hs8⟩ := hc1
    have hg := Four.nums_inj hs5
    have hcc := bytes_injL hs6
    have hel : d1.ents.length = d2.ents.length := by omega
    have hil : d1.items.length = d2.items.length := by omega
    refine c_reg ?_
    refine s_y (Y_asC) rfl rfl ?_
    refine s_nil ?_
    refine q_then ?_
    refine c_block ?_
    refine c_loop [4, 5, 67, 68, 69, 70, 71, 72, 73, 74, 75, 76, 77, 78, 79, 80, 81, 82, 83, 84] (fun m i => i + m = d1.ents.length ∧ d1.ents.take i = d2.ents.take i) (fun i => [(5, iv i)]) (fun _ => [wB b3 (wcV d2 (.slice a2 d2.cells.length k2) e2 i2), wB b2 (wcV d1 (.slice a1 d1.cells.length k1) e1 i1)]) (d1.ents.length) (0) (⟨by omega, by simp⟩) (by repeat (first | exact trivial | refine ⟨rfl, ?_⟩)) (fun _ h => h.sub sl_) (fun _ => rfl) ?_
    rintro m i j ⟨hi, ht⟩ K hK
    refine c_seq ?_
    refine c_seq ?_
    refine c_reg ?_
    refine s_y (Y_mv) rfl rfl ?_
    refine s_y (Y_fa 5 rfl Try.underlying29 rfl sz26 rfl) rfl rfl ?_
    refine s_y ((by first | exact Y_load rfl one26 mm_ (by rfl) | exact Y_loadR rfl one26 hr rfl rfl | exact Y_loadR rfl one26 hr2 rfl rfl | exact Y_load rfl one26 mm_ (eget he rfl) | exact Y_load rfl one26 mm_ (iget hx rfl) | exact Y_load rfl one26 mm_ (by assumption) | exact Y_loadR rfl one26 (by assumption) rfl (by assumption))) rfl rfl ?_
    refine s_y (Y_lenV h1.e rfl rfl Try.underlying26) rfl rfl ?_
    refine s_y (Y_lss rfl rfl) rfl rfl ?_
    refine s_nil ?_
    refine q_then ?_
    first | refine c_cond' rfl (fun hc4 => ?_) (fun hc4 => ?_) | refine c_cond rfl (fun hc4 => ?_) (fun hc4 => ?_)
    · skip
      try simp only [nrm_] at hc4
      refine c_skip ?_
      refine q_then ?_
      refine c_seq ?_
      refine c_block ?_
      refine c_seq ?_
      obtain ⟨x, hx⟩ := take_lt (show i < d1.ents.length by omega)
      obtain ⟨y, hy⟩ := take_lt (show i < d2.ents.length by omega)
      obtain ⟨p1, q1, r1, hev1, hse1⟩ := h1.e.some_of (by omega)
      obtain ⟨p2, q2, r2, hev2, hse2⟩ := h2.e.some_of (by omega)
      have hr := hse1.at' Ent.len hx
      have hr2 := hse2.at' Ent.len hy
      rw [hev1, hev2]
      refine c_rord [] [(0, true), (1, true), (2, true), (3, true), (4, true), (5, true), (6, true), (7, true), (8, true), (9, true), (10, true)] (by kernel_rfl) (by kernel_rfl) (by kernel_rfl) (by kernel_rfl) rfl (by intro c a d v w h; cases d <;> exact h) rfl ?_
      simp only [mkOrd, List.filterMap_cons, List.filterMap_nil, List.getElem?_toArray, List.getElem?_cons_zero, List.getElem?_cons_succ, Option.map_some]
      refine o_y (Y_fa 5 rfl Try.underlying29 rfl sz26 rfl) rfl rfl ?_
      refine o_y ((by first | exact Y_load rfl one26 mm_ (by rfl) | exact Y_loadR rfl one26 hr rfl rfl | exact Y_loadR rfl one26 hr2 rfl rfl | exact Y_load rfl one26 mm_ (eget he rfl) | exact Y_load rfl one26 mm_ (iget hx rfl) | exact Y_load rfl one26 mm_ (by assumption) | exact Y_loadR rfl one26 (by assumption) rfl (by assumption))) rfl rfl ?_
      refine o_y (Y_mv) rfl rfl ?_
      refine o_y (Y_ia rfl rfl Try.underlying26 sz48 rfl (by omega)) rfl rfl ?_
      refine o_y (Y_loadNR (vs := x.cells) rfl many48 hr rfl) rfl rfl ?_
      refine o_y (Y_fa 5 rfl Try.underlying29 rfl sz26 rfl) rfl rfl ?_
      refine o_y ((by first | exact Y_load rfl one26 mm_ (by rfl) | exact Y_loadR rfl one26 hr rfl rfl | exact Y_loadR rfl one26 hr2 rfl rfl | exact Y_load rfl one26 mm_ (eget he rfl) | exact Y_load rfl one26 mm_ (iget hx rfl) | exact Y_load rfl one26 mm_ (by assumption) | exact Y_loadR rfl one26 (by assumption) rfl (by assumption))) rfl rfl ?_
      refine o_y (Y_mv) rfl rfl ?_
      refine o_y (Y_ia rfl rfl Try.underlying26 sz48 rfl (by omega)) rfl rfl ?_
      refine o_y (Y_loadNR (vs := y.cells) rfl many48 hr2 rfl) rfl rfl ?_
      refine o_y (Y_neF (zs := x.nums) (zs' := y.nums) rfl rfl flat48 rfl rfl) rfl rfl ?_
      refine o_nil ?_
      refine q_then ?_
      first | refine c_cond' rfl (fun hc6 => ?_) (fun hc6 => ?_) | refine c_cond rfl (fun hc6 => ?_) (fun hc6 => ?_)
      · skip
        try simp only [nrm_] at hc6
        refine c_seq ?_
        refine c_reg ?_
        refine s_y (Y_asC) rfl rfl ?_
        refine s_nil ?_
        refine q_then ?_
        refine c_ret ?_
        refine q_retG1 rfl gt_ (L' := _) sl_ (⟨⟨false, rfl, by
            refine ⟨fun h => absurd h (by decide), fun h => ?_⟩
            subst h
            rw [hx] at hy
            cases hy
            exact absurd rfl hc6⟩, rfl⟩)
      · skip
        try simp only [nrm_] at hc6
        refine c_skip ?_
        refine q_bn ?_
        refine q_then ?_
        refine c_reg ?_
        refine s_y (Y_mv) rfl rfl ?_
        refine s_y ((by first | exact Y_add rfl rfl (by omega) | exact Y_addw rfl rfl)) rfl rfl ?_
        refine s_y (Y_as) rfl rfl ?_
        refine s_nil ?_
        rw [← hev1, ← hev2]
        refine hK (m - 1) (i + 1) _ _ (by omega) ⟨by omega, take_next hx hy (Ent.nums_inj hc6) ht⟩ ⟨rfl, trivial⟩ rfl (fun _ h => h)
    · skip
      try simp only [nrm_] at hc4
      refine c_exit ?_
      repeat with_reducible refine q_te ?_
      refine q_exit ?_
      refine q_then ?_
      refine c_seq ?_
      refine c_seq ?_
      rw [show i = d1.ents.length by omega, List.take_length, hel, List.take_length] at ht
      refine c_reg ?_
      refine s_y (Y_asC) rfl rfl ?_
      refine s_nil ?_
      refine q_then ?_
      refine c_block ?_
      refine c_loop [4, 6, 85, 86, 87, 88, 89, 90, 91, 92, 93, 94, 95, 96, 97, 98, 99, 100, 101, 102] (fun m i => i + m = d1.items.length ∧ d1.items.take i = d2.items.take i) (fun i => [(6, iv i)]) (fun _ => [wB b3 (wcV d2 (.slice a2 d2.cells.length k2) e2 i2), wB b2 (wcV d1 (.slice a1 d1.cells.length k1) e1 i1)]) (d1.items.length) (0) (⟨by omega, by simp⟩) (by repeat (first | exact trivial | refine ⟨rfl, ?_⟩)) (fun _ h => h.sub sl_) (fun _ => rfl) ?_
      rintro m2 i3 j2 ⟨hi2, ht2⟩ K hK
      refine c_seq ?_
      refine c_seq ?_
      refine c_reg ?_
      refine s_y (Y_mv) rfl rfl ?_
      refine s_y (Y_fa 6 rfl Try.underlying29 rfl sz23 rfl) rfl rfl ?_
      refine s_y ((by first | exact Y_load rfl one23 mm_ (by rfl) | exact Y_loadR rfl one23 hr rfl rfl | exact Y_loadR rfl one23 hr2 rfl rfl | exact Y_load rfl one23 mm_ (eget he rfl) | exact Y_load rfl one23 mm_ (iget hx rfl) | exact Y_load rfl one23 mm_ (by assumption) | exact Y_loadR rfl one23 (by assumption) rfl (by assumption))) rfl rfl ?_
      refine s_y (Y_lenV h1.i rfl rfl Try.underlying23) rfl rfl ?_
      refine s_y (Y_lss rfl rfl) rfl rfl ?_
      refine s_nil ?_
      refine q_then ?_
      first | refine c_cond' rfl (fun hc9 => ?_) (fun hc9 => ?_) | refine c_cond rfl (fun hc9 => ?_) (fun hc9 => ?_)
      · skip
        try simp only [nrm_] at hc9
        refine c_skip ?_
        refine q_then ?_
        refine c_seq ?_
        refine c_block ?_
        refine c_seq ?_
        obtain ⟨x, hx⟩ := take_lt (show i3 < d1.items.length by omega)
        obtain ⟨y, hy⟩ := take_lt (show i3 < d2.items.length by omega)
        obtain ⟨p1, q1, r1, hev1, hse1⟩ := h1.i.some_of (by omega)
        obtain ⟨p2, q2, r2, hev2, hse2⟩ := h2.i.some_of (by omega)
        have hr := hse1.at' Itm.len hx
        have hr2 := hse2.at' Itm.len hy
        rw [hev1, hev2]
        refine c_rord [] [(0, true), (1, true), (2, true), (3, true), (4, true), (5, true), (6, true), (7, true), (8, true), (9, true), (10, true)] (by kernel_rfl) (by kernel_rfl) (by kernel_rfl) (by kernel_rfl) rfl (by intro c a d v w h; cases d <;> exact h) rfl ?_
        simp only [mkOrd, List.filterMap_cons, List.filterMap_nil, List.getElem?_toArray, List.getElem?_cons_zero, List.getElem?_cons_succ, Option.map_some]
        refine o_y (Y_fa 6 rfl Try.underlying29 rfl sz23 rfl) rfl rfl ?_
        refine o_y ((by first | exact Y_load rfl one23 mm_ (by rfl) | exact Y_loadR rfl one23 hr rfl rfl | exact Y_loadR rfl one23 hr2 rfl rfl | exact Y_load rfl one23 mm_ (eget he rfl) | exact Y_load rfl one23 mm_ (iget hx rfl) | exact Y_load rfl one23 mm_ (by assumption) | exact Y_loadR rfl one23 (by assumption) rfl (by assumption))) rfl rfl ?_
        refine o_y (Y_mv) rfl rfl ?_
        refine o_y (Y_ia rfl rfl Try.underlying23 sz57 rfl (by omega)) rfl rfl ?_
        refine o_y (Y_loadNR (vs := x.cells) rfl many57 hr rfl) rfl rfl ?_
        refine o_y (Y_fa 6 rfl Try.underlying29 rfl sz23 rfl) rfl rfl ?_
        refine o_y ((by first | exact Y_load rfl one23 mm_ (by rfl) | exact Y_loadR rfl one23 hr rfl rfl | exact Y_loadR rfl one23 hr2 rfl rfl | exact Y_load rfl one23 mm_ (eget he rfl) | exact Y_load rfl one23 mm_ (iget hx rfl) | exact Y_load rfl one23 mm_ (by assumption) | exact Y_loadR rfl one23 (by assumption) rfl (by assumption))) rfl rfl ?_
        refine o_y (Y_mv) rfl rfl ?_
        refine o_y (Y_ia rfl rfl Try.underlying23 sz57 rfl (by omega)) rfl rfl ?_
        refine o_y (Y_loadNR (vs := y.cells) rfl many57 hr2 rfl) rfl rfl ?_
        refine o_y (Y_neF (zs := x.nums) (zs' := y.nums) rfl rfl flat57 rfl rfl) rfl rfl ?_
        refine o_nil ?_
        refine q_then ?_
        first | refine c_cond' rfl (fun hc11 => ?_) (fun hc11 => ?_) | refine c_cond rfl (fun hc11 => ?_) (fun hc11 => ?_)
        · skip
          try simp only [nrm_] at hc11
          refine c_seq ?_
          refine c_reg ?_
          refine s_y (Y_asC) rfl rfl ?_
          refine s_nil ?_
          refine q_then ?_
          refine c_ret ?_
          refine q_retG1 rfl gt_ (L' := _) sl_ (⟨⟨false, rfl, by
              refine ⟨fun h => absurd h (by decide), fun h => ?_⟩
              subst h
              rw [hx] at hy
              cases hy
              exact absurd rfl hc11⟩, rfl⟩)
        · skip
          try simp only [nrm_] at hc11
          refine c_skip ?_
          refine q_bn ?_
          refine q_then ?_
          refine c_reg ?_
          refine s_y (Y_mv) rfl rfl ?_
          refine s_y ((by first | exact Y_add rfl rfl (by omega) | exact Y_addw rfl rfl)) rfl rfl ?_
          refine s_y (Y_as) rfl rfl ?_
          refine s_nil ?_
          rw [← hev1, ← hev2]
          refine hK (m2 - 1) (i3 + 1) _ _ (by omega) ⟨by omega, take_next hx hy (Itm.nums_inj hc11) ht2⟩ ⟨rfl, trivial⟩ rfl (fun _ h => h)
      · skip
        try simp only [nrm_] at hc9
        refine c_exit ?_
        repeat with_reducible refine q_te ?_
        refine q_exit ?_
        refine q_then ?_
        refine c_seq ?_
        refine c_reg ?_
        refine s_y (Y_asC) rfl rfl ?_
        refine s_nil ?_
        refine q_then ?_
        refine c_ret ?_
        refine q_retG1 rfl gt_ (L' := _) sl_ (⟨⟨true, rfl, by
            refine ⟨fun _ => ?_, fun _ => rfl⟩
            rw [show i3 = d1.items.length by omega, List.take_length, hil, List.take_length] at ht2
            cases d1; cases d2
            simp only at *
            simp only [Wd.mk.injEq]
            exact ⟨by omega, by omega, by omega, by omega, hcc, ht, ht2, hg⟩⟩, rfl⟩)
end
end Go.Proofs.Ytecodneffflpoaa
