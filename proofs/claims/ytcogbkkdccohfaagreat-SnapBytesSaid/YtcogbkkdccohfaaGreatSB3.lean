/- Texts of this claim, laid together: part 3. -/
import Derived.Test.YtcogbkkdccohfaaGreatSB2
import Derived.Shelf.Bytes.SlCountOne
import Derived.Maps.OwnSet
set_option linter.unusedVariables false
set_option linter.unusedSimpArgs false
set_option maxHeartbeats 1600000
namespace Go.Ad
theorem ents_step {w : Wd} {i : Nat} {e : Ent} (h : w.ents[i]? = some e) : entsM w (w.ents.drop i) i = if entM w i e ≠ 0 then entM w i e else entsM w (w.ents.drop (i + 1)) (i + 1) := by
  obtain ⟨hi, rfl⟩ := List.getElem?_eq_some_iff.1 h
  rw [List.drop_eq_getElem_cons hi, entsM]
theorem items_step {cells : List UInt8} {all : List Itm} {i : Nat} {x : Itm} (h : all[i]? = some x) : itemsM cells all (all.drop i) i = if x.isZ then itemsM cells all (all.drop (i + 1)) (i + 1) else if btw x.kind 1 4 && placedM cells x && aloneM (all.take i) x then itemsM cells all (all.drop (i + 1)) (i + 1) else false := by
  obtain ⟨hi, rfl⟩ := List.getElem?_eq_some_iff.1 h
  rw [List.drop_eq_getElem_cons hi, itemsM]
theorem alone_step {l : List Itm} {k : Nat} {x y : Itm} (h : l[k]? = some y) : aloneM (l.take (k + 1)) x = (aloneM (l.take k) x && !decide (y.whr = x.whr ∧ y.a = x.a ∧ y.b = x.b ∧ y.whr ≠ 0)) := by
  obtain ⟨hi, rfl⟩ := List.getElem?_eq_some_iff.1 h
  unfold aloneM
  rw [← List.take_append_getElem hi, List.all_append, List.all_cons, List.all_nil, Bool.and_true]
theorem alone_no {l : List Itm} {k i : Nat} {x y : Itm} (h : l[k]? = some y) (hk : k < i) (hy : y.whr = x.whr ∧ y.a = x.a ∧ y.b = x.b ∧ y.whr ≠ 0) : aloneM (l.take i) x = false := by
  unfold aloneM
  rw [List.all_eq_false]
  exact ⟨y, List.mem_of_getElem? (i := k) (by rw [List.getElem?_take_of_lt hk]; exact h), by rw [decide_eq_true hy]; simp⟩
theorem cnt_step {k : UInt8} {l : List UInt8} {i : Nat} {x : UInt8} (h : l[i]? = some x) : cnt k (l.take (i + 1)) = cnt k (l.take i) + if x = k then 1 else 0 := by
  obtain ⟨hi, rfl⟩ := List.getElem?_eq_some_iff.1 h
  unfold cnt
  rw [← List.take_append_getElem hi, List.filter_append, List.length_append, List.filter_cons, List.filter_nil]
  by_cases hk : l[i] = k
  · simp [hk]
  · simp [hk]
theorem any_step {p : UInt8 → Bool} {l : List UInt8} {i : Nat} {x : UInt8} (h : l[i]? = some x) : (l.take (i + 1)).any p = ((l.take i).any p || p x) := by
  obtain ⟨hi, rfl⟩ := List.getElem?_eq_some_iff.1 h
  rw [← List.take_append_getElem hi, List.any_append, List.any_cons, List.any_nil, Bool.or_false]
theorem any_of {p : UInt8 → Bool} {l : List UInt8} {i : Nat} {x : UInt8} (h : l[i]? = some x) (hp : p x = true) : l.any p = true := List.any_eq_true.2 ⟨x, List.mem_of_getElem? h, hp⟩
theorem u8_eq {x : UInt8} {k : Nat} (hk : k < 256) : (x.toNat : Int) = k ↔ x = UInt8.ofNat k := by
  constructor
  · intro h
    apply UInt8.toNat_inj.1
    rw [UInt8.toNat_ofNat']
    omega
  · rintro rfl
    rw [UInt8.toNat_ofNat']
    omega
theorem SlB.take {α : Type} {f : α → List Value} {k : Nat} (hk : ∀ a, (f a).length = k) {W : World} {b o n c : Nat} {l : List α} (h : SlB W b o n c k (l.flatMap f)) {i : Nat} (hi : i ≤ l.length) (hn : l.length = n) : SlB W b o i c k ((l.take i).flatMap f) :=
  ⟨by rw [fl_len hk, List.length_take, Nat.min_eq_left hi], by have := h.cap; omega, h.big, h.lt, ro_take h.ro (fl_take hk l i)⟩
theorem fits_iff {w : Wd} {i : Nat} {e : Ent} (h0 : e.kind ≠ 0) : fitsM w i e = true ↔ ((0 ≤ e.gen ∧ e.gen ≤ 255) ∧ walkM (atM w.cells e.x e.y) = true ∧ eAt (w.ents.take i) e.x e.y < 0 ∧ (1 ≤ e.hp ∧ e.hp ≤ e.max) ∧ e.max = (statsM e.kind).max ∧ e.atk = (statsM e.kind).atk ∧ e.df = (statsM e.kind).df ∧ (0 ≤ e.poison ∧ e.poison ≤ 9) ∧ (0 ≤ e.stun ∧ e.stun ≤ 9) ∧ (e.kind = 1 → (0 ≤ e.seat ∧ e.seat ≤ 3) ∧ eHero (w.ents.take i) e.seat < 0) ∧ (e.kind ≠ 1 → e.seat = 0)) := by
  simp only [fitsM, btw, if_neg h0]
  by_cases hk : e.kind = 1
  · simp [hk, and_assoc]
  · simp [hk, and_assoc]
end Go.Ad
namespace Go.Proofs.YtcogbkkdccohfaaGreat
open Go.RowKit Go.Ad Go.Maps
set_option linter.unusedVariables false
set_option linter.unusedSimpArgs false
section
variable {W : World}
theorem gold_get {d : Wd} {s : Ws} {k : Nat} (h : k < 4) : (wv d s)[0 + 7 + k * 1]? = some (iv (d.gold.get k)) := by
  rcases (show k = 0 ∨ k = 1 ∨ k = 2 ∨ k = 3 by omega) with rfl | rfl | rfl | rfl <;> rfl
def goldOk (g : Four) (k : Nat) : Bool := (List.range k).all fun i => btw (g.get i) 0 999
theorem goldOk_step (g : Four) (k : Nat) : goldOk g (k + 1) = (goldOk g k && btw (g.get k) 0 999) := by
  unfold goldOk
  rw [List.range_succ, List.all_append, List.all_cons, List.all_nil, Bool.and_true]
theorem nums_gold (w : Wd) : numsOk w = (btw w.frame 0 1073741823 && btw w.floor 1 3 && btw w.state 0 2 && goldOk w.gold 4) := by
  have : goldOk w.gold 4 = (btw w.gold.a 0 999 && btw w.gold.b 0 999 && btw w.gold.c 0 999 && btw w.gold.d 0 999) := by
    rw [goldOk_step, goldOk_step, goldOk_step, goldOk_step]
    simp only [goldOk, List.range_zero, List.all_nil, Bool.true_and]
    rfl
  rw [this, numsOk]
  simp only [Bool.and_assoc]
theorem gold_no {g : Four} {k : Nat} (hk : k < 4) (h : btw (g.get k) 0 999 = false) : goldOk g 4 = false := by
  unfold goldOk
  rw [List.all_eq_false]
  exact ⟨k, List.mem_range.2 hk, by simp [h]⟩
set_option maxRecDepth 100000 in
theorem rhead_d {d : Wd} {s : Ws} (hw : WAt W d s) : Does Tryz.prog 99 [.agg (wv d s).toArray] W [] (fun v L => v = iv (headM d) ∧ L = []) := by
  refine enter Tryz.func99 rfl rfl rfl (Has.start _) ?_
  refine c_seq ?_
  refine c_reg ?_
  refine s_n (N_box (cs := wv d s) rfl) rfl rfl (fun b1 _ => ?_)
  refine s_y (Y_asC) rfl rfl ?_
  refine s_nil ?_
  refine q_then ?_
  refine c_seq ?_
  refine c_seq ?_
  refine c_reg ?_
  refine s_y (Y_fa 1 rfl Tryz.underlying34 rfl sz3 rfl) rfl rfl ?_
  refine s_y (yl_ one3) rfl rfl ?_
  refine s_y (Y_lss rfl rfl) rfl rfl ?_
  refine s_y (Y_mv) rfl rfl ?_
  apply s_or 4 [10, 11, 12, 13, 14] 14 (g := 10) rfl rfl
  · intro ht4 hm
    try simp only [nrm_] at ht4
    first | refine s_y (Y_fa 1 rfl Tryz.underlying34 rfl sz3 rfl) rfl rfl ?_ | refine s_pass rfl rfl ?_
    first | refine s_y (yl_ one3) rfl rfl ?_ | refine s_pass rfl rfl ?_
    first | refine s_y (Y_geq rfl rfl) rfl rfl ?_ | refine s_pass rfl rfl ?_
    refine s_y (Y_pk rfl Gx.const (Gx.tmp gt_)) rfl rfl ?_
    first | exact hm _ ⟨rfl, trivial⟩ rfl | exact QL.sub sl_ (hm _ ⟨rfl, trivial⟩ rfl)
  · intro ht4 hm
    iterate 3 refine s_pass rfl rfl ?_
    refine s_y (Y_pk rfl Gx.const (Gx.tmp gt_)) rfl rfl ?_
    exact hm _ ⟨rfl, trivial⟩ rfl
  intro j14
  refine s_y (Y_mv) rfl rfl ?_
  apply s_or 4 [15, 16, 17, 18, 19] 19 (g := 15) rfl rfl
  · intro ht9 hm
    try simp only [nrm_] at ht9
    first | refine s_y (Y_fa 2 rfl Tryz.underlying34 rfl sz3 rfl) rfl rfl ?_ | refine s_pass rfl rfl ?_
    first | refine s_y (yl_ one3) rfl rfl ?_ | refine s_pass rfl rfl ?_
    first | refine s_y (Y_lss rfl rfl) rfl rfl ?_ | refine s_pass rfl rfl ?_
    refine s_y (Y_pk rfl Gx.const (Gx.tmp gt_)) rfl rfl ?_
    first | exact hm _ ⟨rfl, trivial⟩ rfl | exact QL.sub sl_ (hm _ ⟨rfl, trivial⟩ rfl)
  · intro ht9 hm
    iterate 3 refine s_pass rfl rfl ?_
    refine s_y (Y_pk rfl Gx.const (Gx.tmp gt_)) rfl rfl ?_
    exact hm _ ⟨rfl, trivial⟩ rfl
  intro j19
  refine s_y (Y_mv) rfl rfl ?_
  apply s_or 4 [20, 21, 22, 23, 24] 24 (g := 20) rfl rfl
  · intro ht14 hm
    try simp only [nrm_] at ht14
    first | refine s_y (Y_fa 2 rfl Tryz.underlying34 rfl sz3 rfl) rfl rfl ?_ | refine s_pass rfl rfl ?_
    first | refine s_y (yl_ one3) rfl rfl ?_ | refine s_pass rfl rfl ?_
    first | refine s_y (Y_gtr rfl rfl) rfl rfl ?_ | refine s_pass rfl rfl ?_
    refine s_y (Y_pk rfl Gx.const (Gx.tmp gt_)) rfl rfl ?_
    first | exact hm _ ⟨rfl, trivial⟩ rfl | exact QL.sub sl_ (hm _ ⟨rfl, trivial⟩ rfl)
  · intro ht14 hm
    iterate 3 refine s_pass rfl rfl ?_
    refine s_y (Y_pk rfl Gx.const (Gx.tmp gt_)) rfl rfl ?_
    exact hm _ ⟨rfl, trivial⟩ rfl
  intro j24
  refine s_y (Y_mv) rfl rfl ?_
  apply s_or 4 [25, 26, 27, 28, 29] 29 (g := 25) rfl rfl
  · intro ht19 hm
    try simp only [nrm_] at ht19
    first | refine s_y (Y_fa 3 rfl Tryz.underlying34 rfl sz3 rfl) rfl rfl ?_ | refine s_pass rfl rfl ?_
    first | refine s_y (yl_ one3) rfl rfl ?_ | refine s_pass rfl rfl ?_
    first | refine s_y (Y_lss rfl rfl) rfl rfl ?_ | refine s_pass rfl rfl ?_
    refine s_y (Y_pk rfl Gx.const (Gx.tmp gt_)) rfl rfl ?_
    first | exact hm _ ⟨rfl, trivial⟩ rfl | exact QL.sub sl_ (hm _ ⟨rfl, trivial⟩ rfl)
  · intro ht19 hm
    iterate 3 refine s_pass rfl rfl ?_
    refine s_y (Y_pk rfl Gx.const (Gx.tmp gt_)) rfl rfl ?_
    exact hm _ ⟨rfl, trivial⟩ rfl
  intro j29
  refine s_y (Y_mv) rfl rfl ?_
  apply s_or 4 [30, 31, 32, 33, 34] 34 (g := 30) rfl rfl
  · intro ht24 hm
    try simp only [nrm_] at ht24
    first | refine s_y (Y_fa 3 rfl Tryz.underlying34 rfl sz3 rfl) rfl rfl ?_ | refine s_pass rfl rfl ?_
    first | refine s_y (yl_ one3) rfl rfl ?_ | refine s_pass rfl rfl ?_
    first | refine s_y (Y_gtr rfl rfl) rfl rfl ?_ | refine s_pass rfl rfl ?_
    refine s_y (Y_pk rfl Gx.const (Gx.tmp gt_)) rfl rfl ?_
    first | exact hm _ ⟨rfl, trivial⟩ rfl | exact QL.sub sl_ (hm _ ⟨rfl, trivial⟩ rfl)
  · intro ht24 hm
    iterate 3 refine s_pass rfl rfl ?_
    refine s_y (Y_pk rfl Gx.const (Gx.tmp gt_)) rfl rfl ?_
    exact hm _ ⟨rfl, trivial⟩ rfl
  intro j34
  refine s_nil ?_
  refine q_then ?_
  first | refine c_cond' rfl (fun hc1 => ?_) (fun hc1 => ?_) | refine c_cond rfl (fun hc1 => ?_) (fun hc1 => ?_)
  · skip
    try simp only [nrm_] at hc1
    refine c_seq ?_
    refine c_reg ?_
    refine s_y (Y_asC) rfl rfl ?_
    refine s_nil ?_
    refine q_then ?_
    refine c_ret ?_
    refine q_retG1 rfl gt_ (L' := _) sl_ (⟨by
        have : numsOk d = false := by
          rw [nums_gold]
          cases goldOk d.gold 4
          · simp
          · unfold btw; rw [Bool.eq_false_iff]; simp only [nrm_, ne_eq, and_true]; omega
        unfold headM; rw [if_pos this], rfl⟩)
  · skip
    try simp only [nrm_] at hc1
    refine c_skip ?_
    refine q_then ?_
    refine c_seq ?_
    refine c_seq ?_
    have h1 : (btw d.frame 0 1073741823 && btw d.floor 1 3 && btw d.state 0 2) = true := by unfold btw; simp only [nrm_]; omega
    refine c_reg ?_
    refine s_y (Y_asC) rfl rfl ?_
    refine s_nil ?_
    refine q_then ?_
    refine c_block ?_
    refine c_loop [2, 3, 35, 36, 37, 38, 39, 40, 41, 42, 43, 44, 45, 46, 47, 48, 49, 50] (fun m i => i + m = 4 ∧ goldOk d.gold i = true) (fun i => [(3, iv i)]) (fun _ => [wB b1 (wv d s)]) (4) (0) (⟨rfl, rfl⟩) (by repeat (first | exact trivial | refine ⟨rfl, ?_⟩)) (fun _ h => h.sub sl_) (fun _ => rfl) ?_
    rintro m i j ⟨hi, hg⟩ K hK
    refine c_seq ?_
    refine c_seq ?_
    refine c_reg ?_
    refine s_y (Y_mv) rfl rfl ?_
    refine s_y (Y_lss rfl rfl) rfl rfl ?_
    refine s_nil ?_
    refine q_then ?_
    first | refine c_cond' rfl (fun hc4 => ?_) (fun hc4 => ?_) | refine c_cond rfl (fun hc4 => ?_) (fun hc4 => ?_)
    · skip
      try simp only [nrm_] at hc4
      refine c_skip ?_
      refine q_then ?_
      refine c_seq ?_
      refine c_block ?_
      refine c_seq ?_
      refine c_reg ?_
      refine s_y (Y_mv) rfl rfl ?_
      refine s_y (Y_fa 7 rfl Tryz.underlying34 rfl sz32 rfl) rfl rfl ?_
      refine s_y (Y_iaA rfl rfl Tryz.underlying32 sz3 rfl (by omega)) rfl rfl ?_
      refine s_y (Y_load (v := iv (d.gold.get i)) rfl one3 mm_ (gold_get (by omega))) rfl rfl ?_
      refine s_y (Y_lss rfl rfl) rfl rfl ?_
      refine s_y (Y_mv) rfl rfl ?_
      apply s_or 6 [44, 45, 46, 47, 48, 49, 50] 50 (g := 44) rfl rfl
      · intro ht6 hm
        try simp only [nrm_] at ht6
        first | refine s_y (Y_mv) rfl rfl ?_ | refine s_pass rfl rfl ?_
        first | refine s_y (Y_fa 7 rfl Tryz.underlying34 rfl sz32 rfl) rfl rfl ?_ | refine s_pass rfl rfl ?_
        first | refine s_y (Y_iaA rfl rfl Tryz.underlying32 sz3 rfl (by omega)) rfl rfl ?_ | refine s_pass rfl rfl ?_
        first | refine s_y (Y_load (v := iv (d.gold.get i)) rfl one3 mm_ (gold_get (by omega))) rfl rfl ?_ | refine s_pass rfl rfl ?_
        first | refine s_y (Y_gtr rfl rfl) rfl rfl ?_ | refine s_pass rfl rfl ?_
        refine s_y (Y_pk rfl Gx.const (Gx.tmp gt_)) rfl rfl ?_
        first | exact hm _ ⟨rfl, trivial⟩ rfl | exact QL.sub sl_ (hm _ ⟨rfl, trivial⟩ rfl)
      · intro ht6 hm
        iterate 5 refine s_pass rfl rfl ?_
        refine s_y (Y_pk rfl Gx.const (Gx.tmp gt_)) rfl rfl ?_
        exact hm _ ⟨rfl, trivial⟩ rfl
      intro j50
      refine s_nil ?_
      refine q_then ?_
      first | refine c_cond' rfl (fun hc6 => ?_) (fun hc6 => ?_) | refine c_cond rfl (fun hc6 => ?_) (fun hc6 => ?_)
      · skip
        try simp only [nrm_] at hc6
        refine c_seq ?_
        refine c_reg ?_
        refine s_y (Y_asC) rfl rfl ?_
        refine s_nil ?_
        refine q_then ?_
        refine c_ret ?_
        refine q_retG1 rfl gt_ (L' := _) sl_ (⟨by
            have : numsOk d = false := by
              rw [nums_gold, gold_no (k := i) (by omega) (by unfold btw; rw [Bool.eq_false_iff]; simp only [nrm_, ne_eq]; omega), Bool.and_false]
            unfold headM; rw [if_pos this], rfl⟩)
      · skip
        try simp only [nrm_] at hc6
        refine c_skip ?_
        refine q_bn ?_
        refine q_then ?_
        refine c_reg ?_
        refine s_y (Y_mv) rfl rfl ?_
        refine s_y ad_ rfl rfl ?_
        refine s_y (Y_as) rfl rfl ?_
        refine s_nil ?_
        refine hK (m - 1) (i + 1) _ _ (by omega) ⟨by omega, by rw [goldOk_step, hg]; unfold btw; simp only [nrm_, Bool.true_and]; omega⟩ ⟨rfl, trivial⟩ rfl (fun _ h => h)
    · skip
      try simp only [nrm_] at hc4
      refine c_exit ?_
      repeat with_reducible refine q_te ?_
      refine q_exit ?_
      refine q_then ?_
      refine c_seq ?_
      refine c_seq ?_
      obtain rfl : i = 4 := by omega
      have hn : ¬ numsOk d = false := by rw [nums_gold, hg, h1]; simp
      refine c_reg ?_
      refine s_y (Y_fa 4 rfl Tryz.underlying34 rfl sz24 rfl) rfl rfl ?_
      refine s_y (yl_ one24) rfl rfl ?_
      refine s_y (Y_len rfl rfl Tryz.underlying24) rfl rfl ?_
      refine s_y (Y_neq rfl rfl) rfl rfl ?_
      refine s_y (Y_mv) rfl rfl ?_
      apply s_or 5 [55, 56, 57, 58, 59, 60] 60 (g := 55) rfl rfl
      · intro ht5 hm
        try simp only [nrm_] at ht5
        first | refine s_y (Y_fa 5 rfl Tryz.underlying34 rfl sz30 rfl) rfl rfl ?_ | refine s_pass rfl rfl ?_
        first | refine s_y (yl_ one30) rfl rfl ?_ | refine s_pass rfl rfl ?_
        first | refine s_y (Y_len rfl rfl Tryz.underlying30) rfl rfl ?_ | refine s_pass rfl rfl ?_
        first | refine s_y (Y_neq rfl rfl) rfl rfl ?_ | refine s_pass rfl rfl ?_
        refine s_y (Y_pk rfl Gx.const (Gx.tmp gt_)) rfl rfl ?_
        first | exact hm _ ⟨rfl, trivial⟩ rfl | exact QL.sub sl_ (hm _ ⟨rfl, trivial⟩ rfl)
      · intro ht5 hm
        iterate 4 refine s_pass rfl rfl ?_
        refine s_y (Y_pk rfl Gx.const (Gx.tmp gt_)) rfl rfl ?_
        exact hm _ ⟨rfl, trivial⟩ rfl
      intro j60
      refine s_y (Y_mv) rfl rfl ?_
      apply s_or 5 [61, 62, 63, 64, 65, 66] 66 (g := 61) rfl rfl
      · intro ht11 hm
        try simp only [nrm_] at ht11
        first | refine s_y (Y_fa 6 rfl Tryz.underlying34 rfl sz31 rfl) rfl rfl ?_ | refine s_pass rfl rfl ?_
        first | refine s_y (yl_ one31) rfl rfl ?_ | refine s_pass rfl rfl ?_
        first | refine s_y (Y_len rfl rfl Tryz.underlying31) rfl rfl ?_ | refine s_pass rfl rfl ?_
        first | refine s_y (Y_neq rfl rfl) rfl rfl ?_ | refine s_pass rfl rfl ?_
        refine s_y (Y_pk rfl Gx.const (Gx.tmp gt_)) rfl rfl ?_
        first | exact hm _ ⟨rfl, trivial⟩ rfl | exact QL.sub sl_ (hm _ ⟨rfl, trivial⟩ rfl)
      · intro ht11 hm
        iterate 4 refine s_pass rfl rfl ?_
        refine s_y (Y_pk rfl Gx.const (Gx.tmp gt_)) rfl rfl ?_
        exact hm _ ⟨rfl, trivial⟩ rfl
      intro j66
      refine s_nil ?_
      refine q_then ?_
      first | refine c_cond' rfl (fun hc8 => ?_) (fun hc8 => ?_) | refine c_cond rfl (fun hc8 => ?_) (fun hc8 => ?_)
      · skip
        try simp only [nrm_] at hc8
        refine c_seq ?_
        refine c_reg ?_
        refine s_y (Y_asC) rfl rfl ?_
        refine s_nil ?_
        refine q_then ?_
        refine c_ret ?_
        refine q_retG1 rfl gt_ (L' := _) sl_ (⟨by
            have : sizesOk d = false := by unfold sizesOk; rw [decide_eq_false_iff_not]; omega
            unfold headM; rw [if_neg hn, if_pos this], rfl⟩)
      · skip
        try simp only [nrm_] at hc8
        refine c_skip ?_
        refine q_then ?_
        refine c_seq ?_
        have hs : ¬ sizesOk d = false := by unfold sizesOk; simp only [nrm_]; omega
        refine c_reg ?_
        refine s_y (Y_asC) rfl rfl ?_
        refine s_y (Y_asC) rfl rfl ?_
        refine s_nil ?_
        refine q_then ?_
        refine c_seq ?_
        refine c_seq ?_
        refine c_reg ?_
        refine s_y (Y_asC) rfl rfl ?_
        refine s_nil ?_
        refine q_then ?_
        refine c_block ?_
        refine c_loop [2, 4, 5, 6, 67, 68, 69, 70, 71, 72, 73, 74, 75, 76, 77, 78, 79, 80, 81, 82, 83, 84, 85, 86, 87, 88, 89, 90, 91, 92, 93, 94, 95] (fun m (y : Nat × Nat × Nat) => y.1 + m = d.cells.length ∧ y.2.1 = cnt 3 (d.cells.take y.1) ∧ y.2.2 = cnt 4 (d.cells.take y.1) ∧ (d.cells.take y.1).any (fun x => decide (5 < x.toNat)) = false ∧ y.2.1 ≤ y.1 ∧ y.2.2 ≤ y.1) (fun y => [(6, iv y.1), (4, iv y.2.1), (5, iv y.2.2)]) (fun _ => [wB b1 (wv d s)]) (d.cells.length) ((0, 0, 0)) (⟨by simp only; omega, rfl, rfl, rfl, Nat.le_refl _, Nat.le_refl _⟩) (by repeat (first | exact trivial | refine ⟨rfl, ?_⟩)) (fun _ h => h.sub sl_) (fun _ => rfl) ?_
        rintro m ⟨i, up, dn⟩ j ⟨hi, hu, hd, ha, hu1, hd1⟩ K hK
        simp only at hi hu hd ha hu1 hd1 ⊢
        refine c_seq ?_
        refine c_seq ?_
        refine c_reg ?_
        refine s_y (Y_mv) rfl rfl ?_
        refine s_y (Y_fa 4 rfl Tryz.underlying34 rfl sz24 rfl) rfl rfl ?_
        refine s_y (yl_ one24) rfl rfl ?_
        refine s_y (Y_len rfl rfl Tryz.underlying24) rfl rfl ?_
        refine s_y (Y_lss rfl rfl) rfl rfl ?_
        refine s_nil ?_
        refine q_then ?_
        first | refine c_cond' rfl (fun hc12 => ?_) (fun hc12 => ?_) | refine c_cond rfl (fun hc12 => ?_) (fun hc12 => ?_)
        · skip
          try simp only [nrm_] at hc12
          refine c_skip ?_
          refine q_then ?_
          refine c_seq ?_
          refine c_block ?_
          refine c_seq ?_
          refine c_seq ?_
          obtain ⟨x, hx⟩ := take_lt (show i < d.cells.length by omega)
          have hu' := cnt_step (k := 3) hx
          have hd' := cnt_step (k := 4) hx
          have ha' := any_step (p := fun x => decide (5 < x.toNat)) hx
          have e3 : (x.toNat : Int) = 3 ↔ x = 3 := u8_eq (k := 3) (by omega)
          have e4 : (x.toNat : Int) = 4 ↔ x = 4 := u8_eq (k := 4) (by omega)
          rw [← hu] at hu'
          rw [← hd] at hd'
          rw [ha, Bool.false_or] at ha'
          have hlen := hw.c.len
          refine c_reg ?_
          refine s_y (Y_fa 4 rfl Tryz.underlying34 rfl sz24 rfl) rfl rfl ?_
          refine s_y (yl_ one24) rfl rfl ?_
          refine s_y (Y_mv) rfl rfl ?_
          refine s_y (Y_ia1 rfl rfl Tryz.underlying24 sz5 rfl (by omega)) rfl rfl ?_
          refine s_y (Y_loadR (v := bv x) (i := i) rfl one5 hw.c.ro rfl (by rw [List.getElem?_map, hx]; rfl)) rfl rfl ?_
          refine s_y (Y_gtr rfl rfl) rfl rfl ?_
          refine s_nil ?_
          refine q_then ?_
          first | refine c_cond' rfl (fun hc14 => ?_) (fun hc14 => ?_) | refine c_cond rfl (fun hc14 => ?_) (fun hc14 => ?_)
          · skip
            try simp only [nrm_] at hc14
            refine c_seq ?_
            refine c_reg ?_
            refine s_y (Y_asC) rfl rfl ?_
            refine s_nil ?_
            refine q_then ?_
            refine c_ret ?_
            refine q_retG1 rfl gt_ (L' := _) sl_ (⟨by unfold headM; rw [if_neg hn, if_neg hs, if_pos (any_of hx (decide_eq_true (by omega)))], rfl⟩)
          · skip
            try simp only [nrm_] at hc14
            refine c_skip ?_
            refine q_then ?_
            refine c_seq ?_
            refine c_seq ?_
            refine c_reg ?_
            refine s_y (Y_fa 4 rfl Tryz.underlying34 rfl sz24 rfl) rfl rfl ?_
            refine s_y (yl_ one24) rfl rfl ?_
            refine s_y (Y_mv) rfl rfl ?_
            refine s_y (Y_ia1 rfl rfl Tryz.underlying24 sz5 rfl (by omega)) rfl rfl ?_
            refine s_y (Y_loadR (v := bv x) (i := i) rfl one5 hw.c.ro rfl (by rw [List.getElem?_map, hx]; rfl)) rfl rfl ?_
            refine s_y (Y_eql rfl rfl) rfl rfl ?_
            refine s_nil ?_
            refine q_then ?_
            first | refine c_cond' rfl (fun hc16 => ?_) (fun hc16 => ?_) | refine c_cond rfl (fun hc16 => ?_) (fun hc16 => ?_)
            · skip
              try simp only [nrm_] at hc16
              refine c_reg ?_
              refine s_y (Y_mv) rfl rfl ?_
              refine s_y ad_ rfl rfl ?_
              refine s_y (Y_as) rfl rfl ?_
              refine s_nil ?_
              refine q_then ?_
              refine c_seq ?_
              refine c_reg ?_
              refine s_y (Y_fa 4 rfl Tryz.underlying34 rfl sz24 rfl) rfl rfl ?_
              refine s_y (yl_ one24) rfl rfl ?_
              refine s_y (Y_mv) rfl rfl ?_
              refine s_y (Y_ia1 rfl rfl Tryz.underlying24 sz5 rfl (by omega)) rfl rfl ?_
              refine s_y (Y_loadR (v := bv x) (i := i) rfl one5 hw.c.ro rfl (by rw [List.getElem?_map, hx]; rfl)) rfl rfl ?_
              refine s_y (Y_eql rfl rfl) rfl rfl ?_
              refine s_nil ?_
              refine q_then ?_
              first | refine c_cond' rfl (fun hc18 => ?_) (fun hc18 => ?_) | refine c_cond rfl (fun hc18 => ?_) (fun hc18 => ?_)
              · skip
                try simp only [nrm_] at hc18
                refine c_reg ?_
                refine s_y (Y_mv) rfl rfl ?_
                refine s_y ad_ rfl rfl ?_
                refine s_y (Y_as) rfl rfl ?_
                refine s_nil ?_
                refine q_bn ?_
                refine q_then ?_
                refine c_reg ?_
                refine s_y (Y_mv) rfl rfl ?_
                refine s_y ad_ rfl rfl ?_
                refine s_y (Y_as) rfl rfl ?_
                refine s_nil ?_
                exact absurd (hc16.symm.trans hc18) (by decide)
              · skip
                try simp only [nrm_] at hc18
                refine c_skip ?_
                refine q_bn ?_
                refine q_then ?_
                refine c_reg ?_
                refine s_y (Y_mv) rfl rfl ?_
                refine s_y ad_ rfl rfl ?_
                refine s_y (Y_as) rfl rfl ?_
                refine s_nil ?_
                refine hK (m - 1) (i + 1, up + 1, dn) _ _ (by omega) ⟨by simp only; omega, by rw [hu', if_pos (e3.1 hc16)], by rw [hd', if_neg (fun h => hc18 (e4.2 h))]; rfl, by rw [ha']; exact decide_eq_false (by omega), by simp only; omega, by simp only; omega⟩ ⟨rfl, rfl, rfl, trivial⟩ rfl (fun _ h => h)
            · skip
              try simp only [nrm_] at hc16
              refine c_skip ?_
              refine q_then ?_
              refine c_seq ?_
              refine c_reg ?_
              refine s_y (Y_fa 4 rfl Tryz.underlying34 rfl sz24 rfl) rfl rfl ?_
              refine s_y (yl_ one24) rfl rfl ?_
              refine s_y (Y_mv) rfl rfl ?_
              refine s_y (Y_ia1 rfl rfl Tryz.underlying24 sz5 rfl (by omega)) rfl rfl ?_
              refine s_y (Y_loadR (v := bv x) (i := i) rfl one5 hw.c.ro rfl (by rw [List.getElem?_map, hx]; rfl)) rfl rfl ?_
              refine s_y (Y_eql rfl rfl) rfl rfl ?_
              refine s_nil ?_
              refine q_then ?_
              first | refine c_cond' rfl (fun hc18 => ?_) (fun hc18 => ?_) | refine c_cond rfl (fun hc18 => ?_) (fun hc18 => ?_)
              · skip
                try simp only [nrm_] at hc18
                refine c_reg ?_
                refine s_y (Y_mv) rfl rfl ?_
                refine s_y ad_ rfl rfl ?_
                refine s_y (Y_as) rfl rfl ?_
                refine s_nil ?_
                refine q_bn ?_
                refine q_then ?_
                refine c_reg ?_
                refine s_y (Y_mv) rfl rfl ?_
                refine s_y ad_ rfl rfl ?_
                refine s_y (Y_as) rfl rfl ?_
                refine s_nil ?_
                refine hK (m - 1) (i + 1, up, dn + 1) _ _ (by omega) ⟨by simp only; omega, by rw [hu', if_neg (fun h => hc16 (e3.2 h))]; rfl, by rw [hd', if_pos (e4.1 hc18)], by rw [ha']; exact decide_eq_false (by omega), by simp only; omega, by simp only; omega⟩ ⟨rfl, rfl, rfl, trivial⟩ rfl (fun _ h => h)
              · skip
                try simp only [nrm_] at hc18
                refine c_skip ?_
                refine q_bn ?_
                refine q_then ?_
                refine c_reg ?_
                refine s_y (Y_mv) rfl rfl ?_
                refine s_y ad_ rfl rfl ?_
                refine s_y (Y_as) rfl rfl ?_
                refine s_nil ?_
                refine hK (m - 1) (i + 1, up, dn) _ _ (by omega) ⟨by simp only; omega, by rw [hu', if_neg (fun h => hc16 (e3.2 h))]; rfl, by rw [hd', if_neg (fun h => hc18 (e4.2 h))]; rfl, by rw [ha']; exact decide_eq_false (by omega), by simp only; omega, by simp only; omega⟩ ⟨rfl, rfl, rfl, trivial⟩ rfl (fun _ h => h)
        · skip
          try simp only [nrm_] at hc12
          refine c_exit ?_
          repeat with_reducible refine q_te ?_
          refine q_exit ?_
          refine q_then ?_
          refine c_seq ?_
          refine c_seq ?_
          obtain rfl : i = d.cells.length := by omega
          rw [List.take_length] at hu hd ha
          refine c_reg ?_
          refine s_y (Y_mv) rfl rfl ?_
          refine s_y (Y_neq rfl rfl) rfl rfl ?_
          refine s_y (Y_mv) rfl rfl ?_
          apply s_or 3 [98, 99, 100, 101] 101 (g := 98) rfl rfl
          · intro ht3 hm
            try simp only [nrm_] at ht3
            first | refine s_y (Y_mv) rfl rfl ?_ | refine s_pass rfl rfl ?_
            first | refine s_y (Y_neq rfl rfl) rfl rfl ?_ | refine s_pass rfl rfl ?_
            refine s_y (Y_pk rfl Gx.const (Gx.tmp gt_)) rfl rfl ?_
            first | exact hm _ ⟨rfl, trivial⟩ rfl | exact QL.sub sl_ (hm _ ⟨rfl, trivial⟩ rfl)
          · intro ht3 hm
            iterate 2 refine s_pass rfl rfl ?_
            refine s_y (Y_pk rfl Gx.const (Gx.tmp gt_)) rfl rfl ?_
            exact hm _ ⟨rfl, trivial⟩ rfl
          intro j101
          refine s_nil ?_
          refine q_then ?_
          first | refine c_cond' rfl (fun hc20 => ?_) (fun hc20 => ?_) | refine c_cond rfl (fun hc20 => ?_) (fun hc20 => ?_)
          · skip
            try simp only [nrm_] at hc20
            refine c_seq ?_
            refine c_reg ?_
            refine s_y (Y_asC) rfl rfl ?_
            refine s_nil ?_
            refine q_then ?_
            refine c_ret ?_
            refine q_retG1 rfl gt_ (L' := _) sl_ (⟨by unfold headM; rw [if_neg hn, if_neg hs, if_neg (by rw [ha]; simp), if_neg (by omega)], rfl⟩)
          · skip
            try simp only [nrm_] at hc20
            refine c_skip ?_
            refine q_then ?_
            refine c_seq ?_
            refine c_reg ?_
            refine s_y (Y_asC) rfl rfl ?_
            refine s_nil ?_
            refine q_then ?_
            refine c_ret ?_
            refine q_retG1 rfl gt_ (L' := _) sl_ (⟨by unfold headM; rw [if_neg hn, if_neg hs, if_neg (by rw [ha]; simp), if_pos (by omega)], rfl⟩)
set_option maxRecDepth 100000 in
theorem rent_d {d : Wd} {s : Ws} (hw : WAt W d s) {i : Nat} {e : Ent} (he : d.ents[i]? = some e) : Does Tryz.prog 100 [.agg (wv d s).toArray, iv i] W [] (fun v L => v = iv (entM d i e) ∧ L = []) := by
  have hr := hw.e.at' Ent.len he
  have hcap := hw.e.cap
  have hil : i < d.ents.length := (List.getElem?_eq_some_iff.1 he).1
  have hst := hw.e.take Ent.len (Nat.le_of_lt hil) rfl
  obtain ⟨st, hst0⟩ : ∃ q, statsM e.kind = q := ⟨_, rfl⟩
  refine enter Tryz.func100 rfl rfl rfl (Has.start _) ?_
  refine c_seq ?_
  refine c_reg ?_
  refine s_n (N_box (cs := wv d s) rfl) rfl rfl (fun b2 _ => ?_)
  refine s_y (Y_asC) rfl rfl ?_
  refine s_nil ?_
  refine q_then ?_
  refine c_seq ?_
  refine c_reg ?_
  refine s_y (Y_fa 5 rfl Tryz.underlying34 rfl sz30 rfl) rfl rfl ?_
  refine s_y (yl_ one30) rfl rfl ?_
  refine s_y (Y_mv) rfl rfl ?_
  refine s_y (Y_ia rfl rfl Tryz.underlying30 sz93 rfl (by omega)) rfl rfl ?_
  refine s_y (ya_ many93) rfl rfl ?_
  refine s_n (N_alloc (z := .agg #[.int .i64 0, .int .i64 0, .int .i64 0, .int .i64 0, .int .i64 0, .int .i64 0, .int .i64 0, .int .i64 0, .int .i64 0, .int .i64 0, .int .i64 0]) (cs := [.int .i64 0, .int .i64 0, .int .i64 0, .int .i64 0, .int .i64 0, .int .i64 0, .int .i64 0, .int .i64 0, .int .i64 0, .int .i64 0, .int .i64 0]) zv93 rfl) rfl rfl (fun b5 _ => ?_)
  refine s_s (S_storeA (vs := e.cells) rfl rfl sz93 (by rfl) (by rfl) up_ (by rfl)) rfl ?_
  refine s_nil ?_
  refine q_then ?_
  refine c_seq ?_
  refine c_seq ?_
  refine c_reg ?_
  refine s_y (Y_fa 0 rfl Tryz.underlying93 rfl sz3 rfl) rfl rfl ?_
  refine s_y (yl_ one3) rfl rfl ?_
  refine s_y (Y_lss rfl rfl) rfl rfl ?_
  refine s_y (Y_mv) rfl rfl ?_
  apply s_or 4 [15, 16, 17, 18, 19] 19 (g := 15) rfl rfl
  · intro ht4 hm
    try simp only [nrm_] at ht4
    first | refine s_y (Y_fa 0 rfl Tryz.underlying93 rfl sz3 rfl) rfl rfl ?_ | refine s_pass rfl rfl ?_
    first | refine s_y (yl_ one3) rfl rfl ?_ | refine s_pass rfl rfl ?_
    first | refine s_y (Y_gtr rfl rfl) rfl rfl ?_ | refine s_pass rfl rfl ?_
    refine s_y (Y_pk rfl Gx.const (Gx.tmp gt_)) rfl rfl ?_
    first | exact hm _ ⟨rfl, trivial⟩ rfl | exact QL.sub sl_ (hm _ ⟨rfl, trivial⟩ rfl)
  · intro ht4 hm
    iterate 3 refine s_pass rfl rfl ?_
    refine s_y (Y_pk rfl Gx.const (Gx.tmp gt_)) rfl rfl ?_
    exact hm _ ⟨rfl, trivial⟩ rfl
  intro j19
  refine s_nil ?_
  refine q_then ?_
  first | refine c_cond' rfl (fun hc2 => ?_) (fun hc2 => ?_) | refine c_cond rfl (fun hc2 => ?_) (fun hc2 => ?_)
  · skip
    try simp only [nrm_] at hc2
    refine c_seq ?_
    refine c_reg ?_
    refine s_y (Y_asC) rfl rfl ?_
    refine s_nil ?_
    refine q_then ?_
    refine c_ret ?_
    refine q_retG1 rfl gt_ (L' := _) sl_ (⟨by unfold entM; rw [if_pos]; unfold btw; rw [Bool.eq_false_iff]; simp only [nrm_, ne_eq]; omega, rfl⟩)
  · skip
    try simp only [nrm_] at hc2
    refine c_skip ?_
    refine q_then ?_
    refine c_seq ?_
    refine c_seq ?_
    have hk : ¬ btw e.kind 0 4 = false := by unfold btw; simp only [nrm_]; omega
    refine c_reg ?_
    refine s_y (Y_fa 1 rfl Tryz.underlying93 rfl sz3 rfl) rfl rfl ?_
    refine s_y (yl_ one3) rfl rfl ?_
    refine s_y (Y_lss rfl rfl) rfl rfl ?_
    refine s_y (Y_mv) rfl rfl ?_
    apply s_or 4 [23, 24, 25, 26, 27] 27 (g := 23) rfl rfl
    · intro ht4 hm
      try simp only [nrm_] at ht4
      first | refine s_y (Y_fa 1 rfl Tryz.underlying93 rfl sz3 rfl) rfl rfl ?_ | refine s_pass rfl rfl ?_
      first | refine s_y (yl_ one3) rfl rfl ?_ | refine s_pass rfl rfl ?_
      first | refine s_y (Y_gtr rfl rfl) rfl rfl ?_ | refine s_pass rfl rfl ?_
      refine s_y (Y_pk rfl Gx.const (Gx.tmp gt_)) rfl rfl ?_
      first | exact hm _ ⟨rfl, trivial⟩ rfl | exact QL.sub sl_ (hm _ ⟨rfl, trivial⟩ rfl)
    · intro ht4 hm
      iterate 3 refine s_pass rfl rfl ?_
      refine s_y (Y_pk rfl Gx.const (Gx.tmp gt_)) rfl rfl ?_
      exact hm _ ⟨rfl, trivial⟩ rfl
    intro j27
    refine s_nil ?_
    refine q_then ?_
    first | refine c_cond' rfl (fun hc4 => ?_) (fun hc4 => ?_) | refine c_cond rfl (fun hc4 => ?_) (fun hc4 => ?_)
    · skip
      try simp only [nrm_] at hc4
      refine c_seq ?_
      refine c_reg ?_
      refine s_y (Y_asC) rfl rfl ?_
      refine s_nil ?_
      refine q_then ?_
      refine c_ret ?_
      refine q_retG1 rfl gt_ (L' := _) sl_ (⟨by
          have : fitsM d i e = false := by
            by_cases h0 : e.kind = 0
            · unfold fitsM btw; rw [Bool.eq_false_iff]; simp only [nrm_, ne_eq]; omega
            · rw [Bool.eq_false_iff, ne_eq, fits_iff h0]; omega
          unfold entM; rw [if_neg hk, this]; rfl, rfl⟩)
    · skip
      try simp only [nrm_] at hc4
      refine c_skip ?_
      refine q_then ?_
      refine c_seq ?_
      refine c_seq ?_
      refine c_reg ?_
      refine s_y (Y_fa 0 rfl Tryz.underlying93 rfl sz3 rfl) rfl rfl ?_
      refine s_y (yl_ one3) rfl rfl ?_
      refine s_y (Y_eql rfl rfl) rfl rfl ?_
      refine s_nil ?_
      refine q_then ?_
      first | refine c_cond' rfl (fun hc6 => ?_) (fun hc6 => ?_) | refine c_cond rfl (fun hc6 => ?_) (fun hc6 => ?_)
      · skip
        try simp only [nrm_] at hc6
        refine c_seq ?_
        refine c_seq ?_
        refine c_reg ?_
        refine s_y (ya_ many93) rfl rfl ?_
        refine s_y (Y_fa 1 rfl Tryz.underlying93 rfl sz3 rfl) rfl rfl ?_
        refine s_y (yl_ one3) rfl rfl ?_
        refine s_y (Y_build (cs := [.int .i64 0, _, .int .i64 0, .int .i64 0, .int .i64 0, .int .i64 0, .int .i64 0, .int .i64 0, .int .i64 0, .int .i64 0, .int .i64 0]) (by repeat (first | exact Gp.nil | apply Gp.const | apply Gp.tmp gt_)) (bld93 _ _ (by first | rfl | (simp; rfl)))) rfl rfl ?_
        refine s_y (Y_neF (zs := [e.kind, e.gen, e.seat, e.x, e.y, e.hp, e.max, e.atk, e.df, e.poison, e.stun]) (zs' := [0, e.gen, 0, 0, 0, 0, 0, 0, 0, 0, 0]) rfl rfl flat93 rfl rfl) rfl rfl ?_
        refine s_nil ?_
        refine q_then ?_
        first | refine c_cond' rfl (fun hc7 => ?_) (fun hc7 => ?_) | refine c_cond rfl (fun hc7 => ?_) (fun hc7 => ?_)
        · skip
          try simp only [nrm_] at hc7
          refine c_seq ?_
          refine c_reg ?_
          refine s_y (Y_asC) rfl rfl ?_
          refine s_nil ?_
          refine q_then ?_
          refine c_ret ?_
          refine q_retG1 rfl gt_ (L' := _) sl_ (⟨by
              have : fitsM d i e = false := by
                unfold fitsM btw
                rw [if_pos hc6]
                rw [Bool.eq_false_iff]
                intro h
                apply hc7
                simp only [nrm_] at h
                obtain ⟨_, h1, h2, h3, h4, h5, h6, h7, h8, h9⟩ := h
                rw [hc6, h1, h2, h3, h4, h5, h6, h7, h8, h9]
              unfold entM; rw [if_neg hk, this]; rfl, rfl⟩)
        · skip
          try simp only [nrm_] at hc7
          refine c_skip ?_
          refine q_then ?_
          refine c_seq ?_
          refine c_reg ?_
          refine s_y (Y_asC) rfl rfl ?_
          refine s_nil ?_
          refine q_then ?_
          refine c_ret ?_
          refine q_retG1 rfl gt_ (L' := _) sl_ (⟨by
              have : fitsM d i e = true := by
                simp only [List.cons.injEq, and_true, true_and] at hc7
                unfold fitsM btw
                rw [if_pos hc6]
                simp only [nrm_]
                omega
              unfold entM; rw [if_neg hk, this]; rfl, rfl⟩)
      · skip
        try simp only [nrm_] at hc6
        refine c_skip ?_
        refine q_then ?_
        refine c_seq ?_
        refine c_reg ?_
        refine s_y (Y_fa 0 rfl Tryz.underlying93 rfl sz3 rfl) rfl rfl ?_
        refine s_y (yl_ one3) rfl rfl ?_
        refine s_c (En_call (fun _ => rfl) Tryz.func86 rfl (by kernel_rfl) rfl) (fun w hH => rstats_d) rfl rfl ?_
        rintro _ _ ⟨rfl, rfl⟩
        rw [hst0]
        refine s_n (N_alloc (z := .agg #[.int .i64 0, .int .i64 0, .int .i64 0, .int .i64 0, .int .i64 0, .int .i64 0, .int .i64 0, .int .i64 0, .int .i64 0, .int .i64 0, .int .i64 0]) (cs := [.int .i64 0, .int .i64 0, .int .i64 0, .int .i64 0, .int .i64 0, .int .i64 0, .int .i64 0, .int .i64 0, .int .i64 0, .int .i64 0, .int .i64 0]) zv93 rfl) rfl rfl (fun b6 _ => ?_)
        refine s_s (S_storeA (vs := st.cells) rfl rfl sz93 (by rfl) (by rfl) up_ (by rfl)) rfl ?_
        refine s_nil ?_
        refine q_then ?_
        refine c_seq ?_
        refine c_seq ?_
        refine c_rordS (L0 := [⟨b6, 93, 11, 1, st.cells⟩, ⟨b5, 93, 11, 1, e.cells⟩, wB b2 (wv d s)]) sl_ [] [(0, true), (1, true), (2, true), (3, true), (4, true), (5, true), (6, false), (7, false), (8, true), (9, true), (10, true), (11, true), (12, true), (13, true), (14, true), (15, true), (16, true), (17, true), (18, false), (19, true), (20, true), (21, true), (22, true), (23, true), (24, true), (25, true), (26, true), (27, true), (28, true), (29, true), (30, true), (31, true), (32, true), (33, true), (34, true), (35, true), (36, true), (37, true), (38, true), (39, true), (40, true), (41, true), (42, true), (43, true), (44, true), (45, true), (46, true), (47, true), (48, true), (49, true), (50, true), (51, true), (52, true), (53, true), (54, true), (55, true), (56, true), (57, true), (58, true), (59, true), (60, true), (61, true), (62, true), (63, true), (64, true), (65, true), (66, true), (67, true), (68, true), (69, true), (70, true), (71, true), (72, true), (73, true)] (by kernel_rfl) (by kernel_rfl) (by kernel_rfl) (by kernel_rfl) rfl (by intro c a d v w h; cases d <;> exact h) rfl ?_
        simp only [mkOrd, List.filterMap_cons, List.filterMap_nil, List.getElem?_toArray, List.getElem?_cons_zero, List.getElem?_cons_succ, Option.map_some]
        refine o_y (Y_fa 4 rfl Tryz.underlying34 rfl sz24 rfl) rfl rfl ?_
        refine o_y (yl_ one24) rfl rfl ?_
        refine o_y (Y_fa 3 rfl Tryz.underlying93 rfl sz3 rfl) rfl rfl ?_
        refine o_y (yl_ one3) rfl rfl ?_
        refine o_y (Y_fa 4 rfl Tryz.underlying93 rfl sz3 rfl) rfl rfl ?_
        refine o_y (yl_ one3) rfl rfl ?_
        refine o_c (En_call (fun _ => rfl) Tryz.func91 rfl (by kernel_rfl) rfl) (fun w hH => rat_d (hw.c.has hH)) (fun _ _ h => by obtain ⟨rfl, rfl⟩ := h; exact kp_) rfl rfl ?_
        rintro _ _ ⟨rfl, rfl⟩
        refine o_c (En_call (fun _ => rfl) Tryz.func97 rfl (by kernel_rfl) rfl) (fun w hH => rwalk_d) (fun _ _ h => by obtain ⟨rfl, rfl⟩ := h; exact kp_) rfl rfl ?_
        rintro _ _ ⟨rfl, rfl⟩
        refine o_y (Y_not rfl) rfl rfl ?_
        refine o_y (Y_mv) rfl rfl ?_
        apply o_or 11 [48, 49, 50, 51, 52, 53, 54, 55, 56, 57, 58, 59] 59 (g := 48) rfl rfl
        · intro ht10 hm
          try simp only [nrm_] at ht10
          first | refine o_y (Y_fa 5 rfl Tryz.underlying34 rfl sz30 rfl) rfl rfl ?_ | refine o_pass rfl rfl ?_
          first | refine o_y (yl_ one30) rfl rfl ?_ | refine o_pass rfl rfl ?_
          first | refine o_y (Y_mv) rfl rfl ?_ | refine o_pass rfl rfl ?_
          first | refine o_y (Y_slHi rfl rfl Tryz.underlying30 sz93 rfl (by omega)) rfl rfl ?_ | refine o_pass rfl rfl ?_
          first | refine o_y (Y_fa 3 rfl Tryz.underlying93 rfl sz3 rfl) rfl rfl ?_ | refine o_pass rfl rfl ?_
          first | refine o_y (yl_ one3) rfl rfl ?_ | refine o_pass rfl rfl ?_
          first | refine o_y (Y_fa 4 rfl Tryz.underlying93 rfl sz3 rfl) rfl rfl ?_ | refine o_pass rfl rfl ?_
          first | refine o_y (yl_ one3) rfl rfl ?_ | refine o_pass rfl rfl ?_
          refine o_c (En_call (fun _ => rfl) Tryz.func73 rfl (by kernel_rfl) rfl) (fun w hH => reat_d (hst.has hH)) (fun _ _ h => by obtain ⟨rfl, rfl⟩ := h; exact kp_) rfl rfl ?_
          rintro _ _ ⟨rfl, rfl⟩
          first | refine o_y (Y_geq rfl rfl) rfl rfl ?_ | refine o_pass rfl rfl ?_
          refine o_y (Y_pk rfl Gx.const (Gx.tmp gt_)) rfl rfl ?_
          first | exact hm _ ⟨rfl, trivial⟩ rfl | exact QL.sub sl_ (hm _ ⟨rfl, trivial⟩ rfl)
        · intro ht10 hm
          iterate 8 refine o_pass rfl rfl ?_
          refine o_none kp_ rfl rfl ?_
          iterate 1 refine o_pass rfl rfl ?_
          refine o_y (Y_pk rfl Gx.const (Gx.tmp gt_)) rfl rfl ?_
          exact hm _ ⟨rfl, trivial⟩ rfl
        intro j59
        refine o_y (Y_mv) rfl rfl ?_
        apply o_or 4 [60, 61, 62, 63, 64] 64 (g := 60) rfl rfl
        · intro ht22 hm
          try simp only [nrm_] at ht22
          first | refine o_y (Y_fa 5 rfl Tryz.underlying93 rfl sz3 rfl) rfl rfl ?_ | refine o_pass rfl rfl ?_
          first | refine o_y (yl_ one3) rfl rfl ?_ | refine o_pass rfl rfl ?_
          first | refine o_y (Y_lss rfl rfl) rfl rfl ?_ | refine o_pass rfl rfl ?_
          refine o_y (Y_pk rfl Gx.const (Gx.tmp gt_)) rfl rfl ?_
          first | exact hm _ ⟨rfl, trivial⟩ rfl | exact QL.sub sl_ (hm _ ⟨rfl, trivial⟩ rfl)
        · intro ht22 hm
          iterate 3 refine o_pass rfl rfl ?_
          refine o_y (Y_pk rfl Gx.const (Gx.tmp gt_)) rfl rfl ?_
          exact hm _ ⟨rfl, trivial⟩ rfl
        intro j64
        refine o_y (Y_mv) rfl rfl ?_
        apply o_or 6 [65, 66, 67, 68, 69, 70, 71] 71 (g := 65) rfl rfl
        · intro ht27 hm
          try simp only [nrm_] at ht27
          first | refine o_y (Y_fa 5 rfl Tryz.underlying93 rfl sz3 rfl) rfl rfl ?_ | refine o_pass rfl rfl ?_
          first | refine o_y (yl_ one3) rfl rfl ?_ | refine o_pass rfl rfl ?_
          first | refine o_y (Y_fa 6 rfl Tryz.underlying93 rfl sz3 rfl) rfl rfl ?_ | refine o_pass rfl rfl ?_
          first | refine o_y (yl_ one3) rfl rfl ?_ | refine o_pass rfl rfl ?_
          first | refine o_y (Y_gtr rfl rfl) rfl rfl ?_ | refine o_pass rfl rfl ?_
          refine o_y (Y_pk rfl Gx.const (Gx.tmp gt_)) rfl rfl ?_
          first | exact hm _ ⟨rfl, trivial⟩ rfl | exact QL.sub sl_ (hm _ ⟨rfl, trivial⟩ rfl)
        · intro ht27 hm
          iterate 5 refine o_pass rfl rfl ?_
          refine o_y (Y_pk rfl Gx.const (Gx.tmp gt_)) rfl rfl ?_
          exact hm _ ⟨rfl, trivial⟩ rfl
        intro j71
        refine o_y (Y_mv) rfl rfl ?_
        apply o_or 6 [72, 73, 74, 75, 76, 77, 78] 78 (g := 72) rfl rfl
        · intro ht34 hm
          try simp only [nrm_] at ht34
          first | refine o_y (Y_fa 6 rfl Tryz.underlying93 rfl sz3 rfl) rfl rfl ?_ | refine o_pass rfl rfl ?_
          first | refine o_y (yl_ one3) rfl rfl ?_ | refine o_pass rfl rfl ?_
          first | refine o_y (Y_fa 6 rfl Tryz.underlying93 rfl sz3 rfl) rfl rfl ?_ | refine o_pass rfl rfl ?_
          first | refine o_y (yl_ one3) rfl rfl ?_ | refine o_pass rfl rfl ?_
          first | refine o_y (Y_neq rfl rfl) rfl rfl ?_ | refine o_pass rfl rfl ?_
          refine o_y (Y_pk rfl Gx.const (Gx.tmp gt_)) rfl rfl ?_
          first | exact hm _ ⟨rfl, trivial⟩ rfl | exact QL.sub sl_ (hm _ ⟨rfl, trivial⟩ rfl)
        · intro ht34 hm
          iterate 5 refine o_pass rfl rfl ?_
          refine o_y (Y_pk rfl Gx.const (Gx.tmp gt_)) rfl rfl ?_
          exact hm _ ⟨rfl, trivial⟩ rfl
        intro j78
        refine o_y (Y_mv) rfl rfl ?_
        apply o_or 6 [79, 80, 81, 82, 83, 84, 85] 85 (g := 79) rfl rfl
        · intro ht41 hm
          try simp only [nrm_] at ht41
          first | refine o_y (Y_fa 7 rfl Tryz.underlying93 rfl sz3 rfl) rfl rfl ?_ | refine o_pass rfl rfl ?_
          first | refine o_y (yl_ one3) rfl rfl ?_ | refine o_pass rfl rfl ?_
          first | refine o_y (Y_fa 7 rfl Tryz.underlying93 rfl sz3 rfl) rfl rfl ?_ | refine o_pass rfl rfl ?_
          first | refine o_y (yl_ one3) rfl rfl ?_ | refine o_pass rfl rfl ?_
          first | refine o_y (Y_neq rfl rfl) rfl rfl ?_ | refine o_pass rfl rfl ?_
          refine o_y (Y_pk rfl Gx.const (Gx.tmp gt_)) rfl rfl ?_
          first | exact hm _ ⟨rfl, trivial⟩ rfl | exact QL.sub sl_ (hm _ ⟨rfl, trivial⟩ rfl)
        · intro ht41 hm
          iterate 5 refine o_pass rfl rfl ?_
          refine o_y (Y_pk rfl Gx.const (Gx.tmp gt_)) rfl rfl ?_
          exact hm _ ⟨rfl, trivial⟩ rfl
        intro j85
        refine o_y (Y_mv) rfl rfl ?_
        apply o_or 6 [86, 87, 88, 89, 90, 91, 92] 92 (g := 86) rfl rfl
        · intro ht48 hm
          try simp only [nrm_] at ht48
          first | refine o_y (Y_fa 8 rfl Tryz.underlying93 rfl sz3 rfl) rfl rfl ?_ | refine o_pass rfl rfl ?_
          first | refine o_y (yl_ one3) rfl rfl ?_ | refine o_pass rfl rfl ?_
          first | refine o_y (Y_fa 8 rfl Tryz.underlying93 rfl sz3 rfl) rfl rfl ?_ | refine o_pass rfl rfl ?_
          first | refine o_y (yl_ one3) rfl rfl ?_ | refine o_pass rfl rfl ?_
          first | refine o_y (Y_neq rfl rfl) rfl rfl ?_ | refine o_pass rfl rfl ?_
          refine o_y (Y_pk rfl Gx.const (Gx.tmp gt_)) rfl rfl ?_
          first | exact hm _ ⟨rfl, trivial⟩ rfl | exact QL.sub sl_ (hm _ ⟨rfl, trivial⟩ rfl)
        · intro ht48 hm
          iterate 5 refine o_pass rfl rfl ?_
          refine o_y (Y_pk rfl Gx.const (Gx.tmp gt_)) rfl rfl ?_
          exact hm _ ⟨rfl, trivial⟩ rfl
        intro j92
        refine o_y (Y_mv) rfl rfl ?_
        apply o_or 4 [93, 94, 95, 96, 97] 97 (g := 93) rfl rfl
        · intro ht55 hm
          try simp only [nrm_] at ht55
          first | refine o_y (Y_fa 9 rfl Tryz.underlying93 rfl sz3 rfl) rfl rfl ?_ | refine o_pass rfl rfl ?_
          first | refine o_y (yl_ one3) rfl rfl ?_ | refine o_pass rfl rfl ?_
          first | refine o_y (Y_lss rfl rfl) rfl rfl ?_ | refine o_pass rfl rfl ?_
          refine o_y (Y_pk rfl Gx.const (Gx.tmp gt_)) rfl rfl ?_
          first | exact hm _ ⟨rfl, trivial⟩ rfl | exact QL.sub sl_ (hm _ ⟨rfl, trivial⟩ rfl)
        · intro ht55 hm
          iterate 3 refine o_pass rfl rfl ?_
          refine o_y (Y_pk rfl Gx.const (Gx.tmp gt_)) rfl rfl ?_
          exact hm _ ⟨rfl, trivial⟩ rfl
        intro j97
        refine o_y (Y_mv) rfl rfl ?_
        apply o_or 4 [98, 99, 100, 101, 102] 102 (g := 98) rfl rfl
        · intro ht60 hm
          try simp only [nrm_] at ht60
          first | refine o_y (Y_fa 9 rfl Tryz.underlying93 rfl sz3 rfl) rfl rfl ?_ | refine o_pass rfl rfl ?_
          first | refine o_y (yl_ one3) rfl rfl ?_ | refine o_pass rfl rfl ?_
          first | refine o_y (Y_gtr rfl rfl) rfl rfl ?_ | refine o_pass rfl rfl ?_
          refine o_y (Y_pk rfl Gx.const (Gx.tmp gt_)) rfl rfl ?_
          first | exact hm _ ⟨rfl, trivial⟩ rfl | exact QL.sub sl_ (hm _ ⟨rfl, trivial⟩ rfl)
        · intro ht60 hm
          iterate 3 refine o_pass rfl rfl ?_
          refine o_y (Y_pk rfl Gx.const (Gx.tmp gt_)) rfl rfl ?_
          exact hm _ ⟨rfl, trivial⟩ rfl
        intro j102
        refine o_y (Y_mv) rfl rfl ?_
        apply o_or 4 [103, 104, 105, 106, 107] 107 (g := 103) rfl rfl
        · intro ht65 hm
          try simp only [nrm_] at ht65
          first | refine o_y (Y_fa 10 rfl Tryz.underlying93 rfl sz3 rfl) rfl rfl ?_ | refine o_pass rfl rfl ?_
          first | refine o_y (yl_ one3) rfl rfl ?_ | refine o_pass rfl rfl ?_
          first | refine o_y (Y_lss rfl rfl) rfl rfl ?_ | refine o_pass rfl rfl ?_
          refine o_y (Y_pk rfl Gx.const (Gx.tmp gt_)) rfl rfl ?_
          first | exact hm _ ⟨rfl, trivial⟩ rfl | exact QL.sub sl_ (hm _ ⟨rfl, trivial⟩ rfl)
        · intro ht65 hm
          iterate 3 refine o_pass rfl rfl ?_
          refine o_y (Y_pk rfl Gx.const (Gx.tmp gt_)) rfl rfl ?_
          exact hm _ ⟨rfl, trivial⟩ rfl
        intro j107
        refine o_y (Y_mv) rfl rfl ?_
        apply o_or 4 [108, 109, 110, 111, 112] 112 (g := 108) rfl rfl
        · intro ht70 hm
          try simp only [nrm_] at ht70
          first | refine o_y (Y_fa 10 rfl Tryz.underlying93 rfl sz3 rfl) rfl rfl ?_ | refine o_pass rfl rfl ?_
          first | refine o_y (yl_ one3) rfl rfl ?_ | refine o_pass rfl rfl ?_
          first | refine o_y (Y_gtr rfl rfl) rfl rfl ?_ | refine o_pass rfl rfl ?_
          refine o_y (Y_pk rfl Gx.const (Gx.tmp gt_)) rfl rfl ?_
          first | exact hm _ ⟨rfl, trivial⟩ rfl | exact QL.sub sl_ (hm _ ⟨rfl, trivial⟩ rfl)
        · intro ht70 hm
          iterate 3 refine o_pass rfl rfl ?_
          refine o_y (Y_pk rfl Gx.const (Gx.tmp gt_)) rfl rfl ?_
          exact hm _ ⟨rfl, trivial⟩ rfl
        intro j112
        refine o_nil ?_
        refine q_then ?_
        first | refine c_cond' rfl (fun hc11 => ?_) (fun hc11 => ?_) | refine c_cond rfl (fun hc11 => ?_) (fun hc11 => ?_)
        · skip
          try simp only [nrm_] at hc11
          refine c_seq ?_
          have hno : fitsM d i e = false := by
            rw [Bool.eq_false_iff, ne_eq, fits_iff hc6, hst0]
            rintro ⟨h1, h2, h3, h4, h5, h6, h7, h8, h9, h10, h11⟩
            rw [h2] at hc11
            simp only [nrm_, reduceCtorEq, false_or] at hc11
            omega
          refine c_reg ?_
          refine s_y (Y_asC) rfl rfl ?_
          refine s_nil ?_
          refine q_then ?_
          refine c_ret ?_
          refine q_retG1 rfl gt_ (L' := _) sl_ (⟨by unfold entM; rw [if_neg hk, hno]; rfl, rfl⟩)
        · skip
          try simp only [nrm_] at hc11
          refine c_skip ?_
          refine q_then ?_
          refine c_seq ?_
          refine c_seq ?_
          have hyes : walkM (atM d.cells e.x e.y) = true := by
            cases h : walkM (atM d.cells e.x e.y)
            · rw [h] at hc11; simp at hc11
            · rfl
          refine c_rord [] [(0, true), (1, true), (2, true), (3, true), (4, true), (5, true), (6, true), (7, true), (8, true), (9, true), (10, true), (11, true), (12, true), (13, true), (14, true), (15, true), (16, true), (17, true), (18, true), (19, false), (20, true), (21, true), (22, true), (23, true), (24, true), (25, true), (26, true), (27, true), (28, true), (29, true), (30, true), (31, true), (32, true)] (by kernel_rfl) (by kernel_rfl) (by kernel_rfl) (by kernel_rfl) rfl (by intro c a d v w h; cases d <;> exact h) rfl ?_
          simp only [mkOrd, List.filterMap_cons, List.filterMap_nil, List.getElem?_toArray, List.getElem?_cons_zero, List.getElem?_cons_succ, Option.map_some]
          refine o_y (Y_fa 0 rfl Tryz.underlying93 rfl sz3 rfl) rfl rfl ?_
          refine o_y (yl_ one3) rfl rfl ?_
          refine o_y (Y_eql rfl rfl) rfl rfl ?_
          refine o_y (Y_mv) rfl rfl ?_
          apply o_and 19 [116, 117, 118, 119, 120, 121, 122, 123, 124, 125, 126, 127, 128, 129, 130, 131, 132, 133, 134, 135] 135 (g := 116) rfl rfl
          · intro ht4 hm
            try simp only [nrm_] at ht4
            first | refine o_y (Y_fa 2 rfl Tryz.underlying93 rfl sz3 rfl) rfl rfl ?_ | refine o_pass rfl rfl ?_
            first | refine o_y (yl_ one3) rfl rfl ?_ | refine o_pass rfl rfl ?_
            first | refine o_y (Y_lss rfl rfl) rfl rfl ?_ | refine o_pass rfl rfl ?_
            first | refine o_y (Y_mv) rfl rfl ?_ | refine o_pass rfl rfl ?_
            apply o_or 4 [120, 121, 122, 123, 124] 124 (g := 120) rfl rfl
            · intro ht8 hm
              try simp only [nrm_] at ht8
              first | refine o_y (Y_fa 2 rfl Tryz.underlying93 rfl sz3 rfl) rfl rfl ?_ | refine o_pass rfl rfl ?_
              first | refine o_y (yl_ one3) rfl rfl ?_ | refine o_pass rfl rfl ?_
              first | refine o_y (Y_geq rfl rfl) rfl rfl ?_ | refine o_pass rfl rfl ?_
              first | refine o_y (Y_pk rfl Gx.const (Gx.tmp gt_)) rfl rfl ?_ | refine o_pass rfl rfl ?_
              first | exact hm _ ⟨rfl, trivial⟩ rfl | exact QL.sub sl_ (hm _ ⟨rfl, trivial⟩ rfl)
            · intro ht8 hm
              iterate 3 refine o_pass rfl rfl ?_
              first | refine o_y (Y_pk rfl Gx.const (Gx.tmp gt_)) rfl rfl ?_ | refine o_pass rfl rfl ?_
              exact hm _ ⟨rfl, trivial⟩ rfl
            intro j124
            first | refine o_y (Y_mv) rfl rfl ?_ | refine o_pass rfl rfl ?_
            apply o_or 9 [125, 126, 127, 128, 129, 130, 131, 132, 133, 134] 134 (g := 125) rfl rfl
            · intro ht13 hm
              try simp only [nrm_] at ht13
              first | refine o_y (Y_fa 5 rfl Tryz.underlying34 rfl sz30 rfl) rfl rfl ?_ | refine o_pass rfl rfl ?_
              first | refine o_y (yl_ one30) rfl rfl ?_ | refine o_pass rfl rfl ?_
              first | refine o_y (Y_mv) rfl rfl ?_ | refine o_pass rfl rfl ?_
              first | refine o_y (Y_slHi rfl rfl Tryz.underlying30 sz93 rfl (by omega)) rfl rfl ?_ | refine o_pass rfl rfl ?_
              first | refine o_y (Y_fa 2 rfl Tryz.underlying93 rfl sz3 rfl) rfl rfl ?_ | refine o_pass rfl rfl ?_
              first | refine o_y (yl_ one3) rfl rfl ?_ | refine o_pass rfl rfl ?_
              refine o_c (En_call (fun _ => rfl) Tryz.func54 rfl (by kernel_rfl) rfl) (fun w hH => rhero_d (hst.has hH)) (fun _ _ h => by obtain ⟨rfl, rfl⟩ := h; exact kp_) rfl rfl ?_
              rintro _ _ ⟨rfl, rfl⟩
              first | refine o_y (Y_geq rfl rfl) rfl rfl ?_ | refine o_pass rfl rfl ?_
              first | refine o_y (Y_pk rfl Gx.const (Gx.tmp gt_)) rfl rfl ?_ | refine o_pass rfl rfl ?_
              first | exact hm _ ⟨rfl, trivial⟩ rfl | exact QL.sub sl_ (hm _ ⟨rfl, trivial⟩ rfl)
            · intro ht13 hm
              iterate 6 refine o_pass rfl rfl ?_
              refine o_none kp_ rfl rfl ?_
              iterate 1 refine o_pass rfl rfl ?_
              first | refine o_y (Y_pk rfl Gx.const (Gx.tmp gt_)) rfl rfl ?_ | refine o_pass rfl rfl ?_
              exact hm _ ⟨rfl, trivial⟩ rfl
            intro j134
            refine o_y (Y_pk rfl (Gx.tmp gt_) Gx.const) rfl rfl ?_
            first | exact hm _ ⟨rfl, trivial⟩ rfl | exact QL.sub sl_ (hm _ ⟨rfl, trivial⟩ rfl)
          · intro ht4 hm
            iterate 15 refine o_pass rfl rfl ?_
            refine o_none kp_ rfl rfl ?_
            iterate 2 refine o_pass rfl rfl ?_
            refine o_y (Y_pk rfl (Gx.tmp gt_) Gx.const) rfl rfl ?_
            exact hm _ ⟨rfl, trivial⟩ rfl
          intro j135
          refine o_y (Y_mv) rfl rfl ?_
          apply o_or 9 [136, 137, 138, 139, 140, 141, 142, 143, 144, 145] 145 (g := 136) rfl rfl
          · intro ht24 hm
            try simp only [nrm_] at ht24
            first | refine o_y (Y_fa 0 rfl Tryz.underlying93 rfl sz3 rfl) rfl rfl ?_ | refine o_pass rfl rfl ?_
            first | refine o_y (yl_ one3) rfl rfl ?_ | refine o_pass rfl rfl ?_
            first | refine o_y (Y_neq rfl rfl) rfl rfl ?_ | refine o_pass rfl rfl ?_
            first | refine o_y (Y_mv) rfl rfl ?_ | refine o_pass rfl rfl ?_
            apply o_and 4 [140, 141, 142, 143, 144] 144 (g := 140) rfl rfl
            · intro ht28 hm
              try simp only [nrm_] at ht28
              first | refine o_y (Y_fa 2 rfl Tryz.underlying93 rfl sz3 rfl) rfl rfl ?_ | refine o_pass rfl rfl ?_
              first | refine o_y (yl_ one3) rfl rfl ?_ | refine o_pass rfl rfl ?_
              first | refine o_y (Y_neq rfl rfl) rfl rfl ?_ | refine o_pass rfl rfl ?_
              first | refine o_y (Y_pk rfl (Gx.tmp gt_) Gx.const) rfl rfl ?_ | refine o_pass rfl rfl ?_
              first | exact hm _ ⟨rfl, trivial⟩ rfl | exact QL.sub sl_ (hm _ ⟨rfl, trivial⟩ rfl)
            · intro ht28 hm
              iterate 3 refine o_pass rfl rfl ?_
              first | refine o_y (Y_pk rfl (Gx.tmp gt_) Gx.const) rfl rfl ?_ | refine o_pass rfl rfl ?_
              exact hm _ ⟨rfl, trivial⟩ rfl
            intro j144
            refine o_y (Y_pk rfl Gx.const (Gx.tmp gt_)) rfl rfl ?_
            first | exact hm _ ⟨rfl, trivial⟩ rfl | exact QL.sub sl_ (hm _ ⟨rfl, trivial⟩ rfl)
          · intro ht24 hm
            iterate 8 refine o_pass rfl rfl ?_
            refine o_y (Y_pk rfl Gx.const (Gx.tmp gt_)) rfl rfl ?_
            exact hm _ ⟨rfl, trivial⟩ rfl
          intro j145
          refine o_nil ?_
          refine q_then ?_
          first | refine c_cond' rfl (fun hc13 => ?_) (fun hc13 => ?_) | refine c_cond rfl (fun hc13 => ?_) (fun hc13 => ?_)
          · skip
            try simp only [nrm_] at hc13
            refine c_seq ?_
            refine c_reg ?_
            refine s_y (Y_asC) rfl rfl ?_
            refine s_nil ?_
            refine q_then ?_
            refine c_ret ?_
            refine q_retG1 rfl gt_ (L' := _) sl_ (⟨by
                have hno : fitsM d i e = false := by
                  rw [Bool.eq_false_iff, ne_eq, fits_iff hc6, hst0]
                  rintro ⟨h1, h2, h3, h4, h5, h6, h7, h8, h9, h10, h11⟩
                  omega
                unfold entM; rw [if_neg hk, hno]; rfl, rfl⟩)
          · skip
            try simp only [nrm_] at hc13
            refine c_skip ?_
            refine q_then ?_
            refine c_seq ?_
            refine c_reg ?_
            refine s_y (Y_asC) rfl rfl ?_
            refine s_nil ?_
            refine q_then ?_
            refine c_ret ?_
            refine q_retG1 rfl gt_ (L' := _) sl_ (⟨by
                have hok : fitsM d i e = true := by
                  rw [fits_iff hc6, hst0]
                  exact ⟨by omega, hyes, by omega, by omega, by omega, by omega, by omega, by omega, by omega, fun hk1 => by omega, fun hk1 => by omega⟩
                unfold entM; rw [if_neg hk, hok]; rfl, rfl⟩)
end
end Go.Proofs.YtcogbkkdccohfaaGreat
namespace Go.Proofs.YtcogbkkdccohfaaGreat
open Go.RowKit Go.Ad Go.Maps
set_option linter.unusedVariables false
set_option linter.unusedSimpArgs false
section
variable {W : World}
set_option maxRecDepth 100000 in
theorem rgoods_d {d : Wd} {s : Ws} (hw : WAt W d s) : Does Tryz.prog 101 [.agg (wv d s).toArray] W [] (fun v L => v = .bool (goodsM d) ∧ L = []) := by
  have hcap := hw.i.cap
  refine enter Tryz.func101 rfl rfl rfl (Has.start _) ?_
  refine c_seq ?_
  refine c_reg ?_
  refine s_n (N_box (cs := wv d s) rfl) rfl rfl (fun b1 _ => ?_)
  refine s_y (Y_asC) rfl rfl ?_
  refine s_nil ?_
  refine q_then ?_
  refine c_seq ?_
  refine c_seq ?_
  refine c_reg ?_
  refine s_y (Y_fa 6 rfl Tryz.underlying34 rfl sz31 rfl) rfl rfl ?_
  refine s_y (yl_ one31) rfl rfl ?_
  refine s_y (Y_len rfl rfl Tryz.underlying31) rfl rfl ?_
  refine s_y (Y_neq rfl rfl) rfl rfl ?_
  refine s_nil ?_
  refine q_then ?_
  first | refine c_cond' rfl (fun hc1 => ?_) (fun hc1 => ?_) | refine c_cond rfl (fun hc1 => ?_) (fun hc1 => ?_)
  · skip
    try simp only [nrm_] at hc1
    refine c_seq ?_
    refine c_reg ?_
    refine s_y (Y_asC) rfl rfl ?_
    refine s_nil ?_
    refine q_then ?_
    refine c_ret ?_
    refine q_retG1 rfl gt_ (L' := _) sl_ (⟨by unfold goodsM; rw [decide_eq_false (by omega)]; rfl, rfl⟩)
  · skip
    try simp only [nrm_] at hc1
    refine c_skip ?_
    refine q_then ?_
    refine c_seq ?_
    refine c_seq ?_
    have hlen : d.items.length = 40 := by omega
    refine c_reg ?_
    refine s_y (Y_asC) rfl rfl ?_
    refine s_nil ?_
    refine q_then ?_
    refine c_block ?_
    refine c_loop [2, 3, 4, 5, 6, 11, 12, 13, 14, 15, 16, 17, 18, 19, 20, 21, 22, 23, 24, 25, 26, 27, 28, 29, 30, 31, 32, 33, 34, 35, 36, 37, 38, 39, 40, 41, 42, 43, 44, 45, 46, 47, 48, 49, 50, 51, 52, 53, 54, 55, 56, 57, 58, 59, 60, 61, 62, 63, 64, 65, 66, 67, 68, 69, 70, 71, 72, 73] (fun m i => i + m = 40 ∧ itemsM d.cells d.items (d.items.drop i) i = itemsM d.cells d.items d.items 0) (fun i => [(3, iv i)]) (fun _ => [wB b1 (wv d s)]) (40) (0) (⟨rfl, rfl⟩) (by repeat (first | exact trivial | refine ⟨rfl, ?_⟩)) (fun _ h => h.sub sl_) (fun _ => rfl) ?_
    rintro m i j ⟨hi, hf⟩ K hK
    refine c_seq ?_
    refine c_seq ?_
    refine c_reg ?_
    refine s_y (Y_mv) rfl rfl ?_
    refine s_y (Y_fa 6 rfl Tryz.underlying34 rfl sz31 rfl) rfl rfl ?_
    refine s_y (yl_ one31) rfl rfl ?_
    refine s_y (Y_len rfl rfl Tryz.underlying31) rfl rfl ?_
    refine s_y (Y_lss rfl rfl) rfl rfl ?_
    refine s_nil ?_
    refine q_then ?_
    first | refine c_cond' rfl (fun hc4 => ?_) (fun hc4 => ?_) | refine c_cond rfl (fun hc4 => ?_) (fun hc4 => ?_)
    · skip
      try simp only [nrm_] at hc4
      refine c_skip ?_
      refine q_then ?_
      refine c_seq ?_
      refine c_block ?_
      refine c_seq ?_
      obtain ⟨x, hx⟩ := take_lt (show i < d.items.length by omega)
      have hr := hw.i.at' Itm.len hx
      have hst := items_step (cells := d.cells) hx
      rw [hf] at hst
      refine c_reg ?_
      refine s_y (Y_fa 6 rfl Tryz.underlying34 rfl sz31 rfl) rfl rfl ?_
      refine s_y (yl_ one31) rfl rfl ?_
      refine s_y (Y_mv) rfl rfl ?_
      refine s_y (Y_ia rfl rfl Tryz.underlying31 sz98 rfl (by omega)) rfl rfl ?_
      refine s_y (ya_ many98) rfl rfl ?_
      refine s_n (N_alloc (z := .agg #[.int .i64 0, .int .i64 0, .int .i64 0, .int .i64 0]) (cs := [.int .i64 0, .int .i64 0, .int .i64 0, .int .i64 0]) zv98 rfl) rfl rfl (fun b4 _ => ?_)
      refine s_s (S_storeA (vs := x.cells) rfl rfl sz98 (by rfl) (by rfl) up_ (by rfl)) rfl ?_
      refine s_nil ?_
      refine q_then ?_
      refine c_seq ?_
      refine c_seq ?_
      refine c_reg ?_
      refine s_y (ya_ many98) rfl rfl ?_
      refine s_y (Y_build (cs := [.int .i64 0, .int .i64 0, .int .i64 0, .int .i64 0]) (by repeat (first | exact Gp.nil | apply Gp.const | apply Gp.tmp gt_)) (bld98 _ _ (by first | rfl | (simp; rfl)))) rfl rfl ?_
      refine s_y (Y_eqF (zs := [x.kind, x.whr, x.a, x.b]) (zs' := [0, 0, 0, 0]) rfl rfl flat98 rfl rfl) rfl rfl ?_
      refine s_nil ?_
      refine q_then ?_
      first | refine c_cond' rfl (fun hc7 => ?_) (fun hc7 => ?_) | refine c_cond rfl (fun hc7 => ?_) (fun hc7 => ?_)
      · skip
        try simp only [nrm_] at hc7
        refine c_exit ?_
        repeat with_reducible refine q_te ?_
        refine q_exit ?_
        refine q_then ?_
        refine c_reg ?_
        refine s_y (Y_mv) rfl rfl ?_
        refine s_y ad_ rfl rfl ?_
        refine s_y (Y_as) rfl rfl ?_
        refine s_nil ?_
        refine hK (m - 1) (i + 1) _ _ (by omega) ⟨by omega, by rw [hst, isz_iff, if_pos (decide_eq_true hc7)]⟩ ⟨rfl, trivial⟩ rfl (fun _ h => h.sub sl_)
      · skip
        try simp only [nrm_] at hc7
        refine c_skip ?_
        refine q_then ?_
        refine c_seq ?_
        refine c_seq ?_
        have hz : ¬ x.isZ = true := by rw [isz_iff, decide_eq_true_eq]; exact hc7
        rw [if_neg hz] at hst
        refine c_reg ?_
        refine s_y (Y_fa 0 rfl Tryz.underlying98 rfl sz3 rfl) rfl rfl ?_
        refine s_y (yl_ one3) rfl rfl ?_
        refine s_y (Y_lss rfl rfl) rfl rfl ?_
        refine s_y (Y_mv) rfl rfl ?_
        apply s_or 4 [29, 30, 31, 32, 33] 33 (g := 29) rfl rfl
        · intro ht4 hm
          try simp only [nrm_] at ht4
          first | refine s_y (Y_fa 0 rfl Tryz.underlying98 rfl sz3 rfl) rfl rfl ?_ | refine s_pass rfl rfl ?_
          first | refine s_y (yl_ one3) rfl rfl ?_ | refine s_pass rfl rfl ?_
          first | refine s_y (Y_gtr rfl rfl) rfl rfl ?_ | refine s_pass rfl rfl ?_
          refine s_y (Y_pk rfl Gx.const (Gx.tmp gt_)) rfl rfl ?_
          first | exact hm _ ⟨rfl, trivial⟩ rfl | exact QL.sub sl_ (hm _ ⟨rfl, trivial⟩ rfl)
        · intro ht4 hm
          iterate 3 refine s_pass rfl rfl ?_
          refine s_y (Y_pk rfl Gx.const (Gx.tmp gt_)) rfl rfl ?_
          exact hm _ ⟨rfl, trivial⟩ rfl
        intro j33
        refine s_y (Y_mv) rfl rfl ?_
        apply s_or 5 [34, 35, 36, 37, 38, 39] 39 (g := 34) rfl rfl
        · intro ht9 hm
          try simp only [nrm_] at ht9
          first | refine s_y (ya_ many34) rfl rfl ?_ | refine s_pass rfl rfl ?_
          first | refine s_y (ya_ many98) rfl rfl ?_ | refine s_pass rfl rfl ?_
          refine s_c (En_call (fun _ => rfl) Tryz.func153 rfl (by kernel_rfl) rfl) (fun w hH => rplaced_d (hw.has hH) x) rfl rfl ?_
          rintro _ _ ⟨rfl, rfl⟩
          first | refine s_y (Y_not rfl) rfl rfl ?_ | refine s_pass rfl rfl ?_
          refine s_y (Y_pk rfl Gx.const (Gx.tmp gt_)) rfl rfl ?_
          first | exact hm _ ⟨rfl, trivial⟩ rfl | exact QL.sub sl_ (hm _ ⟨rfl, trivial⟩ rfl)
        · intro ht9 hm
          iterate 4 refine s_pass rfl rfl ?_
          refine s_y (Y_pk rfl Gx.const (Gx.tmp gt_)) rfl rfl ?_
          exact hm _ ⟨rfl, trivial⟩ rfl
        intro j39
        refine s_nil ?_
        refine q_then ?_
        first | refine c_cond' rfl (fun hc8 => ?_) (fun hc8 => ?_) | refine c_cond rfl (fun hc8 => ?_) (fun hc8 => ?_)
        · skip
          try simp only [nrm_] at hc8
          refine c_seq ?_
          refine c_reg ?_
          refine s_y (Y_asC) rfl rfl ?_
          refine s_nil ?_
          refine q_then ?_
          refine c_ret ?_
          refine q_retG1 rfl gt_ (L' := _) sl_ (⟨by
              have : (btw x.kind 1 4 && placedM d.cells x) = false := by
                cases hp : placedM d.cells x
                · simp
                · rw [hp] at hc8; simp only [nrm_, reduceCtorEq, or_false] at hc8
                  unfold btw; rw [Bool.and_true, decide_eq_false_iff_not]; omega
              rw [this] at hst
              simp only [Bool.false_and, Bool.false_eq_true, if_false] at hst
              unfold goodsM; rw [hst, Bool.and_false], rfl⟩)
        · skip
          try simp only [nrm_] at hc8
          refine c_skip ?_
          refine q_then ?_
          refine c_seq ?_
          have hpl : placedM d.cells x = true := by
            cases hp : placedM d.cells x
            · rw [hp] at hc8; simp at hc8
            · rfl
          have hkk : btw x.kind 1 4 = true := by
            rw [hpl] at hc8; simp only [nrm_, reduceCtorEq, or_false] at hc8
            unfold btw; rw [decide_eq_true_eq]; omega
          rw [hpl, hkk, Bool.and_true, Bool.true_and] at hst
          refine c_reg ?_
          refine s_y (Y_asC) rfl rfl ?_
          refine s_nil ?_
          refine q_then ?_
          refine c_block ?_
          refine c_loop [2, 5, 6, 40, 41, 42, 43, 44, 45, 46, 47, 48, 49, 50, 51, 52, 53, 54, 55, 56, 57, 58, 59, 60, 61, 62, 63, 64, 65, 66, 67, 68, 69, 70, 71, 72, 73] (fun m2 k => k + m2 = i ∧ aloneM (d.items.take k) x = true) (fun k => [(5, iv k)]) (fun _ => [⟨b4, 98, 4, 1, x.cells⟩, wB b1 (wv d s)]) (i) (0) (⟨by omega, by rw [List.take_zero]; rfl⟩) (by repeat (first | exact trivial | refine ⟨rfl, ?_⟩)) (fun _ h => h.sub sl_) (fun _ => rfl) ?_
          rintro m2 k j2 ⟨hk, hal⟩ K2 hK2
          refine c_seq ?_
          refine c_seq ?_
          refine c_reg ?_
          refine s_y (Y_mv) rfl rfl ?_
          refine s_y (Y_mv) rfl rfl ?_
          refine s_y (Y_lss rfl rfl) rfl rfl ?_
          refine s_nil ?_
          refine q_then ?_
          first | refine c_cond' rfl (fun hc11 => ?_) (fun hc11 => ?_) | refine c_cond rfl (fun hc11 => ?_) (fun hc11 => ?_)
          · skip
            try simp only [nrm_] at hc11
            refine c_skip ?_
            refine q_then ?_
            refine c_seq ?_
            refine c_block ?_
            refine c_seq ?_
            obtain ⟨y, hy⟩ := take_lt (show k < d.items.length by omega)
            have hr2 := hw.i.at' Itm.len hy
            have has := alone_step (x := x) hy
            refine c_reg ?_
            refine s_y (Y_fa 6 rfl Tryz.underlying34 rfl sz31 rfl) rfl rfl ?_
            refine s_y (yl_ one31) rfl rfl ?_
            refine s_y (Y_mv) rfl rfl ?_
            refine s_y (Y_ia rfl rfl Tryz.underlying31 sz98 rfl (by omega)) rfl rfl ?_
            refine s_y (Y_loadNR (vs := y.cells) rfl many98 hr2 rfl) rfl rfl ?_
            refine s_n (N_alloc (z := .agg #[.int .i64 0, .int .i64 0, .int .i64 0, .int .i64 0]) (cs := [.int .i64 0, .int .i64 0, .int .i64 0, .int .i64 0]) zv98 rfl) rfl rfl (fun b6 _ => ?_)
            refine s_s (S_storeA (vs := y.cells) rfl rfl sz98 (by rfl) (by rfl) up_ (by rfl)) rfl ?_
            refine s_nil ?_
            refine q_then ?_
            refine c_seq ?_
            refine c_reg ?_
            refine s_y (Y_fa 1 rfl Tryz.underlying98 rfl sz3 rfl) rfl rfl ?_
            refine s_y (yl_ one3) rfl rfl ?_
            refine s_y (Y_fa 1 rfl Tryz.underlying98 rfl sz3 rfl) rfl rfl ?_
            refine s_y (yl_ one3) rfl rfl ?_
            refine s_y (Y_eql rfl rfl) rfl rfl ?_
            refine s_y (Y_mv) rfl rfl ?_
            apply s_and 6 [55, 56, 57, 58, 59, 60, 61] 61 (g := 55) rfl rfl
            · intro ht6 hm
              try simp only [nrm_] at ht6
              first | refine s_y (Y_fa 2 rfl Tryz.underlying98 rfl sz3 rfl) rfl rfl ?_ | refine s_pass rfl rfl ?_
              first | refine s_y (yl_ one3) rfl rfl ?_ | refine s_pass rfl rfl ?_
              first | refine s_y (Y_fa 2 rfl Tryz.underlying98 rfl sz3 rfl) rfl rfl ?_ | refine s_pass rfl rfl ?_
              first | refine s_y (yl_ one3) rfl rfl ?_ | refine s_pass rfl rfl ?_
              first | refine s_y (Y_eql rfl rfl) rfl rfl ?_ | refine s_pass rfl rfl ?_
              refine s_y (Y_pk rfl (Gx.tmp gt_) Gx.const) rfl rfl ?_
              first | exact hm _ ⟨rfl, trivial⟩ rfl | exact QL.sub sl_ (hm _ ⟨rfl, trivial⟩ rfl)
            · intro ht6 hm
              iterate 5 refine s_pass rfl rfl ?_
              refine s_y (Y_pk rfl (Gx.tmp gt_) Gx.const) rfl rfl ?_
              exact hm _ ⟨rfl, trivial⟩ rfl
            intro j61
            refine s_y (Y_mv) rfl rfl ?_
            apply s_and 6 [62, 63, 64, 65, 66, 67, 68] 68 (g := 62) rfl rfl
            · intro ht13 hm
              try simp only [nrm_] at ht13
              first | refine s_y (Y_fa 3 rfl Tryz.underlying98 rfl sz3 rfl) rfl rfl ?_ | refine s_pass rfl rfl ?_
              first | refine s_y (yl_ one3) rfl rfl ?_ | refine s_pass rfl rfl ?_
              first | refine s_y (Y_fa 3 rfl Tryz.underlying98 rfl sz3 rfl) rfl rfl ?_ | refine s_pass rfl rfl ?_
              first | refine s_y (yl_ one3) rfl rfl ?_ | refine s_pass rfl rfl ?_
              first | refine s_y (Y_eql rfl rfl) rfl rfl ?_ | refine s_pass rfl rfl ?_
              refine s_y (Y_pk rfl (Gx.tmp gt_) Gx.const) rfl rfl ?_
              first | exact hm _ ⟨rfl, trivial⟩ rfl | exact QL.sub sl_ (hm _ ⟨rfl, trivial⟩ rfl)
            · intro ht13 hm
              iterate 5 refine s_pass rfl rfl ?_
              refine s_y (Y_pk rfl (Gx.tmp gt_) Gx.const) rfl rfl ?_
              exact hm _ ⟨rfl, trivial⟩ rfl
            intro j68
            refine s_y (Y_mv) rfl rfl ?_
            apply s_and 4 [69, 70, 71, 72, 73] 73 (g := 69) rfl rfl
            · intro ht20 hm
              try simp only [nrm_] at ht20
              first | refine s_y (Y_fa 1 rfl Tryz.underlying98 rfl sz3 rfl) rfl rfl ?_ | refine s_pass rfl rfl ?_
              first | refine s_y (yl_ one3) rfl rfl ?_ | refine s_pass rfl rfl ?_
              first | refine s_y (Y_neq rfl rfl) rfl rfl ?_ | refine s_pass rfl rfl ?_
              refine s_y (Y_pk rfl (Gx.tmp gt_) Gx.const) rfl rfl ?_
              first | exact hm _ ⟨rfl, trivial⟩ rfl | exact QL.sub sl_ (hm _ ⟨rfl, trivial⟩ rfl)
            · intro ht20 hm
              iterate 3 refine s_pass rfl rfl ?_
              refine s_y (Y_pk rfl (Gx.tmp gt_) Gx.const) rfl rfl ?_
              exact hm _ ⟨rfl, trivial⟩ rfl
            intro j73
            refine s_nil ?_
            refine q_then ?_
            first | refine c_cond' rfl (fun hc14 => ?_) (fun hc14 => ?_) | refine c_cond rfl (fun hc14 => ?_) (fun hc14 => ?_)
            · skip
              try simp only [nrm_] at hc14
              refine c_seq ?_
              refine c_reg ?_
              refine s_y (Y_asC) rfl rfl ?_
              refine s_nil ?_
              refine q_then ?_
              refine c_ret ?_
              refine q_retG1 rfl gt_ (L' := _) sl_ (⟨by
                  rw [alone_no (x := x) (i := i) hy (by omega) (by omega)] at hst
                  unfold goodsM; rw [hst]; simp, rfl⟩)
            · skip
              try simp only [nrm_] at hc14
              refine c_skip ?_
              refine q_bn ?_
              refine q_then ?_
              refine c_reg ?_
              refine s_y (Y_mv) rfl rfl ?_
              refine s_y ad_ rfl rfl ?_
              refine s_y (Y_as) rfl rfl ?_
              refine s_nil ?_
              refine hK2 (m2 - 1) (k + 1) _ _ (by omega) ⟨by omega, by rw [has, hal, decide_eq_false (by omega)]; rfl⟩ ⟨rfl, trivial⟩ rfl (fun _ h => h.sub sl_)
          · skip
            try simp only [nrm_] at hc11
            refine c_exit ?_
            repeat with_reducible refine q_te ?_
            refine q_exit ?_
            refine q_bn ?_
            refine q_then ?_
            refine c_reg ?_
            refine s_y (Y_mv) rfl rfl ?_
            refine s_y ad_ rfl rfl ?_
            refine s_y (Y_as) rfl rfl ?_
            refine s_nil ?_
            obtain rfl : k = i := by omega
            rw [hal, if_pos rfl] at hst
            refine hK (m - 1) (k + 1) _ _ (by omega) ⟨by omega, hst.symm⟩ ⟨rfl, trivial⟩ rfl (fun _ h => h.sub sl_)
    · skip
      try simp only [nrm_] at hc4
      refine c_exit ?_
      repeat with_reducible refine q_te ?_
      refine q_exit ?_
      refine q_then ?_
      refine c_seq ?_
      refine c_reg ?_
      refine s_y (Y_asC) rfl rfl ?_
      refine s_nil ?_
      refine q_then ?_
      refine c_ret ?_
      refine q_retG1 rfl gt_ (L' := _) sl_ (⟨by
          rw [List.drop_eq_nil_of_le (by omega)] at hf
          unfold goodsM; rw [← hf, decide_eq_true hlen]; rfl, rfl⟩)
set_option maxRecDepth 100000 in
theorem rcheck_d {d : Wd} {s : Ws} (hw : WAt W d s) : Does Tryz.prog 52 [.agg (wv d s).toArray] W [] (fun v L => v = iv (checkM d) ∧ L = []) := by
  have hcap := hw.e.cap
  refine enter Tryz.func52 rfl rfl rfl (Has.start _) ?_
  refine c_seq ?_
  refine c_reg ?_
  refine s_n (N_box (cs := wv d s) rfl) rfl rfl (fun b1 _ => ?_)
  refine s_y (Y_asC) rfl rfl ?_
  refine s_nil ?_
  refine q_then ?_
  refine c_seq ?_
  refine c_reg ?_
  refine s_y (ya_ many34) rfl rfl ?_
  refine s_c (En_call (fun _ => rfl) Tryz.func99 rfl (by kernel_rfl) rfl) (fun w hH => rhead_d (hw.has hH)) rfl rfl ?_
  rintro _ _ ⟨rfl, rfl⟩
  refine s_y (Y_as) rfl rfl ?_
  refine s_nil ?_
  refine q_then ?_
  refine c_seq ?_
  refine c_seq ?_
  refine c_reg ?_
  refine s_y (Y_mv) rfl rfl ?_
  refine s_y (Y_neq rfl rfl) rfl rfl ?_
  refine s_nil ?_
  refine q_then ?_
  first | refine c_cond' rfl (fun hc2 => ?_) (fun hc2 => ?_) | refine c_cond rfl (fun hc2 => ?_) (fun hc2 => ?_)
  · skip
    try simp only [nrm_] at hc2
    refine c_seq ?_
    refine c_reg ?_
    refine s_y (Y_mv) rfl rfl ?_
    refine s_y (Y_as) rfl rfl ?_
    refine s_nil ?_
    refine q_then ?_
    refine c_ret ?_
    refine q_retG1 rfl gt_ (L' := _) sl_ (⟨by unfold checkM; rw [if_pos hc2], rfl⟩)
  · skip
    try simp only [nrm_] at hc2
    refine c_skip ?_
    refine q_then ?_
    refine c_seq ?_
    refine c_seq ?_
    refine c_reg ?_
    refine s_y (Y_asC) rfl rfl ?_
    refine s_nil ?_
    refine q_then ?_
    refine c_block ?_
    refine c_loop [2, 3, 4, 10, 11, 12, 13, 14, 15, 16, 17, 18, 19, 20, 21, 22] (fun m i => i + m = d.ents.length ∧ entsM d (d.ents.drop i) i = entsM d d.ents 0) (fun i => [(4, iv i)]) (fun _ => [wB b1 (wv d s)]) (d.ents.length) (0) (⟨by omega, rfl⟩) (by repeat (first | exact trivial | refine ⟨rfl, ?_⟩)) (fun _ h => h.sub sl_) (fun _ => rfl) ?_
    rintro m i j ⟨hi, hf⟩ K hK
    have hbig := hw.e.big
    simp only [maxLen] at hbig
    refine c_seq ?_
    refine c_seq ?_
    refine c_reg ?_
    refine s_y (Y_mv) rfl rfl ?_
    refine s_y (Y_fa 5 rfl Tryz.underlying34 rfl sz30 rfl) rfl rfl ?_
    refine s_y (yl_ one30) rfl rfl ?_
    refine s_y (Y_len rfl rfl Tryz.underlying30) rfl rfl ?_
    refine s_y (Y_lss rfl rfl) rfl rfl ?_
    refine s_nil ?_
    refine q_then ?_
    first | refine c_cond' rfl (fun hc5 => ?_) (fun hc5 => ?_) | refine c_cond rfl (fun hc5 => ?_) (fun hc5 => ?_)
    · skip
      try simp only [nrm_] at hc5
      refine c_skip ?_
      refine q_then ?_
      refine c_seq ?_
      refine c_block ?_
      refine c_seq ?_
      obtain ⟨e, he⟩ := take_lt (show i < d.ents.length by omega)
      have hst := ents_step he
      rw [hf] at hst
      refine c_reg ?_
      refine s_y (ya_ many34) rfl rfl ?_
      refine s_y (Y_mv) rfl rfl ?_
      refine s_c (En_call (fun _ => rfl) Tryz.func100 rfl (by kernel_rfl) rfl) (fun w hH => rent_d (hw.has hH) he) rfl rfl ?_
      rintro _ _ ⟨rfl, rfl⟩
      refine s_y (Y_as) rfl rfl ?_
      refine s_nil ?_
      refine q_then ?_
      refine c_seq ?_
      refine c_reg ?_
      refine s_y (Y_mv) rfl rfl ?_
      refine s_y (Y_neq rfl rfl) rfl rfl ?_
      refine s_nil ?_
      refine q_then ?_
      first | refine c_cond' rfl (fun hc8 => ?_) (fun hc8 => ?_) | refine c_cond rfl (fun hc8 => ?_) (fun hc8 => ?_)
      · skip
        try simp only [nrm_] at hc8
        refine c_seq ?_
        refine c_reg ?_
        refine s_y (Y_mv) rfl rfl ?_
        refine s_y (Y_as) rfl rfl ?_
        refine s_nil ?_
        refine q_then ?_
        refine c_ret ?_
        refine q_retG1 rfl gt_ (L' := _) sl_ (⟨by rw [if_pos hc8] at hst; unfold checkM; rw [if_neg (fun h => h hc2), hst, if_pos hc8], rfl⟩)
      · skip
        try simp only [nrm_] at hc8
        refine c_skip ?_
        refine q_bn ?_
        refine q_then ?_
        refine c_reg ?_
        refine s_y (Y_mv) rfl rfl ?_
        refine s_y ad_ rfl rfl ?_
        refine s_y (Y_as) rfl rfl ?_
        refine s_nil ?_
        refine hK (m - 1) (i + 1) _ _ (by omega) ⟨by omega, by rw [hst, if_neg (fun h => h hc8)]⟩ ⟨rfl, trivial⟩ rfl (fun _ h => h.sub sl_)
    · skip
      try simp only [nrm_] at hc5
      refine c_exit ?_
      repeat with_reducible refine q_te ?_
      refine q_exit ?_
      refine q_then ?_
      refine c_seq ?_
      refine c_seq ?_
      rw [List.drop_eq_nil_of_le (by omega)] at hf
      refine c_reg ?_
      refine s_y (ya_ many34) rfl rfl ?_
      refine s_c (En_call (fun _ => rfl) Tryz.func101 rfl (by kernel_rfl) rfl) (fun w hH => rgoods_d (hw.has hH)) rfl rfl ?_
      rintro _ _ ⟨rfl, rfl⟩
      refine s_y (Y_not rfl) rfl rfl ?_
      refine s_nil ?_
      refine q_then ?_
      first | refine c_cond' rfl (fun hc10 => ?_) (fun hc10 => ?_) | refine c_cond rfl (fun hc10 => ?_) (fun hc10 => ?_)
      · skip
        try simp only [nrm_] at hc10
        refine c_seq ?_
        refine c_reg ?_
        refine s_y (Y_asC) rfl rfl ?_
        refine s_nil ?_
        refine q_then ?_
        refine c_ret ?_
        refine q_retG1 rfl gt_ (L' := _) sl_ (⟨by unfold checkM; rw [if_neg (fun h => h hc2), ← hf, if_neg (by simp [entsM]), if_neg (by simpa using hc10)], rfl⟩)
      · skip
        try simp only [nrm_] at hc10
        refine c_skip ?_
        refine q_then ?_
        refine c_seq ?_
        refine c_reg ?_
        refine s_y (Y_asC) rfl rfl ?_
        refine s_nil ?_
        refine q_then ?_
        refine c_ret ?_
        refine q_retG1 rfl gt_ (L' := _) sl_ (⟨by unfold checkM; rw [if_neg (fun h => h hc2), ← hf, if_neg (by simp [entsM]), if_pos (by simpa using hc10)], rfl⟩)
set_option maxRecDepth 100000 in
theorem rnum_d {v : Value} {B : List Bk} {ys : List UInt8} (hB : Row 5 1 v ys.length (ys.map bv) B) (hbl : ys.length ≤ 100000) (hW : ∀ x ∈ B, x.holds W) {k : Nat} (hk : k ≤ 8) {x : Int} : Does Tryz.prog 56 [v, iv k, .int .u64 x] W (B.map (·.b)) (fun v' L => Row 5 1 v' (ys ++ beM x k).length ((ys ++ beM x k).map bv) L) := by
  refine enter Tryz.func56 rfl rfl rfl (Has.starts hW hB.nodup) ?_
  refine c_seq ?_
  refine c_reg ?_
  refine s_y (Y_asC) rfl rfl ?_
  refine s_nil ?_
  refine q_then ?_
  refine c_seq ?_
  refine c_seq ?_
  refine c_reg ?_
  refine s_y (Y_mv) rfl rfl ?_
  refine s_y su_ rfl rfl ?_
  refine s_y (Y_as) rfl rfl ?_
  refine s_nil ?_
  refine q_then ?_
  refine c_block ?_
  refine c_loop [0, 7, 10, 11, 12, 13, 14, 15, 16, 17, 18, 19, 20, 21] (fun m (y : Nat × List UInt8 × Value × List Bk) => y.1 = m ∧ y.2.1 ++ beM x m = ys ++ beM x k ∧ m ≤ 8 ∧ y.2.1.length + m = ys.length + k ∧ Row 5 1 y.2.2.1 y.2.1.length (y.2.1.map bv) y.2.2.2) (fun y => [(7, iv ((y.1 : Int) - 1)), (0, y.2.2.1)]) (fun y => y.2.2.2) (k) ((k, ys, v, B)) (⟨rfl, rfl, hk, rfl, hB⟩) (by repeat (first | exact trivial | refine ⟨rfl, ?_⟩)) (fun _ h => h.sub sl_) (fun _ => rfl) ?_
  rintro m ⟨m', zs, v2, B2⟩ j ⟨hm, hz, hm8, hzl, hB2⟩ K hK
  simp only at hm hz hm8 hzl hB2 ⊢
  subst hm
  refine c_seq ?_
  refine c_seq ?_
  refine c_reg ?_
  refine s_y (Y_mv) rfl rfl ?_
  refine s_y (Y_geq rfl rfl) rfl rfl ?_
  refine s_nil ?_
  refine q_then ?_
  first | refine c_cond' rfl (fun hc2 => ?_) (fun hc2 => ?_) | refine c_cond rfl (fun hc2 => ?_) (fun hc2 => ?_)
  · skip
    try simp only [nrm_] at hc2
    refine c_skip ?_
    refine q_then ?_
    refine c_seq ?_
    refine c_block ?_
    obtain ⟨q, rfl⟩ : ∃ q, m' = q + 1 := ⟨m' - 1, by omega⟩
    refine c_reg ?_
    refine s_y (Y_mv) rfl rfl ?_
    refine s_y (Y_mv) rfl rfl ?_
    refine s_y (Y_mv) rfl rfl ?_
    refine s_y mu_ rfl rfl ?_
    refine s_y ((Y_shr rfl rfl (by omega)).num (show _ = x.fdiv (2 ^ (8 * q)) by congr 2; show min (8 * (((q + 1 : Nat) : Int) - 1)).toNat 64 = _; omega)) rfl rfl ?_
    refine s_y (Y_cb rfl Tryz.underlying96 Tryz.underlying5) rfl rfl ?_
    refine s_n (N_bs (xs := [.tmp 19]) (by repeat (first | exact Gv.nil | apply Gv.const | apply Gv.tmp gt_)) rfl Tryz.underlying24 inf5 rfl (by omega) (by omega) (by intro v hv; simp at hv; subst hv; rfl)) rfl rfl (fun b20 _ => ?_)
    refine s_n (N_appR (bytes := 1) hB2 (List.perm_append_comm (l₁ := B2) (l₂ := [_])) rfl rfl Tryz.underlying24 inf5 rfl (by omega) (src (news := [bv (byteM (x.fdiv (2 ^ (8 * q))))]) mm_) (by rfl) (by simp [Value.oneCell']) (by omega) (by omega) (by omega)) rfl rfl (fun ⟨g21, cp21⟩ hc21 => ?_)
    refine s_y (Y_as) rfl rfl ?_
    refine s_nil ?_
    refine q_bn ?_
    refine q_then ?_
    refine c_reg ?_
    refine s_y (Y_mv) rfl rfl ?_
    refine s_y su_ rfl rfl ?_
    refine s_y (Y_as) rfl rfl ?_
    refine s_nil ?_
    refine hK q (q, zs ++ [byteM (x.fdiv (2 ^ (8 * q)))], .slice (some ⟨g21, 0, none⟩) (zs.length + 1) cp21, [⟨g21, 5, 1, cp21, (zs ++ [byteM (x.fdiv (2 ^ (8 * q)))]).map bv⟩]) _ _ (by omega) ⟨rfl, by rw [beM] at hz; simp only; rw [← hz]; simp, by omega, by simp only [List.length_append, List.length_singleton]; omega, by simp only; rw [List.length_append, List.length_singleton]; exact .some hc21 (by simp)⟩ ⟨by show iv _ = iv _; congr 1; omega, rfl, trivial⟩ rfl (fun w h => ?_)
    show Has W _ [⟨g21, 5, 1, cp21, (zs ++ [byteM (x.fdiv (2 ^ (8 * q)))]).map bv⟩] w
    rw [List.map_append]
    exact h.pick ss_
  · skip
    try simp only [nrm_] at hc2
    refine c_exit ?_
    repeat with_reducible refine q_te ?_
    refine q_exit ?_
    refine q_then ?_
    refine c_seq ?_
    obtain rfl : m' = 0 := by omega
    rw [beM, List.append_nil] at hz
    subst hz
    refine c_reg ?_
    refine s_y (Y_mv) rfl rfl ?_
    refine s_y (Y_as) rfl rfl ?_
    refine s_nil ?_
    refine q_then ?_
    refine c_ret ?_
    refine q_retG1 rfl gt_ (L' := _) sl_ (hB2)
def EncP (d : Wd) (v : Value) (L : List Bk) : Prop := (checkM d ≠ 0 ∧ v = .tuple #[.slice none 0 0, iv (checkM d)] ∧ L = []) ∨ (checkM d = 0 ∧ ∃ g cap, v = .tuple #[.slice (some ⟨g, 0, none⟩) (encW d).length cap, iv 0] ∧ L = [cB g cap (encW d)] ∧ (encW d).length ≤ cap)
theorem bsnoc (ys zs : List UInt8) : ys.map bv ++ zs.map bv = (ys ++ zs).map bv := (List.map_append).symm
set_option maxRecDepth 100000 in
set_option maxHeartbeats 1600000 in
theorem renc_d {d : Wd} {s : Ws} (hw : WAt W d s) : Does Tryz.prog 17 [.agg (wv d s).toArray] W [] (EncP d) := by
  refine enter Tryz.func17 rfl rfl rfl (Has.start _) ?_
  refine c_seq ?_
  refine c_reg ?_
  refine s_n (N_box (cs := wv d s) rfl) rfl rfl (fun b1 _ => ?_)
  refine s_y (Y_asC) rfl rfl ?_
  refine s_y (Y_asC) rfl rfl ?_
  refine s_nil ?_
  refine q_then ?_
  refine c_seq ?_
  refine c_reg ?_
  refine s_y (ya_ many34) rfl rfl ?_
  refine s_c (En_call (fun _ => rfl) Tryz.func52 rfl (by kernel_rfl) rfl) (fun w hH => rcheck_d (hw.has hH)) rfl rfl ?_
  rintro _ _ ⟨rfl, rfl⟩
  refine s_y (Y_as) rfl rfl ?_
  refine s_nil ?_
  refine q_then ?_
  refine c_seq ?_
  refine c_seq ?_
  refine c_reg ?_
  refine s_y (Y_mv) rfl rfl ?_
  refine s_y (Y_neq rfl rfl) rfl rfl ?_
  refine s_nil ?_
  refine q_then ?_
  first | refine c_cond' rfl (fun hc2 => ?_) (fun hc2 => ?_) | refine c_cond rfl (fun hc2 => ?_) (fun hc2 => ?_)
  · skip
    try simp only [nrm_] at hc2
    refine c_seq ?_
    refine c_reg ?_
    refine s_y (Y_mv) rfl rfl ?_
    refine s_y (Y_asC) rfl rfl ?_
    refine s_y (Y_as) rfl rfl ?_
    refine s_nil ?_
    refine q_then ?_
    refine c_ret ?_
    refine q_retG2 rfl gt_ gt_ (L' := _) sl_ (.inl ⟨hc2, rfl, rfl⟩)
  · skip
    try simp only [nrm_] at hc2
    refine c_skip ?_
    refine q_then ?_
    refine c_seq ?_
    obtain ⟨hl1, hl2, hl3⟩ := check_sizes hc2
    refine c_rordS (L0 := [wB b1 (wv d s)]) sl_ [] [(0, true), (1, true), (2, true), (4, true), (5, true), (6, true), (3, false), (7, false), (8, true)] (by kernel_rfl) (by kernel_rfl) (by kernel_rfl) (by kernel_rfl) rfl (by intro c a d v w h; cases d <;> exact h) rfl ?_
    simp only [mkOrd, List.filterMap_cons, List.filterMap_nil, List.getElem?_toArray, List.getElem?_cons_zero, List.getElem?_cons_succ, Option.map_some]
    refine o_y (Y_fa 0 rfl Tryz.underlying34 rfl sz2 rfl) rfl rfl ?_
    refine o_y (yl_ one2) rfl rfl ?_
    refine o_y (Y_convw rfl Tryz.underlying2 Tryz.underlying96) rfl rfl ?_
    refine o_y (Y_fa 1 rfl Tryz.underlying34 rfl sz3 rfl) rfl rfl ?_
    refine o_y (yl_ one3) rfl rfl ?_
    refine o_y (Y_convw rfl Tryz.underlying3 Tryz.underlying96) rfl rfl ?_
    refine o_c (En_call (fun _ => rfl) Tryz.func56 rfl (by kernel_rfl) rfl) (fun w hH => rnum_d (k := 8) (ys := []) .nil (by simp) (by simp) (by omega)) (fun _ _ h => by obtain hB1 := h; exact kp_) rfl rfl ?_
    rintro _ _ hB1
    obtain ⟨g1, cp1, rfl, rfl, hcp1⟩ := hB1.some_of (by rw [List.length_append, beM_len]; omega)
    refine o_cm [cB g1 cp1 ([] ++ beM (IntKind.u64.wrap d.seed) 8)] (En_call (fun _ => rfl) Tryz.func56 rfl (by kernel_rfl) rfl) ss_ (fun w hH => rnum_d (k := 4) hB1 (by rw [List.length_append, beM_len]; simp) (by intro x hx; obtain rfl := List.mem_singleton.1 hx; exact hH.at' mm_) (by omega)) (fun _ _ h => by obtain hB2 := h; exact kp_) rfl rfl ?_
    rintro _ _ hB2
    obtain ⟨g2, cp2, rfl, rfl, hcp2⟩ := hB2.some_of (by rw [List.length_append, beM_len]; omega)
    refine o_y (Y_as) rfl rfl ?_
    refine o_nil ?_
    refine q_then ?_
    refine c_seq ?_
    have hz1 : ([] ++ beM (IntKind.u64.wrap d.seed) 8 ++ beM (IntKind.u64.wrap d.frame) 4) ++ [byteM d.floor, byteM d.state] = encA d 0 := by simp [encA, headBytes, goldBytes]
    obtain ⟨z1, hz2⟩ : ∃ q_, [] ++ beM (IntKind.u64.wrap d.seed) 8 ++ beM (IntKind.u64.wrap d.frame) 4 = q_ := ⟨_, rfl⟩
    rw [hz2] at hcp2 hz1 ⊢
    have hzl : z1.length = 12 := by rw [← hz2]; simp [beM_len]
    refine c_reg ?_
    refine s_y (Y_mv) rfl rfl ?_
    refine s_y (Y_fa 2 rfl Tryz.underlying34 rfl sz3 rfl) rfl rfl ?_
    refine s_y (yl_ one3) rfl rfl ?_
    refine s_y (Y_cb rfl Tryz.underlying3 Tryz.underlying5) rfl rfl ?_
    refine s_y (Y_fa 3 rfl Tryz.underlying34 rfl sz3 rfl) rfl rfl ?_
    refine s_y (yl_ one3) rfl rfl ?_
    refine s_y (Y_cb rfl Tryz.underlying3 Tryz.underlying5) rfl rfl ?_
    refine s_n (N_bs (xs := [.tmp 26, .tmp 29]) (by repeat (first | exact Gv.nil | apply Gv.const | apply Gv.tmp gt_)) rfl Tryz.underlying24 inf5 rfl (by omega) (by omega) (by first | simp [Value.oneCell'] | (intro v hv; simp at hv; subst hv; rfl))) rfl rfl (fun b30 _ => ?_)
    refine s_n (N_app (cs := z1.map bv) (news := [bv (byteM d.floor), bv (byteM d.state)]) rfl rfl Tryz.underlying24 inf5 rfl (by omega) se_ (by rw [List.length_map]; omega) (by omega) (src mm_) (by rfl) (by intro u hu; simp only [List.mem_cons, List.not_mem_nil, or_false] at hu; rcases hu with rfl | rfl <;> rfl) (by omega) (by omega)) rfl rfl (fun ⟨g31, cp31⟩ hc31 => ?_)
    refine s_y (Y_as) rfl rfl ?_
    refine s_nil ?_
    have e1 : z1.length + 2 = (encA d 0).length := by rw [← hz1]; simp
    have e2 : (⟨g31, 5, 1, cp31, z1.map bv ++ [bv (byteM d.floor), bv (byteM d.state)]⟩ : Bk) = cB g31 cp31 (encA d 0) := by rw [cB, ← hz1, List.map_append]; rfl
    refine QL.pick (L' := [⟨g31, 5, 1, cp31, z1.map bv ++ [bv (byteM d.floor), bv (byteM d.state)]⟩, wB b1 (wv d s)]) ss_ ?_
    rw [e2, e1]
    have hc0 : (encA d 0).length ≤ cp31 := by rw [← e1]; exact hc31
    refine q_then ?_
    refine c_seq ?_
    refine c_seq ?_
    refine c_reg ?_
    refine s_y (Y_asC) rfl rfl ?_
    refine s_nil ?_
    refine q_then ?_
    refine c_block ?_
    refine c_loop [5, 6, 32, 33, 34, 35, 36, 37, 38, 39, 40, 41, 42] (fun m (y : Nat × Nat × Nat) => y.1 + m = 4 ∧ (encA d y.1).length ≤ y.2.2) (fun y => [(6, iv y.1), (5, .slice (some ⟨y.2.1, 0, none⟩) (encA d y.1).length y.2.2)]) (fun y => [cB y.2.1 y.2.2 (encA d y.1), wB b1 (wv d s)]) (4) ((0, g31, cp31)) (⟨rfl, hc0⟩) (by repeat (first | exact trivial | refine ⟨rfl, ?_⟩)) (fun _ h => h.sub sl_) (fun _ => rfl) ?_
    rintro m ⟨k, g, cp⟩ j ⟨hk, hcp⟩ K hK
    simp only at hk hcp ⊢
    have hel := encA_len d k
    refine c_seq ?_
    refine c_seq ?_
    refine c_reg ?_
    refine s_y (Y_mv) rfl rfl ?_
    refine s_y (Y_lss rfl rfl) rfl rfl ?_
    refine s_nil ?_
    refine q_then ?_
    first | refine c_cond' rfl (fun hc7 => ?_) (fun hc7 => ?_) | refine c_cond rfl (fun hc7 => ?_) (fun hc7 => ?_)
    · skip
      try simp only [nrm_] at hc7
      refine c_skip ?_
      refine q_then ?_
      refine c_seq ?_
      refine c_block ?_
      refine c_reg ?_
      refine s_y (Y_mv) rfl rfl ?_
      refine s_y (Y_mv) rfl rfl ?_
      refine s_y (Y_fa 7 rfl Tryz.underlying34 rfl sz32 rfl) rfl rfl ?_
      refine s_y (Y_iaA rfl rfl Tryz.underlying32 sz3 rfl (by omega)) rfl rfl ?_
      refine s_y (Y_load (v := iv (d.gold.get k)) rfl one3 mm_ (gold_get (by omega))) rfl rfl ?_
      refine s_y (Y_convw rfl Tryz.underlying3 Tryz.underlying96) rfl rfl ?_
      refine s_cm [cB g cp (encA d k)] (En_call (fun _ => rfl) Tryz.func56 rfl (by kernel_rfl) rfl) ss_ (fun w hH => rnum_d (k := 2) (ys := encA d k) (.some hcp (by rw [List.length_map, Nat.mul_one])) (by omega) (by intro x hx; obtain rfl := List.mem_singleton.1 hx; exact hH.at' mm_) (by omega)) rfl rfl ?_
      rintro _ _ hB3
      rw [← encA_succ] at hB3
      obtain ⟨g3, cp3, rfl, rfl, hcp3⟩ := hB3.some_of (by rw [encA_len]; omega)
      refine s_y (Y_as) rfl rfl ?_
      refine s_nil ?_
      refine q_bn ?_
      refine q_then ?_
      refine c_reg ?_
      refine s_y (Y_mv) rfl rfl ?_
      refine s_y ad_ rfl rfl ?_
      refine s_y (Y_as) rfl rfl ?_
      refine s_nil ?_
      refine hK (m - 1) (k + 1, g3, cp3) _ _ (by omega) ⟨by simp only; omega, hcp3⟩ ⟨rfl, rfl, trivial⟩ rfl (fun _ h => h.pick ss_)
    · skip
      try simp only [nrm_] at hc7
      refine c_exit ?_
      repeat with_reducible refine q_te ?_
      refine q_exit ?_
      refine q_then ?_
      refine c_seq ?_
      obtain rfl : k = 4 := by omega
      have hcl := hw.c.len
      refine c_reg ?_
      refine s_y (Y_mv) rfl rfl ?_
      refine s_y (Y_fa 4 rfl Tryz.underlying34 rfl sz24 rfl) rfl rfl ?_
      refine s_y (yl_ one24) rfl rfl ?_
      refine s_n (N_app (cs := (encA d 4).map bv) (news := d.cells.map bv) rfl rfl Tryz.underlying24 inf5 rfl (by omega) se_ (by rw [List.length_map]; omega) (by omega) (srcR hw.c.ro) hcl (bvs_one _) (by omega) (by omega)) rfl rfl (fun ⟨g46, cp46⟩ hc46 => ?_)
      refine s_y (Y_as) rfl rfl ?_
      refine s_nil ?_
      have e1 : (encA d 4).length + d.cells.length = (encB d 0).length := by rw [encB_zero, List.length_append]
      rw [bsnoc, ← encB_zero, e1]
      rw [e1] at hc46
      refine q_then ?_
      refine c_seq ?_
      refine c_seq ?_
      refine c_reg ?_
      refine s_y (Y_asC) rfl rfl ?_
      refine s_nil ?_
      refine q_then ?_
      refine c_block ?_
      refine c_loop [5, 7, 8, 47, 48, 49, 50, 51, 52, 53, 54, 55, 56, 57, 58, 59, 60, 61, 62, 63, 64, 65, 66, 67, 68, 69, 70, 71, 72, 73, 74, 75, 76, 77, 78, 79, 80, 81, 82, 83, 84, 85, 86, 87, 88, 89, 90, 91, 92, 93, 94] (fun m (y : Nat × Nat × Nat) => y.1 + m = d.ents.length ∧ (encB d y.1).length ≤ y.2.2) (fun y => [(7, iv y.1), (5, .slice (some ⟨y.2.1, 0, none⟩) (encB d y.1).length y.2.2)]) (fun y => [cB y.2.1 y.2.2 (encB d y.1), wB b1 (wv d s)]) (d.ents.length) ((0, g46, cp46)) (⟨by simp only; omega, hc46⟩) (by repeat (first | exact trivial | refine ⟨rfl, ?_⟩)) (fun _ h => h.sub sl_) (fun _ => rfl) ?_
      rintro m ⟨i, g, cp⟩ j ⟨hi, hcp⟩ K hK
      simp only at hi hcp ⊢
      have hel := encB_len d i (by omega)
      refine c_seq ?_
      refine c_seq ?_
      refine c_reg ?_
      refine s_y (Y_mv) rfl rfl ?_
      refine s_y (Y_fa 5 rfl Tryz.underlying34 rfl sz30 rfl) rfl rfl ?_
      refine s_y (yl_ one30) rfl rfl ?_
      refine s_y (Y_len rfl rfl Tryz.underlying30) rfl rfl ?_
      refine s_y (Y_lss rfl rfl) rfl rfl ?_
      refine s_nil ?_
      refine q_then ?_
      first | refine c_cond' rfl (fun hc12 => ?_) (fun hc12 => ?_) | refine c_cond rfl (fun hc12 => ?_) (fun hc12 => ?_)
      · skip
        try simp only [nrm_] at hc12
        refine c_skip ?_
        refine q_then ?_
        refine c_seq ?_
        refine c_block ?_
        refine c_seq ?_
        obtain ⟨e, he⟩ := take_lt (show i < d.ents.length by omega)
        have hr := hw.e.at' Ent.len he
        have hcap := hw.e.cap
        refine c_reg ?_
        refine s_y (Y_fa 5 rfl Tryz.underlying34 rfl sz30 rfl) rfl rfl ?_
        refine s_y (yl_ one30) rfl rfl ?_
        refine s_y (Y_mv) rfl rfl ?_
        refine s_y (Y_ia rfl rfl Tryz.underlying30 sz93 rfl (by omega)) rfl rfl ?_
        refine s_y (ya_ many93) rfl rfl ?_
        refine s_n (N_alloc (z := .agg #[.int .i64 0, .int .i64 0, .int .i64 0, .int .i64 0, .int .i64 0, .int .i64 0, .int .i64 0, .int .i64 0, .int .i64 0, .int .i64 0, .int .i64 0]) (cs := [.int .i64 0, .int .i64 0, .int .i64 0, .int .i64 0, .int .i64 0, .int .i64 0, .int .i64 0, .int .i64 0, .int .i64 0, .int .i64 0, .int .i64 0]) zv93 rfl) rfl rfl (fun b8 _ => ?_)
        refine s_s (S_storeA (vs := e.cells) rfl rfl sz93 (by rfl) (by rfl) up_ (by rfl)) rfl ?_
        refine s_nil ?_
        refine q_then ?_
        refine c_reg ?_
        refine s_y (Y_mv) rfl rfl ?_
        refine s_y (Y_fa 0 rfl Tryz.underlying93 rfl sz3 rfl) rfl rfl ?_
        refine s_y (yl_ one3) rfl rfl ?_
        refine s_y (Y_cb rfl Tryz.underlying3 Tryz.underlying5) rfl rfl ?_
        refine s_y (Y_fa 1 rfl Tryz.underlying93 rfl sz3 rfl) rfl rfl ?_
        refine s_y (yl_ one3) rfl rfl ?_
        refine s_y (Y_cb rfl Tryz.underlying3 Tryz.underlying5) rfl rfl ?_
        refine s_y (Y_fa 2 rfl Tryz.underlying93 rfl sz3 rfl) rfl rfl ?_
        refine s_y (yl_ one3) rfl rfl ?_
        refine s_y (Y_cb rfl Tryz.underlying3 Tryz.underlying5) rfl rfl ?_
        refine s_y (Y_fa 3 rfl Tryz.underlying93 rfl sz3 rfl) rfl rfl ?_
        refine s_y (yl_ one3) rfl rfl ?_
        refine s_y (Y_cb rfl Tryz.underlying3 Tryz.underlying5) rfl rfl ?_
        refine s_y (Y_fa 4 rfl Tryz.underlying93 rfl sz3 rfl) rfl rfl ?_
        refine s_y (yl_ one3) rfl rfl ?_
        refine s_y (Y_cb rfl Tryz.underlying3 Tryz.underlying5) rfl rfl ?_
        refine s_y (Y_fa 5 rfl Tryz.underlying93 rfl sz3 rfl) rfl rfl ?_
        refine s_y (yl_ one3) rfl rfl ?_
        refine s_y (Y_cb rfl Tryz.underlying3 Tryz.underlying5) rfl rfl ?_
        refine s_y (Y_fa 6 rfl Tryz.underlying93 rfl sz3 rfl) rfl rfl ?_
        refine s_y (yl_ one3) rfl rfl ?_
        refine s_y (Y_cb rfl Tryz.underlying3 Tryz.underlying5) rfl rfl ?_
        refine s_y (Y_fa 7 rfl Tryz.underlying93 rfl sz3 rfl) rfl rfl ?_
        refine s_y (yl_ one3) rfl rfl ?_
        refine s_y (Y_cb rfl Tryz.underlying3 Tryz.underlying5) rfl rfl ?_
        refine s_y (Y_fa 8 rfl Tryz.underlying93 rfl sz3 rfl) rfl rfl ?_
        refine s_y (yl_ one3) rfl rfl ?_
        refine s_y (Y_cb rfl Tryz.underlying3 Tryz.underlying5) rfl rfl ?_
        refine s_y (Y_fa 9 rfl Tryz.underlying93 rfl sz3 rfl) rfl rfl ?_
        refine s_y (yl_ one3) rfl rfl ?_
        refine s_y (Y_cb rfl Tryz.underlying3 Tryz.underlying5) rfl rfl ?_
        refine s_y (Y_fa 10 rfl Tryz.underlying93 rfl sz3 rfl) rfl rfl ?_
        refine s_y (yl_ one3) rfl rfl ?_
        refine s_y (Y_cb rfl Tryz.underlying3 Tryz.underlying5) rfl rfl ?_
        refine s_n (N_bs (xs := [.tmp 62, .tmp 65, .tmp 68, .tmp 71, .tmp 74, .tmp 77, .tmp 80, .tmp 83, .tmp 86, .tmp 89, .tmp 92]) (by repeat (first | exact Gv.nil | apply Gv.const | apply Gv.tmp gt_)) rfl Tryz.underlying24 inf5 rfl (by omega) (by omega) (by first | simp [Value.oneCell'] | (intro v hv; simp at hv; subst hv; rfl))) rfl rfl (fun b93 _ => ?_)
        refine s_n (N_app (cs := (encB d i).map bv) (news := (eBytes e).map bv) rfl rfl Tryz.underlying24 inf5 rfl (by omega) se_ (by rw [List.length_map]; omega) (by omega) (src mm_) (by rfl) (bvs_one _) (by omega) (by omega)) rfl rfl (fun ⟨g94, cp94⟩ hc94 => ?_)
        refine s_y (Y_as) rfl rfl ?_
        refine s_nil ?_
        refine q_bn ?_
        refine q_then ?_
        refine c_reg ?_
        refine s_y (Y_mv) rfl rfl ?_
        refine s_y ad_ rfl rfl ?_
        refine s_y (Y_as) rfl rfl ?_
        refine s_nil ?_
        have e1 : (encB d i).length + 11 = (encB d (i + 1)).length := by rw [encB_succ he, List.length_append]; rfl
        rw [e1] at hc94 ⊢
        rw [bsnoc, ← encB_succ he]
        refine hK (m - 1) (i + 1, g94, cp94) _ _ (by omega) ⟨by simp only; omega, hc94⟩ ⟨rfl, rfl, trivial⟩ rfl (fun _ h => h.pick ss_)
      · skip
        try simp only [nrm_] at hc12
        refine c_exit ?_
        repeat with_reducible refine q_te ?_
        refine q_exit ?_
        refine q_then ?_
        refine c_seq ?_
        refine c_seq ?_
        obtain rfl : i = d.ents.length := by omega
        rw [← encC_zero] at hcp ⊢
        refine c_reg ?_
        refine s_y (Y_asC) rfl rfl ?_
        refine s_nil ?_
        refine q_then ?_
        refine c_block ?_
        refine c_loop [5, 9, 95, 96, 97, 98, 99, 100, 101, 102, 103, 104, 105, 106, 107, 108, 109, 110, 111, 112, 113, 114, 115, 116, 117, 118, 119, 120, 121, 122, 123, 124, 125, 126, 127, 128, 129, 130, 131, 132] (fun m (y : Nat × Nat × Nat) => y.1 + m = d.items.length ∧ (encC d y.1).length ≤ y.2.2) (fun y => [(9, iv y.1), (5, .slice (some ⟨y.2.1, 0, none⟩) (encC d y.1).length y.2.2)]) (fun y => [cB y.2.1 y.2.2 (encC d y.1), wB b1 (wv d s)]) (d.items.length) ((0, g, cp)) (⟨by simp only; omega, hcp⟩) (by repeat (first | exact trivial | refine ⟨rfl, ?_⟩)) (fun _ h => h.sub sl_) (fun _ => rfl) ?_
        rintro m2 ⟨i2, g2, cp2⟩ j2 ⟨hi2, hcp2⟩ K hK
        simp only at hi2 hcp2 ⊢
        have hel2 := encC_len d i2 (by omega)
        refine c_seq ?_
        refine c_seq ?_
        refine c_reg ?_
        refine s_y (Y_mv) rfl rfl ?_
        refine s_y (Y_fa 6 rfl Tryz.underlying34 rfl sz31 rfl) rfl rfl ?_
        refine s_y (yl_ one31) rfl rfl ?_
        refine s_y (Y_len rfl rfl Tryz.underlying31) rfl rfl ?_
        refine s_y (Y_lss rfl rfl) rfl rfl ?_
        refine s_nil ?_
        refine q_then ?_
        first | refine c_cond' rfl (fun hc17 => ?_) (fun hc17 => ?_) | refine c_cond rfl (fun hc17 => ?_) (fun hc17 => ?_)
        · skip
          try simp only [nrm_] at hc17
          refine c_skip ?_
          refine q_then ?_
          refine c_seq ?_
          refine c_block ?_
          obtain ⟨x, hx⟩ := take_lt (show i2 < d.items.length by omega)
          have hr := hw.i.at' Itm.len hx
          have hcap := hw.i.cap
          refine c_rordS (L0 := [wB b1 (wv d s)]) sl_ [] [(0, true), (1, true), (2, true), (3, true), (4, true), (5, true), (6, true), (7, true), (8, true), (9, true), (10, true), (11, true), (12, true), (13, true), (14, true), (15, true), (16, true), (17, true), (18, true), (19, true), (20, true), (21, true), (22, true), (23, true), (24, true), (25, true), (26, true), (27, true), (28, true), (29, false), (30, false), (31, true)] (by kernel_rfl) (by kernel_rfl) (by kernel_rfl) (by kernel_rfl) rfl (by intro c a d v w h; cases d <;> exact h) rfl ?_
          simp only [mkOrd, List.filterMap_cons, List.filterMap_nil, List.getElem?_toArray, List.getElem?_cons_zero, List.getElem?_cons_succ, Option.map_some]
          refine o_y (Y_mv) rfl rfl ?_
          refine o_y (Y_fa 6 rfl Tryz.underlying34 rfl sz31 rfl) rfl rfl ?_
          refine o_y (yl_ one31) rfl rfl ?_
          refine o_y (Y_mv) rfl rfl ?_
          refine o_y (Y_ia rfl rfl Tryz.underlying31 sz98 rfl (by omega)) rfl rfl ?_
          refine o_y (Y_fa 0 rfl Tryz.underlying98 rfl sz3 rfl) rfl rfl ?_
          refine o_y (yl_ one3) rfl rfl ?_
          refine o_y (Y_cb rfl Tryz.underlying3 Tryz.underlying5) rfl rfl ?_
          refine o_y (Y_fa 6 rfl Tryz.underlying34 rfl sz31 rfl) rfl rfl ?_
          refine o_y (yl_ one31) rfl rfl ?_
          refine o_y (Y_mv) rfl rfl ?_
          refine o_y (Y_ia rfl rfl Tryz.underlying31 sz98 rfl (by omega)) rfl rfl ?_
          refine o_y (Y_fa 1 rfl Tryz.underlying98 rfl sz3 rfl) rfl rfl ?_
          refine o_y (yl_ one3) rfl rfl ?_
          refine o_y (Y_cb rfl Tryz.underlying3 Tryz.underlying5) rfl rfl ?_
          refine o_y (Y_fa 6 rfl Tryz.underlying34 rfl sz31 rfl) rfl rfl ?_
          refine o_y (yl_ one31) rfl rfl ?_
          refine o_y (Y_mv) rfl rfl ?_
          refine o_y (Y_ia rfl rfl Tryz.underlying31 sz98 rfl (by omega)) rfl rfl ?_
          refine o_y (Y_fa 2 rfl Tryz.underlying98 rfl sz3 rfl) rfl rfl ?_
          refine o_y (yl_ one3) rfl rfl ?_
          refine o_y (Y_cb rfl Tryz.underlying3 Tryz.underlying5) rfl rfl ?_
          refine o_y (Y_fa 6 rfl Tryz.underlying34 rfl sz31 rfl) rfl rfl ?_
          refine o_y (yl_ one31) rfl rfl ?_
          refine o_y (Y_mv) rfl rfl ?_
          refine o_y (Y_ia rfl rfl Tryz.underlying31 sz98 rfl (by omega)) rfl rfl ?_
          refine o_y (Y_fa 3 rfl Tryz.underlying98 rfl sz3 rfl) rfl rfl ?_
          refine o_y (yl_ one3) rfl rfl ?_
          refine o_y (Y_cb rfl Tryz.underlying3 Tryz.underlying5) rfl rfl ?_
          refine o_n (N_bs (xs := [.tmp 109, .tmp 116, .tmp 123, .tmp 130]) (by repeat (first | exact Gv.nil | apply Gv.const | apply Gv.tmp gt_)) rfl Tryz.underlying24 inf5 rfl (by omega) (by omega) (by first | simp [Value.oneCell'] | (intro v hv; simp at hv; subst hv; rfl))) (fun _ => kp_) rfl rfl (fun b131 _ => ?_)
          refine o_n (N_app (cs := (encC d i2).map bv) (news := (iBytes x).map bv) rfl rfl Tryz.underlying24 inf5 rfl (by omega) se_ (by rw [List.length_map]; omega) (by omega) (src mm_) (by rfl) (bvs_one _) (by omega) (by omega)) (fun _ => kp_) rfl rfl (fun ⟨g132, cp132⟩ hc132 => ?_)
          refine o_y (Y_as) rfl rfl ?_
          refine o_nil ?_
          refine q_bn ?_
          refine q_then ?_
          refine c_reg ?_
          refine s_y (Y_mv) rfl rfl ?_
          refine s_y ad_ rfl rfl ?_
          refine s_y (Y_as) rfl rfl ?_
          refine s_nil ?_
          have e1 : (encC d i2).length + 4 = (encC d (i2 + 1)).length := by rw [encC_succ hx, List.length_append]; rfl
          rw [e1] at hc132 ⊢
          rw [bsnoc, ← encC_succ hx]
          refine hK (m2 - 1) (i2 + 1, g132, cp132) _ _ (by omega) ⟨by simp only; omega, hc132⟩ ⟨rfl, rfl, trivial⟩ rfl (fun _ h => h.pick ss_)
        · skip
          try simp only [nrm_] at hc17
          refine c_exit ?_
          repeat with_reducible refine q_te ?_
          refine q_exit ?_
          refine q_then ?_
          refine c_seq ?_
          obtain rfl : i2 = d.items.length := by omega
          rw [encC_all] at hcp2 ⊢
          refine c_reg ?_
          refine s_y (Y_mv) rfl rfl ?_
          refine s_y (Y_as) rfl rfl ?_
          refine s_y (Y_asC) rfl rfl ?_
          refine s_nil ?_
          refine q_then ?_
          refine c_ret ?_
          refine q_retG2 rfl gt_ gt_ (L' := _) sl_ (.inr ⟨hc2, g2, cp2, rfl, rfl, hcp2⟩)
end
end Go.Proofs.YtcogbkkdccohfaaGreat
namespace Go.Ad
open Go.RowKit Go.Maps
set_option linter.unusedVariables false
set_option linter.unusedSimpArgs false
section
variable {P : Program} {W : World} {M : List Nat} {L : List Bk} {ρ : Operand → Value} {x y : Operand} {ty : TypeId} {v : Value}
theorem Y_idx {t e : TypeId} {len i : Nat} {cs : List Value} {k : IntKind} {n : Int} (hx : ρ x = .agg cs.toArray) (hy : ρ y = .int k n) (hu : P.underlying t = some (.array len e)) (he : Cel1 P e) (hs : (P.info? e).map (·.size) = some 1) (hn : n = (i : Int)) (hi : i < len) (hv : cs[i]? = some v) : Y P W M L ρ (.index t x y) ty v := fun w hw o ho _ => by
  subst hn
  obtain ⟨d, h1, h2⟩ := he
  unfold execOp
  rw [ho]
  have : (Instr.index t (.agg cs.toArray) (.int k (i : Int))).run P w = .ok v w := by
    simp [Instr.index, asIntOf, run_underlying hu, run_size hs, part, run_isAgg h1, h2, hi, hv, Result.andThen]
  simp [hx, hy, this, Result.andThen]
theorem Y_ext {f : FuncId} {fn : Func} {e : Array Value → Sem Value} {args : List Operand} {ts : Array TypeId} {vs : List Value} (hρ : ρ (.func f) = .func (.func f) #[] #[]) (hf : P.funcs[f]? = some fn) (hnm : (fn.name == "runtime.NumGoroutine") = false)
    (hb : fn.body.isNone = true) (hn : Extern.findNext fn = none) (he : Extern.find fn = some e) (hv : args.map ρ = vs) (h : ∀ w, Has W M L w → (e vs.toArray).run P w = .ok v w) : Y P W M L ρ (.call { callee := .value (.func f), args := args.toArray, argTypes := ts }) ty v := fun w hw o ho _ => by
  have := run_callFunc_extern hf hnm hb hn he vs.toArray w
  rw [h w hw] at this
  unfold execOp
  simp [ho, resolve, hρ, Deferred.ofValue, invoke, ← hv] at this ⊢
  simp [this, Result.andThen]
end
end Go.Ad
namespace Go.Proofs.YtcogbkkdccohfaaGreat
open Go.RowKit Go.Ad Go.Maps
set_option linter.unusedVariables false
set_option linter.unusedSimpArgs false
section
variable {W : World}
set_option maxRecDepth 100000 in
theorem pnum_d {v : Value} {B : List Bk} {ys : List UInt8} (hB : Row 5 1 v ys.length (ys.map bv) B) (hbl : ys.length ≤ 100000) (hW : ∀ x ∈ B, x.holds W) {k : Nat} (hk : k ≤ 8) {x : Int} : Does Tryz.prog 62 [v, iv k, .int .u64 x] W (B.map (·.b)) (fun v' L => Row 5 1 v' (ys ++ beM x k).length ((ys ++ beM x k).map bv) L) := by
  refine enter Tryz.func62 rfl rfl rfl (Has.starts hW hB.nodup) ?_
  refine c_seq ?_
  refine c_reg ?_
  refine s_y (Y_asC) rfl rfl ?_
  refine s_nil ?_
  refine q_then ?_
  refine c_seq ?_
  refine c_seq ?_
  refine c_reg ?_
  refine s_y (Y_mv) rfl rfl ?_
  refine s_y su_ rfl rfl ?_
  refine s_y (Y_as) rfl rfl ?_
  refine s_nil ?_
  refine q_then ?_
  refine c_block ?_
  refine c_loop [0, 7, 10, 11, 12, 13, 14, 15, 16, 17, 18, 19, 20, 21] (fun m (y : Nat × List UInt8 × Value × List Bk) => y.1 = m ∧ y.2.1 ++ beM x m = ys ++ beM x k ∧ m ≤ 8 ∧ y.2.1.length + m = ys.length + k ∧ Row 5 1 y.2.2.1 y.2.1.length (y.2.1.map bv) y.2.2.2) (fun y => [(7, iv ((y.1 : Int) - 1)), (0, y.2.2.1)]) (fun y => y.2.2.2) (k) ((k, ys, v, B)) (⟨rfl, rfl, hk, rfl, hB⟩) (by repeat (first | exact trivial | refine ⟨rfl, ?_⟩)) (fun _ h => h.sub sl_) (fun _ => rfl) ?_
  rintro m ⟨m', zs, v2, B2⟩ j ⟨hm, hz, hm8, hzl, hB2⟩ K hK
  simp only at hm hz hm8 hzl hB2 ⊢
  subst hm
  refine c_seq ?_
  refine c_seq ?_
  refine c_reg ?_
  refine s_y (Y_mv) rfl rfl ?_
  refine s_y (Y_geq rfl rfl) rfl rfl ?_
  refine s_nil ?_
  refine q_then ?_
  first | refine c_cond' rfl (fun hc2 => ?_) (fun hc2 => ?_) | refine c_cond rfl (fun hc2 => ?_) (fun hc2 => ?_)
  · skip
    try simp only [nrm_] at hc2
    refine c_skip ?_
    refine q_then ?_
    refine c_seq ?_
    refine c_block ?_
    obtain ⟨q, rfl⟩ : ∃ q, m' = q + 1 := ⟨m' - 1, by omega⟩
    refine c_reg ?_
    refine s_y (Y_mv) rfl rfl ?_
    refine s_y (Y_mv) rfl rfl ?_
    refine s_y (Y_mv) rfl rfl ?_
    refine s_y mu_ rfl rfl ?_
    refine s_y ((Y_shr rfl rfl (by omega)).num (show _ = x.fdiv (2 ^ (8 * q)) by congr 2; show min (8 * (((q + 1 : Nat) : Int) - 1)).toNat 64 = _; omega)) rfl rfl ?_
    refine s_y (Y_cb rfl Tryz.underlying96 Tryz.underlying5) rfl rfl ?_
    refine s_n (N_bs (xs := [.tmp 19]) (by repeat (first | exact Gv.nil | apply Gv.const | apply Gv.tmp gt_)) rfl Tryz.underlying24 inf5 rfl (by omega) (by omega) (by intro v hv; simp at hv; subst hv; rfl)) rfl rfl (fun b20 _ => ?_)
    refine s_n (N_appR (bytes := 1) hB2 (List.perm_append_comm (l₁ := B2) (l₂ := [_])) rfl rfl Tryz.underlying24 inf5 rfl (by omega) (src (news := [bv (byteM (x.fdiv (2 ^ (8 * q))))]) mm_) (by rfl) (by simp [Value.oneCell']) (by omega) (by omega) (by omega)) rfl rfl (fun ⟨g21, cp21⟩ hc21 => ?_)
    refine s_y (Y_as) rfl rfl ?_
    refine s_nil ?_
    refine q_bn ?_
    refine q_then ?_
    refine c_reg ?_
    refine s_y (Y_mv) rfl rfl ?_
    refine s_y su_ rfl rfl ?_
    refine s_y (Y_as) rfl rfl ?_
    refine s_nil ?_
    refine hK q (q, zs ++ [byteM (x.fdiv (2 ^ (8 * q)))], .slice (some ⟨g21, 0, none⟩) (zs.length + 1) cp21, [⟨g21, 5, 1, cp21, (zs ++ [byteM (x.fdiv (2 ^ (8 * q)))]).map bv⟩]) _ _ (by omega) ⟨rfl, by rw [beM] at hz; simp only; rw [← hz]; simp, by omega, by simp only [List.length_append, List.length_singleton]; omega, by simp only; rw [List.length_append, List.length_singleton]; exact .some hc21 (by simp)⟩ ⟨by show iv _ = iv _; congr 1; omega, rfl, trivial⟩ rfl (fun w h => ?_)
    show Has W _ [⟨g21, 5, 1, cp21, (zs ++ [byteM (x.fdiv (2 ^ (8 * q)))]).map bv⟩] w
    rw [List.map_append]
    exact h.pick ss_
  · skip
    try simp only [nrm_] at hc2
    refine c_exit ?_
    repeat with_reducible refine q_te ?_
    refine q_exit ?_
    refine q_then ?_
    refine c_seq ?_
    obtain rfl : m' = 0 := by omega
    rw [beM, List.append_nil] at hz
    subst hz
    refine c_reg ?_
    refine s_y (Y_mv) rfl rfl ?_
    refine s_y (Y_as) rfl rfl ?_
    refine s_nil ?_
    refine q_then ?_
    refine c_ret ?_
    refine q_retG1 rfl gt_ (L' := _) sl_ (hB2)
set_option maxRecDepth 100000 in
theorem psmall_d {v : Value} {B : List Bk} {ys : List UInt8} (hB : Row 5 1 v ys.length (ys.map bv) B) (hbl : ys.length ≤ 100000) (hW : ∀ x ∈ B, x.holds W) {lb lo lc n : Nat} {ns : List Int} (hl : SlB W lb lo n lc 1 (ns.map iv)) (hn : n ≤ 100000) (hlb : lb ∉ B.map (·.b)) : Does Tryz.prog 63 [v, .slice (some ⟨lb, lo, none⟩) n lc] W (B.map (·.b)) (fun v' L => Row 5 1 v' (ys ++ ns.map byteM).length ((ys ++ ns.map byteM).map bv) L) := by
  obtain rfl : n = ns.length := by have := hl.len; simpa using this.symm
  refine enter Tryz.func63 rfl rfl rfl (Has.starts hW hB.nodup) ?_
  refine c_seq ?_
  refine c_reg ?_
  refine s_y (Y_asC) rfl rfl ?_
  refine s_nil ?_
  refine q_then ?_
  refine c_seq ?_
  refine c_seq ?_
  refine c_reg ?_
  refine s_y (Y_mv) rfl rfl ?_
  refine s_y (Y_len rfl rfl Tryz.underlying23) rfl rfl ?_
  refine s_y (Y_mvC) rfl rfl ?_
  refine s_nil ?_
  refine q_then ?_
  refine c_block ?_
  refine c_loop [0, 6, 9, 10, 11, 12, 13, 14, 15, 16, 17, 18] (fun m (y : Nat × List UInt8 × Value × List Bk) => y.1 + m = ns.length ∧ y.2.1 = ys ++ (ns.take y.1).map byteM ∧ Row 5 1 y.2.2.1 y.2.1.length (y.2.1.map bv) y.2.2.2) (fun y => [(9, iv y.1), (0, y.2.2.1)]) (fun y => y.2.2.2) (ns.length) ((0, ys, v, B)) (⟨by simp only; omega, by simp, hB⟩) (by repeat (first | exact trivial | refine ⟨rfl, ?_⟩)) (fun _ h => h.sub sl_) (fun _ => rfl) ?_
  rintro m ⟨i, zs, v2, B2⟩ j ⟨hi, hz, hB2⟩ K hK
  simp only at hi hz hB2 ⊢
  have hzl : zs.length = ys.length + i := by rw [hz, List.length_append, List.length_map, List.length_take]; omega
  refine c_seq ?_
  refine c_reg ?_
  refine s_y (Y_lss rfl rfl) rfl rfl ?_
  refine s_nil ?_
  refine q_then ?_
  refine c_seq ?_
  first | refine c_cond' rfl (fun hc2 => ?_) (fun hc2 => ?_) | refine c_cond rfl (fun hc2 => ?_) (fun hc2 => ?_)
  · skip
    try simp only [nrm_] at hc2
    refine c_skip ?_
    refine q_then ?_
    refine c_seq ?_
    refine c_block ?_
    refine c_seq ?_
    obtain ⟨q, hq⟩ := take_lt (show i < ns.length by omega)
    refine c_reg ?_
    refine s_y (Y_ia1 rfl rfl Tryz.underlying23 sz3 rfl (by omega)) rfl rfl ?_
    refine s_y (Y_loadR (v := iv q) (i := i) rfl one3 hl.ro rfl (by rw [List.getElem?_map, hq]; rfl) hlb) rfl rfl ?_
    refine s_y (Y_as) rfl rfl ?_
    refine s_nil ?_
    refine q_then ?_
    refine c_reg ?_
    refine s_y (Y_mv) rfl rfl ?_
    refine s_y (Y_mv) rfl rfl ?_
    refine s_y (Y_cb rfl Tryz.underlying3 Tryz.underlying5) rfl rfl ?_
    refine s_n (N_bs (xs := [.tmp 15]) (by repeat (first | exact Gv.nil | apply Gv.const | apply Gv.tmp gt_)) rfl Tryz.underlying24 inf5 rfl (by omega) (by omega) (by first | simp [Value.oneCell'] | (intro v hv; simp at hv; subst hv; rfl))) rfl rfl (fun b16 _ => ?_)
    refine s_n (N_appR (bytes := 1) hB2 (List.perm_append_comm (l₁ := B2) (l₂ := [_])) rfl rfl Tryz.underlying24 inf5 rfl (by omega) (src (news := [bv (byteM q)]) mm_) (by rfl) (by simp [Value.oneCell']) (by omega) (by omega) (by omega)) rfl rfl (fun ⟨g17, cp17⟩ hc17 => ?_)
    refine s_y (Y_as) rfl rfl ?_
    refine s_nil ?_
    refine q_bn ?_
    refine q_then ?_
    refine c_reg ?_
    refine s_y ad_ rfl rfl ?_
    refine s_y (Y_mv) rfl rfl ?_
    refine s_nil ?_
    refine hK (m - 1) (i + 1, zs ++ [byteM q], .slice (some ⟨g17, 0, none⟩) (zs.length + 1) cp17, [cB g17 cp17 (zs ++ [byteM q])]) _ _ (by omega) ⟨by simp only; omega, by simp only; rw [hz, List.append_assoc]; congr 1; obtain ⟨hlt, rfl⟩ := List.getElem?_eq_some_iff.1 hq; rw [← List.take_append_getElem hlt, List.map_append]; rfl, by simp only; rw [List.length_append, List.length_singleton]; exact .some hc17 (by simp)⟩ ⟨rfl, rfl, trivial⟩ rfl (fun w h => ?_)
    show Has W _ [⟨g17, 5, 1, cp17, (zs ++ [byteM q]).map bv⟩] w
    rw [List.map_append]
    exact h.pick ss_
  · skip
    try simp only [nrm_] at hc2
    refine c_exit ?_
    repeat with_reducible refine q_te ?_
    refine q_exit ?_
    refine q_then ?_
    refine c_seq ?_
    obtain rfl : i = ns.length := by omega
    rw [List.take_length] at hz
    subst hz
    refine c_reg ?_
    refine s_y (Y_mv) rfl rfl ?_
    refine s_y (Y_as) rfl rfl ?_
    refine s_nil ?_
    refine q_then ?_
    refine c_ret ?_
    refine q_retG1 rfl gt_ (L' := _) sl_ (hB2)
end
end Go.Proofs.YtcogbkkdccohfaaGreat
namespace Go.Ad
def mxM (l : List UInt8) : Nat := l.foldl (fun m x => max m x.toNat) 0
theorem mx_step {l : List UInt8} {i : Nat} {x : UInt8} (h : l[i]? = some x) : mxM (l.take (i + 1)) = max (mxM (l.take i)) x.toNat := by
  obtain ⟨hi, rfl⟩ := List.getElem?_eq_some_iff.1 h
  unfold mxM
  rw [← List.take_append_getElem hi, List.foldl_append, List.foldl_cons, List.foldl_nil]
theorem mx_gt (n : Nat) : ∀ (l : List UInt8) (m : Nat), n < l.foldl (fun m x => max m x.toNat) m ↔ (n < m ∨ l.any (fun x => decide (n < x.toNat)) = true)
  | [], m => by simp
  | x :: r, m => by
    rw [List.foldl_cons, mx_gt n r, List.any_cons, Bool.or_eq_true, decide_eq_true_eq]
    rw [show (n < max m x.toNat) = (n < m ∨ n < x.toNat) by rw [eq_iff_iff]; omega, or_assoc]
theorem cnt_count (k : UInt8) (l : List UInt8) : Lib.countByte (Lib.bytesOf (l.map fun x => (x.toNat : Int))) k = cnt k l := by
  have h : Lib.bytesOf (l.map fun x => (x.toNat : Int)) = l := by
    unfold Lib.bytesOf
    rw [List.map_map]
    conv => rhs; rw [← List.map_id l]
    congr 1
    funext x
    simp
  rw [h]
  unfold Lib.countByte cnt
  rw [List.count_eq_countP, List.countP_eq_length_filter]
theorem count_run {P : Program} {w : World} {b o c : Nat} {l : List UInt8} (hs : SlB w b o l.length c 1 (l.map bv)) {k : UInt8} : (Extern.BytealgCount.count ([.slice (some ⟨b, o, none⟩) l.length c, bv k] : List Value).toArray).run P w = .ok (iv (cnt k l)) w := by
  have h := Lib.run_countSlice (P := P) w b o l.length c (l.map fun x => (x.toNat : Int)) (by simp) (fun i hi => by
    have := hs.ro i (bv l[i]) (by rw [List.getElem?_map, List.getElem?_eq_getElem hi]; rfl)
    rw [this, List.getD_eq_getElem?_getD, List.getElem?_map, List.getElem?_eq_getElem hi]; rfl) (k.toNat : Int)
  have hkk : (k.toNat : Int).toNat.toUInt8 = k := by simp
  rw [hkk, cnt_count] at h
  exact h
theorem fnd_row {α : Type} {p : α → Bool} {l : List α} {i : Nat} {a : α} (h : l[i]? = some a) (hp : p a = true) : fnd p l 0 = (i : Int) ↔ fnd p (l.take i) 0 < 0 := by
  have := fnd_take (k := 0) h hp
  rw [Nat.zero_add] at this
  exact this
end Go.Ad
namespace Go.Proofs.YtcogbkkdccohfaaGreat
open Go.RowKit Go.Ad Go.Maps
set_option linter.unusedVariables false
set_option linter.unusedSimpArgs false
section
variable {W : World}
set_option maxRecDepth 100000 in
theorem pmax_d {b o n c : Nat} {l : List UInt8} (hs : SlB W b o n c 1 (l.map bv)) (h0 : 0 < n) : Does Tryz.prog 154 [.slice (some ⟨b, o, none⟩) n c] W [] (fun v L => v = .int .u8 (mxM l : Nat) ∧ L = []) := by
  obtain rfl : n = l.length := by have := hs.len; simpa using this.symm
  have hcap := hs.cap
  have hbig := hs.big
  simp only [maxLen] at hbig
  refine enter Tryz.func154 rfl rfl rfl (Has.start _) ?_
  refine c_seq ?_
  refine c_reg ?_
  refine s_y (Y_asC) rfl rfl ?_
  refine s_nil ?_
  refine q_then ?_
  refine c_seq ?_
  refine c_seq ?_
  refine c_reg ?_
  refine s_y (Y_mv) rfl rfl ?_
  refine s_y (Y_len rfl rfl Tryz.underlying24) rfl rfl ?_
  refine s_y (Y_lss rfl rfl) rfl rfl ?_
  refine s_nil ?_
  refine q_then ?_
  refine c_F rfl ((decide_eq_false (by omega))) ?_
  refine c_skip ?_
  refine q_then ?_
  refine c_seq ?_
  obtain ⟨x0, hx0⟩ := take_lt h0
  have e0 : ((mxM (l.take 1) : Nat) : Int) = x0.toNat := by rw [mx_step hx0, List.take_zero]; simp [mxM]
  refine c_reg ?_
  refine s_y (Y_mv) rfl rfl ?_
  refine s_y (Y_ia1 (n := 0) rfl rfl Tryz.underlying24 sz5 rfl (by omega)) rfl rfl ?_
  refine s_y (Y_loadR (v := .int .u8 (mxM (l.take 1) : Nat)) (i := 0) rfl one5 hs.ro rfl (by rw [List.getElem?_map, hx0, e0]; rfl)) rfl rfl ?_
  refine s_y (Y_as) rfl rfl ?_
  refine s_nil ?_
  refine q_then ?_
  refine c_seq ?_
  refine c_seq ?_
  refine c_reg ?_
  refine s_y (Y_asC) rfl rfl ?_
  refine s_nil ?_
  refine q_then ?_
  refine c_block ?_
  refine c_loop [3, 4, 12, 13, 14, 15, 16, 17, 18, 19, 20, 21, 22, 23] (fun m i => i + m = l.length ∧ 1 ≤ i) (fun i => [(4, iv i), (3, .int .u8 (mxM (l.take i) : Nat))]) (fun _ => []) (l.length - 1) (1) (⟨by omega, Nat.le_refl _⟩) (by repeat (first | exact trivial | refine ⟨rfl, ?_⟩)) (fun _ h => h.sub sl_) (fun _ => rfl) ?_
  rintro m i j ⟨hi, h1⟩ K hK
  refine c_seq ?_
  refine c_seq ?_
  refine c_reg ?_
  refine s_y (Y_mv) rfl rfl ?_
  refine s_y (Y_mv) rfl rfl ?_
  refine s_y (Y_len rfl rfl Tryz.underlying24) rfl rfl ?_
  refine s_y (Y_lss rfl rfl) rfl rfl ?_
  refine s_nil ?_
  refine q_then ?_
  first | refine c_cond' rfl (fun hc5 => ?_) (fun hc5 => ?_) | refine c_cond rfl (fun hc5 => ?_) (fun hc5 => ?_)
  · skip
    try simp only [nrm_] at hc5
    refine c_skip ?_
    refine q_then ?_
    refine c_seq ?_
    refine c_block ?_
    obtain ⟨x, hx⟩ := take_lt (show i < l.length by omega)
    refine c_reg ?_
    refine s_y (Y_mv) rfl rfl ?_
    refine s_y (Y_mv) rfl rfl ?_
    refine s_y (Y_mv) rfl rfl ?_
    refine s_y (Y_ia1 rfl rfl Tryz.underlying24 sz5 rfl (by omega)) rfl rfl ?_
    refine s_y (Y_loadR (v := bv x) (i := i) rfl one5 hs.ro rfl (by rw [List.getElem?_map, hx]; rfl)) rfl rfl ?_
    refine s_y ((Y_max rfl rfl).num (show _ = ((mxM (l.take (i + 1)) : Nat) : Int) by rw [mx_step hx]; omega)) rfl rfl ?_
    refine s_y (Y_as) rfl rfl ?_
    refine s_nil ?_
    refine q_bn ?_
    refine q_then ?_
    refine c_reg ?_
    refine s_y (Y_mv) rfl rfl ?_
    refine s_y ad_ rfl rfl ?_
    refine s_y (Y_as) rfl rfl ?_
    refine s_nil ?_
    refine hK (m - 1) (i + 1) _ _ (by omega) ⟨by omega, by omega⟩ ⟨rfl, rfl, trivial⟩ rfl (fun _ h => h)
  · skip
    try simp only [nrm_] at hc5
    refine c_exit ?_
    repeat with_reducible refine q_te ?_
    refine q_exit ?_
    refine q_then ?_
    refine c_seq ?_
    refine c_reg ?_
    refine s_y (Y_mv) rfl rfl ?_
    refine s_y (Y_as) rfl rfl ?_
    refine s_nil ?_
    refine q_then ?_
    refine c_ret ?_
    refine q_retG1 rfl gt_ (L' := _) sl_ (⟨by rw [show i = l.length by omega, List.take_length], rfl⟩)
set_option maxRecDepth 100000 in
theorem pcount_d {b o n c : Nat} {l : List UInt8} (hs : SlB W b o n c 1 (l.map bv)) {b2 c2 : Nat} {k : UInt8} (hk : Ro W b2 0 [bv k]) : Does Tryz.prog 155 [.slice (some ⟨b, o, none⟩) n c, .slice (some ⟨b2, 0, none⟩) 1 c2] W [] (fun v L => v = iv (cnt k l) ∧ L = []) := by
  obtain rfl : n = l.length := by have := hs.len; simpa using this.symm
  refine enter Tryz.func155 rfl rfl rfl (Has.start _) ?_
  refine c_seq ?_
  refine c_reg ?_
  refine s_y (Y_asC) rfl rfl ?_
  refine s_nil ?_
  refine q_then ?_
  refine c_seq ?_
  refine c_seq ?_
  refine c_reg ?_
  refine s_y (Y_mv) rfl rfl ?_
  refine s_y (Y_len rfl rfl Tryz.underlying24) rfl rfl ?_
  refine s_y (Y_eql rfl rfl) rfl rfl ?_
  refine s_nil ?_
  refine q_then ?_
  refine c_F rfl ((decide_eq_false (by decide))) ?_
  refine c_skip ?_
  refine q_then ?_
  refine c_seq ?_
  refine c_seq ?_
  refine c_reg ?_
  refine s_y (Y_mv) rfl rfl ?_
  refine s_y (Y_len rfl rfl Tryz.underlying24) rfl rfl ?_
  refine s_y (Y_eql rfl rfl) rfl rfl ?_
  refine s_nil ?_
  refine q_then ?_
  refine c_T rfl ((decide_eq_true rfl)) ?_
  refine c_seq ?_
  refine c_reg ?_
  refine s_y (Y_mv) rfl rfl ?_
  refine s_y (Y_mv) rfl rfl ?_
  refine s_y (Y_ia1 (n := 0) rfl rfl Tryz.underlying24 sz5 rfl (by decide)) rfl rfl ?_
  refine s_y (Y_loadR (v := bv k) (i := 0) rfl one5 hk rfl rfl) rfl rfl ?_
  refine s_y (Y_ext (v := iv (cnt k l)) (vs := [.slice (some ⟨b, o, none⟩) l.length c, bv k]) rfl Tryz.func190 (by kernel_rfl) (by kernel_rfl) (by kernel_rfl) (e := Extern.BytealgCount.count) (by kernel_rfl) rfl (fun w hH => count_run (hs.has hH))) rfl rfl ?_
  refine s_y (Y_as) rfl rfl ?_
  refine s_nil ?_
  refine q_then ?_
  refine c_ret ?_
  refine q_retG1 rfl gt_ (L' := _) sl_ (⟨rfl, rfl⟩)
theorem gold_sub {d : Wd} {s : Ws} : ∀ i v, ([iv d.gold.a, iv d.gold.b, iv d.gold.c, iv d.gold.d] : List Value)[i]? = some v → (wv d s)[0 + 7 + i]? = some v
  | 0, v, h => h
  | 1, v, h => h
  | 2, v, h => h
  | 3, v, h => h
  | n + 4, v, h => by simp at h
theorem gold_idx {g : Four} {k : Nat} (h : k < 4) : ([iv g.a, iv g.b, iv g.c, iv g.d] : List Value)[k]? = some (iv (g.get k)) := by
  rcases (show k = 0 ∨ k = 1 ∨ k = 2 ∨ k = 3 by omega) with rfl | rfl | rfl | rfl <;> rfl
set_option maxRecDepth 100000 in
theorem phead_d {d : Wd} {s : Ws} (hw : WAt W d s) : Does Tryz.prog 104 [.agg (wv d s).toArray] W [] (fun v L => v = iv (headM d) ∧ L = []) := by
  refine enter Tryz.func104 rfl rfl rfl (Has.start _) ?_
  refine c_seq ?_
  refine c_reg ?_
  refine s_n (N_box (cs := wv d s) rfl) rfl rfl (fun b1 _ => ?_)
  refine s_y (Y_asC) rfl rfl ?_
  refine s_nil ?_
  refine q_then ?_
  refine c_seq ?_
  refine c_reg ?_
  refine s_y (Y_fa 1 rfl Tryz.underlying34 rfl sz3 rfl) rfl rfl ?_
  refine s_y (yl_ one3) rfl rfl ?_
  refine s_c (En_call (fun _ => rfl) Tryz.func65 rfl (by kernel_rfl) rfl) (fun w hH => pwithin_d) rfl rfl ?_
  rintro _ _ ⟨rfl, rfl⟩
  refine s_y (Y_mv) rfl rfl ?_
  apply s_and 4 [9, 10, 11, 12, 13] 13 (g := 9) rfl rfl
  · intro ht4 hm
    try simp only [nrm_] at ht4
    first | refine s_y (Y_fa 2 rfl Tryz.underlying34 rfl sz3 rfl) rfl rfl ?_ | refine s_pass rfl rfl ?_
    first | refine s_y (yl_ one3) rfl rfl ?_ | refine s_pass rfl rfl ?_
    refine s_c (En_call (fun _ => rfl) Tryz.func65 rfl (by kernel_rfl) rfl) (fun w hH => pwithin_d) rfl rfl ?_
    rintro _ _ ⟨rfl, rfl⟩
    refine s_y (Y_pk rfl (Gx.tmp gt_) Gx.const) rfl rfl ?_
    first | exact hm _ ⟨rfl, trivial⟩ rfl | exact QL.sub sl_ (hm _ ⟨rfl, trivial⟩ rfl)
  · intro ht4 hm
    iterate 3 refine s_pass rfl rfl ?_
    refine s_y (Y_pk rfl (Gx.tmp gt_) Gx.const) rfl rfl ?_
    exact hm _ ⟨rfl, trivial⟩ rfl
  intro j13
  refine s_y (Y_mv) rfl rfl ?_
  apply s_and 4 [14, 15, 16, 17, 18] 18 (g := 14) rfl rfl
  · intro ht9 hm
    try simp only [nrm_] at ht9
    first | refine s_y (Y_fa 3 rfl Tryz.underlying34 rfl sz3 rfl) rfl rfl ?_ | refine s_pass rfl rfl ?_
    first | refine s_y (yl_ one3) rfl rfl ?_ | refine s_pass rfl rfl ?_
    refine s_c (En_call (fun _ => rfl) Tryz.func65 rfl (by kernel_rfl) rfl) (fun w hH => pwithin_d) rfl rfl ?_
    rintro _ _ ⟨rfl, rfl⟩
    refine s_y (Y_pk rfl (Gx.tmp gt_) Gx.const) rfl rfl ?_
    first | exact hm _ ⟨rfl, trivial⟩ rfl | exact QL.sub sl_ (hm _ ⟨rfl, trivial⟩ rfl)
  · intro ht9 hm
    iterate 3 refine s_pass rfl rfl ?_
    refine s_y (Y_pk rfl (Gx.tmp gt_) Gx.const) rfl rfl ?_
    exact hm _ ⟨rfl, trivial⟩ rfl
  intro j18
  refine s_y (Y_as) rfl rfl ?_
  refine s_nil ?_
  refine q_then ?_
  refine c_seq ?_
  refine c_seq ?_
  refine c_reg ?_
  refine s_y (Y_fa 7 rfl Tryz.underlying34 rfl sz32 rfl) rfl rfl ?_
  refine s_y (Y_loadN (vs := [iv d.gold.a, iv d.gold.b, iv d.gold.c, iv d.gold.d]) rfl many32 mm_ (by rfl) gold_sub) rfl rfl ?_
  refine s_y (Y_mvC) rfl rfl ?_
  refine s_nil ?_
  rw [show (btw d.frame 0 1073741823 && btw d.floor 1 3 && btw d.state 0 2) = (btw d.frame 0 1073741823 && btw d.floor 1 3 && btw d.state 0 2 && goldOk d.gold 0) by simp [goldOk]]
  refine q_then ?_
  refine c_block ?_
  refine c_loop [3, 5, 21, 22, 23, 24, 25, 26, 27, 28, 29] (fun m i => i + m = 4) (fun i => [(21, iv i), (3, .bool (btw d.frame 0 1073741823 && btw d.floor 1 3 && btw d.state 0 2 && goldOk d.gold i))]) (fun _ => [wB b1 (wv d s)]) (4) (0) (by omega) (by repeat (first | exact trivial | refine ⟨rfl, ?_⟩)) (fun _ h => h.sub sl_) (fun _ => rfl) ?_
  rintro m i j hi K hK
  refine c_seq ?_
  refine c_reg ?_
  refine s_y (Y_lss rfl rfl) rfl rfl ?_
  refine s_nil ?_
  refine q_then ?_
  refine c_seq ?_
  first | refine c_cond' rfl (fun hc3 => ?_) (fun hc3 => ?_) | refine c_cond rfl (fun hc3 => ?_) (fun hc3 => ?_)
  · skip
    try simp only [nrm_] at hc3
    refine c_skip ?_
    refine q_then ?_
    refine c_seq ?_
    refine c_block ?_
    refine c_seq ?_
    refine c_reg ?_
    refine s_y (Y_idx (cs := [iv d.gold.a, iv d.gold.b, iv d.gold.c, iv d.gold.d]) (i := i) rfl rfl Tryz.underlying32 one3 sz3 rfl (by omega) (gold_idx (by omega))) rfl rfl ?_
    refine s_y (Y_as) rfl rfl ?_
    refine s_nil ?_
    refine q_then ?_
    refine c_reg ?_
    refine s_y (Y_mv) rfl rfl ?_
    refine s_y (Y_mv) rfl rfl ?_
    apply s_and 3 [25, 26, 27, 28] 28 (g := 25) rfl rfl
    · intro ht2 hm
      try simp only [nrm_] at ht2
      first | refine s_y (Y_mv) rfl rfl ?_ | refine s_pass rfl rfl ?_
      refine s_c (En_call (fun _ => rfl) Tryz.func65 rfl (by kernel_rfl) rfl) (fun w hH => pwithin_d) rfl rfl ?_
      rintro _ _ ⟨rfl, rfl⟩
      refine s_y (Y_pk rfl (Gx.tmp gt_) Gx.const) rfl rfl ?_
      first | exact hm _ ⟨rfl, trivial⟩ rfl | exact QL.sub sl_ (hm _ ⟨rfl, trivial⟩ rfl)
    · intro ht2 hm
      iterate 2 refine s_pass rfl rfl ?_
      refine s_y (Y_pk rfl (Gx.tmp gt_) Gx.const) rfl rfl ?_
      exact hm _ ⟨rfl, trivial⟩ rfl
    intro j28
    refine s_y (Y_as) rfl rfl ?_
    refine s_nil ?_
    refine q_bn ?_
    refine q_then ?_
    refine c_reg ?_
    refine s_y ad_ rfl rfl ?_
    refine s_y (Y_mv) rfl rfl ?_
    refine s_nil ?_
    refine hK (m - 1) (i + 1) _ _ (by omega) (by omega) ⟨rfl, by rw [goldOk_step, ← Bool.and_assoc]; rfl, trivial⟩ rfl (fun _ h => h)
  · skip
    try simp only [nrm_] at hc3
    refine c_exit ?_
    repeat with_reducible refine q_te ?_
    refine q_exit ?_
    refine q_then ?_
    refine c_seq ?_
    refine c_block ?_
    refine c_seq ?_
    obtain rfl : i = 4 := by omega
    rw [← nums_gold]
    refine c_reg ?_
    refine s_y (Y_mv) rfl rfl ?_
    refine s_y (Y_not rfl) rfl rfl ?_
    refine s_y (Y_as) rfl rfl ?_
    refine s_nil ?_
    refine q_then ?_
    first | refine c_cond' rfl (fun hc7 => ?_) (fun hc7 => ?_) | refine c_cond rfl (fun hc7 => ?_) (fun hc7 => ?_)
    · skip
      try simp only [nrm_] at hc7
      refine c_seq ?_
      refine c_reg ?_
      refine s_y (Y_asC) rfl rfl ?_
      refine s_nil ?_
      refine q_then ?_
      refine c_ret ?_
      refine q_retG1 rfl gt_ (L' := _) sl_ (⟨by unfold headM; rw [if_pos (by simpa using hc7)], rfl⟩)
    · skip
      try simp only [nrm_] at hc7
      refine c_seq ?_
      have hn : ¬ numsOk d = false := by simpa using hc7
      refine c_reg ?_
      refine s_y (Y_fa 4 rfl Tryz.underlying34 rfl sz24 rfl) rfl rfl ?_
      refine s_y (yl_ one24) rfl rfl ?_
      refine s_y (Y_len rfl rfl Tryz.underlying24) rfl rfl ?_
      refine s_y (Y_neq rfl rfl) rfl rfl ?_
      refine s_y (Y_mv) rfl rfl ?_
      apply s_or 5 [38, 39, 40, 41, 42, 43] 43 (g := 38) rfl rfl
      · intro ht5 hm
        try simp only [nrm_] at ht5
        first | refine s_y (Y_fa 5 rfl Tryz.underlying34 rfl sz30 rfl) rfl rfl ?_ | refine s_pass rfl rfl ?_
        first | refine s_y (yl_ one30) rfl rfl ?_ | refine s_pass rfl rfl ?_
        first | refine s_y (Y_len rfl rfl Tryz.underlying30) rfl rfl ?_ | refine s_pass rfl rfl ?_
        first | refine s_y (Y_neq rfl rfl) rfl rfl ?_ | refine s_pass rfl rfl ?_
        refine s_y (Y_pk rfl Gx.const (Gx.tmp gt_)) rfl rfl ?_
        first | exact hm _ ⟨rfl, trivial⟩ rfl | exact QL.sub sl_ (hm _ ⟨rfl, trivial⟩ rfl)
      · intro ht5 hm
        iterate 4 refine s_pass rfl rfl ?_
        refine s_y (Y_pk rfl Gx.const (Gx.tmp gt_)) rfl rfl ?_
        exact hm _ ⟨rfl, trivial⟩ rfl
      intro j43
      refine s_y (Y_mv) rfl rfl ?_
      apply s_or 5 [44, 45, 46, 47, 48, 49] 49 (g := 44) rfl rfl
      · intro ht11 hm
        try simp only [nrm_] at ht11
        first | refine s_y (Y_fa 6 rfl Tryz.underlying34 rfl sz31 rfl) rfl rfl ?_ | refine s_pass rfl rfl ?_
        first | refine s_y (yl_ one31) rfl rfl ?_ | refine s_pass rfl rfl ?_
        first | refine s_y (Y_len rfl rfl Tryz.underlying31) rfl rfl ?_ | refine s_pass rfl rfl ?_
        first | refine s_y (Y_neq rfl rfl) rfl rfl ?_ | refine s_pass rfl rfl ?_
        refine s_y (Y_pk rfl Gx.const (Gx.tmp gt_)) rfl rfl ?_
        first | exact hm _ ⟨rfl, trivial⟩ rfl | exact QL.sub sl_ (hm _ ⟨rfl, trivial⟩ rfl)
      · intro ht11 hm
        iterate 4 refine s_pass rfl rfl ?_
        refine s_y (Y_pk rfl Gx.const (Gx.tmp gt_)) rfl rfl ?_
        exact hm _ ⟨rfl, trivial⟩ rfl
      intro j49
      refine s_y (Y_as) rfl rfl ?_
      refine s_nil ?_
      refine q_then ?_
      first | refine c_cond' rfl (fun hc9 => ?_) (fun hc9 => ?_) | refine c_cond rfl (fun hc9 => ?_) (fun hc9 => ?_)
      · skip
        try simp only [nrm_] at hc9
        refine c_seq ?_
        refine c_reg ?_
        refine s_y (Y_asC) rfl rfl ?_
        refine s_nil ?_
        refine q_then ?_
        refine c_ret ?_
        refine q_retG1 rfl gt_ (L' := _) sl_ (⟨by
            have : sizesOk d = false := by unfold sizesOk; rw [decide_eq_false_iff_not]; omega
            unfold headM; rw [if_neg hn, if_pos this], rfl⟩)
      · skip
        try simp only [nrm_] at hc9
        refine c_seq ?_
        have hs : ¬ sizesOk d = false := by unfold sizesOk; simp only [nrm_]; omega
        refine c_reg ?_
        refine s_y (Y_fa 4 rfl Tryz.underlying34 rfl sz24 rfl) rfl rfl ?_
        refine s_y (yl_ one24) rfl rfl ?_
        refine s_c (En_call (fun _ => rfl) Tryz.func154 rfl (by kernel_rfl) rfl) (fun w hH => pmax_d (hw.c.has hH) (by omega)) rfl rfl ?_
        rintro _ _ ⟨rfl, rfl⟩
        refine s_y (Y_gtr rfl rfl) rfl rfl ?_
        refine s_y (Y_as) rfl rfl ?_
        refine s_nil ?_
        refine q_then ?_
        first | refine c_cond' rfl (fun hc11 => ?_) (fun hc11 => ?_) | refine c_cond rfl (fun hc11 => ?_) (fun hc11 => ?_)
        · skip
          try simp only [nrm_] at hc11
          refine c_seq ?_
          refine c_reg ?_
          refine s_y (Y_asC) rfl rfl ?_
          refine s_nil ?_
          refine q_then ?_
          refine c_ret ?_
          refine q_retG1 rfl gt_ (L' := _) sl_ (⟨by
              have := (mx_gt 5 d.cells 0).1 (by show 5 < mxM d.cells; omega)
              unfold headM; rw [if_neg hn, if_neg hs, if_pos (by rcases this with h | h; omega; exact h)], rfl⟩)
        · skip
          try simp only [nrm_] at hc11
          refine c_seq ?_
          have ha : ¬ d.cells.any (fun x => decide (5 < x.toNat)) = true := fun h => by
            have := (mx_gt 5 d.cells 0).2 (.inr h)
            have : 5 < mxM d.cells := this
            omega
          refine c_reg ?_
          refine s_y (Y_fa 4 rfl Tryz.underlying34 rfl sz24 rfl) rfl rfl ?_
          refine s_y (yl_ one24) rfl rfl ?_
          refine s_n (N_bs (xs := [.const (Value.int Go.IntKind.u8 3)]) (by repeat (first | exact Gv.nil | apply Gv.const | apply Gv.tmp gt_)) rfl Tryz.underlying24 inf5 rfl (by omega) (by omega) (by first | simp [Value.oneCell'] | (intro v hv; simp at hv; subst hv; rfl))) rfl rfl (fun b58 _ => ?_)
          refine s_c (En_call (fun _ => rfl) Tryz.func155 rfl (by kernel_rfl) rfl) (fun w hH => pcount_d (k := 3) (hw.c.has hH) (hH.at' (x := ⟨b58, 5, 1, 1, [bv 3]⟩) mm_).ro) rfl rfl ?_
          rintro _ _ ⟨rfl, rfl⟩
          refine s_y (Y_neq rfl rfl) rfl rfl ?_
          refine s_y (Y_mv) rfl rfl ?_
          apply s_or 6 [61, 62, 63, 64, 65, 66, 67] 67 (g := 61) rfl rfl
          · intro ht6 hm
            try simp only [nrm_] at ht6
            first | refine s_y (Y_fa 4 rfl Tryz.underlying34 rfl sz24 rfl) rfl rfl ?_ | refine s_pass rfl rfl ?_
            first | refine s_y (yl_ one24) rfl rfl ?_ | refine s_pass rfl rfl ?_
            first | refine s_n (N_bs (xs := [.const (Value.int Go.IntKind.u8 4)]) (by repeat (first | exact Gv.nil | apply Gv.const | apply Gv.tmp gt_)) rfl Tryz.underlying24 inf5 rfl (by omega) (by omega) (by first | simp [Value.oneCell'] | (intro v hv; simp at hv; subst hv; rfl))) rfl rfl (fun b64 _ => ?_) | refine s_pass rfl rfl ?_
            refine s_c (En_call (fun _ => rfl) Tryz.func155 rfl (by kernel_rfl) rfl) (fun w hH => pcount_d (k := 4) (hw.c.has hH) (hH.at' (x := ⟨b64, 5, 1, 1, [bv 4]⟩) mm_).ro) rfl rfl ?_
            rintro _ _ ⟨rfl, rfl⟩
            first | refine s_y (Y_neq rfl rfl) rfl rfl ?_ | refine s_pass rfl rfl ?_
            refine s_y (Y_pk rfl Gx.const (Gx.tmp gt_)) rfl rfl ?_
            first | exact hm _ ⟨rfl, trivial⟩ rfl | exact QL.sub sl_ (hm _ ⟨rfl, trivial⟩ rfl)
          · intro ht6 hm
            iterate 5 refine s_pass rfl rfl ?_
            refine s_y (Y_pk rfl Gx.const (Gx.tmp gt_)) rfl rfl ?_
            exact hm _ ⟨rfl, trivial⟩ rfl
          intro j67
          refine s_y (Y_as) rfl rfl ?_
          refine s_nil ?_
          refine q_then ?_
          first | refine c_cond' rfl (fun hc13 => ?_) (fun hc13 => ?_) | refine c_cond rfl (fun hc13 => ?_) (fun hc13 => ?_)
          · skip
            try simp only [nrm_] at hc13
            refine c_seq ?_
            refine c_reg ?_
            refine s_y (Y_asC) rfl rfl ?_
            refine s_nil ?_
            refine q_then ?_
            refine c_ret ?_
            refine q_retG1 rfl gt_ (L' := _) sl_ (⟨by unfold headM; rw [if_neg hn, if_neg hs, if_neg ha, if_neg (by omega)], rfl⟩)
          · skip
            try simp only [nrm_] at hc13
            refine c_skip ?_
            refine q_bn ?_
            refine q_then ?_
            refine c_seq ?_
            refine c_reg ?_
            refine s_y (Y_asC) rfl rfl ?_
            refine s_nil ?_
            refine q_then ?_
            refine c_ret ?_
            refine q_retG1 rfl gt_ (L' := _) sl_ (⟨by unfold headM; rw [if_neg hn, if_neg hs, if_neg ha, if_pos (by omega)], rfl⟩)
set_option maxRecDepth 100000 in
theorem pfits_d {d : Wd} {s : Ws} (hw : WAt W d s) {i : Nat} {e : Ent} (he : d.ents[i]? = some e) (hl : d.ents.length = 32) : Does Tryz.prog 105 [.agg (wv d s).toArray, iv i] W [] (fun v L => v = .bool (fitsM d i e) ∧ L = []) := by
  have hr := hw.e.at' Ent.len he
  have hcap := hw.e.cap
  have hil : i < d.ents.length := (List.getElem?_eq_some_iff.1 he).1
  obtain ⟨st, hst0⟩ : ∃ q, statsM e.kind = q := ⟨_, rfl⟩
  have ht32 : d.ents.take 32 = d.ents := List.take_of_length_le (by omega)
  refine enter Tryz.func105 rfl rfl rfl (Has.start _) ?_
  refine c_seq ?_
  refine c_reg ?_
  refine s_n (N_box (cs := wv d s) rfl) rfl rfl (fun b2 _ => ?_)
  refine s_y (Y_asC) rfl rfl ?_
  refine s_nil ?_
  refine q_then ?_
  refine c_seq ?_
  refine c_reg ?_
  refine s_y (Y_fa 5 rfl Tryz.underlying34 rfl sz30 rfl) rfl rfl ?_
  refine s_y (yl_ one30) rfl rfl ?_
  refine s_y (Y_mv) rfl rfl ?_
  refine s_y (Y_ia rfl rfl Tryz.underlying30 sz93 rfl (by omega)) rfl rfl ?_
  refine s_y (ya_ many93) rfl rfl ?_
  refine s_n (N_alloc (z := .agg #[.int .i64 0, .int .i64 0, .int .i64 0, .int .i64 0, .int .i64 0, .int .i64 0, .int .i64 0, .int .i64 0, .int .i64 0, .int .i64 0, .int .i64 0]) (cs := [.int .i64 0, .int .i64 0, .int .i64 0, .int .i64 0, .int .i64 0, .int .i64 0, .int .i64 0, .int .i64 0, .int .i64 0, .int .i64 0, .int .i64 0]) zv93 rfl) rfl rfl (fun b5 _ => ?_)
  refine s_s (S_storeA (vs := e.cells) rfl rfl sz93 (by rfl) (by rfl) up_ (by rfl)) rfl ?_
  refine s_nil ?_
  refine q_then ?_
  refine c_seq ?_
  refine c_seq ?_
  refine c_reg ?_
  refine s_y (Y_fa 1 rfl Tryz.underlying93 rfl sz3 rfl) rfl rfl ?_
  refine s_y (yl_ one3) rfl rfl ?_
  refine s_c (En_call (fun _ => rfl) Tryz.func65 rfl (by kernel_rfl) rfl) (fun w hH => pwithin_d) rfl rfl ?_
  rintro _ _ ⟨rfl, rfl⟩
  refine s_y (Y_not rfl) rfl rfl ?_
  refine s_nil ?_
  refine q_then ?_
  first | refine c_cond' rfl (fun hc2 => ?_) (fun hc2 => ?_) | refine c_cond rfl (fun hc2 => ?_) (fun hc2 => ?_)
  · skip
    try simp only [nrm_] at hc2
    refine c_seq ?_
    refine c_reg ?_
    refine s_y (Y_asC) rfl rfl ?_
    refine s_nil ?_
    refine q_then ?_
    refine c_ret ?_
    refine q_retG1 rfl gt_ (L' := _) sl_ (⟨by unfold fitsM; rw [hc2]; rfl, rfl⟩)
  · skip
    try simp only [nrm_] at hc2
    refine c_skip ?_
    refine q_then ?_
    refine c_seq ?_
    refine c_seq ?_
    refine c_reg ?_
    refine s_y (Y_fa 0 rfl Tryz.underlying93 rfl sz3 rfl) rfl rfl ?_
    refine s_y (yl_ one3) rfl rfl ?_
    refine s_y (Y_eql rfl rfl) rfl rfl ?_
    refine s_nil ?_
    refine q_then ?_
    first | refine c_cond' rfl (fun hc4 => ?_) (fun hc4 => ?_) | refine c_cond rfl (fun hc4 => ?_) (fun hc4 => ?_)
    · skip
      try simp only [nrm_] at hc4
      refine c_seq ?_
      refine c_reg ?_
      refine s_y (ya_ many93) rfl rfl ?_
      refine s_y (Y_fa 1 rfl Tryz.underlying93 rfl sz3 rfl) rfl rfl ?_
      refine s_y (yl_ one3) rfl rfl ?_
      refine s_y (Y_build (cs := [.int .i64 0, _, .int .i64 0, .int .i64 0, .int .i64 0, .int .i64 0, .int .i64 0, .int .i64 0, .int .i64 0, .int .i64 0, .int .i64 0]) (by repeat (first | exact Gp.nil | apply Gp.const | apply Gp.tmp gt_)) (bld93 _ _ (by first | rfl | (simp; rfl)))) rfl rfl ?_
      refine s_y (Y_eqF (zs := [e.kind, e.gen, e.seat, e.x, e.y, e.hp, e.max, e.atk, e.df, e.poison, e.stun]) (zs' := [0, e.gen, 0, 0, 0, 0, 0, 0, 0, 0, 0]) rfl rfl flat93 rfl rfl) rfl rfl ?_
      refine s_y (Y_as) rfl rfl ?_
      refine s_nil ?_
      refine q_then ?_
      refine c_ret ?_
      refine q_retG1 rfl gt_ (L' := _) sl_ (⟨by unfold fitsM; rw [if_pos hc4]; congr 1; rw [show btw e.gen 0 255 = true by simpa using hc2, Bool.true_and]; simp [hc4], rfl⟩)
    · skip
      try simp only [nrm_] at hc4
      refine c_skip ?_
      refine q_then ?_
      refine c_seq ?_
      refine c_reg ?_
      refine s_y (Y_fa 0 rfl Tryz.underlying93 rfl sz3 rfl) rfl rfl ?_
      refine s_y (yl_ one3) rfl rfl ?_
      refine s_c (En_call (fun _ => rfl) Tryz.func129 rfl (by kernel_rfl) rfl) (fun w hH => pstats_d) rfl rfl ?_
      rintro _ _ ⟨rfl, rfl⟩
      rw [hst0]
      refine s_n (N_alloc (z := .agg #[.int .i64 0, .int .i64 0, .int .i64 0, .int .i64 0, .int .i64 0, .int .i64 0, .int .i64 0, .int .i64 0, .int .i64 0, .int .i64 0, .int .i64 0]) (cs := [.int .i64 0, .int .i64 0, .int .i64 0, .int .i64 0, .int .i64 0, .int .i64 0, .int .i64 0, .int .i64 0, .int .i64 0, .int .i64 0, .int .i64 0]) zv93 rfl) rfl rfl (fun b6 _ => ?_)
      refine s_s ((sa_ sz93)) rfl ?_
      refine s_nil ?_
      refine q_then ?_
      refine c_seq ?_
      refine c_reg ?_
      refine s_y (Y_fa 4 rfl Tryz.underlying34 rfl sz24 rfl) rfl rfl ?_
      refine s_y (yl_ one24) rfl rfl ?_
      refine s_y (Y_fa 3 rfl Tryz.underlying93 rfl sz3 rfl) rfl rfl ?_
      refine s_y (yl_ one3) rfl rfl ?_
      refine s_y (Y_fa 4 rfl Tryz.underlying93 rfl sz3 rfl) rfl rfl ?_
      refine s_y (yl_ one3) rfl rfl ?_
      refine s_c (En_call (fun _ => rfl) Tryz.func157 rfl (by kernel_rfl) rfl) (fun w hH => pgat_d (hw.c.has hH)) rfl rfl ?_
      rintro _ _ ⟨rfl, rfl⟩
      refine s_c (En_call (fun _ => rfl) Tryz.func156 rfl (by kernel_rfl) rfl) (fun w hH => pwalk_d) rfl rfl ?_
      rintro _ _ ⟨rfl, rfl⟩
      refine s_y (Y_mv) rfl rfl ?_
      apply s_and 6 [36, 37, 38, 39, 40, 41, 42] 42 (g := 36) rfl rfl
      · intro ht9 hm
        try simp only [nrm_] at ht9
        first | refine s_y (Y_fa 5 rfl Tryz.underlying93 rfl sz3 rfl) rfl rfl ?_ | refine s_pass rfl rfl ?_
        first | refine s_y (yl_ one3) rfl rfl ?_ | refine s_pass rfl rfl ?_
        first | refine s_y (Y_fa 6 rfl Tryz.underlying93 rfl sz3 rfl) rfl rfl ?_ | refine s_pass rfl rfl ?_
        first | refine s_y (yl_ one3) rfl rfl ?_ | refine s_pass rfl rfl ?_
        refine s_c (En_call (fun _ => rfl) Tryz.func65 rfl (by kernel_rfl) rfl) (fun w hH => pwithin_d) rfl rfl ?_
        rintro _ _ ⟨rfl, rfl⟩
        refine s_y (Y_pk rfl (Gx.tmp gt_) Gx.const) rfl rfl ?_
        first | exact hm _ ⟨rfl, trivial⟩ rfl | exact QL.sub sl_ (hm _ ⟨rfl, trivial⟩ rfl)
      · intro ht9 hm
        iterate 5 refine s_pass rfl rfl ?_
        refine s_y (Y_pk rfl (Gx.tmp gt_) Gx.const) rfl rfl ?_
        exact hm _ ⟨rfl, trivial⟩ rfl
      intro j42
      refine s_y (Y_mv) rfl rfl ?_
      apply s_and 6 [43, 44, 45, 46, 47, 48, 49] 49 (g := 43) rfl rfl
      · intro ht16 hm
        try simp only [nrm_] at ht16
        first | refine s_y (Y_fa 6 rfl Tryz.underlying93 rfl sz3 rfl) rfl rfl ?_ | refine s_pass rfl rfl ?_
        first | refine s_y (yl_ one3) rfl rfl ?_ | refine s_pass rfl rfl ?_
        first | refine s_y (Y_fa 6 rfl Tryz.underlying93 rfl sz3 rfl) rfl rfl ?_ | refine s_pass rfl rfl ?_
        first | refine s_y (yl_ one3) rfl rfl ?_ | refine s_pass rfl rfl ?_
        first | refine s_y (Y_eql rfl rfl) rfl rfl ?_ | refine s_pass rfl rfl ?_
        refine s_y (Y_pk rfl (Gx.tmp gt_) Gx.const) rfl rfl ?_
        first | exact hm _ ⟨rfl, trivial⟩ rfl | exact QL.sub sl_ (hm _ ⟨rfl, trivial⟩ rfl)
      · intro ht16 hm
        iterate 5 refine s_pass rfl rfl ?_
        refine s_y (Y_pk rfl (Gx.tmp gt_) Gx.const) rfl rfl ?_
        exact hm _ ⟨rfl, trivial⟩ rfl
      intro j49
      refine s_y (Y_mv) rfl rfl ?_
      apply s_and 6 [50, 51, 52, 53, 54, 55, 56] 56 (g := 50) rfl rfl
      · intro ht23 hm
        try simp only [nrm_] at ht23
        first | refine s_y (Y_fa 7 rfl Tryz.underlying93 rfl sz3 rfl) rfl rfl ?_ | refine s_pass rfl rfl ?_
        first | refine s_y (yl_ one3) rfl rfl ?_ | refine s_pass rfl rfl ?_
        first | refine s_y (Y_fa 7 rfl Tryz.underlying93 rfl sz3 rfl) rfl rfl ?_ | refine s_pass rfl rfl ?_
        first | refine s_y (yl_ one3) rfl rfl ?_ | refine s_pass rfl rfl ?_
        first | refine s_y (Y_eql rfl rfl) rfl rfl ?_ | refine s_pass rfl rfl ?_
        refine s_y (Y_pk rfl (Gx.tmp gt_) Gx.const) rfl rfl ?_
        first | exact hm _ ⟨rfl, trivial⟩ rfl | exact QL.sub sl_ (hm _ ⟨rfl, trivial⟩ rfl)
      · intro ht23 hm
        iterate 5 refine s_pass rfl rfl ?_
        refine s_y (Y_pk rfl (Gx.tmp gt_) Gx.const) rfl rfl ?_
        exact hm _ ⟨rfl, trivial⟩ rfl
      intro j56
      refine s_y (Y_mv) rfl rfl ?_
      apply s_and 6 [57, 58, 59, 60, 61, 62, 63] 63 (g := 57) rfl rfl
      · intro ht30 hm
        try simp only [nrm_] at ht30
        first | refine s_y (Y_fa 8 rfl Tryz.underlying93 rfl sz3 rfl) rfl rfl ?_ | refine s_pass rfl rfl ?_
        first | refine s_y (yl_ one3) rfl rfl ?_ | refine s_pass rfl rfl ?_
        first | refine s_y (Y_fa 8 rfl Tryz.underlying93 rfl sz3 rfl) rfl rfl ?_ | refine s_pass rfl rfl ?_
        first | refine s_y (yl_ one3) rfl rfl ?_ | refine s_pass rfl rfl ?_
        first | refine s_y (Y_eql rfl rfl) rfl rfl ?_ | refine s_pass rfl rfl ?_
        refine s_y (Y_pk rfl (Gx.tmp gt_) Gx.const) rfl rfl ?_
        first | exact hm _ ⟨rfl, trivial⟩ rfl | exact QL.sub sl_ (hm _ ⟨rfl, trivial⟩ rfl)
      · intro ht30 hm
        iterate 5 refine s_pass rfl rfl ?_
        refine s_y (Y_pk rfl (Gx.tmp gt_) Gx.const) rfl rfl ?_
        exact hm _ ⟨rfl, trivial⟩ rfl
      intro j63
      refine s_y (Y_as) rfl rfl ?_
      refine s_nil ?_
      refine q_then ?_
      refine c_seq ?_
      refine c_reg ?_
      refine s_y (Y_mv) rfl rfl ?_
      refine s_y (Y_mv) rfl rfl ?_
      apply s_and 4 [65, 66, 67, 68, 69] 69 (g := 65) rfl rfl
      · intro ht2 hm
        try simp only [nrm_] at ht2
        first | refine s_y (Y_fa 9 rfl Tryz.underlying93 rfl sz3 rfl) rfl rfl ?_ | refine s_pass rfl rfl ?_
        first | refine s_y (yl_ one3) rfl rfl ?_ | refine s_pass rfl rfl ?_
        refine s_c (En_call (fun _ => rfl) Tryz.func65 rfl (by kernel_rfl) rfl) (fun w hH => pwithin_d) rfl rfl ?_
        rintro _ _ ⟨rfl, rfl⟩
        refine s_y (Y_pk rfl (Gx.tmp gt_) Gx.const) rfl rfl ?_
        first | exact hm _ ⟨rfl, trivial⟩ rfl | exact QL.sub sl_ (hm _ ⟨rfl, trivial⟩ rfl)
      · intro ht2 hm
        iterate 3 refine s_pass rfl rfl ?_
        refine s_y (Y_pk rfl (Gx.tmp gt_) Gx.const) rfl rfl ?_
        exact hm _ ⟨rfl, trivial⟩ rfl
      intro j69
      refine s_y (Y_mv) rfl rfl ?_
      apply s_and 4 [70, 71, 72, 73, 74] 74 (g := 70) rfl rfl
      · intro ht7 hm
        try simp only [nrm_] at ht7
        first | refine s_y (Y_fa 10 rfl Tryz.underlying93 rfl sz3 rfl) rfl rfl ?_ | refine s_pass rfl rfl ?_
        first | refine s_y (yl_ one3) rfl rfl ?_ | refine s_pass rfl rfl ?_
        refine s_c (En_call (fun _ => rfl) Tryz.func65 rfl (by kernel_rfl) rfl) (fun w hH => pwithin_d) rfl rfl ?_
        rintro _ _ ⟨rfl, rfl⟩
        refine s_y (Y_pk rfl (Gx.tmp gt_) Gx.const) rfl rfl ?_
        first | exact hm _ ⟨rfl, trivial⟩ rfl | exact QL.sub sl_ (hm _ ⟨rfl, trivial⟩ rfl)
      · intro ht7 hm
        iterate 3 refine s_pass rfl rfl ?_
        refine s_y (Y_pk rfl (Gx.tmp gt_) Gx.const) rfl rfl ?_
        exact hm _ ⟨rfl, trivial⟩ rfl
      intro j74
      refine s_y (Y_as) rfl rfl ?_
      refine s_nil ?_
      refine q_then ?_
      refine c_seq ?_
      refine c_seq ?_
      have hgen : btw e.gen 0 255 = true := by simpa using hc2
      have hrow := fnd_row (p := fun x : Ent => decide (x.kind ≠ 0 ∧ x.x = e.x ∧ x.y = e.y)) he (by simp [hc4])
      refine c_reg ?_
      refine s_y (Y_fa 0 rfl Tryz.underlying93 rfl sz3 rfl) rfl rfl ?_
      refine s_y (yl_ one3) rfl rfl ?_
      refine s_y (Y_eql rfl rfl) rfl rfl ?_
      refine s_nil ?_
      refine q_then ?_
      first | refine c_cond' rfl (fun hc9 => ?_) (fun hc9 => ?_) | refine c_cond rfl (fun hc9 => ?_) (fun hc9 => ?_)
      · skip
        try simp only [nrm_] at hc9
        refine c_seq ?_
        refine c_reg ?_
        refine s_y (Y_mv) rfl rfl ?_
        refine s_y (Y_mv) rfl rfl ?_
        apply s_and 4 [79, 80, 81, 82, 83] 83 (g := 79) rfl rfl
        · intro ht2 hm
          try simp only [nrm_] at ht2
          first | refine s_y (Y_fa 2 rfl Tryz.underlying93 rfl sz3 rfl) rfl rfl ?_ | refine s_pass rfl rfl ?_
          first | refine s_y (yl_ one3) rfl rfl ?_ | refine s_pass rfl rfl ?_
          refine s_c (En_call (fun _ => rfl) Tryz.func65 rfl (by kernel_rfl) rfl) (fun w hH => pwithin_d) rfl rfl ?_
          rintro _ _ ⟨rfl, rfl⟩
          refine s_y (Y_pk rfl (Gx.tmp gt_) Gx.const) rfl rfl ?_
          first | exact hm _ ⟨rfl, trivial⟩ rfl | exact QL.sub sl_ (hm _ ⟨rfl, trivial⟩ rfl)
        · intro ht2 hm
          iterate 3 refine s_pass rfl rfl ?_
          refine s_y (Y_pk rfl (Gx.tmp gt_) Gx.const) rfl rfl ?_
          exact hm _ ⟨rfl, trivial⟩ rfl
        intro j83
        refine s_y (Y_mv) rfl rfl ?_
        apply s_and 10 [84, 85, 86, 87, 88, 89, 90, 91, 92, 93, 94] 94 (g := 84) rfl rfl
        · intro ht7 hm
          try simp only [nrm_] at ht7
          first | refine s_y (Y_fa 5 rfl Tryz.underlying34 rfl sz30 rfl) rfl rfl ?_ | refine s_pass rfl rfl ?_
          first | refine s_y (yl_ one30) rfl rfl ?_ | refine s_pass rfl rfl ?_
          first | refine s_y (Y_fa 3 rfl Tryz.underlying93 rfl sz3 rfl) rfl rfl ?_ | refine s_pass rfl rfl ?_
          first | refine s_y (yl_ one3) rfl rfl ?_ | refine s_pass rfl rfl ?_
          first | refine s_y (Y_fa 4 rfl Tryz.underlying93 rfl sz3 rfl) rfl rfl ?_ | refine s_pass rfl rfl ?_
          first | refine s_y (yl_ one3) rfl rfl ?_ | refine s_pass rfl rfl ?_
          refine s_c (En_call (fun _ => rfl) Tryz.func115 rfl (by kernel_rfl) rfl) (fun w hH => peat_d (hw.e.has hH)) rfl rfl ?_
          rintro _ _ ⟨rfl, rfl⟩
          first | refine s_y (Y_mv) rfl rfl ?_ | refine s_pass rfl rfl ?_
          first | refine s_y (Y_eql rfl rfl) rfl rfl ?_ | refine s_pass rfl rfl ?_
          refine s_y (Y_pk rfl (Gx.tmp gt_) Gx.const) rfl rfl ?_
          first | exact hm _ ⟨rfl, trivial⟩ rfl | exact QL.sub sl_ (hm _ ⟨rfl, trivial⟩ rfl)
        · intro ht7 hm
          iterate 9 refine s_pass rfl rfl ?_
          refine s_y (Y_pk rfl (Gx.tmp gt_) Gx.const) rfl rfl ?_
          exact hm _ ⟨rfl, trivial⟩ rfl
        intro j94
        refine s_y (Y_mv) rfl rfl ?_
        apply s_and 8 [95, 96, 97, 98, 99, 100, 101, 102, 103] 103 (g := 95) rfl rfl
        · intro ht18 hm
          try simp only [nrm_] at ht18
          first | refine s_y (Y_fa 5 rfl Tryz.underlying34 rfl sz30 rfl) rfl rfl ?_ | refine s_pass rfl rfl ?_
          first | refine s_y (yl_ one30) rfl rfl ?_ | refine s_pass rfl rfl ?_
          first | refine s_y (Y_fa 2 rfl Tryz.underlying93 rfl sz3 rfl) rfl rfl ?_ | refine s_pass rfl rfl ?_
          first | refine s_y (yl_ one3) rfl rfl ?_ | refine s_pass rfl rfl ?_
          refine s_c (En_call (fun _ => rfl) Tryz.func127 rfl (by kernel_rfl) rfl) (fun w hH => phero_d (hw.e.has hH)) rfl rfl ?_
          rintro _ _ ⟨rfl, rfl⟩
          first | refine s_y (Y_mv) rfl rfl ?_ | refine s_pass rfl rfl ?_
          first | refine s_y (Y_eql rfl rfl) rfl rfl ?_ | refine s_pass rfl rfl ?_
          refine s_y (Y_pk rfl (Gx.tmp gt_) Gx.const) rfl rfl ?_
          first | exact hm _ ⟨rfl, trivial⟩ rfl | exact QL.sub sl_ (hm _ ⟨rfl, trivial⟩ rfl)
        · intro ht18 hm
          iterate 7 refine s_pass rfl rfl ?_
          refine s_y (Y_pk rfl (Gx.tmp gt_) Gx.const) rfl rfl ?_
          exact hm _ ⟨rfl, trivial⟩ rfl
        intro j103
        refine s_y (Y_as) rfl rfl ?_
        refine s_nil ?_
        refine q_then ?_
        refine c_ret ?_
        refine q_retG1 rfl gt_ (L' := _) sl_ (⟨by
            have hrow2 := fnd_row (p := fun x : Ent => decide (x.kind = 1 ∧ x.seat = e.seat)) he (by simp [hc9])
            rw [ht32]
            congr 1
            rw [Bool.eq_iff_iff, fits_iff hc4, hst0]
            rw [show eAt d.ents e.x e.y = _ from rfl, show eHero d.ents e.seat = _ from rfl]
            simp only [nrm_, btw, eAt, eHero, hrow, hrow2] at hgen ⊢
            grind, rfl⟩)
      · skip
        try simp only [nrm_] at hc9
        refine c_skip ?_
        refine q_then ?_
        refine c_seq ?_
        refine c_reg ?_
        refine s_y (Y_mv) rfl rfl ?_
        refine s_y (Y_mv) rfl rfl ?_
        apply s_and 4 [105, 106, 107, 108, 109] 109 (g := 105) rfl rfl
        · intro ht2 hm
          try simp only [nrm_] at ht2
          first | refine s_y (Y_fa 2 rfl Tryz.underlying93 rfl sz3 rfl) rfl rfl ?_ | refine s_pass rfl rfl ?_
          first | refine s_y (yl_ one3) rfl rfl ?_ | refine s_pass rfl rfl ?_
          first | refine s_y (Y_eql rfl rfl) rfl rfl ?_ | refine s_pass rfl rfl ?_
          refine s_y (Y_pk rfl (Gx.tmp gt_) Gx.const) rfl rfl ?_
          first | exact hm _ ⟨rfl, trivial⟩ rfl | exact QL.sub sl_ (hm _ ⟨rfl, trivial⟩ rfl)
        · intro ht2 hm
          iterate 3 refine s_pass rfl rfl ?_
          refine s_y (Y_pk rfl (Gx.tmp gt_) Gx.const) rfl rfl ?_
          exact hm _ ⟨rfl, trivial⟩ rfl
        intro j109
        refine s_y (Y_mv) rfl rfl ?_
        apply s_and 10 [110, 111, 112, 113, 114, 115, 116, 117, 118, 119, 120] 120 (g := 110) rfl rfl
        · intro ht7 hm
          try simp only [nrm_] at ht7
          first | refine s_y (Y_fa 5 rfl Tryz.underlying34 rfl sz30 rfl) rfl rfl ?_ | refine s_pass rfl rfl ?_
          first | refine s_y (yl_ one30) rfl rfl ?_ | refine s_pass rfl rfl ?_
          first | refine s_y (Y_fa 3 rfl Tryz.underlying93 rfl sz3 rfl) rfl rfl ?_ | refine s_pass rfl rfl ?_
          first | refine s_y (yl_ one3) rfl rfl ?_ | refine s_pass rfl rfl ?_
          first | refine s_y (Y_fa 4 rfl Tryz.underlying93 rfl sz3 rfl) rfl rfl ?_ | refine s_pass rfl rfl ?_
          first | refine s_y (yl_ one3) rfl rfl ?_ | refine s_pass rfl rfl ?_
          refine s_c (En_call (fun _ => rfl) Tryz.func115 rfl (by kernel_rfl) rfl) (fun w hH => peat_d (hw.e.has hH)) rfl rfl ?_
          rintro _ _ ⟨rfl, rfl⟩
          first | refine s_y (Y_mv) rfl rfl ?_ | refine s_pass rfl rfl ?_
          first | refine s_y (Y_eql rfl rfl) rfl rfl ?_ | refine s_pass rfl rfl ?_
          refine s_y (Y_pk rfl (Gx.tmp gt_) Gx.const) rfl rfl ?_
          first | exact hm _ ⟨rfl, trivial⟩ rfl | exact QL.sub sl_ (hm _ ⟨rfl, trivial⟩ rfl)
        · intro ht7 hm
          iterate 9 refine s_pass rfl rfl ?_
          refine s_y (Y_pk rfl (Gx.tmp gt_) Gx.const) rfl rfl ?_
          exact hm _ ⟨rfl, trivial⟩ rfl
        intro j120
        refine s_y (Y_as) rfl rfl ?_
        refine s_nil ?_
        refine q_then ?_
        refine c_ret ?_
        refine q_retG1 rfl gt_ (L' := _) sl_ (⟨by
            rw [ht32]
            congr 1
            rw [Bool.eq_iff_iff, fits_iff hc4, hst0]
            rw [show eAt d.ents e.x e.y = _ from rfl]
            simp only [nrm_, btw, eAt, hrow] at hgen ⊢
            grind, rfl⟩)
end
end Go.Proofs.YtcogbkkdccohfaaGreat
namespace Go.Ad
open Go.RowKit Go.Maps
set_option linter.unusedVariables false
set_option linter.unusedSimpArgs false
section
variable {P : Program} {W : World} {M : List Nat} {L : List Bk} {ρ : Operand → Value} {x y z : Operand} {ty : TypeId} {v : Value} {ops : Array Oper} {Q : Exit → Act → World → Prop} {rest : List Oper} {ov : Ov} {base : List Value}
def KeyOk (P : Program) (t : TypeId) (n : Nat) : Prop := Flat P t n ∧ (∃ fs, P.underlying t = some (.struct fs)) ∧ ∀ e w (zs : List Int), zs.length = n → (Instr.checkKey e 10000 t (.agg (ints zs))).run P w = .ok () w
theorem run_askKey {t : TypeId} {n : Nat} (hf : Flat P t n) {zs : List Int} (hz : zs.length = n) (w : World) : ∀ (es : List MapEntry) (kss : List (List Int)) (i : Nat), es.map (·.key) = kss.map (fun z => .agg (ints z)) → (∀ k ∈ kss, k.length = n) →
    ∃ r, (Instr.findAsking t (.agg (ints zs)) es i).run P w = .ok r w ∧ r.isSome = decide (zs ∈ kss)
  | [], [], i, _, _ => ⟨none, rfl, by simp⟩
  | e :: es, k :: kss, i, he, hk => by
    simp only [List.map_cons, List.cons.injEq] at he
    have h1 := hf.1 w zs k hz (hk k (List.Mem.head _))
    have h1' : (Op.equal t (.agg (ints zs)) (.agg (ints k))).run P w = .ok (decide (zs = k)) w := h1
    by_cases hzk : zs = k
    · refine ⟨some (i, e.val), ?_, by simp [hzk]⟩
      simp only [Instr.findAsking, Sem.run_bind, he.1, h1', Result.andThen_ok]
      simp [hzk]
    · obtain ⟨r, h2, h3⟩ := run_askKey hf hz w es kss (i + 1) he.2 (fun q hq => hk q (List.Mem.tail _ hq))
      refine ⟨r, ?_, by rw [h3]; simp [hzk]⟩
      simp only [Instr.findAsking, Sem.run_bind, he.1, h1', Result.andThen_ok]
      simpa [hzk] using h2
theorem run_findKey {t : TypeId} {n : Nat} (hf : KeyOk P t n) {zs : List Int} (hz : zs.length = n) (w : World) {es : List MapEntry} {kss : List (List Int)} (he : es.map (·.key) = kss.map (fun z => .agg (ints z))) (hk : ∀ k ∈ kss, k.length = n) :
    ∃ r, (Instr.findKey t (.agg (ints zs)) es).run P w = .ok r w ∧ r.isSome = decide (zs ∈ kss) := by
  obtain ⟨h1, ⟨fs, h2⟩, h3⟩ := hf
  obtain ⟨r, h4, h5⟩ := run_askKey h1 hz w es kss 0 he hk
  unfold Instr.findKey
  simp only [Sem.run_bind, run_underlying h2, Result.andThen_ok]
  cases es with
  | nil =>
    cases kss with
    | nil => exact ⟨none, rfl, by simp⟩
    | cons a b => simp at he
  | cons e es =>
    have : Instr.findNow (.struct fs) (.agg (ints zs)) (e :: es) 0 = none := rfl
    rw [this]
    exact ⟨r, h4, h5⟩
theorem N_look {b : Nat} {t kt et : TypeId} {n : Nat} {zs : List Int} {es : Array MapEntry} {clock : Nat} {kss : List (List Int)} {zv : Value} (hx : ρ x = .map (some b)) (hy : ρ y = .agg (ints zs)) (hu : P.underlying t = some (.map kt et)) (hf : KeyOk P kt n) (hz : zs.length = n) (hzv : ∀ w, (zeroValue et).run P w = .ok zv w)
    (hM : W.heap[b]? = some (.map es clock)) (he : es.toList.map (·.key) = kss.map (fun z => .agg (ints z))) (hk : ∀ k ∈ kss, k.length = n) : N P W [] L ρ (.lookup t x y true) ty (fun _ : Value => True) (fun v => .tuple #[v, .bool (decide (zs ∈ kss))]) (fun _ => L) := fun w hw o ho _ => by
  have hb : w.heap[b]? = some (.map es clock) := by
    have hlt : b < W.heap.size := (Array.getElem?_eq_some_iff.1 hM).1
    rw [hw.ex.block b hlt (by simp)]; exact hM
  obtain ⟨r, h1, h2⟩ := run_findKey hf hz w he hk
  have hck := hf.2.2 es.isEmpty w zs hz
  cases r with
  | none =>
    refine ⟨zv, w, trivial, ?_, hw⟩
    unfold execOp
    rw [ho]
    simp only [hx, hy, Instr.lookup, Sem.run_bind, run_underlying hu, Result.andThen_ok, MapKept.run_getObj_map hb, Sem.run_pure, hck, h1, hzv]
    have : decide (zs ∈ kss) = false := by rw [← h2]; rfl
    rw [this]; rfl
  | some p =>
    refine ⟨p.2, w, trivial, ?_, hw⟩
    unfold execOp
    rw [ho]
    simp only [hx, hy, Instr.lookup, Sem.run_bind, run_underlying hu, Result.andThen_ok, MapKept.run_getObj_map hb, Sem.run_pure, hck, h1]
    have : decide (zs ∈ kss) = true := by rw [← h2]; rfl
    rw [this]; rfl
theorem s_makeMap {d : Nat} {t : TypeId} {ty : TypeId} {pos : String} {aft : Array Edge} {g : Option (Nat × Bool)} (hw : wantedL ops ov base ⟨some d, .makeMap t none, ty, pos, aft, g⟩ = true) (hd : Nat.blt d base.length = true)
    (k : ∀ W1 b, Has W M L W1 → W1.heap[b]? = some (.map #[] 0) → W.heap.size ≤ b → wpL P W1 [] ops Q rest ((d, .map (some b)) :: ov) base []) : wpL P W M ops Q (⟨some d, .makeMap t none, ty, pos, aft, g⟩ :: rest) ov base L := fun a w hr hH => by
  have hA : Has W M L (w.alloc (.map #[] 0)) := ⟨hH.ex.alloc _, fun x hx => ⟨(hH.at' hx).of_block (Below.heap_alloc w _ _ (hH.at' hx).lt), (hH.bk x hx).2⟩, hH.nd⟩
  refine G_val (by rw [hr.wanted]; exact hw) (v := .map (some w.heap.size)) (w' := w.alloc (.map #[] 0)) ?_ (k _ _ hA (heap_alloc_new w _) hH.size _ _ (hr.put _ hd) (Has.start _))
  unfold execOp
  rfl
theorem s_mapUpd {b : Nat} {t kt et : TypeId} {n : Nat} {zs : List Int} {es : Array MapEntry} {clock : Nat} {kss : List (List Int)} {pos : String} {aft : Array Edge} {g : Option (Nat × Bool)} (hx : ev ov base x = .map (some b)) (hy : ev ov base y = .agg (ints zs)) (hv : ev ov base z = v) (hu : P.underlying t = some (.map kt et)) (hf : KeyOk P kt n) (hz : zs.length = n)
    (hM : W.heap[b]? = some (.map es clock)) (he : es.toList.map (·.key) = kss.map (fun z => .agg (ints z))) (hk : ∀ k ∈ kss, k.length = n) (hno : zs ∉ kss) (hw : wantedL ops ov base ⟨none, .mapUpdate t x y z, ty, pos, aft, g⟩ = true)
    (k : ∀ W1, W1.heap[b]? = some (.map (es.push ⟨.agg (ints zs), v, clock⟩) (clock + 1)) → Ex [b] W W1 → wpL P W1 [] ops Q rest ov base []) : wpL P W [] ops Q (⟨none, .mapUpdate t x y z, ty, pos, aft, g⟩ :: rest) ov base L := fun a w hr hH => by
  have hlt : b < W.heap.size := (Array.getElem?_eq_some_iff.1 hM).1
  have hb : w.heap[b]? = some (.map es clock) := by
    rw [hH.ex.block b hlt (by simp)]; exact hM
  obtain ⟨r, h1, h2⟩ := run_findKey hf hz w he hk
  have hck := hf.2.2 false w zs hz
  obtain rfl : r = none := by
    cases r with
    | none => rfl
    | some p => simp [hno] at h2
  refine G_skip (by rw [hr.wanted]; exact hw) (w' := ChangeMaps.setBlock w b (.map (es.push ⟨.agg (ints zs), v, clock⟩) (clock + 1))) ?_ (k _ ?_ ?_ _ _ hr (Has.start _))
  · rw [hr.eval]
    unfold execOp
    simp only [hx, hy, hv, Instr.mapUpdate, Sem.run_bind, run_underlying hu, Result.andThen_ok, MapKept.run_getObj_map hb, hck, h1, MapKept.run_setObj_map _ hb]
    rfl
  · have hbw : b < w.heap.size := (Array.getElem?_eq_some_iff.1 hb).1
    simp [ChangeMaps.setBlock, hbw]
  · refine ⟨hH.ex.os, hH.ex.tape, hH.ex.output, by simpa [ChangeMaps.setBlock] using hH.ex.size, fun i hi hn => ?_⟩
    have hne : b ≠ i := fun h => hn (by simp [h])
    rw [← hH.ex.block i hi (by simp)]
    simp [ChangeMaps.setBlock, hne]
theorem c_loopW {α : Type} (ks : List Nat) (φ : Nat → α → World → Prop) (tr : α → Ov) (n0 : Nat) (y0 : α) {c : Code} (h0 : ∀ w, Has W [] [] w → φ n0 y0 w) (ht : AllGet ov base (tr y0))
    (hk : ∀ y, ((tr y).all fun p => ks.any (Nat.beq p.1)) = true)
    (round : ∀ n y j W', φ n y W' → ∀ K, (∀ n' y' ov' W'' L'', n' < n → (∀ w, Has W'' [] L'' w → φ n' y' w) → AllGet ov' base (tr y') → ov'.drop ks = ov.drop ks → QL W'' [] K ov' base L'') → wpC P W' [] c (Exit.then K Q) (tr y ++ (junk ks j ++ ov)) base []) : wpC P W [] (.loop c) Q ov base L := fun a w hr hH => by
  refine wp_loop_ghost (fun n a w => ∃ y, φ n y w ∧ ∃ j, Rep (tr y ++ (junk ks j ++ ov)) base a) n0 ⟨y0, h0 w (hH.sub (List.nil_sublist _)), _, hr.again ht rfl (hk y0)⟩ ?_
  rintro n a w ⟨y, hy, j, hr⟩
  exact round n y j w hy _ (fun n' y' ov' W'' L'' hlt hy' ha hd a' w' hr' hH' => ⟨n', hlt, y', hy' w' hH', _, hr'.again ha hd (hk y')⟩) a w hr (Has.start w)
theorem q_retW {fn : Func} {W0 : World} {t : Nat} {v : Value} {Post : Value → List Bk → Prop} (hX : ∀ w, Ex [] W w → Ex [] W0 w) (hr : fn.results = #[.tmp t]) (hv : Gt ov base t v) (hp : Post v []) : QL W [] (bodyPost P fn (fun e w' => ∃ v L, e = .returned v ∧ Has W0 [] L w' ∧ Post v L) .ret) ov base L := fun a w hrp hH =>
  bodyPost_ret (v := v) (by rw [results_tmp hr, hrp.get, hv.eq]) hrp.defers ⟨v, [], rfl, ⟨hX w hH.ex, by simp, by simp⟩, hp⟩
end
end Go.Ad
namespace Go.Ad
def keysOf (l : List Itm) : List (List Int) := (l.filter fun y => !y.isZ).map fun y => [0, y.whr, y.a, y.b]
theorem keys_len (l : List Itm) : ∀ k ∈ keysOf l, k.length = 4 := fun k hk => by
  obtain ⟨y, _, rfl⟩ := List.mem_map.1 hk
  rfl
theorem keys_step {l : List Itm} {i : Nat} {x : Itm} (h : l[i]? = some x) : keysOf (l.take (i + 1)) = keysOf (l.take i) ++ if x.isZ then [] else [[0, x.whr, x.a, x.b]] := by
  obtain ⟨hi, rfl⟩ := List.getElem?_eq_some_iff.1 h
  unfold keysOf
  rw [← List.take_append_getElem hi, List.filter_append, List.map_append, List.filter_cons, List.filter_nil]
  cases (l[i]).isZ <;> rfl
theorem alone_keys {l : List Itm} {x : Itm} (hnz : ∀ y ∈ l, y.isZ = false → y.whr ≠ 0) : aloneM l x = !decide ([0, x.whr, x.a, x.b] ∈ keysOf l) := by
  rw [Bool.eq_iff_iff, Bool.not_eq_true', decide_eq_false_iff_not, aloneM, List.all_eq_true]
  constructor
  · rintro h hm
    obtain ⟨y, hy', he⟩ := List.mem_map.1 hm
    obtain ⟨hy, hz⟩ := List.mem_filter.1 hy'
    simp only [List.cons.injEq, and_true, true_and] at he
    have := h y hy
    rw [Bool.not_eq_true', decide_eq_false_iff_not] at this
    exact this ⟨he.1, he.2.1, he.2.2, hnz y hy (by simpa using hz)⟩
  · intro h y hy
    rw [Bool.not_eq_true', decide_eq_false_iff_not]
    rintro ⟨h1, h2, h3, h4⟩
    refine h (List.mem_map.2 ⟨y, List.mem_filter.2 ⟨hy, ?_⟩, by rw [h1, h2, h3]⟩)
    rw [Bool.not_eq_true', isz_iff, decide_eq_false_iff_not]
    intro h5
    simp only [List.cons.injEq, and_true] at h5
    exact h4 h5.2.1
theorem placed_whr {cells : List UInt8} {x : Itm} (h : placedM cells x = true) : x.whr ≠ 0 := by
  intro h0
  unfold placedM at h
  rw [if_neg (by omega), if_neg (by omega), if_neg (by omega), if_neg (by omega)] at h
  cases h
theorem Ex.fresh {W w w' : World} {b : Nat} (h : Ex [] W w) (k : Ex [b] w w') (hb : W.heap.size ≤ b) : Ex [] W w' :=
  ⟨k.os.trans h.os, k.tape.trans h.tape, k.output.trans h.output, Nat.le_trans h.size k.size, fun i hi _ => by
    rw [k.block i (Nat.lt_of_lt_of_le hi h.size) (by simp; omega)]
    exact h.block i hi (by simp)⟩
theorem Ex.roN {W w : World} {b o b2 : Nat} {c : List Value} (h : Ex [b2] W w) (hr : Ro W b o c) (hne : b ≠ b2) : Ro w b o c := fun j v hv => by
  have h1 := hr j v hv
  rw [h.cell (p := ⟨b, o + j, none⟩) (block_lt_of_cell h1) (by simpa using hne)]; exact h1
theorem Ex.hasN {W w : World} (h : Ex [] W w) : Has W [] [] w := ⟨h, by simp, by simp⟩
end Go.Ad
namespace Go.Proofs.YtcogbkkdccohfaaGreat
open Go.RowKit Go.Ad Go.Maps
set_option linter.unusedVariables false
set_option linter.unusedSimpArgs false
theorem keyItem : KeyOk Tryz.prog 98 4 := ⟨flat98, ⟨_, Tryz.underlying98⟩, by
  intro e w zs hz
  rcases zs with _ | ⟨a, _ | ⟨b, _ | ⟨c, _ | ⟨d, _ | ⟨x, r⟩⟩⟩⟩⟩ <;> first | (simp at hz; done) | kernel_rfl⟩
section
variable {W : World}
set_option maxRecDepth 100000 in
theorem pplaceI_d {x : Itm} : Does Tryz.prog 158 [.agg x.cells.toArray] W [] (fun v L => v = .agg (ints [0, x.whr, x.a, x.b]) ∧ L = []) := by
  refine enter Tryz.func158 rfl rfl rfl (Has.start _) ?_
  refine c_seq ?_
  refine c_reg ?_
  refine s_n (N_box (cs := x.cells) rfl) rfl rfl (fun b1 _ => ?_)
  refine s_n (N_alloc (z := .agg #[.int .i64 0, .int .i64 0, .int .i64 0, .int .i64 0]) (cs := [.int .i64 0, .int .i64 0, .int .i64 0, .int .i64 0]) zv98 rfl) rfl rfl (fun b2 _ => ?_)
  refine s_nil ?_
  refine q_then ?_
  refine c_seq ?_
  refine c_reg ?_
  refine s_y (Y_fa 0 rfl Tryz.underlying98 rfl sz3 rfl) rfl rfl ?_
  refine s_s (S_stC (cs' := ({ x with kind := 0 } : Itm).cells) rfl sz3 (by rfl) up_ (by rfl) (by rw [Itm.len]; decide)) rfl ?_
  refine s_nil ?_
  refine q_then ?_
  refine c_seq ?_
  refine c_reg ?_
  refine s_y (ya_ many98) rfl rfl ?_
  refine s_s (S_storeA (vs := ({ x with kind := 0 } : Itm).cells) rfl rfl sz98 (by rfl) (by rfl) up_ (by rfl)) rfl ?_
  refine s_nil ?_
  refine q_then ?_
  refine c_ret ?_
  refine q_ret1c rfl rfl many98 mm_ (by rfl) (L' := _) sl_ (⟨rfl, rfl⟩)
set_option maxRecDepth 100000 in
theorem pgoods_d {d : Wd} {s : Ws} (hw : WAt W d s) (hok : ∀ x ∈ d.items, Itm.ok x) : Does Tryz.prog 106 [.agg (wv d s).toArray] W [] (fun v L => v = .bool (goodsM d) ∧ L = []) := by
  have hcap := hw.i.cap
  refine enter Tryz.func106 rfl rfl rfl (Has.start _) ?_
  refine c_seq ?_
  refine c_reg ?_
  refine s_n (N_box (cs := wv d s) rfl) rfl rfl (fun b1 _ => ?_)
  refine s_y (Y_asC) rfl rfl ?_
  refine s_nil ?_
  refine q_then ?_
  refine c_seq ?_
  refine c_seq ?_
  refine c_reg ?_
  refine s_y (Y_fa 6 rfl Tryz.underlying34 rfl sz31 rfl) rfl rfl ?_
  refine s_y (yl_ one31) rfl rfl ?_
  refine s_y (Y_len rfl rfl Tryz.underlying31) rfl rfl ?_
  refine s_y (Y_neq rfl rfl) rfl rfl ?_
  refine s_nil ?_
  refine q_then ?_
  first | refine c_cond' rfl (fun hc1 => ?_) (fun hc1 => ?_) | refine c_cond rfl (fun hc1 => ?_) (fun hc1 => ?_)
  · skip
    try simp only [nrm_] at hc1
    refine c_seq ?_
    refine c_reg ?_
    refine s_y (Y_asC) rfl rfl ?_
    refine s_nil ?_
    refine q_then ?_
    refine c_ret ?_
    refine q_retG1 rfl gt_ (L' := _) sl_ (⟨by unfold goodsM; rw [decide_eq_false (by omega)]; rfl, rfl⟩)
  · skip
    try simp only [nrm_] at hc1
    refine c_skip ?_
    refine q_then ?_
    refine c_seq ?_
    have hlen : d.items.length = 40 := by omega
    refine c_reg ?_
    refine s_makeMap rfl rfl (fun W1 bm hH1 hm hbm => ?_)
    have hb1 := (hH1.at' (x := wB b1 (wv d s)) mm_).ro
    have hne : b1 ≠ bm := fun h => by
      have h2 := (hH1.at' (x := wB b1 (wv d s)) mm_)
      obtain ⟨cur, h3, _⟩ := h2
      rw [h] at h3
      rw [h3] at hm
      cases hm
    have hx1 := hH1.ex
    refine s_y (Y_as) rfl rfl ?_
    refine s_nil ?_
    refine q_then ?_
    refine c_seq ?_
    refine c_seq ?_
    refine c_reg ?_
    refine s_y (Y_fa 6 rfl Tryz.underlying34 rfl sz31 rfl) rfl rfl ?_
    refine s_y (Y_loadR (i := 6) rfl one31 hb1 rfl rfl) rfl rfl ?_
    refine s_y (Y_len rfl rfl Tryz.underlying31) rfl rfl ?_
    refine s_y (Y_mvC) rfl rfl ?_
    refine s_nil ?_
    refine q_then ?_
    refine c_block ?_
    refine c_loopW [2, 4, 5, 6, 7, 16, 17, 18, 19, 20, 21, 22, 23, 24, 25, 26, 27, 28, 29, 30, 31, 32, 33, 34, 35, 36, 37, 38, 39, 40, 41, 42] (fun m i w => i + m = 40 ∧ Ex [] W w ∧ Ro w b1 0 (wv d s) ∧ (∃ es clock, w.heap[bm]? = some (.map es clock) ∧ es.toList.map (·.key) = (keysOf (d.items.take i)).map (fun z => .agg (ints z))) ∧ itemsM d.cells d.items (d.items.drop i) i = itemsM d.cells d.items d.items 0 ∧ (∀ y ∈ d.items.take i, y.isZ = false → y.whr ≠ 0)) (fun i => [(16, iv i)]) (40) (0) ?_ (by repeat (first | exact trivial | refine ⟨rfl, ?_⟩)) (fun _ => rfl) ?_
    · intro w hH
      exact ⟨rfl, hx1.trans hH.ex, hH.ex.ro hb1, ⟨#[], 0, by rw [hH.ex.block bm (Array.getElem?_eq_some_iff.1 hm).1 (by simp)]; exact hm, rfl⟩, rfl, by simp⟩
    rintro m i j W2 ⟨hi, hx2, hb2, ⟨es, clock, hm2, hes⟩, hf, hnz⟩ K hK
    have hlt2 := (Array.getElem?_eq_some_iff.1 hm2).1
    refine c_seq ?_
    refine c_reg ?_
    refine s_y (Y_lss rfl rfl) rfl rfl ?_
    refine s_nil ?_
    refine q_then ?_
    refine c_seq ?_
    first | refine c_cond' rfl (fun hc5 => ?_) (fun hc5 => ?_) | refine c_cond rfl (fun hc5 => ?_) (fun hc5 => ?_)
    · skip
      try simp only [nrm_] at hc5
      refine c_skip ?_
      refine q_then ?_
      refine c_seq ?_
      refine c_block ?_
      refine c_seq ?_
      obtain ⟨x, hx⟩ := take_lt (show i < d.items.length by omega)
      have hr := (hw.has hx2.hasN).i.at' Itm.len hx
      have hst := items_step (cells := d.cells) hx
      rw [hf] at hst
      have hks := keys_step hx
      refine c_reg ?_
      refine s_y (Y_mv) rfl rfl ?_
      refine s_y (Y_ia rfl rfl Tryz.underlying31 sz98 rfl (by omega)) rfl rfl ?_
      refine s_y (ya_ many98) rfl rfl ?_
      refine s_n (N_alloc (z := .agg #[.int .i64 0, .int .i64 0, .int .i64 0, .int .i64 0]) (cs := [.int .i64 0, .int .i64 0, .int .i64 0, .int .i64 0]) zv98 rfl) rfl rfl (fun b5 _ => ?_)
      refine s_y (Y_as) rfl rfl ?_
      refine s_s (S_storeA (vs := x.cells) rfl rfl sz98 (by rfl) (by rfl) up_ (by rfl)) rfl ?_
      refine s_nil ?_
      refine q_then ?_
      refine c_seq ?_
      refine c_seq ?_
      refine c_reg ?_
      refine s_y (ya_ many98) rfl rfl ?_
      refine s_y (Y_build (cs := [.int .i64 0, .int .i64 0, .int .i64 0, .int .i64 0]) (by repeat (first | exact Gp.nil | apply Gp.const | apply Gp.tmp gt_)) (bld98 _ _ (by first | rfl | (simp; rfl)))) rfl rfl ?_
      refine s_y (Y_eqF (zs := [x.kind, x.whr, x.a, x.b]) (zs' := [0, 0, 0, 0]) rfl rfl flat98 rfl rfl) rfl rfl ?_
      refine s_nil ?_
      refine q_then ?_
      first | refine c_cond' rfl (fun hc7 => ?_) (fun hc7 => ?_) | refine c_cond rfl (fun hc7 => ?_) (fun hc7 => ?_)
      · skip
        try simp only [nrm_] at hc7
        refine c_exit ?_
        repeat with_reducible refine q_te ?_
        refine q_exit ?_
        refine q_then ?_
        refine c_reg ?_
        refine s_y ad_ rfl rfl ?_
        refine s_y (Y_mv) rfl rfl ?_
        refine s_nil ?_
        have hz : x.isZ = true := by rw [isz_iff]; exact decide_eq_true hc7
        rw [if_pos hz] at hst hks
        rw [List.append_nil] at hks
        refine hK (m - 1) (i + 1) _ _ _ (by omega) (fun w hH => ⟨by omega, hx2.trans hH.ex, hH.ex.ro hb2, ⟨es, clock, by rw [hH.ex.block bm hlt2 (by simp)]; exact hm2, by rw [hks]; exact hes⟩, hst.symm, fun y hy hyz => ?_⟩) ⟨rfl, trivial⟩ rfl
        obtain ⟨hlt, rfl⟩ := List.getElem?_eq_some_iff.1 hx
        rw [← List.take_append_getElem hlt] at hy
        rcases List.mem_append.1 hy with h | h
        · exact hnz y h hyz
        · obtain rfl := List.mem_singleton.1 h
          rw [hz] at hyz; cases hyz
      · skip
        try simp only [nrm_] at hc7
        refine c_skip ?_
        refine q_then ?_
        refine c_seq ?_
        refine c_seq ?_
        have hz : ¬ x.isZ = true := by rw [isz_iff, decide_eq_true_eq]; exact hc7
        rw [if_neg hz] at hst hks
        refine c_reg ?_
        refine s_y (Y_mv) rfl rfl ?_
        refine s_y (ya_ many98) rfl rfl ?_
        refine s_c (En_call (fun _ => rfl) Tryz.func158 rfl (by kernel_rfl) rfl) (fun w hH => pplaceI_d) rfl rfl ?_
        rintro _ _ ⟨rfl, rfl⟩
        refine s_n (N_look (zs := [0, x.whr, x.a, x.b]) (n := 4) rfl rfl Tryz.underlying203 keyItem rfl zv3 hm2 hes (keys_len _)) rfl rfl (fun lv _ => ?_)
        refine s_y (Y_mv) rfl rfl ?_
        refine s_y (Y_extract rfl rfl) rfl rfl ?_
        refine s_y (Y_extract rfl rfl) rfl rfl ?_
        refine s_y (Y_as) rfl rfl ?_
        refine s_y (Y_as) rfl rfl ?_
        refine s_nil ?_
        refine q_then ?_
        refine c_seq ?_
        refine c_reg ?_
        refine s_y (Y_mv) rfl rfl ?_
        refine s_y (Y_mv) rfl rfl ?_
        apply s_or 5 [32, 33, 34, 35, 36, 37] 37 (g := 32) rfl rfl
        · intro ht2 hm
          try simp only [nrm_] at ht2
          first | refine s_y (Y_loadNR rfl many34 hb2 rfl) rfl rfl ?_ | refine s_pass rfl rfl ?_
          first | refine s_y (ya_ many98) rfl rfl ?_ | refine s_pass rfl rfl ?_
          refine s_c (En_call (fun _ => rfl) Tryz.func159 rfl (by kernel_rfl) rfl) (fun w hH => pmay_d ((hw.has hx2.hasN).has hH) x (hok x (List.mem_of_getElem? hx))) rfl rfl ?_
          rintro _ _ ⟨rfl, rfl⟩
          first | refine s_y (Y_not rfl) rfl rfl ?_ | refine s_pass rfl rfl ?_
          refine s_y (Y_pk rfl Gx.const (Gx.tmp gt_)) rfl rfl ?_
          first | exact hm _ ⟨rfl, trivial⟩ rfl | exact QL.sub sl_ (hm _ ⟨rfl, trivial⟩ rfl)
        · intro ht2 hm
          iterate 4 refine s_pass rfl rfl ?_
          refine s_y (Y_pk rfl Gx.const (Gx.tmp gt_)) rfl rfl ?_
          exact hm _ ⟨rfl, trivial⟩ rfl
        intro j37
        refine s_nil ?_
        refine q_then ?_
        first | refine c_cond' rfl (fun hc9 => ?_) (fun hc9 => ?_) | refine c_cond rfl (fun hc9 => ?_) (fun hc9 => ?_)
        · skip
          try simp only [nrm_] at hc9
          refine c_seq ?_
          have hal := alone_keys (x := x) hnz
          have hno : (btw x.kind 1 4 && placedM d.cells x && aloneM (d.items.take i) x) = false := by
            rw [hal]
            rcases hc9 with h | h
            · rw [decide_eq_true h]; simp
            · rcases h with h | h <;> rw [h] <;> simp
          rw [hno] at hst
          refine c_reg ?_
          refine s_y (Y_asC) rfl rfl ?_
          refine s_nil ?_
          refine q_then ?_
          refine c_ret ?_
          refine q_retW (fun w h => hx2.trans h) rfl gt_ ⟨by unfold goodsM; rw [hst]; simp, rfl⟩
        · skip
          try simp only [nrm_] at hc9
          refine c_skip ?_
          refine q_then ?_
          have hal := alone_keys (x := x) hnz
          have hmem : [0, x.whr, x.a, x.b] ∉ keysOf (d.items.take i) := hc9.1
          rw [decide_eq_false hmem] at hal
          have hyes : (btw x.kind 1 4 && placedM d.cells x && aloneM (d.items.take i) x) = true := by
            rw [hal]
            simp only [nrm_, and_true]
            exact hc9.2
          rw [hyes, if_pos rfl] at hst
          refine c_reg ?_
          refine s_y (Y_mv) rfl rfl ?_
          refine s_y (ya_ many98) rfl rfl ?_
          refine s_c (En_call (fun _ => rfl) Tryz.func158 rfl (by kernel_rfl) rfl) (fun w hH => pplaceI_d) rfl rfl ?_
          rintro _ _ ⟨rfl, rfl⟩
          refine s_y (Y_mv) rfl rfl ?_
          refine s_mapUpd (zs := [0, x.whr, x.a, x.b]) (n := 4) (v := iv i) rfl rfl rfl Tryz.underlying203 keyItem rfl hm2 hes (keys_len _) hmem rfl (fun W3 hm3 hx3 => ?_)
          refine s_nil ?_
          refine q_bn ?_
          refine q_then ?_
          refine c_reg ?_
          refine s_y ad_ rfl rfl ?_
          refine s_y (Y_mv) rfl rfl ?_
          refine s_nil ?_
          refine hK (m - 1) (i + 1) _ _ _ (by omega) (fun w hH => ⟨by omega, (hx2.fresh hx3 hbm).trans hH.ex, hH.ex.ro (hx3.roN hb2 hne), ⟨_, _, by rw [hH.ex.block bm (Array.getElem?_eq_some_iff.1 hm3).1 (by simp)]; exact hm3, by rw [hks, List.map_append, ← hes]; simp⟩, hst.symm, fun y hy hyz => ?_⟩) ⟨rfl, trivial⟩ rfl
          obtain ⟨hlt, rfl⟩ := List.getElem?_eq_some_iff.1 hx
          rw [← List.take_append_getElem hlt] at hy
          rcases List.mem_append.1 hy with h | h
          · exact hnz y h hyz
          · obtain rfl := List.mem_singleton.1 h
            simp only [nrm_] at hyes
            exact placed_whr hyes.1.2
    · skip
      try simp only [nrm_] at hc5
      refine c_exit ?_
      repeat with_reducible refine q_te ?_
      refine q_exit ?_
      refine q_then ?_
      refine c_seq ?_
      refine c_reg ?_
      refine s_y (Y_asC) rfl rfl ?_
      refine s_nil ?_
      refine q_then ?_
      refine c_ret ?_
      refine q_retW (fun w h => hx2.trans h) rfl gt_ ⟨by rw [List.drop_eq_nil_of_le (by omega)] at hf; unfold goodsM; rw [← hf, decide_eq_true hlen]; rfl, rfl⟩
end
end Go.Proofs.YtcogbkkdccohfaaGreat
namespace Go.Proofs.YtcogbkkdccohfaaGreat
open Go.RowKit Go.Ad Go.Maps
set_option linter.unusedVariables false
set_option linter.unusedSimpArgs false
section
variable {W : World}
set_option maxRecDepth 100000 in
theorem pcheck_d {d : Wd} {s : Ws} (hw : WAt W d s) (hok : ∀ x ∈ d.items, Itm.ok x) : Does Tryz.prog 60 [.agg (wv d s).toArray] W [] (fun v L => v = iv (checkM d) ∧ L = []) := by
  have hcap := hw.e.cap
  refine enter Tryz.func60 rfl rfl rfl (Has.start _) ?_
  refine c_seq ?_
  refine c_reg ?_
  refine s_n (N_box (cs := wv d s) rfl) rfl rfl (fun b1 _ => ?_)
  refine s_y (Y_asC) rfl rfl ?_
  refine s_nil ?_
  refine q_then ?_
  refine c_seq ?_
  refine c_seq ?_
  refine c_reg ?_
  refine s_y (ya_ many34) rfl rfl ?_
  refine s_c (En_call (fun _ => rfl) Tryz.func104 rfl (by kernel_rfl) rfl) (fun w hH => phead_d (hw.has hH)) rfl rfl ?_
  rintro _ _ ⟨rfl, rfl⟩
  refine s_y (Y_as) rfl rfl ?_
  refine s_nil ?_
  refine q_then ?_
  refine c_seq ?_
  refine c_reg ?_
  refine s_y (Y_mv) rfl rfl ?_
  refine s_y (Y_neq rfl rfl) rfl rfl ?_
  refine s_nil ?_
  refine q_then ?_
  first | refine c_cond' rfl (fun hc2 => ?_) (fun hc2 => ?_) | refine c_cond rfl (fun hc2 => ?_) (fun hc2 => ?_)
  · skip
    try simp only [nrm_] at hc2
    refine c_seq ?_
    refine c_reg ?_
    refine s_y (Y_mv) rfl rfl ?_
    refine s_y (Y_as) rfl rfl ?_
    refine s_nil ?_
    refine q_then ?_
    refine c_ret ?_
    refine q_retG1 rfl gt_ (L' := _) sl_ (⟨by unfold checkM; rw [if_pos hc2], rfl⟩)
  · skip
    try simp only [nrm_] at hc2
    refine c_skip ?_
    refine q_then ?_
    refine c_seq ?_
    refine c_seq ?_
    have hlen : d.ents.length = 32 := by
      unfold headM at hc2
      split at hc2
      · exact absurd hc2 (by decide)
      · split at hc2
        · exact absurd hc2 (by decide)
        · rename_i _ h2
          simp only [sizesOk, decide_eq_false_iff_not, Decidable.not_not] at h2
          exact h2.2.1
    refine c_reg ?_
    refine s_y (Y_fa 5 rfl Tryz.underlying34 rfl sz30 rfl) rfl rfl ?_
    refine s_y (yl_ one30) rfl rfl ?_
    refine s_y (Y_len rfl rfl Tryz.underlying30) rfl rfl ?_
    refine s_y (Y_mvC) rfl rfl ?_
    refine s_nil ?_
    refine q_then ?_
    refine c_block ?_
    refine c_loop [2, 4, 5, 14, 15, 16, 17, 18, 19, 20, 21, 22, 23, 24, 25, 26, 27, 28, 29] (fun m i => i + m = d.ents.length ∧ entsM d (d.ents.drop i) i = entsM d d.ents 0) (fun i => [(14, iv i)]) (fun _ => [wB b1 (wv d s)]) (d.ents.length) (0) (⟨by omega, rfl⟩) (by repeat (first | exact trivial | refine ⟨rfl, ?_⟩)) (fun _ h => h.sub sl_) (fun _ => rfl) ?_
    rintro m i j ⟨hi, hf⟩ K hK
    refine c_seq ?_
    refine c_reg ?_
    refine s_y (Y_lss rfl rfl) rfl rfl ?_
    refine s_nil ?_
    refine q_then ?_
    refine c_seq ?_
    first | refine c_cond' rfl (fun hc5 => ?_) (fun hc5 => ?_) | refine c_cond rfl (fun hc5 => ?_) (fun hc5 => ?_)
    · skip
      try simp only [nrm_] at hc5
      refine c_skip ?_
      refine q_then ?_
      refine c_seq ?_
      refine c_block ?_
      refine c_seq ?_
      obtain ⟨e, he⟩ := take_lt (show i < d.ents.length by omega)
      have hr := hw.e.at' Ent.len he
      have hst := ents_step he
      rw [hf] at hst
      refine c_reg ?_
      refine s_y (Y_mv) rfl rfl ?_
      refine s_y (Y_ia rfl rfl Tryz.underlying30 sz93 rfl (by omega)) rfl rfl ?_
      refine s_y (ya_ many93) rfl rfl ?_
      refine s_n (N_alloc (z := .agg #[.int .i64 0, .int .i64 0, .int .i64 0, .int .i64 0, .int .i64 0, .int .i64 0, .int .i64 0, .int .i64 0, .int .i64 0, .int .i64 0, .int .i64 0]) (cs := [.int .i64 0, .int .i64 0, .int .i64 0, .int .i64 0, .int .i64 0, .int .i64 0, .int .i64 0, .int .i64 0, .int .i64 0, .int .i64 0, .int .i64 0]) zv93 rfl) rfl rfl (fun b5 _ => ?_)
      refine s_y (Y_as) rfl rfl ?_
      refine s_s (S_storeA (vs := e.cells) rfl rfl sz93 (by rfl) (by rfl) up_ (by rfl)) rfl ?_
      refine s_nil ?_
      refine q_then ?_
      refine c_block ?_
      refine c_seq ?_
      refine c_reg ?_
      refine s_y (Y_fa 0 rfl Tryz.underlying93 rfl sz3 rfl) rfl rfl ?_
      refine s_y (yl_ one3) rfl rfl ?_
      refine s_c (En_call (fun _ => rfl) Tryz.func65 rfl (by kernel_rfl) rfl) (fun w hH => pwithin_d) rfl rfl ?_
      rintro _ _ ⟨rfl, rfl⟩
      refine s_y (Y_not rfl) rfl rfl ?_
      refine s_y (Y_as) rfl rfl ?_
      refine s_nil ?_
      refine q_then ?_
      first | refine c_cond' rfl (fun hc7 => ?_) (fun hc7 => ?_) | refine c_cond rfl (fun hc7 => ?_) (fun hc7 => ?_)
      · skip
        try simp only [nrm_] at hc7
        refine c_seq ?_
        refine c_reg ?_
        refine s_y (Y_asC) rfl rfl ?_
        refine s_nil ?_
        refine q_then ?_
        refine c_ret ?_
        refine q_retG1 rfl gt_ (L' := _) sl_ (⟨by
            have h3 : entM d i e = 3 := by unfold entM; rw [if_pos (by simpa using hc7)]
            rw [h3, if_pos (by decide)] at hst; unfold checkM; rw [if_neg (fun h => h hc2), hst, if_pos (by decide)], rfl⟩)
      · skip
        try simp only [nrm_] at hc7
        refine c_seq ?_
        refine c_reg ?_
        refine s_y (ya_ many34) rfl rfl ?_
        refine s_y (Y_mv) rfl rfl ?_
        refine s_c (En_call (fun _ => rfl) Tryz.func105 rfl (by kernel_rfl) rfl) (fun w hH => pfits_d (hw.has hH) he hlen) rfl rfl ?_
        rintro _ _ ⟨rfl, rfl⟩
        refine s_y (Y_not rfl) rfl rfl ?_
        refine s_y (Y_as) rfl rfl ?_
        refine s_nil ?_
        refine q_then ?_
        first | refine c_cond' rfl (fun hc9 => ?_) (fun hc9 => ?_) | refine c_cond rfl (fun hc9 => ?_) (fun hc9 => ?_)
        · skip
          try simp only [nrm_] at hc9
          refine c_seq ?_
          refine c_reg ?_
          refine s_y (Y_asC) rfl rfl ?_
          refine s_nil ?_
          refine q_then ?_
          refine c_ret ?_
          refine q_retG1 rfl gt_ (L' := _) sl_ (⟨by
              have h3 : entM d i e = 9 := by unfold entM; rw [if_neg (by simpa using hc7), show fitsM d i e = false by simpa using hc9]; rfl
              rw [h3, if_pos (by decide)] at hst; unfold checkM; rw [if_neg (fun h => h hc2), hst, if_pos (by decide)], rfl⟩)
        · skip
          try simp only [nrm_] at hc9
          refine c_skip ?_
          refine q_bn ?_
          refine q_bn ?_
          refine q_then ?_
          refine c_reg ?_
          refine s_y ad_ rfl rfl ?_
          refine s_y (Y_mv) rfl rfl ?_
          refine s_nil ?_
          have h3 : entM d i e = 0 := by unfold entM; rw [if_neg (by simpa using hc7), show fitsM d i e = true by simpa using hc9]; rfl
          rw [h3, if_neg (fun h => h rfl)] at hst
          refine hK (m - 1) (i + 1) _ _ (by omega) ⟨by omega, hst.symm⟩ ⟨rfl, trivial⟩ rfl (fun _ h => h.sub sl_)
    · skip
      try simp only [nrm_] at hc5
      refine c_exit ?_
      repeat with_reducible refine q_te ?_
      refine q_exit ?_
      refine q_then ?_
      refine c_seq ?_
      refine c_seq ?_
      rw [List.drop_eq_nil_of_le (by omega)] at hf
      refine c_reg ?_
      refine s_y (ya_ many34) rfl rfl ?_
      refine s_c (En_call (fun _ => rfl) Tryz.func106 rfl (by kernel_rfl) rfl) (fun w hH => pgoods_d (hw.has hH) hok) rfl rfl ?_
      rintro _ _ ⟨rfl, rfl⟩
      refine s_y (Y_not rfl) rfl rfl ?_
      refine s_nil ?_
      refine q_then ?_
      first | refine c_cond' rfl (fun hc12 => ?_) (fun hc12 => ?_) | refine c_cond rfl (fun hc12 => ?_) (fun hc12 => ?_)
      · skip
        try simp only [nrm_] at hc12
        refine c_seq ?_
        refine c_reg ?_
        refine s_y (Y_asC) rfl rfl ?_
        refine s_nil ?_
        refine q_then ?_
        refine c_ret ?_
        refine q_retG1 rfl gt_ (L' := _) sl_ (⟨by unfold checkM; rw [if_neg (fun h => h hc2), ← hf, if_neg (by simp [entsM]), if_neg (by simpa using hc12)], rfl⟩)
      · skip
        try simp only [nrm_] at hc12
        refine c_skip ?_
        refine q_then ?_
        refine c_seq ?_
        refine c_reg ?_
        refine s_y (Y_asC) rfl rfl ?_
        refine s_nil ?_
        refine q_then ?_
        refine c_ret ?_
        refine q_retG1 rfl gt_ (L' := _) sl_ (⟨by unfold checkM; rw [if_neg (fun h => h hc2), ← hf, if_neg (by simp [entsM]), if_pos (by simpa using hc12)], rfl⟩)
theorem slOf {w : World} {M : List Nat} {L : List Bk} {b n : Nat} {ns : List Int} (hH : Has W M L w) (hm : (⟨b, 3, 1, n, ns.map iv⟩ : Bk) ∈ L) (hn : ns.length = n) : SlB w b 0 n n 1 (ns.map iv) := (hH.at' hm).sl (by rw [List.length_map, hn, Nat.mul_one]) (Nat.le_refl _)
set_option maxRecDepth 100000 in
set_option maxHeartbeats 1600000 in
theorem penc_d {d : Wd} {s : Ws} (hw : WAt W d s) (hok : ∀ x ∈ d.items, Itm.ok x) : Does Tryz.prog 22 [.agg (wv d s).toArray] W [] (EncP d) := by
  refine enter Tryz.func22 rfl rfl rfl (Has.start _) ?_
  refine c_seq ?_
  refine c_reg ?_
  refine s_n (N_box (cs := wv d s) rfl) rfl rfl (fun b1 _ => ?_)
  refine s_y (Y_asC) rfl rfl ?_
  refine s_y (Y_asC) rfl rfl ?_
  refine s_nil ?_
  refine q_then ?_
  refine c_seq ?_
  refine c_seq ?_
  refine c_reg ?_
  refine s_y (ya_ many34) rfl rfl ?_
  refine s_c (En_call (fun _ => rfl) Tryz.func60 rfl (by kernel_rfl) rfl) (fun w hH => pcheck_d (hw.has hH) hok) rfl rfl ?_
  rintro _ _ ⟨rfl, rfl⟩
  refine s_y (Y_as) rfl rfl ?_
  refine s_nil ?_
  refine q_then ?_
  refine c_seq ?_
  refine c_reg ?_
  refine s_y (Y_mv) rfl rfl ?_
  refine s_y (Y_neq rfl rfl) rfl rfl ?_
  refine s_nil ?_
  refine q_then ?_
  first | refine c_cond' rfl (fun hc2 => ?_) (fun hc2 => ?_) | refine c_cond rfl (fun hc2 => ?_) (fun hc2 => ?_)
  · skip
    try simp only [nrm_] at hc2
    refine c_seq ?_
    refine c_reg ?_
    refine s_y (Y_mv) rfl rfl ?_
    refine s_y (Y_asC) rfl rfl ?_
    refine s_y (Y_as) rfl rfl ?_
    refine s_nil ?_
    refine q_then ?_
    refine c_ret ?_
    refine q_retG2 rfl gt_ gt_ (L' := _) sl_ (.inl ⟨hc2, rfl, rfl⟩)
  · skip
    try simp only [nrm_] at hc2
    refine c_skip ?_
    refine q_then ?_
    refine c_seq ?_
    obtain ⟨hl1, hl2, hl3⟩ := check_sizes hc2
    refine c_reg ?_
    refine s_y (Y_fa 0 rfl Tryz.underlying34 rfl sz2 rfl) rfl rfl ?_
    refine s_y (yl_ one2) rfl rfl ?_
    refine s_y (Y_convw rfl Tryz.underlying2 Tryz.underlying96) rfl rfl ?_
    refine s_c (En_call (fun _ => rfl) Tryz.func62 rfl (by kernel_rfl) rfl) (fun w hH => pnum_d (k := 8) (ys := []) .nil (by simp) (by simp) (by omega)) rfl rfl ?_
    rintro _ _ hB1
    obtain ⟨g1, cp1, rfl, rfl, hcp1⟩ := hB1.some_of (by rw [List.length_append, beM_len]; omega)
    refine s_y (Y_as) rfl rfl ?_
    refine s_nil ?_
    refine q_then ?_
    refine c_seq ?_
    refine c_reg ?_
    refine s_y (Y_mv) rfl rfl ?_
    refine s_y (Y_fa 1 rfl Tryz.underlying34 rfl sz3 rfl) rfl rfl ?_
    refine s_y (yl_ one3) rfl rfl ?_
    refine s_y (Y_convw rfl Tryz.underlying3 Tryz.underlying96) rfl rfl ?_
    refine s_cm [cB g1 cp1 ([] ++ beM (IntKind.u64.wrap d.seed) 8)] (En_call (fun _ => rfl) Tryz.func62 rfl (by kernel_rfl) rfl) ss_ (fun w hH => pnum_d (k := 4) hB1 (by rw [List.length_append, beM_len]; simp) (by intro x hx; obtain rfl := List.mem_singleton.1 hx; exact hH.at' mm_) (by omega)) rfl rfl ?_
    rintro _ _ hB2
    obtain ⟨g2, cp2, rfl, rfl, hcp2⟩ := hB2.some_of (by rw [List.length_append, beM_len]; omega)
    refine s_y (Y_as) rfl rfl ?_
    refine s_nil ?_
    refine q_then ?_
    refine c_seq ?_
    have hz1 : ([] ++ beM (IntKind.u64.wrap d.seed) 8 ++ beM (IntKind.u64.wrap d.frame) 4) ++ [d.floor, d.state].map byteM = encA d 0 := by simp [encA, headBytes, goldBytes]
    obtain ⟨z1, hz2⟩ : ∃ q_, [] ++ beM (IntKind.u64.wrap d.seed) 8 ++ beM (IntKind.u64.wrap d.frame) 4 = q_ := ⟨_, rfl⟩
    rw [hz2] at hcp2 hB2 hz1 ⊢
    have hzl : z1.length = 12 := by rw [← hz2]; simp [beM_len]
    refine c_reg ?_
    refine s_y (Y_mv) rfl rfl ?_
    refine s_y (Y_fa 2 rfl Tryz.underlying34 rfl sz3 rfl) rfl rfl ?_
    refine s_y (yl_ one3) rfl rfl ?_
    refine s_y (Y_fa 3 rfl Tryz.underlying34 rfl sz3 rfl) rfl rfl ?_
    refine s_y (yl_ one3) rfl rfl ?_
    refine s_n (N_bs (xs := [.tmp 28, .tmp 30]) (by repeat (first | exact Gv.nil | apply Gv.const | apply Gv.tmp gt_)) rfl Tryz.underlying23 inf3 rfl (by omega) (by omega) (by first | simp [Value.oneCell'] | (intro v hv; simp at hv; subst hv; rfl))) rfl rfl (fun b31 _ => ?_)
    refine s_cm [cB g2 cp2 z1] (En_call (fun _ => rfl) Tryz.func63 rfl (by kernel_rfl) rfl) ss_ (fun w hH => psmall_d (ys := z1) (ns := [d.floor, d.state]) hB2 (by omega) (by intro x hx; obtain rfl := List.mem_singleton.1 hx; exact hH.at' mm_) (slOf hH mm_ rfl) (by omega) (by simpa using hH.nodup2 (x := ⟨b31, 3, 1, 2, [d.floor, d.state].map iv⟩) (y := cB g2 cp2 z1) ss_)) rfl rfl ?_
    rintro _ _ hB3
    rw [hz1] at hB3
    obtain ⟨g3, cp3, rfl, rfl, hcp3⟩ := hB3.some_of (by rw [encA_len]; omega)
    refine s_y (Y_as) rfl rfl ?_
    refine s_nil ?_
    refine q_then ?_
    refine c_seq ?_
    refine c_seq ?_
    refine c_reg ?_
    refine s_y (Y_fa 7 rfl Tryz.underlying34 rfl sz32 rfl) rfl rfl ?_
    refine s_y (Y_loadN (vs := [iv d.gold.a, iv d.gold.b, iv d.gold.c, iv d.gold.d]) rfl many32 mm_ (by rfl) gold_sub) rfl rfl ?_
    refine s_y (Y_mvC) rfl rfl ?_
    refine s_nil ?_
    refine q_then ?_
    refine c_block ?_
    refine c_loop [5, 7, 35, 36, 37, 38, 39, 40, 41, 42] (fun m (y : Nat × Nat × Nat) => y.1 + m = 4 ∧ (encA d y.1).length ≤ y.2.2) (fun y => [(35, iv y.1), (5, .slice (some ⟨y.2.1, 0, none⟩) (encA d y.1).length y.2.2)]) (fun y => [cB y.2.1 y.2.2 (encA d y.1), wB b1 (wv d s)]) (4) ((0, g3, cp3)) (⟨rfl, hcp3⟩) (by repeat (first | exact trivial | refine ⟨rfl, ?_⟩)) (fun w h => h.pick (L' := [cB g3 cp3 (encA d 0), wB b1 (wv d s)]) ss_) (fun _ => rfl) ?_
    rintro m ⟨k, g, cp⟩ j ⟨hk, hcp⟩ K hK
    simp only at hk hcp ⊢
    have hel := encA_len d k
    refine c_seq ?_
    refine c_reg ?_
    refine s_y (Y_lss rfl rfl) rfl rfl ?_
    refine s_nil ?_
    refine q_then ?_
    refine c_seq ?_
    first | refine c_cond' rfl (fun hc8 => ?_) (fun hc8 => ?_) | refine c_cond rfl (fun hc8 => ?_) (fun hc8 => ?_)
    · skip
      try simp only [nrm_] at hc8
      refine c_skip ?_
      refine q_then ?_
      refine c_seq ?_
      refine c_block ?_
      refine c_seq ?_
      refine c_reg ?_
      refine s_y (Y_idx (cs := [iv d.gold.a, iv d.gold.b, iv d.gold.c, iv d.gold.d]) (i := k) rfl rfl Tryz.underlying32 one3 sz3 rfl (by omega) (gold_idx (by omega))) rfl rfl ?_
      refine s_y (Y_as) rfl rfl ?_
      refine s_nil ?_
      refine q_then ?_
      refine c_reg ?_
      refine s_y (Y_mv) rfl rfl ?_
      refine s_y (Y_mv) rfl rfl ?_
      refine s_y (Y_convw rfl Tryz.underlying3 Tryz.underlying96) rfl rfl ?_
      refine s_cm [cB g cp (encA d k)] (En_call (fun _ => rfl) Tryz.func62 rfl (by kernel_rfl) rfl) ss_ (fun w hH => pnum_d (k := 2) (ys := encA d k) (.some hcp (by rw [List.length_map, Nat.mul_one])) (by omega) (by intro x hx; obtain rfl := List.mem_singleton.1 hx; exact hH.at' mm_) (by omega)) rfl rfl ?_
      rintro _ _ hB4
      rw [← encA_succ] at hB4
      obtain ⟨g4, cp4, rfl, rfl, hcp4⟩ := hB4.some_of (by rw [encA_len]; omega)
      refine s_y (Y_as) rfl rfl ?_
      refine s_nil ?_
      refine q_bn ?_
      refine q_then ?_
      refine c_reg ?_
      refine s_y ad_ rfl rfl ?_
      refine s_y (Y_mv) rfl rfl ?_
      refine s_nil ?_
      refine hK (m - 1) (k + 1, g4, cp4) _ _ (by omega) ⟨by simp only; omega, hcp4⟩ ⟨rfl, rfl, trivial⟩ rfl (fun _ h => h.pick ss_)
    · skip
      try simp only [nrm_] at hc8
      refine c_exit ?_
      repeat with_reducible refine q_te ?_
      refine q_exit ?_
      refine q_then ?_
      refine c_seq ?_
      obtain rfl : k = 4 := by omega
      have hcl := hw.c.len
      refine c_reg ?_
      refine s_y (Y_mv) rfl rfl ?_
      refine s_y (Y_fa 4 rfl Tryz.underlying34 rfl sz24 rfl) rfl rfl ?_
      refine s_y (yl_ one24) rfl rfl ?_
      refine s_n (N_app (cs := (encA d 4).map bv) (news := d.cells.map bv) rfl rfl Tryz.underlying24 inf5 rfl (by omega) se_ (by rw [List.length_map]; omega) (by omega) (srcR hw.c.ro) hcl (bvs_one _) (by omega) (by omega)) rfl rfl (fun ⟨g46, cp46⟩ hc46 => ?_)
      refine s_y (Y_as) rfl rfl ?_
      refine s_nil ?_
      have e1 : (encA d 4).length + d.cells.length = (encB d 0).length := by rw [encB_zero, List.length_append]
      rw [bsnoc, ← encB_zero, e1]
      rw [e1] at hc46
      refine q_then ?_
      refine c_seq ?_
      refine c_seq ?_
      refine c_reg ?_
      refine s_y (Y_fa 5 rfl Tryz.underlying34 rfl sz30 rfl) rfl rfl ?_
      refine s_y (yl_ one30) rfl rfl ?_
      refine s_y (Y_len rfl rfl Tryz.underlying30) rfl rfl ?_
      refine s_y (Y_mvC) rfl rfl ?_
      refine s_nil ?_
      refine q_then ?_
      refine c_block ?_
      refine c_loop [5, 9, 50, 51, 52, 53, 54, 55, 56, 57, 58, 59, 60, 61, 62, 63, 64, 65, 66, 67, 68, 69, 70, 71, 72, 73, 74, 75, 76, 77, 78, 79] (fun m (y : Nat × Nat × Nat) => y.1 + m = d.ents.length ∧ (encB d y.1).length ≤ y.2.2) (fun y => [(50, iv y.1), (5, .slice (some ⟨y.2.1, 0, none⟩) (encB d y.1).length y.2.2)]) (fun y => [cB y.2.1 y.2.2 (encB d y.1), wB b1 (wv d s)]) (d.ents.length) ((0, g46, cp46)) (⟨by simp only; omega, hc46⟩) (by repeat (first | exact trivial | refine ⟨rfl, ?_⟩)) (fun _ h => h.sub sl_) (fun _ => rfl) ?_
      rintro m ⟨i, g, cp⟩ j ⟨hi, hcp⟩ K hK
      simp only at hi hcp ⊢
      have hel := encB_len d i (by omega)
      refine c_seq ?_
      refine c_reg ?_
      refine s_y (Y_lss rfl rfl) rfl rfl ?_
      refine s_nil ?_
      refine q_then ?_
      refine c_seq ?_
      first | refine c_cond' rfl (fun hc14 => ?_) (fun hc14 => ?_) | refine c_cond rfl (fun hc14 => ?_) (fun hc14 => ?_)
      · skip
        try simp only [nrm_] at hc14
        refine c_skip ?_
        refine q_then ?_
        refine c_seq ?_
        refine c_block ?_
        refine c_seq ?_
        obtain ⟨e, he⟩ := take_lt (show i < d.ents.length by omega)
        have hr := hw.e.at' Ent.len he
        have hcap := hw.e.cap
        refine c_reg ?_
        refine s_y (Y_ia rfl rfl Tryz.underlying30 sz93 rfl (by omega)) rfl rfl ?_
        refine s_y (ya_ many93) rfl rfl ?_
        refine s_n (N_alloc (z := .agg #[.int .i64 0, .int .i64 0, .int .i64 0, .int .i64 0, .int .i64 0, .int .i64 0, .int .i64 0, .int .i64 0, .int .i64 0, .int .i64 0, .int .i64 0]) (cs := [.int .i64 0, .int .i64 0, .int .i64 0, .int .i64 0, .int .i64 0, .int .i64 0, .int .i64 0, .int .i64 0, .int .i64 0, .int .i64 0, .int .i64 0]) zv93 rfl) rfl rfl (fun b9 _ => ?_)
        refine s_s (S_storeA (vs := e.cells) rfl rfl sz93 (by rfl) (by rfl) up_ (by rfl)) rfl ?_
        refine s_nil ?_
        refine q_then ?_
        refine c_reg ?_
        refine s_y (Y_mv) rfl rfl ?_
        refine s_y (Y_fa 0 rfl Tryz.underlying93 rfl sz3 rfl) rfl rfl ?_
        refine s_y (yl_ one3) rfl rfl ?_
        refine s_y (Y_fa 1 rfl Tryz.underlying93 rfl sz3 rfl) rfl rfl ?_
        refine s_y (yl_ one3) rfl rfl ?_
        refine s_y (Y_fa 2 rfl Tryz.underlying93 rfl sz3 rfl) rfl rfl ?_
        refine s_y (yl_ one3) rfl rfl ?_
        refine s_y (Y_fa 3 rfl Tryz.underlying93 rfl sz3 rfl) rfl rfl ?_
        refine s_y (yl_ one3) rfl rfl ?_
        refine s_y (Y_fa 4 rfl Tryz.underlying93 rfl sz3 rfl) rfl rfl ?_
        refine s_y (yl_ one3) rfl rfl ?_
        refine s_y (Y_fa 5 rfl Tryz.underlying93 rfl sz3 rfl) rfl rfl ?_
        refine s_y (yl_ one3) rfl rfl ?_
        refine s_y (Y_fa 6 rfl Tryz.underlying93 rfl sz3 rfl) rfl rfl ?_
        refine s_y (yl_ one3) rfl rfl ?_
        refine s_y (Y_fa 7 rfl Tryz.underlying93 rfl sz3 rfl) rfl rfl ?_
        refine s_y (yl_ one3) rfl rfl ?_
        refine s_y (Y_fa 8 rfl Tryz.underlying93 rfl sz3 rfl) rfl rfl ?_
        refine s_y (yl_ one3) rfl rfl ?_
        refine s_y (Y_fa 9 rfl Tryz.underlying93 rfl sz3 rfl) rfl rfl ?_
        refine s_y (yl_ one3) rfl rfl ?_
        refine s_y (Y_fa 10 rfl Tryz.underlying93 rfl sz3 rfl) rfl rfl ?_
        refine s_y (yl_ one3) rfl rfl ?_
        refine s_n (N_bs (xs := [.tmp 56, .tmp 58, .tmp 60, .tmp 62, .tmp 64, .tmp 66, .tmp 68, .tmp 70, .tmp 72, .tmp 74, .tmp 76]) (by repeat (first | exact Gv.nil | apply Gv.const | apply Gv.tmp gt_)) rfl Tryz.underlying23 inf3 rfl (by omega) (by omega) (by first | simp [Value.oneCell'] | (intro v hv; simp at hv; subst hv; rfl))) rfl rfl (fun b77 _ => ?_)
        refine s_cm [cB g cp (encB d i)] (En_call (fun _ => rfl) Tryz.func63 rfl (by kernel_rfl) rfl) ss_ (fun w hH => psmall_d (ys := encB d i) (ns := [e.kind, e.gen, e.seat, e.x, e.y, e.hp, e.max, e.atk, e.df, e.poison, e.stun]) (.some hcp (by rw [List.length_map, Nat.mul_one])) (by omega) (by intro x hx; obtain rfl := List.mem_singleton.1 hx; exact hH.at' mm_) (slOf hH mm_ rfl) (by omega) (by simpa using hH.nodup2 (x := ⟨b77, 3, 1, 11, e.cells⟩) (y := cB g cp (encB d i)) ss_)) rfl rfl ?_
        rintro _ _ hB5
        rw [show encB d i ++ [e.kind, e.gen, e.seat, e.x, e.y, e.hp, e.max, e.atk, e.df, e.poison, e.stun].map byteM = encB d (i + 1) from by rw [encB_succ he]; rfl] at hB5
        obtain ⟨g5, cp5, rfl, rfl, hcp5⟩ := hB5.some_of (by rw [encB_len _ _ (by omega)]; omega)
        refine s_y (Y_as) rfl rfl ?_
        refine s_nil ?_
        refine q_bn ?_
        refine q_then ?_
        refine c_reg ?_
        refine s_y ad_ rfl rfl ?_
        refine s_y (Y_mv) rfl rfl ?_
        refine s_nil ?_
        refine hK (m - 1) (i + 1, g5, cp5) _ _ (by omega) ⟨by simp only; omega, hcp5⟩ ⟨rfl, rfl, trivial⟩ rfl (fun _ h => h.pick ss_)
      · skip
        try simp only [nrm_] at hc14
        refine c_exit ?_
        repeat with_reducible refine q_te ?_
        refine q_exit ?_
        refine q_then ?_
        refine c_seq ?_
        refine c_seq ?_
        obtain rfl : i = d.ents.length := by omega
        rw [← encC_zero] at hcp ⊢
        refine c_reg ?_
        refine s_y (Y_fa 6 rfl Tryz.underlying34 rfl sz31 rfl) rfl rfl ?_
        refine s_y (yl_ one31) rfl rfl ?_
        refine s_y (Y_len rfl rfl Tryz.underlying31) rfl rfl ?_
        refine s_y (Y_mvC) rfl rfl ?_
        refine s_nil ?_
        refine q_then ?_
        refine c_block ?_
        refine c_loop [5, 11, 83, 84, 85, 86, 87, 88, 89, 90, 91, 92, 93, 94, 95, 96, 97, 98] (fun m (y : Nat × Nat × Nat) => y.1 + m = d.items.length ∧ (encC d y.1).length ≤ y.2.2) (fun y => [(83, iv y.1), (5, .slice (some ⟨y.2.1, 0, none⟩) (encC d y.1).length y.2.2)]) (fun y => [cB y.2.1 y.2.2 (encC d y.1), wB b1 (wv d s)]) (d.items.length) ((0, g, cp)) (⟨by simp only; omega, hcp⟩) (by repeat (first | exact trivial | refine ⟨rfl, ?_⟩)) (fun _ h => h.sub sl_) (fun _ => rfl) ?_
        rintro m2 ⟨i2, g2, cp2⟩ j2 ⟨hi2, hcp2⟩ K hK
        simp only at hi2 hcp2 ⊢
        have hel2 := encC_len d i2 (by omega)
        refine c_seq ?_
        refine c_reg ?_
        refine s_y (Y_lss rfl rfl) rfl rfl ?_
        refine s_nil ?_
        refine q_then ?_
        refine c_seq ?_
        first | refine c_cond' rfl (fun hc19 => ?_) (fun hc19 => ?_) | refine c_cond rfl (fun hc19 => ?_) (fun hc19 => ?_)
        · skip
          try simp only [nrm_] at hc19
          refine c_skip ?_
          refine q_then ?_
          refine c_seq ?_
          refine c_block ?_
          refine c_seq ?_
          obtain ⟨x, hx⟩ := take_lt (show i2 < d.items.length by omega)
          have hr := hw.i.at' Itm.len hx
          have hcap := hw.i.cap
          refine c_reg ?_
          refine s_y (Y_ia rfl rfl Tryz.underlying31 sz98 rfl (by omega)) rfl rfl ?_
          refine s_y (ya_ many98) rfl rfl ?_
          refine s_n (N_alloc (z := .agg #[.int .i64 0, .int .i64 0, .int .i64 0, .int .i64 0]) (cs := [.int .i64 0, .int .i64 0, .int .i64 0, .int .i64 0]) zv98 rfl) rfl rfl (fun b11 _ => ?_)
          refine s_s (S_storeA (vs := x.cells) rfl rfl sz98 (by rfl) (by rfl) up_ (by rfl)) rfl ?_
          refine s_nil ?_
          refine q_then ?_
          refine c_reg ?_
          refine s_y (Y_mv) rfl rfl ?_
          refine s_y (Y_fa 0 rfl Tryz.underlying98 rfl sz3 rfl) rfl rfl ?_
          refine s_y (yl_ one3) rfl rfl ?_
          refine s_y (Y_fa 1 rfl Tryz.underlying98 rfl sz3 rfl) rfl rfl ?_
          refine s_y (yl_ one3) rfl rfl ?_
          refine s_y (Y_fa 2 rfl Tryz.underlying98 rfl sz3 rfl) rfl rfl ?_
          refine s_y (yl_ one3) rfl rfl ?_
          refine s_y (Y_fa 3 rfl Tryz.underlying98 rfl sz3 rfl) rfl rfl ?_
          refine s_y (yl_ one3) rfl rfl ?_
          refine s_n (N_bs (xs := [.tmp 89, .tmp 91, .tmp 93, .tmp 95]) (by repeat (first | exact Gv.nil | apply Gv.const | apply Gv.tmp gt_)) rfl Tryz.underlying23 inf3 rfl (by omega) (by omega) (by first | simp [Value.oneCell'] | (intro v hv; simp at hv; subst hv; rfl))) rfl rfl (fun b96 _ => ?_)
          refine s_cm [cB g2 cp2 (encC d i2)] (En_call (fun _ => rfl) Tryz.func63 rfl (by kernel_rfl) rfl) ss_ (fun w hH => psmall_d (ys := encC d i2) (ns := [x.kind, x.whr, x.a, x.b]) (.some hcp2 (by rw [List.length_map, Nat.mul_one])) (by omega) (by intro x hx; obtain rfl := List.mem_singleton.1 hx; exact hH.at' mm_) (slOf hH mm_ rfl) (by omega) (by simpa using hH.nodup2 (x := ⟨b96, 3, 1, 4, x.cells⟩) (y := cB g2 cp2 (encC d i2)) ss_)) rfl rfl ?_
          rintro _ _ hB6
          rw [show encC d i2 ++ [x.kind, x.whr, x.a, x.b].map byteM = encC d (i2 + 1) from by rw [encC_succ hx]; rfl] at hB6
          obtain ⟨g6, cp6, rfl, rfl, hcp6⟩ := hB6.some_of (by rw [encC_len _ _ (by omega)]; omega)
          refine s_y (Y_as) rfl rfl ?_
          refine s_nil ?_
          refine q_bn ?_
          refine q_then ?_
          refine c_reg ?_
          refine s_y ad_ rfl rfl ?_
          refine s_y (Y_mv) rfl rfl ?_
          refine s_nil ?_
          refine hK (m2 - 1) (i2 + 1, g6, cp6) _ _ (by omega) ⟨by simp only; omega, hcp6⟩ ⟨rfl, rfl, trivial⟩ rfl (fun _ h => h.pick ss_)
        · skip
          try simp only [nrm_] at hc19
          refine c_exit ?_
          repeat with_reducible refine q_te ?_
          refine q_exit ?_
          refine q_then ?_
          refine c_seq ?_
          obtain rfl : i2 = d.items.length := by omega
          rw [encC_all] at hcp2 ⊢
          refine c_reg ?_
          refine s_y (Y_mv) rfl rfl ?_
          refine s_y (Y_as) rfl rfl ?_
          refine s_y (Y_asC) rfl rfl ?_
          refine s_nil ?_
          refine q_then ?_
          refine c_ret ?_
          refine q_retG2 rfl gt_ gt_ (L' := _) sl_ (.inr ⟨hc2, g2, cp2, rfl, rfl, hcp2⟩)
end
end Go.Proofs.YtcogbkkdccohfaaGreat
namespace Go.Ad
def numM (l : List UInt8) : Nat := l.foldl (fun v x => v * 256 + x.toNat) 0
theorem num_lt : ∀ (l : List UInt8) (v : Nat), l.foldl (fun v x => v * 256 + x.toNat) v < (v + 1) * 256 ^ l.length
  | [], v => by simp
  | x :: r, v => by
    have h := num_lt r (v * 256 + x.toNat)
    have hx := x.toNat_lt
    rw [List.foldl_cons, List.length_cons, Nat.pow_succ, Nat.mul_comm (256 ^ r.length) 256, ← Nat.mul_assoc]
    exact Nat.lt_of_lt_of_le h (Nat.mul_le_mul_right _ (by omega))
theorem numM_lt (l : List UInt8) : numM l < 256 ^ l.length := by
  have := num_lt l 0
  simpa [numM] using this
theorem num_step {l : List UInt8} {i : Nat} {x : UInt8} (h : l[i]? = some x) : numM (l.take (i + 1)) = numM (l.take i) * 256 + x.toNat := by
  obtain ⟨hi, rfl⟩ := List.getElem?_eq_some_iff.1 h
  unfold numM
  rw [← List.take_append_getElem hi, List.foldl_append, List.foldl_cons, List.foldl_nil]
theorem shl_or8 (v x : Nat) (hv : v < 72057594037927936) (hx : x < 256) : IntKind.u64.wrap (BitVec.ofInt 64 (IntKind.u64.wrap ((v : Int) * 2 ^ 8)) ||| BitVec.ofInt 64 (x : Int)).toNat = ((v * 256 + x : Nat) : Int) := by
  rw [u64_id (n := (v : Int) * 2 ^ 8) (by omega)]
  have h1 : BitVec.ofInt 64 ((v : Int) * 2 ^ 8) = BitVec.ofNat 64 (v * 256) := by
    rw [show (v : Int) * 2 ^ 8 = ((v * 256 : Nat) : Int) by omega, BitVec.ofInt_natCast]
  rw [h1, BitVec.ofInt_natCast, BitVec.toNat_or, BitVec.toNat_ofNat, BitVec.toNat_ofNat, Nat.mod_eq_of_lt (by omega), Nat.mod_eq_of_lt (by omega)]
  have h2 := Nat.shiftLeft_add_eq_or_of_lt (i := 8) (b := x) (by omega) v
  rw [Nat.shiftLeft_eq] at h2
  rw [← h2]
  exact u64_id (by omega)
def RdV (bb o n c k : Nat) (v : Value) : Prop := ∃ a', v = .slice (some a') (n - k) (c - k) ∧ (k < n → a' = ⟨bb, o + k, none⟩)
theorem RdV.next {bb o n c k m : Nat} (hn : n ≤ c) (hk : k + m ≤ n) : RdV bb o n c (k + m) (.slice (slAt (some ⟨bb, o + k, none⟩) (c - k) m 1) (n - k - m) (c - k - m)) := by
  unfold slAt
  split
  · refine ⟨_, by rw [Nat.sub_sub, Nat.sub_sub], fun h => ?_⟩
    omega
  · refine ⟨_, by rw [Nat.sub_sub, Nat.sub_sub]; rfl, fun h => ?_⟩
    show Addr.add ⟨bb, o + k, none⟩ (m * 1) = _
    rw [Addr.add_mid, Nat.mul_one, Nat.add_assoc]
end Go.Ad
namespace Go.Proofs.YtcogbkkdccohfaaGreat
open Go.RowKit Go.Ad Go.Maps
set_option linter.unusedVariables false
set_option linter.unusedSimpArgs false
abbrev rB (b : Nat) (v : Value) : Bk := ⟨b, 101, 1, 1, [v]⟩
section
variable {W : World}
set_option maxRecDepth 100000 in
theorem prnum_d {rb bb o n c k m : Nat} {v : Value} {bs : List UInt8} (hs : SlB W bb o n c 1 (bs.map bv)) (hv : RdV bb o n c k v) (hm : 0 < m ∧ m ≤ 8) (hk : k + m ≤ n) (hx : (rB rb v).holds W) (hne : bb ≠ rb) : Does Tryz.prog 57 [.pointer (some ⟨rb, 0, none⟩), iv m] W [rb] (fun z L => z = .int .u64 (numM ((bs.drop k).take m) : Nat) ∧ ∃ v', RdV bb o n c (k + m) v' ∧ L = [rB rb v']) := by
  obtain ⟨a', rfl, ha⟩ := hv
  obtain rfl := ha (by omega)
  have hcap := hs.cap
  have hbig := hs.big
  simp only [maxLen] at hbig
  have hbl : bs.length = n := by have := hs.len; simpa using this
  have hll : ((bs.drop k).take m).length = m := by rw [List.length_take, List.length_drop]; omega
  refine enter Tryz.func57 rfl rfl rfl (Has.start1 hx) ?_
  refine c_seq ?_
  refine c_reg ?_
  refine s_y (Y_asC) rfl rfl ?_
  refine s_nil ?_
  refine q_then ?_
  refine c_seq ?_
  refine c_reg ?_
  refine s_y (Y_asC) rfl rfl ?_
  refine s_nil ?_
  refine q_then ?_
  refine c_seq ?_
  refine c_seq ?_
  refine c_reg ?_
  refine s_y (Y_mv) rfl rfl ?_
  refine s_y ((by first | exact Y_nil rfl | exact Y_nilF rfl | exact Y_nilM rfl (by assumption) | exact Y_nilM rfl (by intro w k; kernel_rfl))) rfl rfl ?_
  refine s_y (Y_fa 0 rfl Tryz.underlying101 rfl sz24 rfl) rfl rfl ?_
  refine s_y (yl_ one24) rfl rfl ?_
  refine s_y (Y_mv) rfl rfl ?_
  refine s_y (Y_slHi rfl rfl Tryz.underlying24 sz5 rfl (by omega)) rfl rfl ?_
  refine s_y (Y_len rfl rfl Tryz.underlying24) rfl rfl ?_
  refine s_y (Y_mvC) rfl rfl ?_
  refine s_nil ?_
  refine q_then ?_
  refine c_block ?_
  refine c_loop [5, 7, 15, 16, 17, 18, 19, 20, 21, 22, 23, 24] (fun q i => i + q = m) (fun i => [(15, iv i), (5, .int .u64 (numM (((bs.drop k).take m).take i) : Nat))]) (fun _ => [rB rb (.slice (some ⟨bb, o + k, none⟩) (n - k) (c - k))]) (m) (0) (by omega) (by repeat (first | exact trivial | refine ⟨rfl, ?_⟩)) (fun _ h => h.sub sl_) (fun _ => rfl) ?_
  rintro q i j hi K hK
  refine c_seq ?_
  refine c_reg ?_
  refine s_y (Y_lss rfl rfl) rfl rfl ?_
  refine s_nil ?_
  refine q_then ?_
  refine c_seq ?_
  first | refine c_cond' rfl (fun hc3 => ?_) (fun hc3 => ?_) | refine c_cond rfl (fun hc3 => ?_) (fun hc3 => ?_)
  · skip
    try simp only [nrm_] at hc3
    refine c_skip ?_
    refine q_then ?_
    refine c_seq ?_
    refine c_block ?_
    refine c_seq ?_
    obtain ⟨x, hx2⟩ := take_lt (show i < ((bs.drop k).take m).length by omega)
    have hx3 : bs[k + i]? = some x := by rw [List.getElem?_take_of_lt (by omega), List.getElem?_drop] at hx2; exact hx2
    have hnl := numM_lt (((bs.drop k).take m).take i)
    have hil : (((bs.drop k).take m).take i).length = i := by rw [List.length_take]; omega
    rw [hil] at hnl
    have hp : 256 ^ i ≤ 256 ^ 7 := Nat.pow_le_pow_right (by omega) (by omega)
    have hxl := x.toNat_lt
    refine c_reg ?_
    refine s_y (Y_ia1 rfl rfl Tryz.underlying24 sz5 rfl (by omega)) rfl rfl ?_
    refine s_y (Y_loadR (v := bv x) (i := k + i) rfl one5 hs.ro (by omega) (by rw [List.getElem?_map, hx3]; rfl) (by simpa using hne)) rfl rfl ?_
    refine s_y (Y_as) rfl rfl ?_
    refine s_nil ?_
    refine q_then ?_
    refine c_reg ?_
    refine s_y (Y_mv) rfl rfl ?_
    refine s_y (Y_shl rfl rfl (by decide)) rfl rfl ?_
    refine s_y (Y_mv) rfl rfl ?_
    refine s_y ((by first | exact Y_conv rfl Tryz.underlying5 Tryz.underlying96 (by first | exact i64_u8 _ | exact u64_u8 _ | exact i64_id (by omega) | exact u64_id (by omega) | exact u8_id (by omega) | exact u32_id (by omega)) | exact Y_convw rfl Tryz.underlying5 Tryz.underlying96)) rfl rfl ?_
    refine s_y ((Y_bits rfl rfl rfl (by simp)).num (show _ = ((numM (((bs.drop k).take m).take (i + 1)) : Nat) : Int) by rw [num_step hx2]; exact shl_or8 _ _ (by omega) (by omega))) rfl rfl ?_
    refine s_y (Y_as) rfl rfl ?_
    refine s_nil ?_
    refine q_bn ?_
    refine q_then ?_
    refine c_reg ?_
    refine s_y ad_ rfl rfl ?_
    refine s_y (Y_mv) rfl rfl ?_
    refine s_nil ?_
    refine hK (q - 1) (i + 1) _ _ (by omega) (by omega) ⟨rfl, rfl, trivial⟩ rfl (fun _ h => h)
  · skip
    try simp only [nrm_] at hc3
    refine c_exit ?_
    repeat with_reducible refine q_te ?_
    refine q_exit ?_
    refine q_then ?_
    refine c_seq ?_
    obtain rfl : i = m := by omega
    rw [List.take_of_length_le (Nat.le_of_eq hll)]
    refine c_reg ?_
    refine s_y (Y_mv) rfl rfl ?_
    refine s_y (Y_mv) rfl rfl ?_
    refine s_y ((by first | exact Y_nil rfl | exact Y_nilF rfl | exact Y_nilM rfl (by assumption) | exact Y_nilM rfl (by intro w k; kernel_rfl))) rfl rfl ?_
    refine s_y (Y_fa 0 rfl Tryz.underlying101 rfl sz24 rfl) rfl rfl ?_
    refine s_y (yl_ one24) rfl rfl ?_
    refine s_y (Y_mv) rfl rfl ?_
    refine s_y (Y_slLo (l := i) rfl rfl Tryz.underlying24 sz5 rfl (by omega)) rfl rfl ?_
    refine s_y ((by first | exact Y_nil rfl | exact Y_nilF rfl | exact Y_nilM rfl (by assumption) | exact Y_nilM rfl (by intro w k; kernel_rfl))) rfl rfl ?_
    refine s_y (Y_fa 0 rfl Tryz.underlying101 rfl sz24 rfl) rfl rfl ?_
    refine s_s (S_st rfl gt_ sz24 (by rfl) up_ (by first | (simp only [Nat.zero_add, Nat.reduceAdd, List.set_cons_succ, List.set_cons_zero]; rfl) | rfl) (by first | (simp; done) | omega)) rfl ?_
    refine s_nil ?_
    refine q_then ?_
    refine c_seq ?_
    refine c_reg ?_
    refine s_y (Y_mv) rfl rfl ?_
    refine s_y (Y_as) rfl rfl ?_
    refine s_nil ?_
    refine q_then ?_
    refine c_ret ?_
    refine q_retG1 rfl gt_ (L' := _) sl_ (⟨rfl, _, RdV.next hcap hk, rfl⟩)
theorem ptrs_get {tb j0 n i : Nat} (h : i < n) : ((List.range n).map fun t => Value.pointer (some ⟨tb, j0 + t, none⟩))[i]? = some (.pointer (some ⟨tb, j0 + i, none⟩)) := by
  rw [List.getElem?_map, List.getElem?_range h]; rfl
def putB (cs : List Value) (j0 : Nat) (bs : List UInt8) (k : Nat) : Nat → List Value
  | 0 => cs
  | i + 1 => (putB cs j0 bs k i).set (j0 + i) (iv (byteAt bs (k + i)))
theorem putB_len (cs : List Value) (j0 : Nat) (bs : List UInt8) (k : Nat) : ∀ i, (putB cs j0 bs k i).length = cs.length
  | 0 => rfl
  | i + 1 => by rw [putB, List.length_set, putB_len cs j0 bs k i]
set_option maxRecDepth 100000 in
theorem prsmall_d {rb bb o n c k m : Nat} {v : Value} {bs : List UInt8} (hs : SlB W bb o n c 1 (bs.map bv)) (hv : RdV bb o n c k v) (hm : m ≤ 100) (hk : k + m ≤ n) (hx : (rB rb v).holds W) {y : Bk} (hy : y.holds W) (hne : bb ≠ rb) (hne2 : rb ≠ y.b) (hne3 : bb ≠ y.b) {lb j0 : Nat} (hl : Ro W lb 0 ((List.range m).map fun t => Value.pointer (some ⟨y.b, j0 + t, none⟩))) (hlb : lb ≠ rb ∧ lb ≠ y.b) (hj : j0 + m ≤ y.c.length) :
    Does Tryz.prog 58 [.pointer (some ⟨rb, 0, none⟩), .slice (some ⟨lb, 0, none⟩) m m] W [rb, y.b] (fun z L => z = .tuple #[] ∧ ∃ v', RdV bb o n c (k + m) v' ∧ L = [rB rb v', { y with c := putB y.c j0 bs k m }]) := by
  obtain ⟨yb, yt, yk, ycap, yc⟩ := y
  simp only at hne2 hne3 hl hlb hj ⊢
  have hcap := hs.cap
  have hbl : bs.length = n := by have := hs.len; simpa using this
  refine enter Tryz.func58 rfl rfl rfl (Has.starts (xs := [rB rb v, ⟨yb, yt, yk, ycap, yc⟩]) (by intro x hx2; rcases List.mem_cons.1 hx2 with rfl | hx2; exact hx; obtain rfl := List.mem_singleton.1 hx2; exact hy) (by simpa using hne2)) ?_
  refine c_seq ?_
  refine c_reg ?_
  refine s_y (Y_mv) rfl rfl ?_
  refine s_y (Y_len rfl rfl Tryz.underlying156) rfl rfl ?_
  refine s_y (Y_mvC) rfl rfl ?_
  refine s_nil ?_
  refine q_then ?_
  refine c_block ?_
  refine c_loop [5, 8, 9, 10, 11, 12, 13, 14, 15, 16, 17] (fun q (y : Nat × Value) => y.1 + q = m ∧ RdV bb o n c (k + y.1) y.2) (fun y => [(8, iv y.1)]) (fun y => [rB rb y.2, ⟨yb, yt, yk, ycap, putB yc j0 bs k y.1⟩]) (m) ((0, v)) (⟨by simp only; omega, hv⟩) (by repeat (first | exact trivial | refine ⟨rfl, ?_⟩)) (fun _ h => h.sub sl_) (fun _ => rfl) ?_
  rintro q ⟨i, v2⟩ j ⟨hi, hv2⟩ K hK
  simp only at hi hv2 ⊢
  refine c_seq ?_
  refine c_reg ?_
  refine s_y (Y_lss rfl rfl) rfl rfl ?_
  refine s_nil ?_
  refine q_then ?_
  refine c_seq ?_
  first | refine c_cond' rfl (fun hc1 => ?_) (fun hc1 => ?_) | refine c_cond rfl (fun hc1 => ?_) (fun hc1 => ?_)
  · skip
    try simp only [nrm_] at hc1
    refine c_skip ?_
    refine q_then ?_
    refine c_seq ?_
    refine c_block ?_
    refine c_seq ?_
    refine c_reg ?_
    refine s_y (Y_ia1 rfl rfl Tryz.underlying156 sz104 rfl (by omega)) rfl rfl ?_
    refine s_y (Y_loadR (v := .pointer (some ⟨yb, j0 + i, none⟩)) (i := i) rfl one104 hl (by omega) (ptrs_get (by omega)) (by simp only [List.map_cons, List.map_nil, List.mem_cons, List.not_mem_nil, or_false, not_or]; exact hlb)) rfl rfl ?_
    refine s_y (Y_as) rfl rfl ?_
    refine s_nil ?_
    refine q_then ?_
    refine c_reg ?_
    refine s_y (Y_mv) rfl rfl ?_
    refine s_y (Y_mv) rfl rfl ?_
    refine s_cm [rB rb v2] (En_call (fun _ => rfl) Tryz.func57 rfl (by kernel_rfl) rfl) ss_ (fun w hH => prnum_d (m := 1) (hs.has hH (by simp only [List.map_cons, List.map_nil, List.mem_cons, List.not_mem_nil, or_false, not_or]; exact ⟨hne, hne3⟩)) hv2 (by decide) (by omega) (hH.at' mm_) hne) rfl rfl ?_
    rintro _ _ ⟨rfl, v3, hv3, rfl⟩
    obtain ⟨x, hx3⟩ := take_lt (show k + i < bs.length by omega)
    have hn1 : numM ((bs.drop (k + i)).take 1) = x.toNat := by
      rw [List.drop_eq_getElem_cons (by omega), List.take_succ_cons, List.take_zero]
      obtain ⟨h1, rfl⟩ := List.getElem?_eq_some_iff.1 hx3
      simp [numM]
    have hxl := x.toNat_lt
    have hpb : putB yc j0 bs k (i + 1) = (putB yc j0 bs k i).set (j0 + i) (iv (x.toNat : Int)) := by rw [putB, byteAt_of hx3]
    have hpl := putB_len yc j0 bs k i
    rw [hn1]
    refine s_y (Y_conv rfl Tryz.underlying96 Tryz.underlying3 (i64_id (by omega))) rfl rfl ?_
    refine s_y ((by first | exact Y_nil rfl | exact Y_nilF rfl | exact Y_nilM rfl (by assumption) | exact Y_nilM rfl (by intro w k; kernel_rfl))) rfl rfl ?_
    refine s_s (S_st (cs' := putB yc j0 bs k (i + 1)) rfl gt_ sz3 (by rfl) up_ hpb.symm (by omega)) rfl ?_
    refine s_nil ?_
    refine q_bn ?_
    refine q_then ?_
    refine c_reg ?_
    refine s_y ad_ rfl rfl ?_
    refine s_y (Y_mv) rfl rfl ?_
    refine s_nil ?_
    refine hK (q - 1) (i + 1, v3) _ _ (by omega) ⟨by simp only; omega, hv3⟩ ⟨rfl, trivial⟩ rfl (fun _ h => h.pick ss_)
  · skip
    try simp only [nrm_] at hc1
    refine c_exit ?_
    repeat with_reducible refine q_te ?_
    refine q_exit ?_
    refine q_end0 rfl (L' := _) sl_ (⟨rfl, v2, by rw [show m = i by omega]; exact hv2, by rw [show m = i by omega]⟩)
end
end Go.Proofs.YtcogbkkdccohfaaGreat
namespace Go.Ad
def entAt (bs : List UInt8) (k : Nat) : Ent := ⟨byteAt bs (k + 0), byteAt bs (k + 1), byteAt bs (k + 2), byteAt bs (k + 3), byteAt bs (k + 4), byteAt bs (k + 5), byteAt bs (k + 6), byteAt bs (k + 7), byteAt bs (k + 8), byteAt bs (k + 9), byteAt bs (k + 10)⟩
def itmAt (bs : List UInt8) (k : Nat) : Itm := ⟨byteAt bs (k + 0), byteAt bs (k + 1), byteAt bs (k + 2), byteAt bs (k + 3)⟩
def num2 (bs : List UInt8) (k : Nat) : Int := (numM ((bs.drop k).take 2) : Nat)
def goldD (bs : List UInt8) : Nat → Four
  | 0 => ⟨0, 0, 0, 0⟩
  | i + 1 => (goldD bs i).set (num2 bs (14 + 2 * i)) i
def decM (bs : List UInt8) : Wd := ⟨IntKind.i64.wrap (numM ((bs.drop 0).take 8) : Nat), (numM ((bs.drop 8).take 4) : Nat), byteAt bs (12 + 0), byteAt bs (12 + 1), (bs.drop 22).take 384, (List.range 32).map (fun i => entAt bs (406 + i * 11)), (List.range 40).map (fun i => itmAt bs (758 + i * 4)), goldD bs 4⟩
theorem fill_set {α : Type} {f : Nat → α} {z : α} {n i : Nat} (h : i < n) : ((List.range i).map f ++ List.replicate (n - i) z).set i (f i) = (List.range (i + 1)).map f ++ List.replicate (n - (i + 1)) z := by
  obtain ⟨q, hq⟩ : ∃ q, n - i = q + 1 := ⟨n - i - 1, by omega⟩
  rw [hq, show n - (i + 1) = q by omega, List.replicate_succ, List.range_succ, List.map_append]
  have hl : ((List.range i).map f).length = i := by simp
  conv => lhs; arg 2; rw [← hl]
  rw [List.set_append_right _ _ (Nat.le_refl _), Nat.sub_self, List.set_cons_zero]
  simp
theorem fill_len {α : Type} {f : Nat → α} {z : α} {n i : Nat} (h : i ≤ n) : ((List.range i).map f ++ List.replicate (n - i) z).length = n := by simp; omega
theorem Has.ne_old {W w : World} {L : List Bk} {x : Bk} {b : Nat} (hH : Has W [] L w) (hx : x ∈ L) (hb : b < W.heap.size) : b ≠ x.b := fun h => by
  rcases (hH.bk x hx).2 with h1 | h1
  · simp at h1
  · omega
theorem SlB.sub {W : World} {b o n c k m : Nat} {bs : List UInt8} (h : SlB W b o n c 1 (bs.map bv)) (hk : k + m ≤ n) : SlB W b (o + k) m (c - k) 1 (((bs.drop k).take m).map bv) := by
  have hl : bs.length = n := by have := h.len; simpa using this
  have hc := h.cap
  have hb := h.big
  refine ⟨by rw [List.length_map, List.length_take, List.length_drop]; omega, by omega, by omega, h.lt, fun j v hj => ?_⟩
  rw [Nat.add_assoc]
  apply h.ro
  rw [List.getElem?_map] at hj ⊢
  have hjl : j < m := by
    cases hq : ((bs.drop k).take m)[j]? with
    | none => rw [hq] at hj; cases hj
    | some x => have := (List.getElem?_eq_some_iff.1 hq).1; rw [List.length_take] at this; omega
  rw [List.getElem?_take_of_lt hjl, List.getElem?_drop] at hj
  exact hj
end Go.Ad
namespace Go.Proofs.YtcogbkkdccohfaaGreat
open Go.RowKit Go.Ad Go.Maps
set_option linter.unusedVariables false
set_option linter.unusedSimpArgs false
abbrev wcD (a b c d : Int) (x y z : Value) (g : Four) : List Value := [iv a, iv b, iv c, iv d, x, y, z, iv g.a, iv g.b, iv g.c, iv g.d]
theorem wcD_gold {a b c d : Int} {x y z : Value} {g : Four} {v : Int} {i : Nat} (h : i < 4) : (wcD a b c d x y z g).set (0 + 7 + i * 1) (iv v) = wcD a b c d x y z (g.set v i) := by
  rcases (show i = 0 ∨ i = 1 ∨ i = 2 ∨ i = 3 by omega) with rfl | rfl | rfl | rfl <;> rfl
abbrev pB (b tb j0 n : Nat) : Bk := ⟨b, 104, 1, n, (List.range n).map fun t => Value.pointer (some ⟨tb, j0 + t, none⟩)⟩
abbrev entF (bs : List UInt8) (i : Nat) : List Ent := (List.range i).map (fun i => entAt bs (406 + i * 11)) ++ List.replicate (32 - i) Ent.zero
abbrev itmF (bs : List UInt8) (i : Nat) : List Itm := (List.range i).map (fun i => itmAt bs (758 + i * 4)) ++ List.replicate (40 - i) Itm.zero
theorem entF_put {bs : List UInt8} {i : Nat} (h : i < 32) : putB (ecells (entF bs i)) (0 + i * 11) bs (406 + i * 11) 11 = ecells (entF bs (i + 1)) := by
  rw [entF, entF, ← fill_set (f := fun i => entAt bs (406 + i * 11)) h]
  exact eall (entAt bs (406 + i * 11)) (by rw [fill_len (by omega)]; omega)
theorem itmF_put {bs : List UInt8} {i : Nat} (h : i < 40) : putB (icells (itmF bs i)) (0 + i * 4) bs (758 + i * 4) 4 = icells (itmF bs (i + 1)) := by
  rw [itmF, itmF, ← fill_set (f := fun i => itmAt bs (758 + i * 4)) h]
  exact iall (itmAt bs (758 + i * 4)) (by rw [fill_len (by omega)]; omega)
section
variable {W : World}
set_option maxRecDepth 100000 in
theorem pclone_d {b o n c : Nat} {l : List UInt8} (hs : SlB W b o n c 1 (l.map bv)) (hn : n ≤ 100000) : Does Tryz.prog 59 [.slice (some ⟨b, o, none⟩) n c] W [] (fun v L => ∃ g cap, n ≤ cap ∧ v = .slice (some ⟨g, 0, none⟩) n cap ∧ L = [cB g cap l]) := by
  refine enter Tryz.func59 rfl rfl rfl (Has.start _) ?_
  refine c_seq ?_
  refine c_reg ?_
  refine s_y (Y_asC) rfl rfl ?_
  refine s_nil ?_
  refine q_then ?_
  refine c_seq ?_
  refine c_seq ?_
  refine c_reg ?_
  refine s_y (Y_mv) rfl rfl ?_
  refine s_y (Y_eqN rfl rfl Tryz.underlying24) rfl rfl ?_
  refine s_nil ?_
  refine q_then ?_
  refine c_F rfl (rfl) ?_
  refine c_skip ?_
  refine q_then ?_
  refine c_seq ?_
  refine c_reg ?_
  refine s_n (N_bs0 rfl Tryz.underlying24 sz5) rfl rfl (fun b5 _ => ?_)
  refine s_y (Y_mv) rfl rfl ?_
  refine s_n (N_appE (news := l.map bv) rfl rfl Tryz.underlying24 inf5 rfl (by omega) se_ hs.src hs.len (bvs_one _) (by omega) (by omega)) rfl rfl (fun ⟨g7, cp7⟩ hc7 => ?_)
  refine s_y (Y_as) rfl rfl ?_
  refine s_nil ?_
  refine q_then ?_
  refine c_ret ?_
  refine q_retG1 rfl gt_ (L' := _) sl_ (⟨g7, cp7, hc7, rfl, rfl⟩)
def DecP (bs : List UInt8) (v : Value) (L : List Bk) : Prop := (∃ e : Int, e ≠ 0 ∧ v = .tuple #[.agg wz.toArray, iv e] ∧ L = [] ∧ e = (if bs.length < 918 then 7 else if 918 < bs.length then 8 else checkM (decM bs))) ∨ (bs.length = 918 ∧ checkM (decM bs) = 0 ∧ ∃ cb cc eb ec ib ic, v = .tuple #[.agg (wv (decM bs) ⟨cb, 0, cc, eb, 0, ec, ib, 0, ic⟩).toArray, iv 0] ∧ L = [cB cb cc (decM bs).cells, eB eb ec (decM bs).ents, iB ib ic (decM bs).items] ∧ (decM bs).cells.length ≤ cc ∧ (decM bs).ents.length ≤ ec ∧ (decM bs).items.length ≤ ic)
theorem dec_ok (bs : List UInt8) : ∀ x ∈ (decM bs).items, Itm.ok x := fun x hx => by
  obtain ⟨i, _, rfl⟩ := List.mem_map.1 hx
  have := byteAt_rng bs (758 + i * 4 + 3)
  exact ⟨by show _ ≤ byteAt bs (758 + i * 4 + 3); omega, by show byteAt bs (758 + i * 4 + 3) ≤ _; omega⟩
set_option maxRecDepth 100000 in
set_option maxHeartbeats 3200000 in
theorem pdec_d {bb o n c : Nat} {bs : List UInt8} (hs : SlB W bb o n c 1 (bs.map bv)) (hn : n ≤ 100000000) : Does Tryz.prog 19 [.slice (some ⟨bb, o, none⟩) n c] W [] (DecP bs) := by
  obtain rfl : n = bs.length := by have := hs.len; simpa using this.symm
  have hcap := hs.cap
  have hbig := hs.big
  simp only [maxLen] at hbig
  refine enter Tryz.func19 rfl rfl rfl (Has.start _) ?_
  refine c_seq ?_
  refine c_reg ?_
  refine s_n (N_alloc (z := .agg #[.int .i64 0, .int .i64 0, .int .i64 0, .int .i64 0, .slice none 0 0, .slice none 0 0, .slice none 0 0, .int .i64 0, .int .i64 0, .int .i64 0, .int .i64 0]) (cs := [.int .i64 0, .int .i64 0, .int .i64 0, .int .i64 0, .slice none 0 0, .slice none 0 0, .slice none 0 0, .int .i64 0, .int .i64 0, .int .i64 0, .int .i64 0]) zv34 rfl) rfl rfl (fun b2 _ => ?_)
  refine s_y (Y_asC) rfl rfl ?_
  refine s_nil ?_
  refine q_then ?_
  refine c_seq ?_
  refine c_block ?_
  refine c_seq ?_
  refine c_reg ?_
  refine s_y (Y_mv) rfl rfl ?_
  refine s_y (Y_len rfl rfl Tryz.underlying24) rfl rfl ?_
  refine s_y (Y_lss rfl rfl) rfl rfl ?_
  refine s_y (Y_as) rfl rfl ?_
  refine s_nil ?_
  refine q_then ?_
  first | refine c_cond' rfl (fun hc1 => ?_) (fun hc1 => ?_) | refine c_cond rfl (fun hc1 => ?_) (fun hc1 => ?_)
  · skip
    try simp only [nrm_] at hc1
    refine c_seq ?_
    refine c_reg ?_
    refine s_y (Y_build (cs := [.int .i64 0, .int .i64 0, .int .i64 0, .int .i64 0, .slice none 0 0, .slice none 0 0, .slice none 0 0, .int .i64 0, .int .i64 0, .int .i64 0, .int .i64 0]) (by repeat (first | exact Gp.nil | apply Gp.const | apply Gp.tmp gt_)) (bld34 _ _ (by kernel_rfl))) rfl rfl ?_
    refine s_s ((sa_ sz34)) rfl ?_
    refine s_y (Y_asC) rfl rfl ?_
    refine s_nil ?_
    refine q_then ?_
    refine c_ret ?_
    refine q_ret2c rfl rfl many34 rfl mm_ (by rfl) (L' := []) sl_ (.inl ⟨7, by decide, rfl, rfl, by rw [if_pos (by omega)]⟩)
  · skip
    try simp only [nrm_] at hc1
    refine c_seq ?_
    refine c_reg ?_
    refine s_y (Y_mv) rfl rfl ?_
    refine s_y (Y_len rfl rfl Tryz.underlying24) rfl rfl ?_
    refine s_y (Y_gtr rfl rfl) rfl rfl ?_
    refine s_y (Y_as) rfl rfl ?_
    refine s_nil ?_
    refine q_then ?_
    first | refine c_cond' rfl (fun hc3 => ?_) (fun hc3 => ?_) | refine c_cond rfl (fun hc3 => ?_) (fun hc3 => ?_)
    · skip
      try simp only [nrm_] at hc3
      refine c_seq ?_
      refine c_reg ?_
      refine s_y (Y_build (cs := [.int .i64 0, .int .i64 0, .int .i64 0, .int .i64 0, .slice none 0 0, .slice none 0 0, .slice none 0 0, .int .i64 0, .int .i64 0, .int .i64 0, .int .i64 0]) (by repeat (first | exact Gp.nil | apply Gp.const | apply Gp.tmp gt_)) (bld34 _ _ (by kernel_rfl))) rfl rfl ?_
      refine s_s ((sa_ sz34)) rfl ?_
      refine s_y (Y_asC) rfl rfl ?_
      refine s_nil ?_
      refine q_then ?_
      refine c_ret ?_
      refine q_ret2c rfl rfl many34 rfl mm_ (by rfl) (L' := []) sl_ (.inl ⟨8, by decide, rfl, rfl, by rw [if_neg (by omega), if_pos (by omega)]⟩)
    · skip
      try simp only [nrm_] at hc3
      refine c_skip ?_
      refine q_bn ?_
      refine q_then ?_
      refine c_seq ?_
      have hl : bs.length = 918 := by omega
      rw [hl]
      rw [hl] at hs
      refine c_reg ?_
      refine s_y (Y_mv) rfl rfl ?_
      refine s_y (Y_build (cs := [_]) (by repeat (first | exact Gp.nil | apply Gp.const | apply Gp.tmp gt_)) (bld101 _ _ (by first | rfl | (simp; rfl)))) rfl rfl ?_
      refine s_n (N_box (cs := [.slice (some ⟨bb, o, none⟩) 918 c]) rfl) rfl rfl (fun b24 _ => ?_)
      refine s_y (Y_as) rfl rfl ?_
      refine s_nil ?_
      refine q_then ?_
      refine c_seq ?_
      refine c_reg ?_
      refine s_y (Y_mv) rfl rfl ?_
      refine s_cm [rB b24 (.slice (some ⟨bb, o, none⟩) 918 c)] (En_call (fun _ => rfl) Tryz.func57 rfl (by kernel_rfl) rfl) ss_ (fun w hH => prnum_d (k := 0) (m := 8) (hs.has hH) ⟨_, rfl, fun _ => rfl⟩ (by decide) (by omega) (hH.at' (x := rB b24 (.slice (some ⟨bb, o, none⟩) 918 c)) mm_) (hH.ne_old (x := rB b24 (.slice (some ⟨bb, o, none⟩) 918 c)) mm_ hs.lt)) rfl rfl ?_
      rintro _ _ ⟨rfl, v1, hv1, rfl⟩
      have hb8 := numM_lt ((bs.drop 8).take 4)
      rw [show ((bs.drop 8).take 4).length = 4 by rw [List.length_take, List.length_drop]; omega] at hb8
      rw [Nat.zero_add] at hv1
      refine s_y (Y_convw rfl Tryz.underlying96 Tryz.underlying2) rfl rfl ?_
      refine s_y (Y_mv) rfl rfl ?_
      refine s_cm [rB b24 v1] (En_call (fun _ => rfl) Tryz.func57 rfl (by kernel_rfl) rfl) ss_ (fun w hH => prnum_d (k := 8) (m := 4) (hs.has hH) hv1 (by decide) (by omega) (hH.at' (x := rB b24 v1) mm_) (hH.ne_old (x := rB b24 v1) mm_ hs.lt)) rfl rfl ?_
      rintro _ _ ⟨rfl, v2, hv2, rfl⟩
      refine s_y (Y_conv rfl Tryz.underlying96 Tryz.underlying3 (i64_id (by omega))) rfl rfl ?_
      refine s_y (Y_build (cs := wcD (decM bs).seed (decM bs).frame 0 0 (.slice none 0 0) (.slice none 0 0) (.slice none 0 0) ⟨0, 0, 0, 0⟩) (by repeat (first | exact Gp.nil | apply Gp.const | apply Gp.tmp gt_)) (bld34 _ _ (by kernel_rfl))) rfl rfl ?_
      refine s_n (N_alloc (z := .agg #[.int .i64 0, .int .i64 0, .int .i64 0, .int .i64 0, .slice none 0 0, .slice none 0 0, .slice none 0 0, .int .i64 0, .int .i64 0, .int .i64 0, .int .i64 0]) (cs := [.int .i64 0, .int .i64 0, .int .i64 0, .int .i64 0, .slice none 0 0, .slice none 0 0, .slice none 0 0, .int .i64 0, .int .i64 0, .int .i64 0, .int .i64 0]) zv34 rfl) rfl rfl (fun b5 _ => ?_)
      refine s_s (S_storeA (vs := wcD (decM bs).seed (decM bs).frame 0 0 (.slice none 0 0) (.slice none 0 0) (.slice none 0 0) ⟨0, 0, 0, 0⟩) rfl rfl sz34 (by rfl) (by rfl) up_ (by rfl)) rfl ?_
      refine s_nil ?_
      refine QL.pick (L' := [wB b5 (wcD (decM bs).seed (decM bs).frame 0 0 (.slice none 0 0) (.slice none 0 0) (.slice none 0 0) ⟨0, 0, 0, 0⟩), rB b24 v2, wB b2 wz]) ss_ ?_
      refine q_then ?_
      refine c_seq ?_
      refine c_reg ?_
      refine s_y (Y_mv) rfl rfl ?_
      refine s_y (Y_fa 2 rfl Tryz.underlying34 rfl sz3 rfl) rfl rfl ?_
      refine s_y (Y_fa 3 rfl Tryz.underlying34 rfl sz3 rfl) rfl rfl ?_
      refine s_n (N_bs (xs := [.tmp 33, .tmp 34]) (by repeat (first | exact Gv.nil | apply Gv.const | apply Gv.tmp gt_)) rfl Tryz.underlying156 inf104 rfl (by omega) (by omega) (by first | simp [Value.oneCell'] | (intro v hv; simp at hv; subst hv; rfl))) rfl rfl (fun b35 _ => ?_)
      refine s_cm [rB b24 v2, wB b5 (wcD (decM bs).seed (decM bs).frame 0 0 (.slice none 0 0) (.slice none 0 0) (.slice none 0 0) ⟨0, 0, 0, 0⟩)] (En_call (fun _ => rfl) Tryz.func58 rfl (by kernel_rfl) rfl) ss_ (fun w hH => prsmall_d (k := 12) (m := 2) (j0 := 2) (y := wB b5 (wcD (decM bs).seed (decM bs).frame 0 0 (.slice none 0 0) (.slice none 0 0) (.slice none 0 0) ⟨0, 0, 0, 0⟩)) (hs.has hH) hv2 (by decide) (by omega) (hH.at' (x := rB b24 v2) mm_) (hH.at' mm_) (hH.ne_old (x := rB b24 v2) mm_ hs.lt) (hH.nodup2 (x := rB b24 v2) (y := wB b5 (wcD (decM bs).seed (decM bs).frame 0 0 (.slice none 0 0) (.slice none 0 0) (.slice none 0 0) ⟨0, 0, 0, 0⟩)) ss_) (hH.ne_old (x := wB b5 (wcD (decM bs).seed (decM bs).frame 0 0 (.slice none 0 0) (.slice none 0 0) (.slice none 0 0) ⟨0, 0, 0, 0⟩)) mm_ hs.lt) (hH.at' (x := ⟨b35, 104, 1, 2, [.pointer (some ⟨b5, 2, none⟩), .pointer (some ⟨b5, 3, none⟩)]⟩) mm_).ro ⟨hH.nodup2 (x := ⟨b35, 104, 1, 2, [.pointer (some ⟨b5, 2, none⟩), .pointer (some ⟨b5, 3, none⟩)]⟩) (y := rB b24 v2) ss_, hH.nodup2 (x := ⟨b35, 104, 1, 2, [.pointer (some ⟨b5, 2, none⟩), .pointer (some ⟨b5, 3, none⟩)]⟩) (y := wB b5 (wcD (decM bs).seed (decM bs).frame 0 0 (.slice none 0 0) (.slice none 0 0) (.slice none 0 0) ⟨0, 0, 0, 0⟩)) ss_⟩ (by simp only [List.length_cons, List.length_nil]; omega)) rfl rfl ?_
      rintro _ _ ⟨rfl, v3, hv3, rfl⟩
      refine s_nil ?_
      refine QL.pick (L' := [wB b5 (wcD (decM bs).seed (decM bs).frame (decM bs).floor (decM bs).state (.slice none 0 0) (.slice none 0 0) (.slice none 0 0) ⟨0, 0, 0, 0⟩), rB b24 v3, wB b2 wz]) ss_ ?_
      refine q_then ?_
      refine c_seq ?_
      refine c_seq ?_
      refine c_reg ?_
      refine s_y (Y_mvC) rfl rfl ?_
      refine s_nil ?_
      refine q_then ?_
      refine c_block ?_
      refine c_loop [6, 37, 38, 39, 40, 41, 42, 43, 44, 45, 46] (fun m (y : Nat × Value) => y.1 + m = 4 ∧ RdV bb o 918 c (14 + 2 * y.1) y.2) (fun y => [(37, iv y.1)]) (fun y => [wB b5 (wcD (decM bs).seed (decM bs).frame (decM bs).floor (decM bs).state (.slice none 0 0) (.slice none 0 0) (.slice none 0 0) (goldD bs y.1)), rB b24 y.2, wB b2 wz]) (4) ((0, v3)) (⟨rfl, hv3⟩) (by repeat (first | exact trivial | refine ⟨rfl, ?_⟩)) (fun _ h => h.sub sl_) (fun _ => rfl) ?_
      rintro m ⟨i, v4⟩ j ⟨hi, hv4⟩ K hK
      simp only at hi hv4 ⊢
      refine c_seq ?_
      refine c_reg ?_
      refine s_y (Y_lss rfl rfl) rfl rfl ?_
      refine s_nil ?_
      refine q_then ?_
      refine c_seq ?_
      first | refine c_cond' rfl (fun hc9 => ?_) (fun hc9 => ?_) | refine c_cond rfl (fun hc9 => ?_) (fun hc9 => ?_)
      · skip
        try simp only [nrm_] at hc9
        refine c_skip ?_
        refine q_then ?_
        refine c_seq ?_
        refine c_block ?_
        refine c_seq ?_
        refine c_reg ?_
        refine s_y (Y_mv) rfl rfl ?_
        refine s_y (Y_as) rfl rfl ?_
        refine s_nil ?_
        refine q_then ?_
        have hb2 := numM_lt ((bs.drop (14 + 2 * i)).take 2)
        rw [show ((bs.drop (14 + 2 * i)).take 2).length = 2 by rw [List.length_take, List.length_drop]; omega] at hb2
        refine c_reg ?_
        refine s_y (Y_mv) rfl rfl ?_
        refine s_y (Y_mv) rfl rfl ?_
        refine s_cm [rB b24 v4] (En_call (fun _ => rfl) Tryz.func57 rfl (by kernel_rfl) rfl) ss_ (fun w hH => prnum_d (k := 14 + 2 * i) (m := 2) (hs.has hH) hv4 (by decide) (by omega) (hH.at' (x := rB b24 v4) mm_) (hH.ne_old (x := rB b24 v4) mm_ hs.lt)) rfl rfl ?_
        rintro _ _ ⟨rfl, v5, hv5, rfl⟩
        refine s_y (Y_conv rfl Tryz.underlying96 Tryz.underlying3 (i64_id (by omega))) rfl rfl ?_
        refine s_y (Y_fa 7 rfl Tryz.underlying34 rfl sz32 rfl) rfl rfl ?_
        refine s_y (Y_iaA rfl rfl Tryz.underlying32 sz3 rfl (by omega)) rfl rfl ?_
        refine s_s (S_st (cs' := wcD (decM bs).seed (decM bs).frame (decM bs).floor (decM bs).state (.slice none 0 0) (.slice none 0 0) (.slice none 0 0) (goldD bs (i + 1))) rfl gt_ sz3 (by rfl) up_ (wcD_gold (by omega)) (by simp only [List.length_cons, List.length_nil]; omega)) rfl ?_
        refine s_nil ?_
        refine q_bn ?_
        refine q_then ?_
        refine c_reg ?_
        refine s_y ad_ rfl rfl ?_
        refine s_y (Y_mv) rfl rfl ?_
        refine s_nil ?_
        refine hK (m - 1) (i + 1, v5) _ _ (by omega) ⟨by simp only; omega, hv5⟩ ⟨rfl, trivial⟩ rfl (fun _ h => h.pick ss_)
      · skip
        try simp only [nrm_] at hc9
        refine c_exit ?_
        repeat with_reducible refine q_te ?_
        refine q_exit ?_
        refine q_then ?_
        refine c_seq ?_
        obtain rfl : i = 4 := by omega
        obtain ⟨a4, rfl, ha4⟩ := hv4
        obtain rfl := ha4 (by omega)
        refine c_reg ?_
        refine s_y (Y_mv) rfl rfl ?_
        refine s_y ((by first | exact Y_nil rfl | exact Y_nilF rfl | exact Y_nilM rfl (by assumption) | exact Y_nilM rfl (by intro w k; kernel_rfl))) rfl rfl ?_
        refine s_y (Y_fa 0 rfl Tryz.underlying101 rfl sz24 rfl) rfl rfl ?_
        refine s_y (yl_ one24) rfl rfl ?_
        refine s_y (Y_slHi (h := 384) rfl rfl Tryz.underlying24 sz5 rfl (by omega)) rfl rfl ?_
        refine s_c (En_call (fun _ => rfl) Tryz.func59 rfl (by kernel_rfl) rfl) (fun w hH => pclone_d (b := bb) (o := o + 22) (c := c - 22) ((hs.sub (k := 22) (m := 384) (by omega)).has hH) (by omega)) rfl rfl ?_
        rintro _ _ ⟨cg, ccap, hcc, rfl, rfl⟩
        refine s_y (Y_fa 4 rfl Tryz.underlying34 rfl sz24 rfl) rfl rfl ?_
        refine s_s (S_st rfl gt_ sz24 (by rfl) up_ (by first | (simp only [Nat.zero_add, Nat.reduceAdd, List.set_cons_succ, List.set_cons_zero]; rfl) | rfl) (by first | (simp; done) | omega)) rfl ?_
        refine s_nil ?_
        refine QL.pick (L' := [wB b5 (wcD (decM bs).seed (decM bs).frame (decM bs).floor (decM bs).state (.slice (some ⟨cg, 0, none⟩) 384 ccap) (.slice none 0 0) (.slice none 0 0) (goldD bs 4)), rB b24 (.slice (some ⟨bb, o + 22, none⟩) (918 - 22) (c - 22)), cB cg ccap (decM bs).cells, wB b2 wz]) ss_ ?_
        refine q_then ?_
        refine c_seq ?_
        refine c_reg ?_
        refine s_y (Y_mv) rfl rfl ?_
        refine s_y (Y_mv) rfl rfl ?_
        refine s_y ((by first | exact Y_nil rfl | exact Y_nilF rfl | exact Y_nilM rfl (by assumption) | exact Y_nilM rfl (by intro w k; kernel_rfl))) rfl rfl ?_
        refine s_y (Y_fa 0 rfl Tryz.underlying101 rfl sz24 rfl) rfl rfl ?_
        refine s_y (yl_ one24) rfl rfl ?_
        refine s_y (Y_slLo (l := 384) rfl rfl Tryz.underlying24 sz5 rfl (by omega)) rfl rfl ?_
        refine s_y ((by first | exact Y_nil rfl | exact Y_nilF rfl | exact Y_nilM rfl (by assumption) | exact Y_nilM rfl (by intro w k; kernel_rfl))) rfl rfl ?_
        refine s_y (Y_fa 0 rfl Tryz.underlying101 rfl sz24 rfl) rfl rfl ?_
        refine s_s (S_st rfl gt_ sz24 (by rfl) up_ (by first | (simp only [Nat.zero_add, Nat.reduceAdd, List.set_cons_succ, List.set_cons_zero]; rfl) | rfl) (by first | (simp; done) | omega)) rfl ?_
        refine s_nil ?_
        have hv6 : RdV bb o 918 c 406 (.slice (slAt (some ⟨bb, o + 22, none⟩) (c - 22) 384 1) (918 - 22 - 384) (c - 22 - 384)) := RdV.next (k := 22) (m := 384) (by omega) (by omega)
        obtain ⟨v6, hv6e⟩ : ∃ q_, Value.slice (slAt (some ⟨bb, o + 22, none⟩) (c - 22) 384 1) (918 - 22 - 384) (c - 22 - 384) = q_ := ⟨_, rfl⟩
        rw [hv6e] at hv6 ⊢
        refine q_then ?_
        refine c_seq ?_
        refine c_reg ?_
        refine s_n (N_makeU (n := 32) (u0 := .int .i64 0) rfl rfl Tryz.underlying30 inf93 rfl (by omega) rfl (by omega) (by omega)) rfl rfl (fun b62 _ => ?_)
        refine s_y (Y_fa 5 rfl Tryz.underlying34 rfl sz30 rfl) rfl rfl ?_
        refine s_s (S_st rfl gt_ sz30 (by rfl) up_ (by first | (simp only [Nat.zero_add, Nat.reduceAdd, List.set_cons_succ, List.set_cons_zero]; rfl) | rfl) (by first | (simp; done) | omega)) rfl ?_
        refine s_nil ?_
        refine QL.pick (L' := [wB b5 (wcD (decM bs).seed (decM bs).frame (decM bs).floor (decM bs).state (.slice (some ⟨cg, 0, none⟩) 384 ccap) (.slice (some ⟨b62, 0, none⟩) 32 32) (.slice none 0 0) (goldD bs 4)), ⟨b62, 93, 11, 32, List.replicate (32 * 11) (iv 0)⟩, rB b24 v6, cB cg ccap (decM bs).cells, wB b2 wz]) ss_ ?_
        rw [← ezero b62 32, show List.replicate 32 Ent.zero = entF bs 0 by simp [entF]]
        refine q_then ?_
        refine c_seq ?_
        refine c_seq ?_
        refine c_reg ?_
        refine s_y (Y_fa 5 rfl Tryz.underlying34 rfl sz30 rfl) rfl rfl ?_
        refine s_y (yl_ one30) rfl rfl ?_
        refine s_y (Y_len rfl rfl Tryz.underlying30) rfl rfl ?_
        refine s_y (Y_mvC) rfl rfl ?_
        refine s_nil ?_
        refine q_then ?_
        refine c_block ?_
        refine c_loop [7, 8, 67, 68, 69, 70, 71, 72, 73, 74, 75, 76, 77, 78, 79, 80, 81, 82, 83, 84, 85, 86, 87, 88, 89, 90, 91, 92, 93, 94, 95, 96, 97, 98, 99, 100, 101, 102, 103, 104, 105, 106, 107, 108, 109, 110] (fun m (y : Nat × Value) => y.1 + m = 32 ∧ RdV bb o 918 c (406 + y.1 * 11) y.2) (fun y => [(67, iv y.1)]) (fun y => [wB b5 (wcD (decM bs).seed (decM bs).frame (decM bs).floor (decM bs).state (.slice (some ⟨cg, 0, none⟩) 384 ccap) (.slice (some ⟨b62, 0, none⟩) 32 32) (.slice none 0 0) (goldD bs 4)), eB b62 32 (entF bs y.1), rB b24 y.2, cB cg ccap (decM bs).cells, wB b2 wz]) (32) ((0, v6)) (⟨rfl, hv6⟩) (by repeat (first | exact trivial | refine ⟨rfl, ?_⟩)) (fun _ h => h.sub sl_) (fun _ => rfl) ?_
        rintro m ⟨i, v7⟩ j ⟨hi, hv7⟩ K hK
        simp only at hi hv7 ⊢
        refine c_seq ?_
        refine c_reg ?_
        refine s_y (Y_lss rfl rfl) rfl rfl ?_
        refine s_nil ?_
        refine q_then ?_
        refine c_seq ?_
        first | refine c_cond' rfl (fun hc17 => ?_) (fun hc17 => ?_) | refine c_cond rfl (fun hc17 => ?_) (fun hc17 => ?_)
        · skip
          try simp only [nrm_] at hc17
          refine c_skip ?_
          refine q_then ?_
          refine c_seq ?_
          refine c_block ?_
          refine c_seq ?_
          refine c_reg ?_
          refine s_y (Y_mv) rfl rfl ?_
          refine s_y (Y_as) rfl rfl ?_
          refine s_nil ?_
          refine q_then ?_
          refine c_seq ?_
          refine c_reg ?_
          refine s_y (Y_fa 5 rfl Tryz.underlying34 rfl sz30 rfl) rfl rfl ?_
          refine s_y (yl_ one30) rfl rfl ?_
          refine s_y (Y_mv) rfl rfl ?_
          refine s_y (Y_ia rfl rfl Tryz.underlying30 sz93 rfl (by omega)) rfl rfl ?_
          refine s_y (Y_as) rfl rfl ?_
          refine s_nil ?_
          refine q_then ?_
          have hfl : (entF bs i).length = 32 := fill_len (by omega)
          refine c_rordS (L0 := []) sl_ [35] [(0, true), (1, true), (2, true), (3, true), (4, true), (5, true), (6, true), (7, true), (8, true), (9, true), (10, true), (11, true), (12, true), (13, true), (14, true), (15, true), (16, true), (17, true), (18, true), (19, true), (20, true), (21, true), (22, true), (23, true), (24, true), (25, true), (26, true), (27, true), (28, true), (29, true), (30, true), (31, true), (32, true), (33, true), (34, false), (35, false)] (by kernel_rfl) (by kernel_rfl) (by kernel_rfl) (by kernel_rfl) rfl (by intro c a d v w h; cases d <;> exact h) rfl ?_
          simp only [mkOrd, List.filterMap_cons, List.filterMap_nil, List.getElem?_toArray, List.getElem?_cons_zero, List.getElem?_cons_succ, Option.map_some]
          refine o_y (Y_mv) rfl rfl ?_
          refine o_y (Y_mv) rfl rfl ?_
          refine o_y ((by first | exact Y_nil rfl | exact Y_nilF rfl | exact Y_nilM rfl (by assumption) | exact Y_nilM rfl (by intro w k; kernel_rfl))) rfl rfl ?_
          refine o_y (Y_fa 0 rfl Tryz.underlying93 rfl sz3 rfl) rfl rfl ?_
          refine o_y (Y_mv) rfl rfl ?_
          refine o_y ((by first | exact Y_nil rfl | exact Y_nilF rfl | exact Y_nilM rfl (by assumption) | exact Y_nilM rfl (by intro w k; kernel_rfl))) rfl rfl ?_
          refine o_y (Y_fa 1 rfl Tryz.underlying93 rfl sz3 rfl) rfl rfl ?_
          refine o_y (Y_mv) rfl rfl ?_
          refine o_y ((by first | exact Y_nil rfl | exact Y_nilF rfl | exact Y_nilM rfl (by assumption) | exact Y_nilM rfl (by intro w k; kernel_rfl))) rfl rfl ?_
          refine o_y (Y_fa 2 rfl Tryz.underlying93 rfl sz3 rfl) rfl rfl ?_
          refine o_y (Y_mv) rfl rfl ?_
          refine o_y ((by first | exact Y_nil rfl | exact Y_nilF rfl | exact Y_nilM rfl (by assumption) | exact Y_nilM rfl (by intro w k; kernel_rfl))) rfl rfl ?_
          refine o_y (Y_fa 3 rfl Tryz.underlying93 rfl sz3 rfl) rfl rfl ?_
          refine o_y (Y_mv) rfl rfl ?_
          refine o_y ((by first | exact Y_nil rfl | exact Y_nilF rfl | exact Y_nilM rfl (by assumption) | exact Y_nilM rfl (by intro w k; kernel_rfl))) rfl rfl ?_
          refine o_y (Y_fa 4 rfl Tryz.underlying93 rfl sz3 rfl) rfl rfl ?_
          refine o_y (Y_mv) rfl rfl ?_
          refine o_y ((by first | exact Y_nil rfl | exact Y_nilF rfl | exact Y_nilM rfl (by assumption) | exact Y_nilM rfl (by intro w k; kernel_rfl))) rfl rfl ?_
          refine o_y (Y_fa 5 rfl Tryz.underlying93 rfl sz3 rfl) rfl rfl ?_
          refine o_y (Y_mv) rfl rfl ?_
          refine o_y ((by first | exact Y_nil rfl | exact Y_nilF rfl | exact Y_nilM rfl (by assumption) | exact Y_nilM rfl (by intro w k; kernel_rfl))) rfl rfl ?_
          refine o_y (Y_fa 6 rfl Tryz.underlying93 rfl sz3 rfl) rfl rfl ?_
          refine o_y (Y_mv) rfl rfl ?_
          refine o_y ((by first | exact Y_nil rfl | exact Y_nilF rfl | exact Y_nilM rfl (by assumption) | exact Y_nilM rfl (by intro w k; kernel_rfl))) rfl rfl ?_
          refine o_y (Y_fa 7 rfl Tryz.underlying93 rfl sz3 rfl) rfl rfl ?_
          refine o_y (Y_mv) rfl rfl ?_
          refine o_y ((by first | exact Y_nil rfl | exact Y_nilF rfl | exact Y_nilM rfl (by assumption) | exact Y_nilM rfl (by intro w k; kernel_rfl))) rfl rfl ?_
          refine o_y (Y_fa 8 rfl Tryz.underlying93 rfl sz3 rfl) rfl rfl ?_
          refine o_y (Y_mv) rfl rfl ?_
          refine o_y ((by first | exact Y_nil rfl | exact Y_nilF rfl | exact Y_nilM rfl (by assumption) | exact Y_nilM rfl (by intro w k; kernel_rfl))) rfl rfl ?_
          refine o_y (Y_fa 9 rfl Tryz.underlying93 rfl sz3 rfl) rfl rfl ?_
          refine o_y (Y_mv) rfl rfl ?_
          refine o_y ((by first | exact Y_nil rfl | exact Y_nilF rfl | exact Y_nilM rfl (by assumption) | exact Y_nilM rfl (by intro w k; kernel_rfl))) rfl rfl ?_
          refine o_y (Y_fa 10 rfl Tryz.underlying93 rfl sz3 rfl) rfl rfl ?_
          refine o_n (N_bs (xs := [.tmp 77, .tmp 80, .tmp 83, .tmp 86, .tmp 89, .tmp 92, .tmp 95, .tmp 98, .tmp 101, .tmp 104, .tmp 107]) (by repeat (first | exact Gv.nil | apply Gv.const | apply Gv.tmp gt_)) rfl Tryz.underlying156 inf104 rfl (by omega) (by omega) (by first | simp [Value.oneCell'] | (intro v hv; simp at hv; subst hv; rfl))) (fun _ => kp_) rfl rfl (fun b108 _ => ?_)
          refine o_cm [rB b24 v7, eB b62 32 (entF bs i)] (En_call (fun _ => rfl) Tryz.func58 rfl (by kernel_rfl) rfl) ss_ (fun w hH => prsmall_d (k := 406 + i * 11) (m := 11) (j0 := 0 + i * 11) (y := eB b62 32 (entF bs i)) (hs.has hH) hv7 (by decide) (by omega) (hH.at' (x := rB b24 v7) mm_) (hH.at' mm_) (hH.ne_old (x := rB b24 v7) mm_ hs.lt) (hH.nodup2 (x := rB b24 v7) (y := eB b62 32 (entF bs i)) ss_) (hH.ne_old (x := eB b62 32 (entF bs i)) mm_ hs.lt) (hH.at' (x := pB b108 b62 (0 + i * 11) 11) mm_).ro ⟨hH.nodup2 (x := pB b108 b62 (0 + i * 11) 11) (y := rB b24 v7) ss_, hH.nodup2 (x := pB b108 b62 (0 + i * 11) 11) (y := eB b62 32 (entF bs i)) ss_⟩ (by rw [ecells_len, hfl]; omega)) (fun _ _ h => by obtain ⟨rfl, v8, hv8, rfl⟩ := h; exact kp_) rfl rfl ?_
          rintro _ _ ⟨rfl, v8, hv8, rfl⟩
          refine o_nil ?_
          refine q_bn ?_
          refine q_then ?_
          refine c_reg ?_
          refine s_y ad_ rfl rfl ?_
          refine s_y (Y_mv) rfl rfl ?_
          refine s_nil ?_
          rw [entF_put (by omega)]
          refine hK (m - 1) (i + 1, v8) _ _ (by omega) ⟨by simp only; omega, by simp only; rw [show 406 + (i + 1) * 11 = 406 + i * 11 + 11 by omega]; exact hv8⟩ ⟨rfl, trivial⟩ rfl (fun _ h => h.pick ss_)
        · skip
          try simp only [nrm_] at hc17
          refine c_exit ?_
          repeat with_reducible refine q_te ?_
          refine q_exit ?_
          refine q_then ?_
          refine c_seq ?_
          obtain rfl : i = 32 := by omega
          refine c_reg ?_
          refine s_n (N_makeU (n := 40) (u0 := .int .i64 0) rfl rfl Tryz.underlying31 inf98 rfl (by omega) rfl (by omega) (by omega)) rfl rfl (fun b111 _ => ?_)
          refine s_y (Y_fa 6 rfl Tryz.underlying34 rfl sz31 rfl) rfl rfl ?_
          refine s_s (S_st rfl gt_ sz31 (by rfl) up_ (by first | (simp only [Nat.zero_add, Nat.reduceAdd, List.set_cons_succ, List.set_cons_zero]; rfl) | rfl) (by first | (simp; done) | omega)) rfl ?_
          refine s_nil ?_
          refine QL.pick (L' := [wB b5 (wcD (decM bs).seed (decM bs).frame (decM bs).floor (decM bs).state (.slice (some ⟨cg, 0, none⟩) 384 ccap) (.slice (some ⟨b62, 0, none⟩) 32 32) (.slice (some ⟨b111, 0, none⟩) 40 40) (goldD bs 4)), eB b62 32 (entF bs 32), ⟨b111, 98, 4, 40, List.replicate (40 * 4) (iv 0)⟩, rB b24 v7, cB cg ccap (decM bs).cells, wB b2 wz]) ss_ ?_
          rw [← izero b111 40, show List.replicate 40 Itm.zero = itmF bs 0 by simp [itmF]]
          refine q_then ?_
          refine c_seq ?_
          refine c_seq ?_
          refine c_reg ?_
          refine s_y (Y_fa 6 rfl Tryz.underlying34 rfl sz31 rfl) rfl rfl ?_
          refine s_y (yl_ one31) rfl rfl ?_
          refine s_y (Y_len rfl rfl Tryz.underlying31) rfl rfl ?_
          refine s_y (Y_mvC) rfl rfl ?_
          refine s_nil ?_
          refine q_then ?_
          refine c_block ?_
          refine c_loop [9, 10, 116, 117, 118, 119, 120, 121, 122, 123, 124, 125, 126, 127, 128, 129, 130, 131, 132, 133, 134, 135, 136, 137, 138] (fun m (y : Nat × Value) => y.1 + m = 40 ∧ RdV bb o 918 c (758 + y.1 * 4) y.2) (fun y => [(116, iv y.1)]) (fun y => [wB b5 (wcD (decM bs).seed (decM bs).frame (decM bs).floor (decM bs).state (.slice (some ⟨cg, 0, none⟩) 384 ccap) (.slice (some ⟨b62, 0, none⟩) 32 32) (.slice (some ⟨b111, 0, none⟩) 40 40) (goldD bs 4)), eB b62 32 (entF bs 32), iB b111 40 (itmF bs y.1), rB b24 y.2, cB cg ccap (decM bs).cells, wB b2 wz]) (40) ((0, v7)) (⟨rfl, hv7⟩) (by repeat (first | exact trivial | refine ⟨rfl, ?_⟩)) (fun _ h => h.sub sl_) (fun _ => rfl) ?_
          rintro m2 ⟨i2, v9⟩ j2 ⟨hi2, hv9⟩ K hK
          simp only at hi2 hv9 ⊢
          refine c_seq ?_
          refine c_reg ?_
          refine s_y (Y_lss rfl rfl) rfl rfl ?_
          refine s_nil ?_
          refine q_then ?_
          refine c_seq ?_
          first | refine c_cond' rfl (fun hc24 => ?_) (fun hc24 => ?_) | refine c_cond rfl (fun hc24 => ?_) (fun hc24 => ?_)
          · skip
            try simp only [nrm_] at hc24
            refine c_skip ?_
            refine q_then ?_
            refine c_seq ?_
            refine c_block ?_
            refine c_seq ?_
            refine c_reg ?_
            refine s_y (Y_mv) rfl rfl ?_
            refine s_y (Y_as) rfl rfl ?_
            refine s_nil ?_
            refine q_then ?_
            refine c_seq ?_
            refine c_reg ?_
            refine s_y (Y_fa 6 rfl Tryz.underlying34 rfl sz31 rfl) rfl rfl ?_
            refine s_y (yl_ one31) rfl rfl ?_
            refine s_y (Y_mv) rfl rfl ?_
            refine s_y (Y_ia rfl rfl Tryz.underlying31 sz98 rfl (by omega)) rfl rfl ?_
            refine s_y (Y_as) rfl rfl ?_
            refine s_nil ?_
            refine q_then ?_
            have hfl : (itmF bs i2).length = 40 := fill_len (by omega)
            refine c_rordS (L0 := []) sl_ [14] [(0, true), (1, true), (2, true), (3, true), (4, true), (5, true), (6, true), (7, true), (8, true), (9, true), (10, true), (11, true), (12, true), (13, false), (14, false)] (by kernel_rfl) (by kernel_rfl) (by kernel_rfl) (by kernel_rfl) rfl (by intro c a d v w h; cases d <;> exact h) rfl ?_
            simp only [mkOrd, List.filterMap_cons, List.filterMap_nil, List.getElem?_toArray, List.getElem?_cons_zero, List.getElem?_cons_succ, Option.map_some]
            refine o_y (Y_mv) rfl rfl ?_
            refine o_y (Y_mv) rfl rfl ?_
            refine o_y ((by first | exact Y_nil rfl | exact Y_nilF rfl | exact Y_nilM rfl (by assumption) | exact Y_nilM rfl (by intro w k; kernel_rfl))) rfl rfl ?_
            refine o_y (Y_fa 0 rfl Tryz.underlying98 rfl sz3 rfl) rfl rfl ?_
            refine o_y (Y_mv) rfl rfl ?_
            refine o_y ((by first | exact Y_nil rfl | exact Y_nilF rfl | exact Y_nilM rfl (by assumption) | exact Y_nilM rfl (by intro w k; kernel_rfl))) rfl rfl ?_
            refine o_y (Y_fa 1 rfl Tryz.underlying98 rfl sz3 rfl) rfl rfl ?_
            refine o_y (Y_mv) rfl rfl ?_
            refine o_y ((by first | exact Y_nil rfl | exact Y_nilF rfl | exact Y_nilM rfl (by assumption) | exact Y_nilM rfl (by intro w k; kernel_rfl))) rfl rfl ?_
            refine o_y (Y_fa 2 rfl Tryz.underlying98 rfl sz3 rfl) rfl rfl ?_
            refine o_y (Y_mv) rfl rfl ?_
            refine o_y ((by first | exact Y_nil rfl | exact Y_nilF rfl | exact Y_nilM rfl (by assumption) | exact Y_nilM rfl (by intro w k; kernel_rfl))) rfl rfl ?_
            refine o_y (Y_fa 3 rfl Tryz.underlying98 rfl sz3 rfl) rfl rfl ?_
            refine o_n (N_bs (xs := [.tmp 126, .tmp 129, .tmp 132, .tmp 135]) (by repeat (first | exact Gv.nil | apply Gv.const | apply Gv.tmp gt_)) rfl Tryz.underlying156 inf104 rfl (by omega) (by omega) (by first | simp [Value.oneCell'] | (intro v hv; simp at hv; subst hv; rfl))) (fun _ => kp_) rfl rfl (fun b136 _ => ?_)
            refine o_cm [rB b24 v9, iB b111 40 (itmF bs i2)] (En_call (fun _ => rfl) Tryz.func58 rfl (by kernel_rfl) rfl) ss_ (fun w hH => prsmall_d (k := 758 + i2 * 4) (m := 4) (j0 := 0 + i2 * 4) (y := iB b111 40 (itmF bs i2)) (hs.has hH) hv9 (by decide) (by omega) (hH.at' (x := rB b24 v9) mm_) (hH.at' mm_) (hH.ne_old (x := rB b24 v9) mm_ hs.lt) (hH.nodup2 (x := rB b24 v9) (y := iB b111 40 (itmF bs i2)) ss_) (hH.ne_old (x := iB b111 40 (itmF bs i2)) mm_ hs.lt) (hH.at' (x := pB b136 b111 (0 + i2 * 4) 4) mm_).ro ⟨hH.nodup2 (x := pB b136 b111 (0 + i2 * 4) 4) (y := rB b24 v9) ss_, hH.nodup2 (x := pB b136 b111 (0 + i2 * 4) 4) (y := iB b111 40 (itmF bs i2)) ss_⟩ (by rw [icells_len, hfl]; omega)) (fun _ _ h => by obtain ⟨rfl, v8, hv8, rfl⟩ := h; exact kp_) rfl rfl ?_
            rintro _ _ ⟨rfl, v8, hv8, rfl⟩
            refine o_nil ?_
            refine q_bn ?_
            refine q_then ?_
            refine c_reg ?_
            refine s_y ad_ rfl rfl ?_
            refine s_y (Y_mv) rfl rfl ?_
            refine s_nil ?_
            rw [itmF_put (by omega)]
            refine hK (m2 - 1) (i2 + 1, v8) _ _ (by omega) ⟨by simp only; omega, by simp only; rw [show 758 + (i2 + 1) * 4 = 758 + i2 * 4 + 4 by omega]; exact hv8⟩ ⟨rfl, trivial⟩ rfl (fun _ h => h.pick ss_)
          · skip
            try simp only [nrm_] at hc24
            refine c_exit ?_
            repeat with_reducible refine q_te ?_
            refine q_exit ?_
            refine q_then ?_
            refine c_seq ?_
            refine c_seq ?_
            obtain rfl : i2 = 40 := by omega
            have e1 : entF bs 32 = (decM bs).ents := by show _ ++ List.replicate 0 _ = _; rw [List.replicate_zero, List.append_nil]; rfl
            have e2 : itmF bs 40 = (decM bs).items := by show _ ++ List.replicate 0 _ = _; rw [List.replicate_zero, List.append_nil]; rfl
            have l1 : (decM bs).cells.length = 384 := by show ((bs.drop 22).take 384).length = 384; rw [List.length_take, List.length_drop]; omega
            have l2 : (decM bs).ents.length = 32 := by rw [← e1]; exact fill_len (by omega)
            have l3 : (decM bs).items.length = 40 := by rw [← e2]; exact fill_len (by omega)
            rw [e1, e2]
            have hwv : Value.agg (wcD (decM bs).seed (decM bs).frame (decM bs).floor (decM bs).state (.slice (some ⟨cg, 0, none⟩) 384 ccap) (.slice (some ⟨b62, 0, none⟩) 32 32) (.slice (some ⟨b111, 0, none⟩) 40 40) (goldD bs 4)).toArray = .agg (wv (decM bs) ⟨cg, 0, ccap, b62, 0, 32, b111, 0, 40⟩).toArray := wv_eq l1 l2 l3 rfl
            refine c_reg ?_
            refine s_y (Y_loadN (vs := wv (decM bs) ⟨cg, 0, ccap, b62, 0, 32, b111, 0, 40⟩) rfl many34 mm_ (by rfl) (by intro i v h; rw [Nat.zero_add]; unfold wv at h; rw [l1, l2, l3] at h; exact h)) rfl rfl ?_
            refine s_c (En_call (fun _ => rfl) Tryz.func60 rfl (by kernel_rfl) rfl) (fun w hH => pcheck_d (d := decM bs) (s := ⟨cg, 0, ccap, b62, 0, 32, b111, 0, 40⟩) (wAt_of hH mm_ mm_ mm_ (by omega) (by omega) (by omega)) (dec_ok bs)) rfl rfl ?_
            rintro _ _ ⟨rfl, rfl⟩
            refine s_y (Y_as) rfl rfl ?_
            refine s_nil ?_
            refine q_then ?_
            refine c_seq ?_
            refine c_reg ?_
            refine s_y (Y_mv) rfl rfl ?_
            refine s_y (Y_neq rfl rfl) rfl rfl ?_
            refine s_nil ?_
            refine q_then ?_
            first | refine c_cond' rfl (fun hc30 => ?_) (fun hc30 => ?_) | refine c_cond rfl (fun hc30 => ?_) (fun hc30 => ?_)
            · skip
              try simp only [nrm_] at hc30
              refine c_seq ?_
              refine c_reg ?_
              refine s_y (Y_build (cs := [.int .i64 0, .int .i64 0, .int .i64 0, .int .i64 0, .slice none 0 0, .slice none 0 0, .slice none 0 0, .int .i64 0, .int .i64 0, .int .i64 0, .int .i64 0]) (by repeat (first | exact Gp.nil | apply Gp.const | apply Gp.tmp gt_)) (bld34 _ _ (by kernel_rfl))) rfl rfl ?_
              refine s_y (Y_mv) rfl rfl ?_
              refine s_s (S_storeA (vs := wz) rfl rfl sz34 (by rfl) (by rfl) up_ (by rfl)) rfl ?_
              refine s_y (Y_as) rfl rfl ?_
              refine s_nil ?_
              refine q_then ?_
              refine c_ret ?_
              refine q_ret2c rfl rfl many34 rfl mm_ (by rfl) (L' := []) sl_ (.inl ⟨_, hc30, rfl, rfl, by rw [if_neg (by omega), if_neg (by omega)]⟩)
            · skip
              try simp only [nrm_] at hc30
              refine c_skip ?_
              refine q_then ?_
              refine c_seq ?_
              refine c_reg ?_
              refine s_y (ya_ many34) rfl rfl ?_
              refine s_s (S_storeA (vs := (wcD (decM bs).seed (decM bs).frame (decM bs).floor (decM bs).state (.slice (some ⟨cg, 0, none⟩) 384 ccap) (.slice (some ⟨b62, 0, none⟩) 32 32) (.slice (some ⟨b111, 0, none⟩) 40 40) (goldD bs 4))) rfl rfl sz34 (by rfl) (by rfl) up_ (by rfl)) rfl ?_
              refine s_y (Y_asC) rfl rfl ?_
              refine s_nil ?_
              refine q_then ?_
              refine c_ret ?_
              refine QL.pick (L' := [wB b2 (wcD (decM bs).seed (decM bs).frame (decM bs).floor (decM bs).state (.slice (some ⟨cg, 0, none⟩) 384 ccap) (.slice (some ⟨b62, 0, none⟩) 32 32) (.slice (some ⟨b111, 0, none⟩) 40 40) (goldD bs 4)), cB cg ccap (decM bs).cells, eB b62 32 (decM bs).ents, iB b111 40 (decM bs).items]) ss_ ?_
              refine q_ret2c rfl rfl many34 rfl mm_ (by rfl) (L' := [cB cg ccap (decM bs).cells, eB b62 32 (decM bs).ents, iB b111 40 (decM bs).items]) sl_ (.inr ⟨hl, by simpa using hc30, cg, ccap, b62, 32, b111, 40, by rw [hwv]; rfl, rfl, by omega, by omega, by omega⟩)
end
end Go.Proofs.YtcogbkkdccohfaaGreat
namespace Go.Ad
def Ent.nums (e : Ent) : List Int := [e.kind, e.gen, e.seat, e.x, e.y, e.hp, e.max, e.atk, e.df, e.poison, e.stun]
theorem Ent.nums_inj {e f : Ent} (h : e.nums = f.nums) : e = f := by
  cases e; cases f
  simp only [Ent.nums, List.cons.injEq, and_true] at h
  obtain ⟨rfl, rfl, rfl, rfl, rfl, rfl, rfl, rfl, rfl, rfl, rfl⟩ := h
  rfl
def Itm.nums (x : Itm) : List Int := [x.kind, x.whr, x.a, x.b]
theorem Itm.nums_inj {e f : Itm} (h : e.nums = f.nums) : e = f := by
  cases e; cases f
  simp only [Itm.nums, List.cons.injEq, and_true] at h
  obtain ⟨rfl, rfl, rfl, rfl⟩ := h
  rfl
def Four.nums (g : Four) : List Int := [g.a, g.b, g.c, g.d]
theorem Four.nums_inj {e f : Four} (h : e.nums = f.nums) : e = f := by
  cases e; cases f
  simp only [Four.nums, List.cons.injEq, and_true] at h
  obtain ⟨rfl, rfl, rfl, rfl⟩ := h
  rfl
theorem bytes_injL {xs ys : List UInt8} (h : (⟨xs.toArray⟩ : ByteArray).toList = (⟨ys.toArray⟩ : ByteArray).toList) : xs = ys := by
  rw [Lib.toList_data, Lib.toList_data] at h
  simpa using h
theorem take_next {α : Type} {l m : List α} {i : Nat} {a b : α} (h : l[i]? = some a) (k : m[i]? = some b) (hab : a = b) (ht : l.take i = m.take i) : l.take (i + 1) = m.take (i + 1) := by
  obtain ⟨hi, rfl⟩ := List.getElem?_eq_some_iff.1 h
  obtain ⟨hj, rfl⟩ := List.getElem?_eq_some_iff.1 k
  rw [← List.take_append_getElem hi, ← List.take_append_getElem hj, ht, hab]
structure WAtV (W : World) (d : Wd) (cv ev iv' : Value) : Prop where
  c : SlV W 1 cv d.cells.length (d.cells.map bv)
  e : SlV W 11 ev d.ents.length (ecells d.ents)
  i : SlV W 4 iv' d.items.length (icells d.items)
theorem WAt.v {W : World} {d : Wd} {s : Ws} (h : WAt W d s) : WAtV W d (.slice (some ⟨s.cb, s.co, none⟩) d.cells.length s.cc) (.slice (some ⟨s.eb, s.eo, none⟩) d.ents.length s.ec) (.slice (some ⟨s.ib, s.io, none⟩) d.items.length s.ic) := ⟨.some h.c, .some h.e, .some h.i⟩
theorem SlV.bytes {W : World} {v : Value} {n : Nat} {xs : List UInt8} (h : SlV W 1 v n (xs.map bv)) : ∃ a c, v = .slice a n c ∧ BytesAt W a n xs := by
  have hl := h.len
  rw [List.length_map, Nat.mul_one] at hl
  generalize hcs : xs.map bv = cs at h
  cases h with
  | nil =>
    cases xs with
    | nil => exact ⟨_, _, rfl, ⟨rfl, .inl rfl⟩⟩
    | cons a r => simp at hl
  | zero =>
    cases xs with
    | nil => exact ⟨_, _, rfl, ⟨rfl, .inl rfl⟩⟩
    | cons a r => simp at hl
  | @some b o n c cs h => subst hcs; exact ⟨_, _, rfl, ⟨hl, .inr ⟨b, o, rfl, h.lt, h.ro⟩⟩⟩
end Go.Ad
namespace Go.Proofs.YtcogbkkdccohfaaGreat
open Go.RowKit Go.Ad Go.Maps
set_option linter.unusedVariables false
set_option linter.unusedSimpArgs false
abbrev wcV (d : Wd) (x y z : Value) : List Value := wcD d.seed d.frame d.floor d.state x y z d.gold
theorem gold_subV {d : Wd} {x y z : Value} : ∀ i v, ([iv d.gold.a, iv d.gold.b, iv d.gold.c, iv d.gold.d] : List Value)[i]? = some v → (wcV d x y z)[0 + 7 + i]? = some v
  | 0, v, h => h
  | 1, v, h => h
  | 2, v, h => h
  | 3, v, h => h
  | n + 4, v, h => by simp at h
section
variable {W : World}
set_option maxRecDepth 100000 in
set_option maxHeartbeats 1600000 in
theorem lsame_d {d1 d2 : Wd} {c1 e1 i1 c2 e2 i2 : Value} (h1 : WAtV W d1 c1 e1 i1) (h2 : WAtV W d2 c2 e2 i2) : Does Tryz.prog 21 [.agg (wcV d1 c1 e1 i1).toArray, .agg (wcV d2 c2 e2 i2).toArray] W [] (fun v L => (∃ q : Bool, v = .bool q ∧ (q = true ↔ d1 = d2)) ∧ L = []) := by
  obtain ⟨a1, k1, rfl, hb1⟩ := h1.c.bytes
  obtain ⟨a2, k2, rfl, hb2⟩ := h2.c.bytes
  have hle1 := h1.e.le
  have hle2 := h2.e.le
  have hli1 := h1.i.le
  have hli2 := h2.i.le
  simp only [maxLen] at hle1 hle2 hli1 hli2
  refine enter Tryz.func21 rfl rfl rfl (Has.start _) ?_
  refine c_seq ?_
  refine c_reg ?_
  refine s_n (N_box (cs := wcV d1 (.slice a1 d1.cells.length k1) e1 i1) rfl) rfl rfl (fun b2 _ => ?_)
  refine s_n (N_box (cs := wcV d2 (.slice a2 d2.cells.length k2) e2 i2) rfl) rfl rfl (fun b3 _ => ?_)
  refine s_y (Y_asC) rfl rfl ?_
  refine s_nil ?_
  refine q_then ?_
  refine c_seq ?_
  refine c_seq ?_
  refine c_reg ?_
  refine s_y (Y_fa 0 rfl Tryz.underlying34 rfl sz2 rfl) rfl rfl ?_
  refine s_y (yl_ one2) rfl rfl ?_
  refine s_y (Y_fa 0 rfl Tryz.underlying34 rfl sz2 rfl) rfl rfl ?_
  refine s_y (yl_ one2) rfl rfl ?_
  refine s_y (Y_neq rfl rfl) rfl rfl ?_
  refine s_y (Y_mv) rfl rfl ?_
  apply s_or 6 [12, 13, 14, 15, 16, 17, 18] 18 (g := 12) rfl rfl
  · intro ht6 hm
    try simp only [nrm_] at ht6
    first | refine s_y (Y_fa 1 rfl Tryz.underlying34 rfl sz3 rfl) rfl rfl ?_ | refine s_pass rfl rfl ?_
    first | refine s_y (yl_ one3) rfl rfl ?_ | refine s_pass rfl rfl ?_
    first | refine s_y (Y_fa 1 rfl Tryz.underlying34 rfl sz3 rfl) rfl rfl ?_ | refine s_pass rfl rfl ?_
    first | refine s_y (yl_ one3) rfl rfl ?_ | refine s_pass rfl rfl ?_
    first | refine s_y (Y_neq rfl rfl) rfl rfl ?_ | refine s_pass rfl rfl ?_
    refine s_y (Y_pk rfl Gx.const (Gx.tmp gt_)) rfl rfl ?_
    first | exact hm _ ⟨rfl, trivial⟩ rfl | exact QL.sub sl_ (hm _ ⟨rfl, trivial⟩ rfl)
  · intro ht6 hm
    iterate 5 refine s_pass rfl rfl ?_
    refine s_y (Y_pk rfl Gx.const (Gx.tmp gt_)) rfl rfl ?_
    exact hm _ ⟨rfl, trivial⟩ rfl
  intro j18
  refine s_y (Y_mv) rfl rfl ?_
  apply s_or 6 [19, 20, 21, 22, 23, 24, 25] 25 (g := 19) rfl rfl
  · intro ht13 hm
    try simp only [nrm_] at ht13
    first | refine s_y (Y_fa 2 rfl Tryz.underlying34 rfl sz3 rfl) rfl rfl ?_ | refine s_pass rfl rfl ?_
    first | refine s_y (yl_ one3) rfl rfl ?_ | refine s_pass rfl rfl ?_
    first | refine s_y (Y_fa 2 rfl Tryz.underlying34 rfl sz3 rfl) rfl rfl ?_ | refine s_pass rfl rfl ?_
    first | refine s_y (yl_ one3) rfl rfl ?_ | refine s_pass rfl rfl ?_
    first | refine s_y (Y_neq rfl rfl) rfl rfl ?_ | refine s_pass rfl rfl ?_
    refine s_y (Y_pk rfl Gx.const (Gx.tmp gt_)) rfl rfl ?_
    first | exact hm _ ⟨rfl, trivial⟩ rfl | exact QL.sub sl_ (hm _ ⟨rfl, trivial⟩ rfl)
  · intro ht13 hm
    iterate 5 refine s_pass rfl rfl ?_
    refine s_y (Y_pk rfl Gx.const (Gx.tmp gt_)) rfl rfl ?_
    exact hm _ ⟨rfl, trivial⟩ rfl
  intro j25
  refine s_y (Y_mv) rfl rfl ?_
  apply s_or 6 [26, 27, 28, 29, 30, 31, 32] 32 (g := 26) rfl rfl
  · intro ht20 hm
    try simp only [nrm_] at ht20
    first | refine s_y (Y_fa 3 rfl Tryz.underlying34 rfl sz3 rfl) rfl rfl ?_ | refine s_pass rfl rfl ?_
    first | refine s_y (yl_ one3) rfl rfl ?_ | refine s_pass rfl rfl ?_
    first | refine s_y (Y_fa 3 rfl Tryz.underlying34 rfl sz3 rfl) rfl rfl ?_ | refine s_pass rfl rfl ?_
    first | refine s_y (yl_ one3) rfl rfl ?_ | refine s_pass rfl rfl ?_
    first | refine s_y (Y_neq rfl rfl) rfl rfl ?_ | refine s_pass rfl rfl ?_
    refine s_y (Y_pk rfl Gx.const (Gx.tmp gt_)) rfl rfl ?_
    first | exact hm _ ⟨rfl, trivial⟩ rfl | exact QL.sub sl_ (hm _ ⟨rfl, trivial⟩ rfl)
  · intro ht20 hm
    iterate 5 refine s_pass rfl rfl ?_
    refine s_y (Y_pk rfl Gx.const (Gx.tmp gt_)) rfl rfl ?_
    exact hm _ ⟨rfl, trivial⟩ rfl
  intro j32
  refine s_y (Y_mv) rfl rfl ?_
  apply s_or 6 [33, 34, 35, 36, 37, 38, 39] 39 (g := 33) rfl rfl
  · intro ht27 hm
    try simp only [nrm_] at ht27
    first | refine s_y (Y_fa 7 rfl Tryz.underlying34 rfl sz32 rfl) rfl rfl ?_ | refine s_pass rfl rfl ?_
    first | refine s_y (Y_loadN (vs := [iv d1.gold.a, iv d1.gold.b, iv d1.gold.c, iv d1.gold.d]) rfl many32 mm_ (by rfl) gold_subV) rfl rfl ?_ | refine s_pass rfl rfl ?_
    first | refine s_y (Y_fa 7 rfl Tryz.underlying34 rfl sz32 rfl) rfl rfl ?_ | refine s_pass rfl rfl ?_
    first | refine s_y (Y_loadN (vs := [iv d2.gold.a, iv d2.gold.b, iv d2.gold.c, iv d2.gold.d]) rfl many32 mm_ (by rfl) gold_subV) rfl rfl ?_ | refine s_pass rfl rfl ?_
    first | refine s_y (Y_neF (zs := d1.gold.nums) (zs' := d2.gold.nums) rfl rfl flat32 rfl rfl) rfl rfl ?_ | refine s_pass rfl rfl ?_
    refine s_y (Y_pk rfl Gx.const (Gx.tmp gt_)) rfl rfl ?_
    first | exact hm _ ⟨rfl, trivial⟩ rfl | exact QL.sub sl_ (hm _ ⟨rfl, trivial⟩ rfl)
  · intro ht27 hm
    iterate 5 refine s_pass rfl rfl ?_
    refine s_y (Y_pk rfl Gx.const (Gx.tmp gt_)) rfl rfl ?_
    exact hm _ ⟨rfl, trivial⟩ rfl
  intro j39
  refine s_y (Y_mv) rfl rfl ?_
  apply s_or 8 [40, 41, 42, 43, 44, 45, 46, 47, 48] 48 (g := 40) rfl rfl
  · intro ht34 hm
    try simp only [nrm_] at ht34
    first | refine s_y (Y_fa 4 rfl Tryz.underlying34 rfl sz24 rfl) rfl rfl ?_ | refine s_pass rfl rfl ?_
    first | refine s_y (yl_ one24) rfl rfl ?_ | refine s_pass rfl rfl ?_
    first | refine s_y (Y_bs rfl Tryz.underlying24 Tryz.underlying5 Tryz.underlying9 (fun w hH => hb1.has (by simp) hH)) rfl rfl ?_ | refine s_pass rfl rfl ?_
    first | refine s_y (Y_fa 4 rfl Tryz.underlying34 rfl sz24 rfl) rfl rfl ?_ | refine s_pass rfl rfl ?_
    first | refine s_y (yl_ one24) rfl rfl ?_ | refine s_pass rfl rfl ?_
    first | refine s_y (Y_bs rfl Tryz.underlying24 Tryz.underlying5 Tryz.underlying9 (fun w hH => hb2.has (by simp) hH)) rfl rfl ?_ | refine s_pass rfl rfl ?_
    first | refine s_y (Y_neS rfl rfl) rfl rfl ?_ | refine s_pass rfl rfl ?_
    refine s_y (Y_pk rfl Gx.const (Gx.tmp gt_)) rfl rfl ?_
    first | exact hm _ ⟨rfl, trivial⟩ rfl | exact QL.sub sl_ (hm _ ⟨rfl, trivial⟩ rfl)
  · intro ht34 hm
    iterate 7 refine s_pass rfl rfl ?_
    refine s_y (Y_pk rfl Gx.const (Gx.tmp gt_)) rfl rfl ?_
    exact hm _ ⟨rfl, trivial⟩ rfl
  intro j48
  refine s_y (Y_mv) rfl rfl ?_
  apply s_or 8 [49, 50, 51, 52, 53, 54, 55, 56, 57] 57 (g := 49) rfl rfl
  · intro ht43 hm
    try simp only [nrm_] at ht43
    first | refine s_y (Y_fa 5 rfl Tryz.underlying34 rfl sz30 rfl) rfl rfl ?_ | refine s_pass rfl rfl ?_
    first | refine s_y (yl_ one30) rfl rfl ?_ | refine s_pass rfl rfl ?_
    first | refine s_y (Y_lenV h1.e rfl rfl Tryz.underlying30) rfl rfl ?_ | refine s_pass rfl rfl ?_
    first | refine s_y (Y_fa 5 rfl Tryz.underlying34 rfl sz30 rfl) rfl rfl ?_ | refine s_pass rfl rfl ?_
    first | refine s_y (yl_ one30) rfl rfl ?_ | refine s_pass rfl rfl ?_
    first | refine s_y (Y_lenV h2.e rfl rfl Tryz.underlying30) rfl rfl ?_ | refine s_pass rfl rfl ?_
    first | refine s_y (Y_neq rfl rfl) rfl rfl ?_ | refine s_pass rfl rfl ?_
    refine s_y (Y_pk rfl Gx.const (Gx.tmp gt_)) rfl rfl ?_
    first | exact hm _ ⟨rfl, trivial⟩ rfl | exact QL.sub sl_ (hm _ ⟨rfl, trivial⟩ rfl)
  · intro ht43 hm
    iterate 7 refine s_pass rfl rfl ?_
    refine s_y (Y_pk rfl Gx.const (Gx.tmp gt_)) rfl rfl ?_
    exact hm _ ⟨rfl, trivial⟩ rfl
  intro j57
  refine s_y (Y_mv) rfl rfl ?_
  apply s_or 8 [58, 59, 60, 61, 62, 63, 64, 65, 66] 66 (g := 58) rfl rfl
  · intro ht52 hm
    try simp only [nrm_] at ht52
    first | refine s_y (Y_fa 6 rfl Tryz.underlying34 rfl sz31 rfl) rfl rfl ?_ | refine s_pass rfl rfl ?_
    first | refine s_y (yl_ one31) rfl rfl ?_ | refine s_pass rfl rfl ?_
    first | refine s_y (Y_lenV h1.i rfl rfl Tryz.underlying31) rfl rfl ?_ | refine s_pass rfl rfl ?_
    first | refine s_y (Y_fa 6 rfl Tryz.underlying34 rfl sz31 rfl) rfl rfl ?_ | refine s_pass rfl rfl ?_
    first | refine s_y (yl_ one31) rfl rfl ?_ | refine s_pass rfl rfl ?_
    first | refine s_y (Y_lenV h2.i rfl rfl Tryz.underlying31) rfl rfl ?_ | refine s_pass rfl rfl ?_
    first | refine s_y (Y_neq rfl rfl) rfl rfl ?_ | refine s_pass rfl rfl ?_
    refine s_y (Y_pk rfl Gx.const (Gx.tmp gt_)) rfl rfl ?_
    first | exact hm _ ⟨rfl, trivial⟩ rfl | exact QL.sub sl_ (hm _ ⟨rfl, trivial⟩ rfl)
  · intro ht52 hm
    iterate 7 refine s_pass rfl rfl ?_
    refine s_y (Y_pk rfl Gx.const (Gx.tmp gt_)) rfl rfl ?_
    exact hm _ ⟨rfl, trivial⟩ rfl
  intro j66
  refine s_nil ?_
  refine q_then ?_
  first | refine c_cond' rfl (fun hc1 => ?_) (fun hc1 => ?_) | refine c_cond rfl (fun hc1 => ?_) (fun hc1 => ?_)
  · skip
    try simp only [nrm_] at hc1
    refine c_seq ?_
    refine c_reg ?_
    refine s_y (Y_asC) rfl rfl ?_
    refine s_nil ?_
    refine q_then ?_
    refine c_ret ?_
    refine q_retG1 rfl gt_ (L' := _) sl_ (⟨⟨false, rfl, by
        refine ⟨fun h => absurd h (by decide), fun h => ?_⟩
        subst h
        simp at hc1⟩, rfl⟩)
  · skip
    try simp only [nrm_] at hc1
    refine c_skip ?_
    refine q_then ?_
    refine c_seq ?_
    refine c_seq ?_
    obtain ⟨⟨⟨⟨⟨⟨⟨hs1, hs2⟩, hs3⟩, hs4⟩, hs5⟩, hs6⟩, hs7⟩, hs8⟩ := hc1
    have hg := Four.nums_inj hs5
    have hcc := bytes_injL hs6
    have hel : d1.ents.length = d2.ents.length := by omega
    have hil : d1.items.length = d2.items.length := by omega
    refine c_reg ?_
    refine s_y (Y_asC) rfl rfl ?_
    refine s_nil ?_
    refine q_then ?_
    refine c_block ?_
    refine c_loop [4, 5, 67, 68, 69, 70, 71, 72, 73, 74, 75, 76, 77, 78, 79, 80, 81, 82, 83, 84] (fun m i => i + m = d1.ents.length ∧ d1.ents.take i = d2.ents.take i) (fun i => [(5, iv i)]) (fun _ => [wB b3 (wcV d2 (.slice a2 d2.cells.length k2) e2 i2), wB b2 (wcV d1 (.slice a1 d1.cells.length k1) e1 i1)]) (d1.ents.length) (0) (⟨by omega, by simp⟩) (by repeat (first | exact trivial | refine ⟨rfl, ?_⟩)) (fun _ h => h.sub sl_) (fun _ => rfl) ?_
    rintro m i j ⟨hi, ht⟩ K hK
    refine c_seq ?_
    refine c_seq ?_
    refine c_reg ?_
    refine s_y (Y_mv) rfl rfl ?_
    refine s_y (Y_fa 5 rfl Tryz.underlying34 rfl sz30 rfl) rfl rfl ?_
    refine s_y (yl_ one30) rfl rfl ?_
    refine s_y (Y_lenV h1.e rfl rfl Tryz.underlying30) rfl rfl ?_
    refine s_y (Y_lss rfl rfl) rfl rfl ?_
    refine s_nil ?_
    refine q_then ?_
    first | refine c_cond' rfl (fun hc4 => ?_) (fun hc4 => ?_) | refine c_cond rfl (fun hc4 => ?_) (fun hc4 => ?_)
    · skip
      try simp only [nrm_] at hc4
      refine c_skip ?_
      refine q_then ?_
      refine c_seq ?_
      refine c_block ?_
      refine c_seq ?_
      obtain ⟨x, hx⟩ := take_lt (show i < d1.ents.length by omega)
      obtain ⟨y, hy⟩ := take_lt (show i < d2.ents.length by omega)
      obtain ⟨p1, q1, r1, hev1, hse1⟩ := h1.e.some_of (by omega)
      obtain ⟨p2, q2, r2, hev2, hse2⟩ := h2.e.some_of (by omega)
      have hr := hse1.at' Ent.len hx
      have hr2 := hse2.at' Ent.len hy
      rw [hev1, hev2]
      refine c_rord [] [(0, true), (1, true), (2, true), (3, true), (4, true), (5, true), (6, true), (7, true), (8, true), (9, true), (10, true)] (by kernel_rfl) (by kernel_rfl) (by kernel_rfl) (by kernel_rfl) rfl (by intro c a d v w h; cases d <;> exact h) rfl ?_
      simp only [mkOrd, List.filterMap_cons, List.filterMap_nil, List.getElem?_toArray, List.getElem?_cons_zero, List.getElem?_cons_succ, Option.map_some]
      refine o_y (Y_fa 5 rfl Tryz.underlying34 rfl sz30 rfl) rfl rfl ?_
      refine o_y (yl_ one30) rfl rfl ?_
      refine o_y (Y_mv) rfl rfl ?_
      refine o_y (Y_ia rfl rfl Tryz.underlying30 sz93 rfl (by omega)) rfl rfl ?_
      refine o_y (Y_loadNR (vs := x.cells) rfl many93 hr rfl) rfl rfl ?_
      refine o_y (Y_fa 5 rfl Tryz.underlying34 rfl sz30 rfl) rfl rfl ?_
      refine o_y (yl_ one30) rfl rfl ?_
      refine o_y (Y_mv) rfl rfl ?_
      refine o_y (Y_ia rfl rfl Tryz.underlying30 sz93 rfl (by omega)) rfl rfl ?_
      refine o_y (Y_loadNR (vs := y.cells) rfl many93 hr2 rfl) rfl rfl ?_
      refine o_y (Y_neF (zs := x.nums) (zs' := y.nums) rfl rfl flat93 rfl rfl) rfl rfl ?_
      refine o_nil ?_
      refine q_then ?_
      first | refine c_cond' rfl (fun hc6 => ?_) (fun hc6 => ?_) | refine c_cond rfl (fun hc6 => ?_) (fun hc6 => ?_)
      · skip
        try simp only [nrm_] at hc6
        refine c_seq ?_
        refine c_reg ?_
        refine s_y (Y_asC) rfl rfl ?_
        refine s_nil ?_
        refine q_then ?_
        refine c_ret ?_
        refine q_retG1 rfl gt_ (L' := _) sl_ (⟨⟨false, rfl, by
            refine ⟨fun h => absurd h (by decide), fun h => ?_⟩
            subst h
            rw [hx] at hy
            cases hy
            exact absurd rfl hc6⟩, rfl⟩)
      · skip
        try simp only [nrm_] at hc6
        refine c_skip ?_
        refine q_bn ?_
        refine q_then ?_
        refine c_reg ?_
        refine s_y (Y_mv) rfl rfl ?_
        refine s_y ad_ rfl rfl ?_
        refine s_y (Y_as) rfl rfl ?_
        refine s_nil ?_
        rw [← hev1, ← hev2]
        refine hK (m - 1) (i + 1) _ _ (by omega) ⟨by omega, take_next hx hy (Ent.nums_inj hc6) ht⟩ ⟨rfl, trivial⟩ rfl (fun _ h => h)
    · skip
      try simp only [nrm_] at hc4
      refine c_exit ?_
      repeat with_reducible refine q_te ?_
      refine q_exit ?_
      refine q_then ?_
      refine c_seq ?_
      refine c_seq ?_
      rw [show i = d1.ents.length by omega, List.take_length, hel, List.take_length] at ht
      refine c_reg ?_
      refine s_y (Y_asC) rfl rfl ?_
      refine s_nil ?_
      refine q_then ?_
      refine c_block ?_
      refine c_loop [4, 6, 85, 86, 87, 88, 89, 90, 91, 92, 93, 94, 95, 96, 97, 98, 99, 100, 101, 102] (fun m i => i + m = d1.items.length ∧ d1.items.take i = d2.items.take i) (fun i => [(6, iv i)]) (fun _ => [wB b3 (wcV d2 (.slice a2 d2.cells.length k2) e2 i2), wB b2 (wcV d1 (.slice a1 d1.cells.length k1) e1 i1)]) (d1.items.length) (0) (⟨by omega, by simp⟩) (by repeat (first | exact trivial | refine ⟨rfl, ?_⟩)) (fun _ h => h.sub sl_) (fun _ => rfl) ?_
      rintro m2 i3 j2 ⟨hi2, ht2⟩ K hK
      refine c_seq ?_
      refine c_seq ?_
      refine c_reg ?_
      refine s_y (Y_mv) rfl rfl ?_
      refine s_y (Y_fa 6 rfl Tryz.underlying34 rfl sz31 rfl) rfl rfl ?_
      refine s_y (yl_ one31) rfl rfl ?_
      refine s_y (Y_lenV h1.i rfl rfl Tryz.underlying31) rfl rfl ?_
      refine s_y (Y_lss rfl rfl) rfl rfl ?_
      refine s_nil ?_
      refine q_then ?_
      first | refine c_cond' rfl (fun hc9 => ?_) (fun hc9 => ?_) | refine c_cond rfl (fun hc9 => ?_) (fun hc9 => ?_)
      · skip
        try simp only [nrm_] at hc9
        refine c_skip ?_
        refine q_then ?_
        refine c_seq ?_
        refine c_block ?_
        refine c_seq ?_
        obtain ⟨x, hx⟩ := take_lt (show i3 < d1.items.length by omega)
        obtain ⟨y, hy⟩ := take_lt (show i3 < d2.items.length by omega)
        obtain ⟨p1, q1, r1, hev1, hse1⟩ := h1.i.some_of (by omega)
        obtain ⟨p2, q2, r2, hev2, hse2⟩ := h2.i.some_of (by omega)
        have hr := hse1.at' Itm.len hx
        have hr2 := hse2.at' Itm.len hy
        rw [hev1, hev2]
        refine c_rord [] [(0, true), (1, true), (2, true), (3, true), (4, true), (5, true), (6, true), (7, true), (8, true), (9, true), (10, true)] (by kernel_rfl) (by kernel_rfl) (by kernel_rfl) (by kernel_rfl) rfl (by intro c a d v w h; cases d <;> exact h) rfl ?_
        simp only [mkOrd, List.filterMap_cons, List.filterMap_nil, List.getElem?_toArray, List.getElem?_cons_zero, List.getElem?_cons_succ, Option.map_some]
        refine o_y (Y_fa 6 rfl Tryz.underlying34 rfl sz31 rfl) rfl rfl ?_
        refine o_y (yl_ one31) rfl rfl ?_
        refine o_y (Y_mv) rfl rfl ?_
        refine o_y (Y_ia rfl rfl Tryz.underlying31 sz98 rfl (by omega)) rfl rfl ?_
        refine o_y (Y_loadNR (vs := x.cells) rfl many98 hr rfl) rfl rfl ?_
        refine o_y (Y_fa 6 rfl Tryz.underlying34 rfl sz31 rfl) rfl rfl ?_
        refine o_y (yl_ one31) rfl rfl ?_
        refine o_y (Y_mv) rfl rfl ?_
        refine o_y (Y_ia rfl rfl Tryz.underlying31 sz98 rfl (by omega)) rfl rfl ?_
        refine o_y (Y_loadNR (vs := y.cells) rfl many98 hr2 rfl) rfl rfl ?_
        refine o_y (Y_neF (zs := x.nums) (zs' := y.nums) rfl rfl flat98 rfl rfl) rfl rfl ?_
        refine o_nil ?_
        refine q_then ?_
        first | refine c_cond' rfl (fun hc11 => ?_) (fun hc11 => ?_) | refine c_cond rfl (fun hc11 => ?_) (fun hc11 => ?_)
        · skip
          try simp only [nrm_] at hc11
          refine c_seq ?_
          refine c_reg ?_
          refine s_y (Y_asC) rfl rfl ?_
          refine s_nil ?_
          refine q_then ?_
          refine c_ret ?_
          refine q_retG1 rfl gt_ (L' := _) sl_ (⟨⟨false, rfl, by
              refine ⟨fun h => absurd h (by decide), fun h => ?_⟩
              subst h
              rw [hx] at hy
              cases hy
              exact absurd rfl hc11⟩, rfl⟩)
        · skip
          try simp only [nrm_] at hc11
          refine c_skip ?_
          refine q_bn ?_
          refine q_then ?_
          refine c_reg ?_
          refine s_y (Y_mv) rfl rfl ?_
          refine s_y ad_ rfl rfl ?_
          refine s_y (Y_as) rfl rfl ?_
          refine s_nil ?_
          rw [← hev1, ← hev2]
          refine hK (m2 - 1) (i3 + 1) _ _ (by omega) ⟨by omega, take_next hx hy (Itm.nums_inj hc11) ht2⟩ ⟨rfl, trivial⟩ rfl (fun _ h => h)
      · skip
        try simp only [nrm_] at hc9
        refine c_exit ?_
        repeat with_reducible refine q_te ?_
        refine q_exit ?_
        refine q_then ?_
        refine c_seq ?_
        refine c_reg ?_
        refine s_y (Y_asC) rfl rfl ?_
        refine s_nil ?_
        refine q_then ?_
        refine c_ret ?_
        refine q_retG1 rfl gt_ (L' := _) sl_ (⟨⟨true, rfl, by
            refine ⟨fun _ => ?_, fun _ => rfl⟩
            rw [show i3 = d1.items.length by omega, List.take_length, hil, List.take_length] at ht2
            cases d1; cases d2
            simp only at *
            simp only [Wd.mk.injEq]
            exact ⟨by omega, by omega, by omega, by omega, hcc, ht, ht2, hg⟩⟩, rfl⟩)
end
end Go.Proofs.YtcogbkkdccohfaaGreat
namespace Go.Ad
theorem tmod_cases (a : Int) {n : Int} (hn : 0 < n) : (a.tmod n < 0 ∧ a.tmod n + n = a % n) ∨ (0 ≤ a.tmod n ∧ a.tmod n = a % n) := by
  have h1 := Int.emod_nonneg a (show n ≠ 0 by omega)
  have h2 := Int.emod_lt_of_pos a hn
  rw [Int.tmod_eq_emod]
  split
  · right; omega
  · rename_i h
    have h3 : a % n ≠ 0 := fun h4 => h (.inr (Int.dvd_of_emod_eq_zero h4))
    left; omega
theorem Does.sub {P : Program} {f : FuncId} {args : List Value} {W : World} {M : List Nat} {Post Post' : Value → List Bk → Prop} (h : Does P f args W M Post) (hp : ∀ v L, Post v L → ∃ L2, List.Sublist L2 L ∧ Post' v L2) : Does P f args W M Post' :=
  Calls.mono h fun _ _ ⟨v, L, h1, h2, h3⟩ => by
    obtain ⟨L2, h4, h5⟩ := hp v L h3
    exact ⟨v, L2, h1, h2.sub h4, h5⟩
end Go.Ad
namespace Go.Proofs.YtcogbkkdccohfaaGreat
open Go.RowKit Go.Ad Go.Maps
set_option linter.unusedVariables false
set_option linter.unusedSimpArgs false
end Go.Proofs.YtcogbkkdccohfaaGreat
namespace Go.Ad
set_option linter.unusedVariables false
set_option linter.unusedSimpArgs false
theorem byteAt_put {cells : List UInt8} {i k : Nat} {x : UInt8} : byteAt (cells.set i x) k = if i = k ∧ i < cells.length then (x.toNat : Int) else byteAt cells k := by
  unfold byteAt
  rw [List.getD_eq_getElem?_getD, List.getD_eq_getElem?_getD, List.getElem?_set]
  by_cases hik : i = k
  · subst hik
    by_cases h : i < cells.length
    · simp [h]
    · simp [h]
  · simp [hik]
theorem cnt_set (k : UInt8) : ∀ (l : List UInt8) (i : Nat) (v : UInt8), i < l.length → cnt k (l.set i v) + (if byteAt l i = (k.toNat : Int) then 1 else 0) = cnt k l + (if v = k then 1 else 0)
  | a :: r, 0, v, _ => by
    have : byteAt (a :: r) 0 = (a.toNat : Int) := rfl
    rw [this]
    have hk : ((a.toNat : Int) = (k.toNat : Int)) = (a = k) := by
      rw [eq_iff_iff]
      constructor
      · intro h; exact UInt8.toNat_inj.1 (by omega)
      · rintro rfl; rfl
    simp only [hk]
    unfold cnt
    rw [List.set_cons_zero, List.filter_cons, List.filter_cons]
    by_cases h1 : v = k <;> by_cases h2 : a = k <;> simp [h1, h2]
  | a :: r, i + 1, v, h => by
    have ih := cnt_set k r i v (by simpa using h)
    have : byteAt (a :: r) (i + 1) = byteAt r i := rfl
    rw [this]
    unfold cnt at ih ⊢
    rw [List.set_cons_succ, List.filter_cons, List.filter_cons]
    by_cases h1 : (a == k) = true
    · rw [if_pos h1, if_pos h1, List.length_cons, List.length_cons]; omega
    · rw [if_neg h1, if_neg h1]; exact ih
def low (n : Int) (cells : List UInt8) : Prop := ∀ k, byteAt cells k ≤ n
theorem low_set {n : Int} {cells : List UInt8} {i : Nat} {x : UInt8} (h : low n cells) (hx : (x.toNat : Int) ≤ n) : low n (cells.set i x) := fun k => by
  rw [byteAt_put]
  split
  · exact hx
  · exact h k
theorem low_mono {n m : Int} {cells : List UInt8} (h : low n cells) (hm : n ≤ m) : low m cells := fun k => Int.le_trans (h k) hm
theorem low_any {cells : List UInt8} (h : low 5 cells) : cells.any (fun x => decide (5 < x.toNat)) = false := by
  rw [List.any_eq_false]
  intro x hx
  obtain ⟨i, hi⟩ := List.mem_iff_getElem?.1 hx
  have := h i
  rw [byteAt_of hi] at this
  simp; omega
theorem cnt_none {k : UInt8} {cells : List UInt8} (h : ∀ i, byteAt cells i ≠ (k.toNat : Int)) : cnt k cells = 0 := by
  unfold cnt
  rw [List.length_eq_zero_iff, List.filter_eq_nil_iff]
  intro x hx hk
  obtain ⟨i, hi⟩ := List.mem_iff_getElem?.1 hx
  apply h i
  rw [byteAt_of hi, eq_of_beq hk]
theorem fillRow_low : ∀ (n : Nat) (cells : List UInt8) (k : Nat), low 1 cells → low 1 (fillRow cells k n)
  | 0, _, _, h => h
  | n + 1, cells, k, h => fillRow_low n _ _ (low_set h (by decide))
theorem fillRect_low : ∀ (n : Nat) (cells : List UInt8) (k w : Nat), low 1 cells → low 1 (fillRect cells k w n)
  | 0, _, _, _, h => h
  | n + 1, cells, k, w, h => fillRect_low n _ _ _ (fillRow_low _ _ _ h)
def stays (a b : List UInt8) : Prop := a.length = b.length ∧ ∀ k, byteAt a k = 1 → byteAt b k = 1
theorem stays_refl (a : List UInt8) : stays a a := ⟨rfl, fun _ h => h⟩
theorem stays_trans {a b c : List UInt8} (h : stays a b) (k : stays b c) : stays a c := ⟨h.1.trans k.1, fun i hi => k.2 i (h.2 i hi)⟩
theorem stays_one (a : List UInt8) (i : Nat) : stays a (a.set i 1) := ⟨by simp, fun k h => by
  rw [byteAt_put]; split; rfl; exact h⟩
theorem fillRow_stays : ∀ (n : Nat) (cells : List UInt8) (k : Nat), stays cells (fillRow cells k n)
  | 0, _, _ => stays_refl _
  | n + 1, cells, k => stays_trans (stays_one cells k) (fillRow_stays n _ _)
theorem fillRow_one : ∀ (n : Nat) (cells : List UInt8) (k c : Nat), c < n → k + c < cells.length → byteAt (fillRow cells k n) (k + c) = 1
  | n + 1, cells, k, 0, _, hk => (fillRow_stays n _ _).2 _ (by rw [byteAt_put, if_pos ⟨rfl, by omega⟩]; rfl)
  | n + 1, cells, k, c + 1, hc, hk => by
    have := fillRow_one n (cells.set k 1) (k + 1) c (by omega) (by rw [List.length_set]; omega)
    rw [fillRow, show k + (c + 1) = k + 1 + c by omega]
    exact this
theorem fillRect_stays : ∀ (n : Nat) (cells : List UInt8) (k w : Nat), stays cells (fillRect cells k w n)
  | 0, _, _, _ => stays_refl _
  | n + 1, cells, k, w => stays_trans (fillRow_stays w cells k) (fillRect_stays n _ _ _)
theorem fillRect_one : ∀ (n : Nat) (cells : List UInt8) (k w r c : Nat), r < n → c < w → k + 24 * r + c < cells.length → byteAt (fillRect cells k w n) (k + 24 * r + c) = 1
  | n + 1, cells, k, w, 0, c, _, hc, hk => (fillRect_stays n _ _ _).2 _ (by rw [Nat.mul_zero, Nat.add_zero]; exact fillRow_one w cells k c hc (by omega))
  | n + 1, cells, k, w, r + 1, c, hr, hc, hk => by
    have := fillRect_one n (fillRow cells k w) (k + 24) w r c (by omega) hc (by rw [← (fillRow_stays w cells k).1]; omega)
    rw [fillRect, show k + 24 * (r + 1) + c = k + 24 + 24 * r + c by omega]
    exact this
theorem digRooms_low (seed floor : Int) : ∀ i, low 1 (digRooms seed floor i)
  | 0 => fun k => by
    unfold byteAt digRooms
    rw [List.getD_eq_getElem?_getD, List.getElem?_replicate]
    split <;> decide
  | i + 1 => fillRect_low _ _ _ _ (digRooms_low seed floor i)
theorem digRooms_stays (seed floor : Int) (i : Nat) : ∀ n, stays (digRooms seed floor i) (digRooms seed floor (i + n))
  | 0 => stays_refl _
  | n + 1 => stays_trans (digRooms_stays seed floor i n) (fillRect_stays _ _ _ _)
def holds1 (a b : List UInt8) : Prop := a.length = b.length ∧ (∀ k, byteAt a k = 1 → byteAt b k = 1) ∧ (low 2 a → low 2 b)
theorem h1_refl (a : List UInt8) : holds1 a a := ⟨rfl, fun _ h => h, fun h => h⟩
theorem h1_trans {a b c : List UInt8} (h : holds1 a b) (k : holds1 b c) : holds1 a c := ⟨h.1.trans k.1, fun i hi => k.2.1 i (h.2.1 i hi), fun hl => k.2.2 (h.2.2 hl)⟩
theorem digM_h1 (cells : List UInt8) (x y : Int) (d : Bool) : holds1 cells (digM cells x y d).1 := by
  unfold digM
  split
  · exact h1_refl _
  · rename_i h0
    refine ⟨by simp, fun k hk => ?_, fun hl => low_set hl (by cases d <;> decide)⟩
    rw [byteAt_put]
    split
    · rename_i hc
      rw [hc.1] at h0
      omega
    · exact hk
theorem corrM_h1 (tx ty : Int) (first : Bool) : ∀ (n : Nat) (cells : List UInt8) (d : Bool) (x y : Int), holds1 cells (corrM tx ty first n cells d x y)
  | 0, _, _, _, _ => h1_refl _
  | n + 1, cells, d, x, y => by
    rw [corrM]
    split
    · exact h1_trans (digM_h1 _ _ _ _) (corrM_h1 tx ty first n _ _ _ _)
    · exact h1_refl _
theorem corrsM_h1 (seed floor : Int) (cells : List UInt8) : ∀ i, holds1 cells (corrsM seed floor cells i)
  | 0 => h1_refl _
  | i + 1 => h1_trans (corrsM_h1 seed floor cells i) (h1_trans (digM_h1 _ _ _ _) (corrM_h1 _ _ _ _ _ _ _ _))
end Go.Ad
