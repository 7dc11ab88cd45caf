/- Worlds are checked: the document's, walked (heads, entities, items). -/
import Derived.Test.YtecodneffflpoaaE2
namespace Go.Ad
theorem ents_step {w : Wd} {i : Nat} {e : Ent} (h : w.ents[i]? = some e) : entsM w (w.ents.drop i) i = if entM w i e ≠ 0 then entM w i e else entsM w (w.ents.drop (i + 1)) (i + 1) := by
  obtain ⟨hi, rfl⟩ := List.getElem?_eq_some_iff.1 h
  rw [List.drop_eq_getElem_cons hi, entsM]
theorem items_step {cells : List UInt8} {all : List Itm} {i : Nat} {x : Itm} (h : all[i]? = some x) : itemsM cells all (all.drop i) i = if x.isZ then itemsM cells all (all.drop (i + 1)) (i + 1) else if btw x.kind 1 4 && placedM cells x && aloneM (all.take i) x then itemsM cells all (all.drop (i + 1)) (i + 1) else false := by
  obtain ⟨hi, rfl⟩ := List.getElem?_eq_some_iff.1 h
  rw [List.drop_eq_getElem_cons hi, itemsM]
theorem alone_step {l : List Itm} {k : Nat} {x y : Itm} (h : l[k]? = some y) : aloneM (l.take (k + 1)) x = (aloneM (l.take k) x && !decide (y.whr = x.whr ∧ y.a = x.a ∧ y.b = x.b ∧ y.whr ≠ 0)) := by
  obtain ⟨hi, rfl⟩ := List.getElem?_eq_some_iff.1 h
  unfold aloneM
  rw [← List.take_append_getElem hi, List.all_append, List.all_cons, List.all_nil, Bool.and_true]
theorem alone_no {l : List Itm} {k i : Nat} {x y : Itm} (h : l[k]? = some y) (hk : k < i) (hy : y.whr = x.whr ∧ y.a = x.a ∧ y.b = x.b ∧ y.whr ≠ 0) : aloneM (l.take i) x = false := by
  unfold aloneM
  rw [List.all_eq_false]
  exact ⟨y, List.mem_of_getElem? (i := k) (by rw [List.getElem?_take_of_lt hk]; exact h), by rw [decide_eq_true hy]; simp⟩
theorem cnt_step {k : UInt8} {l : List UInt8} {i : Nat} {x : UInt8} (h : l[i]? = some x) : cnt k (l.take (i + 1)) = cnt k (l.take i) + if x = k then 1 else 0 := by
  obtain ⟨hi, rfl⟩ := List.getElem?_eq_some_iff.1 h
  unfold cnt
  rw [← List.take_append_getElem hi, List.filter_append, List.length_append, List.filter_cons, List.filter_nil]
  by_cases hk : l[i] = k
  · simp [hk]
  · simp [hk]
theorem any_step {p : UInt8 → Bool} {l : List UInt8} {i : Nat} {x : UInt8} (h : l[i]? = some x) : (l.take (i + 1)).any p = ((l.take i).any p || p x) := by
  obtain ⟨hi, rfl⟩ := List.getElem?_eq_some_iff.1 h
  rw [← List.take_append_getElem hi, List.any_append, List.any_cons, List.any_nil, Bool.or_false]
theorem any_of {p : UInt8 → Bool} {l : List UInt8} {i : Nat} {x : UInt8} (h : l[i]? = some x) (hp : p x = true) : l.any p = true := List.any_eq_true.2 ⟨x, List.mem_of_getElem? h, hp⟩
theorem u8_eq {x : UInt8} {k : Nat} (hk : k < 256) : (x.toNat : Int) = k ↔ x = UInt8.ofNat k := by
  constructor
  · intro h
    apply UInt8.toNat_inj.1
    rw [UInt8.toNat_ofNat']
    omega
  · rintro rfl
    rw [UInt8.toNat_ofNat']
    omega
theorem SlB.take {α : Type} {f : α → List Value} {k : Nat} (hk : ∀ a, (f a).length = k) {W : World} {b o n c : Nat} {l : List α} (h : SlB W b o n c k (l.flatMap f)) {i : Nat} (hi : i ≤ l.length) (hn : l.length = n) : SlB W b o i c k ((l.take i).flatMap f) :=
  ⟨by rw [fl_len hk, List.length_take, Nat.min_eq_left hi], by have := h.cap; omega, h.big, h.lt, ro_take h.ro (fl_take hk l i)⟩
theorem fits_iff {w : Wd} {i : Nat} {e : Ent} (h0 : e.kind ≠ 0) : fitsM w i e = true ↔ ((0 ≤ e.gen ∧ e.gen ≤ 255) ∧ walkM (atM w.cells e.x e.y) = true ∧ eAt (w.ents.take i) e.x e.y < 0 ∧ (1 ≤ e.hp ∧ e.hp ≤ e.max) ∧ e.max = (statsM e.kind).max ∧ e.atk = (statsM e.kind).atk ∧ e.df = (statsM e.kind).df ∧ (0 ≤ e.poison ∧ e.poison ≤ 9) ∧ (0 ≤ e.stun ∧ e.stun ≤ 9) ∧ (e.kind = 1 → (0 ≤ e.seat ∧ e.seat ≤ 3) ∧ eHero (w.ents.take i) e.seat < 0) ∧ (e.kind ≠ 1 → e.seat = 0)) := by
  simp only [fitsM, btw, if_neg h0]
  by_cases hk : e.kind = 1
  · simp [hk, and_assoc]
  · simp [hk, and_assoc]
end Go.Ad
namespace Go.Proofs.Ytecodneffflpoaa
open Go.RowKit Go.Ad Go.Maps
set_option linter.unusedVariables false
set_option linter.unusedSimpArgs false
section
variable {W : World}
theorem gold_get {d : Wd} {s : Ws} {k : Nat} (h : k < 4) : (wv d s)[0 + 7 + k * 1]? = some (iv (d.gold.get k)) := by
  rcases (show k = 0 ∨ k = 1 ∨ k = 2 ∨ k = 3 by omega) with rfl | rfl | rfl | rfl <;> rfl
def goldOk (g : Four) (k : Nat) : Bool := (List.range k).all fun i => btw (g.get i) 0 999
theorem goldOk_step (g : Four) (k : Nat) : goldOk g (k + 1) = (goldOk g k && btw (g.get k) 0 999) := by
  unfold goldOk
  rw [List.range_succ, List.all_append, List.all_cons, List.all_nil, Bool.and_true]
theorem nums_gold (w : Wd) : numsOk w = (btw w.frame 0 1073741823 && btw w.floor 1 3 && btw w.state 0 2 && goldOk w.gold 4) := by
  have : goldOk w.gold 4 = (btw w.gold.a 0 999 && btw w.gold.b 0 999 && btw w.gold.c 0 999 && btw w.gold.d 0 999) := by
    rw [goldOk_step, goldOk_step, goldOk_step, goldOk_step]
    simp only [goldOk, List.range_zero, List.all_nil, Bool.true_and]
    rfl
  rw [this, numsOk]
  simp only [Bool.and_assoc]
theorem gold_no {g : Four} {k : Nat} (hk : k < 4) (h : btw (g.get k) 0 999 = false) : goldOk g 4 = false := by
  unfold goldOk
  rw [List.all_eq_false]
  exact ⟨k, List.mem_range.2 hk, by simp [h]⟩
set_option maxRecDepth 100000 in
theorem rhead_d {d : Wd} {s : Ws} (hw : WAt W d s) : Does Try.prog 27 [.agg (wv d s).toArray] W [] (fun v L => v = iv (headM d) ∧ L = []) := by
  refine enter Try.func27 rfl rfl rfl (Has.start _) ?_
  refine c_seq ?_
  -- ref.go:26 R0
  refine c_reg ?_
  refine s_n (N_box (cs := wv d s) rfl) rfl rfl (fun b1 _ => ?_)
  refine s_y (Y_asC) rfl rfl ?_
  refine s_nil ?_
  refine q_then ?_
  refine c_seq ?_
  refine c_seq ?_
  -- ref.go:27 R1
  refine c_reg ?_
  refine s_y (Y_fa 1 rfl Try.underlying29 rfl sz3 rfl) rfl rfl ?_
  refine s_y ((by first | exact Y_load rfl one3 mm_ (by rfl) | exact Y_loadR rfl one3 hr rfl rfl | exact Y_loadR rfl one3 hr2 rfl rfl | exact Y_load rfl one3 mm_ (eget he rfl) | exact Y_load rfl one3 mm_ (iget hx rfl) | exact Y_load rfl one3 mm_ (by assumption) | exact Y_loadR rfl one3 (by assumption) rfl (by assumption))) rfl rfl ?_
  refine s_y (Y_lss rfl rfl) rfl rfl ?_
  refine s_y (Y_mv) rfl rfl ?_
  apply s_or 4 [10, 11, 12, 13, 14] 14 (g := 10) rfl rfl
  · intro ht4 hm
    try simp only [nrm_] at ht4
    first | refine s_y (Y_fa 1 rfl Try.underlying29 rfl sz3 rfl) rfl rfl ?_ | refine s_pass rfl rfl ?_
    first | refine s_y ((by first | exact Y_load rfl one3 mm_ (by rfl) | exact Y_loadR rfl one3 hr rfl rfl | exact Y_loadR rfl one3 hr2 rfl rfl | exact Y_load rfl one3 mm_ (eget he rfl) | exact Y_load rfl one3 mm_ (iget hx rfl) | exact Y_load rfl one3 mm_ (by assumption) | exact Y_loadR rfl one3 (by assumption) rfl (by assumption))) rfl rfl ?_ | refine s_pass rfl rfl ?_
    first | refine s_y (Y_geq rfl rfl) rfl rfl ?_ | refine s_pass rfl rfl ?_
    refine s_y (Y_pk rfl Gx.const (Gx.tmp gt_)) rfl rfl ?_
    first | exact hm _ ⟨rfl, trivial⟩ rfl | exact QL.sub sl_ (hm _ ⟨rfl, trivial⟩ rfl)
  · intro ht4 hm
    iterate 3 refine s_pass rfl rfl ?_
    refine s_y (Y_pk rfl Gx.const (Gx.tmp gt_)) rfl rfl ?_
    exact hm _ ⟨rfl, trivial⟩ rfl
  intro j14
  refine s_y (Y_mv) rfl rfl ?_
  apply s_or 4 [15, 16, 17, 18, 19] 19 (g := 15) rfl rfl
  · intro ht9 hm
    try simp only [nrm_] at ht9
    first | refine s_y (Y_fa 2 rfl Try.underlying29 rfl sz3 rfl) rfl rfl ?_ | refine s_pass rfl rfl ?_
    first | refine s_y ((by first | exact Y_load rfl one3 mm_ (by rfl) | exact Y_loadR rfl one3 hr rfl rfl | exact Y_loadR rfl one3 hr2 rfl rfl | exact Y_load rfl one3 mm_ (eget he rfl) | exact Y_load rfl one3 mm_ (iget hx rfl) | exact Y_load rfl one3 mm_ (by assumption) | exact Y_loadR rfl one3 (by assumption) rfl (by assumption))) rfl rfl ?_ | refine s_pass rfl rfl ?_
    first | refine s_y (Y_lss rfl rfl) rfl rfl ?_ | refine s_pass rfl rfl ?_
    refine s_y (Y_pk rfl Gx.const (Gx.tmp gt_)) rfl rfl ?_
    first | exact hm _ ⟨rfl, trivial⟩ rfl | exact QL.sub sl_ (hm _ ⟨rfl, trivial⟩ rfl)
  · intro ht9 hm
    iterate 3 refine s_pass rfl rfl ?_
    refine s_y (Y_pk rfl Gx.const (Gx.tmp gt_)) rfl rfl ?_
    exact hm _ ⟨rfl, trivial⟩ rfl
  intro j19
  refine s_y (Y_mv) rfl rfl ?_
  apply s_or 4 [20, 21, 22, 23, 24] 24 (g := 20) rfl rfl
  · intro ht14 hm
    try simp only [nrm_] at ht14
    first | refine s_y (Y_fa 2 rfl Try.underlying29 rfl sz3 rfl) rfl rfl ?_ | refine s_pass rfl rfl ?_
    first | refine s_y ((by first | exact Y_load rfl one3 mm_ (by rfl) | exact Y_loadR rfl one3 hr rfl rfl | exact Y_loadR rfl one3 hr2 rfl rfl | exact Y_load rfl one3 mm_ (eget he rfl) | exact Y_load rfl one3 mm_ (iget hx rfl) | exact Y_load rfl one3 mm_ (by assumption) | exact Y_loadR rfl one3 (by assumption) rfl (by assumption))) rfl rfl ?_ | refine s_pass rfl rfl ?_
    first | refine s_y (Y_gtr rfl rfl) rfl rfl ?_ | refine s_pass rfl rfl ?_
    refine s_y (Y_pk rfl Gx.const (Gx.tmp gt_)) rfl rfl ?_
    first | exact hm _ ⟨rfl, trivial⟩ rfl | exact QL.sub sl_ (hm _ ⟨rfl, trivial⟩ rfl)
  · intro ht14 hm
    iterate 3 refine s_pass rfl rfl ?_
    refine s_y (Y_pk rfl Gx.const (Gx.tmp gt_)) rfl rfl ?_
    exact hm _ ⟨rfl, trivial⟩ rfl
  intro j24
  refine s_y (Y_mv) rfl rfl ?_
  apply s_or 4 [25, 26, 27, 28, 29] 29 (g := 25) rfl rfl
  · intro ht19 hm
    try simp only [nrm_] at ht19
    first | refine s_y (Y_fa 3 rfl Try.underlying29 rfl sz3 rfl) rfl rfl ?_ | refine s_pass rfl rfl ?_
    first | refine s_y ((by first | exact Y_load rfl one3 mm_ (by rfl) | exact Y_loadR rfl one3 hr rfl rfl | exact Y_loadR rfl one3 hr2 rfl rfl | exact Y_load rfl one3 mm_ (eget he rfl) | exact Y_load rfl one3 mm_ (iget hx rfl) | exact Y_load rfl one3 mm_ (by assumption) | exact Y_loadR rfl one3 (by assumption) rfl (by assumption))) rfl rfl ?_ | refine s_pass rfl rfl ?_
    first | refine s_y (Y_lss rfl rfl) rfl rfl ?_ | refine s_pass rfl rfl ?_
    refine s_y (Y_pk rfl Gx.const (Gx.tmp gt_)) rfl rfl ?_
    first | exact hm _ ⟨rfl, trivial⟩ rfl | exact QL.sub sl_ (hm _ ⟨rfl, trivial⟩ rfl)
  · intro ht19 hm
    iterate 3 refine s_pass rfl rfl ?_
    refine s_y (Y_pk rfl Gx.const (Gx.tmp gt_)) rfl rfl ?_
    exact hm _ ⟨rfl, trivial⟩ rfl
  intro j29
  refine s_y (Y_mv) rfl rfl ?_
  apply s_or 4 [30, 31, 32, 33, 34] 34 (g := 30) rfl rfl
  · intro ht24 hm
    try simp only [nrm_] at ht24
    first | refine s_y (Y_fa 3 rfl Try.underlying29 rfl sz3 rfl) rfl rfl ?_ | refine s_pass rfl rfl ?_
    first | refine s_y ((by first | exact Y_load rfl one3 mm_ (by rfl) | exact Y_loadR rfl one3 hr rfl rfl | exact Y_loadR rfl one3 hr2 rfl rfl | exact Y_load rfl one3 mm_ (eget he rfl) | exact Y_load rfl one3 mm_ (iget hx rfl) | exact Y_load rfl one3 mm_ (by assumption) | exact Y_loadR rfl one3 (by assumption) rfl (by assumption))) rfl rfl ?_ | refine s_pass rfl rfl ?_
    first | refine s_y (Y_gtr rfl rfl) rfl rfl ?_ | refine s_pass rfl rfl ?_
    refine s_y (Y_pk rfl Gx.const (Gx.tmp gt_)) rfl rfl ?_
    first | exact hm _ ⟨rfl, trivial⟩ rfl | exact QL.sub sl_ (hm _ ⟨rfl, trivial⟩ rfl)
  · intro ht24 hm
    iterate 3 refine s_pass rfl rfl ?_
    refine s_y (Y_pk rfl Gx.const (Gx.tmp gt_)) rfl rfl ?_
    exact hm _ ⟨rfl, trivial⟩ rfl
  intro j34
  refine s_nil ?_
  refine q_then ?_
  first | refine c_cond' rfl (fun hc1 => ?_) (fun hc1 => ?_) | refine c_cond rfl (fun hc1 => ?_) (fun hc1 => ?_)
  · skip
    try simp only [nrm_] at hc1
    refine c_seq ?_
    -- ref.go:28 R2
    refine c_reg ?_
    refine s_y (Y_asC) rfl rfl ?_
    refine s_nil ?_
    refine q_then ?_
    refine c_ret ?_
    refine q_retG1 rfl gt_ (L' := _) sl_ (⟨by
        have : numsOk d = false := by
          rw [nums_gold]
          cases goldOk d.gold 4
          · simp
          · unfold btw; rw [Bool.eq_false_iff]; simp only [nrm_, ne_eq, and_true]; omega
        unfold headM; rw [if_pos this], rfl⟩)
  · skip
    try simp only [nrm_] at hc1
    refine c_skip ?_
    refine q_then ?_
    refine c_seq ?_
    refine c_seq ?_
    -- ref.go:30 R3
    have h1 : (btw d.frame 0 1073741823 && btw d.floor 1 3 && btw d.state 0 2) = true := by unfold btw; simp only [nrm_]; omega
    refine c_reg ?_
    refine s_y (Y_asC) rfl rfl ?_
    refine s_nil ?_
    refine q_then ?_
    refine c_block ?_
    refine c_loop [2, 3, 35, 36, 37, 38, 39, 40, 41, 42, 43, 44, 45, 46, 47, 48, 49, 50] (fun m i => i + m = 4 ∧ goldOk d.gold i = true) (fun i => [(3, iv i)]) (fun _ => [wB b1 (wv d s)]) (4) (0) (⟨rfl, rfl⟩) (by repeat (first | exact trivial | refine ⟨rfl, ?_⟩)) (fun _ h => h.sub sl_) (fun _ => rfl) ?_
    rintro m i j ⟨hi, hg⟩ K hK
    refine c_seq ?_
    refine c_seq ?_
    -- ref.go:30 R4
    refine c_reg ?_
    refine s_y (Y_mv) rfl rfl ?_
    refine s_y (Y_lss rfl rfl) rfl rfl ?_
    refine s_nil ?_
    refine q_then ?_
    first | refine c_cond' rfl (fun hc4 => ?_) (fun hc4 => ?_) | refine c_cond rfl (fun hc4 => ?_) (fun hc4 => ?_)
    · skip
      try simp only [nrm_] at hc4
      refine c_skip ?_
      refine q_then ?_
      refine c_seq ?_
      refine c_block ?_
      refine c_seq ?_
      -- ref.go:31 R6
      refine c_reg ?_
      refine s_y (Y_mv) rfl rfl ?_
      refine s_y (Y_fa 7 rfl Try.underlying29 rfl sz27 rfl) rfl rfl ?_
      refine s_y (Y_iaA rfl rfl Try.underlying27 sz3 rfl (by omega)) rfl rfl ?_
      refine s_y (Y_load (v := iv (d.gold.get i)) rfl one3 mm_ (gold_get (by omega))) rfl rfl ?_
      refine s_y (Y_lss rfl rfl) rfl rfl ?_
      refine s_y (Y_mv) rfl rfl ?_
      apply s_or 6 [44, 45, 46, 47, 48, 49, 50] 50 (g := 44) rfl rfl
      · intro ht6 hm
        try simp only [nrm_] at ht6
        first | refine s_y (Y_mv) rfl rfl ?_ | refine s_pass rfl rfl ?_
        first | refine s_y (Y_fa 7 rfl Try.underlying29 rfl sz27 rfl) rfl rfl ?_ | refine s_pass rfl rfl ?_
        first | refine s_y (Y_iaA rfl rfl Try.underlying27 sz3 rfl (by omega)) rfl rfl ?_ | refine s_pass rfl rfl ?_
        first | refine s_y (Y_load (v := iv (d.gold.get i)) rfl one3 mm_ (gold_get (by omega))) rfl rfl ?_ | refine s_pass rfl rfl ?_
        first | refine s_y (Y_gtr rfl rfl) rfl rfl ?_ | refine s_pass rfl rfl ?_
        refine s_y (Y_pk rfl Gx.const (Gx.tmp gt_)) rfl rfl ?_
        first | exact hm _ ⟨rfl, trivial⟩ rfl | exact QL.sub sl_ (hm _ ⟨rfl, trivial⟩ rfl)
      · intro ht6 hm
        iterate 5 refine s_pass rfl rfl ?_
        refine s_y (Y_pk rfl Gx.const (Gx.tmp gt_)) rfl rfl ?_
        exact hm _ ⟨rfl, trivial⟩ rfl
      intro j50
      refine s_nil ?_
      refine q_then ?_
      first | refine c_cond' rfl (fun hc6 => ?_) (fun hc6 => ?_) | refine c_cond rfl (fun hc6 => ?_) (fun hc6 => ?_)
      · skip
        try simp only [nrm_] at hc6
        refine c_seq ?_
        -- ref.go:32 R7
        refine c_reg ?_
        refine s_y (Y_asC) rfl rfl ?_
        refine s_nil ?_
        refine q_then ?_
        refine c_ret ?_
        refine q_retG1 rfl gt_ (L' := _) sl_ (⟨by
            have : numsOk d = false := by
              rw [nums_gold, gold_no (k := i) (by omega) (by unfold btw; rw [Bool.eq_false_iff]; simp only [nrm_, ne_eq]; omega), Bool.and_false]
            unfold headM; rw [if_pos this], rfl⟩)
      · skip
        try simp only [nrm_] at hc6
        refine c_skip ?_
        refine q_bn ?_
        refine q_then ?_
        -- ref.go:30 R5
        refine c_reg ?_
        refine s_y (Y_mv) rfl rfl ?_
        refine s_y ((by first | exact Y_add rfl rfl (by omega) | exact Y_addw rfl rfl)) rfl rfl ?_
        refine s_y (Y_as) rfl rfl ?_
        refine s_nil ?_
        refine hK (m - 1) (i + 1) _ _ (by omega) ⟨by omega, by rw [goldOk_step, hg]; unfold btw; simp only [nrm_, Bool.true_and]; omega⟩ ⟨rfl, trivial⟩ rfl (fun _ h => h)
    · skip
      try simp only [nrm_] at hc4
      refine c_exit ?_
      repeat with_reducible refine q_te ?_
      refine q_exit ?_
      refine q_then ?_
      refine c_seq ?_
      refine c_seq ?_
      -- ref.go:35 R8
      obtain rfl : i = 4 := by omega
      have hn : ¬ numsOk d = false := by rw [nums_gold, hg, h1]; simp
      refine c_reg ?_
      refine s_y (Y_fa 4 rfl Try.underlying29 rfl sz25 rfl) rfl rfl ?_
      refine s_y ((by first | exact Y_load rfl one25 mm_ (by rfl) | exact Y_loadR rfl one25 hr rfl rfl | exact Y_loadR rfl one25 hr2 rfl rfl | exact Y_load rfl one25 mm_ (eget he rfl) | exact Y_load rfl one25 mm_ (iget hx rfl) | exact Y_load rfl one25 mm_ (by assumption) | exact Y_loadR rfl one25 (by assumption) rfl (by assumption))) rfl rfl ?_
      refine s_y (Y_len rfl rfl Try.underlying25) rfl rfl ?_
      refine s_y (Y_neq rfl rfl) rfl rfl ?_
      refine s_y (Y_mv) rfl rfl ?_
      apply s_or 5 [55, 56, 57, 58, 59, 60] 60 (g := 55) rfl rfl
      · intro ht5 hm
        try simp only [nrm_] at ht5
        first | refine s_y (Y_fa 5 rfl Try.underlying29 rfl sz26 rfl) rfl rfl ?_ | refine s_pass rfl rfl ?_
        first | refine s_y ((by first | exact Y_load rfl one26 mm_ (by rfl) | exact Y_loadR rfl one26 hr rfl rfl | exact Y_loadR rfl one26 hr2 rfl rfl | exact Y_load rfl one26 mm_ (eget he rfl) | exact Y_load rfl one26 mm_ (iget hx rfl) | exact Y_load rfl one26 mm_ (by assumption) | exact Y_loadR rfl one26 (by assumption) rfl (by assumption))) rfl rfl ?_ | refine s_pass rfl rfl ?_
        first | refine s_y (Y_len rfl rfl Try.underlying26) rfl rfl ?_ | refine s_pass rfl rfl ?_
        first | refine s_y (Y_neq rfl rfl) rfl rfl ?_ | refine s_pass rfl rfl ?_
        refine s_y (Y_pk rfl Gx.const (Gx.tmp gt_)) rfl rfl ?_
        first | exact hm _ ⟨rfl, trivial⟩ rfl | exact QL.sub sl_ (hm _ ⟨rfl, trivial⟩ rfl)
      · intro ht5 hm
        iterate 4 refine s_pass rfl rfl ?_
        refine s_y (Y_pk rfl Gx.const (Gx.tmp gt_)) rfl rfl ?_
        exact hm _ ⟨rfl, trivial⟩ rfl
      intro j60
      refine s_y (Y_mv) rfl rfl ?_
      apply s_or 5 [61, 62, 63, 64, 65, 66] 66 (g := 61) rfl rfl
      · intro ht11 hm
        try simp only [nrm_] at ht11
        first | refine s_y (Y_fa 6 rfl Try.underlying29 rfl sz23 rfl) rfl rfl ?_ | refine s_pass rfl rfl ?_
        first | refine s_y ((by first | exact Y_load rfl one23 mm_ (by rfl) | exact Y_loadR rfl one23 hr rfl rfl | exact Y_loadR rfl one23 hr2 rfl rfl | exact Y_load rfl one23 mm_ (eget he rfl) | exact Y_load rfl one23 mm_ (iget hx rfl) | exact Y_load rfl one23 mm_ (by assumption) | exact Y_loadR rfl one23 (by assumption) rfl (by assumption))) rfl rfl ?_ | refine s_pass rfl rfl ?_
        first | refine s_y (Y_len rfl rfl Try.underlying23) rfl rfl ?_ | refine s_pass rfl rfl ?_
        first | refine s_y (Y_neq rfl rfl) rfl rfl ?_ | refine s_pass rfl rfl ?_
        refine s_y (Y_pk rfl Gx.const (Gx.tmp gt_)) rfl rfl ?_
        first | exact hm _ ⟨rfl, trivial⟩ rfl | exact QL.sub sl_ (hm _ ⟨rfl, trivial⟩ rfl)
      · intro ht11 hm
        iterate 4 refine s_pass rfl rfl ?_
        refine s_y (Y_pk rfl Gx.const (Gx.tmp gt_)) rfl rfl ?_
        exact hm _ ⟨rfl, trivial⟩ rfl
      intro j66
      refine s_nil ?_
      refine q_then ?_
      first | refine c_cond' rfl (fun hc8 => ?_) (fun hc8 => ?_) | refine c_cond rfl (fun hc8 => ?_) (fun hc8 => ?_)
      · skip
        try simp only [nrm_] at hc8
        refine c_seq ?_
        -- ref.go:36 R9
        refine c_reg ?_
        refine s_y (Y_asC) rfl rfl ?_
        refine s_nil ?_
        refine q_then ?_
        refine c_ret ?_
        refine q_retG1 rfl gt_ (L' := _) sl_ (⟨by
            have : sizesOk d = false := by unfold sizesOk; rw [decide_eq_false_iff_not]; omega
            unfold headM; rw [if_neg hn, if_pos this], rfl⟩)
      · skip
        try simp only [nrm_] at hc8
        refine c_skip ?_
        refine q_then ?_
        refine c_seq ?_
        -- ref.go:38 R10
        have hs : ¬ sizesOk d = false := by unfold sizesOk; simp only [nrm_]; omega
        refine c_reg ?_
        refine s_y (Y_asC) rfl rfl ?_
        refine s_y (Y_asC) rfl rfl ?_
        refine s_nil ?_
        refine q_then ?_
        refine c_seq ?_
        refine c_seq ?_
        -- ref.go:39 R11
        refine c_reg ?_
        refine s_y (Y_asC) rfl rfl ?_
        refine s_nil ?_
        refine q_then ?_
        refine c_block ?_
        refine c_loop [2, 4, 5, 6, 67, 68, 69, 70, 71, 72, 73, 74, 75, 76, 77, 78, 79, 80, 81, 82, 83, 84, 85, 86, 87, 88, 89, 90, 91, 92, 93, 94, 95] (fun m (y : Nat × Nat × Nat) => y.1 + m = d.cells.length ∧ y.2.1 = cnt 3 (d.cells.take y.1) ∧ y.2.2 = cnt 4 (d.cells.take y.1) ∧ (d.cells.take y.1).any (fun x => decide (5 < x.toNat)) = false ∧ y.2.1 ≤ y.1 ∧ y.2.2 ≤ y.1) (fun y => [(6, iv y.1), (4, iv y.2.1), (5, iv y.2.2)]) (fun _ => [wB b1 (wv d s)]) (d.cells.length) ((0, 0, 0)) (⟨by simp only; omega, rfl, rfl, rfl, Nat.le_refl _, Nat.le_refl _⟩) (by repeat (first | exact trivial | refine ⟨rfl, ?_⟩)) (fun _ h => h.sub sl_) (fun _ => rfl) ?_
        rintro m ⟨i, up, dn⟩ j ⟨hi, hu, hd, ha, hu1, hd1⟩ K hK
        simp only at hi hu hd ha hu1 hd1 ⊢
        refine c_seq ?_
        refine c_seq ?_
        -- ref.go:39 R12
        refine c_reg ?_
        refine s_y (Y_mv) rfl rfl ?_
        refine s_y (Y_fa 4 rfl Try.underlying29 rfl sz25 rfl) rfl rfl ?_
        refine s_y ((by first | exact Y_load rfl one25 mm_ (by rfl) | exact Y_loadR rfl one25 hr rfl rfl | exact Y_loadR rfl one25 hr2 rfl rfl | exact Y_load rfl one25 mm_ (eget he rfl) | exact Y_load rfl one25 mm_ (iget hx rfl) | exact Y_load rfl one25 mm_ (by assumption) | exact Y_loadR rfl one25 (by assumption) rfl (by assumption))) rfl rfl ?_
        refine s_y (Y_len rfl rfl Try.underlying25) rfl rfl ?_
        refine s_y (Y_lss rfl rfl) rfl rfl ?_
        refine s_nil ?_
        refine q_then ?_
        first | refine c_cond' rfl (fun hc12 => ?_) (fun hc12 => ?_) | refine c_cond rfl (fun hc12 => ?_) (fun hc12 => ?_)
        · skip
          try simp only [nrm_] at hc12
          refine c_skip ?_
          refine q_then ?_
          refine c_seq ?_
          refine c_block ?_
          refine c_seq ?_
          refine c_seq ?_
          -- ref.go:40 R14
          obtain ⟨x, hx⟩ := take_lt (show i < d.cells.length by omega)
          have hu' := cnt_step (k := 3) hx
          have hd' := cnt_step (k := 4) hx
          have ha' := any_step (p := fun x => decide (5 < x.toNat)) hx
          have e3 : (x.toNat : Int) = 3 ↔ x = 3 := u8_eq (k := 3) (by omega)
          have e4 : (x.toNat : Int) = 4 ↔ x = 4 := u8_eq (k := 4) (by omega)
          rw [← hu] at hu'
          rw [← hd] at hd'
          rw [ha, Bool.false_or] at ha'
          have hlen := hw.c.len
          refine c_reg ?_
          refine s_y (Y_fa 4 rfl Try.underlying29 rfl sz25 rfl) rfl rfl ?_
          refine s_y ((by first | exact Y_load rfl one25 mm_ (by rfl) | exact Y_loadR rfl one25 hr rfl rfl | exact Y_loadR rfl one25 hr2 rfl rfl | exact Y_load rfl one25 mm_ (eget he rfl) | exact Y_load rfl one25 mm_ (iget hx rfl) | exact Y_load rfl one25 mm_ (by assumption) | exact Y_loadR rfl one25 (by assumption) rfl (by assumption))) rfl rfl ?_
          refine s_y (Y_mv) rfl rfl ?_
          refine s_y (Y_ia1 rfl rfl Try.underlying25 sz5 rfl (by omega)) rfl rfl ?_
          refine s_y (Y_loadR (v := bv x) (i := i) rfl one5 hw.c.ro rfl (by rw [List.getElem?_map, hx]; rfl)) rfl rfl ?_
          refine s_y (Y_gtr rfl rfl) rfl rfl ?_
          refine s_nil ?_
          refine q_then ?_
          first | refine c_cond' rfl (fun hc14 => ?_) (fun hc14 => ?_) | refine c_cond rfl (fun hc14 => ?_) (fun hc14 => ?_)
          · skip
            try simp only [nrm_] at hc14
            refine c_seq ?_
            -- ref.go:41 R15
            refine c_reg ?_
            refine s_y (Y_asC) rfl rfl ?_
            refine s_nil ?_
            refine q_then ?_
            refine c_ret ?_
            refine q_retG1 rfl gt_ (L' := _) sl_ (⟨by unfold headM; rw [if_neg hn, if_neg hs, if_pos (any_of hx (decide_eq_true (by omega)))], rfl⟩)
          · skip
            try simp only [nrm_] at hc14
            refine c_skip ?_
            refine q_then ?_
            refine c_seq ?_
            refine c_seq ?_
            -- ref.go:43 R16
            refine c_reg ?_
            refine s_y (Y_fa 4 rfl Try.underlying29 rfl sz25 rfl) rfl rfl ?_
            refine s_y ((by first | exact Y_load rfl one25 mm_ (by rfl) | exact Y_loadR rfl one25 hr rfl rfl | exact Y_loadR rfl one25 hr2 rfl rfl | exact Y_load rfl one25 mm_ (eget he rfl) | exact Y_load rfl one25 mm_ (iget hx rfl) | exact Y_load rfl one25 mm_ (by assumption) | exact Y_loadR rfl one25 (by assumption) rfl (by assumption))) rfl rfl ?_
            refine s_y (Y_mv) rfl rfl ?_
            refine s_y (Y_ia1 rfl rfl Try.underlying25 sz5 rfl (by omega)) rfl rfl ?_
            refine s_y (Y_loadR (v := bv x) (i := i) rfl one5 hw.c.ro rfl (by rw [List.getElem?_map, hx]; rfl)) rfl rfl ?_
            refine s_y (Y_eql rfl rfl) rfl rfl ?_
            refine s_nil ?_
            refine q_then ?_
            first | refine c_cond' rfl (fun hc16 => ?_) (fun hc16 => ?_) | refine c_cond rfl (fun hc16 => ?_) (fun hc16 => ?_)
            · skip
              try simp only [nrm_] at hc16
              -- ref.go:44 R17
              refine c_reg ?_
              refine s_y (Y_mv) rfl rfl ?_
              refine s_y ((by first | exact Y_add rfl rfl (by omega) | exact Y_addw rfl rfl)) rfl rfl ?_
              refine s_y (Y_as) rfl rfl ?_
              refine s_nil ?_
              refine q_then ?_
              refine c_seq ?_
              -- ref.go:46 R18
              refine c_reg ?_
              refine s_y (Y_fa 4 rfl Try.underlying29 rfl sz25 rfl) rfl rfl ?_
              refine s_y ((by first | exact Y_load rfl one25 mm_ (by rfl) | exact Y_loadR rfl one25 hr rfl rfl | exact Y_loadR rfl one25 hr2 rfl rfl | exact Y_load rfl one25 mm_ (eget he rfl) | exact Y_load rfl one25 mm_ (iget hx rfl) | exact Y_load rfl one25 mm_ (by assumption) | exact Y_loadR rfl one25 (by assumption) rfl (by assumption))) rfl rfl ?_
              refine s_y (Y_mv) rfl rfl ?_
              refine s_y (Y_ia1 rfl rfl Try.underlying25 sz5 rfl (by omega)) rfl rfl ?_
              refine s_y (Y_loadR (v := bv x) (i := i) rfl one5 hw.c.ro rfl (by rw [List.getElem?_map, hx]; rfl)) rfl rfl ?_
              refine s_y (Y_eql rfl rfl) rfl rfl ?_
              refine s_nil ?_
              refine q_then ?_
              first | refine c_cond' rfl (fun hc18 => ?_) (fun hc18 => ?_) | refine c_cond rfl (fun hc18 => ?_) (fun hc18 => ?_)
              · skip
                try simp only [nrm_] at hc18
                -- ref.go:47 R19
                refine c_reg ?_
                refine s_y (Y_mv) rfl rfl ?_
                refine s_y ((by first | exact Y_add rfl rfl (by omega) | exact Y_addw rfl rfl)) rfl rfl ?_
                refine s_y (Y_as) rfl rfl ?_
                refine s_nil ?_
                refine q_bn ?_
                refine q_then ?_
                -- ref.go:39 R13
                refine c_reg ?_
                refine s_y (Y_mv) rfl rfl ?_
                refine s_y ((by first | exact Y_add rfl rfl (by omega) | exact Y_addw rfl rfl)) rfl rfl ?_
                refine s_y (Y_as) rfl rfl ?_
                refine s_nil ?_
                exact absurd (hc16.symm.trans hc18) (by decide)
              · skip
                try simp only [nrm_] at hc18
                refine c_skip ?_
                refine q_bn ?_
                refine q_then ?_
                -- ref.go:39 R13
                refine c_reg ?_
                refine s_y (Y_mv) rfl rfl ?_
                refine s_y ((by first | exact Y_add rfl rfl (by omega) | exact Y_addw rfl rfl)) rfl rfl ?_
                refine s_y (Y_as) rfl rfl ?_
                refine s_nil ?_
                refine hK (m - 1) (i + 1, up + 1, dn) _ _ (by omega) ⟨by simp only; omega, by rw [hu', if_pos (e3.1 hc16)], by rw [hd', if_neg (fun h => hc18 (e4.2 h))]; rfl, by rw [ha']; exact decide_eq_false (by omega), by simp only; omega, by simp only; omega⟩ ⟨rfl, rfl, rfl, trivial⟩ rfl (fun _ h => h)
            · skip
              try simp only [nrm_] at hc16
              refine c_skip ?_
              refine q_then ?_
              refine c_seq ?_
              -- ref.go:46 R18
              refine c_reg ?_
              refine s_y (Y_fa 4 rfl Try.underlying29 rfl sz25 rfl) rfl rfl ?_
              refine s_y ((by first | exact Y_load rfl one25 mm_ (by rfl) | exact Y_loadR rfl one25 hr rfl rfl | exact Y_loadR rfl one25 hr2 rfl rfl | exact Y_load rfl one25 mm_ (eget he rfl) | exact Y_load rfl one25 mm_ (iget hx rfl) | exact Y_load rfl one25 mm_ (by assumption) | exact Y_loadR rfl one25 (by assumption) rfl (by assumption))) rfl rfl ?_
              refine s_y (Y_mv) rfl rfl ?_
              refine s_y (Y_ia1 rfl rfl Try.underlying25 sz5 rfl (by omega)) rfl rfl ?_
              refine s_y (Y_loadR (v := bv x) (i := i) rfl one5 hw.c.ro rfl (by rw [List.getElem?_map, hx]; rfl)) rfl rfl ?_
              refine s_y (Y_eql rfl rfl) rfl rfl ?_
              refine s_nil ?_
              refine q_then ?_
              first | refine c_cond' rfl (fun hc18 => ?_) (fun hc18 => ?_) | refine c_cond rfl (fun hc18 => ?_) (fun hc18 => ?_)
              · skip
                try simp only [nrm_] at hc18
                -- ref.go:47 R19
                refine c_reg ?_
                refine s_y (Y_mv) rfl rfl ?_
                refine s_y ((by first | exact Y_add rfl rfl (by omega) | exact Y_addw rfl rfl)) rfl rfl ?_
                refine s_y (Y_as) rfl rfl ?_
                refine s_nil ?_
                refine q_bn ?_
                refine q_then ?_
                -- ref.go:39 R13
                refine c_reg ?_
                refine s_y (Y_mv) rfl rfl ?_
                refine s_y ((by first | exact Y_add rfl rfl (by omega) | exact Y_addw rfl rfl)) rfl rfl ?_
                refine s_y (Y_as) rfl rfl ?_
                refine s_nil ?_
                refine hK (m - 1) (i + 1, up, dn + 1) _ _ (by omega) ⟨by simp only; omega, by rw [hu', if_neg (fun h => hc16 (e3.2 h))]; rfl, by rw [hd', if_pos (e4.1 hc18)], by rw [ha']; exact decide_eq_false (by omega), by simp only; omega, by simp only; omega⟩ ⟨rfl, rfl, rfl, trivial⟩ rfl (fun _ h => h)
              · skip
                try simp only [nrm_] at hc18
                refine c_skip ?_
                refine q_bn ?_
                refine q_then ?_
                -- ref.go:39 R13
                refine c_reg ?_
                refine s_y (Y_mv) rfl rfl ?_
                refine s_y ((by first | exact Y_add rfl rfl (by omega) | exact Y_addw rfl rfl)) rfl rfl ?_
                refine s_y (Y_as) rfl rfl ?_
                refine s_nil ?_
                refine hK (m - 1) (i + 1, up, dn) _ _ (by omega) ⟨by simp only; omega, by rw [hu', if_neg (fun h => hc16 (e3.2 h))]; rfl, by rw [hd', if_neg (fun h => hc18 (e4.2 h))]; rfl, by rw [ha']; exact decide_eq_false (by omega), by simp only; omega, by simp only; omega⟩ ⟨rfl, rfl, rfl, trivial⟩ rfl (fun _ h => h)
        · skip
          try simp only [nrm_] at hc12
          refine c_exit ?_
          repeat with_reducible refine q_te ?_
          refine q_exit ?_
          refine q_then ?_
          refine c_seq ?_
          refine c_seq ?_
          -- ref.go:50 R20
          obtain rfl : i = d.cells.length := by omega
          rw [List.take_length] at hu hd ha
          refine c_reg ?_
          refine s_y (Y_mv) rfl rfl ?_
          refine s_y (Y_neq rfl rfl) rfl rfl ?_
          refine s_y (Y_mv) rfl rfl ?_
          apply s_or 3 [98, 99, 100, 101] 101 (g := 98) rfl rfl
          · intro ht3 hm
            try simp only [nrm_] at ht3
            first | refine s_y (Y_mv) rfl rfl ?_ | refine s_pass rfl rfl ?_
            first | refine s_y (Y_neq rfl rfl) rfl rfl ?_ | refine s_pass rfl rfl ?_
            refine s_y (Y_pk rfl Gx.const (Gx.tmp gt_)) rfl rfl ?_
            first | exact hm _ ⟨rfl, trivial⟩ rfl | exact QL.sub sl_ (hm _ ⟨rfl, trivial⟩ rfl)
          · intro ht3 hm
            iterate 2 refine s_pass rfl rfl ?_
            refine s_y (Y_pk rfl Gx.const (Gx.tmp gt_)) rfl rfl ?_
            exact hm _ ⟨rfl, trivial⟩ rfl
          intro j101
          refine s_nil ?_
          refine q_then ?_
          first | refine c_cond' rfl (fun hc20 => ?_) (fun hc20 => ?_) | refine c_cond rfl (fun hc20 => ?_) (fun hc20 => ?_)
          · skip
            try simp only [nrm_] at hc20
            refine c_seq ?_
            -- ref.go:51 R21
            refine c_reg ?_
            refine s_y (Y_asC) rfl rfl ?_
            refine s_nil ?_
            refine q_then ?_
            refine c_ret ?_
            refine q_retG1 rfl gt_ (L' := _) sl_ (⟨by unfold headM; rw [if_neg hn, if_neg hs, if_neg (by rw [ha]; simp), if_neg (by omega)], rfl⟩)
          · skip
            try simp only [nrm_] at hc20
            refine c_skip ?_
            refine q_then ?_
            refine c_seq ?_
            -- ref.go:53 R22
            refine c_reg ?_
            refine s_y (Y_asC) rfl rfl ?_
            refine s_nil ?_
            refine q_then ?_
            refine c_ret ?_
            refine q_retG1 rfl gt_ (L' := _) sl_ (⟨by unfold headM; rw [if_neg hn, if_neg hs, if_neg (by rw [ha]; simp), if_pos (by omega)], rfl⟩)
set_option maxRecDepth 100000 in
theorem rent_d {d : Wd} {s : Ws} (hw : WAt W d s) {i : Nat} {e : Ent} (he : d.ents[i]? = some e) : Does Try.prog 28 [.agg (wv d s).toArray, iv i] W [] (fun v L => v = iv (entM d i e) ∧ L = []) := by
  have hr := hw.e.at' Ent.len he
  have hcap := hw.e.cap
  have hil : i < d.ents.length := (List.getElem?_eq_some_iff.1 he).1
  have hst := hw.e.take Ent.len (Nat.le_of_lt hil) rfl
  obtain ⟨st, hst0⟩ : ∃ q, statsM e.kind = q := ⟨_, rfl⟩
  refine enter Try.func28 rfl rfl rfl (Has.start _) ?_
  refine c_seq ?_
  -- ref.go:57 R0
  refine c_reg ?_
  refine s_n (N_box (cs := wv d s) rfl) rfl rfl (fun b2 _ => ?_)
  refine s_y (Y_asC) rfl rfl ?_
  refine s_nil ?_
  refine q_then ?_
  refine c_seq ?_
  -- ref.go:58 R1
  refine c_reg ?_
  refine s_y (Y_fa 5 rfl Try.underlying29 rfl sz26 rfl) rfl rfl ?_
  refine s_y ((by first | exact Y_load rfl one26 mm_ (by rfl) | exact Y_loadR rfl one26 hr rfl rfl | exact Y_loadR rfl one26 hr2 rfl rfl | exact Y_load rfl one26 mm_ (eget he rfl) | exact Y_load rfl one26 mm_ (iget hx rfl) | exact Y_load rfl one26 mm_ (by assumption) | exact Y_loadR rfl one26 (by assumption) rfl (by assumption))) rfl rfl ?_
  refine s_y (Y_mv) rfl rfl ?_
  refine s_y (Y_ia rfl rfl Try.underlying26 sz48 rfl (by omega)) rfl rfl ?_
  refine s_y ((by first | exact Y_loadAll rfl many48 mm_ (by rfl) | exact Y_loadN rfl many48 mm_ ‹_› ‹_› | exact Y_loadNR rfl many48 hr rfl | exact Y_loadNR rfl many48 hr2 rfl | exact Y_loadNR rfl many48 ‹_› rfl)) rfl rfl ?_
  refine s_n (N_alloc (z := .agg #[.int .i64 0, .int .i64 0, .int .i64 0, .int .i64 0, .int .i64 0, .int .i64 0, .int .i64 0, .int .i64 0, .int .i64 0, .int .i64 0, .int .i64 0]) (cs := [.int .i64 0, .int .i64 0, .int .i64 0, .int .i64 0, .int .i64 0, .int .i64 0, .int .i64 0, .int .i64 0, .int .i64 0, .int .i64 0, .int .i64 0]) zv48 rfl) rfl rfl (fun b5 _ => ?_)
  refine s_s (S_storeA (vs := e.cells) rfl rfl sz48 (by rfl) (by rfl) (by repeat (first | exact Upd.head | apply Upd.tail)) (by rfl)) rfl ?_
  refine s_nil ?_
  refine q_then ?_
  refine c_seq ?_
  refine c_seq ?_
  -- ref.go:59 R2
  refine c_reg ?_
  refine s_y (Y_fa 0 rfl Try.underlying48 rfl sz3 rfl) rfl rfl ?_
  refine s_y ((by first | exact Y_load rfl one3 mm_ (by rfl) | exact Y_loadR rfl one3 hr rfl rfl | exact Y_loadR rfl one3 hr2 rfl rfl | exact Y_load rfl one3 mm_ (eget he rfl) | exact Y_load rfl one3 mm_ (iget hx rfl) | exact Y_load rfl one3 mm_ (by assumption) | exact Y_loadR rfl one3 (by assumption) rfl (by assumption))) rfl rfl ?_
  refine s_y (Y_lss rfl rfl) rfl rfl ?_
  refine s_y (Y_mv) rfl rfl ?_
  apply s_or 4 [15, 16, 17, 18, 19] 19 (g := 15) rfl rfl
  · intro ht4 hm
    try simp only [nrm_] at ht4
    first | refine s_y (Y_fa 0 rfl Try.underlying48 rfl sz3 rfl) rfl rfl ?_ | refine s_pass rfl rfl ?_
    first | refine s_y ((by first | exact Y_load rfl one3 mm_ (by rfl) | exact Y_loadR rfl one3 hr rfl rfl | exact Y_loadR rfl one3 hr2 rfl rfl | exact Y_load rfl one3 mm_ (eget he rfl) | exact Y_load rfl one3 mm_ (iget hx rfl) | exact Y_load rfl one3 mm_ (by assumption) | exact Y_loadR rfl one3 (by assumption) rfl (by assumption))) rfl rfl ?_ | refine s_pass rfl rfl ?_
    first | refine s_y (Y_gtr rfl rfl) rfl rfl ?_ | refine s_pass rfl rfl ?_
    refine s_y (Y_pk rfl Gx.const (Gx.tmp gt_)) rfl rfl ?_
    first | exact hm _ ⟨rfl, trivial⟩ rfl | exact QL.sub sl_ (hm _ ⟨rfl, trivial⟩ rfl)
  · intro ht4 hm
    iterate 3 refine s_pass rfl rfl ?_
    refine s_y (Y_pk rfl Gx.const (Gx.tmp gt_)) rfl rfl ?_
    exact hm _ ⟨rfl, trivial⟩ rfl
  intro j19
  refine s_nil ?_
  refine q_then ?_
  first | refine c_cond' rfl (fun hc2 => ?_) (fun hc2 => ?_) | refine c_cond rfl (fun hc2 => ?_) (fun hc2 => ?_)
  · skip
    try simp only [nrm_] at hc2
    refine c_seq ?_
    -- ref.go:60 R3
    refine c_reg ?_
    refine s_y (Y_asC) rfl rfl ?_
    refine s_nil ?_
    refine q_then ?_
    refine c_ret ?_
    refine q_retG1 rfl gt_ (L' := _) sl_ (⟨by unfold entM; rw [if_pos]; unfold btw; rw [Bool.eq_false_iff]; simp only [nrm_, ne_eq]; omega, rfl⟩)
  · skip
    try simp only [nrm_] at hc2
    refine c_skip ?_
    refine q_then ?_
    refine c_seq ?_
    refine c_seq ?_
    -- ref.go:62 R4
    have hk : ¬ btw e.kind 0 4 = false := by unfold btw; simp only [nrm_]; omega
    refine c_reg ?_
    refine s_y (Y_fa 1 rfl Try.underlying48 rfl sz3 rfl) rfl rfl ?_
    refine s_y ((by first | exact Y_load rfl one3 mm_ (by rfl) | exact Y_loadR rfl one3 hr rfl rfl | exact Y_loadR rfl one3 hr2 rfl rfl | exact Y_load rfl one3 mm_ (eget he rfl) | exact Y_load rfl one3 mm_ (iget hx rfl) | exact Y_load rfl one3 mm_ (by assumption) | exact Y_loadR rfl one3 (by assumption) rfl (by assumption))) rfl rfl ?_
    refine s_y (Y_lss rfl rfl) rfl rfl ?_
    refine s_y (Y_mv) rfl rfl ?_
    apply s_or 4 [23, 24, 25, 26, 27] 27 (g := 23) rfl rfl
    · intro ht4 hm
      try simp only [nrm_] at ht4
      first | refine s_y (Y_fa 1 rfl Try.underlying48 rfl sz3 rfl) rfl rfl ?_ | refine s_pass rfl rfl ?_
      first | refine s_y ((by first | exact Y_load rfl one3 mm_ (by rfl) | exact Y_loadR rfl one3 hr rfl rfl | exact Y_loadR rfl one3 hr2 rfl rfl | exact Y_load rfl one3 mm_ (eget he rfl) | exact Y_load rfl one3 mm_ (iget hx rfl) | exact Y_load rfl one3 mm_ (by assumption) | exact Y_loadR rfl one3 (by assumption) rfl (by assumption))) rfl rfl ?_ | refine s_pass rfl rfl ?_
      first | refine s_y (Y_gtr rfl rfl) rfl rfl ?_ | refine s_pass rfl rfl ?_
      refine s_y (Y_pk rfl Gx.const (Gx.tmp gt_)) rfl rfl ?_
      first | exact hm _ ⟨rfl, trivial⟩ rfl | exact QL.sub sl_ (hm _ ⟨rfl, trivial⟩ rfl)
    · intro ht4 hm
      iterate 3 refine s_pass rfl rfl ?_
      refine s_y (Y_pk rfl Gx.const (Gx.tmp gt_)) rfl rfl ?_
      exact hm _ ⟨rfl, trivial⟩ rfl
    intro j27
    refine s_nil ?_
    refine q_then ?_
    first | refine c_cond' rfl (fun hc4 => ?_) (fun hc4 => ?_) | refine c_cond rfl (fun hc4 => ?_) (fun hc4 => ?_)
    · skip
      try simp only [nrm_] at hc4
      refine c_seq ?_
      -- ref.go:63 R5
      refine c_reg ?_
      refine s_y (Y_asC) rfl rfl ?_
      refine s_nil ?_
      refine q_then ?_
      refine c_ret ?_
      refine q_retG1 rfl gt_ (L' := _) sl_ (⟨by
          have : fitsM d i e = false := by
            by_cases h0 : e.kind = 0
            · unfold fitsM btw; rw [Bool.eq_false_iff]; simp only [nrm_, ne_eq]; omega
            · rw [Bool.eq_false_iff, ne_eq, fits_iff h0]; omega
          unfold entM; rw [if_neg hk, this]; rfl, rfl⟩)
    · skip
      try simp only [nrm_] at hc4
      refine c_skip ?_
      refine q_then ?_
      refine c_seq ?_
      refine c_seq ?_
      -- ref.go:65 R6
      refine c_reg ?_
      refine s_y (Y_fa 0 rfl Try.underlying48 rfl sz3 rfl) rfl rfl ?_
      refine s_y ((by first | exact Y_load rfl one3 mm_ (by rfl) | exact Y_loadR rfl one3 hr rfl rfl | exact Y_loadR rfl one3 hr2 rfl rfl | exact Y_load rfl one3 mm_ (eget he rfl) | exact Y_load rfl one3 mm_ (iget hx rfl) | exact Y_load rfl one3 mm_ (by assumption) | exact Y_loadR rfl one3 (by assumption) rfl (by assumption))) rfl rfl ?_
      refine s_y (Y_eql rfl rfl) rfl rfl ?_
      refine s_nil ?_
      refine q_then ?_
      first | refine c_cond' rfl (fun hc6 => ?_) (fun hc6 => ?_) | refine c_cond rfl (fun hc6 => ?_) (fun hc6 => ?_)
      · skip
        try simp only [nrm_] at hc6
        refine c_seq ?_
        refine c_seq ?_
        -- ref.go:66 R7
        refine c_reg ?_
        refine s_y ((by first | exact Y_loadAll rfl many48 mm_ (by rfl) | exact Y_loadN rfl many48 mm_ ‹_› ‹_› | exact Y_loadNR rfl many48 hr rfl | exact Y_loadNR rfl many48 hr2 rfl | exact Y_loadNR rfl many48 ‹_› rfl)) rfl rfl ?_
        refine s_y (Y_fa 1 rfl Try.underlying48 rfl sz3 rfl) rfl rfl ?_
        refine s_y ((by first | exact Y_load rfl one3 mm_ (by rfl) | exact Y_loadR rfl one3 hr rfl rfl | exact Y_loadR rfl one3 hr2 rfl rfl | exact Y_load rfl one3 mm_ (eget he rfl) | exact Y_load rfl one3 mm_ (iget hx rfl) | exact Y_load rfl one3 mm_ (by assumption) | exact Y_loadR rfl one3 (by assumption) rfl (by assumption))) rfl rfl ?_
        refine s_y (Y_build (cs := [.int .i64 0, _, .int .i64 0, .int .i64 0, .int .i64 0, .int .i64 0, .int .i64 0, .int .i64 0, .int .i64 0, .int .i64 0, .int .i64 0]) (by repeat (first | exact Gp.nil | apply Gp.const | apply Gp.tmp gt_)) (bld48 _ _ (by first | rfl | (simp; rfl)))) rfl rfl ?_
        refine s_y (Y_neF (zs := [e.kind, e.gen, e.seat, e.x, e.y, e.hp, e.max, e.atk, e.df, e.poison, e.stun]) (zs' := [0, e.gen, 0, 0, 0, 0, 0, 0, 0, 0, 0]) rfl rfl flat48 rfl rfl) rfl rfl ?_
        refine s_nil ?_
        refine q_then ?_
        first | refine c_cond' rfl (fun hc7 => ?_) (fun hc7 => ?_) | refine c_cond rfl (fun hc7 => ?_) (fun hc7 => ?_)
        · skip
          try simp only [nrm_] at hc7
          refine c_seq ?_
          -- ref.go:67 R8
          refine c_reg ?_
          refine s_y (Y_asC) rfl rfl ?_
          refine s_nil ?_
          refine q_then ?_
          refine c_ret ?_
          refine q_retG1 rfl gt_ (L' := _) sl_ (⟨by
              have : fitsM d i e = false := by
                unfold fitsM btw
                rw [if_pos hc6]
                rw [Bool.eq_false_iff]
                intro h
                apply hc7
                simp only [nrm_] at h
                obtain ⟨_, h1, h2, h3, h4, h5, h6, h7, h8, h9⟩ := h
                rw [hc6, h1, h2, h3, h4, h5, h6, h7, h8, h9]
              unfold entM; rw [if_neg hk, this]; rfl, rfl⟩)
        · skip
          try simp only [nrm_] at hc7
          refine c_skip ?_
          refine q_then ?_
          refine c_seq ?_
          -- ref.go:69 R9
          refine c_reg ?_
          refine s_y (Y_asC) rfl rfl ?_
          refine s_nil ?_
          refine q_then ?_
          refine c_ret ?_
          refine q_retG1 rfl gt_ (L' := _) sl_ (⟨by
              have : fitsM d i e = true := by
                simp only [List.cons.injEq, and_true, true_and] at hc7
                unfold fitsM btw
                rw [if_pos hc6]
                simp only [nrm_]
                omega
              unfold entM; rw [if_neg hk, this]; rfl, rfl⟩)
      · skip
        try simp only [nrm_] at hc6
        refine c_skip ?_
        refine q_then ?_
        refine c_seq ?_
        -- ref.go:71 R10
        refine c_reg ?_
        refine s_y (Y_fa 0 rfl Try.underlying48 rfl sz3 rfl) rfl rfl ?_
        refine s_y ((by first | exact Y_load rfl one3 mm_ (by rfl) | exact Y_loadR rfl one3 hr rfl rfl | exact Y_loadR rfl one3 hr2 rfl rfl | exact Y_load rfl one3 mm_ (eget he rfl) | exact Y_load rfl one3 mm_ (iget hx rfl) | exact Y_load rfl one3 mm_ (by assumption) | exact Y_loadR rfl one3 (by assumption) rfl (by assumption))) rfl rfl ?_
        refine s_c (En_call (fun _ => rfl) Try.func17 rfl (by kernel_rfl) rfl) (fun w hH => rstats_d) rfl rfl ?_
        rintro _ _ ⟨rfl, rfl⟩
        rw [hst0]
        refine s_n (N_alloc (z := .agg #[.int .i64 0, .int .i64 0, .int .i64 0, .int .i64 0, .int .i64 0, .int .i64 0, .int .i64 0, .int .i64 0, .int .i64 0, .int .i64 0, .int .i64 0]) (cs := [.int .i64 0, .int .i64 0, .int .i64 0, .int .i64 0, .int .i64 0, .int .i64 0, .int .i64 0, .int .i64 0, .int .i64 0, .int .i64 0, .int .i64 0]) zv48 rfl) rfl rfl (fun b6 _ => ?_)
        refine s_s (S_storeA (vs := st.cells) rfl rfl sz48 (by rfl) (by rfl) (by repeat (first | exact Upd.head | apply Upd.tail)) (by rfl)) rfl ?_
        refine s_nil ?_
        refine q_then ?_
        refine c_seq ?_
        refine c_seq ?_
        -- ref.go:72 R11
        refine c_rordS (L0 := [⟨b6, 48, 11, 1, st.cells⟩, ⟨b5, 48, 11, 1, e.cells⟩, wB b2 (wv d s)]) sl_ [] [(0, true), (1, true), (2, true), (3, true), (4, true), (5, true), (6, false), (7, false), (8, true), (9, true), (10, true), (11, true), (12, true), (13, true), (14, true), (15, true), (16, true), (17, true), (18, false), (19, true), (20, true), (21, true), (22, true), (23, true), (24, true), (25, true), (26, true), (27, true), (28, true), (29, true), (30, true), (31, true), (32, true), (33, true), (34, true), (35, true), (36, true), (37, true), (38, true), (39, true), (40, true), (41, true), (42, true), (43, true), (44, true), (45, true), (46, true), (47, true), (48, true), (49, true), (50, true), (51, true), (52, true), (53, true), (54, true), (55, true), (56, true), (57, true), (58, true), (59, true), (60, true), (61, true), (62, true), (63, true), (64, true), (65, true), (66, true), (67, true), (68, true), (69, true), (70, true), (71, true), (72, true), (73, true)] (by kernel_rfl) (by kernel_rfl) (by kernel_rfl) (by kernel_rfl) rfl (by intro c a d v w h; cases d <;> exact h) rfl ?_
        simp only [mkOrd, List.filterMap_cons, List.filterMap_nil, List.getElem?_toArray, List.getElem?_cons_zero, List.getElem?_cons_succ, Option.map_some]
        refine o_y (Y_fa 4 rfl Try.underlying29 rfl sz25 rfl) rfl rfl ?_
        refine o_y ((by first | exact Y_load rfl one25 mm_ (by rfl) | exact Y_loadR rfl one25 hr rfl rfl | exact Y_loadR rfl one25 hr2 rfl rfl | exact Y_load rfl one25 mm_ (eget he rfl) | exact Y_load rfl one25 mm_ (iget hx rfl) | exact Y_load rfl one25 mm_ (by assumption) | exact Y_loadR rfl one25 (by assumption) rfl (by assumption))) rfl rfl ?_
        refine o_y (Y_fa 3 rfl Try.underlying48 rfl sz3 rfl) rfl rfl ?_
        refine o_y ((by first | exact Y_load rfl one3 mm_ (by rfl) | exact Y_loadR rfl one3 hr rfl rfl | exact Y_loadR rfl one3 hr2 rfl rfl | exact Y_load rfl one3 mm_ (eget he rfl) | exact Y_load rfl one3 mm_ (iget hx rfl) | exact Y_load rfl one3 mm_ (by assumption) | exact Y_loadR rfl one3 (by assumption) rfl (by assumption))) rfl rfl ?_
        refine o_y (Y_fa 4 rfl Try.underlying48 rfl sz3 rfl) rfl rfl ?_
        refine o_y ((by first | exact Y_load rfl one3 mm_ (by rfl) | exact Y_loadR rfl one3 hr rfl rfl | exact Y_loadR rfl one3 hr2 rfl rfl | exact Y_load rfl one3 mm_ (eget he rfl) | exact Y_load rfl one3 mm_ (iget hx rfl) | exact Y_load rfl one3 mm_ (by assumption) | exact Y_loadR rfl one3 (by assumption) rfl (by assumption))) rfl rfl ?_
        refine o_c (En_call (fun _ => rfl) Try.func47 rfl (by kernel_rfl) rfl) (fun w hH => rat_d (hw.c.has hH)) (fun _ _ h => by obtain ⟨rfl, rfl⟩ := h; exact (by first | exact keep_no rfl | (refine keep_sub ?_; (repeat (first | exact List.Sublist.refl _ | exact List.nil_sublist _ | apply List.Sublist.cons_cons | apply List.Sublist.cons)); done) | (refine keep_sub (List.Sublist.trans ?_ (List.sublist_append_right _ _)); (repeat (first | exact List.Sublist.refl _ | exact List.nil_sublist _ | apply List.Sublist.cons_cons | apply List.Sublist.cons)); done))) rfl rfl ?_
        rintro _ _ ⟨rfl, rfl⟩
        refine o_c (En_call (fun _ => rfl) Try.func15 rfl (by kernel_rfl) rfl) (fun w hH => rwalk_d) (fun _ _ h => by obtain ⟨rfl, rfl⟩ := h; exact (by first | exact keep_no rfl | (refine keep_sub ?_; (repeat (first | exact List.Sublist.refl _ | exact List.nil_sublist _ | apply List.Sublist.cons_cons | apply List.Sublist.cons)); done) | (refine keep_sub (List.Sublist.trans ?_ (List.sublist_append_right _ _)); (repeat (first | exact List.Sublist.refl _ | exact List.nil_sublist _ | apply List.Sublist.cons_cons | apply List.Sublist.cons)); done))) rfl rfl ?_
        rintro _ _ ⟨rfl, rfl⟩
        refine o_y (Y_not rfl) rfl rfl ?_
        refine o_y (Y_mv) rfl rfl ?_
        apply o_or 11 [48, 49, 50, 51, 52, 53, 54, 55, 56, 57, 58, 59] 59 (g := 48) rfl rfl
        · intro ht10 hm
          try simp only [nrm_] at ht10
          first | refine o_y (Y_fa 5 rfl Try.underlying29 rfl sz26 rfl) rfl rfl ?_ | refine o_pass rfl rfl ?_
          first | refine o_y ((by first | exact Y_load rfl one26 mm_ (by rfl) | exact Y_loadR rfl one26 hr rfl rfl | exact Y_loadR rfl one26 hr2 rfl rfl | exact Y_load rfl one26 mm_ (eget he rfl) | exact Y_load rfl one26 mm_ (iget hx rfl) | exact Y_load rfl one26 mm_ (by assumption) | exact Y_loadR rfl one26 (by assumption) rfl (by assumption))) rfl rfl ?_ | refine o_pass rfl rfl ?_
          first | refine o_y (Y_mv) rfl rfl ?_ | refine o_pass rfl rfl ?_
          first | refine o_y (Y_slHi rfl rfl Try.underlying26 sz48 rfl (by omega)) rfl rfl ?_ | refine o_pass rfl rfl ?_
          first | refine o_y (Y_fa 3 rfl Try.underlying48 rfl sz3 rfl) rfl rfl ?_ | refine o_pass rfl rfl ?_
          first | refine o_y ((by first | exact Y_load rfl one3 mm_ (by rfl) | exact Y_loadR rfl one3 hr rfl rfl | exact Y_loadR rfl one3 hr2 rfl rfl | exact Y_load rfl one3 mm_ (eget he rfl) | exact Y_load rfl one3 mm_ (iget hx rfl) | exact Y_load rfl one3 mm_ (by assumption) | exact Y_loadR rfl one3 (by assumption) rfl (by assumption))) rfl rfl ?_ | refine o_pass rfl rfl ?_
          first | refine o_y (Y_fa 4 rfl Try.underlying48 rfl sz3 rfl) rfl rfl ?_ | refine o_pass rfl rfl ?_
          first | refine o_y ((by first | exact Y_load rfl one3 mm_ (by rfl) | exact Y_loadR rfl one3 hr rfl rfl | exact Y_loadR rfl one3 hr2 rfl rfl | exact Y_load rfl one3 mm_ (eget he rfl) | exact Y_load rfl one3 mm_ (iget hx rfl) | exact Y_load rfl one3 mm_ (by assumption) | exact Y_loadR rfl one3 (by assumption) rfl (by assumption))) rfl rfl ?_ | refine o_pass rfl rfl ?_
          refine o_c (En_call (fun _ => rfl) Try.func16 rfl (by kernel_rfl) rfl) (fun w hH => reat_d (hst.has hH)) (fun _ _ h => by obtain ⟨rfl, rfl⟩ := h; exact (by first | exact keep_no rfl | (refine keep_sub ?_; (repeat (first | exact List.Sublist.refl _ | exact List.nil_sublist _ | apply List.Sublist.cons_cons | apply List.Sublist.cons)); done) | (refine keep_sub (List.Sublist.trans ?_ (List.sublist_append_right _ _)); (repeat (first | exact List.Sublist.refl _ | exact List.nil_sublist _ | apply List.Sublist.cons_cons | apply List.Sublist.cons)); done))) rfl rfl ?_
          rintro _ _ ⟨rfl, rfl⟩
          first | refine o_y (Y_geq rfl rfl) rfl rfl ?_ | refine o_pass rfl rfl ?_
          refine o_y (Y_pk rfl Gx.const (Gx.tmp gt_)) rfl rfl ?_
          first | exact hm _ ⟨rfl, trivial⟩ rfl | exact QL.sub sl_ (hm _ ⟨rfl, trivial⟩ rfl)
        · intro ht10 hm
          iterate 8 refine o_pass rfl rfl ?_
          refine o_none (by first | exact keep_no rfl | (refine keep_sub ?_; (repeat (first | exact List.Sublist.refl _ | exact List.nil_sublist _ | apply List.Sublist.cons_cons | apply List.Sublist.cons)); done) | (refine keep_sub (List.Sublist.trans ?_ (List.sublist_append_right _ _)); (repeat (first | exact List.Sublist.refl _ | exact List.nil_sublist _ | apply List.Sublist.cons_cons | apply List.Sublist.cons)); done)) rfl rfl ?_
          iterate 1 refine o_pass rfl rfl ?_
          refine o_y (Y_pk rfl Gx.const (Gx.tmp gt_)) rfl rfl ?_
          exact hm _ ⟨rfl, trivial⟩ rfl
        intro j59
        refine o_y (Y_mv) rfl rfl ?_
        apply o_or 4 [60, 61, 62, 63, 64] 64 (g := 60) rfl rfl
        · intro ht22 hm
          try simp only [nrm_] at ht22
          first | refine o_y (Y_fa 5 rfl Try.underlying48 rfl sz3 rfl) rfl rfl ?_ | refine o_pass rfl rfl ?_
          first | refine o_y ((by first | exact Y_load rfl one3 mm_ (by rfl) | exact Y_loadR rfl one3 hr rfl rfl | exact Y_loadR rfl one3 hr2 rfl rfl | exact Y_load rfl one3 mm_ (eget he rfl) | exact Y_load rfl one3 mm_ (iget hx rfl) | exact Y_load rfl one3 mm_ (by assumption) | exact Y_loadR rfl one3 (by assumption) rfl (by assumption))) rfl rfl ?_ | refine o_pass rfl rfl ?_
          first | refine o_y (Y_lss rfl rfl) rfl rfl ?_ | refine o_pass rfl rfl ?_
          refine o_y (Y_pk rfl Gx.const (Gx.tmp gt_)) rfl rfl ?_
          first | exact hm _ ⟨rfl, trivial⟩ rfl | exact QL.sub sl_ (hm _ ⟨rfl, trivial⟩ rfl)
        · intro ht22 hm
          iterate 3 refine o_pass rfl rfl ?_
          refine o_y (Y_pk rfl Gx.const (Gx.tmp gt_)) rfl rfl ?_
          exact hm _ ⟨rfl, trivial⟩ rfl
        intro j64
        refine o_y (Y_mv) rfl rfl ?_
        apply o_or 6 [65, 66, 67, 68, 69, 70, 71] 71 (g := 65) rfl rfl
        · intro ht27 hm
          try simp only [nrm_] at ht27
          first | refine o_y (Y_fa 5 rfl Try.underlying48 rfl sz3 rfl) rfl rfl ?_ | refine o_pass rfl rfl ?_
          first | refine o_y ((by first | exact Y_load rfl one3 mm_ (by rfl) | exact Y_loadR rfl one3 hr rfl rfl | exact Y_loadR rfl one3 hr2 rfl rfl | exact Y_load rfl one3 mm_ (eget he rfl) | exact Y_load rfl one3 mm_ (iget hx rfl) | exact Y_load rfl one3 mm_ (by assumption) | exact Y_loadR rfl one3 (by assumption) rfl (by assumption))) rfl rfl ?_ | refine o_pass rfl rfl ?_
          first | refine o_y (Y_fa 6 rfl Try.underlying48 rfl sz3 rfl) rfl rfl ?_ | refine o_pass rfl rfl ?_
          first | refine o_y ((by first | exact Y_load rfl one3 mm_ (by rfl) | exact Y_loadR rfl one3 hr rfl rfl | exact Y_loadR rfl one3 hr2 rfl rfl | exact Y_load rfl one3 mm_ (eget he rfl) | exact Y_load rfl one3 mm_ (iget hx rfl) | exact Y_load rfl one3 mm_ (by assumption) | exact Y_loadR rfl one3 (by assumption) rfl (by assumption))) rfl rfl ?_ | refine o_pass rfl rfl ?_
          first | refine o_y (Y_gtr rfl rfl) rfl rfl ?_ | refine o_pass rfl rfl ?_
          refine o_y (Y_pk rfl Gx.const (Gx.tmp gt_)) rfl rfl ?_
          first | exact hm _ ⟨rfl, trivial⟩ rfl | exact QL.sub sl_ (hm _ ⟨rfl, trivial⟩ rfl)
        · intro ht27 hm
          iterate 5 refine o_pass rfl rfl ?_
          refine o_y (Y_pk rfl Gx.const (Gx.tmp gt_)) rfl rfl ?_
          exact hm _ ⟨rfl, trivial⟩ rfl
        intro j71
        refine o_y (Y_mv) rfl rfl ?_
        apply o_or 6 [72, 73, 74, 75, 76, 77, 78] 78 (g := 72) rfl rfl
        · intro ht34 hm
          try simp only [nrm_] at ht34
          first | refine o_y (Y_fa 6 rfl Try.underlying48 rfl sz3 rfl) rfl rfl ?_ | refine o_pass rfl rfl ?_
          first | refine o_y ((by first | exact Y_load rfl one3 mm_ (by rfl) | exact Y_loadR rfl one3 hr rfl rfl | exact Y_loadR rfl one3 hr2 rfl rfl | exact Y_load rfl one3 mm_ (eget he rfl) | exact Y_load rfl one3 mm_ (iget hx rfl) | exact Y_load rfl one3 mm_ (by assumption) | exact Y_loadR rfl one3 (by assumption) rfl (by assumption))) rfl rfl ?_ | refine o_pass rfl rfl ?_
          first | refine o_y (Y_fa 6 rfl Try.underlying48 rfl sz3 rfl) rfl rfl ?_ | refine o_pass rfl rfl ?_
          first | refine o_y ((by first | exact Y_load rfl one3 mm_ (by rfl) | exact Y_loadR rfl one3 hr rfl rfl | exact Y_loadR rfl one3 hr2 rfl rfl | exact Y_load rfl one3 mm_ (eget he rfl) | exact Y_load rfl one3 mm_ (iget hx rfl) | exact Y_load rfl one3 mm_ (by assumption) | exact Y_loadR rfl one3 (by assumption) rfl (by assumption))) rfl rfl ?_ | refine o_pass rfl rfl ?_
          first | refine o_y (Y_neq rfl rfl) rfl rfl ?_ | refine o_pass rfl rfl ?_
          refine o_y (Y_pk rfl Gx.const (Gx.tmp gt_)) rfl rfl ?_
          first | exact hm _ ⟨rfl, trivial⟩ rfl | exact QL.sub sl_ (hm _ ⟨rfl, trivial⟩ rfl)
        · intro ht34 hm
          iterate 5 refine o_pass rfl rfl ?_
          refine o_y (Y_pk rfl Gx.const (Gx.tmp gt_)) rfl rfl ?_
          exact hm _ ⟨rfl, trivial⟩ rfl
        intro j78
        refine o_y (Y_mv) rfl rfl ?_
        apply o_or 6 [79, 80, 81, 82, 83, 84, 85] 85 (g := 79) rfl rfl
        · intro ht41 hm
          try simp only [nrm_] at ht41
          first | refine o_y (Y_fa 7 rfl Try.underlying48 rfl sz3 rfl) rfl rfl ?_ | refine o_pass rfl rfl ?_
          first | refine o_y ((by first | exact Y_load rfl one3 mm_ (by rfl) | exact Y_loadR rfl one3 hr rfl rfl | exact Y_loadR rfl one3 hr2 rfl rfl | exact Y_load rfl one3 mm_ (eget he rfl) | exact Y_load rfl one3 mm_ (iget hx rfl) | exact Y_load rfl one3 mm_ (by assumption) | exact Y_loadR rfl one3 (by assumption) rfl (by assumption))) rfl rfl ?_ | refine o_pass rfl rfl ?_
          first | refine o_y (Y_fa 7 rfl Try.underlying48 rfl sz3 rfl) rfl rfl ?_ | refine o_pass rfl rfl ?_
          first | refine o_y ((by first | exact Y_load rfl one3 mm_ (by rfl) | exact Y_loadR rfl one3 hr rfl rfl | exact Y_loadR rfl one3 hr2 rfl rfl | exact Y_load rfl one3 mm_ (eget he rfl) | exact Y_load rfl one3 mm_ (iget hx rfl) | exact Y_load rfl one3 mm_ (by assumption) | exact Y_loadR rfl one3 (by assumption) rfl (by assumption))) rfl rfl ?_ | refine o_pass rfl rfl ?_
          first | refine o_y (Y_neq rfl rfl) rfl rfl ?_ | refine o_pass rfl rfl ?_
          refine o_y (Y_pk rfl Gx.const (Gx.tmp gt_)) rfl rfl ?_
          first | exact hm _ ⟨rfl, trivial⟩ rfl | exact QL.sub sl_ (hm _ ⟨rfl, trivial⟩ rfl)
        · intro ht41 hm
          iterate 5 refine o_pass rfl rfl ?_
          refine o_y (Y_pk rfl Gx.const (Gx.tmp gt_)) rfl rfl ?_
          exact hm _ ⟨rfl, trivial⟩ rfl
        intro j85
        refine o_y (Y_mv) rfl rfl ?_
        apply o_or 6 [86, 87, 88, 89, 90, 91, 92] 92 (g := 86) rfl rfl
        · intro ht48 hm
          try simp only [nrm_] at ht48
          first | refine o_y (Y_fa 8 rfl Try.underlying48 rfl sz3 rfl) rfl rfl ?_ | refine o_pass rfl rfl ?_
          first | refine o_y ((by first | exact Y_load rfl one3 mm_ (by rfl) | exact Y_loadR rfl one3 hr rfl rfl | exact Y_loadR rfl one3 hr2 rfl rfl | exact Y_load rfl one3 mm_ (eget he rfl) | exact Y_load rfl one3 mm_ (iget hx rfl) | exact Y_load rfl one3 mm_ (by assumption) | exact Y_loadR rfl one3 (by assumption) rfl (by assumption))) rfl rfl ?_ | refine o_pass rfl rfl ?_
          first | refine o_y (Y_fa 8 rfl Try.underlying48 rfl sz3 rfl) rfl rfl ?_ | refine o_pass rfl rfl ?_
          first | refine o_y ((by first | exact Y_load rfl one3 mm_ (by rfl) | exact Y_loadR rfl one3 hr rfl rfl | exact Y_loadR rfl one3 hr2 rfl rfl | exact Y_load rfl one3 mm_ (eget he rfl) | exact Y_load rfl one3 mm_ (iget hx rfl) | exact Y_load rfl one3 mm_ (by assumption) | exact Y_loadR rfl one3 (by assumption) rfl (by assumption))) rfl rfl ?_ | refine o_pass rfl rfl ?_
          first | refine o_y (Y_neq rfl rfl) rfl rfl ?_ | refine o_pass rfl rfl ?_
          refine o_y (Y_pk rfl Gx.const (Gx.tmp gt_)) rfl rfl ?_
          first | exact hm _ ⟨rfl, trivial⟩ rfl | exact QL.sub sl_ (hm _ ⟨rfl, trivial⟩ rfl)
        · intro ht48 hm
          iterate 5 refine o_pass rfl rfl ?_
          refine o_y (Y_pk rfl Gx.const (Gx.tmp gt_)) rfl rfl ?_
          exact hm _ ⟨rfl, trivial⟩ rfl
        intro j92
        refine o_y (Y_mv) rfl rfl ?_
        apply o_or 4 [93, 94, 95, 96, 97] 97 (g := 93) rfl rfl
        · intro ht55 hm
          try simp only [nrm_] at ht55
          first | refine o_y (Y_fa 9 rfl Try.underlying48 rfl sz3 rfl) rfl rfl ?_ | refine o_pass rfl rfl ?_
          first | refine o_y ((by first | exact Y_load rfl one3 mm_ (by rfl) | exact Y_loadR rfl one3 hr rfl rfl | exact Y_loadR rfl one3 hr2 rfl rfl | exact Y_load rfl one3 mm_ (eget he rfl) | exact Y_load rfl one3 mm_ (iget hx rfl) | exact Y_load rfl one3 mm_ (by assumption) | exact Y_loadR rfl one3 (by assumption) rfl (by assumption))) rfl rfl ?_ | refine o_pass rfl rfl ?_
          first | refine o_y (Y_lss rfl rfl) rfl rfl ?_ | refine o_pass rfl rfl ?_
          refine o_y (Y_pk rfl Gx.const (Gx.tmp gt_)) rfl rfl ?_
          first | exact hm _ ⟨rfl, trivial⟩ rfl | exact QL.sub sl_ (hm _ ⟨rfl, trivial⟩ rfl)
        · intro ht55 hm
          iterate 3 refine o_pass rfl rfl ?_
          refine o_y (Y_pk rfl Gx.const (Gx.tmp gt_)) rfl rfl ?_
          exact hm _ ⟨rfl, trivial⟩ rfl
        intro j97
        refine o_y (Y_mv) rfl rfl ?_
        apply o_or 4 [98, 99, 100, 101, 102] 102 (g := 98) rfl rfl
        · intro ht60 hm
          try simp only [nrm_] at ht60
          first | refine o_y (Y_fa 9 rfl Try.underlying48 rfl sz3 rfl) rfl rfl ?_ | refine o_pass rfl rfl ?_
          first | refine o_y ((by first | exact Y_load rfl one3 mm_ (by rfl) | exact Y_loadR rfl one3 hr rfl rfl | exact Y_loadR rfl one3 hr2 rfl rfl | exact Y_load rfl one3 mm_ (eget he rfl) | exact Y_load rfl one3 mm_ (iget hx rfl) | exact Y_load rfl one3 mm_ (by assumption) | exact Y_loadR rfl one3 (by assumption) rfl (by assumption))) rfl rfl ?_ | refine o_pass rfl rfl ?_
          first | refine o_y (Y_gtr rfl rfl) rfl rfl ?_ | refine o_pass rfl rfl ?_
          refine o_y (Y_pk rfl Gx.const (Gx.tmp gt_)) rfl rfl ?_
          first | exact hm _ ⟨rfl, trivial⟩ rfl | exact QL.sub sl_ (hm _ ⟨rfl, trivial⟩ rfl)
        · intro ht60 hm
          iterate 3 refine o_pass rfl rfl ?_
          refine o_y (Y_pk rfl Gx.const (Gx.tmp gt_)) rfl rfl ?_
          exact hm _ ⟨rfl, trivial⟩ rfl
        intro j102
        refine o_y (Y_mv) rfl rfl ?_
        apply o_or 4 [103, 104, 105, 106, 107] 107 (g := 103) rfl rfl
        · intro ht65 hm
          try simp only [nrm_] at ht65
          first | refine o_y (Y_fa 10 rfl Try.underlying48 rfl sz3 rfl) rfl rfl ?_ | refine o_pass rfl rfl ?_
          first | refine o_y ((by first | exact Y_load rfl one3 mm_ (by rfl) | exact Y_loadR rfl one3 hr rfl rfl | exact Y_loadR rfl one3 hr2 rfl rfl | exact Y_load rfl one3 mm_ (eget he rfl) | exact Y_load rfl one3 mm_ (iget hx rfl) | exact Y_load rfl one3 mm_ (by assumption) | exact Y_loadR rfl one3 (by assumption) rfl (by assumption))) rfl rfl ?_ | refine o_pass rfl rfl ?_
          first | refine o_y (Y_lss rfl rfl) rfl rfl ?_ | refine o_pass rfl rfl ?_
          refine o_y (Y_pk rfl Gx.const (Gx.tmp gt_)) rfl rfl ?_
          first | exact hm _ ⟨rfl, trivial⟩ rfl | exact QL.sub sl_ (hm _ ⟨rfl, trivial⟩ rfl)
        · intro ht65 hm
          iterate 3 refine o_pass rfl rfl ?_
          refine o_y (Y_pk rfl Gx.const (Gx.tmp gt_)) rfl rfl ?_
          exact hm _ ⟨rfl, trivial⟩ rfl
        intro j107
        refine o_y (Y_mv) rfl rfl ?_
        apply o_or 4 [108, 109, 110, 111, 112] 112 (g := 108) rfl rfl
        · intro ht70 hm
          try simp only [nrm_] at ht70
          first | refine o_y (Y_fa 10 rfl Try.underlying48 rfl sz3 rfl) rfl rfl ?_ | refine o_pass rfl rfl ?_
          first | refine o_y ((by first | exact Y_load rfl one3 mm_ (by rfl) | exact Y_loadR rfl one3 hr rfl rfl | exact Y_loadR rfl one3 hr2 rfl rfl | exact Y_load rfl one3 mm_ (eget he rfl) | exact Y_load rfl one3 mm_ (iget hx rfl) | exact Y_load rfl one3 mm_ (by assumption) | exact Y_loadR rfl one3 (by assumption) rfl (by assumption))) rfl rfl ?_ | refine o_pass rfl rfl ?_
          first | refine o_y (Y_gtr rfl rfl) rfl rfl ?_ | refine o_pass rfl rfl ?_
          refine o_y (Y_pk rfl Gx.const (Gx.tmp gt_)) rfl rfl ?_
          first | exact hm _ ⟨rfl, trivial⟩ rfl | exact QL.sub sl_ (hm _ ⟨rfl, trivial⟩ rfl)
        · intro ht70 hm
          iterate 3 refine o_pass rfl rfl ?_
          refine o_y (Y_pk rfl Gx.const (Gx.tmp gt_)) rfl rfl ?_
          exact hm _ ⟨rfl, trivial⟩ rfl
        intro j112
        refine o_nil ?_
        refine q_then ?_
        first | refine c_cond' rfl (fun hc11 => ?_) (fun hc11 => ?_) | refine c_cond rfl (fun hc11 => ?_) (fun hc11 => ?_)
        · skip
          try simp only [nrm_] at hc11
          refine c_seq ?_
          -- ref.go:73 R12
          have hno : fitsM d i e = false := by
            rw [Bool.eq_false_iff, ne_eq, fits_iff hc6, hst0]
            rintro ⟨h1, h2, h3, h4, h5, h6, h7, h8, h9, h10, h11⟩
            rw [h2] at hc11
            simp only [nrm_, reduceCtorEq, false_or] at hc11
            omega
          refine c_reg ?_
          refine s_y (Y_asC) rfl rfl ?_
          refine s_nil ?_
          refine q_then ?_
          refine c_ret ?_
          refine q_retG1 rfl gt_ (L' := _) sl_ (⟨by unfold entM; rw [if_neg hk, hno]; rfl, rfl⟩)
        · skip
          try simp only [nrm_] at hc11
          refine c_skip ?_
          refine q_then ?_
          refine c_seq ?_
          refine c_seq ?_
          -- ref.go:75 R13
          have hyes : walkM (atM d.cells e.x e.y) = true := by
            cases h : walkM (atM d.cells e.x e.y)
            · rw [h] at hc11; simp at hc11
            · rfl
          refine c_rord [] [(0, true), (1, true), (2, true), (3, true), (4, true), (5, true), (6, true), (7, true), (8, true), (9, true), (10, true), (11, true), (12, true), (13, true), (14, true), (15, true), (16, true), (17, true), (18, true), (19, false), (20, true), (21, true), (22, true), (23, true), (24, true), (25, true), (26, true), (27, true), (28, true), (29, true), (30, true), (31, true), (32, true)] (by kernel_rfl) (by kernel_rfl) (by kernel_rfl) (by kernel_rfl) rfl (by intro c a d v w h; cases d <;> exact h) rfl ?_
          simp only [mkOrd, List.filterMap_cons, List.filterMap_nil, List.getElem?_toArray, List.getElem?_cons_zero, List.getElem?_cons_succ, Option.map_some]
          refine o_y (Y_fa 0 rfl Try.underlying48 rfl sz3 rfl) rfl rfl ?_
          refine o_y ((by first | exact Y_load rfl one3 mm_ (by rfl) | exact Y_loadR rfl one3 hr rfl rfl | exact Y_loadR rfl one3 hr2 rfl rfl | exact Y_load rfl one3 mm_ (eget he rfl) | exact Y_load rfl one3 mm_ (iget hx rfl) | exact Y_load rfl one3 mm_ (by assumption) | exact Y_loadR rfl one3 (by assumption) rfl (by assumption))) rfl rfl ?_
          refine o_y (Y_eql rfl rfl) rfl rfl ?_
          refine o_y (Y_mv) rfl rfl ?_
          apply o_and 19 [116, 117, 118, 119, 120, 121, 122, 123, 124, 125, 126, 127, 128, 129, 130, 131, 132, 133, 134, 135] 135 (g := 116) rfl rfl
          · intro ht4 hm
            try simp only [nrm_] at ht4
            first | refine o_y (Y_fa 2 rfl Try.underlying48 rfl sz3 rfl) rfl rfl ?_ | refine o_pass rfl rfl ?_
            first | refine o_y ((by first | exact Y_load rfl one3 mm_ (by rfl) | exact Y_loadR rfl one3 hr rfl rfl | exact Y_loadR rfl one3 hr2 rfl rfl | exact Y_load rfl one3 mm_ (eget he rfl) | exact Y_load rfl one3 mm_ (iget hx rfl) | exact Y_load rfl one3 mm_ (by assumption) | exact Y_loadR rfl one3 (by assumption) rfl (by assumption))) rfl rfl ?_ | refine o_pass rfl rfl ?_
            first | refine o_y (Y_lss rfl rfl) rfl rfl ?_ | refine o_pass rfl rfl ?_
            first | refine o_y (Y_mv) rfl rfl ?_ | refine o_pass rfl rfl ?_
            apply o_or 4 [120, 121, 122, 123, 124] 124 (g := 120) rfl rfl
            · intro ht8 hm
              try simp only [nrm_] at ht8
              first | refine o_y (Y_fa 2 rfl Try.underlying48 rfl sz3 rfl) rfl rfl ?_ | refine o_pass rfl rfl ?_
              first | refine o_y ((by first | exact Y_load rfl one3 mm_ (by rfl) | exact Y_loadR rfl one3 hr rfl rfl | exact Y_loadR rfl one3 hr2 rfl rfl | exact Y_load rfl one3 mm_ (eget he rfl) | exact Y_load rfl one3 mm_ (iget hx rfl) | exact Y_load rfl one3 mm_ (by assumption) | exact Y_loadR rfl one3 (by assumption) rfl (by assumption))) rfl rfl ?_ | refine o_pass rfl rfl ?_
              first | refine o_y (Y_geq rfl rfl) rfl rfl ?_ | refine o_pass rfl rfl ?_
              first | refine o_y (Y_pk rfl Gx.const (Gx.tmp gt_)) rfl rfl ?_ | refine o_pass rfl rfl ?_
              first | exact hm _ ⟨rfl, trivial⟩ rfl | exact QL.sub sl_ (hm _ ⟨rfl, trivial⟩ rfl)
            · intro ht8 hm
              iterate 3 refine o_pass rfl rfl ?_
              first | refine o_y (Y_pk rfl Gx.const (Gx.tmp gt_)) rfl rfl ?_ | refine o_pass rfl rfl ?_
              exact hm _ ⟨rfl, trivial⟩ rfl
            intro j124
            first | refine o_y (Y_mv) rfl rfl ?_ | refine o_pass rfl rfl ?_
            apply o_or 9 [125, 126, 127, 128, 129, 130, 131, 132, 133, 134] 134 (g := 125) rfl rfl
            · intro ht13 hm
              try simp only [nrm_] at ht13
              first | refine o_y (Y_fa 5 rfl Try.underlying29 rfl sz26 rfl) rfl rfl ?_ | refine o_pass rfl rfl ?_
              first | refine o_y ((by first | exact Y_load rfl one26 mm_ (by rfl) | exact Y_loadR rfl one26 hr rfl rfl | exact Y_loadR rfl one26 hr2 rfl rfl | exact Y_load rfl one26 mm_ (eget he rfl) | exact Y_load rfl one26 mm_ (iget hx rfl) | exact Y_load rfl one26 mm_ (by assumption) | exact Y_loadR rfl one26 (by assumption) rfl (by assumption))) rfl rfl ?_ | refine o_pass rfl rfl ?_
              first | refine o_y (Y_mv) rfl rfl ?_ | refine o_pass rfl rfl ?_
              first | refine o_y (Y_slHi rfl rfl Try.underlying26 sz48 rfl (by omega)) rfl rfl ?_ | refine o_pass rfl rfl ?_
              first | refine o_y (Y_fa 2 rfl Try.underlying48 rfl sz3 rfl) rfl rfl ?_ | refine o_pass rfl rfl ?_
              first | refine o_y ((by first | exact Y_load rfl one3 mm_ (by rfl) | exact Y_loadR rfl one3 hr rfl rfl | exact Y_loadR rfl one3 hr2 rfl rfl | exact Y_load rfl one3 mm_ (eget he rfl) | exact Y_load rfl one3 mm_ (iget hx rfl) | exact Y_load rfl one3 mm_ (by assumption) | exact Y_loadR rfl one3 (by assumption) rfl (by assumption))) rfl rfl ?_ | refine o_pass rfl rfl ?_
              refine o_c (En_call (fun _ => rfl) Try.func18 rfl (by kernel_rfl) rfl) (fun w hH => rhero_d (hst.has hH)) (fun _ _ h => by obtain ⟨rfl, rfl⟩ := h; exact (by first | exact keep_no rfl | (refine keep_sub ?_; (repeat (first | exact List.Sublist.refl _ | exact List.nil_sublist _ | apply List.Sublist.cons_cons | apply List.Sublist.cons)); done) | (refine keep_sub (List.Sublist.trans ?_ (List.sublist_append_right _ _)); (repeat (first | exact List.Sublist.refl _ | exact List.nil_sublist _ | apply List.Sublist.cons_cons | apply List.Sublist.cons)); done))) rfl rfl ?_
              rintro _ _ ⟨rfl, rfl⟩
              first | refine o_y (Y_geq rfl rfl) rfl rfl ?_ | refine o_pass rfl rfl ?_
              first | refine o_y (Y_pk rfl Gx.const (Gx.tmp gt_)) rfl rfl ?_ | refine o_pass rfl rfl ?_
              first | exact hm _ ⟨rfl, trivial⟩ rfl | exact QL.sub sl_ (hm _ ⟨rfl, trivial⟩ rfl)
            · intro ht13 hm
              iterate 6 refine o_pass rfl rfl ?_
              refine o_none (by first | exact keep_no rfl | (refine keep_sub ?_; (repeat (first | exact List.Sublist.refl _ | exact List.nil_sublist _ | apply List.Sublist.cons_cons | apply List.Sublist.cons)); done) | (refine keep_sub (List.Sublist.trans ?_ (List.sublist_append_right _ _)); (repeat (first | exact List.Sublist.refl _ | exact List.nil_sublist _ | apply List.Sublist.cons_cons | apply List.Sublist.cons)); done)) rfl rfl ?_
              iterate 1 refine o_pass rfl rfl ?_
              first | refine o_y (Y_pk rfl Gx.const (Gx.tmp gt_)) rfl rfl ?_ | refine o_pass rfl rfl ?_
              exact hm _ ⟨rfl, trivial⟩ rfl
            intro j134
            refine o_y (Y_pk rfl (Gx.tmp gt_) Gx.const) rfl rfl ?_
            first | exact hm _ ⟨rfl, trivial⟩ rfl | exact QL.sub sl_ (hm _ ⟨rfl, trivial⟩ rfl)
          · intro ht4 hm
            iterate 15 refine o_pass rfl rfl ?_
            refine o_none (by first | exact keep_no rfl | (refine keep_sub ?_; (repeat (first | exact List.Sublist.refl _ | exact List.nil_sublist _ | apply List.Sublist.cons_cons | apply List.Sublist.cons)); done) | (refine keep_sub (List.Sublist.trans ?_ (List.sublist_append_right _ _)); (repeat (first | exact List.Sublist.refl _ | exact List.nil_sublist _ | apply List.Sublist.cons_cons | apply List.Sublist.cons)); done)) rfl rfl ?_
            iterate 2 refine o_pass rfl rfl ?_
            refine o_y (Y_pk rfl (Gx.tmp gt_) Gx.const) rfl rfl ?_
            exact hm _ ⟨rfl, trivial⟩ rfl
          intro j135
          refine o_y (Y_mv) rfl rfl ?_
          apply o_or 9 [136, 137, 138, 139, 140, 141, 142, 143, 144, 145] 145 (g := 136) rfl rfl
          · intro ht24 hm
            try simp only [nrm_] at ht24
            first | refine o_y (Y_fa 0 rfl Try.underlying48 rfl sz3 rfl) rfl rfl ?_ | refine o_pass rfl rfl ?_
            first | refine o_y ((by first | exact Y_load rfl one3 mm_ (by rfl) | exact Y_loadR rfl one3 hr rfl rfl | exact Y_loadR rfl one3 hr2 rfl rfl | exact Y_load rfl one3 mm_ (eget he rfl) | exact Y_load rfl one3 mm_ (iget hx rfl) | exact Y_load rfl one3 mm_ (by assumption) | exact Y_loadR rfl one3 (by assumption) rfl (by assumption))) rfl rfl ?_ | refine o_pass rfl rfl ?_
            first | refine o_y (Y_neq rfl rfl) rfl rfl ?_ | refine o_pass rfl rfl ?_
            first | refine o_y (Y_mv) rfl rfl ?_ | refine o_pass rfl rfl ?_
            apply o_and 4 [140, 141, 142, 143, 144] 144 (g := 140) rfl rfl
            · intro ht28 hm
              try simp only [nrm_] at ht28
              first | refine o_y (Y_fa 2 rfl Try.underlying48 rfl sz3 rfl) rfl rfl ?_ | refine o_pass rfl rfl ?_
              first | refine o_y ((by first | exact Y_load rfl one3 mm_ (by rfl) | exact Y_loadR rfl one3 hr rfl rfl | exact Y_loadR rfl one3 hr2 rfl rfl | exact Y_load rfl one3 mm_ (eget he rfl) | exact Y_load rfl one3 mm_ (iget hx rfl) | exact Y_load rfl one3 mm_ (by assumption) | exact Y_loadR rfl one3 (by assumption) rfl (by assumption))) rfl rfl ?_ | refine o_pass rfl rfl ?_
              first | refine o_y (Y_neq rfl rfl) rfl rfl ?_ | refine o_pass rfl rfl ?_
              first | refine o_y (Y_pk rfl (Gx.tmp gt_) Gx.const) rfl rfl ?_ | refine o_pass rfl rfl ?_
              first | exact hm _ ⟨rfl, trivial⟩ rfl | exact QL.sub sl_ (hm _ ⟨rfl, trivial⟩ rfl)
            · intro ht28 hm
              iterate 3 refine o_pass rfl rfl ?_
              first | refine o_y (Y_pk rfl (Gx.tmp gt_) Gx.const) rfl rfl ?_ | refine o_pass rfl rfl ?_
              exact hm _ ⟨rfl, trivial⟩ rfl
            intro j144
            refine o_y (Y_pk rfl Gx.const (Gx.tmp gt_)) rfl rfl ?_
            first | exact hm _ ⟨rfl, trivial⟩ rfl | exact QL.sub sl_ (hm _ ⟨rfl, trivial⟩ rfl)
          · intro ht24 hm
            iterate 8 refine o_pass rfl rfl ?_
            refine o_y (Y_pk rfl Gx.const (Gx.tmp gt_)) rfl rfl ?_
            exact hm _ ⟨rfl, trivial⟩ rfl
          intro j145
          refine o_nil ?_
          refine q_then ?_
          first | refine c_cond' rfl (fun hc13 => ?_) (fun hc13 => ?_) | refine c_cond rfl (fun hc13 => ?_) (fun hc13 => ?_)
          · skip
            try simp only [nrm_] at hc13
            refine c_seq ?_
            -- ref.go:76 R14
            refine c_reg ?_
            refine s_y (Y_asC) rfl rfl ?_
            refine s_nil ?_
            refine q_then ?_
            refine c_ret ?_
            refine q_retG1 rfl gt_ (L' := _) sl_ (⟨by
                have hno : fitsM d i e = false := by
                  rw [Bool.eq_false_iff, ne_eq, fits_iff hc6, hst0]
                  rintro ⟨h1, h2, h3, h4, h5, h6, h7, h8, h9, h10, h11⟩
                  omega
                unfold entM; rw [if_neg hk, hno]; rfl, rfl⟩)
          · skip
            try simp only [nrm_] at hc13
            refine c_skip ?_
            refine q_then ?_
            refine c_seq ?_
            -- ref.go:78 R15
            refine c_reg ?_
            refine s_y (Y_asC) rfl rfl ?_
            refine s_nil ?_
            refine q_then ?_
            refine c_ret ?_
            refine q_retG1 rfl gt_ (L' := _) sl_ (⟨by
                have hok : fitsM d i e = true := by
                  rw [fits_iff hc6, hst0]
                  exact ⟨by omega, hyes, by omega, by omega, by omega, by omega, by omega, by omega, by omega, fun hk1 => by omega, fun hk1 => by omega⟩
                unfold entM; rw [if_neg hk, hok]; rfl, rfl⟩)
end
end Go.Proofs.Ytecodneffflpoaa
