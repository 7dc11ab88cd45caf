/- Floors as they are made: one up stair, one down stair. -/
import Derived.Test.YtecodneffflpoaaP3
namespace Go.Proofs.Ytecodneffflpoaa
open Go.RowKit Go.Ad Go.Maps
set_option linter.unusedVariables false
set_option linter.unusedSimpArgs false
/-- What is reached stays as it is. -/
theorem tryD_keep {cells : List UInt8} {bl : List Bool} {i : Nat} {st : List Int × List Nat} {d k : Nat} (h : 0 ≤ getI st.1 k) : getI (tryD cells bl i st d).1 k = getI st.1 k := by
  unfold tryD
  split
  · rename_i ho
    simp only [opens, Bool.and_eq_true, decide_eq_true_eq] at ho
    unfold getI at *
    rw [List.getD_eq_getElem?_getD, List.getElem?_set]
    by_cases hk : ((nbM i d).2 * 24 + (nbM i d).1).toNat = k
    · have := ho.1.1.2
      rw [hk] at this
      omega
    · rw [if_neg hk, ← List.getD_eq_getElem?_getD]
  · rfl
theorem tries_keep {cells : List UInt8} {bl : List Bool} {i : Nat} {st : List Int × List Nat} {k : Nat} (h : 0 ≤ getI st.1 k) : ∀ d, getI (triesM cells bl i st d).1 k = getI st.1 k
  | 0 => rfl
  | d + 1 => by
    have ih := tries_keep (cells := cells) (bl := bl) (i := i) h d
    rw [triesM, tryD_keep (by rw [ih]; exact h), ih]
theorem bfs_keep {cells : List UInt8} {bl : List Bool} {k : Nat} : ∀ (n q : Nat) (st : List Int × List Nat), 0 ≤ getI st.1 k → getI (bfs cells bl n q st) k = getI st.1 k
  | 0, _, _, _ => rfl
  | n + 1, q, st, h => by
    rw [bfs]
    cases st.2[q]? with
    | none => rfl
    | some i =>
      simp only
      have := tries_keep (cells := cells) (bl := bl) (i := i) h 4
      rw [bfs_keep n (q + 1) _ (by rw [this]; exact h), this]
theorem far_max (f : List Int) (up : Nat) : ∀ n, getI f up ≤ getI f (farM f up n) ∧ ∀ i, i < n → getI f i ≤ getI f (farM f up n)
  | 0 => ⟨Int.le_refl _, fun i h => by omega⟩
  | n + 1 => by
    obtain ⟨h1, h2⟩ := far_max f up n
    rw [farM]
    split
    · rename_i hg
      refine ⟨by omega, fun i hi => ?_⟩
      by_cases he : i = n
      · subst he; exact Int.le_refl _
      · have := h2 i (by omega); omega
    · rename_i hg
      refine ⟨h1, fun i hi => ?_⟩
      by_cases he : i = n
      · subst he; omega
      · exact h2 i (by omega)
theorem walk1 {cells : List UInt8} {x y : Int} {k : Nat} (hx : inM x y = true) (hk : y * 24 + x = (k : Int)) (hl : cells.length = 384) (hb : 1 ≤ byteAt cells k ∧ byteAt cells k ≤ 5) : walkM (atM cells x y) = true := by
  simp only [inM, decide_eq_true_eq] at hx
  unfold atM
  rw [if_pos ⟨by simp only [inM, decide_eq_true_eq]; omega, by omega⟩, hk, Int.toNat_natCast]
  unfold walkM
  rw [decide_eq_true_eq]; exact hb
theorem east_arith {mx my rx ry rw_ rh_ : Int} {k0 w h : Nat} (hr : 3 ≤ rw_ ∧ rw_ ≤ 7 ∧ 2 ≤ rh_ ∧ rh_ ≤ 5 ∧ 1 ≤ rx ∧ rx + rw_ ≤ 23 ∧ 1 ≤ ry ∧ ry + rh_ ≤ 15) (hmx : mx = rx + rw_ / 2) (hmy : my = ry + rh_ / 2) (h0 : (k0 : Int) = ry * 24 + rx) (h1 : (w : Int) = rw_) (h2 : (h : Int) = rh_) :
    ∃ k : Nat, (k : Int) = my * 24 + (mx + 1) ∧ k < 384 ∧ k = k0 + 24 * (h / 2) + (w / 2 + 1) ∧ h / 2 < h ∧ w / 2 + 1 < w := by
  refine ⟨k0 + 24 * (h / 2) + (w / 2 + 1), ?_, ?_, rfl, ?_, ?_⟩ <;> omega
/-- The cell east of the first room's middle is floor. -/
theorem east_floor (seed floor : Int) : ∃ k : Nat, (k : Int) = midY seed floor 0 * 24 + (midX seed floor 0 + 1) ∧ k < 384 ∧ byteAt (corrsM seed floor (digRooms seed floor 6) 5) k = 1 := by
  obtain ⟨k0, w, h, h0, h1, h2⟩ := room_nat seed floor 0
  obtain ⟨k, hk1, hk2, hk3, hk4, hk5⟩ := east_arith (room_rng seed floor 0) (show midX seed floor 0 = roomX seed floor 0 + roomW seed floor 0 / 2 from rfl) (show midY seed floor 0 = roomY seed floor 0 + roomH seed floor 0 / 2 from rfl) h0 h1 h2
  refine ⟨k, hk1, hk2, ?_⟩
  refine (corrsM_h1 seed floor _ 5).2.1 _ ?_
  refine (digRooms_stays seed floor 1 5).2 _ ?_
  have c0 : ((0 : Nat) : Int) = 0 := rfl
  have hd := dig_start (seed := seed) (floor := floor) (i := 0) (k0 := k0) (rw := w) (rh := h) (by rw [c0]; exact h0) (by rw [c0]; exact h1) (by rw [c0]; exact h2)
  rw [Nat.mul_zero, Nat.add_zero] at hd
  rw [← hd]
  have hl := digRooms_len seed floor 0
  have := fillRect_one h (digRooms seed floor 0) k0 w (h / 2) (w / 2 + 1) hk4 hk5 (by rw [hl, ← hk3]; exact hk2)
  rw [hk3]
  exact this
theorem corr_low (seed floor : Int) : low 2 (corrsM seed floor (digRooms seed floor 6) 5) := (corrsM_h1 seed floor _ 5).2.2 (low_mono (digRooms_low seed floor 6) (by decide))
theorem base_at (seed floor : Int) (k : Nat) : byteAt (baseM seed floor) k = if upM seed floor = k then 3 else byteAt (corrsM seed floor (digRooms seed floor 6) 5) k := by
  have hu := (up_eq seed floor).2
  rw [baseM, byteAt_put]
  by_cases h : upM seed floor = k
  · rw [if_pos ⟨h, by rw [corrsM_len, digRooms_len]; exact hu⟩, if_pos h]; rfl
  · rw [if_neg (fun q => h q.1), if_neg h]
theorem far_up (seed floor : Int) : farMM seed floor ≠ upM seed floor := by
  obtain ⟨hue, hu⟩ := up_eq seed floor
  have hm := mid_rng seed floor 0
  obtain ⟨k, hk, hk384, hk1⟩ := east_floor seed floor
  obtain ⟨mx, hmx⟩ : ∃ q, midX seed floor 0 = q := ⟨_, rfl⟩
  obtain ⟨my, hmy⟩ : ∃ q, midY seed floor 0 = q := ⟨_, rfl⟩
  rw [hmx, hmy] at hue hm hk
  have hbl := base_len seed floor
  have hb : ∀ q, byteAt (baseM seed floor) q = if upM seed floor = q then 3 else byteAt (corrsM seed floor (digRooms seed floor 6) 5) q := base_at seed floor
  obtain ⟨up, hup⟩ : ∃ q, upM seed floor = q := ⟨_, rfl⟩
  obtain ⟨bs, hbs⟩ : ∃ q, baseM seed floor = q := ⟨_, rfl⟩
  have hdist : distM seed floor = fieldM bs [] [(up : Int)] := by rw [← hup, ← hbs]; rfl
  rw [hup] at hue hu hb
  rw [hbs] at hbl hb
  have hne : up ≠ k := by omega
  have hwu : walkM (atM bs ((up : Int) % 24) ((up : Int) / 24)) = true := walk1 (k := up) (by simp only [inM, decide_eq_true_eq]; omega) (by omega) hbl (by rw [hb, if_pos rfl]; omega)
  have hwk : walkM (atM bs (mx + 1) (my)) = true := walk1 (k := k) (by simp only [inM, decide_eq_true_eq]; omega) (by omega) hbl (by rw [hb, if_neg hne, hk1]; omega)
  have hmarks : marksM bs [(up : Int)] = (List.replicate 384 (-1 : Int)).set up 0 := by
    rw [marksM, List.foldl_cons, List.foldl_nil, markM, if_pos ⟨by omega, by omega, hwu⟩, Int.toNat_natCast]
  have hg : ∀ q, q < 384 → getI (marksM bs [(up : Int)]) q = if up = q then 0 else -1 := by
    intro q hq
    rw [hmarks, getI_set (by rw [List.length_replicate]; exact hu)]
    split
    · rfl
    · unfold getI
      rw [List.getD_eq_getElem?_getD, List.getElem?_replicate, if_pos hq]; rfl
  have hz : (zerosM (marksM bs [(up : Int)]) 384)[0]? = some up := by
    have : ∀ n, up < n → n ≤ 384 → zerosM (marksM bs [(up : Int)]) n = [up] := by
      intro n h1 h2
      have key : ∀ n, n ≤ 384 → zerosM (marksM bs [(up : Int)]) n = if up < n then [up] else [] := by
        intro n
        induction n with
        | zero => intro _; rfl
        | succ n ih =>
          intro hn
          unfold zerosM at *
          rw [List.range_succ, List.filter_append, ih (by omega), List.filter_cons, List.filter_nil, hg n (by omega)]
          by_cases hq : up = n
          · subst hq; simp
          · by_cases hq2 : up < n
            · simp [hq, hq2, show up < n + 1 by omega]
            · simp [hq, hq2, show ¬ up < n + 1 by omega]
      rw [key n h2, if_pos h1]
    rw [this 384 hu (Nat.le_refl _)]; rfl
  obtain ⟨f0, hf0⟩ : ∃ q, marksM bs [(up : Int)] = q := ⟨_, rfl⟩
  rw [hf0] at hg hz
  have hf0l : f0.length = 384 := by rw [← hf0, hmarks, List.length_set, List.length_replicate]
  have hfar := far_max (distM seed floor) up 384
  have hd0 : getI (distM seed floor) up = 0 := by
    rw [hdist, fieldM, bfs_keep _ _ _ (by simp only [hf0]; rw [hg up hu, if_pos rfl]; exact Int.le_refl _)]
    simp only [hf0]
    rw [hg up hu, if_pos rfl]
  have hd1 : getI (distM seed floor) k = 1 := by
    rw [hdist, fieldM, hf0]
    obtain ⟨row, hrow⟩ : ∃ q, zerosM f0 384 = q := ⟨_, rfl⟩
    rw [hrow] at hz ⊢
    rw [bfs]
    simp only [hz]
    -- the first neighbour: north; the second: east
    have hn0 : nbM up 0 = (mx, my - 1) := by
      unfold nbM
      simp only [Prod.mk.injEq]
      omega
    have hn1 : nbM up 1 = (mx + 1, my) := by
      unfold nbM
      simp only [Prod.mk.injEq]
      omega
    obtain ⟨st1, hst1⟩ : ∃ q, tryD bs [] up (f0, row) 0 = q := ⟨_, rfl⟩
    have hl1 : st1.1.length = 384 := by rw [← hst1, tryD_len]; exact hf0l
    have hup1 : getI st1.1 up = 0 := by
      rw [← hst1, tryD_keep (by simp only; rw [hg up hu, if_pos rfl]; exact Int.le_refl _)]
      simp only; rw [hg up hu, if_pos rfl]
    have hk1' : getI st1.1 k = -1 := by
      rw [← hst1]
      unfold tryD
      split
      · simp only [hn0]
        rename_i ho
        simp only [opens, hn0, Bool.and_eq_true, inM, decide_eq_true_eq] at ho
        rw [getI_set (by rw [hf0l]; omega), if_neg (by omega), hg k hk384, if_neg hne]
      · simp only; rw [hg k hk384, if_neg hne]
    have hst2 : triesM bs [] up (f0, row) 2 = (st1.1.set k 1, st1.2 ++ [k]) := by
      show tryD bs [] up (tryD bs [] up (f0, row) 0) 1 = _
      rw [hst1]
      unfold tryD
      rw [if_pos (by
        unfold opens
        rw [hn1]
        simp only [Bool.and_eq_true, decide_eq_true_eq]
        refine ⟨⟨⟨by simp only [inM, decide_eq_true_eq]; omega, ?_⟩, hwk⟩, by simp⟩
        rw [show (my * 24 + (mx + 1)).toNat = k by omega, hk1']
        decide)]
      rw [hn1]
      simp only
      rw [show (my * 24 + (mx + 1)).toNat = k by omega, hup1]
      rfl
    have h2k : getI (triesM bs [] up (f0, row) 2).1 k = 1 := by
      rw [hst2]; simp only; rw [getI_set (by rw [hl1]; exact hk384), if_pos rfl]
    have h4k : getI (triesM bs [] up (f0, row) 4).1 k = 1 := by
      show getI (tryD bs [] up (tryD bs [] up (triesM bs [] up (f0, row) 2) 2) 3).1 k = 1
      have h3 := tryD_keep (cells := bs) (bl := []) (i := up) (st := triesM bs [] up (f0, row) 2) (d := 2) (k := k) (by rw [h2k]; decide)
      rw [tryD_keep (by rw [h3, h2k]; decide), h3, h2k]
    rw [bfs_keep _ _ _ (by rw [h4k]; decide), h4k]
  have h3 := hfar.2 k hk384
  intro he
  rw [hup] at he
  have h4 : farM (distM seed floor) up 384 = up := by
    have : farMM seed floor = farM (distM seed floor) (upM seed floor) 384 := rfl
    rw [hup] at this
    rw [← this]; exact he
  rw [h4, hd0, hd1] at h3
  omega
end Go.Proofs.Ytecodneffflpoaa
