/- Floors as they are made: their cells. -/
import Derived.Test.YtecodneffflpoaaE12
namespace Go.Ad
set_option linter.unusedVariables false
set_option linter.unusedSimpArgs false
theorem byteAt_put {cells : List UInt8} {i k : Nat} {x : UInt8} : byteAt (cells.set i x) k = if i = k ∧ i < cells.length then (x.toNat : Int) else byteAt cells k := by
  unfold byteAt
  rw [List.getD_eq_getElem?_getD, List.getD_eq_getElem?_getD, List.getElem?_set]
  by_cases hik : i = k
  · subst hik
    by_cases h : i < cells.length
    · simp [h]
    · simp [h]
  · simp [hik]
theorem cnt_set (k : UInt8) : ∀ (l : List UInt8) (i : Nat) (v : UInt8), i < l.length → cnt k (l.set i v) + (if byteAt l i = (k.toNat : Int) then 1 else 0) = cnt k l + (if v = k then 1 else 0)
  | a :: r, 0, v, _ => by
    have : byteAt (a :: r) 0 = (a.toNat : Int) := rfl
    rw [this]
    have hk : ((a.toNat : Int) = (k.toNat : Int)) = (a = k) := by
      rw [eq_iff_iff]
      constructor
      · intro h; exact UInt8.toNat_inj.1 (by omega)
      · rintro rfl; rfl
    simp only [hk]
    unfold cnt
    rw [List.set_cons_zero, List.filter_cons, List.filter_cons]
    by_cases h1 : v = k <;> by_cases h2 : a = k <;> simp [h1, h2]
  | a :: r, i + 1, v, h => by
    have ih := cnt_set k r i v (by simpa using h)
    have : byteAt (a :: r) (i + 1) = byteAt r i := rfl
    rw [this]
    unfold cnt at ih ⊢
    rw [List.set_cons_succ, List.filter_cons, List.filter_cons]
    by_cases h1 : (a == k) = true
    · rw [if_pos h1, if_pos h1, List.length_cons, List.length_cons]; omega
    · rw [if_neg h1, if_neg h1]; exact ih
/-- No cell above n. -/
def low (n : Int) (cells : List UInt8) : Prop := ∀ k, byteAt cells k ≤ n
theorem low_set {n : Int} {cells : List UInt8} {i : Nat} {x : UInt8} (h : low n cells) (hx : (x.toNat : Int) ≤ n) : low n (cells.set i x) := fun k => by
  rw [byteAt_put]
  split
  · exact hx
  · exact h k
theorem low_mono {n m : Int} {cells : List UInt8} (h : low n cells) (hm : n ≤ m) : low m cells := fun k => Int.le_trans (h k) hm
theorem low_any {cells : List UInt8} (h : low 5 cells) : cells.any (fun x => decide (5 < x.toNat)) = false := by
  rw [List.any_eq_false]
  intro x hx
  obtain ⟨i, hi⟩ := List.mem_iff_getElem?.1 hx
  have := h i
  rw [byteAt_of hi] at this
  simp; omega
theorem cnt_none {k : UInt8} {cells : List UInt8} (h : ∀ i, byteAt cells i ≠ (k.toNat : Int)) : cnt k cells = 0 := by
  unfold cnt
  rw [List.length_eq_zero_iff, List.filter_eq_nil_iff]
  intro x hx hk
  obtain ⟨i, hi⟩ := List.mem_iff_getElem?.1 hx
  apply h i
  rw [byteAt_of hi, eq_of_beq hk]
theorem fillRow_low : ∀ (n : Nat) (cells : List UInt8) (k : Nat), low 1 cells → low 1 (fillRow cells k n)
  | 0, _, _, h => h
  | n + 1, cells, k, h => fillRow_low n _ _ (low_set h (by decide))
theorem fillRect_low : ∀ (n : Nat) (cells : List UInt8) (k w : Nat), low 1 cells → low 1 (fillRect cells k w n)
  | 0, _, _, _, h => h
  | n + 1, cells, k, w, h => fillRect_low n _ _ _ (fillRow_low _ _ _ h)
/-- What is floor stays floor. -/
def stays (a b : List UInt8) : Prop := a.length = b.length ∧ ∀ k, byteAt a k = 1 → byteAt b k = 1
theorem stays_refl (a : List UInt8) : stays a a := ⟨rfl, fun _ h => h⟩
theorem stays_trans {a b c : List UInt8} (h : stays a b) (k : stays b c) : stays a c := ⟨h.1.trans k.1, fun i hi => k.2 i (h.2 i hi)⟩
theorem stays_one (a : List UInt8) (i : Nat) : stays a (a.set i 1) := ⟨by simp, fun k h => by
  rw [byteAt_put]; split; rfl; exact h⟩
theorem fillRow_stays : ∀ (n : Nat) (cells : List UInt8) (k : Nat), stays cells (fillRow cells k n)
  | 0, _, _ => stays_refl _
  | n + 1, cells, k => stays_trans (stays_one cells k) (fillRow_stays n _ _)
theorem fillRow_one : ∀ (n : Nat) (cells : List UInt8) (k c : Nat), c < n → k + c < cells.length → byteAt (fillRow cells k n) (k + c) = 1
  | n + 1, cells, k, 0, _, hk => (fillRow_stays n _ _).2 _ (by rw [byteAt_put, if_pos ⟨rfl, by omega⟩]; rfl)
  | n + 1, cells, k, c + 1, hc, hk => by
    have := fillRow_one n (cells.set k 1) (k + 1) c (by omega) (by rw [List.length_set]; omega)
    rw [fillRow, show k + (c + 1) = k + 1 + c by omega]
    exact this
theorem fillRect_stays : ∀ (n : Nat) (cells : List UInt8) (k w : Nat), stays cells (fillRect cells k w n)
  | 0, _, _, _ => stays_refl _
  | n + 1, cells, k, w => stays_trans (fillRow_stays w cells k) (fillRect_stays n _ _ _)
theorem fillRect_one : ∀ (n : Nat) (cells : List UInt8) (k w r c : Nat), r < n → c < w → k + 24 * r + c < cells.length → byteAt (fillRect cells k w n) (k + 24 * r + c) = 1
  | n + 1, cells, k, w, 0, c, _, hc, hk => (fillRect_stays n _ _ _).2 _ (by rw [Nat.mul_zero, Nat.add_zero]; exact fillRow_one w cells k c hc (by omega))
  | n + 1, cells, k, w, r + 1, c, hr, hc, hk => by
    have := fillRect_one n (fillRow cells k w) (k + 24) w r c (by omega) hc (by rw [← (fillRow_stays w cells k).1]; omega)
    rw [fillRect, show k + 24 * (r + 1) + c = k + 24 + 24 * r + c by omega]
    exact this
theorem digRooms_low (seed floor : Int) : ∀ i, low 1 (digRooms seed floor i)
  | 0 => fun k => by
    unfold byteAt digRooms
    rw [List.getD_eq_getElem?_getD, List.getElem?_replicate]
    split <;> decide
  | i + 1 => fillRect_low _ _ _ _ (digRooms_low seed floor i)
theorem digRooms_stays (seed floor : Int) (i : Nat) : ∀ n, stays (digRooms seed floor i) (digRooms seed floor (i + n))
  | 0 => stays_refl _
  | n + 1 => stays_trans (digRooms_stays seed floor i n) (fillRect_stays _ _ _ _)
/-- Corridors leave what is not wall. -/
def holds1 (a b : List UInt8) : Prop := a.length = b.length ∧ (∀ k, byteAt a k = 1 → byteAt b k = 1) ∧ (low 2 a → low 2 b)
theorem h1_refl (a : List UInt8) : holds1 a a := ⟨rfl, fun _ h => h, fun h => h⟩
theorem h1_trans {a b c : List UInt8} (h : holds1 a b) (k : holds1 b c) : holds1 a c := ⟨h.1.trans k.1, fun i hi => k.2.1 i (h.2.1 i hi), fun hl => k.2.2 (h.2.2 hl)⟩
theorem digM_h1 (cells : List UInt8) (x y : Int) (d : Bool) : holds1 cells (digM cells x y d).1 := by
  unfold digM
  split
  · exact h1_refl _
  · rename_i h0
    refine ⟨by simp, fun k hk => ?_, fun hl => low_set hl (by cases d <;> decide)⟩
    rw [byteAt_put]
    split
    · rename_i hc
      rw [hc.1] at h0
      omega
    · exact hk
theorem corrM_h1 (tx ty : Int) (first : Bool) : ∀ (n : Nat) (cells : List UInt8) (d : Bool) (x y : Int), holds1 cells (corrM tx ty first n cells d x y)
  | 0, _, _, _, _ => h1_refl _
  | n + 1, cells, d, x, y => by
    rw [corrM]
    split
    · exact h1_trans (digM_h1 _ _ _ _) (corrM_h1 tx ty first n _ _ _ _)
    · exact h1_refl _
theorem corrsM_h1 (seed floor : Int) (cells : List UInt8) : ∀ i, holds1 cells (corrsM seed floor cells i)
  | 0 => h1_refl _
  | i + 1 => h1_trans (corrsM_h1 seed floor cells i) (h1_trans (digM_h1 _ _ _ _) (corrM_h1 _ _ _ _ _ _ _ _))
end Go.Ad
