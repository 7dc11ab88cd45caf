/- A world that may be is read again as it was. -/
import Derived.Test.YtecodneffflpoaaE10
namespace Go.Ad
set_option linter.unusedVariables false
set_option linter.unusedSimpArgs false
theorem check_all {d : Wd} (h : checkM d = 0) : headM d = 0 ∧ entsM d d.ents 0 = 0 ∧ goodsM d = true := by
  unfold checkM at h
  by_cases h1 : headM d = 0
  · rw [if_neg (fun k => k h1)] at h
    by_cases h2 : entsM d d.ents 0 = 0
    · rw [if_neg (fun k => k h2)] at h
      cases h3 : goodsM d
      · rw [h3] at h; simp at h
      · exact ⟨h1, h2, rfl⟩
    · rw [if_pos h2] at h; exact absurd h h2
  · rw [if_pos h1] at h; exact absurd h h1
theorem head_nums {d : Wd} (h : headM d = 0) : numsOk d = true := by
  unfold headM at h
  cases hn : numsOk d
  · rw [hn, if_pos rfl] at h; exact absurd h (by decide)
  · rfl
theorem ents_all {d : Wd} : ∀ (l : List Ent) (i : Nat), entsM d l i = 0 → ∀ (j : Nat) (e : Ent), l[j]? = some e → entM d (i + j) e = 0
  | a :: r, i, h, 0, e, he => by
    simp only [List.getElem?_cons_zero, Option.some.injEq] at he
    subst he
    rw [entsM] at h
    by_cases h1 : entM d i a = 0
    · exact h1
    · rw [if_pos h1] at h; exact absurd h h1
  | a :: r, i, h, j + 1, e, he => by
    simp only [List.getElem?_cons_succ] at he
    rw [entsM] at h
    by_cases h1 : entM d i a = 0
    · rw [if_neg (fun k => k h1)] at h
      have := ents_all r (i + 1) h j e he
      rwa [Nat.add_assoc, Nat.add_comm 1 j] at this
    · rw [if_pos h1] at h; exact absurd h h1
theorem at_in {cells : List UInt8} {x y : Int} (h : walkM (atM cells x y) = true) : inM x y = true := by
  cases hi : inM x y
  · unfold atM at h
    rw [hi, if_neg (by simp)] at h
    simp [walkM] at h
  · rfl
theorem stats_rng (k : Int) : 0 ≤ (statsM k).max ∧ (statsM k).max ≤ 20 ∧ 0 ≤ (statsM k).atk ∧ (statsM k).atk ≤ 5 ∧ 0 ≤ (statsM k).df ∧ (statsM k).df ≤ 1 := by
  unfold statsM
  split
  · decide
  · split
    · decide
    · split
      · decide
      · split <;> decide
def b8 (z : Int) : Prop := 0 ≤ z ∧ z < 256
theorem ent_rng {d : Wd} {i : Nat} {e : Ent} (h : entM d i e = 0) : b8 e.kind ∧ b8 e.gen ∧ b8 e.seat ∧ b8 e.x ∧ b8 e.y ∧ b8 e.hp ∧ b8 e.max ∧ b8 e.atk ∧ b8 e.df ∧ b8 e.poison ∧ b8 e.stun := by
  unfold entM at h
  cases hk : btw e.kind 0 4
  · rw [hk, if_pos rfl] at h; exact absurd h (by decide)
  · rw [hk, if_neg (by simp)] at h
    cases hf : fitsM d i e
    · rw [hf, if_neg (by simp)] at h; exact absurd h (by decide)
    · simp only [btw, decide_eq_true_eq] at hk
      by_cases h0 : e.kind = 0
      · unfold fitsM btw at hf
        rw [if_pos h0] at hf
        simp only [Bool.and_eq_true, decide_eq_true_eq] at hf
        unfold b8
        omega
      · rw [fits_iff h0] at hf
        obtain ⟨h1, h2, h3, h4, h5, h6, h7, h8, h9, h10, h11⟩ := hf
        have hin := at_in h2
        simp only [inM, decide_eq_true_eq] at hin
        have hs := stats_rng e.kind
        unfold b8
        by_cases hk1 : e.kind = 1
        · have := h10 hk1; omega
        · have := h11 hk1; omega
theorem items_all {cells : List UInt8} {all : List Itm} : ∀ (l : List Itm) (i : Nat), itemsM cells all l i = true → ∀ x ∈ l, x.isZ = true ∨ (btw x.kind 1 4 = true ∧ placedM cells x = true)
  | a :: r, i, h, x, hx => by
    rw [itemsM] at h
    have ih := items_all (cells := cells) (all := all) r (i + 1)
    split at h
    · rename_i hz
      rcases List.mem_cons.1 hx with rfl | hx
      · exact .inl hz
      · exact ih h x hx
    · split at h
      · rename_i hp
        simp only [Bool.and_eq_true] at hp
        rcases List.mem_cons.1 hx with rfl | hx
        · exact .inr hp.1
        · exact ih h x hx
      · cases h
theorem itm_rng {cells : List UInt8} {x : Itm} (h : x.isZ = true ∨ (btw x.kind 1 4 = true ∧ placedM cells x = true)) : b8 x.kind ∧ b8 x.whr ∧ b8 x.a ∧ b8 x.b := by
  rcases h with h | ⟨h1, h2⟩
  · unfold Itm.isZ at h
    simp only [decide_eq_true_eq] at h
    unfold b8; omega
  · simp only [btw, decide_eq_true_eq] at h1
    unfold placedM at h2
    split at h2
    · have := at_in h2
      simp only [inM, decide_eq_true_eq] at this
      unfold b8; omega
    · split at h2
      · simp only [btw, Bool.and_eq_true, decide_eq_true_eq] at h2
        unfold b8; omega
      · split at h2
        · simp only [btw, Bool.and_eq_true, decide_eq_true_eq] at h2
          unfold b8; omega
        · split at h2
          · simp only [btw, Bool.and_eq_true, decide_eq_true_eq] at h2
            unfold b8; omega
          · cases h2
theorem goods_rng {d : Wd} (h : goodsM d = true) : ∀ x ∈ d.items, b8 x.kind ∧ b8 x.whr ∧ b8 x.a ∧ b8 x.b := fun x hx => by
  unfold goodsM at h
  simp only [Bool.and_eq_true] at h
  exact itm_rng (items_all _ _ h.2 x hx)
/-! ### Numbers -/
theorem emod_mul256 (v : Int) {p : Int} (hp : 0 < p) : v % (p * 256) = v % p + p * (v / p % 256) := by
  have h1 := Int.mul_ediv_add_emod v p
  have h2 := Int.mul_ediv_add_emod (v / p) 256
  have h3 := Int.emod_nonneg v (show p ≠ 0 by omega)
  have h4 := Int.emod_lt_of_pos v hp
  have h5 := Int.emod_nonneg (v / p) (show (256 : Int) ≠ 0 by decide)
  have h6 := Int.emod_lt_of_pos (v / p) (show (0 : Int) < 256 by decide)
  generalize hr : v % p = r at *
  generalize hq : v / p % 256 = q at *
  generalize hk : v / p / 256 = k at *
  generalize hw : v / p = w at *
  have e : v = (r + p * q) + (p * 256) * k := by
    rw [← h1, ← h2, Int.mul_add, ← Int.mul_assoc, Int.add_comm, ← Int.add_assoc, Int.add_right_comm]
  rw [e, Int.add_mul_emod_self_left]
  refine Int.emod_eq_of_lt (Int.add_nonneg h3 (Int.mul_nonneg (Int.le_of_lt hp) h5)) ?_
  have h7 : p * q ≤ p * 255 := Int.mul_le_mul_of_nonneg_left (by omega) (Int.le_of_lt hp)
  omega
theorem num_be : ∀ (n : Nat) (v : Int) (acc : Nat), ((beM v n).foldl (fun v x => v * 256 + x.toNat) acc : Nat) = (acc : Int) * 256 ^ n + v % 256 ^ n
  | 0, v, acc => by simp [beM, Int.emod_one]
  | n + 1, v, acc => by
    rw [beM, List.foldl_cons, num_be n v]
    have h1 := byteM_nat (v.fdiv (2 ^ (8 * n)))
    have hp : (2 : Int) ^ (8 * n) = 256 ^ n := by rw [Int.pow_mul]; rfl
    have hpos : (0 : Int) < 256 ^ n := Int.pow_pos (by decide)
    rw [hp, Int.fdiv_eq_ediv_of_nonneg _ (Int.le_of_lt hpos)] at h1
    rw [hp, Int.fdiv_eq_ediv_of_nonneg _ (Int.le_of_lt hpos)]
    have h2 : v % 256 ^ (n + 1) = v % 256 ^ n + 256 ^ n * (v / 256 ^ n % 256) := by
      rw [Int.pow_succ, emod_mul256 v hpos]
    rw [h2, Int.natCast_add, h1, Int.pow_succ]
    generalize v / 256 ^ n % 256 = q
    generalize (256 : Int) ^ n = p
    simp only [Int.natCast_mul, Int.cast_ofNat_Int]
    rw [Int.add_mul, Int.mul_assoc, Int.mul_comm (256 : Int) p, Int.add_assoc, Int.mul_comm q p, Int.add_comm (p * q)]
theorem numM_be {n : Nat} {v : Int} (h : 0 ≤ v ∧ v < 256 ^ n) : ((numM (beM v n) : Nat) : Int) = v := by
  have := num_be n v 0
  unfold numM
  rw [this]
  simp [Int.emod_eq_of_lt h.1 h.2]
end Go.Ad
