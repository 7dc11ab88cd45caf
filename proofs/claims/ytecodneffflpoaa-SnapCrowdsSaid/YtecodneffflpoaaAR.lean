/- Arguments that came in: numbers, items. -/
import Derived.Test.YtecodneffflpoaaG4
namespace Go.Ad
open Go.RowKit Go.Maps
theorem ro_rows {α : Type} {f : α → List Value} {k : Nat} (hk : ∀ a, (f a).length = k) {W : World} {b : Nat} : ∀ (l : List α) (o : Nat), (∀ (i : Nat) (a : α), l[i]? = some a → Ro W b (o + i * k) (f a)) → Ro W b o (l.flatMap f)
  | [], o, _ => fun j v hv => by simp at hv
  | a :: r, o, h => fun j v hv => by
    rw [List.flatMap_cons] at hv
    by_cases hj : j < k
    · rw [List.getElem?_append_left (by rw [hk]; exact hj)] at hv
      have := h 0 a rfl j v hv
      rwa [Nat.zero_mul, Nat.add_zero] at this
    · rw [List.getElem?_append_right (by rw [hk]; omega), hk] at hv
      have := ro_rows hk r (o + k) (fun i x hx => by
        have := h (i + 1) x hx
        rwa [Nat.succ_mul, Nat.add_comm (i * k) k, ← Nat.add_assoc] at this) (j - k) v hv
      rwa [Nat.add_assoc, show k + (j - k) = j by omega] at this
section
variable {H : Type} {enc : TypeId × Value → H} {P : Program} {W : World} {base : Nat} {sp : Nat → Bool} {held : Bool} {fuel : Nat} {t e : TypeId} {a : Option Addr} {len cap : Nat} {x : DataW H × List MemPlace}
theorem slice_caps (ht : P.underlying t = some (.slice e)) (h : DataW.trod enc P W base sp held fuel t [.slice a len cap] = some x) : len ≤ cap ∧ cap ≤ maxLen := by
  rcases slice_inv ht h with ⟨_, rfl, rfl, _⟩ | ⟨ad, ds, rest, fuel', rfl, h1, h2, _⟩
  · exact ⟨Nat.le_refl _, by unfold maxLen; omega⟩
  · exact ⟨h1, h2⟩
theorem intsV_of (ht : P.underlying t = some (.slice e)) (he : P.cellsOf e = 1) (hb : P.underlying e = some (.int .i64)) (h : DataW.trod enc P W base sp held fuel t [.slice a len cap] = some x) : ∃ zs : List Int, SlV W 1 (.slice a len cap) len (zs.map iv) := by
  obtain ⟨hc1, hc2⟩ := slice_caps ht h
  obtain ⟨vs, f', h1, h2, h3, h4⟩ := slice_range ht he h
  have : ∃ zs : List Int, vs = zs.map (Value.int .i64) := by
    clear h1 h4
    induction vs with
    | nil => exact ⟨[], rfl⟩
    | cons v r ih =>
      obtain ⟨zs, rfl⟩ := ih (fun v hv => h3 v (by simp [hv]))
      obtain ⟨y, hy⟩ := h3 v (by simp)
      obtain ⟨b, hb1, _⟩ := DataW.trod_int hb hy
      exact ⟨b :: zs, by simpa using hb1⟩
  obtain ⟨zs, rfl⟩ := this
  refine ⟨zs, ?_⟩
  rcases h4 with h4 | ⟨b, o, rfl, hb', hr⟩
  · have h5 : zs = [] := by simpa using h4
    subst h5
    obtain rfl : len = 0 := by simpa using h1.symm
    exact .zero
  · exact .some ⟨by rw [Nat.mul_one]; exact h1, hc1, hc2, hb', hr⟩
end
end Go.Ad
namespace Go.Proofs.Ytecodneffflpoaa
open Go.RowKit Go.Ad Go.Maps
set_option maxRecDepth 100000 in
theorem items_of {H : Type} {enc : TypeId × Value → H} {W : World} {base : Nat} {sp : Nat → Bool} {held : Bool} {fuel : Nat} {a : Option Addr} {len cap : Nat} {x : DataW H × List MemPlace}
    (h : DataW.trod enc Try.prog W base sp held fuel 23 [.slice a len cap] = some x) : ∃ l : List Itm, SlV W 4 (.slice a len cap) len (icells l) := by
  obtain ⟨hc1, hc2⟩ := slice_caps Try.underlying23 h
  rcases slice_cells Try.underlying23 (k := 4) (by kernel_rfl) (by omega) h with rfl | ⟨b, o, f', rfl, hb, hc⟩
  · exact ⟨[], .zero⟩
  · have hk : ∀ i, i < len → ∃ y : Itm, Ro W b (o + i * 4) y.cells := fun i hi => by
      obtain ⟨cs, y, hl, hcell, ht⟩ := hc i hi
      obtain ⟨xs, m, _, _, _, hxl, hf⟩ := DataW.trod_struct Try.underlying57 ht
      match cs, hl with
      | [v0, v1, v2, v3], _ =>
        have g0 := hf 0 _ rfl
        have g1 := hf 1 _ rfl
        have g2 := hf 2 _ rfl
        have g3 := hf 3 _ rfl
        match xs, hxl with
        | [y0, y1, y2, y3], _ =>
          have c3 : Try.prog.cellsOf 3 = 1 := by kernel_rfl
          simp [c3] at g0 g1 g2 g3
          obtain ⟨k0, e0, _, _⟩ := DataW.trod_int Try.underlying3 g0
          obtain ⟨k1, e1, _, _⟩ := DataW.trod_int Try.underlying3 g1
          obtain ⟨k2, e2, _, _⟩ := DataW.trod_int Try.underlying3 g2
          obtain ⟨k3, e3, _, _⟩ := DataW.trod_int Try.underlying3 g3
          simp only [List.cons.injEq, and_true] at e0 e1 e2 e3
          subst e0 e1 e2 e3
          refine ⟨⟨k0, k1, k2, k3⟩, fun j v hv => ?_⟩
          have hj : j < 4 := (List.getElem?_eq_some_iff.1 hv).1
          rw [hcell j hj]
          exact hv
    obtain ⟨f, hf⟩ : ∃ f : Nat → Itm, ∀ i, i < len → Ro W b (o + i * 4) (f i).cells :=
      ⟨fun i => if hi : i < len then Classical.choose (hk i hi) else Itm.zero, fun i hi => by
        have := Classical.choose_spec (hk i hi)
        simp only [hi, dif_pos]
        exact this⟩
    refine ⟨(List.range len).map f, .some ⟨by rw [icells_len, List.length_map, List.length_range], hc1, hc2, hb, ro_rows Itm.len _ _ (fun i y hy => ?_)⟩⟩
    have hi : i < len := by have := (List.getElem?_eq_some_iff.1 hy).1; simpa using this
    rw [List.getElem?_map, List.getElem?_range hi] at hy
    simp only [Option.map_some, Option.some.injEq] at hy
    subst hy
    exact hf i hi
end Go.Proofs.Ytecodneffflpoaa
