/- Ints that came in. -/
import Derived.Test.YtjgkanmhmkmdeaaNetLaw
namespace Go.Proofs.Ytjgkanmhmkmdeaa
open Go.RowKit Go.Ad Go.Maps
theorem ints_of {H : Type} {enc : TypeId × Value → H} {P : Program} {W : World} {base : Nat} {sp : Nat → Bool} {held : Bool} {fuel : Nat} {t e : TypeId} (ht : P.underlying t = some (.slice e)) (he : P.cellsOf e = 1) (hb : P.underlying e = some (.int .i64))
    {a : Option Addr} {len cap : Nat} {x : DataW H × List MemPlace} (h : DataW.trod enc P W base sp held fuel t [.slice a len cap] = some x) : ∃ zs : List Int, zs.length = len ∧ IntsAt W a zs := by
  obtain ⟨vs, f', h1, h2, h3, h4⟩ := slice_range ht he h
  have : ∃ zs : List Int, vs = zs.map (Value.int .i64) := by
    clear h1 h4
    induction vs with
    | nil => exact ⟨[], rfl⟩
    | cons v r ih =>
      obtain ⟨zs, rfl⟩ := ih (fun v hv => h3 v (by simp [hv]))
      obtain ⟨y, hy⟩ := h3 v (by simp)
      obtain ⟨b, hb1, _⟩ := DataW.trod_int hb hy
      exact ⟨b :: zs, by simpa using hb1⟩
  obtain ⟨zs, rfl⟩ := this
  refine ⟨zs, by simpa using h1, ?_⟩
  rcases h4 with h4 | h4
  · left; simpa using h4
  · right; exact h4
end Go.Proofs.Ytjgkanmhmkmdeaa
