/- The calls that came in: their bytes are bounded, too. -/
import Derived.Test.YtjgkanmhmkmdeaaDiskLaw2
namespace Go.Proofs.Ytjgkanmhmkmdeaa
open Go.RowKit Go.Ad Go.Maps
theorem weightsAll_mem {H : Type} {P : Program} {e : TypeId} : ∀ {ds : List (DataW H)} {i : Nat} {d : DataW H}, ds[i]? = some d → ∀ n ∈ d.weights P e, n ∈ DataW.weightsAll P e ds
  | d0 :: r, 0, d, hd, n, hn => by
    simp only [List.getElem?_cons_zero, Option.some.injEq] at hd
    subst hd
    simp only [DataW.weightsAll, List.mem_append]
    exact .inl hn
  | d0 :: r, i + 1, d, hd, n, hn => by
    simp only [List.getElem?_cons_succ] at hd
    simp only [DataW.weightsAll, List.mem_append]
    exact .inr (weightsAll_mem hd n hn)
  | [], _, _, hd, _, _ => by simp at hd
theorem calls_of2 {H : Type} {enc : TypeId × Value → H} {W : World} {base : Nat} {sp : Nat → Bool} {held : Bool} {fuel : Nat} {a : Option Addr} {len cap : Nat} {x : DataW H × List MemPlace}
    (h : DataW.trod enc Try.prog W base sp held fuel 34 [.slice a len cap] = some x) (hw : ∀ n ∈ x.1.weights Try.prog 34, n ≤ reachBytes) :
    ∃ cs : List CallD, cs.length = len ∧ CallsAt W a cs ∧ ∀ (i : Nat) (c : CallD), cs[i]? = some c → c.len ≤ 140737488351232 ∧ (c.a = none → c.cap = 0) := by
  obtain ⟨cs, hl, hc⟩ := calls_of h
  refine ⟨cs, hl, hc, fun i c hi => ?_⟩
  have hil : i < len := by rw [← hl]; exact (List.getElem?_eq_some_iff.1 hi).1
  rcases hc with rfl | ⟨b, o, rfl, hb, hcc⟩
  · simp at hi
  obtain ⟨_, _, q2, _⟩ := hcc i c hi
  rcases slice_inv Try.underlying34 h with ⟨h0, _⟩ | ⟨ad, ds, rest, f', h0, _, _, hx, hdl, _, hel⟩
  · cases h0
  cases h0
  obtain ⟨cv, d, ps, e1, e2, e3⟩ := hel i hil
  rw [cellsCall] at e1
  obtain ⟨_, k1, k2⟩ := cells?_inv e1
  obtain ⟨xs, m, _, hd, _, hxl, hf⟩ := DataW.trod_struct Try.underlying37 e2
  match cv, k1 with
  | [v0, v1, v2], _ =>
    have c2 := k2 2 (by omega)
    rw [Addr.add_mid, Addr.add_mid, q2] at c2
    simp only [List.getElem?_cons_succ, List.getElem?_cons_zero, Option.some.injEq] at c2
    subst c2
    have g2 := hf 2 _ rfl
    have c3 : Try.prog.cellsOf 3 = 1 := by kernel_rfl
    have c31 : Try.prog.cellsOf 31 = 1 := by kernel_rfl
    match xs, hxl with
    | [y0, y1, y2], _ =>
      simp [c3, c31] at g2
      have hmem : ∀ n ∈ y2.1.weights Try.prog 31, n ≤ reachBytes := fun n hn => by
        refine hw n ?_
        rw [hx]
        have hd' : d = .agg [y0.1, y1.1, y2.1] := by have := congrArg Prod.fst hd; simpa using this
        have h1 : n ∈ d.weights Try.prog 37 := by
          rw [hd']
          simp only [DataW.weights, Try.underlying37]
          exact DataW.weights_mem_each (j := 2) (t := 31) (by rfl) rfl n hn
        have h2 := weightsAll_mem e3 n h1
        simp only [DataW.weights, Try.underlying34, List.mem_cons, List.mem_append]
        exact .inr (.inl h2)
      rcases slice_inv Try.underlying31 g2 with ⟨z1, z2, z3, _⟩ | ⟨ad2, ds2, rest2, f2, z1, z2, _, z3, z4, z5, _⟩
      · exact ⟨by omega, fun _ => z3⟩
      · refine ⟨?_, fun hn => by rw [hn] at z1; cases z1⟩
        have := hmem ((ds2.length + rest2.length) * Try.prog.bytesOf 5) (by rw [z3]; simp only [DataW.weights, Try.underlying31, List.mem_cons, true_or])
        rw [show Try.prog.bytesOf 5 = 1 from by kernel_rfl] at this
        have h9 : reachBytes = 140737488351232 := by simp [reachBytes]
        omega
end Go.Proofs.Ytjgkanmhmkmdeaa
