/- The calls of a net that came in, as they lie in memory. -/
import Derived.Test.YtjgkanmhmkmdeaaNetPlays2
namespace Go.Proofs.Ytjgkanmhmkmdeaa
open Go.RowKit Go.Ad Go.Maps
theorem cellsDg : Try.prog.cellsOf 58 = 3 := by kernel_rfl
theorem cellsCallN : Try.prog.cellsOf 56 = 3 := by kernel_rfl
section
variable {H : Type} {enc : TypeId × Value → H} {W : World} {base : Nat} {sp : Nat → Bool} {held : Bool} {fuel : Nat} {a : Option Addr} {len cap : Nat} {x : DataW H × List MemPlace}
theorem dgs_of (h : DataW.trod enc Try.prog W base sp held fuel 54 [.slice a len cap] = some x) : ∃ es : List Dv, es.length = len ∧
    (es = [] ∨ ∃ eb eo, a = some ⟨eb, eo, none⟩ ∧ eb < W.heap.size ∧ RowAt W eb eo es) ∧ ∀ e ∈ es, BytesAt W e.a e.len e.data ∧ (e.a = none → e.cap = 0) := by
  rcases slice_cells Try.underlying54 cellsDg (by omega) h with rfl | ⟨b, o, f', rfl, hb, hc⟩
  · exact ⟨[], rfl, .inl rfl, by simp⟩
  · have hk : ∀ i, i < len → ∃ c : Dv, (W.cell? ⟨b, o + i * 3, none⟩ = some (.int .i64 c.frm) ∧ W.cell? ⟨b, o + i * 3 + 1, none⟩ = some (.int .i64 c.to) ∧ W.cell? ⟨b, o + i * 3 + 2, none⟩ = some (.slice c.a c.len c.cap)) ∧
        BytesAt W c.a c.len c.data ∧ (c.a = none → c.cap = 0) := fun i hi => by
      obtain ⟨cs, y, hl, hcell, ht⟩ := hc i hi
      obtain ⟨xs, m, _, _, _, hxl, hf⟩ := DataW.trod_struct Try.underlying58 ht
      match cs, hl with
      | [v0, v1, v2], _ =>
        have g0 := hf 0 _ rfl
        have g1 := hf 1 _ rfl
        have g2 := hf 2 _ rfl
        match xs, hxl with
        | [y0, y1, y2], _ =>
          have c3 : Try.prog.cellsOf 3 = 1 := by kernel_rfl
          have c31 : Try.prog.cellsOf 31 = 1 := by kernel_rfl
          simp [c3, c31] at g0 g1 g2
          obtain ⟨k, hk1, _, _⟩ := DataW.trod_int Try.underlying3 g0
          obtain ⟨n, hn1, _, hnw⟩ := DataW.trod_int Try.underlying3 g1
          simp only [List.cons.injEq, and_true] at hk1 hn1
          subst hk1
          subst hn1
          obtain ⟨a, l, c, rfl⟩ := slice_shape Try.underlying31 g2
          obtain ⟨bs, hm, hB, hnil⟩ := bytes_of Try.underlying31 (by kernel_rfl) Try.underlying5 g2
          exact ⟨⟨k, n, a, l, c, bs⟩, ⟨by simpa using hcell 0 (by omega), by simpa using hcell 1 (by omega), by simpa using hcell 2 (by omega)⟩, hB, hnil⟩
    obtain ⟨f, hf⟩ : ∃ f : Nat → Dv, ∀ i, i < len → (W.cell? ⟨b, o + i * 3, none⟩ = some (.int .i64 (f i).frm) ∧ W.cell? ⟨b, o + i * 3 + 1, none⟩ = some (.int .i64 (f i).to) ∧ W.cell? ⟨b, o + i * 3 + 2, none⟩ = some (.slice (f i).a (f i).len (f i).cap)) ∧
        BytesAt W (f i).a (f i).len (f i).data ∧ ((f i).a = none → (f i).cap = 0) :=
      ⟨fun i => if hi : i < len then Classical.choose (hk i hi) else ⟨0, 0, none, 0, 0, []⟩, fun i hi => by
        have := Classical.choose_spec (hk i hi)
        simp only [hi, dif_pos]
        exact this⟩
    refine ⟨(List.range len).map f, by simp, .inr ⟨b, o, rfl, hb, fun i c hc => ?_⟩, fun e he => ?_⟩
    · have hi : i < len := by have := (List.getElem?_eq_some_iff.1 hc).1; simpa using this
      simp [hi] at hc
      subst hc
      exact (hf i hi).1
    · obtain ⟨i, hi, rfl⟩ := List.mem_map.1 he
      exact (hf i (by simpa using hi)).2
theorem callsN_of (h : DataW.trod enc Try.prog W base sp held fuel 51 [.slice a len cap] = some x) : ∃ cs : List CallN, cs.length = len ∧ CallsN W a cs := by
  rcases slice_cells Try.underlying51 cellsCallN (by omega) h with rfl | ⟨b, o, f', rfl, hb, hc⟩
  · exact ⟨[], rfl, .inl rfl⟩
  · have hk : ∀ i, i < len → ∃ c : CallN, W.cell? ⟨b, o + i * 3, none⟩ = some (.int .i64 c.k) ∧ W.cell? ⟨b, o + i * 3 + 1, none⟩ = some (.int .i64 c.n) ∧ W.cell? ⟨b, o + i * 3 + 2, none⟩ = some (.slice c.a c.len c.cap) ∧ c.es.length = c.len ∧
        (c.es = [] ∨ ∃ eb eo, c.a = some ⟨eb, eo, none⟩ ∧ eb < W.heap.size ∧ RowAt W eb eo c.es) ∧ ∀ e ∈ c.es, BytesAt W e.a e.len e.data ∧ (e.a = none → e.cap = 0) := fun i hi => by
      obtain ⟨cs, y, hl, hcell, ht⟩ := hc i hi
      obtain ⟨xs, m, _, _, _, hxl, hf⟩ := DataW.trod_struct Try.underlying56 ht
      match cs, hl with
      | [v0, v1, v2], _ =>
        have g0 := hf 0 _ rfl
        have g1 := hf 1 _ rfl
        have g2 := hf 2 _ rfl
        match xs, hxl with
        | [y0, y1, y2], _ =>
          have c3 : Try.prog.cellsOf 3 = 1 := by kernel_rfl
          have c31 : Try.prog.cellsOf 54 = 1 := by kernel_rfl
          simp [c3, c31] at g0 g1 g2
          obtain ⟨k, hk1, _, _⟩ := DataW.trod_int Try.underlying3 g0
          obtain ⟨n, hn1, _, hnw⟩ := DataW.trod_int Try.underlying3 g1
          simp only [List.cons.injEq, and_true] at hk1 hn1
          subst hk1
          subst hn1
          obtain ⟨a, l, c, rfl⟩ := slice_shape Try.underlying54 g2
          obtain ⟨es, e1, e2, e3⟩ := dgs_of g2
          exact ⟨⟨k, n, a, l, c, es⟩, by simpa using hcell 0 (by omega), by simpa using hcell 1 (by omega), by simpa using hcell 2 (by omega), e1, e2, e3⟩
    obtain ⟨f, hf⟩ : ∃ f : Nat → CallN, ∀ i, i < len → W.cell? ⟨b, o + i * 3, none⟩ = some (.int .i64 (f i).k) ∧ W.cell? ⟨b, o + i * 3 + 1, none⟩ = some (.int .i64 (f i).n) ∧ W.cell? ⟨b, o + i * 3 + 2, none⟩ = some (.slice (f i).a (f i).len (f i).cap) ∧ (f i).es.length = (f i).len ∧
        ((f i).es = [] ∨ ∃ eb eo, (f i).a = some ⟨eb, eo, none⟩ ∧ eb < W.heap.size ∧ RowAt W eb eo (f i).es) ∧ ∀ e ∈ (f i).es, BytesAt W e.a e.len e.data ∧ (e.a = none → e.cap = 0) :=
      ⟨fun i => if hi : i < len then Classical.choose (hk i hi) else ⟨0, 0, none, 0, 0, []⟩, fun i hi => by
        have := Classical.choose_spec (hk i hi)
        simp only [hi, dif_pos]
        exact this⟩
    refine ⟨(List.range len).map f, by simp, .inr ⟨b, o, rfl, hb, fun i c hc => ?_⟩⟩
    have hi : i < len := by have := (List.getElem?_eq_some_iff.1 hc).1; simpa using this
    simp [hi] at hc
    subst hc
    exact hf i hi
end
end Go.Proofs.Ytjgkanmhmkmdeaa
