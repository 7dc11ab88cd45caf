/- The plain laws of chapter 15: what may be is written, and how long it is. -/
import Derived.Test.YtphmdhbhoakcaaaWireH
namespace Go.Proofs.Ytphmdhbhoakcaaa
open Go.RowKit Go.Ad Go.Maps
theorem inB_of {n f t : Int} (h : f ≤ n ∧ n ≤ t) : inB n f t = true := by simp [inB, h]
theorem nok_one {x : Int} (h : 0 ≤ x ∧ x < P30) : inB x 0 1073741823 = true := inB_of ⟨h.1, by have := h.2; simp only [P30] at this; omega⟩
theorem nok1 {x : Int} (h : 0 ≤ x ∧ x < P30) : nokAll [x] = true := by simp [nokAll, nok_one h]
theorem nok2 {x y : Int} (h : 0 ≤ x ∧ x < P30) (k : 0 ≤ y ∧ y < P30) : nokAll [x, y] = true := by simp [nokAll, nok_one h, nok_one k]
theorem rowOk_of {zs : List Int} (h : InB zs) : rowOk zs = true := by
  have h1 : inB (zs.length : Int) 0 255 = true := inB_of ⟨by omega, by have := h.1; omega⟩
  have h2 : (zs.all fun x => inB x 0 10) = true := by
    rw [List.all_eq_true]; intro x hx; exact inB_of (h.2 x hx)
  simp [rowOk, h1, h2]
theorem recOk_of {r : Rec} (h : RecG r) : recOk r = true := by
  obtain ⟨h1, h2, h3, h4, h5, h6, h7, h8, h9, h10⟩ := h
  have hk : inB r.kind 1 3 = true := inB_of ⟨h1, h2⟩
  have hi : inB r.input 0 10 = true := inB_of ⟨h3, h4⟩
  have hs : inB r.seat 0 3 = true := inB_of ⟨h5, h6⟩
  have hf := nok1 ⟨h7, h8⟩
  have hl := nok2 ⟨h7, h8⟩ ⟨h9, h10⟩
  unfold recOk recTail
  rw [hk]
  split
  · simp [hi]
  · split
    · simp [hs, hl]
    · split
      · simp [hs, hf]
      · simp
section
variable {g : MsgD}
theorem good_ok (G : Good g) (hdl : g.data.length = g.dl) : encOk g = true := by
  have hs : (g.kind == 3 && g.seat == 4) = false := by
    have := G.seat
    have : (g.seat == 4) = false := by rw [beq_eq_false_iff_ne]; omega
    simp [this]
  have e1 := nok1 G.transfer
  have e2 := nok2 G.epoch G.transfer
  have hup : upOk g = true := by
    simp [upOk, nok1 G.records, nok1 (G.heard 0 (by omega)), nok1 (G.heard 1 (by omega)), nok1 (G.heard 2 (by omega)), nok1 (G.heard 3 (by omega)), nok2 G.live G.first, rowOk_of G.inputs]
  have hst : streamOk g.stream = true := by
    have h1 : inB (g.stream.length : Int) 0 400 = true := inB_of ⟨by omega, by have := G.stream.1; omega⟩
    have h2 : g.stream.all recOk = true := by rw [List.all_eq_true]; intro r hr; exact recOk_of (G.stream.2 r hr)
    simp [streamOk, h1, h2]
  have hsts : stsOk g 4 = true := by
    unfold stsOk
    rw [List.all_eq_true]
    intro s hs
    have hs4 : s < 4 := by simpa using hs
    simp [nok1 (G.firsts s hs4), rowOk_of (G.seats s hs4)]
  have hdown : downOk g = true := by
    have h1 : inB g.stage 1 7 = true := inB_of G.stage
    have h2 : inB (seatB g) 0 4 = true := by
      have := G.seat
      unfold seatB; split <;> exact inB_of (by omega)
    simp [downOk, restOk, h1, h2, nok2 G.base G.frm, hst, hsts, nok1 G.ack]
  have hch : chunkOk g = true := by
    have h1 : inB g.index 0 255 = true := inB_of (by have := G.index; have := G.total; omega)
    have h2 : inB g.total 1 16 = true := inB_of G.total
    have h3 : inB g.index 0 (g.total - 1) = true := inB_of (by have := G.index; omega)
    have h4 : inB (g.dl : Int) 0 64 = true := inB_of (by have := G.data; omega)
    simp [chunkOk, nok1 G.base, h1, h2, h3, h4]
  unfold encOk fOk
  rw [hs]
  simp only [Bool.not_false, Bool.and_true]
  split
  · exact e1
  · rw [e2]
    split
    · simpa using hup
    · split
      · simpa using hdown
      · simpa using hch
def recLen (r : Rec) : Nat := if r.kind = 1 then 2 else if r.kind = 3 then 10 else if r.kind = 2 then 6 else 1
theorem recEnc_len (r : Rec) : (recEnc r).length = recLen r := by
  unfold recEnc recTail recLen
  split
  · simp [be_length]
  · split
    · simp [be_length, nenc]
    · split
      · simp [be_length, nenc]
      · simp [be_length]
theorem rowEnc_len (zs : List Int) : (rowEnc zs).length = 1 + zs.length := by
  simp [rowEnc, be_length]
  have : ∀ l : List Int, (l.map fun _ => 1).sum = l.length := fun l => by induction l <;> simp_all; omega
  exact this zs
def recSum (rs : List Rec) : Nat := (rs.map recLen).sum
theorem streamEnc_len (rs : List Rec) : (streamEnc rs).length = 2 + recSum rs := by
  simp [streamEnc, be_length, recSum, List.length_flatMap, recEnc_len]
def sizeOfMsg (g : MsgD) : Nat :=
  if g.kind = 1 then 6 else if g.kind = 2 then 42 + g.inputs.length else if g.kind = 3 then 25 + recSum g.stream + ((5 + (g.seats 0).length) + (5 + (g.seats 1).length) + (5 + (g.seats 2).length) + (5 + (g.seats 3).length)) else 16 + g.data.length
theorem encB_len : (encB g).length = sizeOfMsg g := by
  unfold encB fEnc sizeOfMsg
  split
  · simp [nenc, be_length]
  · split
    · simp [nenc, be_length, upEnc, rowEnc_len]; omega
    · split
      · simp [nenc, be_length, downEnc, restEnc, stsEnc, streamEnc_len, rowEnc_len, List.range_succ]; omega
      · simp [nenc, be_length, chunkEnc]; omega
end
end Go.Proofs.Ytphmdhbhoakcaaa
