/- Encode and Parse, one behind the other. -/
import Derived.Test.YtphmdhbhoakcaaaSb
namespace Go.Proofs.Ytphmdhbhoakcaaa
open Go.RowKit Go.Ad Go.Maps
set_option linter.unusedVariables false
set_option linter.unusedSimpArgs false
section
variable {W : World} {g : MsgD}
theorem encB_pos (g : MsgD) : 0 < (encB g).length := by simp [encB]
theorem encode_does (M : MsgV W g) (hk : 1 ≤ g.kind ∧ g.kind ≤ 4) (hl : fLen g ≤ 900000) (hok : encOk g = true) : Does Try.prog 10 [.agg (msgCells g)] W [] (fun v L => ∃ ga cap, (encB g).length ≤ cap ∧ cap ≤ maxLen ∧ v = .tuple #[.slice (some ⟨ga, 0, none⟩) (encB g).length cap, .int .i64 0] ∧ L = [⟨ga, 5, 1, cap, (encB g).map bv⟩]) := by
  refine Calls.mono (encode_w M hk.1 hk.2 hl) ?_
  rintro z w' ⟨hX, ⟨_, a, cap, rfl, O⟩ | ⟨h, _⟩⟩
  · have hp := encB_pos g
    obtain ⟨h1, ⟨_, h2⟩ | ⟨gb, cap', cur, h2, h3, h4, h5, h6, h7, h8⟩⟩ := O
    · omega
    · cases h2
      refine ⟨_, [⟨gb, 5, 1, cap, (encB g).map bv⟩], rfl, ⟨hX, fun x hx => ?_, by simp⟩, gb, cap, h5, h6, rfl, rfl⟩
      rw [List.mem_singleton.1 hx]
      exact ⟨⟨cur, h4, h7, h6, by simp only; rw [← h8]; exact List.take_prefix _ _⟩, .inr h3⟩
  · rw [hok] at h; cases h
theorem back_of {bs : List UInt8} {x : UInt8} {r : List UInt8} {c : List Value} {bl : List Bk} (hbs : bs = x :: r) (hx : 1 ≤ x.toNat ∧ x.toNat ≤ 4) (hF : FldP bs 1 0 x.toNat c (bs.length, 0) bl) : ∃ o, c.toArray = msgCells o ∧ SameC o (pI bs x.toNat).1 ∧ Zer o ∧ (∀ w, (∀ x ∈ bl, x.holds w) → MsgV w o) ∧ encB o = bs ∧ encOk o = true ∧ o.kind = x.toNat ∧ o.data.length = o.dl ∧ fLen o ≤ 900000 := by
  obtain ⟨h1, h2⟩ := fld_msg hF
  obtain ⟨o, h3, h4, h5, hC, h6⟩ := h2 rfl
  have hp : pI bs x.toNat = ((pI bs x.toNat).1, bs.length, 0) := Prod.ext rfl h1.symm
  obtain ⟨h7, h8, h9, h10⟩ := pI_sound hbs hx hp
  have hk : o.kind = x.toNat := h4.kind.trans h9
  obtain ⟨e1, e2⟩ := h4.enc (by omega) hC.l4 h10.dl
  refine ⟨o, h3, h4, h5, fun w hw => h6 w hw h10, e1.trans h7, e2.trans h8, hk, hC.l4, ?_⟩
  have a1 := h10.inp; have a2 := h10.str; have a4 := h10.dat
  rw [← hC.c1, hC.l1] at a1
  rw [← hC.c2, hC.l2] at a2
  rw [← hC.c4, hC.l4] at a4
  have b : ∀ s, s < 4 → o.sl s ≤ 255 := fun s hs => by rw [← hC.l3 s hs, hC.c3 s hs]; exact h10.sts s hs
  have b0 := b 0 (by omega); have b1 := b 1 (by omega); have b2 := b 2 (by omega); have b3 := b 3 (by omega)
  simp only [fLen, slSum, List.range_succ, List.range_zero, List.nil_append, List.cons_append, List.map_cons, List.map_nil, List.sum_cons, List.sum_nil]
  omega
/-- What Parse gives for what a good message was written as. -/
theorem parse_enc (G : Good g) (M : MsgV W g) {v : Value} {L : List Bk} (h : ParseP (encB g) v L) : ∃ o, v = .tuple #[.agg (msgCells o), .int .i64 0] ∧ SameC g o ∧ Zer o ∧ (∀ w, (∀ x ∈ L, x.holds w) → MsgV w o) ∧ encB o = encB g ∧ encOk o = true ∧ o.kind = g.kind ∧ o.data.length = o.dl ∧ fLen o ≤ 900000 := by
  obtain ⟨d, hd1, hd2, hd3⟩ := pI_comp G M.bits M.dat.1
  have hb0 : encB g = UInt8.ofNat g.kind.toNat :: fEnc g := rfl
  have hkk := G.kind
  have hx0 : ((UInt8.ofNat g.kind.toNat).toNat : Int) = g.kind := by
    rw [UInt8.toNat_ofNat']; omega
  cases h with
  | cut h => rw [hb0] at h; cases h
  | kind h hx => rw [hb0] at h; cases h; omega
  | bad h hx hF hp he =>
    obtain ⟨h1, _⟩ := fld_msg hF
    rw [hb0] at h
    cases h
    rw [hx0, hd1] at h1
    simp only at h1
    subst h1
    simp [noted] at he
  | ok h hx hF =>
    obtain ⟨o, h1, h2, h3, h4, h5, h6, h7, h8, h9⟩ := back_of h hx hF
    have hx1 := h
    rw [hb0] at hx1
    cases hx1
    rw [hx0, hd1] at h2
    exact ⟨o, by rw [h1], hd2.trans h2.symm, h3, h4, h5, h6, h7.trans hx0, h8, h9⟩
end
end Go.Proofs.Ytphmdhbhoakcaaa
