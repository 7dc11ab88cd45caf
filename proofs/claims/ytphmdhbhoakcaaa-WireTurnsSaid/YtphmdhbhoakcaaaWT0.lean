/- What both readers give of the same bytes. -/
import Derived.Test.YtphmdhbhoakcaaaT8
import Derived.Test.YtphmdhbhoakcaaaRW
namespace Go.Proofs.Ytphmdhbhoakcaaa
open Go.RowKit Go.Ad Go.Maps
set_option linter.unusedVariables false
set_option linter.unusedSimpArgs false
theorem rec_kinds {o : MsgD} (h : encOk o = true) (hk : o.kind = 3) : ∀ r ∈ o.stream, 1 ≤ r.kind ∧ r.kind ≤ 3 := by
  intro r hr
  have h1 : fOk o = true := by
    simp only [encOk, Bool.and_eq_true] at h
    exact h.1
  unfold fOk at h1
  rw [if_neg (by omega), if_neg (by omega), if_pos hk] at h1
  simp only [Bool.and_eq_true, downOk, restOk, List.all_eq_true] at h1
  have h2 : recOk r = true := by
    unfold streamOk at h1
    simp only [Bool.and_eq_true, List.all_eq_true] at h1
    exact h1.2.2.1.1.2.2 r hr
  simp only [recOk, Bool.and_eq_true, inB, decide_eq_true_eq] at h2
  exact h2.1
/-- What both readers give of the same bytes. -/
structure GotP (bs : List UInt8) (L : List Bk) (o : MsgD) (e : Int) : Prop where
  err : e = pErr bs
  zer : e ≠ 0 → o = zmsg
  sam : e = 0 → ∃ x r, bs = x :: r ∧ SameC o (pI bs x.toNat).1
  val : e = 0 → ∀ w, (∀ x ∈ L, x.holds w) → MsgV w o
  enc : e = 0 → encB o = bs ∧ encOk o = true ∧ (1 ≤ o.kind ∧ o.kind ≤ 4) ∧ o.data.length = o.dl ∧ fLen o ≤ 900000
theorem zc_z : (Value.agg (zc 0).toArray) = .agg (msgCells zmsg) := rfl
theorem got_p {bs : List UInt8} {v : Value} {L : List Bk} (h : ParseP bs v L) : ∃ o e, v = .tuple #[.agg (msgCells o), .int .i64 e] ∧ GotP bs L o e := by
  cases h with
  | cut h => exact ⟨zmsg, 7, rfl, by rw [h]; rfl, fun _ => rfl, (fun h => by cases h), (fun h => by cases h), (fun h => by cases h)⟩
  | @kind _ x r h hx => exact ⟨zmsg, 3, rfl, by rw [h]; simp only [pErr]; rw [if_neg hx], fun _ => rfl, (fun h => by cases h), (fun h => by cases h), (fun h => by cases h)⟩
  | @bad _ bl x r c p h hx hF hp he =>
    obtain ⟨h1, _⟩ := fld_msg hF
    exact ⟨zmsg, _, rfl, by rw [h]; simp only [pErr]; rw [if_pos hx, ← h, ← h1], fun _ => rfl, fun h => absurd h he, fun h => absurd h he, fun h => absurd h he⟩
  | @ok _ x r c h hx hF =>
    obtain ⟨o, h1, h2, h3, h4, h5, h6, h7, h8, h9⟩ := back_of h hx hF
    obtain ⟨q1, _⟩ := fld_msg hF
    refine ⟨o, 0, by rw [h1], ?_, fun h => absurd rfl h, fun _ => ⟨x, r, h, h2⟩, fun _ => h4, fun _ => ⟨h5, h6, by omega, h8, h9⟩⟩
    rw [h]; simp only [pErr]; rw [if_pos hx, ← h, ← q1]
    simp [noted]
structure GotR (bs : List UInt8) (L : List Bk) (o : MsgD) (e : Int) : Prop where
  err : e = pErr bs
  zer : e ≠ 0 → o = zmsg
  sam : e = 0 → ∃ x r, bs = x :: r ∧ SameC o (pI bs x.toNat).1
  val : e = 0 → (∀ x r, bs = x :: r → Small (pI bs x.toNat).1) → ∀ w, (∀ x ∈ L, x.holds w) → MsgV w o
  dl : o.data.length = o.dl
theorem got_r {bs : List UInt8} {v : Value} {L : List Bk} (h : RefP bs v L) : ∃ o e, v = .tuple #[.agg (msgCells o), .int .i64 e] ∧ GotR bs L o e := by
  cases h with
  | bad h he => exact ⟨zmsg, _, rfl, h.symm, fun _ => rfl, fun h => absurd h he, fun h => absurd h he, rfl⟩
  | @ok _ x r o hbs hx hE ho hm hl =>
    refine ⟨o, 0, rfl, hE.symm, fun h => absurd rfl h, fun _ => ⟨x, r, hbs, ho⟩, fun _ h => hm (h x r hbs), hl⟩
theorem small_of {bs : List UInt8} {L : List Bk} {o : MsgD} {e : Int} (h : GotP bs L o e) (he : e = 0) : ∀ x r, bs = x :: r → Small (pI bs x.toNat).1 := by
  intro x r hbs
  have h1 := h.err
  rw [he, hbs] at h1
  simp only [pErr] at h1
  by_cases hx : 1 ≤ x.toNat ∧ x.toNat ≤ 4
  · rw [if_pos hx] at h1
    have h2 : (pI (x :: r) x.toNat).2 = ((x :: r).length, 0) := by
      generalize pI (x :: r) x.toNat = q at h1 ⊢
      obtain ⟨d, p, ee⟩ := q
      simp only at h1 ⊢
      generalize (x :: r).length = N at h1 ⊢
      unfold noted at h1
      by_cases hee : ee = 0
      · subst hee
        by_cases hp : p = N
        · rw [hp]
        · simp [hp] at h1
      · exfalso
        revert h1
        by_cases hp : p = N <;> simp [hp, hee] <;> omega
    have h3 : pI bs x.toNat = ((pI bs x.toNat).1, bs.length, 0) := by rw [hbs]; exact Prod.ext rfl h2
    exact (pI_sound hbs hx h3).2.2.2
  · rw [if_neg hx] at h1; cases h1
theorem within_n {N : Nat} (z : Int) {zn : Int} (hz : zn = (N : Int)) (hN : 0 < N) (hN2 : N ≤ 1073741824) {W : World} : Does Try.prog 11 [.int .i64 z, .int .i64 zn] W [] (fun v L => ∃ k : Nat, k < N ∧ v = .int .i64 (k : Int) ∧ L = []) := by
  subst hz
  refine Calls.mono (within15 z N (by omega) (by omega) W) ?_
  rintro e w' ⟨rfl, rfl⟩
  refine ⟨_, [], rfl, Has.start _, (z % (N : Int)).toNat, ?_, ?_, rfl⟩
  · have := Int.emod_lt_of_pos z (show (0 : Int) < N by omega); have := Int.emod_nonneg z (show (N : Int) ≠ 0 by omega); omega
  · have := Int.emod_nonneg z (show (N : Int) ≠ 0 by omega)
    rw [Int.toNat_of_nonneg this]
theorem BytesAt.at' {W : World} {a : Option Addr} {n : Nat} {xs : List UInt8} (h : BytesAt W a n xs) {i : Nat} {x : UInt8} (hx : xs[i]? = some x) : ∃ b o, a = some ⟨b, o, none⟩ ∧ Ro W b o (xs.map bv) := by
  rcases h.2 with h2 | ⟨b, o, h1, _, h3⟩
  · subst h2; simp at hx
  · exact ⟨b, o, h1, h3⟩
theorem _root_.Go.Ad.Has.shrink {W w : World} {M : List Nat} {b t k cap : Nat} {c c' : List Value} (hp : c' <+: c) (hH : Has W M [⟨b, t, k, cap, c⟩] w) : Has W M [⟨b, t, k, cap, c'⟩] w := by
  refine ⟨hH.ex, fun x hx => ?_, by simp⟩
  obtain rfl := List.mem_singleton.1 hx
  obtain ⟨⟨cur, h1, h2, h3, h4⟩, h5⟩ := hH.bk _ (List.Mem.head _)
  exact ⟨⟨cur, h1, h2, h3, hp.trans h4⟩, h5⟩
theorem srcOf {w : World} {g cp n : Nat} {bs : List UInt8} (hl : bs.length = n) (h : (⟨g, 5, 1, cp, bs.map bv⟩ : Bk).holds w) (hc : n ≤ cp) : Src w [] (some ⟨g, 0, none⟩) n cp bs := by
  refine ⟨hl, hc, ?_, fun _ => ⟨g, 0, rfl, h.ro, by simp, h.lt⟩⟩
  obtain ⟨cur, h1, h2, h3, h4⟩ := h
  unfold maxLen at h3
  simp only at h3
  omega
theorem refsame2 {w : World} {bs : List UInt8} {L1 L2 : List Bk} {o q : MsgD} {e : Int} (P : GotP bs L1 o e) (R : GotR bs L2 q e) (hM : ∀ x ∈ L1, x.holds w) (hR : ∀ x ∈ L2, x.holds w) : Does Try.prog 16 [.agg (msgCells o), .agg (msgCells q)] w [] (fun v L => v = .bool true ∧ L = []) := by
  by_cases he : e = 0
  · obtain ⟨x, r, hb, S1⟩ := P.sam he
    obtain ⟨x', r', hb', S2⟩ := R.sam he
    rw [hb] at hb'
    cases hb'
    obtain ⟨_, e2, e3, e4, _⟩ := P.enc he
    exact refsame_d (P.val he w hM) (R.val he (small_of P he) w hR) (S1.trans S2.symm) (rec_kinds e2) ⟨e4.symm, R.dl.symm⟩ (by omega)
  · obtain rfl := P.zer he
    obtain rfl := R.zer he
    have hz : MsgV w zmsg := zV w zmsg rfl ⟨rfl, rfl, rfl, rfl⟩ ⟨rfl, rfl, rfl, rfl⟩ (fun _ => ⟨rfl, rfl, rfl, rfl⟩) ⟨rfl, rfl, rfl, rfl⟩
    exact refsame_d hz hz (SameC.refl _) (fun h => by cases h) ⟨rfl, rfl⟩ (by decide)
end Go.Proofs.Ytphmdhbhoakcaaa
