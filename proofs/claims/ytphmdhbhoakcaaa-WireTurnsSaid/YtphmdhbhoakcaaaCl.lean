/- slices.Clone. -/
import Derived.Test.YtphmdhbhoakcaaaHT
namespace Go.Proofs.Ytphmdhbhoakcaaa
open Go.RowKit Go.Ad Go.Maps
set_option linter.unusedVariables false
set_option linter.unusedSimpArgs false
/-- A new row: none, or a block of its own. -/
def NewRow (e k n : Nat) (cs : List Value) (v : Value) (L : List Bk) : Prop := (v = .slice none 0 0 ∧ n = 0 ∧ cs = [] ∧ L = []) ∨ ∃ g cap, n ≤ cap ∧ v = .slice (some ⟨g, 0, none⟩) n cap ∧ L = [⟨g, e, k, cap, cs⟩]
/-- Cells that lie where a slice says. -/
def SlAt (W : World) (a : Option Addr) (n c k : Nat) (cs : List Value) : Prop := cs.length = n * k ∧ (a = none → n = 0 ∧ c = 0) ∧ (∀ u ∈ cs, u.oneCell' = true) ∧ ∀ ad, a = some ad → ∀ j u, cs[j]? = some u → W.cell? (ad.add j) = some u
theorem SlAt.ex {W w : World} {M : List Nat} {L : List Bk} {a : Option Addr} {n c k : Nat} {cs : List Value} (h : SlAt W a n c k cs) (hH : Has W M L w) (hM : ∀ ad, a = some ad → cs ≠ [] → ad.block ∉ M) : SlAt w a n c k cs :=
  ⟨h.1, h.2.1, h.2.2.1, fun ad ha j u hu => by
    have h1 := h.2.2.2 ad ha j u hu
    rw [hH.ex.cell (p := ad.add j) (block_lt_of_cell h1) (by
      have := hM ad ha (by rintro rfl; simp at hu)
      unfold Addr.add; split <;> exact this)]
    exact h1⟩
theorem oldc {W : World} {L : List Bk} {ad : Addr} {cs : List Value} (h : ∀ j u, cs[j]? = some u → W.cell? (ad.add j) = some u) : ∀ w, Has W [] L w → ∀ j u, cs[j]? = some u → w.cell? (ad.add j) = some u := fun w hw j u hu => by
  have h1 := h j u hu
  rw [hw.ex.cell (p := ad.add j) (block_lt_of_cell h1) (by simp)]; exact h1
set_option maxRecDepth 100000 in
theorem clone_byte.some {W : World} {ad : Addr} {n c : Nat} {cs : List Value} (h : SlAt W (some ad) n c 1 cs) (hn : n ≤ 1000000) : Does Try.prog 72 [.slice (some ad) n c] W [] (fun v L => ∃ g cap, n ≤ cap ∧ v = .slice (some ⟨g, 0, none⟩) n cap ∧ L = [⟨g, 5, 1, cap, cs⟩]) := by
  obtain ⟨h1, h2, h3, h4⟩ := h
  have h5 := h4 ad rfl
  refine enter Try.func72 rfl rfl rfl (Has.start _) ?_
  refine c_seq ?_
  refine c_reg ?_
  refine s_y (Y_asC) rfl rfl ?_
  refine s_nil ?_
  refine q_then ?_
  refine c_seq ?_
  refine c_seq ?_
  refine c_reg ?_
  refine s_y (Y_mv) rfl rfl ?_
  refine s_y (Y_eqN rfl rfl Try.underlying27) rfl rfl ?_
  refine s_nil ?_
  refine q_then ?_
  refine c_F rfl rfl ?_
  refine c_skip ?_
  refine q_then ?_
  refine c_seq ?_
  refine c_reg ?_
  refine s_n (N_bs0 rfl Try.underlying27 sz5) rfl rfl (fun b5 _ => ?_)
  refine s_y (Y_mv) rfl rfl ?_
  refine s_n (N_app rfl rfl Try.underlying27 inf5 rfl (by omega) (by repeat (first | exact Sel.head | apply Sel.tail)) (by simp) (by omega) (oldc h5) h1 h3 (by omega) (by omega)) rfl rfl (fun ⟨g7, cp7⟩ hc7 => ?_)
  refine s_y (Y_as) rfl rfl ?_
  refine s_nil ?_
  refine q_then ?_
  refine c_ret ?_
  refine q_ret1 rfl rfl (L' := _) (by repeat (first | exact List.Sublist.refl _ | exact List.nil_sublist _ | apply List.Sublist.cons_cons | apply List.Sublist.cons)) ⟨g7, cp7, by omega, ?_, ?_⟩
  · simp only [Ov.get, Nat.zero_add]; rfl
  · simp only [List.nil_append]
set_option maxRecDepth 100000 in
theorem clone_byte {W : World} {a : Option Addr} {n c : Nat} {cs : List Value} (h : SlAt W a n c 1 cs) (hn : n ≤ 1000000) : Does Try.prog 72 [.slice a n c] W [] (NewRow 5 1 n cs) := by
  cases a with
  | none =>
    obtain ⟨h1, h2, h3, h4⟩ := h
    obtain ⟨rfl, rfl⟩ := h2 rfl
    obtain rfl : cs = [] := List.eq_nil_of_length_eq_zero (by omega)
    refine enter Try.func72 rfl rfl rfl (Has.start _) ?_
    refine c_seq ?_
    refine c_reg ?_
    refine s_y (Y_asC) rfl rfl ?_
    refine s_nil ?_
    refine q_then ?_
    refine c_seq ?_
    refine c_seq ?_
    refine c_reg ?_
    refine s_y (Y_mv) rfl rfl ?_
    refine s_y (Y_eqN rfl rfl Try.underlying27) rfl rfl ?_
    refine s_nil ?_
    refine q_then ?_
    refine c_T rfl rfl ?_
    refine c_seq ?_
    refine c_reg ?_
    refine s_y (Y_asC) rfl rfl ?_
    refine s_nil ?_
    refine q_then ?_
    refine c_ret ?_
    refine q_ret1 rfl rfl (L' := _) (by repeat (first | exact List.Sublist.refl _ | exact List.nil_sublist _ | apply List.Sublist.cons_cons | apply List.Sublist.cons)) (.inl ⟨rfl, rfl, rfl, rfl⟩)
  | some ad => exact (clone_byte.some h hn).post fun _ _ h => .inr h
end Go.Proofs.Ytphmdhbhoakcaaa
