/- A region that draws its order, walked along a tree of orders: where two operations may come now, both ways are walked. -/
import Derived.Test.YtfnedfacapgoaaaKit
namespace Go.Ad
section
variable {P : Program} {ops : Array Oper} {Q : Exit → Act → World → Prop} {S : World → Prop}
inductive OT where
  | nil
  | take (i : Nat) (r : OT)
  | one (i : Nat) (r : OT)
  | two (i : Nat) (r : OT) (j : Nat) (t : OT)
def OT.len : OT → Nat
  | .nil => 0
  | .take _ r => r.len + 1
  | .one _ r => r.len + 1
  | .two _ r _ _ => r.len + 1
def wpTr (P : Program) (ops : Array Oper) (Q : Exit → Act → World → Prop) (S : World → Prop) (T : Nat → Bool) : OT → Act → World → Prop
  | .nil, a, w => Q .normal a w
  | .take i r, a, w => ∃ o v, ops[i]? = some o ∧ YieldsIf P ops S o v a ∧ wpTr P ops Q S T r (a.put o.dst v) w
  | .one i r, a, w => wpOp P ops Q i (fun a' w' => (T i = true → S w') ∧ wpTr P ops Q S T r a' w') a w
  | .two i r j t, a, w => wpOp P ops Q i (fun a' w' => (T i = true → S w') ∧ wpTr P ops Q S T r a' w') a w ∧ wpOp P ops Q j (fun a' w' => (T j = true → S w') ∧ wpTr P ops Q S T t a' w') a w
def okTr (ops : Array Oper) (T : Nat → Bool) : OT → Bool → Array Bool → Bool
  | .nil, _, listed => (Region.ready .any ops listed).isEmpty
  | .take i r, s, listed => s && Region.free .any ops listed i && (Region.ready .any ops listed).contains i && ((List.range ops.size).all fun j => T j || waits ops ops.size j i || j == i) && okTr ops T r s (listed.setIfInBounds i true)
  | .one i r, s, listed => (Region.ready .any ops listed == [i]) && okTr ops T r (s && T i) (listed.setIfInBounds i true)
  | .two i r j t, s, listed => (Region.ready .any ops listed == [i, j]) && (r.len == t.len) && okTr ops T r (s && T i) (listed.setIfInBounds i true) && okTr ops T t (s && T j) (listed.setIfInBounds j true)
variable {T : Nat → Bool}
theorem wpTr_sound (hs : Region.noSelect ops = true) (hT : ∀ j, ops.size ≤ j → T j = true) (hQ : ∀ c a d v w, Q (.panic c) (a.put d v) w → Q (.panic c) a w) :
    ∀ (t : OT) (s : Bool) (listed : Array Bool) (a : Act) (w : World), Closed ops listed → okTr ops T t s listed = true → (s = true → S w) → wpTr P ops Q S T t a w → wpAnyT P ops Q S T t.len listed a w
  | .nil, s, listed, a, w, _, hok, _, h => ⟨by simpa [okTr] using hok, h⟩
  | .take i r, s, listed, a, w, hc, hok, hS, h => by
    simp only [okTr, Bool.and_eq_true] at hok
    obtain ⟨⟨⟨⟨h1, h2⟩, h3⟩, h4⟩, h5⟩ := hok
    subst h1
    obtain ⟨o, v, ho, hy, hr⟩ := h
    refine wpAnyT_first ho (Region.noSelect_spec hs) (fun j => ?_) (fun c a w => hQ c a _ _ w) r.len listed a w hc (Region.free_spec ho h2) (by simpa using h3) hy (hS rfl) (wpTr_sound hs hT hQ r true _ _ _ (hc.set (by simpa using h3)) h5 hS hr)
    rcases Nat.lt_or_ge j ops.size with hj | hj
    · have := List.all_eq_true.1 h4 j (List.mem_range.2 hj)
      simp only [Bool.or_eq_true, beq_iff_eq] at this
      rcases this with (h | h) | h
      · exact .inl h
      · exact .inr (.inl h)
      · exact .inr (.inr h)
    · exact .inl (hT j hj)
  | .one i r, s, listed, a, w, hc, hok, hS, h => by
    simp only [okTr, Bool.and_eq_true, beq_iff_eq] at hok
    obtain ⟨h1, h2⟩ := hok
    refine ⟨fun h0 => (by rw [h1] at h0; cases h0), fun j hj => ?_⟩
    have hc' := hc.set hj
    rw [h1] at hj
    simp only [List.mem_singleton] at hj
    subst hj
    refine wpOp_mono (fun a' w' h3 => ⟨h3.1, wpTr_sound hs hT hQ r (s && T j) _ _ _ hc' h2 (fun hh => ?_) h3.2⟩) h
    simp only [Bool.and_eq_true] at hh
    exact h3.1 hh.2
  | .two i r k t, s, listed, a, w, hc, hok, hS, h => by
    simp only [okTr, Bool.and_eq_true, beq_iff_eq] at hok
    obtain ⟨⟨⟨h1, hl⟩, h2⟩, h2'⟩ := hok
    refine ⟨fun h0 => (by rw [h1] at h0; cases h0), fun j hj => ?_⟩
    have hc' := hc.set hj
    rw [h1] at hj
    simp only [List.mem_cons, List.not_mem_nil, or_false] at hj
    rcases hj with hj | hj
    · subst hj
      refine wpOp_mono (fun a' w' h3 => ⟨h3.1, wpTr_sound hs hT hQ r (s && T j) _ _ _ hc' h2 (fun hh => ?_) h3.2⟩) h.1
      simp only [Bool.and_eq_true] at hh
      exact h3.1 hh.2
    · subst hj
      refine wpOp_mono (fun a' w' h3 => ⟨h3.1, ?_⟩) h.2
      rw [hl]
      refine wpTr_sound hs hT hQ t (s && T j) _ _ _ hc' h2' (fun hh => ?_) h3.2
      simp only [Bool.and_eq_true] at hh
      exact h3.1 hh.2
inductive OTO where
  | nil
  | take (i : Nat) (o : Oper) (r : OTO)
  | one (i : Nat) (o : Oper) (r : OTO)
  | two (r t : OTO)
def wpTO (P : Program) (ops : Array Oper) (Q : Exit → Act → World → Prop) (S : World → Prop) (T : Nat → Bool) : OTO → Act → World → Prop
  | .nil, a, w => Q .normal a w
  | .take _ o r, a, w => ∃ v, YieldsIf P ops S o v a ∧ wpTO P ops Q S T r (a.put o.dst v) w
  | .one i o r, a, w => if Region.wanted o (yielded ops a.tmps) then o.wp P a w (fun a' w' => (T i = true → S w') ∧ wpTO P ops Q S T r a' w') Q else (T i = true → S w) ∧ wpTO P ops Q S T r (a.put o.dst undef) w
  | .two r t, a, w => wpTO P ops Q S T r a w ∧ wpTO P ops Q S T t a w
def mkTr (ops : Array Oper) : OT → Option OTO
  | .nil => some .nil
  | .take i r => match ops[i]?, mkTr ops r with | some o, some t => some (.take i o t) | _, _ => none
  | .one i r => match ops[i]?, mkTr ops r with | some o, some t => some (.one i o t) | _, _ => none
  | .two i r j t => match ops[i]?, mkTr ops r, ops[j]?, mkTr ops t with | some o, some x, some o', some y => some (.two (.one i o x) (.one j o' y)) | _, _, _, _ => none
theorem wpTO_one {i : Nat} {o : Oper} {r : OT} {x : OTO} (ho : ops[i]? = some o) (ih : ∀ a w, wpTO P ops Q S T x a w → wpTr P ops Q S T r a w) {a : Act} {w : World} (h : wpTO P ops Q S T (.one i o x) a w) :
    wpOp P ops Q i (fun a' w' => (T i = true → S w') ∧ wpTr P ops Q S T r a' w') a w := by
  simp only [wpTO] at h
  simp only [wpOp, ho]
  split
  · rename_i hw
    rw [if_pos hw] at h
    exact .inl (Oper.wp_mono (fun a' w' hh => ⟨hh.1, ih _ _ hh.2⟩) h)
  · rename_i hw
    rw [if_neg hw] at h
    exact ⟨h.1, ih _ _ h.2⟩
theorem wpTr_of_O : ∀ (t : OT) (x : OTO), mkTr ops t = some x → ∀ (a : Act) (w : World), wpTO P ops Q S T x a w → wpTr P ops Q S T t a w
  | .nil, x, hm, a, w, h => by simp only [mkTr, Option.some.injEq] at hm; subst hm; exact h
  | .take i r, x, hm, a, w, h => by
    simp only [mkTr] at hm
    split at hm
    · rename_i o t ho ht
      cases hm
      obtain ⟨v, h1, h2⟩ := h
      exact ⟨o, v, ho, h1, wpTr_of_O r t ht _ _ h2⟩
    · cases hm
  | .one i r, x, hm, a, w, h => by
    simp only [mkTr] at hm
    split at hm
    · rename_i o t ho ht
      cases hm
      exact wpTO_one ho (wpTr_of_O r t ht) h
    · cases hm
  | .two i r j t, x, hm, a, w, h => by
    simp only [mkTr] at hm
    split at hm
    · rename_i o x1 o' y1 ho hx ho' hy
      cases hm
      exact ⟨wpTO_one ho (wpTr_of_O r x1 hx) h.1, wpTO_one ho' (wpTr_of_O t y1 hy) h.2⟩
    · cases hm
/-- A REGION THAT DRAWS ITS ORDER, walked along a tree of orders. -/
theorem wp_region_tree {id : Nat} {a : Act} {w : World} (S : World → Prop) (E : List Nat) (t : OT) (hm : P.follows .mixedOrders = true)
    (hs : Region.noSelect ops = true) (hok : okTr ops (fun j => !E.contains j) t true (Array.replicate ops.size false) = true) (hE : E.all (· < ops.size) = true) (hl : t.len = ops.size)
    (hQ : ∀ c a d v w, Q (.panic c) (a.put d v) w → Q (.panic c) a w) (hS : S w.drew) {x : OTO} (hx : mkTr ops t = some x)
    (h : wpTO P ops Q S (fun j => !E.contains j) x a w.drew) : (Code.region id ops true).wp P Q a w := by
  refine wp_region_any hm ?_
  have h1 := wpTr_sound hs (fun j hj => ?_) hQ t true _ _ _ (fun j oj _ hl => by rw [getD_replicate_false] at hl; cases hl) hok (fun _ => hS) (wpTr_of_O t x hx _ _ h)
  · rw [hl] at h1
    exact wpAny_of_T _ _ _ _ h1
  · simp only [Bool.not_eq_true', List.contains_eq_mem, decide_eq_false_iff_not]
    intro hm
    have := List.all_eq_true.1 hE j hm
    simp at this; omega
variable {a : Act} {w w' : World} {i : Nat} {r : OTO} {o : Oper} {v : Value}
theorem tre_nil (h : Q .normal a w) : wpTO P ops Q S T .nil a w := h
theorem tre_take (hw : Region.wanted o (yielded ops a.tmps) = true) (hy : ∀ w, S w → (execOp a.eval o).run P w = .ok (.value v) w)
    (h : wpTO P ops Q S T r (a.put o.dst v) w) : wpTO P ops Q S T (.take i o r) a w := ⟨v, .inl ⟨hw, hy⟩, h⟩
theorem tre_pass (hw : Region.wanted o (yielded ops a.tmps) = false) (h : wpTO P ops Q S T r (a.put o.dst undef) w) : wpTO P ops Q S T (.take i o r) a w := ⟨undef, .inr ⟨hw, rfl⟩, h⟩
theorem tre_val (hw : Region.wanted o (yielded ops a.tmps) = true) (hr : (execOp a.eval o).run P w = .ok (.value v) w')
    (hS : T i = true → S w') (h : wpTO P ops Q S T r (a.put o.dst v) w') : wpTO P ops Q S T (.one i o r) a w := by
  simp only [wpTO, hw, if_true, Oper.wp, hr, Oper.upon]
  exact ⟨hS, h⟩
theorem tre_skip (hw : Region.wanted o (yielded ops a.tmps) = true) (hr : (execOp a.eval o).run P w = .ok .skip w')
    (hS : T i = true → S w') (h : wpTO P ops Q S T r (a.put o.dst undef) w') : wpTO P ops Q S T (.one i o r) a w := by
  simp only [wpTO, hw, if_true, Oper.wp, hr, Oper.upon]
  exact ⟨hS, h⟩
theorem tre_enter (hw : Region.wanted o (yielded ops a.tmps) = true) {f : FuncId} {args : Array Value} (hr : (execOp a.eval o).run P w = .ok (.enter f args) w)
    (hc : Calls P f args w (fun e w' => ∃ v, e = .returned v ∧ (T i = true → S w') ∧ wpTO P ops Q S T r (a.put o.dst v) w')) : wpTO P ops Q S T (.one i o r) a w := by
  simp only [wpTO, hw, if_true, Oper.wp, hr, Oper.upon]
  refine hc.mono ?_
  rintro e w' ⟨v, rfl, h1, h2⟩
  exact ⟨h1, h2⟩
theorem tre_none (hw : Region.wanted o (yielded ops a.tmps) = false) (hS : T i = true → S w) (h : wpTO P ops Q S T r (a.put o.dst undef) w) : wpTO P ops Q S T (.one i o r) a w := by
  simp only [wpTO, hw, Bool.false_eq_true, if_false]
  exact ⟨hS, h⟩
theorem tre_two {t : OTO} (h1 : wpTO P ops Q S T r a w) (h2 : wpTO P ops Q S T t a w) : wpTO P ops Q S T (.two r t) a w := ⟨h1, h2⟩
end
end Go.Ad
