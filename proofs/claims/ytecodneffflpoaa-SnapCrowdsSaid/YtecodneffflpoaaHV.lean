/- A region that draws its order, in which several operations may come now: all ways. -/
import Derived.Test.YtecodneffflpoaaHQ
namespace Go.Ad
open Go.RowKit Go.Maps
section
variable {P : Program} {ops : Array Oper} {Q : Exit → Act → World → Prop} {S : World → Prop}
inductive OV where
  | nil
  | take (i : Nat) (r : OV)
  | one (i : Nat) (r : OV)
  | alt (i : Nat) (r : OV) (t : OV)
def OV.len : OV → Nat
  | .nil => 0
  | .take _ r => r.len + 1
  | .one _ r => r.len + 1
  | .alt _ r _ => r.len + 1
def OV.heads : OV → List Nat
  | .one i _ => [i]
  | .alt i _ t => i :: t.heads
  | _ => []
def wpVr (P : Program) (ops : Array Oper) (Q : Exit → Act → World → Prop) (S : World → Prop) (T : Nat → Bool) : OV → Act → World → Prop
  | .nil, a, w => Q .normal a w
  | .take i r, a, w => ∃ o v, ops[i]? = some o ∧ YieldsIf P ops S o v a ∧ wpVr P ops Q S T r (a.put o.dst v) w
  | .one i r, a, w => wpOp P ops Q i (fun a' w' => (T i = true → S w') ∧ wpVr P ops Q S T r a' w') a w
  | .alt i r t, a, w => wpOp P ops Q i (fun a' w' => (T i = true → S w') ∧ wpVr P ops Q S T r a' w') a w ∧ wpVr P ops Q S T t a w
/-- b: is it looked whether all that may come now are there? -/
def okVr (ops : Array Oper) (T : Nat → Bool) : Bool → OV → Bool → Array Bool → Bool
  | b, .nil, _, listed => b && (Region.ready .any ops listed).isEmpty
  | b, .take i r, s, listed => b && (s && Region.free .any ops listed i && (Region.ready .any ops listed).contains i && ((List.range ops.size).all fun j => T j || waits ops ops.size j i || j == i) && okVr ops T true r s (listed.setIfInBounds i true))
  | b, .one i r, s, listed => (!b || Region.ready .any ops listed == [i]) && okVr ops T true r (s && T i) (listed.setIfInBounds i true)
  | b, .alt i r t, s, listed => (!b || Region.ready .any ops listed == i :: t.heads) && (t.len == r.len + 1) && okVr ops T true r (s && T i) (listed.setIfInBounds i true) && okVr ops T false t s listed
variable {T : Nat → Bool}
theorem wpVr_sound (hs : Region.noSelect ops = true) (hT : ∀ j, ops.size ≤ j → T j = true) (hQ : ∀ c a d v w, Q (.panic c) (a.put d v) w → Q (.panic c) a w) :
    ∀ (t : OV) (s : Bool) (listed : Array Bool) (a : Act) (w : World), Closed ops listed → (s = true → S w) → wpVr P ops Q S T t a w →
      (okVr ops T true t s listed = true → wpAnyT P ops Q S T t.len listed a w) ∧
      (okVr ops T false t s listed = true → ∀ j ∈ t.heads, j ∈ Region.ready .any ops listed → wpOp P ops Q j (fun a' w' => (T j = true → S w') ∧ wpAnyT P ops Q S T (t.len - 1) (listed.setIfInBounds j true) a' w') a w)
  | .nil, s, listed, a, w, _, _, h => ⟨fun hok => ⟨by simpa [okVr] using hok, h⟩, fun hok => by simp [okVr] at hok⟩
  | .take i r, s, listed, a, w, hc, hS, h => by
    refine ⟨fun hok => ?_, fun hok => by simp [okVr] at hok⟩
    simp only [okVr, Bool.and_eq_true, Bool.true_and] at hok
    obtain ⟨⟨⟨⟨h1, h2⟩, h3⟩, h4⟩, h5⟩ := hok
    subst h1
    obtain ⟨o, v, ho, hy, hr⟩ := h
    refine wpAnyT_first ho (Region.noSelect_spec hs) (fun j => ?_) (fun c a w => hQ c a _ _ w) r.len listed a w hc (Region.free_spec ho h2) (by simpa using h3) hy (hS rfl) ((wpVr_sound hs hT hQ r true _ _ _ (hc.set (by simpa using h3)) hS hr).1 h5)
    rcases Nat.lt_or_ge j ops.size with hj | hj
    · have := List.all_eq_true.1 h4 j (List.mem_range.2 hj)
      simp only [Bool.or_eq_true, beq_iff_eq] at this
      rcases this with (h | h) | h
      · exact .inl h
      · exact .inr (.inl h)
      · exact .inr (.inr h)
    · exact .inl (hT j hj)
  | .one i r, s, listed, a, w, hc, hS, h => by
    have key : okVr ops T true r (s && T i) (listed.setIfInBounds i true) = true → i ∈ Region.ready .any ops listed → wpOp P ops Q i (fun a' w' => (T i = true → S w') ∧ wpAnyT P ops Q S T r.len (listed.setIfInBounds i true) a' w') a w := fun h2 hj =>
      wpOp_mono (fun a' w' h3 => ⟨h3.1, (wpVr_sound hs hT hQ r (s && T i) _ _ _ (hc.set hj) (fun hh => by simp only [Bool.and_eq_true] at hh; exact h3.1 hh.2) h3.2).1 h2⟩) h
    refine ⟨fun hok => ?_, fun hok j hj hr => ?_⟩
    · simp only [okVr, Bool.not_true, Bool.false_or, Bool.and_eq_true, beq_iff_eq] at hok
      obtain ⟨h1, h2⟩ := hok
      refine ⟨fun h0 => (by rw [h1] at h0; cases h0), fun j hj => ?_⟩
      have hj' := hj
      rw [h1] at hj
      simp only [List.mem_singleton] at hj
      subst hj
      exact key h2 hj'
    · simp only [okVr, Bool.not_false, Bool.true_or, Bool.true_and] at hok
      simp only [OV.heads, List.mem_singleton] at hj
      subst hj
      exact key hok hr
  | .alt i r t, s, listed, a, w, hc, hS, h => by
    have key : okVr ops T true r (s && T i) (listed.setIfInBounds i true) = true → i ∈ Region.ready .any ops listed → wpOp P ops Q i (fun a' w' => (T i = true → S w') ∧ wpAnyT P ops Q S T r.len (listed.setIfInBounds i true) a' w') a w := fun h2 hj =>
      wpOp_mono (fun a' w' h3 => ⟨h3.1, (wpVr_sound hs hT hQ r (s && T i) _ _ _ (hc.set hj) (fun hh => by simp only [Bool.and_eq_true] at hh; exact h3.1 hh.2) h3.2).1 h2⟩) h.1
    have key2 := (wpVr_sound hs hT hQ t s listed a w hc hS h.2).2
    refine ⟨fun hok => ?_, fun hok j hj hr => ?_⟩
    · simp only [okVr, Bool.not_true, Bool.false_or, Bool.and_eq_true, beq_iff_eq] at hok
      obtain ⟨⟨⟨h1, hl⟩, h2⟩, h3⟩ := hok
      refine ⟨fun h0 => (by rw [h1] at h0; cases h0), fun j hj => ?_⟩
      have hj' := hj
      rw [h1] at hj
      rcases List.mem_cons.1 hj with hj | hj
      · subst hj; exact key h2 hj'
      · have := key2 h3 j hj hj'
        rw [hl] at this
        exact this
    · simp only [okVr, Bool.not_false, Bool.true_or, Bool.true_and, Bool.and_eq_true, beq_iff_eq] at hok
      obtain ⟨⟨hl, h2⟩, h3⟩ := hok
      simp only [OV.heads] at hj
      rcases List.mem_cons.1 hj with hj | hj
      · subst hj; exact key h2 hr
      · have := key2 h3 j hj hr
        rw [hl] at this
        exact this
inductive OVO where
  | nil
  | take (i : Nat) (o : Oper) (r : OVO)
  | one (i : Nat) (o : Oper) (r : OVO)
  | two (r t : OVO)
def wpVO (P : Program) (ops : Array Oper) (Q : Exit → Act → World → Prop) (S : World → Prop) (T : Nat → Bool) : OVO → Act → World → Prop
  | .nil, a, w => Q .normal a w
  | .take _ o r, a, w => ∃ v, YieldsIf P ops S o v a ∧ wpVO P ops Q S T r (a.put o.dst v) w
  | .one i o r, a, w => if Region.wanted o (yielded ops a.tmps) then o.wp P a w (fun a' w' => (T i = true → S w') ∧ wpVO P ops Q S T r a' w') Q else (T i = true → S w) ∧ wpVO P ops Q S T r (a.put o.dst undef) w
  | .two r t, a, w => wpVO P ops Q S T r a w ∧ wpVO P ops Q S T t a w
def mkVr (ops : Array Oper) : OV → Option OVO
  | .nil => some .nil
  | .take i r => match ops[i]?, mkVr ops r with | some o, some t => some (.take i o t) | _, _ => none
  | .one i r => match ops[i]?, mkVr ops r with | some o, some t => some (.one i o t) | _, _ => none
  | .alt i r t => match ops[i]?, mkVr ops r, mkVr ops t with | some o, some x, some y => some (.two (.one i o x) y) | _, _, _ => none
theorem wpVO_one {i : Nat} {o : Oper} {r : OV} {x : OVO} (ho : ops[i]? = some o) (ih : ∀ a w, wpVO P ops Q S T x a w → wpVr P ops Q S T r a w) {a : Act} {w : World} (h : wpVO P ops Q S T (.one i o x) a w) :
    wpOp P ops Q i (fun a' w' => (T i = true → S w') ∧ wpVr P ops Q S T r a' w') a w := by
  simp only [wpVO] at h
  simp only [wpOp, ho]
  split
  · rename_i hw
    rw [if_pos hw] at h
    exact .inl (Oper.wp_mono (fun a' w' hh => ⟨hh.1, ih _ _ hh.2⟩) h)
  · rename_i hw
    rw [if_neg hw] at h
    exact ⟨h.1, ih _ _ h.2⟩
theorem wpVr_of_O : ∀ (t : OV) (x : OVO), mkVr ops t = some x → ∀ (a : Act) (w : World), wpVO P ops Q S T x a w → wpVr P ops Q S T t a w
  | .nil, x, hm, a, w, h => by simp only [mkVr, Option.some.injEq] at hm; subst hm; exact h
  | .take i r, x, hm, a, w, h => by
    simp only [mkVr] at hm
    split at hm
    · rename_i o t ho ht
      cases hm
      obtain ⟨v, h1, h2⟩ := h
      exact ⟨o, v, ho, h1, wpVr_of_O r t ht _ _ h2⟩
    · cases hm
  | .one i r, x, hm, a, w, h => by
    simp only [mkVr] at hm
    split at hm
    · rename_i o t ho ht
      cases hm
      exact wpVO_one ho (wpVr_of_O r t ht) h
    · cases hm
  | .alt i r t, x, hm, a, w, h => by
    simp only [mkVr] at hm
    split at hm
    · rename_i o x1 y1 ho hx hy
      cases hm
      exact ⟨wpVO_one ho (wpVr_of_O r x1 hx) h.1, wpVr_of_O t y1 hy _ _ h.2⟩
    · cases hm
theorem wp_region_v {id : Nat} {a : Act} {w : World} (S : World → Prop) (E : List Nat) (t : OV) (hm : P.follows .mixedOrders = true)
    (hs : Region.noSelect ops = true) (hok : okVr ops (fun j => !E.contains j) true t true (Array.replicate ops.size false) = true) (hE : E.all (· < ops.size) = true) (hl : t.len = ops.size)
    (hQ : ∀ c a d v w, Q (.panic c) (a.put d v) w → Q (.panic c) a w) (hS : S w.drew) {x : OVO} (hx : mkVr ops t = some x)
    (h : wpVO P ops Q S (fun j => !E.contains j) x a w.drew) : (Code.region id ops true).wp P Q a w := by
  refine wp_region_any hm ?_
  have h1 := (wpVr_sound hs (fun j hj => ?_) hQ t true _ _ _ (fun j oj _ hl => by rw [getD_replicate_false] at hl; cases hl) (fun _ => hS) (wpVr_of_O t x hx _ _ h)).1 hok
  · rw [hl] at h1
    exact wpAny_of_T _ _ _ _ h1
  · simp only [Bool.not_eq_true', List.contains_eq_mem, decide_eq_false_iff_not]
    intro hm
    have := List.all_eq_true.1 hE j hm
    simp at this; omega
variable {a : Act} {w w' : World} {i : Nat} {r : OVO} {o : Oper} {v : Value}
theorem vre_nil (h : Q .normal a w) : wpVO P ops Q S T .nil a w := h
theorem vre_take (hw : Region.wanted o (yielded ops a.tmps) = true) (hy : ∀ w, S w → (execOp a.eval o).run P w = .ok (.value v) w)
    (h : wpVO P ops Q S T r (a.put o.dst v) w) : wpVO P ops Q S T (.take i o r) a w := ⟨v, .inl ⟨hw, hy⟩, h⟩
theorem vre_pass (hw : Region.wanted o (yielded ops a.tmps) = false) (h : wpVO P ops Q S T r (a.put o.dst undef) w) : wpVO P ops Q S T (.take i o r) a w := ⟨undef, .inr ⟨hw, rfl⟩, h⟩
theorem vre_val (hw : Region.wanted o (yielded ops a.tmps) = true) (hr : (execOp a.eval o).run P w = .ok (.value v) w')
    (hS : T i = true → S w') (h : wpVO P ops Q S T r (a.put o.dst v) w') : wpVO P ops Q S T (.one i o r) a w := by
  simp only [wpVO, hw, if_true, Oper.wp, hr, Oper.upon]
  exact ⟨hS, h⟩
theorem vre_skip (hw : Region.wanted o (yielded ops a.tmps) = true) (hr : (execOp a.eval o).run P w = .ok .skip w')
    (hS : T i = true → S w') (h : wpVO P ops Q S T r (a.put o.dst undef) w') : wpVO P ops Q S T (.one i o r) a w := by
  simp only [wpVO, hw, if_true, Oper.wp, hr, Oper.upon]
  exact ⟨hS, h⟩
theorem vre_enter (hw : Region.wanted o (yielded ops a.tmps) = true) {f : FuncId} {args : Array Value} (hr : (execOp a.eval o).run P w = .ok (.enter f args) w)
    (hc : Calls P f args w (fun e w' => ∃ v, e = .returned v ∧ (T i = true → S w') ∧ wpVO P ops Q S T r (a.put o.dst v) w')) : wpVO P ops Q S T (.one i o r) a w := by
  simp only [wpVO, hw, if_true, Oper.wp, hr, Oper.upon]
  refine hc.mono ?_
  rintro e w' ⟨v, rfl, h1, h2⟩
  exact ⟨h1, h2⟩
theorem vre_none (hw : Region.wanted o (yielded ops a.tmps) = false) (hS : T i = true → S w) (h : wpVO P ops Q S T r (a.put o.dst undef) w) : wpVO P ops Q S T (.one i o r) a w := by
  simp only [wpVO, hw, Bool.false_eq_true, if_false]
  exact ⟨hS, h⟩
theorem vre_two {t : OVO} (h1 : wpVO P ops Q S T r a w) (h2 : wpVO P ops Q S T t a w) : wpVO P ops Q S T (.two r t) a w := ⟨h1, h2⟩
end
section
variable {P : Program} {W : World} {M : List Nat} {ops : Array Oper} {Q : Exit → Act → World → Prop} {T : Nat → Bool} {i : Nat} {r r2 : OVO} {ov : Ov} {base : List Value} {L L' L0 : List Bk}
def wpT (P : Program) (W : World) (M : List Nat) (ops : Array Oper) (Q : Exit → Act → World → Prop) (T : Nat → Bool) (L0 : List Bk) (x : OVO) (ov : Ov) (base : List Value) (L : List Bk) : Prop := QL W M (wpVO P ops Q (Has W M L0) T x) ov base L
theorem t_two (h1 : wpT P W M ops Q T L0 r ov base L) (h2 : wpT P W M ops Q T L0 r2 ov base L) : wpT P W M ops Q T L0 (.two r r2) ov base L := fun a w hr hH => vre_two (h1 a w hr hH) (h2 a w hr hH)
theorem t_nil (k : QL W M (Q .normal) ov base L) : wpT P W M ops Q T L0 .nil ov base L := k
theorem t_y {d : Nat} {op : Op} {ty : TypeId} {pos : String} {aft : Array Edge} {g : Option (Nat × Bool)} {v : Value} (hy : Y P W M L0 (ev ov base) op ty v) (hw : wantedL ops ov base ⟨some d, op, ty, pos, aft, g⟩ = true) (hd : Nat.blt d base.length = true)
    (k : wpT P W M ops Q T L0 r ((d, v) :: ov) base L) : wpT P W M ops Q T L0 (.take i ⟨some d, op, ty, pos, aft, g⟩ r) ov base L := fun a w hr hH =>
  vre_take (by rw [hr.wanted]; exact hw) (fun w' h' => by rw [hr.eval]; exact hy w' h' _ rfl rfl) (k _ _ (hr.put v hd) hH)
theorem t_pass {d : Nat} {op : Op} {ty : TypeId} {pos : String} {aft : Array Edge} {g : Option (Nat × Bool)} (hw : wantedL ops ov base ⟨some d, op, ty, pos, aft, g⟩ = false) (hd : Nat.blt d base.length = true)
    (k : wpT P W M ops Q T L0 r ((d, undef) :: ov) base L) : wpT P W M ops Q T L0 (.take i ⟨some d, op, ty, pos, aft, g⟩ r) ov base L := fun a w hr hH =>
  vre_pass (by rw [hr.wanted]; exact hw) (k _ _ (hr.put undef hd) hH)
theorem t_none {d : Nat} {op : Op} {ty : TypeId} {pos : String} {aft : Array Edge} {g : Option (Nat × Bool)} (hk : Keep W M L L0 T i) (hw : wantedL ops ov base ⟨some d, op, ty, pos, aft, g⟩ = false) (hd : Nat.blt d base.length = true)
    (k : wpT P W M ops Q T L0 r ((d, undef) :: ov) base L) : wpT P W M ops Q T L0 (.one i ⟨some d, op, ty, pos, aft, g⟩ r) ov base L := fun a w hr hH =>
  vre_none (by rw [hr.wanted]; exact hw) (fun h => hk h w hH) (k _ _ (hr.put undef hd) hH)
theorem t_v {d : Nat} {op : Op} {ty : TypeId} {pos : String} {aft : Array Edge} {g : Option (Nat × Bool)} {v : Value} (hy : Y P W M L (ev ov base) op ty v) (hk : Keep W M L L0 T i) (hw : wantedL ops ov base ⟨some d, op, ty, pos, aft, g⟩ = true) (hd : Nat.blt d base.length = true)
    (k : wpT P W M ops Q T L0 r ((d, v) :: ov) base L) : wpT P W M ops Q T L0 (.one i ⟨some d, op, ty, pos, aft, g⟩ r) ov base L := fun a w hr hH =>
  vre_val (by rw [hr.wanted]; exact hw) (v := v) (w' := w) (by rw [hr.eval]; exact hy w hH _ rfl rfl) (fun h => hk h w hH) (k _ _ (hr.put v hd) hH)
theorem t_n {α : Type} {d : Nat} {op : Op} {ty : TypeId} {pos : String} {aft : Array Edge} {g : Option (Nat × Bool)} {φ : α → Prop} {F : α → Value} {G : α → List Bk} (hn : N P W M L (ev ov base) op ty φ F G) (hk : ∀ x, Keep W M (G x) L0 T i)
    (hw : wantedL ops ov base ⟨some d, op, ty, pos, aft, g⟩ = true) (hd : Nat.blt d base.length = true)
    (k : ∀ x, φ x → wpT P W M ops Q T L0 r ((d, F x) :: ov) base (G x)) : wpT P W M ops Q T L0 (.one i ⟨some d, op, ty, pos, aft, g⟩ r) ov base L := fun a w hr hH => by
  obtain ⟨x, w', h1, h2, h3⟩ := hn w hH ⟨some d, op, ty, pos, aft, g⟩ rfl rfl
  exact vre_val (by rw [hr.wanted]; exact hw) (v := F x) (w' := w') (by rw [hr.eval]; exact h2) (fun h => hk x h w' h3) (k x h1 _ _ (hr.put _ hd) h3)
theorem t_s {op : Op} {ty : TypeId} {pos : String} {aft : Array Edge} {g : Option (Nat × Bool)} (hs : S P W M L (ev ov base) op ty L') (hk : Keep W M L' L0 T i) (hw : wantedL ops ov base ⟨none, op, ty, pos, aft, g⟩ = true)
    (k : wpT P W M ops Q T L0 r ov base L') : wpT P W M ops Q T L0 (.one i ⟨none, op, ty, pos, aft, g⟩ r) ov base L := fun a w hr hH => by
  obtain ⟨w', h1, h2⟩ := hs w hH ⟨none, op, ty, pos, aft, g⟩ rfl rfl
  exact vre_skip (by rw [hr.wanted]; exact hw) (w' := w') (by rw [hr.eval]; exact h1) (fun h => hk h w' h2) (k _ _ hr h2)
theorem t_c {d : Nat} {op : Op} {ty : TypeId} {pos : String} {aft : Array Edge} {g : Option (Nat × Bool)} {f : FuncId} {vs : List Value} {Post : Value → List Bk → Prop} (he : En P W M L (ev ov base) op ty f vs)
    (hc : ∀ w, Has W M L w → Does P f vs w [] Post) (hk : ∀ v L', Post v L' → Keep W M (L' ++ L) L0 T i) (hw : wantedL ops ov base ⟨some d, op, ty, pos, aft, g⟩ = true) (hd : Nat.blt d base.length = true)
    (k : ∀ v L', Post v L' → wpT P W M ops Q T L0 r ((d, v) :: ov) base (L' ++ L)) : wpT P W M ops Q T L0 (.one i ⟨some d, op, ty, pos, aft, g⟩ r) ov base L := fun a w hr hH => by
  refine vre_enter (by rw [hr.wanted]; exact hw) (by rw [hr.eval]; exact he w hH _ rfl rfl) ((hc w hH).mono ?_)
  rintro e w' ⟨v, L', rfl, h1, h2⟩
  exact ⟨v, rfl, fun h => hk v L' h2 h w' (hH.call h1), k v L' h2 _ _ (hr.put v hd) (hH.call h1)⟩
theorem t_c1 {d : Nat} {op : Op} {ty : TypeId} {pos : String} {aft : Array Edge} {g : Option (Nat × Bool)} {f : FuncId} {vs : List Value} {x : Bk} {R : List Bk} {Post : Value → List Bk → Prop} (he : En P W M L (ev ov base) op ty f vs) (hs : Sel x L R)
    (hc : ∀ w, Has W M L w → Does P f vs w [x.b] Post) (hk : ∀ v L', Post v L' → Keep W M (L' ++ R) L0 T i) (hw : wantedL ops ov base ⟨some d, op, ty, pos, aft, g⟩ = true) (hd : Nat.blt d base.length = true)
    (k : ∀ v L', Post v L' → wpT P W M ops Q T L0 r ((d, v) :: ov) base (L' ++ R)) : wpT P W M ops Q T L0 (.one i ⟨some d, op, ty, pos, aft, g⟩ r) ov base L := fun a w hr hH => by
  refine vre_enter (by rw [hr.wanted]; exact hw) (by rw [hr.eval]; exact he w hH _ rfl rfl) ((hc w hH).mono ?_)
  rintro e w' ⟨v, L', rfl, h1, h2⟩
  exact ⟨v, rfl, fun h => hk v L' h2 h w' (hH.call1 hs h1), k v L' h2 _ _ (hr.put v hd) (hH.call1 hs h1)⟩
theorem t_cm {T : Nat → Bool} {L0 : List Bk} {i : Nat} {r : OVO} {d : Nat} {op : Op} {ty : TypeId} {pos : String} {aft : Array Edge} {g : Option (Nat × Bool)} {f : FuncId} {vs : List Value} {Post : Value → List Bk → Prop} (xs : List Bk) {R : List Bk} (he : En P W M L (ev ov base) op ty f vs) (hs : Sels xs L R)
    (hc : ∀ w, Has W M L w → Does P f vs w (xs.map (·.b)) Post) (hk : ∀ v L', Post v L' → Keep W M (L' ++ R) L0 T i) (hw : wantedL ops ov base ⟨some d, op, ty, pos, aft, g⟩ = true) (hd : Nat.blt d base.length = true)
    (k : ∀ v L', Post v L' → wpT P W M ops Q T L0 r ((d, v) :: ov) base (L' ++ R)) : wpT P W M ops Q T L0 (.one i ⟨some d, op, ty, pos, aft, g⟩ r) ov base L := fun a w hr hH => by
  refine vre_enter (by rw [hr.wanted]; exact hw) (by rw [hr.eval]; exact he w hH _ rfl rfl) ((hc w hH).mono ?_)
  rintro e w' ⟨v, L', rfl, h1, h2⟩
  exact ⟨v, rfl, fun h => hk v L' h2 h w' (hH.calls hs h1), k v L' h2 _ _ (hr.put v hd) (hH.calls hs h1)⟩
theorem c_rall {L0 : List Bk} (hs0 : List.Sublist L0 L) {id : Nat} {l : List Oper} (E : List Nat) (t : OV) {x : OVO} (hm : P.follows .mixedOrders = true) (hs : Region.noSelect l.toArray = true)
    (hok : okVr l.toArray (fun j => !E.contains j) true t true (Array.replicate l.toArray.size false) = true) (hE : (E.all (· < l.toArray.size)) = true)
    (hl : t.len = l.toArray.size) (hQ : ∀ c a d v w, Q (.panic c) (a.put d v) w → Q (.panic c) a w)
    (hx : mkVr l.toArray t = some x)
    (h : wpT P W M l.toArray Q (fun j => !E.contains j) L0 x ov base L) : wpC P W M (.region id l.toArray true) Q ov base L := fun a w hr hH =>
  wp_region_v (Has W M L0) E _ hm hs hok hE hl hQ (hH.drew.sub hs0) hx (h a w.drew hr hH.drew)
end
end Go.Ad
