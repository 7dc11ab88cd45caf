/- Regions that draw their order, and loops, over a state of blocks that are known. -/
import Derived.Test.YtecodneffflpoaaHO
namespace Go.Ad
open Go.RowKit Go.Maps
section
variable {P : Program} {W : World} {M : List Nat} {ops : Array Oper} {Q : Exit → Act → World → Prop} {T : Nat → Bool} {L0 L L' : List Bk} {ov : Ov} {base : List Value} {i : Nat} {r : List (Nat × Bool × Oper)}
theorem c_rord {id : Nat} {l : List Oper} {l' : List (Nat × Bool × Oper)} (E : List Nat) (ord : List (Nat × Bool)) (hm : P.follows .mixedOrders = true) (hs : Region.noSelect l.toArray = true)
    (hok : okOrd l.toArray (fun j => !E.contains j) ord true (Array.replicate l.toArray.size false) = true) (hE : (E.all (· < l.toArray.size) && ord.all (fun p => decide (p.1 < l.toArray.size))) = true) (hl : ord.length = l.toArray.size)
    (hQ : ∀ c a d v w, Q (.panic c) (a.put d v) w → Q (.panic c) a w) (hl' : mkOrd l.toArray ord = l')
    (h : wpO P W M l.toArray Q (fun j => !E.contains j) L l' ov base L) : wpC P W M (.region id l.toArray true) Q ov base L := fun a w hr hH => by
  subst hl'
  exact wp_region_ord (Has W M L) E ord hm hs hok hE hl hQ hH.drew (h a w.drew hr hH.drew)
/-- What was known at the region's begin is known still, or need not be. -/
def Keep (W : World) (M : List Nat) (L' L0 : List Bk) (T : Nat → Bool) (i : Nat) : Prop := T i = true → ∀ w, Has W M L' w → Has W M L0 w
theorem keep_no (h : T i = false) : Keep W M L' L0 T i := fun h' => by rw [h] at h'; cases h'
theorem keep_sub (h : List.Sublist L0 L') : Keep W M L' L0 T i := fun _ _ hH => hH.sub h
theorem o_nil (k : QL W M (Q .normal) ov base L) : wpO P W M ops Q T L0 [] ov base L := k
theorem o_y {d : Nat} {op : Op} {ty : TypeId} {pos : String} {aft : Array Edge} {g : Option (Nat × Bool)} {v : Value} (hy : Y P W M L0 (ev ov base) op ty v) (hw : wantedL ops ov base ⟨some d, op, ty, pos, aft, g⟩ = true) (hd : Nat.blt d base.length = true)
    (k : wpO P W M ops Q T L0 r ((d, v) :: ov) base L) : wpO P W M ops Q T L0 ((i, true, ⟨some d, op, ty, pos, aft, g⟩) :: r) ov base L := fun a w hr hH =>
  ord_take (by rw [hr.wanted]; exact hw) (fun w' h' => by rw [hr.eval]; exact hy w' h' _ rfl rfl) (k _ _ (hr.put v hd) hH)
theorem o_pass {d : Nat} {op : Op} {ty : TypeId} {pos : String} {aft : Array Edge} {g : Option (Nat × Bool)} (hw : wantedL ops ov base ⟨some d, op, ty, pos, aft, g⟩ = false) (hd : Nat.blt d base.length = true)
    (k : wpO P W M ops Q T L0 r ((d, undef) :: ov) base L) : wpO P W M ops Q T L0 ((i, true, ⟨some d, op, ty, pos, aft, g⟩) :: r) ov base L := fun a w hr hH =>
  ord_pass (by rw [hr.wanted]; exact hw) (k _ _ (hr.put undef hd) hH)
theorem o_none {d : Nat} {op : Op} {ty : TypeId} {pos : String} {aft : Array Edge} {g : Option (Nat × Bool)} (hk : Keep W M L L0 T i) (hw : wantedL ops ov base ⟨some d, op, ty, pos, aft, g⟩ = false) (hd : Nat.blt d base.length = true)
    (k : wpO P W M ops Q T L0 r ((d, undef) :: ov) base L) : wpO P W M ops Q T L0 ((i, false, ⟨some d, op, ty, pos, aft, g⟩) :: r) ov base L := fun a w hr hH =>
  ord_none (by rw [hr.wanted]; exact hw) (fun h => hk h w hH) (k _ _ (hr.put undef hd) hH)
theorem o_v {d : Nat} {op : Op} {ty : TypeId} {pos : String} {aft : Array Edge} {g : Option (Nat × Bool)} {v : Value} (hy : Y P W M L (ev ov base) op ty v) (hk : Keep W M L L0 T i) (hw : wantedL ops ov base ⟨some d, op, ty, pos, aft, g⟩ = true) (hd : Nat.blt d base.length = true)
    (k : wpO P W M ops Q T L0 r ((d, v) :: ov) base L) : wpO P W M ops Q T L0 ((i, false, ⟨some d, op, ty, pos, aft, g⟩) :: r) ov base L := fun a w hr hH =>
  ord_val (by rw [hr.wanted]; exact hw) (v := v) (w' := w) (by rw [hr.eval]; exact hy w hH _ rfl rfl) (fun h => hk h w hH) (k _ _ (hr.put v hd) hH)
theorem o_n {α : Type} {d : Nat} {op : Op} {ty : TypeId} {pos : String} {aft : Array Edge} {g : Option (Nat × Bool)} {φ : α → Prop} {F : α → Value} {G : α → List Bk} (hn : N P W M L (ev ov base) op ty φ F G) (hk : ∀ x, Keep W M (G x) L0 T i)
    (hw : wantedL ops ov base ⟨some d, op, ty, pos, aft, g⟩ = true) (hd : Nat.blt d base.length = true)
    (k : ∀ x, φ x → wpO P W M ops Q T L0 r ((d, F x) :: ov) base (G x)) : wpO P W M ops Q T L0 ((i, false, ⟨some d, op, ty, pos, aft, g⟩) :: r) ov base L := fun a w hr hH => by
  obtain ⟨x, w', h1, h2, h3⟩ := hn w hH ⟨some d, op, ty, pos, aft, g⟩ rfl rfl
  exact ord_val (by rw [hr.wanted]; exact hw) (v := F x) (w' := w') (by rw [hr.eval]; exact h2) (fun h => hk x h w' h3) (k x h1 _ _ (hr.put _ hd) h3)
theorem o_s {op : Op} {ty : TypeId} {pos : String} {aft : Array Edge} {g : Option (Nat × Bool)} (hs : S P W M L (ev ov base) op ty L') (hk : Keep W M L' L0 T i) (hw : wantedL ops ov base ⟨none, op, ty, pos, aft, g⟩ = true)
    (k : wpO P W M ops Q T L0 r ov base L') : wpO P W M ops Q T L0 ((i, false, ⟨none, op, ty, pos, aft, g⟩) :: r) ov base L := fun a w hr hH => by
  obtain ⟨w', h1, h2⟩ := hs w hH ⟨none, op, ty, pos, aft, g⟩ rfl rfl
  exact ord_skip (by rw [hr.wanted]; exact hw) (w' := w') (by rw [hr.eval]; exact h1) (fun h => hk h w' h2) (k _ _ hr h2)
theorem o_c {d : Nat} {op : Op} {ty : TypeId} {pos : String} {aft : Array Edge} {g : Option (Nat × Bool)} {f : FuncId} {vs : List Value} {Post : Value → List Bk → Prop} (he : En P W M L (ev ov base) op ty f vs)
    (hc : ∀ w, Has W M L w → Does P f vs w [] Post) (hk : ∀ v L', Post v L' → Keep W M (L' ++ L) L0 T i) (hw : wantedL ops ov base ⟨some d, op, ty, pos, aft, g⟩ = true) (hd : Nat.blt d base.length = true)
    (k : ∀ v L', Post v L' → wpO P W M ops Q T L0 r ((d, v) :: ov) base (L' ++ L)) : wpO P W M ops Q T L0 ((i, false, ⟨some d, op, ty, pos, aft, g⟩) :: r) ov base L := fun a w hr hH => by
  refine ord_enter (by rw [hr.wanted]; exact hw) (by rw [hr.eval]; exact he w hH _ rfl rfl) ((hc w hH).mono ?_)
  rintro e w' ⟨v, L', rfl, h1, h2⟩
  exact ⟨v, rfl, fun h => hk v L' h2 h w' (hH.call h1), k v L' h2 _ _ (hr.put v hd) (hH.call h1)⟩
theorem o_c1 {d : Nat} {op : Op} {ty : TypeId} {pos : String} {aft : Array Edge} {g : Option (Nat × Bool)} {f : FuncId} {vs : List Value} {x : Bk} {R : List Bk} {Post : Value → List Bk → Prop} (he : En P W M L (ev ov base) op ty f vs) (hs : Sel x L R)
    (hc : ∀ w, Has W M L w → Does P f vs w [x.b] Post) (hk : ∀ v L', Post v L' → Keep W M (L' ++ R) L0 T i) (hw : wantedL ops ov base ⟨some d, op, ty, pos, aft, g⟩ = true) (hd : Nat.blt d base.length = true)
    (k : ∀ v L', Post v L' → wpO P W M ops Q T L0 r ((d, v) :: ov) base (L' ++ R)) : wpO P W M ops Q T L0 ((i, false, ⟨some d, op, ty, pos, aft, g⟩) :: r) ov base L := fun a w hr hH => by
  refine ord_enter (by rw [hr.wanted]; exact hw) (by rw [hr.eval]; exact he w hH _ rfl rfl) ((hc w hH).mono ?_)
  rintro e w' ⟨v, L', rfl, h1, h2⟩
  exact ⟨v, rfl, fun h => hk v L' h2 h w' (hH.call1 hs h1), k v L' h2 _ _ (hr.put v hd) (hH.call1 hs h1)⟩
end
/-! ### Loops -/
section
variable {P : Program} {W : World} {M : List Nat} {Q : Exit → Act → World → Prop} {ov ov' : Ov} {base : List Value} {L L' : List Bk}
def Ov.drop (ks : List Nat) : Ov → Ov
  | [] => []
  | (k, v) :: r => bif ks.any (Nat.beq k) then Ov.drop ks r else (k, v) :: Ov.drop ks r
theorem Ov.get_drop {ks : List Nat} {d : Nat} (h : ks.any (fun k => Nat.beq d k) = false) : ∀ (ov : Ov) (base : List Value), (ov.drop ks).get base d = ov.get base d
  | [], _ => rfl
  | (k, v) :: r, base => by
    unfold Ov.drop
    cases hk : ks.any (Nat.beq k) with
    | false =>
      simp only [cond_false, Ov.get]
      rw [Ov.get_drop h r base]
    | true =>
      simp only [cond_true, Ov.get]
      have : Nat.beq k d = false := nbeq (by
        rintro rfl
        rw [hk] at h; cases h)
      rw [this, cond_false, Ov.get_drop h r base]
def AllGet (ov : Ov) (base : List Value) : Ov → Prop
  | [] => True
  | (d, v) :: r => ov.get base d = v ∧ AllGet ov base r
def junk (ks : List Nat) (j : Nat → Value) : Ov := ks.map fun d => (d, j d)
theorem get_append {d : Nat} {base : List Value} : ∀ (xs ys : Ov), (∀ p ∈ xs, p.1 ≠ d) → (xs ++ ys).get base d = ys.get base d
  | [], _, _ => rfl
  | (k, v) :: r, ys, h => by
    have : Nat.beq k d = false := nbeq (h _ (List.Mem.head _))
    simp only [List.cons_append, Ov.get, this, cond_false]
    exact get_append r ys (fun p hp => h p (List.Mem.tail _ hp))
theorem get_front {d : Nat} {base : List Value} {j : Nat → Value} {ys : Ov} : ∀ {ks : List Nat}, d ∈ ks → (junk ks j ++ ys).get base d = j d
  | k :: ks, h => by
    simp only [junk, List.map_cons, List.cons_append, Ov.get]
    by_cases hk : k = d
    · subst hk
      have : Nat.beq k k = true := by simp
      rw [this]; rfl
    · rw [nbeq hk, cond_false]
      rcases List.mem_cons.1 h with h | h
      · exact absurd h.symm hk
      · exact get_front h
/-- The slots of a loop's head out of those of another place. -/
theorem Rep.again {a : Act} {tr : Ov} {ks : List Nat} (h : Rep ov' base a) (h1 : AllGet ov' base tr) (h2 : ov'.drop ks = ov.drop ks) (h3 : (tr.all fun p => ks.any (Nat.beq p.1)) = true) :
    Rep (tr ++ (junk ks (fun d => ov'.get base d) ++ ov)) base a := by
  refine ⟨h.defers, h.size, fun d => ?_⟩
  rw [h.get d]
  have key : (junk ks (fun d => ov'.get base d) ++ ov).get base d = ov'.get base d := by
    by_cases hd : d ∈ ks
    · exact get_front hd
    · have hf : ks.any (fun k => Nat.beq d k) = false := by
        cases hx : ks.any (fun k => Nat.beq d k) with
        | false => rfl
        | true =>
          obtain ⟨k, hk, hb⟩ := List.any_eq_true.1 hx
          exact absurd (Nat.eq_of_beq_eq_true hb ▸ hk) hd
      rw [get_append, ← Ov.get_drop hf ov, ← h2, Ov.get_drop hf]
      intro p hp
      obtain ⟨k, hk, rfl⟩ := List.mem_map.1 hp
      rintro rfl; exact hd hk
  clear h2 h3
  induction tr with
  | nil => exact key.symm
  | cons p r ih =>
    obtain ⟨k, v⟩ := p
    simp only [List.cons_append, Ov.get]
    by_cases hk : k = d
    · subst hk
      have : Nat.beq k k = true := by simp
      rw [this, h1.1]; rfl
    · rw [nbeq hk, cond_false]
      exact ih h1.2
/-- What a round hands on. -/
def Round (W : World) (M : List Nat) {α : Type} (ks : List Nat) (φ : Nat → α → Prop) (tr : α → Ov) (G : α → List Bk) (ov : Ov) (base : List Value) (n : Nat) (K : Act → World → Prop) : Prop :=
  ∀ n' y ov' L', n' < n → φ n' y → AllGet ov' base (tr y) → ov'.drop ks = ov.drop ks → (∀ w, Has W M L' w → Has W M (G y) w) → QL W M K ov' base L'
theorem c_loop {α : Type} (ks : List Nat) (φ : Nat → α → Prop) (tr : α → Ov) (G : α → List Bk) (n0 : Nat) (y0 : α) {c : Code} (h0 : φ n0 y0) (ht : AllGet ov base (tr y0)) (hG : ∀ w, Has W M L w → Has W M (G y0) w)
    (hk : ∀ y, ((tr y).all fun p => ks.any (Nat.beq p.1)) = true)
    (round : ∀ n y j, φ n y → ∀ K, Round W M ks φ tr G (tr y ++ (junk ks j ++ ov)) base n K → wpC P W M c (Exit.then K Q) (tr y ++ (junk ks j ++ ov)) base (G y)) : wpC P W M (.loop c) Q ov base L := fun a w hr hH => by
  refine wp_loop_ghost (fun n a w => ∃ y, φ n y ∧ ∃ j, Rep (tr y ++ (junk ks j ++ ov)) base a ∧ Has W M (G y) w) n0 ⟨y0, h0, _, hr.again ht rfl (hk y0), hG w hH⟩ ?_
  rintro n a w ⟨y, hy, j, hr, hH⟩
  refine round n y j hy _ (fun n' y' ov' L' hlt hy' ha hd hL a' w' hr' hH' => ⟨n', hlt, y', hy', _, hr'.again ha ?_ (hk y'), hL w' hH'⟩) a w hr hH
  rw [hd]
  have h4 : ∀ (tr : Ov), (tr.all fun p => ks.any (Nat.beq p.1)) = true → ∀ ov : Ov, (tr ++ ov).drop ks = ov.drop ks := by
    intro tr
    induction tr with
    | nil => intro _ _; rfl
    | cons p r ih =>
      intro h ov
      simp only [List.all_cons, Bool.and_eq_true] at h
      obtain ⟨k, v⟩ := p
      simp only [List.cons_append, Ov.drop]
      rw [show ks.any (Nat.beq k) = true from h.1, cond_true, ih h.2]
  rw [h4 _ (hk y), h4]
  rw [List.all_eq_true]
  intro p hp
  obtain ⟨k, hk', rfl⟩ := List.mem_map.1 hp
  exact List.any_eq_true.2 ⟨k, hk', by simp⟩
end
end Go.Ad
