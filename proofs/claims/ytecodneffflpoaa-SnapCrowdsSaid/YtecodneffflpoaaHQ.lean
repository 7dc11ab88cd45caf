/- Ways that meet again; calls that write several blocks; method values. -/
import Derived.Test.YtecodneffflpoaaHP
namespace Go.Ad
open Go.RowKit Go.Maps
section
variable {P : Program} {W : World} {M : List Nat} {ops : Array Oper} {Q : Exit → Act → World → Prop} {all rest : List Oper} {ov ov' : Ov} {base : List Value} {L L' L2 : List Bk}
theorem QL.again {K : Act → World → Prop} {tr : Ov} {ks : List Nat} (h1 : AllGet ov' base tr) (h2 : ov'.drop ks = ov.drop ks) (h3 : (tr.all fun p => ks.any (Nat.beq p.1)) = true) (hL : ∀ w, Has W M L w → Has W M L2 w)
    (h : ∀ j, QL W M K (tr ++ (junk ks j ++ ov)) base L2) : QL W M K ov' base L := fun a w hr hH => h _ a w (hr.again h1 h2 h3) (hL w hH)
/-- Two ways that meet again, within a region: behind so many operations. -/
theorem s_meet {α : Type} (n : Nat) (ks : List Nat) (tr : α → Ov) (φ : α → Prop) (hk : ∀ y, ((tr y).all fun p => ks.any (Nat.beq p.1)) = true)
    (go : (∀ y ov', φ y → AllGet ov' base (tr y) → ov'.drop ks = ov.drop ks → wpL P W M ops Q (all.drop n) ov' base L) → wpL P W M ops Q all ov base L)
    (K : ∀ y j, φ y → wpL P W M ops Q (all.drop n) (tr y ++ (junk ks j ++ ov)) base L) : wpL P W M ops Q all ov base L :=
  go fun y _ hy h1 h2 => QL.again h1 h2 (hk y) (fun _ h => h) (fun j => K y j hy)
/-- .. within code: what follows is 'next'. -/
theorem c_meet {α : Type} {next : Act → World → Prop} {c : Code} (ks : List Nat) (tr : α → Ov) (φ : α → Prop) (G : α → List Bk) (hk : ∀ y, ((tr y).all fun p => ks.any (Nat.beq p.1)) = true) (K : ∀ y j, φ y → QL W M next (tr y ++ (junk ks j ++ ov)) base (G y))
    (go : (∀ y ov' L', φ y → AllGet ov' base (tr y) → ov'.drop ks = ov.drop ks → (∀ w, Has W M L' w → Has W M (G y) w) → QL W M next ov' base L') → wpC P W M c Q ov base L) : wpC P W M c Q ov base L :=
  go fun y _ _ hy h1 h2 hL => QL.again h1 h2 (hk y) hL (fun j => K y j hy)
theorem s_known {d : Nat} {t u : Bool} (hv : ov.get base d = .bool t) (ht : t = u) (h : wpL P W M ops Q rest ((d, .bool u) :: ov) base L) : wpL P W M ops Q rest ov base L := by
  subst ht
  refine s_split hv (fun ht => ?_) (fun ht => ?_) <;> (rw [← ht]; exact h)
theorem c_known {c : Operand} {x y : Code} {t u : Bool} (hc : ev ov base c = .bool t) (ht : t = u) (h : wpC P W M (if u then x else y) Q ov base L) : wpC P W M (.cond c x y) Q ov base L := by
  subst ht
  refine c_cond hc (fun ht => ?_) (fun ht => ?_) <;> (rw [ht] at h; exact h)
theorem c_T {c : Operand} {x y : Code} {t : Bool} (hc : ev ov base c = .bool t) (ht : t = true) (h : wpC P W M x Q ov base L) : wpC P W M (.cond c x y) Q ov base L := c_known hc ht h
theorem c_F {c : Operand} {x y : Code} {t : Bool} (hc : ev ov base c = .bool t) (ht : t = false) (h : wpC P W M y Q ov base L) : wpC P W M (.cond c x y) Q ov base L := c_known hc ht h
theorem q_te {K : Act → World → Prop} {i : Nat} (h : QL W M (Q (.exit i)) ov base L) : QL W M (Exit.then K Q (.exit i)) ov base L := h
theorem q_tr {K : Act → World → Prop} (h : QL W M (Q .ret) ov base L) : QL W M (Exit.then K Q .ret) ov base L := h
theorem q_bn {i : Nat} (h : QL W M (Q .normal) ov base L) : QL W M (Exit.inBlock i Q .normal) ov base L := h
theorem q_br {i : Nat} (h : QL W M (Q .ret) ov base L) : QL W M (Exit.inBlock i Q .ret) ov base L := h
/-- Several entries less. -/
inductive Sels : List Bk → List Bk → List Bk → Prop
  | nil {L : List Bk} : Sels [] L L
  | cons {x : Bk} {xs L L1 L2 : List Bk} (h : Sel x L L1) (r : Sels xs L1 L2) : Sels (x :: xs) L L2
theorem Sels.sublist {xs : List Bk} (h : Sels xs L L') : List.Sublist L' L := by
  induction h with
  | nil => exact .refl _
  | cons h _ ih => exact ih.trans h.sublist
theorem Sels.mem {xs : List Bk} (h : Sels xs L L') : ∀ x ∈ xs, x ∈ L := by
  induction h with
  | nil => intro x hx; cases hx
  | cons h _ ih =>
    intro x hx
    rcases List.mem_cons.1 hx with rfl | hx
    · exact h.mem
    · exact h.sublist.subset (ih x hx)
theorem Sels.other {xs : List Bk} (h : Sels xs L L') (hn : (L.map (·.b)).Nodup) : ∀ z ∈ L', z.b ∉ xs.map (·.b) := by
  induction h with
  | nil => intro z _; simp
  | cons h r ih =>
    intro z hz hm
    rw [List.map_cons, List.mem_cons] at hm
    rcases hm with hm | hm
    · exact h.other hn z (r.sublist.subset hz) hm
    · exact ih (hn.sublist (h.sublist.map _)) z hz hm
theorem Has.calls {W w w' : World} {xs : List Bk} {R : List Bk} (h : Has W M L w) (hs : Sels xs L R) (k : Has w (xs.map (·.b)) L' w') : Has W M (L' ++ R) w' := by
  have hx : ∀ i ∈ xs.map (·.b), i ∈ M ∨ W.heap.size ≤ i := fun i hi => by
    obtain ⟨x, hx, rfl⟩ := List.mem_map.1 hi
    exact (h.bk x (hs.mem x hx)).2
  have hot := hs.other h.nd
  refine ⟨⟨k.ex.os.trans h.ex.os, k.ex.tape.trans h.ex.tape, k.ex.output.trans h.ex.output, Nat.le_trans h.size k.size, fun i hi hM => ?_⟩, fun y hy => ?_, ?_⟩
  · rw [k.ex.block i (Nat.lt_of_lt_of_le hi h.size) (fun hm => by rcases hx i hm with h2 | h2; exact hM h2; omega)]
    exact h.ex.block i hi hM
  · rcases List.mem_append.1 hy with hy | hy
    · obtain ⟨h1, h2⟩ := k.bk y hy
      rcases h2 with h2 | h2
      · exact ⟨h1, hx _ h2⟩
      · exact ⟨h1, .inr (Nat.le_trans h.size h2)⟩
    · obtain ⟨h1, h2⟩ := h.bk y (hs.sublist.subset hy)
      exact ⟨h1.of_block (k.ex.block y.b h1.lt (hot y hy)), h2⟩
  · rw [List.map_append, List.nodup_append]
    refine ⟨k.nd, h.nd.sublist (hs.sublist.map _), fun i hi j hj he => ?_⟩
    obtain ⟨y, hy, rfl⟩ := List.mem_map.1 hi
    obtain ⟨z, hz, rfl⟩ := List.mem_map.1 hj
    have h1 := (h.at' (hs.sublist.subset hz)).lt
    rcases (k.bk y hy).2 with h2 | h2
    · exact hot z hz (he ▸ h2)
    · omega
theorem s_cm {d : Nat} {op : Op} {ty : TypeId} {pos : String} {aft : Array Edge} {g : Option (Nat × Bool)} {f : FuncId} {vs : List Value} {Post : Value → List Bk → Prop} (xs : List Bk) {R : List Bk} (he : En P W M L (ev ov base) op ty f vs) (hs : Sels xs L R)
    (hc : ∀ w, Has W M L w → Does P f vs w (xs.map (·.b)) Post) (hw : wantedL ops ov base ⟨some d, op, ty, pos, aft, g⟩ = true) (hd : Nat.blt d base.length = true)
    (k : ∀ v L', Post v L' → wpL P W M ops Q rest ((d, v) :: ov) base (L' ++ R)) : wpL P W M ops Q (⟨some d, op, ty, pos, aft, g⟩ :: rest) ov base L := fun a w hr hH => by
  refine G_enter (by rw [hr.wanted]; exact hw) (by rw [hr.eval]; exact he w hH _ rfl rfl) ((hc w hH).mono ?_)
  rintro e w' ⟨v, L', rfl, h1, h2⟩
  exact ⟨v, rfl, k v L' h2 _ _ (hr.put v hd) (hH.calls hs h1)⟩
theorem o_cm {T : Nat → Bool} {L0 : List Bk} {i : Nat} {r : List (Nat × Bool × Oper)} {d : Nat} {op : Op} {ty : TypeId} {pos : String} {aft : Array Edge} {g : Option (Nat × Bool)} {f : FuncId} {vs : List Value} {Post : Value → List Bk → Prop} (xs : List Bk) {R : List Bk} (he : En P W M L (ev ov base) op ty f vs) (hs : Sels xs L R)
    (hc : ∀ w, Has W M L w → Does P f vs w (xs.map (·.b)) Post) (hk : ∀ v L', Post v L' → Keep W M (L' ++ R) L0 T i) (hw : wantedL ops ov base ⟨some d, op, ty, pos, aft, g⟩ = true) (hd : Nat.blt d base.length = true)
    (k : ∀ v L', Post v L' → wpO P W M ops Q T L0 r ((d, v) :: ov) base (L' ++ R)) : wpO P W M ops Q T L0 ((i, false, ⟨some d, op, ty, pos, aft, g⟩) :: r) ov base L := fun a w hr hH => by
  refine ord_enter (by rw [hr.wanted]; exact hw) (by rw [hr.eval]; exact he w hH _ rfl rfl) ((hc w hH).mono ?_)
  rintro e w' ⟨v, L', rfl, h1, h2⟩
  exact ⟨v, rfl, fun h => hk v L' h2 h w' (hH.calls hs h1), k v L' h2 _ _ (hr.put v hd) (hH.calls hs h1)⟩
theorem Has.starts {w : World} {xs : List Bk} (h : ∀ x ∈ xs, x.holds w) (hn : (xs.map (·.b)).Nodup) : Has w (xs.map (·.b)) xs w := ⟨Ex.refl _ _, fun x hx => ⟨h x hx, .inl (List.mem_map.2 ⟨x, hx, rfl⟩)⟩, hn⟩
theorem Has.nodup2 {w : World} {x y : Bk} {R : List Bk} (h : Has W M L w) (hs : Sels [x, y] L R) : x.b ≠ y.b := by
  obtain ⟨L1, h1, h2⟩ : ∃ L1, Sel x L L1 ∧ Sels [y] L1 R := by cases hs with | cons a b => exact ⟨_, a, b⟩
  exact fun he => h1.other h.nd y (h2.mem y (by simp)) he.symm
variable {ρ : Operand → Value} {ty : TypeId} {x : Operand} {v : Value}
theorem Y_mkF {f : Fn} {first captured : Array Operand} {vs ws : Array Value} (h1 : first.map ρ = vs) (h2 : captured.map ρ = ws) : Y P W M L ρ (.makeFunc f first captured) ty (.func f vs ws) := fun w _ o ho _ => by
  unfold execOp
  rw [ho]
  simp only [Instr.makeFunc, Sem.run_bind, Sem.run_pure, Result.andThen_ok, h1, h2]
theorem Y_mk {f : Fn} {xs ys : List Operand} {vs ws : List Value} (h1 : Gv ov base xs vs) (h2 : Gv ov base ys ws) : Y P W M L (ev ov base) (.makeFunc f xs.toArray ys.toArray) ty (.func f vs.toArray ws.toArray) := Y_mkF (by rw [← h1.eq]; simp) (by rw [← h2.eq]; simp)
theorem Y_nilM {name : String} {t : TypeId} {u : Value} {cp : Array Value} (hx : ρ x = .func (.method name) #[.iface t u] cp) (h : ∀ w k, (nilAhead (k + 1) t u name).run P w = .ok (some false) w) : Y P W M L ρ (.nilCheck x) ty (.func (.method name) #[.iface t u] cp) := fun w _ o ho _ => by
  unfold execOp
  rw [ho]
  simp only [hx]
  have := h w (P.types.size + Made.depth - 1)
  have e : P.types.size + Made.depth - 1 + 1 = P.types.size + Made.depth := by
    have : 0 < Made.depth := by decide
    omega
  rw [e] at this
  simp [run_program, this, Result.andThen]
theorem Y_nilF {f : FuncId} {fs cp : Array Value} (hx : ρ x = .func (.func f) fs cp) : Y P W M L ρ (.nilCheck x) ty (.func (.func f) fs cp) := fun w _ o ho _ => by
  unfold execOp
  rw [ho]
  simp only [hx]
  simp
end
end Go.Ad
