/- A walk over a state of blocks that are known: slots as a list, blocks as a list; one rule for each operation. -/
import Derived.Test.YtecodneffflpoaaKit2
import Derived.Laws.MakeOwn
import Derived.Laws.Tables
import Derived.Laws.OwnMore
namespace Go.Ad
open Go.RowKit Go.Maps
/-! ### Slots -/
theorem nbeq {d e : Nat} (h : ¬ d = e) : Nat.beq d e = false := by
  cases hb : Nat.beq d e
  · rfl
  · exact absurd (Nat.eq_of_beq_eq_true hb) h
abbrev Ov := List (Nat × Value)
def Ov.get : Ov → List Value → Nat → Value
  | [], base, d => base.getD d undef
  | (k, v) :: r, base, d => bif Nat.beq k d then v else Ov.get r base d
def ev (ov : Ov) (base : List Value) : Operand → Value
  | .tmp t => ov.get base t
  | .const v => v
  | .global g => .pointer (some ⟨g, 0, none⟩)
  | .func f => .func (.func f) #[] #[]
structure Rep (ov : Ov) (base : List Value) (a : Act) : Prop where
  defers : a.defers = []
  size : a.tmps.size = base.length
  get : ∀ d, a.tmps.getD d undef = ov.get base d
section
variable {ov : Ov} {base : List Value} {a : Act}
theorem Rep.eval (h : Rep ov base a) : a.eval = ev ov base := by
  funext x
  cases x with
  | tmp t => exact h.get t
  | _ => rfl
theorem Rep.put (h : Rep ov base a) {d : Nat} (v : Value) (hd : Nat.blt d base.length = true) : Rep ((d, v) :: ov) base (a.put (some d) v) := by
  have hd' : d < a.tmps.size := by rw [h.size]; simpa using hd
  refine ⟨h.defers, by simpa [Act.put] using h.size, fun e => ?_⟩
  have hg := h.get e
  simp only [Act.put, Ov.get]
  by_cases hde : d = e
  · subst hde
    have : Nat.beq d d = true := by simp
    rw [this]
    simp [Array.getD, hd']
  · have : Nat.beq d e = false := nbeq hde
    rw [this]
    simp only [cond_false]
    rw [← hg]
    simp only [Array.getD_eq_getD_getElem?, Array.getElem?_setIfInBounds, hde, if_false]
theorem Rep.put_none (h : Rep ov base a) (v : Value) : Rep ov base (a.put none v) := h
theorem Rep.yielded (h : Rep ov base a) (ops : Array Oper) (j : Nat) : Go.yielded ops a.tmps j = (match (ops[j]?).bind (·.dst) with | some d => (match ov.get base d with | .bool b => some b | _ => none) | none => none) := by
  unfold Go.yielded
  cases hd : (ops[j]?).bind (·.dst) with
  | none => rfl
  | some d =>
    simp only [Option.bind_some]
    rw [← h.get d]
    rw [Array.getD_eq_getD_getElem?]
    cases hv : a.tmps[d]? with
    | none => rfl
    | some v => cases v <;> rfl
end
def wantedL (ops : Array Oper) (ov : Ov) (base : List Value) (o : Oper) : Bool :=
  match o.guard with
  | none => true
  | some (j, want) => (match (ops[j]?).bind (·.dst) with | some d => (match ov.get base d with | .bool b => b == want | _ => false) | none => false)
theorem Rep.wanted {ov : Ov} {base : List Value} {a : Act} (h : Rep ov base a) (ops : Array Oper) (o : Oper) : Region.wanted o (Go.yielded ops a.tmps) = wantedL ops ov base o := by
  unfold Region.wanted wantedL
  cases o.guard with
  | none => rfl
  | some p =>
    obtain ⟨j, want⟩ := p
    simp only [h.yielded]
    cases (ops[j]?).bind (·.dst) with
    | none => rfl
    | some d =>
      simp only []
      cases ov.get base d with
      | bool b => cases b <;> cases want <;> rfl
      | _ => rfl
/-! ### Blocks -/
structure Bk where
  b : Nat
  t : TypeId
  k : Nat
  cap : Nat
  c : List Value
def Bk.holds (w : World) (x : Bk) : Prop := ∃ cur : Array Value, w.heap[x.b]? = some (.cells cur x.t (0, 0)) ∧ cur.size = x.cap * x.k ∧ x.cap ≤ maxLen ∧ x.c <+: cur.toList
structure Has (W : World) (M : List Nat) (L : List Bk) (w : World) : Prop where
  ex : Ex M W w
  bk : ∀ x ∈ L, x.holds w ∧ (x.b ∈ M ∨ W.heap.size ≤ x.b)
  nd : (L.map (·.b)).Nodup
/-- Cells that lie somewhere, from an offset on. -/
def Ro (w : World) (b o : Nat) (c : List Value) : Prop := ∀ j v, c[j]? = some v → w.cell? ⟨b, o + j, none⟩ = some v
section
variable {W w w' : World} {M : List Nat} {L L' : List Bk} {x : Bk}
theorem Bk.holds.lt (h : x.holds w) : x.b < w.heap.size := by
  obtain ⟨cur, h1, _⟩ := h
  exact (Array.getElem?_eq_some_iff.1 h1).1
theorem Bk.holds.cell (h : x.holds w) {j : Nat} {v : Value} (hv : x.c[j]? = some v) : w.cell? ⟨x.b, j, none⟩ = some v := by
  obtain ⟨cur, h1, _, _, t, h2⟩ := h
  simp only [World.cell?, h1, Option.isSome_none, Bool.false_eq_true, if_false]
  rw [← Array.getElem?_toList, ← h2, List.getElem?_append_left (by exact (List.getElem?_eq_some_iff.1 hv).1)]
  exact hv
theorem Bk.holds.ro (h : x.holds w) : Ro w x.b 0 x.c := fun j v hv => by rw [Nat.zero_add]; exact h.cell hv
theorem Bk.holds.froz (h : x.holds w) (j : Nat) : w.frozen? ⟨x.b, j, none⟩ = false := by
  obtain ⟨cur, h1, _⟩ := h
  simp [World.frozen?, h1]
theorem Bk.holds.of_block (h : x.holds w) (hw : w'.heap[x.b]? = w.heap[x.b]?) : x.holds w' := by
  obtain ⟨cur, h1, r⟩ := h
  exact ⟨cur, hw.trans h1, r⟩
theorem Has.start (w : World) : Has w [] [] w := ⟨Ex.refl _ _, by simp, by simp⟩
theorem Has.start1 {w : World} {x : Bk} (h : x.holds w) : Has w [x.b] [x] w := ⟨Ex.refl _ _, by simpa using h, by simp⟩
theorem Has.sub (h : Has W M L w) (hs : List.Sublist L' L) : Has W M L' w := ⟨h.ex, fun y hy => h.bk y (hs.subset hy), h.nd.sublist (hs.map _)⟩
theorem Has.perm (h : Has W M L w) (hp : List.Perm L' L) : Has W M L' w := ⟨h.ex, fun y hy => h.bk y (hp.mem_iff.1 hy), (hp.map _).nodup_iff.2 h.nd⟩
theorem Has.swap {y : Bk} (h : Has W M (x :: y :: L) w) : Has W M (y :: x :: L) w := h.perm (.swap _ _ _)
theorem Has.drew (h : Has W M L w) : Has W M L w.drew := ⟨h.ex.drew, h.bk, h.nd⟩
theorem Has.size (h : Has W M L w) : W.heap.size ≤ w.heap.size := h.ex.size
theorem Has.at' (h : Has W M L w) (hx : x ∈ L) : x.holds w := (h.bk x hx).1
theorem Has.ro (h : Has W M L w) {b o : Nat} {c : List Value} (hr : Ro W b o c) (hb : b ∉ M) : Ro w b o c := fun j v hv => by
  have h1 := hr j v hv
  rw [h.ex.cell (p := ⟨b, o + j, none⟩) (block_lt_of_cell h1) hb]; exact h1
theorem Has.alloc (h : Has W M L w) {c : Array Value} {t : TypeId} {k cap : Nat} (hc : c.size = cap * k) (hm : cap ≤ maxLen) : Has W M (⟨w.heap.size, t, k, cap, c.toList⟩ :: L) (w.alloc (.cells c t)) := by
  refine ⟨h.ex.alloc _, fun y hy => ?_, ?_⟩
  · rcases List.mem_cons.1 hy with rfl | hy
    · exact ⟨⟨c, heap_alloc_new w _, hc, hm, List.prefix_refl _⟩, .inr h.size⟩
    · exact ⟨(h.at' hy).of_block (Below.heap_alloc w _ _ (h.at' hy).lt), (h.bk y hy).2⟩
  · simp only [List.map_cons, List.nodup_cons]
    refine ⟨fun hm => ?_, h.nd⟩
    obtain ⟨y, hy, he⟩ := List.mem_map.1 hm
    have := (h.at' hy).lt
    omega
/-- The entry of a block is another one. -/
inductive Upd : Bk → Bk → List Bk → List Bk → Prop
  | head {x y : Bk} {L : List Bk} : Upd x y (x :: L) (y :: L)
  | tail {x y z : Bk} {L L' : List Bk} : Upd x y L L' → Upd x y (z :: L) (z :: L')
theorem Upd.mem {y : Bk} (h : Upd x y L L') : x ∈ L := by
  induction h with
  | head => exact List.Mem.head _
  | tail _ ih => exact List.Mem.tail _ ih
theorem Upd.map {y : Bk} (h : Upd x y L L') (hb : y.b = x.b) : L'.map (·.b) = L.map (·.b) := by
  induction h with
  | head => simp [hb]
  | tail _ ih => simp [ih]
theorem Upd.split {y : Bk} (h : Upd x y L L') : ∀ z ∈ L', z = y ∨ z ∈ L := by
  induction h with
  | head =>
    intro z hz
    rcases List.mem_cons.1 hz with rfl | hz
    · exact .inl rfl
    · exact .inr (List.Mem.tail _ hz)
  | tail _ ih =>
    intro z hz
    rcases List.mem_cons.1 hz with rfl | hz
    · exact .inr (List.Mem.head _)
    · rcases ih z hz with h | h
      · exact .inl h
      · exact .inr (List.Mem.tail _ h)
/-- Another block's entry in L' was there before. -/
theorem Upd.other {y : Bk} (h : Upd x y L L') (hb : y.b = x.b) (hn : (L.map (·.b)).Nodup) : ∀ z ∈ L', z = y ∨ (z ∈ L ∧ z.b ≠ x.b) := by
  induction h with
  | head =>
    intro z hz
    simp only [List.map_cons, List.nodup_cons] at hn
    rcases List.mem_cons.1 hz with rfl | hz
    · exact .inl rfl
    · exact .inr ⟨List.Mem.tail _ hz, fun he => hn.1 (he ▸ List.mem_map.2 ⟨z, hz, rfl⟩)⟩
  | @tail z0 L L' hu ih =>
    intro z hz
    simp only [List.map_cons, List.nodup_cons] at hn
    rcases List.mem_cons.1 hz with rfl | hz
    · exact .inr ⟨List.Mem.head _, fun he => hn.1 (he ▸ List.mem_map.2 ⟨x, hu.mem, rfl⟩)⟩
    · rcases ih hn.2 z hz with h | ⟨h, hne⟩
      · exact .inl h
      · exact .inr ⟨List.Mem.tail _ h, hne⟩
/-- A store into a cell that is known. -/
theorem Has.set (h : Has W M L w) {b t k cap j : Nat} {c : List Value} {v : Value} (hu : Upd ⟨b, t, k, cap, c⟩ ⟨b, t, k, cap, c.set j v⟩ L L') : Has W M L' (w.setCell ⟨b, j, none⟩ v) := by
  obtain ⟨hx, hxm⟩ := h.bk _ hu.mem
  refine ⟨h.ex.setCell hxm v, fun z hz => ?_, by rw [hu.map rfl]; exact h.nd⟩
  rcases hu.other rfl h.nd z hz with rfl | ⟨hz, hne⟩
  · refine ⟨?_, hxm⟩
    obtain ⟨cur, h1, h2, h3, t', h4⟩ := hx
    refine ⟨cur.setIfInBounds j v, heap_setCell_same w b j cur t v h1, by simpa using h2, h3, ?_⟩
    simp only at h4 ⊢
    rw [Array.toList_setIfInBounds, ← h4, List.set_append]
    split
    · exact ⟨_, rfl⟩
    · rename_i hj
      rw [List.set_eq_of_length_le (by omega)]
      exact ⟨_, rfl⟩
  · exact ⟨(h.at' hz).of_block (heap_setCell_other w _ _ _ hne), (h.bk z hz).2⟩
/-- Several cells, one behind the other. -/
def setCells' (w : World) (b j : Nat) : List Value → World
  | [] => w
  | v :: r => setCells' (w.setCell ⟨b, j, none⟩ v) b (j + 1) r
def setAll (c : List Value) (j : Nat) : List Value → List Value
  | [] => c
  | v :: r => setAll (c.set j v) (j + 1) r
theorem setAll_length : ∀ (vs : List Value) (c : List Value) (j : Nat), (setAll c j vs).length = c.length
  | [], _, _ => rfl
  | v :: r, c, j => by rw [setAll, setAll_length r]; simp
theorem Upd.refl_to {y z : Bk} (h : Upd x y L L') (hz : z.b = x.b) : ∃ L2, Upd x z L L2 ∧ Upd z y L2 L' := by
  induction h with
  | head => exact ⟨_, .head, .head⟩
  | tail _ ih =>
    obtain ⟨L2, h1, h2⟩ := ih
    exact ⟨_, .tail h1, .tail h2⟩
theorem Has.setAll : ∀ (vs : List Value) {w : World} {L L' : List Bk} (_ : Has W M L w) {b t k cap j : Nat} {c : List Value} (_ : Upd ⟨b, t, k, cap, c⟩ ⟨b, t, k, cap, Ad.setAll c j vs⟩ L L'), Has W M L' (setCells' w b j vs)
  | [], w, L, L', h, b, t, k, cap, j, c, hu => by
    have hs : L' = L := by
      simp only [Ad.setAll] at hu
      generalize hx : (⟨b, t, k, cap, c⟩ : Bk) = x at hu
      have : ∀ {x y : Bk} {L L' : List Bk}, Upd x y L L' → x = y → L' = L := by
        intro x y L L' h
        induction h with
        | head => rintro rfl; rfl
        | tail _ ih => intro he; rw [ih he]
      exact this hu rfl
    rw [hs]; exact h
  | v :: r, w, L, L', h, b, t, k, cap, j, c, hu => by
    obtain ⟨L2, h1, h2⟩ := hu.refl_to (z := ⟨b, t, k, cap, c.set j v⟩) rfl
    exact Has.setAll r (h.set h1) h2
/-- One entry less. -/
inductive Sel : Bk → List Bk → List Bk → Prop
  | head {x : Bk} {L : List Bk} : Sel x (x :: L) L
  | tail {x z : Bk} {L L' : List Bk} : Sel x L L' → Sel x (z :: L) (z :: L')
theorem Sel.mem (h : Sel x L L') : x ∈ L := by
  induction h with
  | head => exact List.Mem.head _
  | tail _ ih => exact List.Mem.tail _ ih
theorem Sel.sublist (h : Sel x L L') : List.Sublist L' L := by
  induction h with
  | head => exact List.sublist_cons_self _ _
  | tail _ ih => exact ih.cons_cons _
theorem Sel.other (h : Sel x L L') (hn : (L.map (·.b)).Nodup) : ∀ z ∈ L', z.b ≠ x.b := by
  induction h with
  | head =>
    intro z hz he
    simp only [List.map_cons, List.nodup_cons] at hn
    exact hn.1 (he ▸ List.mem_map.2 ⟨z, hz, rfl⟩)
  | @tail z0 L L' hs ih =>
    intro z hz he
    simp only [List.map_cons, List.nodup_cons] at hn
    rcases List.mem_cons.1 hz with rfl | hz
    · exact hn.1 (he ▸ List.mem_map.2 ⟨x, hs.mem, rfl⟩)
    · exact ih hn.2 z hz he
end
/-! ### What a call does: seen from the world at its begin. -/
def Does (P : Program) (f : FuncId) (args : List Value) (W : World) (M : List Nat) (Post : Value → List Bk → Prop) : Prop :=
  Calls P f args.toArray W fun e w' => ∃ v L, e = .returned v ∧ Has W M L w' ∧ Post v L
theorem Does.post {P : Program} {f : FuncId} {args : List Value} {W : World} {M : List Nat} {Post Post' : Value → List Bk → Prop} (h : Does P f args W M Post) (hp : ∀ v L, Post v L → Post' v L) : Does P f args W M Post' :=
  Calls.mono h fun _ _ ⟨v, L, h1, h2, h3⟩ => ⟨v, L, h1, h2, hp v L h3⟩
theorem Has.call {W w w' : World} {M : List Nat} {L L' : List Bk} (h : Has W M L w) (k : Has w [] L' w') : Has W M (L' ++ L) w' := by
  refine ⟨h.ex.trans (k.ex.mono (by simp)), fun x hx => ?_, ?_⟩
  · rcases List.mem_append.1 hx with hx | hx
    · obtain ⟨h1, h2⟩ := k.bk x hx
      rcases h2 with h2 | h2
      · simp at h2
      · exact ⟨h1, .inr (Nat.le_trans h.size h2)⟩
    · obtain ⟨h1, h2⟩ := h.bk x hx
      exact ⟨h1.of_block (k.ex.block x.b h1.lt (by simp)), h2⟩
  · rw [List.map_append, List.nodup_append]
    refine ⟨k.nd, h.nd, fun i hi j hj he => ?_⟩
    obtain ⟨x, hx, rfl⟩ := List.mem_map.1 hi
    obtain ⟨y, hy, rfl⟩ := List.mem_map.1 hj
    have h1 := (h.at' hy).lt
    rcases (k.bk x hx).2 with h2 | h2
    · simp at h2
    · omega
/-- .. where it may write one of the blocks. -/
theorem Has.call1 {W w w' : World} {M : List Nat} {x : Bk} {L L' R : List Bk} (h : Has W M L w) (hs : Sel x L R) (k : Has w [x.b] L' w') : Has W M (L' ++ R) w' := by
  have hx := h.bk x hs.mem
  refine ⟨⟨k.ex.os.trans h.ex.os, k.ex.tape.trans h.ex.tape, k.ex.output.trans h.ex.output, Nat.le_trans h.size k.size, fun i hi hM => ?_⟩, fun y hy => ?_, ?_⟩
  · rw [k.ex.block i (Nat.lt_of_lt_of_le hi h.size) (fun hm => by
      have := List.mem_singleton.1 hm
      subst this
      rcases hx.2 with h2 | h2
      · exact hM h2
      · omega)]
    exact h.ex.block i hi hM
  · rcases List.mem_append.1 hy with hy | hy
    · obtain ⟨h1, h2⟩ := k.bk y hy
      rcases h2 with h2 | h2
      · have := List.mem_singleton.1 h2
        rw [this]; exact ⟨h1, hx.2⟩
      · exact ⟨h1, .inr (Nat.le_trans h.size h2)⟩
    · obtain ⟨h1, h2⟩ := h.bk y (hs.sublist.subset hy)
      exact ⟨h1.of_block (k.ex.block y.b h1.lt (by simpa using hs.other h.nd y hy)), h2⟩
  · rw [List.map_append, List.nodup_append]
    refine ⟨k.nd, h.nd.sublist (hs.sublist.map _), fun i hi j hj he => ?_⟩
    obtain ⟨y, hy, rfl⟩ := List.mem_map.1 hi
    obtain ⟨z, hz, rfl⟩ := List.mem_map.1 hj
    have h1 := (h.at' (hs.sublist.subset hz)).lt
    rcases (k.bk y hy).2 with h2 | h2
    · have := List.mem_singleton.1 h2
      exact hs.other h.nd z hz (by rw [← he, this])
    · omega
/-! ### The walk -/
section
variable {P : Program} {W : World} {M : List Nat} {ops : Array Oper} {Q : Exit → Act → World → Prop} {rest : List Oper} {ov : Ov} {base : List Value} {L L' : List Bk}
def QL (W : World) (M : List Nat) (K : Act → World → Prop) (ov : Ov) (base : List Value) (L : List Bk) : Prop := ∀ a w, Rep ov base a → Has W M L w → K a w
def wpC (P : Program) (W : World) (M : List Nat) (c : Code) (Q : Exit → Act → World → Prop) (ov : Ov) (base : List Value) (L : List Bk) : Prop := QL W M (c.wp P Q) ov base L
def wpL (P : Program) (W : World) (M : List Nat) (ops : Array Oper) (Q : Exit → Act → World → Prop) (rest : List Oper) (ov : Ov) (base : List Value) (L : List Bk) : Prop := QL W M (wpList P ops Q rest) ov base L
def wpO (P : Program) (W : World) (M : List Nat) (ops : Array Oper) (Q : Exit → Act → World → Prop) (T : Nat → Bool) (L0 : List Bk) (l : List (Nat × Bool × Oper)) (ov : Ov) (base : List Value) (L : List Bk) : Prop := QL W M (wpOrdO P ops Q (Has W M L0) T l) ov base L
theorem QL.sub {K : Act → World → Prop} (hs : List.Sublist L' L) (h : QL W M K ov base L') : QL W M K ov base L := fun a w hr hH => h a w hr (hH.sub hs)
theorem wpC.sub {c : Code} (hs : List.Sublist L' L) (h : wpC P W M c Q ov base L') : wpC P W M c Q ov base L := QL.sub hs h
/-- An operation that yields and changes nothing. -/
def Y (P : Program) (W : World) (M : List Nat) (L : List Bk) (ρ : Operand → Value) (op : Op) (ty : TypeId) (v : Value) : Prop :=
  ∀ w, Has W M L w → ∀ o : Oper, o.op = op → o.type = ty → (execOp ρ o).run P w = .ok (.value v) w
/-- One that yields nothing. -/
def S (P : Program) (W : World) (M : List Nat) (L : List Bk) (ρ : Operand → Value) (op : Op) (ty : TypeId) (L' : List Bk) : Prop :=
  ∀ w, Has W M L w → ∀ o : Oper, o.op = op → o.type = ty → ∃ w', (execOp ρ o).run P w = .ok .skip w' ∧ Has W M L' w'
/-- One that makes something. -/
def N {α : Type} (P : Program) (W : World) (M : List Nat) (L : List Bk) (ρ : Operand → Value) (op : Op) (ty : TypeId) (φ : α → Prop) (F : α → Value) (G : α → List Bk) : Prop :=
  ∀ w, Has W M L w → ∀ o : Oper, o.op = op → o.type = ty → ∃ x w', φ x ∧ (execOp ρ o).run P w = .ok (.value (F x)) w' ∧ Has W M (G x) w'
theorem s_y {d : Nat} {op : Op} {ty : TypeId} {pos : String} {aft : Array Edge} {g : Option (Nat × Bool)} {v : Value} (hy : Y P W M L (ev ov base) op ty v) (hw : wantedL ops ov base ⟨some d, op, ty, pos, aft, g⟩ = true) (hd : Nat.blt d base.length = true)
    (k : wpL P W M ops Q rest ((d, v) :: ov) base L) : wpL P W M ops Q (⟨some d, op, ty, pos, aft, g⟩ :: rest) ov base L := fun a w hr hH => by
  refine G_val (by rw [hr.wanted]; exact hw) (v := v) (w' := w) (by rw [hr.eval]; exact hy w hH _ rfl rfl) (k _ _ (hr.put v hd) hH)
theorem s_pass {d : Nat} {op : Op} {ty : TypeId} {pos : String} {aft : Array Edge} {g : Option (Nat × Bool)} (hw : wantedL ops ov base ⟨some d, op, ty, pos, aft, g⟩ = false) (hd : Nat.blt d base.length = true)
    (k : wpL P W M ops Q rest ((d, undef) :: ov) base L) : wpL P W M ops Q (⟨some d, op, ty, pos, aft, g⟩ :: rest) ov base L := fun a w hr hH => by
  refine wpList_step fun K hK => ?_
  rw [hr.wanted, hw, if_neg (by simp)]
  exact hK _ _ (k _ _ (hr.put undef hd) hH)
theorem s_pass0 {op : Op} {ty : TypeId} {pos : String} {aft : Array Edge} {g : Option (Nat × Bool)} (hw : wantedL ops ov base ⟨none, op, ty, pos, aft, g⟩ = false)
    (k : wpL P W M ops Q rest ov base L) : wpL P W M ops Q (⟨none, op, ty, pos, aft, g⟩ :: rest) ov base L := fun a w hr hH => by
  refine wpList_step fun K hK => ?_
  rw [hr.wanted, hw, if_neg (by simp)]
  exact hK _ _ (k _ _ hr hH)
theorem s_s {op : Op} {ty : TypeId} {pos : String} {aft : Array Edge} {g : Option (Nat × Bool)} (hs : S P W M L (ev ov base) op ty L') (hw : wantedL ops ov base ⟨none, op, ty, pos, aft, g⟩ = true)
    (k : wpL P W M ops Q rest ov base L') : wpL P W M ops Q (⟨none, op, ty, pos, aft, g⟩ :: rest) ov base L := fun a w hr hH => by
  obtain ⟨w', h1, h2⟩ := hs w hH ⟨none, op, ty, pos, aft, g⟩ rfl rfl
  exact G_skip (by rw [hr.wanted]; exact hw) (w' := w') (by rw [hr.eval]; exact h1) (k _ _ hr h2)
theorem s_n {α : Type} {d : Nat} {op : Op} {ty : TypeId} {pos : String} {aft : Array Edge} {g : Option (Nat × Bool)} {φ : α → Prop} {F : α → Value} {G : α → List Bk} (hn : N P W M L (ev ov base) op ty φ F G)
    (hw : wantedL ops ov base ⟨some d, op, ty, pos, aft, g⟩ = true) (hd : Nat.blt d base.length = true)
    (k : ∀ x, φ x → wpL P W M ops Q rest ((d, F x) :: ov) base (G x)) : wpL P W M ops Q (⟨some d, op, ty, pos, aft, g⟩ :: rest) ov base L := fun a w hr hH => by
  obtain ⟨x, w', h1, h2, h3⟩ := hn w hH ⟨some d, op, ty, pos, aft, g⟩ rfl rfl
  exact G_val (by rw [hr.wanted]; exact hw) (v := F x) (w' := w') (by rw [hr.eval]; exact h2) (k x h1 _ _ (hr.put _ hd) h3)
/-- What enters a function. -/
def En (P : Program) (W : World) (M : List Nat) (L : List Bk) (ρ : Operand → Value) (op : Op) (ty : TypeId) (f : FuncId) (vs : List Value) : Prop :=
  ∀ w, Has W M L w → ∀ o : Oper, o.op = op → o.type = ty → (execOp ρ o).run P w = .ok (.enter f vs.toArray) w
theorem s_c {d : Nat} {op : Op} {ty : TypeId} {pos : String} {aft : Array Edge} {g : Option (Nat × Bool)} {f : FuncId} {vs : List Value} {Post : Value → List Bk → Prop} (he : En P W M L (ev ov base) op ty f vs)
    (hc : ∀ w, Has W M L w → Does P f vs w [] Post) (hw : wantedL ops ov base ⟨some d, op, ty, pos, aft, g⟩ = true) (hd : Nat.blt d base.length = true)
    (k : ∀ v L', Post v L' → wpL P W M ops Q rest ((d, v) :: ov) base (L' ++ L)) : wpL P W M ops Q (⟨some d, op, ty, pos, aft, g⟩ :: rest) ov base L := fun a w hr hH => by
  refine G_enter (by rw [hr.wanted]; exact hw) (by rw [hr.eval]; exact he w hH _ rfl rfl) ((hc w hH).mono ?_)
  rintro e w' ⟨v, L', rfl, h1, h2⟩
  exact ⟨v, rfl, k v L' h2 _ _ (hr.put v hd) (hH.call h1)⟩
theorem s_c0 {op : Op} {ty : TypeId} {pos : String} {aft : Array Edge} {g : Option (Nat × Bool)} {f : FuncId} {vs : List Value} {Post : Value → List Bk → Prop} (he : En P W M L (ev ov base) op ty f vs)
    (hc : ∀ w, Has W M L w → Does P f vs w [] Post) (hw : wantedL ops ov base ⟨none, op, ty, pos, aft, g⟩ = true)
    (k : ∀ v L', Post v L' → wpL P W M ops Q rest ov base (L' ++ L)) : wpL P W M ops Q (⟨none, op, ty, pos, aft, g⟩ :: rest) ov base L := fun a w hr hH => by
  refine G_enter (by rw [hr.wanted]; exact hw) (by rw [hr.eval]; exact he w hH _ rfl rfl) ((hc w hH).mono ?_)
  rintro e w' ⟨v, L', rfl, h1, h2⟩
  exact ⟨v, rfl, k v L' h2 _ _ hr (hH.call h1)⟩
theorem s_c1 {d : Nat} {op : Op} {ty : TypeId} {pos : String} {aft : Array Edge} {g : Option (Nat × Bool)} {f : FuncId} {vs : List Value} {x : Bk} {R : List Bk} {Post : Value → List Bk → Prop} (he : En P W M L (ev ov base) op ty f vs) (hs : Sel x L R)
    (hc : ∀ w, Has W M L w → Does P f vs w [x.b] Post) (hw : wantedL ops ov base ⟨some d, op, ty, pos, aft, g⟩ = true) (hd : Nat.blt d base.length = true)
    (k : ∀ v L', Post v L' → wpL P W M ops Q rest ((d, v) :: ov) base (L' ++ R)) : wpL P W M ops Q (⟨some d, op, ty, pos, aft, g⟩ :: rest) ov base L := fun a w hr hH => by
  refine G_enter (by rw [hr.wanted]; exact hw) (by rw [hr.eval]; exact he w hH _ rfl rfl) ((hc w hH).mono ?_)
  rintro e w' ⟨v, L', rfl, h1, h2⟩
  exact ⟨v, rfl, k v L' h2 _ _ (hr.put v hd) (hH.call1 hs h1)⟩
theorem s_nil (k : QL W M (Q .normal) ov base L) : wpL P W M ops Q [] ov base L := k
/-- A slot that holds a truth: both ways. -/
theorem s_split {d : Nat} {t : Bool} (hv : ov.get base d = .bool t) (h1 : t = true → wpL P W M ops Q rest ((d, .bool true) :: ov) base L) (h2 : t = false → wpL P W M ops Q rest ((d, .bool false) :: ov) base L) : wpL P W M ops Q rest ov base L := by
  have hre : ∀ a, Rep ov base a → Rep ((d, .bool t) :: ov) base a := fun a h => ⟨h.defers, h.size, fun e => by
    rw [h.get e]
    simp only [Ov.get]
    by_cases hde : d = e
    · subst hde
      have : Nat.beq d d = true := by simp
      rw [this, hv]; rfl
    · have : Nat.beq d e = false := nbeq hde
      rw [this]; rfl⟩
  cases t
  · exact fun a w hr hH => h2 rfl a w (hre a hr) hH
  · exact fun a w hr hH => h1 rfl a w (hre a hr) hH
/-! ### Code -/
theorem c_seq {x y : Code} (h : wpC P W M x (Exit.then (y.wp P Q) Q) ov base L) : wpC P W M (.seq x y) Q ov base L := fun a w hr hH => wp_seq (h a w hr hH)
theorem c_skip (h : QL W M (Q .normal) ov base L) : wpC P W M .skip Q ov base L := fun a w hr hH => wp_skip (h a w hr hH)
theorem c_label {l : Nat} (h : QL W M (Q .normal) ov base L) : wpC P W M (.label l) Q ov base L := fun a w hr hH => wp_label (h a w hr hH)
theorem c_exit {i : Nat} (h : QL W M (Q (.exit i)) ov base L) : wpC P W M (.exit i) Q ov base L := fun a w hr hH => wp_exit (h a w hr hH)
theorem c_goto {i : Nat} (h : QL W M (Q (.goto i)) ov base L) : wpC P W M (.goto i) Q ov base L := fun a w hr hH => wp_goto (h a w hr hH)
theorem c_ret (h : QL W M (Q .ret) ov base L) : wpC P W M .ret Q ov base L := fun a w hr hH => wp_ret (h a w hr hH)
theorem c_block {i : Nat} {c : Code} (h : wpC P W M c (Exit.inBlock i Q) ov base L) : wpC P W M (.block i c) Q ov base L := fun a w hr hH => wp_block (h a w hr hH)
theorem c_cond {c : Operand} {x y : Code} {t : Bool} (hc : ev ov base c = .bool t) (h1 : t = true → wpC P W M x Q ov base L) (h2 : t = false → wpC P W M y Q ov base L) : wpC P W M (.cond c x y) Q ov base L := fun a w hr hH =>
  wp_cond_split (by rw [hr.eval]; exact hc) (fun h => h1 h a w hr hH) (fun h => h2 h a w hr hH)
theorem c_cond' {c : Operand} {x y : Code} {p : Prop} [Decidable p] (hc : ev ov base c = .bool (decide p)) (h1 : p → wpC P W M x Q ov base L) (h2 : ¬ p → wpC P W M y Q ov base L) : wpC P W M (.cond c x y) Q ov base L :=
  c_cond hc (fun h => h1 (of_decide_eq_true h)) (fun h => h2 (of_decide_eq_false h))
theorem c_reg {i : Nat} {l : List Oper} (h : wpL P W M l.toArray Q l ov base L) : wpC P W M (.region i l.toArray false) Q ov base L := fun a w hr hH => wp_region_lit (h a w hr hH)
theorem q_then {y : Code} {Q' : Exit → Act → World → Prop} (h : wpC P W M y Q ov base L) : QL W M (Exit.then (y.wp P Q) Q' .normal) ov base L := h
theorem q_exit {i : Nat} (h : QL W M (Q .normal) ov base L) : QL W M (Exit.inBlock i Q (.exit i)) ov base L := fun a w hr hH => by
  simp only [Exit.inBlock, if_true]; exact h a w hr hH
theorem q_past {i j : Nat} (hn : Nat.beq i j = false) (h : QL W M (Q (.exit i)) ov base L) : QL W M (Exit.inBlock j Q (.exit i)) ov base L := fun a w hr hH => by
  have : ¬ i = j := Nat.ne_of_beq_eq_false hn
  simp only [Exit.inBlock, this, if_false]; exact h a w hr hH
end
end Go.Ad
