/- More operations over a state of blocks that are known: slices made, appended to; structs built; texts; interfaces. -/
import Derived.Test.YtecodneffflpoaaHD
import Derived.Great.BuildSlice
import Derived.Laws.StructEq
import Derived.ChangeKeysEq
namespace Go.Ad
open Go.RowKit Go.Maps
section
variable {P : Program} {W : World} {M : List Nat} {L L' R : List Bk} {ρ : Operand → Value} {x y c : Operand} {ty t t' : TypeId} {v : Value} {k : IntKind} {a b : Int} {ov : Ov} {base : List Value}
/-- What a slice of blocks becomes by an append. -/
theorem Has.grow {w w' : World} (h : Has W M L w) {b e kk cap n cap' g : Nat} {cs xs : List Value} (hs : Sel ⟨b, e, kk, cap, cs⟩ L R) (hg : w.grownBy w' (some b)) (ho : w'.ownsRow 0 e kk (.slice (some ⟨g, 0, none⟩) n cap') n xs) (hgb : g = b ∨ g = w.heap.size) :
    Has W M (⟨g, e, kk, cap', xs⟩ :: R) w' := by
  have hx := h.bk _ hs.mem
  have hot := hs.other h.nd
  have hX : Ex [b] w w' := Ex.of_grown hg
  obtain ⟨hlen, ⟨h0, _⟩ | ⟨g', c', cur, he, _, h2, h3, h4, h5, h6⟩⟩ := ho
  · cases h0
  cases he
  refine ⟨⟨hg.os.trans h.ex.os, hg.tape.trans h.ex.tape, hg.output.trans h.ex.output, Nat.le_trans h.size hg.size, fun i hi hM => ?_⟩, fun z hz => ?_, ?_⟩
  · rw [hX.block i (Nat.lt_of_lt_of_le hi h.size) (fun hm => by
      have := List.mem_singleton.1 hm
      subst this
      rcases hx.2 with h7 | h7
      · exact hM h7
      · simp only at h7; omega)]
    exact h.ex.block i hi hM
  · rcases List.mem_cons.1 hz with rfl | hz
    · refine ⟨⟨cur, h2, h5, h4, ?_⟩, ?_⟩
      · rw [← h6]; exact List.take_prefix _ _
      · rcases hgb with rfl | rfl
        · exact hx.2
        · exact .inr h.size
    · obtain ⟨h7, h8⟩ := h.bk z (hs.sublist.subset hz)
      exact ⟨h7.of_block (hX.block z.b h7.lt (by simpa using hot z hz)), h8⟩
  · simp only [List.map_cons, List.nodup_cons]
    refine ⟨fun hm => ?_, h.nd.sublist (hs.sublist.map _)⟩
    obtain ⟨z, hz, hzg⟩ := List.mem_map.1 hm
    rcases hgb with rfl | rfl
    · exact hot z hz hzg
    · have := (h.at' (hs.sublist.subset hz)).lt; omega
theorem Has.grow0 {w w' : World} (h : Has W M L w) {e kk n cap' g : Nat} {xs : List Value} (hg : w.grownBy w' none) (ho : w'.ownsRow 0 e kk (.slice (some ⟨g, 0, none⟩) n cap') n xs) (hgb : g = w.heap.size) :
    Has W M (⟨g, e, kk, cap', xs⟩ :: L) w' := by
  have hX : Ex [] w w' := Ex.of_grown0 hg
  obtain ⟨hlen, ⟨h0, _⟩ | ⟨g', c', cur, he, _, h2, h3, h4, h5, h6⟩⟩ := ho
  · cases h0
  cases he
  subst hgb
  refine ⟨h.ex.trans (hX.mono (by simp)), fun z hz => ?_, ?_⟩
  · rcases List.mem_cons.1 hz with rfl | hz
    · exact ⟨⟨cur, h2, h5, h4, by rw [← h6]; exact List.take_prefix _ _⟩, .inr h.size⟩
    · obtain ⟨h7, h8⟩ := h.bk z hz
      exact ⟨h7.of_block (hX.block z.b h7.lt (by simp)), h8⟩
  · simp only [List.map_cons, List.nodup_cons]
    refine ⟨fun hm => ?_, h.nd⟩
    obtain ⟨z, hz, hzg⟩ := List.mem_map.1 hm
    have := (h.at' hz).lt; omega
theorem x_append {w w' : World} {o : Oper} {ts : Array TypeId} {v1 v2 : Value} (ho : o.op = .call { callee := .builtin .append, args := #[x, y], argTypes := ts }) (hx : ρ x = v1) (hy : ρ y = v2) (h : (Builtin.append_ ts o.type #[v1, v2]).run P w = .ok v w') : (execOp ρ o).run P w = .ok (.value v) w' := by
  unfold execOp
  simp [ho, resolve, invoke, builtin, hx, hy, h, Result.andThen]
/-- 'append' onto a slice of the call's own: what comes behind lies anywhere. -/
theorem N_app {b n cap m c2 e kk bytes : Nat} {a2 : Addr} {z : Value} {u : TypeId} {cs news : List Value} (hx : ρ x = .slice (some ⟨b, 0, none⟩) n cap) (hy : ρ y = .slice (some a2) m c2) (hu : P.underlying u = some (.slice e)) (hi : (P.info? e).map (fun i => (i.zero, i.size, i.bytes)) = some (some z, kk, bytes))
    (hz : z.cells.size = kk) (hk : 0 < kk) (hs : Sel ⟨b, e, kk, cap, cs⟩ L R) (hc : cs.length = n * kk) (hn : n ≤ cap) (hr : ∀ w, Has W M L w → ∀ j u, news[j]? = some u → w.cell? (a2.add j) = some u) (hl : news.length = m * kk) (h1 : ∀ u ∈ news, u.oneCell' = true)
    (h63 : n + m ≤ 140737488355328) (hb : (n + m) * bytes ≤ 140737488355328) :
    N P W M L ρ (.call { callee := .builtin .append, args := #[x, y], argTypes := #[u, u] }) ty (fun p : Nat × Nat => n + m ≤ p.2) (fun p => .slice (some ⟨p.1, 0, none⟩) (n + m) p.2) (fun p => ⟨p.1, e, kk, p.2, cs ++ news⟩ :: R) := fun w hw o ho _ => by
  obtain ⟨i, hi1, hi2, hi3, hi4⟩ := info_parts hi
  obtain ⟨⟨cur, q1, q2, q3, q4⟩, _⟩ := hw.bk _ hs.mem
  have hown : w.ownsRow 0 e kk (.slice (some ⟨b, 0, none⟩) n cap) n cs := ⟨hc, .inr ⟨b, cap, cur, rfl, Nat.zero_le _, q1, hn, q3, q2, by
    obtain ⟨r, hr⟩ := q4
    simp only at hr
    rw [← hr, ← hc, List.take_left]⟩⟩
  obtain ⟨v', w', g1, g2, g3, g4, g5⟩ := run_append_own_at (P := P) w 0 u o.type e i z kk bytes hu hi1 hi2 hi3 hi4 hz hk _ n cs hown a2 m c2 news hl (hr w hw) h1 (by unfold maxLen; omega) hb (Nat.zero_le _)
  obtain ⟨xa, xc, rfl⟩ := own_shape g2
  have hne : ∃ g, xa = some ⟨g, 0, none⟩ := by
    rcases g2.2 with ⟨h0, _⟩ | ⟨g', _, _, he, _⟩
    · have := g4.1 h0
      cases this.1
    · cases he; exact ⟨g', rfl⟩
  obtain ⟨g, rfl⟩ := hne
  refine ⟨(g, xc), w', ?_, x_append ho hx hy g1, hw.grow hs g3 g2 (by simpa [Value.ownBlock] using g5)⟩
  rcases g2.2 with ⟨h0, _⟩ | ⟨g', c', _, he, _, _, h3, _⟩
  · cases h0
  · cases he; exact h3
/-- .. onto none. -/
theorem N_appN {m c2 e kk bytes : Nat} {a2 : Addr} {z : Value} {u : TypeId} {news : List Value} (hx : ρ x = .slice none 0 0) (hy : ρ y = .slice (some a2) m c2) (hu : P.underlying u = some (.slice e)) (hi : (P.info? e).map (fun i => (i.zero, i.size, i.bytes)) = some (some z, kk, bytes))
    (hz : z.cells.size = kk) (hk : 0 < kk) (hr : ∀ w, Has W M L w → ∀ j u, news[j]? = some u → w.cell? (a2.add j) = some u) (hl : news.length = m * kk) (h1 : ∀ u ∈ news, u.oneCell' = true)
    (h63 : m ≤ 140737488355328) (hb : m * bytes ≤ 140737488355328) (hm : 0 < m) :
    N P W M L ρ (.call { callee := .builtin .append, args := #[x, y], argTypes := #[u, u] }) ty (fun p : Nat × Nat => m ≤ p.2) (fun p => .slice (some ⟨p.1, 0, none⟩) m p.2) (fun p => ⟨p.1, e, kk, p.2, news⟩ :: L) := fun w hw o ho _ => by
  obtain ⟨i, hi1, hi2, hi3, hi4⟩ := info_parts hi
  have hown : w.ownsRow 0 e kk (.slice none 0 0) 0 [] := ⟨by simp, .inl ⟨rfl, rfl⟩⟩
  obtain ⟨v', w', g1, g2, g3, g4, g5⟩ := run_append_own_at (P := P) w 0 u o.type e i z kk bytes hu hi1 hi2 hi3 hi4 hz hk _ 0 [] hown a2 m c2 news hl (hr w hw) h1 (by unfold maxLen; omega) (by rw [Nat.zero_add]; exact hb) (Nat.zero_le _)
  simp only [Nat.zero_add, List.nil_append] at g2
  obtain ⟨xa, xc, rfl⟩ := own_shape g2
  have hne : ∃ g, xa = some ⟨g, 0, none⟩ := by
    rcases g2.2 with ⟨h0, h1⟩ | ⟨g', _, _, he, _⟩
    · omega
    · cases he; exact ⟨g', rfl⟩
  obtain ⟨g, rfl⟩ := hne
  refine ⟨(g, xc), w', ?_, x_append ho hx hy g1, hw.grow0 (by simpa [Value.ownBlock] using g3) g2 (by simpa [Value.ownBlock] using g5)⟩
  rcases g2.2 with ⟨h0, _⟩ | ⟨g', c', _, he, _, _, h3, _⟩
  · cases h0
  · cases he; exact h3
/-- Cells of a block that is known, as an append's source. -/
theorem src {b2 e2 k2 cap2 : Nat} {news : List Value} (hm : ⟨b2, e2, k2, cap2, news⟩ ∈ L) : ∀ w, Has W M L w → ∀ j u, news[j]? = some u → w.cell? ((⟨b2, 0, none⟩ : Addr).add j) = some u := fun w hw j u hu => by
  rw [Addr.add_mid, Nat.zero_add]; exact (hw.at' hm).cell hu
theorem srcR {b2 o2 : Nat} {news : List Value} (hr : Ro W b2 o2 news) (hM : b2 ∉ M := by simp) : ∀ w, Has W M L w → ∀ j u, news[j]? = some u → w.cell? ((⟨b2, o2, none⟩ : Addr).add j) = some u := fun w hw j u hu => by
  rw [Addr.add_mid]; exact hw.ro hr hM j u hu
theorem Y_app0 {n cap : Nat} {a' : Option Addr} {e : Nat} {u : TypeId} {i : TypeInfo} (hx : ρ x = .slice a' n cap) (hy : ρ y = .slice none 0 0) (hu : P.underlying u = some (.slice e)) (hi : P.info? e = some i) (hn : n ≤ cap) (ha : a' = none → n = 0 ∧ cap = 0) :
    Y P W M L ρ (.call { callee := .builtin .append, args := #[x, y], argTypes := #[u, u] }) ty (.slice a' n cap) := fun w hw o ho _ => by
  refine x_append ho hx hy ?_
  cases a' with
  | none => obtain ⟨rfl, rfl⟩ := ha rfl; simp [Builtin.append_, run_underlying hu, sizeOf, typeInfo, hi, Builtin.lenOf, Builtin.firstCells]
  | some ad => simp [Builtin.append_, run_underlying hu, sizeOf, typeInfo, hi, Builtin.lenOf, Builtin.firstCells, hn, storeCells]
/-! ### Values of operands -/
inductive Gx : Ov → List Value → Operand → Value → Prop
  | tmp {ov : Ov} {base : List Value} {d : Nat} {v : Value} (h : Gt ov base d v) : Gx ov base (.tmp d) v
  | const {ov : Ov} {base : List Value} {v : Value} : Gx ov base (.const v) v
theorem Gx.eq {z : Operand} (h : Gx ov base z v) : ev ov base z = v := by
  cases h with
  | tmp h => exact h.eq
  | const => rfl
theorem Y_pk {p q : Operand} {u : Bool} {v1 v2 : Value} (hc : ev ov base c = .bool u) (h1 : Gx ov base p v1) (h2 : Gx ov base q v2) : Y P W M L (ev ov base) (.pick c p q) ty (if u then v1 else v2) := Y_pick hc h1.eq h2.eq
inductive Gv : Ov → List Value → List Operand → List Value → Prop
  | nil {ov : Ov} {base : List Value} : Gv ov base [] []
  | tmp {ov : Ov} {base : List Value} {d : Nat} {v : Value} {xs : List Operand} {vs : List Value} (h : Gt ov base d v) (r : Gv ov base xs vs) : Gv ov base (.tmp d :: xs) (v :: vs)
  | const {ov : Ov} {base : List Value} {v : Value} {xs : List Operand} {vs : List Value} (r : Gv ov base xs vs) : Gv ov base (.const v :: xs) (v :: vs)
theorem Gv.eq {xs : List Operand} {vs : List Value} (h : Gv ov base xs vs) : xs.map (ev ov base) = vs := by
  induction h with
  | nil => rfl
  | tmp h _ ih => simp only [List.map_cons, ih]; rw [show ev _ _ (.tmp _) = _ from h.eq]
  | const _ ih => simp only [List.map_cons, ih]; rfl
theorem x_buildSlice {w w' : World} {o : Oper} {n : Nat} {ps : Array (Nat × Operand)} {u : TypeId} (ho : o.op = .buildSlice u n ps) (h : (Instr.buildSlice u n (ps.map fun p => (p.1, ρ p.2))).run P w = .ok v w') : (execOp ρ o).run P w = .ok (.value v) w' := by
  unfold execOp
  simp only [ho, Sem.run_bind]
  rw [h]
  simp [Result.andThen]
/-- A slice literal whose elements have one cell each. -/
theorem N_bs {u e n bytes : Nat} {z : Value} {xs : List Operand} {ps : Array (Nat × Operand)} {vs : List Value} (hv : Gv ov base xs vs) (hp : ps.toList = (xs.zipIdx 0).map fun p => (p.2, p.1)) (hu : P.underlying u = some (.slice e)) (hi : (P.info? e).map (fun i => (i.zero, i.size, i.bytes)) = some (some z, 1, bytes)) (hn : xs.length = n) (h0 : 0 < n) (hn2 : n ≤ 1000)
    (h1 : ∀ v ∈ vs, v.oneCell' = true) : N P W M L (ev ov base) (.buildSlice u n ps) ty (fun _ : Nat => True) (fun b => .slice (some ⟨b, 0, none⟩) n n) (fun b => ⟨b, e, 1, n, vs⟩ :: L) := fun w hw o ho _ => by
  obtain ⟨i, hi1, hi2, hi3, hi4⟩ := info_parts hi
  have hlen : vs.length = n := by rw [← hv.eq, List.length_map, hn]
  have hcells : ∀ v : Value, v.oneCell' = true → v.cells = #[v] := fun v h => by cases v <;> simp_all [Value.cells, Value.oneCell']
  refine ⟨w.heap.size, w.alloc (.cells vs.toArray e), trivial, x_buildSlice ho ?_, hw.alloc (c := vs.toArray) (by simp [hlen]) (by unfold maxLen; omega)⟩
  refine run_buildSlice w u e n _ vs.toArray i z hu hi1 hi2 (by rw [hi3]; omega) (by rw [hi3]; omega) ?_
  rw [hi3]
  have hpl : (ps.map fun p => (p.1, ev ov base p.2)).toList = (vs.zipIdx 0).map fun p => (p.2, p.1) := by
    rw [Array.toList_map, hp, ← hv.eq, List.zipIdx_map, List.map_map, List.map_map]
    rfl
  rw [hpl]
  exact Great.fill_flat vs _ (fun v hv => hcells v (h1 v hv)) (by simp [hlen])
theorem N_bs0 {u e : Nat} {ps : Array (Nat × Operand)} {kk : Nat} (hp : ps = #[]) (hu : P.underlying u = some (.slice e)) (hi : (P.info? e).map (·.size) = some kk) : N P W M L ρ (.buildSlice u 0 ps) ty (fun _ : Nat => True) (fun b => .slice (some ⟨b, 0, none⟩) 0 0) (fun b => ⟨b, e, kk, 0, []⟩ :: L) := fun w hw o ho _ => by
  subst hp
  refine ⟨w.heap.size, w.alloc (.cells #[] e), trivial, x_buildSlice ho ?_, hw.alloc (c := #[]) (by simp) (by unfold maxLen; omega)⟩
  simp [Instr.buildSlice, run_underlying hu, run_size hi, Instr.fill, newRow, Result.andThen]
  have : Array.map (fun _ => (default : Value)) (Array.range 0) = #[] := by simp [Array.range]
  rw [this]
/-- A slice literal of one struct. -/
theorem N_bsA {u e n bytes : Nat} {z : Value} {d : Nat} {cs : List Value} (hv : Gt ov base d (.agg cs.toArray)) (hu : P.underlying u = some (.slice e)) (hi : (P.info? e).map (fun i => (i.zero, i.size, i.bytes)) = some (some z, n, bytes)) (hz : z.cells.size = n) (hn : cs.length = n) (h0 : 0 < n) (hn2 : n ≤ 1000) :
    N P W M L (ev ov base) (.buildSlice u 1 #[(0, .tmp d)]) ty (fun _ : Nat => True) (fun b => .slice (some ⟨b, 0, none⟩) 1 1) (fun b => ⟨b, e, n, 1, cs⟩ :: L) := fun w hw o ho _ => by
  obtain ⟨i, hi1, hi2, hi3, hi4⟩ := info_parts hi
  refine ⟨w.heap.size, w.alloc (.cells cs.toArray e), trivial, x_buildSlice ho ?_, hw.alloc (c := cs.toArray) (by simp [hn]) (by unfold maxLen; omega)⟩
  refine run_buildSlice w u e 1 _ cs.toArray i z hu hi1 hi2 (by rw [hi3]; omega) (by rw [hi3]; omega) ?_
  rw [hi3]
  have := Great.fill_whole (s := n) h0 [.agg cs.toArray] ((Array.range (1 * n)).map (z.cells[· % z.cells.size]!)) (by simp [Value.cells, hn]) (by simp)
  simpa [Value.cells, ev, hv.eq] using this
theorem N_make1 {u e n bytes : Nat} {z : Value} {kl kc : IntKind} {m : Int} (hx : ρ x = .int kl m) (hy : ρ y = .int kc m) (hu : P.underlying u = some (.slice e)) (hi : (P.info? e).map (fun i => (i.zero, i.size, i.bytes)) = some (some z, 1, bytes)) (hz : z.cells = #[z]) (hm : m = (n : Int)) (hb : bytes * n ≤ 281474976710656) (h63 : n ≤ 9223372036854775807) :
    N P W M L ρ (.makeSlice u x y) ty (fun _ : Nat => True) (fun b => .slice (some ⟨b, 0, none⟩) n n) (fun b => ⟨b, e, 1, n, List.replicate n z⟩ :: L) := fun w hw o ho _ => by
  obtain ⟨i, hi1, hi2, hi3, hi4⟩ := info_parts hi
  subst hm
  have := run_make (P := P) w u e i z hu hi1 hi2 kl kc n n (by omega) (by omega) (by rw [hi4, ← Int.natCast_mul]; exact Int.ofNat_le.2 hb) (by omega)
  have hA := hw.alloc (c := Array.replicate n z) (t := e) (k := 1) (cap := n) (by simp) (by unfold maxLen; omega)
  rw [Array.toList_replicate] at hA
  refine ⟨w.heap.size, w.alloc (.cells (Array.replicate n z) e), trivial, ?_, hA⟩
  unfold execOp
  simp only [ho, hx, hy, Sem.run_bind, this, Result.andThen_ok, Sem.run_pure, hi3, Int.toNat_natCast, Nat.mul_one, hz, madeCells_one]
theorem N_make {u e n bytes : Nat} {z : Value} {kl kc : IntKind} {m : Int} {kk : Nat} (hx : ρ x = .int kl m) (hy : ρ y = .int kc m) (hu : P.underlying u = some (.slice e)) (hi : (P.info? e).map (fun i => (i.zero, i.size, i.bytes)) = some (some z, kk, bytes)) (hz : z.cells.size = kk) (hm : m = (n : Int)) (hb : bytes * n ≤ 281474976710656) (h63 : n ≤ 9223372036854775807) :
    N P W M L ρ (.makeSlice u x y) ty (fun _ : Nat => True) (fun b => .slice (some ⟨b, 0, none⟩) n n) (fun b => ⟨b, e, kk, n, (madeCells z.cells (n * kk)).toList⟩ :: L) := fun w hw o ho _ => by
  obtain ⟨i, hi1, hi2, hi3, hi4⟩ := info_parts hi
  subst hm
  have := run_make (P := P) w u e i z hu hi1 hi2 kl kc n n (by omega) (by omega) (by rw [hi4, ← Int.natCast_mul]; exact Int.ofNat_le.2 hb) (by omega)
  refine ⟨w.heap.size, w.alloc (.cells (madeCells z.cells (n * kk)) e), trivial, ?_, hw.alloc (c := madeCells z.cells (n * kk)) (by simp [madeCells]) (by unfold maxLen; omega)⟩
  unfold execOp
  simp only [ho, hx, hy, Sem.run_bind, this, Result.andThen_ok, Sem.run_pure, hi3, Int.toNat_natCast]
theorem madeCells_all {c : Array Value} {u : Value} {kk : Nat} (hc : c = Array.replicate kk u) (hk : 0 < kk) (n : Nat) : madeCells c n = Array.replicate n u := by
  subst hc
  unfold madeCells
  apply Array.ext
  · simp
  · intro i h1 h2
    simp only [Array.getElem_map, Array.getElem_range, Array.getElem_replicate, Array.size_replicate]
    have := Nat.mod_lt i hk
    rw [getElem!_pos _ _ (by simpa using this)]
    simp
/-- .. of structs all of whose cells are alike. -/
theorem N_makeU {u e n bytes : Nat} {z u0 : Value} {kl kc : IntKind} {m : Int} {kk : Nat} (hx : ρ x = .int kl m) (hy : ρ y = .int kc m) (hu : P.underlying u = some (.slice e)) (hi : (P.info? e).map (fun i => (i.zero, i.size, i.bytes)) = some (some z, kk, bytes)) (hz : z.cells = Array.replicate kk u0) (hk : 0 < kk) (hm : m = (n : Int)) (hb : bytes * n ≤ 281474976710656) (h63 : n ≤ 9223372036854775807) :
    N P W M L ρ (.makeSlice u x y) ty (fun _ : Nat => True) (fun b => .slice (some ⟨b, 0, none⟩) n n) (fun b => ⟨b, e, kk, n, List.replicate (n * kk) u0⟩ :: L) := fun w hw o ho _ => by
  obtain ⟨i, hi1, hi2, hi3, hi4⟩ := info_parts hi
  subst hm
  have := run_make (P := P) w u e i z hu hi1 hi2 kl kc n n (by omega) (by omega) (by rw [hi4, ← Int.natCast_mul]; exact Int.ofNat_le.2 hb) (by omega)
  have hA := hw.alloc (c := Array.replicate (n * kk) u0) (t := e) (k := kk) (cap := n) (by simp) (by unfold maxLen; omega)
  rw [Array.toList_replicate] at hA
  refine ⟨w.heap.size, w.alloc (.cells (Array.replicate (n * kk) u0) e), trivial, ?_, hA⟩
  unfold execOp
  simp only [ho, hx, hy, Sem.run_bind, this, Result.andThen_ok, Sem.run_pure, hi3, Int.toNat_natCast, madeCells_all hz hk]
/-! ### Structs -/
inductive Gp : Ov → List Value → List (Nat × Operand) → List (Nat × Value) → Prop
  | nil {ov : Ov} {base : List Value} : Gp ov base [] []
  | tmp {ov : Ov} {base : List Value} {i d : Nat} {v : Value} {xs : List (Nat × Operand)} {vs : List (Nat × Value)} (h : Gt ov base d v) (r : Gp ov base xs vs) : Gp ov base ((i, .tmp d) :: xs) ((i, v) :: vs)
  | const {ov : Ov} {base : List Value} {i : Nat} {v : Value} {xs : List (Nat × Operand)} {vs : List (Nat × Value)} (r : Gp ov base xs vs) : Gp ov base ((i, .const v) :: xs) ((i, v) :: vs)
theorem Gp.eq {xs : List (Nat × Operand)} {vs : List (Nat × Value)} (h : Gp ov base xs vs) : (xs.map fun p => (p.1, ev ov base p.2)) = vs := by
  induction h with
  | nil => rfl
  | tmp h _ ih => simp only [List.map_cons, ih]; rw [show ev _ _ (.tmp _) = _ from h.eq]
  | const _ ih => simp only [List.map_cons, ih]; rfl
theorem Y_build {u : TypeId} {ps : Array (Nat × Operand)} {vs : List (Nat × Value)} {cs : List Value} (hv : Gp ov base ps.toList vs) (hb : P.built u vs = some cs.toArray) : Y P W M L (ev ov base) (.build u ps) ty (.agg cs.toArray) := fun w _ o ho _ => by
  unfold execOp
  simp only [ho, Sem.run_bind]
  have : (ps.map fun p => (p.1, ev ov base p.2)).toList = vs := by rw [Array.toList_map]; exact hv.eq
  have hr := run_build (P := P) w u (ps.map fun p => (p.1, ev ov base p.2)) cs.toArray (by rw [this]; exact hb)
  have he : (Array.map (fun x => (x.fst, ev ov base x.snd)) ps) = ps.map fun p => (p.1, ev ov base p.2) := rfl
  rw [show (Instr.build u (ps.map fun x => match x with | (i, x) => (i, ev ov base x))) = Instr.build u (ps.map fun p => (p.1, ev ov base p.2)) from rfl, hr]
  simp [Result.andThen]
/-- What a struct's type says of building it. -/
def Bld (P : Program) (u : TypeId) (z : Array Value) (pl : Array (Nat × Nat)) : Prop := ∀ vs cs, Instr.fill (pl[·]?) z vs = some cs → P.built u vs = some cs
theorem Bld.mk {u : TypeId} {z : Array Value} {pl : Array (Nat × Nat)} {i : TypeInfo} {zv : Value} {fs : Array Field} (hi : P.info? u = some i) (hz : i.zero = some zv) (hzc : zv.cells = z) (hu : P.underlying u = some (.struct fs)) (hp : fs.toList.mapM (fun f => (P.info? f.type).map fun i => (f.offset, i.size)) = some pl.toList) : Bld P u z pl := fun vs cs h => by
  unfold Program.built
  simp only [hi, hu, hz, hp, hzc]
  exact h
end
section
variable {P : Program} {W : World} {M : List Nat} {L L' R : List Bk} {ρ : Operand → Value} {x y c : Operand} {ty t t' : TypeId} {v : Value}
theorem bin2_run {op : BinOp} {xt yt : TypeId} {p q : Value} (hg : ∀ w, (eqGuard op xt x y p q).run P w = .ok () w) (h : ∀ w, (binOp op xt p q).run P w = .ok v w) (hx : ρ x = p) (hy : ρ y = q) : Y P W M L ρ (.binOp op xt x y yt) ty v := fun w _ o ho _ => by
  unfold execOp
  rw [ho]
  simp only [hx, hy, Sem.run_bind, hg w, Result.andThen_ok, h w, Sem.run_pure]
theorem Y_eqS {a b : ByteArray} (hx : ρ x = .string a) (hy : ρ y = .string b) : Y P W M L ρ (.binOp .eql t x y t') ty (.bool (decide (a.toList = b.toList))) := bin2_run (fun w => rfl) (fun w => by
  have : (a.toList == b.toList) = decide (a.toList = b.toList) := by rw [Bool.eq_iff_iff]; simp
  simp [binOp, Op.stringOp, this]) hx hy
theorem Y_neS {a b : ByteArray} (hx : ρ x = .string a) (hy : ρ y = .string b) : Y P W M L ρ (.binOp .neq t x y t') ty (.bool (decide (a.toList ≠ b.toList))) := bin2_run (fun w => rfl) (fun w => by
  have : (a.toList == b.toList) = decide (a.toList = b.toList) := by rw [Bool.eq_iff_iff]; simp
  simp [binOp, Op.stringOp, this]) hx hy
theorem Y_eqB {a b : Bool} (hx : ρ x = .bool a) (hy : ρ y = .bool b) (hu : P.underlying t = some .bool) : Y P W M L ρ (.binOp .eql t x y t') ty (.bool (decide (a = b))) := bin2_run (fun w => rfl) (fun w => by
  simp only [binOp]
  simp [Op.equal, Op.maxDepth, run_equalIn_bool' w 9999 t a b hu]
  cases a <;> cases b <;> rfl) hx hy
theorem Y_neB {a b : Bool} (hx : ρ x = .bool a) (hy : ρ y = .bool b) (hu : P.underlying t = some .bool) : Y P W M L ρ (.binOp .neq t x y t') ty (.bool (decide (a ≠ b))) := bin2_run (fun w => rfl) (fun w => by
  simp only [binOp]
  simp [Op.equal, Op.maxDepth, run_equalIn_bool' w 9999 t a b hu]
  cases a <;> cases b <;> rfl) hx hy
theorem Y_eqN {a : Option Addr} {n cp n' c' : Nat} {e : TypeId} (hx : ρ x = .slice a n cp) (hy : ρ y = .slice none n' c') (hu : P.underlying t = some (.slice e)) : Y P W M L ρ (.binOp .eql t x y t') ty (.bool a.isNone) := bin2_run (fun w => rfl) (fun w => Lib.run_eql_slice_nil w t e a n cp n' c' hu) hx hy
theorem Y_str {a : Option Addr} {n cp : Nat} {bs : List UInt8} {src dst e : TypeId} (hx : ρ x = .slice a n cp) (hs : P.underlying src = some (.slice e)) (he : P.underlying e = some (.int .u8)) (hd : P.underlying dst = some .string) (hb : ∀ w, Has W M L w → BytesAt w a n bs) : Y P W M L ρ (.convert src dst x) ty (.string ⟨bs.toArray⟩) := fun w hw o ho _ => by
  unfold execOp
  simp only [ho, hx, Sem.run_bind, run_bytes_string hs he hd (hb w hw), Result.andThen_ok, Sem.run_pure]
theorem bytesAt {b tt kk cap : Nat} {bs : List UInt8} {cs : List Value} {n : Nat} (hm : ⟨b, tt, kk, cap, cs⟩ ∈ L) (hc : cs = bs.map bv) (hl : bs.length = n) : ∀ w, Has W M L w → BytesAt w (some ⟨b, 0, none⟩) n bs := fun w hw =>
  ⟨hl, .inr ⟨b, 0, rfl, (hw.at' hm).lt, fun j v hv => by rw [Nat.zero_add]; exact (hw.at' hm).cell (by simpa [hc] using hv)⟩⟩
theorem Y_mkI {u : TypeId} {d : TypeDesc} (hx : ρ x = v) (hu : P.underlying u = some d) (hd : (match d with | .interface _ => false | _ => true) = true) : Y P W M L ρ (.makeInterface u x) ty (.iface u v) := fun w _ o ho _ => by
  unfold execOp
  simp only [ho, hx, Instr.makeInterface, Sem.run_bind, run_underlying hu, Result.andThen_ok]
  cases d <;> first | rfl | simp at hd
theorem Y_assert {u a : TypeId} {ok : Bool} {p : Value} (hx : ρ x = p) (h : ∀ w, (Instr.typeAssert p u a ok).run P w = .ok v w) : Y P W M L ρ (.typeAssert x u a ok) ty v := fun w _ o ho _ => by
  unfold execOp
  simp only [ho, hx, Sem.run_bind, h w, Result.andThen_ok, Sem.run_pure]
theorem En_inv {u : TypeId} {rv : Value} {name : String} {args : List Operand} {ts : Array TypeId} {vs : List Value} {f : FuncId} (hx : ρ x = .iface u rv) (hv : args.map ρ = vs) (h : ∀ w, (invoke (.fn (.method name) #[]) (#[.iface u rv] ++ vs.toArray)).run P w = .ok (.enter f (rv :: vs).toArray) w) :
    En P W M L ρ (.call { callee := .invoke x name, args := args.toArray, argTypes := ts }) ty f (rv :: vs) := fun w _ o ho _ => by
  unfold execOp
  have h := h w
  simp [ho, resolve, hx, ← hv] at h ⊢
  simp [h]
end
/-! ### Structs and arrays of whole numbers, compared -/
section
variable {P : Program} {W : World} {M : List Nat} {L L' R : List Bk} {ρ : Operand → Value} {x y c : Operand} {ty t t' : TypeId} {v : Value}
def ints (zs : List Int) : Array Value := (zs.map (Value.int .i64)).toArray
def Flat (P : Program) (t : TypeId) (n : Nat) : Prop := (∀ w (zs zs' : List Int), zs.length = n → zs'.length = n → (Op.equalIn 10000 t (.agg (ints zs)) (.agg (ints zs'))).run P w = .ok (decide (zs = zs')) w) ∧ P.eqGuardType P.depth t = false
def isInt (P : Program) (t : TypeId) : Bool := match P.underlying t with | some (.int _) => true | _ => false
theorem isInt.out {t : TypeId} (h : isInt P t = true) : ∃ k, P.underlying t = some (.int k) := by
  unfold isInt at h
  split at h
  · rename_i k hk; exact ⟨k, hk⟩
  · cases h
theorem run_part {w : World} {cs : Array Value} {i : Nat} (h : isInt P t = true) (hv : cs[i]? = some v) : (part t cs i).run P w = .ok v w := by
  obtain ⟨k, hk⟩ := isInt.out h
  simp only [part, Sem.run_bind, run_isAgg hk, Result.andThen_ok, aggD, Bool.false_eq_true, if_false, hv, Sem.run_pure]
def flatFields (P : Program) : List Field → Nat → Bool
  | [], _ => true
  | f :: fs, i => (f.offset == i) && (f.name != "_") && isInt P f.type && flatFields P fs (i + 1)
theorem ints_get {zs : List Int} {i : Nat} {z : Int} (h : zs[i]? = some z) : (ints zs)[i]? = some (.int .i64 z) := by simp [ints, h]
theorem decide_cons (a b : Int) (r s : List Int) : decide (a :: r = b :: s) = (decide (a = b) && decide (r = s)) := by simp
theorem run_eqFields (d : Nat) (w : World) (zs zs' : List Int) : ∀ (fs : List Field) (i : Nat), flatFields P fs i = true → i + fs.length = zs.length → zs'.length = zs.length →
    (Op.eqFields (d + 1) (ints zs) (ints zs') fs).run P w = .ok (decide (zs.drop i = zs'.drop i)) w
  | [], i, _, h, h' => by
    simp only [List.length_nil, Nat.add_zero] at h
    rw [List.drop_of_length_le (by omega), List.drop_of_length_le (by omega)]
    simp [Op.eqFields]
  | f :: fs, i, hf, h, h' => by
    simp only [flatFields, Bool.and_eq_true, beq_iff_eq, bne_iff_ne, ne_eq] at hf
    obtain ⟨⟨⟨rfl, h2⟩, h3⟩, h4⟩ := hf
    simp only [List.length_cons] at h
    have e1 : zs[f.offset]? = some zs[f.offset] := by simp
    have e2 : zs'[f.offset]? = some zs'[f.offset] := by simp
    obtain ⟨k, hk⟩ := isInt.out h3
    simp only [Op.eqFields, h2, not_false_iff, if_true, ne_eq, Sem.run_bind, run_part h3 (ints_get e1), run_part h3 (ints_get e2), Result.andThen_ok, run_equalIn_int w d f.type .i64 k _ _ hk]
    rw [List.drop_eq_getElem_cons (by omega), List.drop_eq_getElem_cons (l := zs') (by omega), decide_cons]
    by_cases he : zs[f.offset] = zs'[f.offset]
    · simp only [he, BEq.rfl, Bool.not_true, Bool.false_eq_true, if_false, decide_true, Bool.true_and]
      exact run_eqFields d w zs zs' fs (f.offset + 1) h4 (by omega) h'
    · have : (zs[f.offset] == zs'[f.offset]) = false := by simpa using he
      simp [this, he]
theorem Flat.struct {fs : Array Field} {n : Nat} (hu : P.underlying t = some (.struct fs)) (hp : P.stoodInHeld t = false) (hg : P.eqGuardType P.depth t = false) (hf : flatFields P fs.toList 0 = true) (hn : fs.size = n) : Flat P t n := by
  have hfo : P.fieldsOf t = fs := by simp [Program.fieldsOf, hu]
  refine ⟨fun w zs zs' h1 h2 => ?_, hg⟩
  rw [run_equalIn_struct w 9999 t _ _ (by rw [hfo]; exact hu) hp, hfo, run_eqFields 9998 w zs zs' _ 0 hf (by simp; omega) (by omega)]
  simp
theorem run_eqItems (d : Nat) (w : World) {e : TypeId} (he : isInt P e = true) (zs zs' : List Int) : ∀ (m i : Nat), i + m = zs.length → zs'.length = zs.length →
    (Op.eqItems (d + 1) e 1 (ints zs) (ints zs') (List.range' i m)).run P w = .ok (decide (zs.drop i = zs'.drop i)) w
  | 0, i, h, h' => by
    rw [List.drop_of_length_le (by omega), List.drop_of_length_le (by omega)]
    simp [Op.eqItems]
  | m + 1, i, h, h' => by
    have e1 : zs[i]? = some zs[i] := by simp
    have e2 : zs'[i]? = some zs'[i] := by simp
    obtain ⟨k, hk⟩ := isInt.out he
    rw [List.range'_succ]
    simp only [Op.eqItems, Nat.mul_one, Sem.run_bind, run_part he (ints_get e1), run_part he (ints_get e2), Result.andThen_ok, run_equalIn_int w d e .i64 k _ _ hk]
    rw [List.drop_eq_getElem_cons (by omega), List.drop_eq_getElem_cons (l := zs') (by omega), decide_cons]
    by_cases hz : zs[i] = zs'[i]
    · simp only [hz, BEq.rfl, Bool.not_true, Bool.false_eq_true, if_false, decide_true, Bool.true_and]
      exact run_eqItems d w he zs zs' m (i + 1) (by omega) h'
    · have : (zs[i] == zs'[i]) = false := by simpa using hz
      simp [this, hz]
theorem Flat.array {e : TypeId} {n : Nat} (hu : P.underlying t = some (.array n e)) (he : isInt P e = true) (hc : (P.info? e).map (·.size) = some 1) (hg : P.eqGuardType P.depth t = false) : Flat P t n := by
  cases hi : P.info? e with
  | none => simp [hi] at hc
  | some i =>
    have hce : P.cellsOf e = 1 := by simpa [Program.cellsOf, hi] using hc
    refine ⟨fun w zs zs' h1 h2 => ?_, hg⟩
    rw [run_equalIn_array w 9999 _ _ hu hi, hce, List.range_eq_range', run_eqItems 9998 w he zs zs' n 0 (by omega) (by omega)]
    simp
theorem Y_eqF {n : Nat} {zs zs' : List Int} (hx : ρ x = .agg (ints zs)) (hy : ρ y = .agg (ints zs')) (hf : Flat P t n) (h1 : zs.length = n) (h2 : zs'.length = n) : Y P W M L ρ (.binOp .eql t x y t') ty (.bool (decide (zs = zs'))) :=
  bin2_run (fun w => run_eqGuard_agg w .eql t x y _ _ hf.2) (fun w => by rw [run_eql_struct, hf.1 w zs zs' h1 h2]; rfl) hx hy
theorem Y_neF {n : Nat} {zs zs' : List Int} (hx : ρ x = .agg (ints zs)) (hy : ρ y = .agg (ints zs')) (hf : Flat P t n) (h1 : zs.length = n) (h2 : zs'.length = n) : Y P W M L ρ (.binOp .neq t x y t') ty (.bool (decide (zs ≠ zs'))) :=
  bin2_run (fun w => run_eqGuard_agg w .neq t x y _ _ hf.2) (fun w => by rw [run_neq_struct, hf.1 w zs zs' h1 h2]; simp [Result.andThen]) hx hy
end
end Go.Ad
