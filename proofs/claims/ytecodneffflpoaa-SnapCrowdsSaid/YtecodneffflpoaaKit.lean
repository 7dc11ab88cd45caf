/- Small general laws on worlds, blocks, maps, regions and readings: what this family of proofs uses again and again. -/
import Derived.WalkKit
import Derived.WalkSpells
import Derived.WalkLawsBesides
import Derived.Maps.OwnOps
import Derived.StillTailTactics
import Derived.Deep.WholeRow
import Derived.Deep.MidRow
import Derived.Deep.QuietTactic
import Derived.BigQuiet
import Derived.Lib.Hide
import Derived.SizedLaws
import Derived.ChangeArms
import Derived.OrdersHeld
import Derived.StillTail
import Derived.Maps.AppendAt
import Derived.Lib.ConvBytes
import Derived.Laws.BytesString
import Derived.Deep.LoopGhost
namespace Go.Ad
open Go.RowKit Go.Maps

/-- All blocks but those of 'l' are as they were. -/
structure Ex (l : List Nat) (w w' : World) : Prop where
  os : w'.os = w.os
  tape : w'.tape = w.tape
  output : w'.output = w.output
  size : w.heap.size ≤ w'.heap.size
  block : ∀ k, k < w.heap.size → k ∉ l → w'.heap[k]? = w.heap[k]?

theorem Ex.refl (l : List Nat) (w : World) : Ex l w w := ⟨rfl, rfl, rfl, Nat.le_refl _, fun _ _ _ => rfl⟩
theorem Ex.trans {l : List Nat} {a b c : World} (h : Ex l a b) (k : Ex l b c) : Ex l a c :=
  ⟨k.os.trans h.os, k.tape.trans h.tape, k.output.trans h.output, Nat.le_trans h.size k.size, fun i hi hl => (k.block i (Nat.lt_of_lt_of_le hi h.size) hl).trans (h.block i hi hl)⟩
theorem Ex.mono {l l' : List Nat} {w w' : World} (h : Ex l w w') (hl : ∀ k ∈ l, k ∈ l') : Ex l' w w' :=
  ⟨h.os, h.tape, h.output, h.size, fun i hi hn => h.block i hi (fun hm => hn (hl i hm))⟩
theorem Ex.drew {l : List Nat} {a w : World} (h : Ex l a w) : Ex l a w.drew := ⟨h.os, h.tape, h.output, h.size, h.block⟩
theorem Ex.alloc {l : List Nat} {a w : World} (h : Ex l a w) (o : Obj) : Ex l a (w.alloc o) :=
  h.trans ⟨rfl, rfl, rfl, by simp, fun k hk _ => Below.heap_alloc _ _ _ hk⟩
theorem Ex.setCell {l : List Nat} {a w : World} (h : Ex l a w) {p : Addr} (hp : p.block ∈ l ∨ a.heap.size ≤ p.block) (u : Value) : Ex l a (w.setCell p u) := by
  refine ⟨h.os, h.tape, h.output, by simpa [World.setCell] using h.size, fun k hk hl => ?_⟩
  rw [Below.heap_setCell _ _ _ _ (by rintro rfl; rcases hp with hp | hp; exact hl hp; omega)]
  exact h.block k hk hl
theorem Ex.below {l : List Nat} {B : Nat} {w w' : World} (h : Ex l w w') (hB : B ≤ w.heap.size) (hl : ∀ k ∈ l, B ≤ k) : Below B w w' :=
  ⟨h.os, h.tape, h.output, h.size, fun k hk => h.block k (by omega) (fun hm => by have := hl k hm; omega)⟩
theorem Ex.cell {l : List Nat} {w w' : World} (h : Ex l w w') {p : Addr} (hp : p.block < w.heap.size) (hl : p.block ∉ l) : w'.cell? p = w.cell? p := World.cell?_of_block (w := w) (h.block p.block hp hl)
theorem Ex.frozen {l : List Nat} {w w' : World} (h : Ex l w w') {p : Addr} (hp : p.block < w.heap.size) (hl : p.block ∉ l) : w'.frozen? p = w.frozen? p := World.frozen?_of_block (w := w) (h.block p.block hp hl)
theorem Ex.of_grown {w w' : World} {b : Nat} (h : w.grownBy w' (some b)) : Ex [b] w w' :=
  ⟨h.os, h.tape, h.output, h.size, fun k hk hl => h.block k hk (by simpa using hl)⟩
theorem Ex.of_grown0 {w w' : World} (h : w.grownBy w' none) : Ex [] w w' :=
  ⟨h.os, h.tape, h.output, h.size, fun k hk _ => h.block k hk (by simp)⟩


/-- A map: what stands at each key. -/
def KMap (P : Program) (kt : TypeId) (w : World) (m : Nat) (f : Value → Option Value) : Prop :=
  ∃ (es : Array MapEntry) (clock : Nat), w.heap[m]? = some (.map es clock) ∧ (∀ e ∈ es.toList, ∃ l, keyOf P kt e.key = some l) ∧
    (∀ (i j : Nat) (ei ej : MapEntry), es[i]? = some ei → es[j]? = some ej → ei.key = ej.key → i = j) ∧
    ∀ k v, f k = some v ↔ ∃ (i : Nat) (e : MapEntry), es[i]? = some e ∧ e.key = k ∧ e.val = v

open Classical in
noncomputable def upd (f : Value → Option Value) (k v : Value) : Value → Option Value := fun x => if x = k then some v else f x
theorem upd_same (f : Value → Option Value) (k v : Value) : upd f k v k = some v := by simp [upd]
theorem upd_other (f : Value → Option Value) {k x : Value} (v : Value) (h : x ≠ k) : upd f k v x = f x := by simp [upd, h]

section
variable {P : Program} {kt : TypeId} {w w' : World} {m : Nat} {f : Value → Option Value}
theorem KMap.lt (h : KMap P kt w m f) : m < w.heap.size := by
  obtain ⟨es, clock, hb, _⟩ := h
  exact (Array.getElem?_eq_some_iff.1 hb).1
theorem KMap.keep (h : KMap P kt w m f) (hw : w'.heap[m]? = w.heap[m]?) : KMap P kt w' m f := by
  obtain ⟨es, clock, hb, r⟩ := h
  exact ⟨es, clock, hw.trans hb, r⟩
theorem KMap.ex {l : List Nat} (h : KMap P kt w m f) (hw : Ex l w w') (hl : m ∉ l) : KMap P kt w' m f := h.keep (hw.block m h.lt hl)
theorem KMap.new (w : World) : KMap P kt (w.alloc (.map #[] 0)) w.heap.size (fun _ => none) :=
  ⟨#[], 0, (MapKept.heap_alloc w _).1, by simp, by simp, by simp⟩
theorem KMap.not_cells (h : KMap P kt w m f) {o : Nat} {v : Value} (hc : w.cell? ⟨m, o, none⟩ = some v) : False := by
  obtain ⟨es, clock, hb, _⟩ := h
  simp [World.cell?, hb] at hc

theorem KMap.lookup {t e : TypeId} (h : KMap P kt w m f) (K : Keyed P kt) (ht : P.underlying t = some (.map kt e)) {z : Value} (hz : (zeroValue e).run P w = .ok z w)
    {k : Value} {kl : Lit} (hkey : keyOf P kt k = some kl) (ok : Bool) :
    (Instr.lookup t (.map (some m)) k ok).run P w = .ok (if ok then .tuple #[(f k).getD z, .bool (f k).isSome] else (f k).getD z) w := by
  obtain ⟨es, clock, hb, hes, huniq, hf⟩ := h
  rcases K.find w hkey es.toList hes with ⟨h1, h2⟩ | ⟨j, e0, h1, h2, h3⟩
  · have hn : f k = none := by
      cases hv : f k with
      | none => rfl
      | some v =>
        obtain ⟨i, e1, a1, a2, _⟩ := (hf k v).1 hv
        exact absurd a2 (h2 e1 (by simpa using Array.mem_of_getElem? a1))
    simp [Instr.lookup, run_underlying ht, MapKept.run_getObj_map hb, K.check w _ hkey, h1, hz, hn, Result.andThen]
  · have hs : f k = some e0.val := (hf k e0.val).2 ⟨j, e0, by simpa using h2, h3, rfl⟩
    simp [Instr.lookup, run_underlying ht, MapKept.run_getObj_map hb, K.check w _ hkey, h1, hs, Result.andThen]

theorem KMap.update {t e : TypeId} (h : KMap P kt w m f) (K : Keyed P kt) (ht : P.underlying t = some (.map kt e)) {k v : Value} {kl : Lit} (hkey : keyOf P kt k = some kl) :
    ∃ w', (Instr.mapUpdate t (.map (some m)) k v).run P w = .ok () w' ∧ KMap P kt w' m (upd f k v) ∧ Ex [m] w w' := by
  obtain ⟨es, clock, hb, hes, huniq, hf⟩ := h
  have hex : ∀ o, Ex [m] w (ChangeMaps.setBlock w m o) := fun o =>
    ⟨rfl, rfl, rfl, by simp [ChangeMaps.setBlock], fun i _ hi => ChangeMaps.heap_setBlock_other hb _ (by simpa using hi)⟩
  rcases K.find w hkey es.toList hes with ⟨h1, h2⟩ | ⟨j, e0, h1, h2, h3⟩
  · refine ⟨ChangeMaps.setBlock w m (.map (es.push ⟨k, v, clock⟩) (clock + 1)), ?_, ⟨_, _, ChangeMaps.heap_setBlock_same hb _, ?_, ?_, ?_⟩, hex _⟩
    · simp [Instr.mapUpdate, run_underlying ht, MapKept.run_getObj_map hb, K.check w false hkey, h1, MapKept.run_setObj_map _ hb, Result.andThen, ChangeMaps.setBlock]
    · intro e1 he1
      simp only [Array.toList_push, List.mem_append, List.mem_singleton] at he1
      rcases he1 with he1 | rfl
      · exact hes e1 he1
      · exact ⟨_, hkey⟩
    · intro i j ei ej hi hj hk
      have hne : ∀ (i : Nat) ei, es[i]? = some ei → ei.key ≠ k := fun i ei hi => h2 ei (by simpa using Array.mem_of_getElem? hi)
      simp only [Array.getElem?_push] at hi hj
      split at hi <;> split at hj
      · omega
      · simp only [Option.some.injEq] at hi; subst hi; exact absurd hk.symm (hne j ej hj)
      · simp only [Option.some.injEq] at hj; subst hj; exact absurd hk (hne i ei hi)
      · exact huniq i j ei ej hi hj hk
    · intro x y
      by_cases hx : x = k
      · subst hx
        rw [upd_same]
        constructor
        · intro h; cases h; exact ⟨es.size, ⟨x, v, clock⟩, by simp, rfl, rfl⟩
        · rintro ⟨i, e1, hi, a, b⟩
          simp only [Array.getElem?_push] at hi
          split at hi
          · cases hi; rw [← b]
          · exact absurd a (h2 e1 (by simpa using Array.mem_of_getElem? hi))
      · rw [upd_other _ _ hx, hf]
        constructor
        · rintro ⟨i, e1, hi, a⟩
          have hlt : i < es.size := (Array.getElem?_eq_some_iff.1 hi).1
          exact ⟨i, e1, by rw [Array.getElem?_push, if_neg (by omega)]; exact hi, a⟩
        · rintro ⟨i, e1, hi, a, b⟩
          simp only [Array.getElem?_push] at hi
          split at hi
          · cases hi; exact absurd a.symm hx
          · exact ⟨i, e1, hi, a, b⟩
  · have hj : es[j]? = some e0 := by simpa using h2
    have hjl : j < es.size := (Array.getElem?_eq_some_iff.1 hj).1
    refine ⟨ChangeMaps.setBlock w m (.map (es.modify j fun e => { e with key := k, val := v }) clock), ?_, ⟨_, _, ChangeMaps.heap_setBlock_same hb _, ?_, ?_, ?_⟩, hex _⟩
    · simp [Instr.mapUpdate, run_underlying ht, MapKept.run_getObj_map hb, K.check w false hkey, h1, MapKept.run_setObj_map _ hb, Result.andThen, ChangeMaps.setBlock, hj, h3, K.stays w hkey]
    · intro e1 he1
      obtain ⟨i, hi, rfl⟩ := List.getElem_of_mem he1
      simp only [Array.getElem_toList, Array.getElem_modify]
      split
      · exact ⟨_, hkey⟩
      · exact hes _ (by simp)
    · intro i i' ei ej hi hi' hk
      simp only [Array.getElem?_modify] at hi hi'
      have key1 : ∀ (i : Nat) ei, (if j = i then Option.map (fun e : MapEntry => { e with key := k, val := v }) es[i]? else es[i]?) = some ei → ∃ e1, es[i]? = some e1 ∧ e1.key = ei.key := by
        intro i ei h
        split at h
        · rename_i hji; subst hji
          rw [hj] at h; cases h
          exact ⟨e0, hj, h3⟩
        · exact ⟨ei, h, rfl⟩
      obtain ⟨a, ha, ha'⟩ := key1 i ei hi
      obtain ⟨b, hb', hb''⟩ := key1 i' ej hi'
      exact huniq i i' a b ha hb' (by rw [ha', hb'', hk])
    · intro x y
      by_cases hx : x = k
      · subst hx
        rw [upd_same]
        constructor
        · intro h; cases h
          exact ⟨j, { e0 with key := x, val := v }, by simp [Array.getElem?_modify, hj], rfl, rfl⟩
        · rintro ⟨i, e1, hi, a, b⟩
          simp only [Array.getElem?_modify] at hi
          split at hi
          · rename_i hji; subst hji
            rw [hj] at hi; cases hi; rw [← b]
          · rename_i hji
            exact absurd (huniq j i e0 e1 hj hi (by rw [h3, a])) hji
      · rw [upd_other _ _ hx, hf]
        constructor
        · rintro ⟨i, e1, hi, a, b⟩
          have hji : j ≠ i := by rintro rfl; rw [hj] at hi; cases hi; exact hx (by rw [← a, h3])
          exact ⟨i, e1, by rw [Array.getElem?_modify, if_neg hji]; exact hi, a, b⟩
        · rintro ⟨i, e1, hi, a, b⟩
          simp only [Array.getElem?_modify] at hi
          split at hi
          · rename_i hji; subst hji
            rw [hj] at hi; cases hi; exact absurd a.symm hx
          · exact ⟨i, e1, hi, a, b⟩

/-- 'm[k] = v' at the operation. -/
theorem wpList_mapUpdate_K {ops : Array Oper} {rest : List Oper} {o : Oper} {a : Act} {Q : Exit → Act → World → Prop}
    (hg : o.guard = none) (x y z : Operand) (t : TypeId) (hop : o.op = Op.mapUpdate t x y z) (e : TypeId) (K : Keyed P kt) (ht : P.underlying t = some (.map kt e))
    (hm : a.eval x = .map (some m)) (h : KMap P kt w m f) (k v : Value) (kl : Lit) (hx : a.eval y = k) (hv : a.eval z = v) (hkey : keyOf P kt k = some kl)
    (hK : ∀ w', KMap P kt w' m (upd f k v) → Ex [m] w w' → wpList P ops Q rest (a.put o.dst undef) w') : wpList P ops Q (o :: rest) a w := by
  refine wpList_plain hg fun K' hK' => ?_
  obtain ⟨w', hrun, r1, r2⟩ := h.update K ht hkey (v := v)
  unfold Oper.wp
  simp [execOp, hop, hm, hx, hv, hrun, Result.andThen]
  exact hK' _ _ (hK w' r1 r2)
end
end Go.Ad
namespace Go.Ad
open Go.RowKit Go.Maps
section
variable {P : Program} {ops : Array Oper} {w : World} {Q : Act → Prop} {a : Act} {o : Oper} {rest : List Oper}
/-- A region that draws: the next operation yields v. -/
theorem still_yield (hg : o.guard = none) (v : Value) (hr : (execOp a.eval o).run P w = .ok (.value v) w) (h : wpStill P ops w Q rest (a.put o.dst v)) : wpStill P ops w Q (o :: rest) a := by
  refine wpStill_step fun K hK => ?_
  simp only [Region.wanted, hg, if_true, Oper.still, hr, Oper.stillUpon]
  exact ⟨trivial, hK _ h⟩
end
end Go.Ad
namespace Go.Ad
section
variable {P : Program}
theorem World.rangeAt.drew {w : World} {b o : Nat} {cs : List Value} (h : w.rangeAt b o cs) : w.drew.rangeAt b o cs := h
theorem rangeAt_ex {l : List Nat} {w w' : World} {b o : Nat} {cs : List Value} (h : w.rangeAt b o cs) (hx : Ex l w w') (hb : b < w.heap.size) (hl : b ∉ l) : w'.rangeAt b o cs := fun j v hv => by
  rw [hx.cell (p := ⟨b, o + j, none⟩) hb hl]; exact h j v hv
end
end Go.Ad
namespace Go.Ad
section
variable {P : Program}
theorem exec_load {w : World} {a : Act} {o : Oper} {ty : TypeId} {x : Operand} (ho : o.op = .load ty x) {v p : Value} (hx : a.eval x = p) (h : (Instr.loadAt ty p).run P w = .ok v w) : (execOp a.eval o).run P w = .ok (.value v) w := by
  unfold execOp
  simp only [ho, hx, Sem.run_bind, h, Result.andThen_ok, Sem.run_pure]
end
end Go.Ad
namespace Go.Ad
open Go.RowKit
theorem Ex.of_drew {l : List Nat} {w w' : World} (h : Ex l w.drew w') : Ex l w w' := ⟨h.os, h.tape, h.output, h.size, h.block⟩
/-- A block known whole. -/
def Blk (w : World) (b : Nat) (c : Array Value) (t : TypeId) : Prop := w.heap[b]? = some (.cells c t (0, 0))
section
variable {w w' : World} {b : Nat} {c : Array Value} {t : TypeId}
theorem Blk.cell (h : Blk w b c t) (j : Nat) : w.cell? ⟨b, j, none⟩ = c[j]? := by
  unfold Blk at h; simp [World.cell?, h]
theorem Blk.froz (h : Blk w b c t) (j : Nat) : w.frozen? ⟨b, j, none⟩ = false := by
  unfold Blk at h; simp [World.frozen?, h]
theorem Blk.lt (h : Blk w b c t) : b < w.heap.size := (Array.getElem?_eq_some_iff.1 h).1
theorem Blk.ex {l : List Nat} (h : Blk w b c t) (hx : Ex l w w') (hl : b ∉ l) : Blk w' b c t := (hx.block b h.lt hl).trans h
theorem Blk.drew (h : Blk w b c t) : Blk w.drew b c t := h
theorem Blk.alloc (h : Blk w b c t) (o : Obj) : Blk (w.alloc o) b c t := (Below.heap_alloc w o b h.lt).trans h
theorem Blk.new (w : World) (c : Array Value) (t : TypeId) : Blk (w.alloc (.cells c t)) w.heap.size c t := heap_alloc_new w _
theorem Blk.set (h : Blk w b c t) (j : Nat) (v : Value) : Blk (w.setCell ⟨b, j, none⟩ v) b (c.setIfInBounds j v) t := heap_setCell_same w b j c t v h
theorem Blk.set_other (h : Blk w b c t) {p : Addr} (hp : b ≠ p.block) (v : Value) : Blk (w.setCell p v) b c t := (Below.heap_setCell w p v b hp).trans h
theorem Blk.range (h : Blk w b c t) (o : Nat) (xs : List Value) (hx : ∀ j v, xs[j]? = some v → c[o + j]? = some v) : w.rangeAt b o xs := fun j v hv => by rw [h.cell]; exact hx j v hv
theorem Blk.range0 (h : Blk w b c t) : w.rangeAt b 0 c.toList := h.range 0 _ (fun j v hv => by simpa using hv)
theorem Blk.ne_map {P : Program} {kt : TypeId} {m : Nat} {f} (h : Blk w b c t) (hm : KMap P kt w m f) : m ≠ b := by
  rintro rfl
  obtain ⟨es, clock, hb, _⟩ := hm
  rw [h] at hb; cases hb
end
end Go.Ad
namespace Go.Ad
theorem rangeAt_setCell {w : World} {b o : Nat} {cs : List Value} (h : w.rangeAt b o cs) {p : Addr} (hp : b ≠ p.block) (v : Value) : (w.setCell p v).rangeAt b o cs := fun j x hx => by
  rw [World.cell?_setCell_other _ _ _ _ (by rintro rfl; exact hp rfl)]; exact h j x hx
end Go.Ad
namespace Go.Ad
section
variable {P : Program} {ops : Array Oper} {w w' : World} {Q : Exit → Act → World → Prop} {a : Act} {o : Oper} {rest : List Oper} {v p z : Value} {ty : TypeId} {x y : Operand}
theorem L_val (hg : o.guard = none) (hr : (execOp a.eval o).run P w = .ok (.value v) w') (h : wpList P ops Q rest (a.put o.dst v) w') : wpList P ops Q (o :: rest) a w := by
  refine wpList_plain hg fun K hK => ?_
  simp only [Oper.wp, hr, Oper.upon]
  exact hK _ _ h
theorem L_skip (hg : o.guard = none) (hr : (execOp a.eval o).run P w = .ok .skip w') (h : wpList P ops Q rest (a.put o.dst undef) w') : wpList P ops Q (o :: rest) a w := by
  refine wpList_plain hg fun K hK => ?_
  simp only [Oper.wp, hr, Oper.upon]
  exact hK _ _ h
theorem ex_alloc (ho : o.op = .alloc ty) (hz : (zeroValue ty).run P w = .ok z w) : (execOp a.eval o).run P w = .ok (.value (.pointer (some ⟨w.heap.size, 0, none⟩))) (w.alloc (.cells z.cells ty)) := by
  unfold execOp
  simp [ho, Instr.alloc, hz, newVar, newRow, Result.andThen]
theorem ex_store (ho : o.op = .store ty x y) (hx : a.eval x = p) (hy : a.eval y = v) (h : (Instr.storeAt ty p v).run P w = .ok () w') : (execOp a.eval o).run P w = .ok .skip w' := by
  unfold execOp
  simp only [ho, hx, hy, Sem.run_bind, h, Result.andThen_ok, Sem.run_pure]
end
end Go.Ad
namespace Go.Ad
section
variable {P : Program} {w w' : World} {a : Act} {o : Oper} {v p z : Value} {ty e : TypeId} {x y : Operand}
theorem madeCells_one (z : Value) (n : Nat) : madeCells #[z] n = Array.replicate n z := by
  apply Array.ext'
  rw [toList_madeCells_one]; simp
/-- 'make([]T, n)', an element one cell. -/
theorem ex_make1 (ho : o.op = .makeSlice ty x y) {kl kc : IntKind} {n : Int} (hx : a.eval x = .int kl n) (hy : a.eval y = .int kc n) (ht : P.underlying ty = some (.slice e)) {bytes : Nat}
    (hi : (P.info? e).map (fun i => (i.zero, i.size, i.bytes)) = some (some z, 1, bytes)) (hz1 : z.cells = #[z]) (h0 : 0 ≤ n) (hb : (bytes : Int) * n ≤ 281474976710656) (h63 : n ≤ 9223372036854775807) :
    (execOp a.eval o).run P w = .ok (.value (.slice (some ⟨w.heap.size, 0, none⟩) n.toNat n.toNat)) (w.alloc (.cells (Array.replicate n.toNat z) e)) := by
  obtain ⟨i, hi1, hi2, hi3, hi4⟩ := info_parts hi
  have := run_make (P := P) w ty e i z ht hi1 hi2 kl kc n n h0 (by omega) (by rw [hi4]; exact hb) h63
  unfold execOp
  simp only [ho, hx, hy, Sem.run_bind, this, Result.andThen_ok, Sem.run_pure, hi3, Nat.mul_one, hz1, madeCells_one]
end
end Go.Ad
namespace Go.Ad
/-- Behind what changes the call's own blocks alone. -/
theorem Ex.own {l s : List Nat} {a b c : World} (h : Ex s a b) (k : Ex l b c) (hl : ∀ i ∈ l, i ∈ s ∨ a.heap.size ≤ i) : Ex s a c :=
  ⟨k.os.trans h.os, k.tape.trans h.tape, k.output.trans h.output, Nat.le_trans h.size k.size, fun i hi hs =>
    (k.block i (Nat.lt_of_lt_of_le hi h.size) (fun hm => by rcases hl i hm with h1 | h1; exact hs h1; omega)).trans (h.block i hi hs)⟩
end Go.Ad
namespace Go.Ad
theorem tmod_neg {n k : Int} (hk : 0 < k) (h : n.tmod k < 0) : n.tmod k + k = n % k := by
  have h1 := Int.tmod_eq_emod (a := n) (b := k)
  have h2 := Int.emod_nonneg n (by omega : k ≠ 0)
  split at h1 <;> omega
theorem tmod_nonneg {n k : Int} (hk : 0 < k) (h : 0 ≤ n.tmod k) : n.tmod k = n % k := by
  have h1 := Int.tmod_eq_emod (a := n) (b := k)
  have h3 := Int.emod_lt_of_pos n hk
  split at h1
  · omega
  · omega
theorem ret_int {k : IntKind} {a b : Int} (h : a = b) : Ending.returned (.int k a) = .returned (.int k b) := by rw [h]
open Go.RowKit in
theorem wrap64_id {a : Int} (h1 : -9223372036854775808 ≤ a) (h2 : a ≤ 9223372036854775807) : wrap64 a = a := by unfold wrap64; omega
end Go.Ad
namespace Go.Ad
section
variable {P : Program} {ops : Array Oper} {w w' : World} {Q : Exit → Act → World → Prop} {a : Act} {o : Oper} {rest : List Oper} {v : Value}
/-- As 'L_val', at an operation with a guard. -/
theorem G_val (hg : Region.wanted o (yielded ops a.tmps) = true) (hr : (execOp a.eval o).run P w = .ok (.value v) w') (h : wpList P ops Q rest (a.put o.dst v) w') : wpList P ops Q (o :: rest) a w := by
  refine wpList_step fun K hK => ?_
  rw [if_pos hg]
  simp only [Oper.wp, hr, Oper.upon]
  exact hK _ _ h
end
end Go.Ad
namespace Go.Ad
/-! ### What an argument's reading says of its cells -/
theorem mapM_at {α β : Type} {f : α → Option β} : ∀ {l : List α} {r : List β}, l.mapM f = some r → r.length = l.length ∧ ∀ (i : Nat) (x : α), l[i]? = some x → ∃ y, r[i]? = some y ∧ f x = some y
  | [], r, h => by
    simp at h; subst h; simp
  | x :: l, r, h => by
    simp only [List.mapM_cons, Option.bind_eq_bind, Option.bind_eq_some_iff] at h
    obtain ⟨y, hy, r', hr', hh⟩ := h
    simp only [Option.pure_def, Option.some.injEq] at hh
    subst hh
    obtain ⟨h1, h2⟩ := mapM_at hr'
    refine ⟨by simp [h1], fun i z hz => ?_⟩
    cases i with
    | zero => simp at hz; subst hz; exact ⟨y, by simp, hy⟩
    | succ i => simp at hz ⊢; exact h2 i z hz
section
variable {H : Type} {enc : TypeId × Value → H} {P : Program} {W : World} {base : Nat} {sp : Nat → Bool} {held : Bool}
theorem cells?_inv {a : Addr} {n : Nat} {cs : List Value} (h : W.cells? base a n = some cs) : base ≤ a.block ∧ cs.length = n ∧ ∀ i, i < n → W.cell? (a.add i) = cs[i]? := by
  unfold World.cells? at h
  split at h
  · rename_i hb
    obtain ⟨h1, h2⟩ := mapM_at h
    refine ⟨hb, by simpa using h1, fun i hi => ?_⟩
    obtain ⟨y, hy, hc⟩ := h2 i i (by simp [hi])
    rw [hy, hc]
  · cases h
/-- A slice's reading: nil, or so many elements, each of whose cells reads. -/
theorem slice_inv {fuel : Nat} {t e : TypeId} (ht : P.underlying t = some (.slice e)) {a : Option Addr} {len cap : Nat} {x : DataW H × List MemPlace}
    (h : DataW.trod enc P W base sp held fuel t [.slice a len cap] = some x) :
    (a = none ∧ len = 0 ∧ cap = 0 ∧ x.1 = .nil) ∨ ∃ (ad : Addr) (ds rest : List (DataW H)) (fuel' : Nat), a = some ad ∧ len ≤ cap ∧ cap ≤ maxLen ∧ x.1 = .slice ds rest ∧ ds.length = len ∧ (sp ad.block = true → rest.length = cap - len) ∧
      ∀ i, i < len → ∃ cs d ps, W.cells? base (ad.add (i * P.cellsOf e)) (P.cellsOf e) = some cs ∧ DataW.trod enc P W base sp held fuel' e cs = some (d, ps) ∧ ds[i]? = some d := by
  cases fuel with
  | zero => simp [DataW.trod] at h
  | succ n =>
    unfold DataW.trod at h
    rw [ht] at h
    cases a with
    | none =>
      left
      cases len with
      | zero =>
        cases cap with
        | zero => simp at h; subst h; simp
        | succ _ => simp at h
      | succ _ => simp at h
    | some ad =>
      right
      simp only at h
      split at h
      · rename_i hc
        obtain ⟨h1, h2, h3⟩ := hc
        simp only [Option.bind_eq_some_iff, Option.map_eq_some_iff] at h
        obtain ⟨es, hes, rest, hrest, rfl⟩ := h
        obtain ⟨g1, g2⟩ := mapM_at hes
        refine ⟨ad, es.map (·.1), rest.map (·.1), n, rfl, h2, h3, rfl, by simpa using g1, fun hs => ?_, fun i hi => ?_⟩
        · rw [if_pos hs] at hrest
          have := (mapM_at hrest).1
          simpa using this
        · obtain ⟨y, hy, hf⟩ := g2 i i (by simp [hi])
          obtain ⟨cs, hcs, hd⟩ := Option.bind_eq_some_iff.1 hf
          exact ⟨cs, y.1, y.2, hcs, hd, by simp [hy]⟩
      · cases h
/-- An element's cells lie in a block that is there. -/
theorem spot_of_cell {ad : Addr} {v : Value} (h : W.cell? ad = some v) : ad.spot = none := by
  unfold World.cell? at h
  split at h
  · split at h
    · cases h
    · rename_i hs; simpa using hs
  · cases h
/-- A slice of elements of one cell each: its cells are a range. -/
theorem slice_range {fuel : Nat} {t e : TypeId} (ht : P.underlying t = some (.slice e)) (he : P.cellsOf e = 1) {a : Option Addr} {len cap : Nat} {x : DataW H × List MemPlace}
    (h : DataW.trod enc P W base sp held fuel t [.slice a len cap] = some x) :
    ∃ (vs : List Value) (fuel' : Nat), vs.length = len ∧ len ≤ maxLen ∧ (∀ v ∈ vs, ∃ y, DataW.trod enc P W base sp held fuel' e [v] = some y) ∧
      (vs = [] ∨ ∃ b o, a = some ⟨b, o, none⟩ ∧ b < W.heap.size ∧ W.rangeAt b o vs) := by
  rcases slice_inv ht h with ⟨_, rfl, _, _⟩ | ⟨ad, ds, rest, fuel', rfl, h1, h2, _, hl, _, h3⟩
  · exact ⟨[], 0, rfl, by simp [maxLen], by simp, .inl rfl⟩
  · have hk : ∀ i, i < len → ∃ v, W.cell? (ad.add i) = some v ∧ ∃ y, DataW.trod enc P W base sp held fuel' e [v] = some y := fun i hi => by
      obtain ⟨cs, d, ps, c1, c2, _⟩ := h3 i hi
      rw [he, Nat.mul_one] at c1
      obtain ⟨_, k1, k2⟩ := cells?_inv c1
      match cs, k1 with
      | [v], _ =>
        have := k2 0 (by omega)
        refine ⟨v, by simpa [Addr.add] using this, _, c2⟩
    have hv : ∃ f : Nat → Value, ∀ i, i < len → W.cell? (ad.add i) = some (f i) ∧ ∃ y, DataW.trod enc P W base sp held fuel' e [f i] = some y :=
      ⟨fun i => if hi : i < len then Classical.choose (hk i hi) else undef, fun i hi => by
        have := Classical.choose_spec (hk i hi)
        simp only [hi, dif_pos]
        exact this⟩
    obtain ⟨f, hf⟩ := hv
    refine ⟨(List.range len).map f, fuel', by simp, Nat.le_trans h1 h2, fun v hv => ?_, ?_⟩
    · obtain ⟨i, hi, rfl⟩ := List.mem_map.1 hv
      exact (hf i (by simpa using hi)).2
    · by_cases h0 : len = 0
      · left; simp [h0]
      · right
        have c0 := (hf 0 (by omega)).1
        have hs : ad.spot = none := by have := spot_of_cell c0; simpa [Addr.add] using this
        obtain ⟨b, o, s⟩ := ad
        simp only at hs
        subst hs
        refine ⟨b, o, rfl, ?_, fun j v hv => ?_⟩
        · have := block_lt_of_cell c0; simpa [Addr.add] using this
        · have hj : j < len := by have := (List.getElem?_eq_some_iff.1 hv).1; simpa using this
          have := (hf j hj).1
          rw [Addr.add_mid] at this
          rw [this]; simp [hj] at hv; rw [hv]
end
/-- A slice of bools that is only read. -/
def BoolsAt (w : World) (a : Option Addr) (bs : List Bool) : Prop := bs = [] ∨ ∃ b o, a = some ⟨b, o, none⟩ ∧ b < w.heap.size ∧ w.rangeAt b o (bs.map .bool)
theorem bools_of {H : Type} {enc : TypeId × Value → H} {P : Program} {W : World} {base : Nat} {sp : Nat → Bool} {held : Bool} {fuel : Nat} {t e : TypeId} (ht : P.underlying t = some (.slice e)) (he : P.cellsOf e = 1) (hb : P.underlying e = some .bool)
    {a : Option Addr} {len cap : Nat} {x : DataW H × List MemPlace} (h : DataW.trod enc P W base sp held fuel t [.slice a len cap] = some x) : ∃ bs : List Bool, bs.length = len ∧ len ≤ maxLen ∧ BoolsAt W a bs := by
  obtain ⟨vs, f', h1, h2, h3, h4⟩ := slice_range ht he h
  have : ∃ bs : List Bool, vs = bs.map .bool := by
    clear h1 h4
    induction vs with
    | nil => exact ⟨[], rfl⟩
    | cons v r ih =>
      obtain ⟨bs, rfl⟩ := ih (fun v hv => h3 v (by simp [hv]))
      obtain ⟨y, hy⟩ := h3 v (by simp)
      obtain ⟨b, hb1, _⟩ := DataW.trod_bool hb hy
      exact ⟨b :: bs, by simpa using hb1⟩
  obtain ⟨bs, rfl⟩ := this
  refine ⟨bs, by simpa using h1, h2, ?_⟩
  rcases h4 with h4 | h4
  · left; simpa using h4
  · right; exact h4
end Go.Ad
namespace Go.Ad
section
variable {P : Program} {ops : Array Oper} {Q : Exit → Act → World → Prop} {S : World → Prop}

/-- Whatever order is picked from here on; behind each operation that T names S holds. -/
def wpAnyT (P : Program) (ops : Array Oper) (Q : Exit → Act → World → Prop) (S : World → Prop) (T : Nat → Bool) : Nat → Array Bool → Act → World → Prop
  | 0, listed, a, w => Region.ready .any ops listed = [] ∧ Q .normal a w
  | fuel + 1, listed, a, w =>
    (Region.ready .any ops listed = [] → Q .normal a w) ∧
    ∀ i ∈ Region.ready .any ops listed, wpOp P ops Q i (fun a' w' => (T i = true → S w') ∧ wpAnyT P ops Q S T fuel (listed.setIfInBounds i true) a' w') a w

variable {T : Nat → Bool}
theorem wpAny_of_T : ∀ (fuel : Nat) (listed : Array Bool) (a : Act) (w : World), wpAnyT P ops Q S T fuel listed a w → wpAny P .any ops Q fuel listed a w
  | 0, _, _, _, h => h
  | fuel + 1, _, _, _, h => ⟨h.1, fun i hi => wpOp_mono (fun a' w' h' => wpAny_of_T fuel _ a' w' h'.2) (h.2 i hi)⟩

/-- j waits for i, be it through others. -/
def waits (ops : Array Oper) : Nat → Nat → Nat → Bool
  | 0, _, _ => false
  | n + 1, j, i => match ops[j]? with
    | some oj => oj.after.any fun e => Region.binds .any e && (e.on == i || waits ops n e.on i)
    | none => false

/-- What has come up had all that it waits for. -/
def Closed (ops : Array Oper) (listed : Array Bool) : Prop := ∀ (j : Nat) (oj : Oper), ops[j]? = some oj → listed.getD j false = true → ∀ e ∈ oj.after, Region.binds .any e = true → listed.getD e.on false = true

theorem Closed.waits {listed : Array Bool} (hc : Closed ops listed) {i : Nat} : ∀ (n j : Nat), waits ops n j i = true → (∀ oj, ops[j]? = some oj → ∀ e ∈ oj.after, Region.binds .any e = true → listed.getD e.on false = true) → listed.getD i false = true
  | 0, _, h, _ => by simp [Go.Ad.waits] at h
  | n + 1, j, h, hall => by
    unfold Go.Ad.waits at h
    split at h
    · rename_i oj hoj
      obtain ⟨e, he, hb⟩ := Array.any_eq_true'.1 h
      simp only [Bool.and_eq_true, Bool.or_eq_true, beq_iff_eq] at hb
      have h1 := hall oj hoj e he hb.1
      rcases hb.2 with h2 | h2
      · rw [← h2]; exact h1
      · exact hc.waits n e.on h2 (fun ok hok => hc e.on ok hok h1)
    · cases h

theorem Closed.set {listed : Array Bool} (hc : Closed ops listed) {i : Nat} (hi : i ∈ Region.ready .any ops listed) : Closed ops (listed.setIfInBounds i true) := by
  obtain ⟨_, oi, hoi, hall⟩ := mem_ready.1 hi
  intro j oj hoj hl e he hb
  by_cases hij : i = j
  · subst hij
    have : oj = oi := Option.some.inj (hoj.symm.trans hoi)
    subst this
    exact getD_set_true (hall e he hb)
  · rw [getD_set_ne false hij] at hl
    exact getD_set_true (hc j oj hoj hl e he hb)

theorem not_ready_of_waits {i j n : Nat} {listed : Array Bool} (hc : Closed ops listed) (hw : waits ops n j i = true) (hi : i ∈ Region.ready .any ops listed) : j ∉ Region.ready .any ops listed := by
  intro hj
  obtain ⟨_, oj, hoj, hall⟩ := mem_ready.1 hj
  have h1 := hc.waits n j hw (fun ok hok e he hb => by
    have : ok = oj := Option.some.inj (hok.symm.trans hoj)
    subst this
    exact hall e he hb)
  have h0 := (mem_ready.1 hi).1
  rcases Nat.lt_or_ge i listed.size with h' | h'
  · simp [h'] at h0 h1; rw [h0] at h1; cases h1
  · simp [Array.getElem?_eq_none h'] at h1

theorem wpAnyT_first {i : Nat} {oi : Oper} {v : Value} (hi : ops[i]? = some oi) (hsel : ∀ (j : Nat) (o : Oper) cs b, ops[j]? = some o → o.op ≠ .select cs b)
    (hT : ∀ j, T j = true ∨ waits ops ops.size j i = true ∨ j = i)
    (hQ : ∀ c a w, Q (.panic c) (a.put oi.dst v) w → Q (.panic c) a w) :
    ∀ (fuel : Nat) (listed : Array Bool) (a : Act) (w : World), Closed ops listed →
      (∀ j oj, ops[j]? = some oj → j ≠ i → listed.getD j true = false → (∀ e ∈ oj.after, Region.binds .any e = true → e.on ≠ i) → oi.apart ops oj = true) →
      i ∈ Region.ready .any ops listed → YieldsIf P ops S oi v a → S w →
      wpAnyT P ops Q S T fuel (listed.setIfInBounds i true) (a.put oi.dst v) w → wpAnyT P ops Q S T (fuel + 1) listed a w := by
  intro fuel
  induction fuel with
  | zero =>
    intro listed a w _ _ hr hy hS H
    refine ⟨fun h => (by rw [h] at hr; cases hr), fun j hj => ?_⟩
    by_cases hji : j = i
    · subst hji; exact hy.wpOp hi hS ⟨fun _ => hS, H⟩
    · have := ready_mono hj hji
      rw [H.1] at this
      cases this
  | succ fuel ih =>
    intro listed a w hc hfree hr hy hS H
    refine ⟨fun h => (by rw [h] at hr; cases hr), fun j hj => ?_⟩
    by_cases hji : j = i
    · subst hji; exact hy.wpOp hi hS ⟨fun _ => hS, H⟩
    · have h1 := H.2 j (ready_mono hj hji)
      have hTj : T j = true := by
        rcases hT j with h | h | h
        · exact h
        · exact absurd hj (not_ready_of_waits hc h hr)
        · exact absurd h hji
      obtain ⟨hjun, oj, hoj, hall⟩ := mem_ready.1 hj
      have hnot : ∀ e ∈ oj.after, Region.binds .any e = true → e.on ≠ i := fun e he hb heq => by
        have h1 := hall e he hb
        have h0 := (mem_ready.1 hr).1
        rw [heq] at h1
        rcases Nat.lt_or_ge i listed.size with h' | h'
        · simp [h'] at h0 h1; rw [h0] at h1; cases h1
        · simp [Array.getElem?_eq_none h'] at h1
      have h2 := wpOp_putIf hoj (hfree j oj hoj hji hjun hnot) (fun cs b => hsel i oi cs b hi) (fun cs b => hsel j oj cs b hoj) hQ hy h1
      have hfree' : ∀ k ok, ops[k]? = some ok → k ≠ i → (listed.setIfInBounds j true).getD k true = false →
          (∀ e ∈ ok.after, Region.binds .any e = true → e.on ≠ i) → oi.apart ops ok = true := fun k ok hk hki hun hno => by
        refine hfree k ok hk hki ?_ hno
        by_cases hjk : j = k
        · subst hjk; exact hjun
        · rw [getD_set_ne true hjk] at hun; exact hun
      refine wpOp_mono (fun a' w' h3 => ⟨h3.2.1, ih (listed.setIfInBounds j true) a' w' (hc.set hj) hfree' (ready_mono hr (Ne.symm hji)) h3.1 (h3.2.1 hTj) ?_⟩) h2
      rw [Array.setIfInBounds_comm _ _ hji]
      exact h3.2.2

/-- The region's operations in an order of ours: (number, is it taken first?). -/
def wpOrd (P : Program) (ops : Array Oper) (Q : Exit → Act → World → Prop) (S : World → Prop) (T : Nat → Bool) : List (Nat × Bool) → Act → World → Prop
  | [], a, w => Q .normal a w
  | (i, true) :: r, a, w => ∃ o v, ops[i]? = some o ∧ YieldsIf P ops S o v a ∧ wpOrd P ops Q S T r (a.put o.dst v) w
  | (i, false) :: r, a, w => wpOp P ops Q i (fun a' w' => (T i = true → S w') ∧ wpOrd P ops Q S T r a' w') a w

def okOrd (ops : Array Oper) (T : Nat → Bool) : List (Nat × Bool) → Bool → Array Bool → Bool
  | [], _, listed => (Region.ready .any ops listed).isEmpty
  | (i, true) :: r, s, listed => s && Region.free .any ops listed i && (Region.ready .any ops listed).contains i && ((List.range ops.size).all fun j => T j || waits ops ops.size j i || j == i) && okOrd ops T r s (listed.setIfInBounds i true)
  | (i, false) :: r, s, listed => (Region.ready .any ops listed == [i]) && okOrd ops T r (s && T i) (listed.setIfInBounds i true)

theorem wpOrd_sound (hs : Region.noSelect ops = true) (hT : ∀ j, ops.size ≤ j → T j = true) (hQ : ∀ c a d v w, Q (.panic c) (a.put d v) w → Q (.panic c) a w) :
    ∀ (l : List (Nat × Bool)) (s : Bool) (listed : Array Bool) (a : Act) (w : World), Closed ops listed → okOrd ops T l s listed = true → (s = true → S w) → wpOrd P ops Q S T l a w → wpAnyT P ops Q S T l.length listed a w
  | [], _, listed, a, w, _, hok, _, h => ⟨by simpa [okOrd] using hok, h⟩
  | (i, true) :: r, s, listed, a, w, hc, hok, hS, h => by
    simp only [okOrd, Bool.and_eq_true] at hok
    obtain ⟨⟨⟨⟨h1, h2⟩, h3⟩, h4⟩, h5⟩ := hok
    subst h1
    obtain ⟨o, v, ho, hy, hr⟩ := h
    refine wpAnyT_first ho (Region.noSelect_spec hs) (fun j => ?_) (fun c a w => hQ c a _ _ w) r.length listed a w hc (Region.free_spec ho h2) (by simpa using h3) hy (hS rfl) (wpOrd_sound hs hT hQ r true _ _ _ (hc.set (by simpa using h3)) h5 hS hr)
    rcases Nat.lt_or_ge j ops.size with hj | hj
    · have := List.all_eq_true.1 h4 j (List.mem_range.2 hj)
      simp only [Bool.or_eq_true, beq_iff_eq] at this
      rcases this with (h | h) | h
      · exact .inl h
      · exact .inr (.inl h)
      · exact .inr (.inr h)
    · exact .inl (hT j hj)
  | (i, false) :: r, s, listed, a, w, hc, hok, hS, h => by
    simp only [okOrd, Bool.and_eq_true, beq_iff_eq] at hok
    obtain ⟨h1, h2⟩ := hok
    refine ⟨fun h0 => (by rw [h1] at h0; cases h0), fun j hj => ?_⟩
    have hc' := hc.set hj
    rw [h1] at hj
    simp only [List.mem_singleton] at hj
    subst hj
    refine wpOp_mono (fun a' w' h3 => ⟨h3.1, wpOrd_sound hs hT hQ r (s && T j) _ _ _ hc' h2 (fun hh => ?_) h3.2⟩) h
    simp only [Bool.and_eq_true] at hh
    exact h3.1 hh.2

/-- The same with the operations written out. -/
def wpOrdO (P : Program) (ops : Array Oper) (Q : Exit → Act → World → Prop) (S : World → Prop) (T : Nat → Bool) : List (Nat × Bool × Oper) → Act → World → Prop
  | [], a, w => Q .normal a w
  | (_, true, o) :: r, a, w => ∃ v, YieldsIf P ops S o v a ∧ wpOrdO P ops Q S T r (a.put o.dst v) w
  | (i, false, o) :: r, a, w => if Region.wanted o (yielded ops a.tmps) then o.wp P a w (fun a' w' => (T i = true → S w') ∧ wpOrdO P ops Q S T r a' w') Q else (T i = true → S w) ∧ wpOrdO P ops Q S T r (a.put o.dst undef) w
def mkOrd (ops : Array Oper) (l : List (Nat × Bool)) : List (Nat × Bool × Oper) := l.filterMap fun p => (ops[p.1]?).map fun o => (p.1, p.2, o)
theorem wpOrd_of_O : ∀ (l : List (Nat × Bool)) (a : Act) (w : World), l.all (fun p => decide (p.1 < ops.size)) = true → wpOrdO P ops Q S T (mkOrd ops l) a w → wpOrd P ops Q S T l a w
  | [], _, _, _, h => h
  | (i, b) :: r, a, w, hl, h => by
    simp only [List.all_cons, Bool.and_eq_true, decide_eq_true_eq] at hl
    obtain ⟨hi, hr⟩ := hl
    have ho : ops[i]? = some ops[i] := Array.getElem?_eq_getElem hi
    have hm : mkOrd ops ((i, b) :: r) = (i, b, ops[i]) :: mkOrd ops r := by simp [mkOrd, ho]
    rw [hm] at h
    cases b with
    | true =>
      obtain ⟨v, h1, h2⟩ := h
      exact ⟨ops[i], v, ho, h1, wpOrd_of_O r _ _ hr h2⟩
    | false =>
      show wpOp P ops Q i _ a w
      simp only [wpOrdO] at h
      simp only [wpOp, ho]
      split
      · rename_i hw
        rw [if_pos hw] at h
        exact .inl (Oper.wp_mono (fun a' w' hh => ⟨hh.1, wpOrd_of_O r _ _ hr hh.2⟩) h)
      · rename_i hw
        rw [if_neg hw] at h
        exact ⟨h.1, wpOrd_of_O r _ _ hr h.2⟩

/-- A REGION THAT DRAWS ITS ORDER, walked in one order of ours. -/
theorem wp_region_ord {id : Nat} {a : Act} {w : World} (S : World → Prop) (E : List Nat) (l : List (Nat × Bool)) (hm : P.follows .mixedOrders = true)
    (hs : Region.noSelect ops = true) (hok : okOrd ops (fun j => !E.contains j) l true (Array.replicate ops.size false) = true) (hE : (E.all (· < ops.size) && l.all (fun p => decide (p.1 < ops.size))) = true) (hl : l.length = ops.size)
    (hQ : ∀ c a d v w, Q (.panic c) (a.put d v) w → Q (.panic c) a w) (hS : S w.drew)
    (h : wpOrdO P ops Q S (fun j => !E.contains j) (mkOrd ops l) a w.drew) : (Code.region id ops true).wp P Q a w := by
  simp only [Bool.and_eq_true] at hE
  refine wp_region_any hm ?_
  have h1 := wpOrd_sound hs (fun j hj => ?_) hQ l true _ _ _ (fun j oj _ hl => by rw [getD_replicate_false] at hl; cases hl) hok (fun _ => hS) (wpOrd_of_O l _ _ hE.2 h)
  · rw [hl] at h1
    exact wpAny_of_T _ _ _ _ h1
  · simp only [Bool.not_eq_true', List.contains_eq_mem, decide_eq_false_iff_not]
    intro hm
    have := List.all_eq_true.1 hE.1 j hm
    simp at this; omega

/-! ### The steps -/
variable {a : Act} {w w' : World} {i : Nat} {r : List (Nat × Bool × Oper)} {o : Oper} {v : Value}
theorem ord_nil (h : Q .normal a w) : wpOrdO P ops Q S T [] a w := h
/-- Taken first: it yields v in every world that meets S. -/
theorem ord_take (hw : Region.wanted o (yielded ops a.tmps) = true) (hy : ∀ w, S w → (execOp a.eval o).run P w = .ok (.value v) w)
    (h : wpOrdO P ops Q S T r (a.put o.dst v) w) : wpOrdO P ops Q S T ((i, true, o) :: r) a w := ⟨v, .inl ⟨hw, hy⟩, h⟩
/-- Not wanted: passed over. -/
theorem ord_pass (hw : Region.wanted o (yielded ops a.tmps) = false) (h : wpOrdO P ops Q S T r (a.put o.dst undef) w) : wpOrdO P ops Q S T ((i, true, o) :: r) a w := ⟨undef, .inr ⟨hw, rfl⟩, h⟩
/-- The one that may come now. -/
theorem ord_val (hw : Region.wanted o (yielded ops a.tmps) = true) (hr : (execOp a.eval o).run P w = .ok (.value v) w')
    (hS : T i = true → S w') (h : wpOrdO P ops Q S T r (a.put o.dst v) w') : wpOrdO P ops Q S T ((i, false, o) :: r) a w := by
  simp only [wpOrdO, hw, if_true, Oper.wp, hr, Oper.upon]
  exact ⟨hS, h⟩
theorem ord_skip (hw : Region.wanted o (yielded ops a.tmps) = true) (hr : (execOp a.eval o).run P w = .ok .skip w')
    (hS : T i = true → S w') (h : wpOrdO P ops Q S T r (a.put o.dst undef) w') : wpOrdO P ops Q S T ((i, false, o) :: r) a w := by
  simp only [wpOrdO, hw, if_true, Oper.wp, hr, Oper.upon]
  exact ⟨hS, h⟩
/-- A call. -/
theorem ord_enter (hw : Region.wanted o (yielded ops a.tmps) = true) {f : FuncId} {args : Array Value} (hr : (execOp a.eval o).run P w = .ok (.enter f args) w)
    (hc : Calls P f args w (fun e w' => ∃ v, e = .returned v ∧ (T i = true → S w') ∧ wpOrdO P ops Q S T r (a.put o.dst v) w')) : wpOrdO P ops Q S T ((i, false, o) :: r) a w := by
  simp only [wpOrdO, hw, if_true, Oper.wp, hr, Oper.upon]
  refine hc.mono ?_
  rintro e w' ⟨v, rfl, h1, h2⟩
  exact ⟨h1, h2⟩
/-- Not wanted: passed over. -/
theorem ord_none (hw : Region.wanted o (yielded ops a.tmps) = false) (hS : T i = true → S w) (h : wpOrdO P ops Q S T r (a.put o.dst undef) w) : wpOrdO P ops Q S T ((i, false, o) :: r) a w := by
  simp only [wpOrdO, hw, Bool.false_eq_true, if_false]
  exact ⟨hS, h⟩
end
end Go.Ad
namespace Go.Ad
open Go.RowKit
/-- A byte as a cell. -/
abbrev bv (x : UInt8) : Value := .int .u8 (x.toNat : Int)
/-- A slice of bytes that reads as xs; its block, if it has one, is there. -/
def BytesAt (w : World) (a : Option Addr) (len : Nat) (xs : List UInt8) : Prop := xs.length = len ∧ (xs = [] ∨ ∃ b o, a = some ⟨b, o, none⟩ ∧ b < w.heap.size ∧ w.rangeAt b o (xs.map bv))
theorem BytesAt.ex {l : List Nat} {w w' : World} {a : Option Addr} {len : Nat} {xs : List UInt8} (h : BytesAt w a len xs) (hx : Ex l w w') (hl : ∀ b o, a = some ⟨b, o, none⟩ → b ∉ l) : BytesAt w' a len xs := by
  refine ⟨h.1, ?_⟩
  rcases h.2 with h | ⟨b, o, h1, h2, h3⟩
  · exact .inl h
  · exact .inr ⟨b, o, h1, Nat.lt_of_lt_of_le h2 hx.size, rangeAt_ex h3 hx h2 (hl b o h1)⟩
theorem u8_of_wf {n : Int} (h : (Lit.int .u8 n).wf = true) : Value.int .u8 n = bv (UInt8.ofNat n.toNat) := by
  have : 0 ≤ n ∧ n ≤ 255 := by simpa [Lit.wf, IntKind.min, IntKind.max, IntKind.signed, IntKind.bits] using h
  have h2 : n.toNat < 256 := by omega
  simp [bv, UInt8.toNat_ofNat', Nat.mod_eq_of_lt h2]
  omega
theorem bytes_of {H : Type} {enc : TypeId × Value → H} {P : Program} {W : World} {base : Nat} {sp : Nat → Bool} {held : Bool} {fuel : Nat} {t e : TypeId} (ht : P.underlying t = some (.slice e)) (he : P.cellsOf e = 1) (hb : P.underlying e = some (.int .u8))
    {a : Option Addr} {len cap : Nat} {x : DataW H × List MemPlace} (h : DataW.trod enc P W base sp held fuel t [.slice a len cap] = some x) : ∃ bs : List UInt8, len ≤ maxLen ∧ BytesAt W a len bs ∧ (a = none → cap = 0) := by
  have hnc : a = none → cap = 0 := fun ha => by
    rcases slice_inv ht h with ⟨_, _, hc, _⟩ | ⟨ad, _, _, _, rfl, _⟩
    · exact hc
    · cases ha
  obtain ⟨vs, f', h1, h2, h3, h4⟩ := slice_range ht he h
  have : ∃ bs : List UInt8, vs = bs.map bv := by
    clear h1 h4
    induction vs with
    | nil => exact ⟨[], rfl⟩
    | cons v r ih =>
      obtain ⟨bs, rfl⟩ := ih (fun v hv => h3 v (by simp [hv]))
      obtain ⟨y, hy⟩ := h3 v (by simp)
      obtain ⟨n, hn, _, hw⟩ := DataW.trod_int hb hy
      simp only [List.cons.injEq, and_true] at hn
      subst hn
      exact ⟨UInt8.ofNat n.toNat :: bs, by simp [u8_of_wf hw]⟩
  obtain ⟨bs, rfl⟩ := this
  refine ⟨bs, h2, ⟨by simpa using h1, ?_⟩, hnc⟩
  rcases h4 with h4 | h4
  · left; simpa using h4
  · right; exact h4
end Go.Ad
namespace Go.Ad
open Go.RowKit
theorem foldl_push (ns : List UInt8) (s : ByteArray) : (ns.map (fun x => (x.toNat : Int))).foldl (fun r n => r.push (UInt8.ofNat n.toNat)) s = ⟨s.data ++ ns.toArray⟩ := by
  induction ns generalizing s with
  | nil => simp
  | cons x r ih =>
    simp only [List.map_cons, List.foldl_cons, ih]
    simp [ByteArray.push]
/-- 'string(b)'. -/
theorem run_bytes_string {P : Program} {w : World} {src dst e : TypeId} (hs : P.underlying src = some (.slice e)) (he : P.underlying e = some (.int .u8)) (hd : P.underlying dst = some .string)
    {a : Option Addr} {len cap : Nat} {xs : List UInt8} (h : BytesAt w a len xs) : (convert src dst (.slice a len cap)).run P w = .ok (.string ⟨xs.toArray⟩) w := by
  rw [run_convert_bytes_string w src dst e a len cap hs he hd]
  obtain ⟨hl, h⟩ := h
  cases a with
  | none =>
    rcases h with rfl | ⟨b, o, h, _⟩
    · simp [Conv.bytesToString]; rfl
    · cases h
  | some ad =>
    have hload : (loadCells ad len).run P w = .ok ((xs.map (fun x => (x.toNat : Int))).map (Value.int .u8)).toArray w := by
      have e1 : (xs.map (fun x => (x.toNat : Int))).map (Value.int .u8) = xs.map bv := by simp [bv]
      rw [e1]
      have := run_loadCells_list (P := P) w ad (xs.map bv) (fun j v hv => by
        rcases h with rfl | ⟨b, o, h1, _, h2⟩
        · simp at hv
        · cases h1; rw [Addr.add_mid]; exact h2 j v hv)
      simpa [hl] using this
    rw [run_bytesToString w ad len cap _ hload, foldl_push]
    simp
theorem ex_convert {P : Program} {w : World} {a : Act} {o : Oper} {src dst : TypeId} {x : Operand} {v p : Value} (ho : o.op = .convert src dst x) (hx : a.eval x = p) (h : (convert src dst p).run P w = .ok v w) :
    (execOp a.eval o).run P w = .ok (.value v) w := by
  unfold execOp
  simp only [ho, hx, Sem.run_bind, h, Result.andThen_ok, Sem.run_pure]
/-- A builtin that answers. -/
theorem ex_builtin {P : Program} {w w' : World} {a : Act} {o : Oper} {b : Builtin} {args : Array Operand} {ts : Array TypeId} (ho : o.op = .call { callee := .builtin b, args := args, argTypes := ts }) {vs : Array Value} (hx : args.map a.eval = vs)
    {v : Value} (hb : b = .append) (h : (Builtin.append_ ts o.type vs).run P w = .ok v w') : (execOp a.eval o).run P w = .ok (.value v) w' := by
  subst hb
  unfold execOp
  simp only [ho, resolve, invoke, builtin, hx, Sem.run_bind, h, Result.andThen_ok, Sem.run_pure]
theorem ex_buildSlice0 {P : Program} {w : World} {a : Act} {o : Oper} {ty : TypeId} (ho : o.op = .buildSlice ty 0 #[]) {v : Value} {w' : World}
    (h : (Instr.buildSlice ty 0 #[]).run P w = .ok v w') : (execOp a.eval o).run P w = .ok (.value v) w' := by
  unfold execOp
  simp [ho, h, Result.andThen]
end Go.Ad
namespace Go.Ad
open Go.RowKit
theorem bv_one (x : UInt8) : (bv x).oneCell' = true := rfl
/-- 'append(s, b...)' of bytes onto a slice of the call's own. -/
theorem append_bytes {P : Program} {w : World} {base : Nat} {t ty e : TypeId} (ht : P.underlying t = some (.slice e)) (hi : (P.info? e).map (fun i => (i.zero, i.size, i.bytes)) = some (some (.int .u8 0), 1, 1))
    {v : Value} {n : Nat} {ys : List UInt8} (hown : w.ownsRow base e 1 v n (ys.map bv)) {a : Option Addr} {len cap : Nat} {xs : List UInt8} (hx : BytesAt w a len xs) (hcap : a = none → cap = 0)
    (hlen : n + len ≤ 140737488355328) (hbase : base ≤ w.heap.size) :
    ∃ v' w', (Builtin.append_ #[t, t] ty #[v, .slice a len cap]).run P w = .ok v' w' ∧ w'.ownsRow base e 1 v' (n + len) ((ys ++ xs).map bv) ∧ w.grownBy w' v.ownBlock ∧
      (v'.ownBlock = v.ownBlock ∨ v'.ownBlock = some w.heap.size) := by
  obtain ⟨i, hi1, hi2, hi3, hi4⟩ := info_parts hi
  cases a with
  | none =>
    obtain rfl := hcap rfl
    obtain ⟨hl, h | ⟨_, _, h, _⟩⟩ := hx
    · subst h
      simp at hl; subst hl
      refine ⟨v, w, run_append_owned_none (P := P) w base t ty e i 1 ht hi1 v n _ hown, by simpa using hown, ⟨rfl, rfl, rfl, Nat.le_refl _, fun _ _ _ => rfl⟩, .inl rfl⟩
    · cases h
  | some ad =>
    obtain ⟨hl, h⟩ := hx
    obtain ⟨v', w', h1, h2, h3, _, h5⟩ := run_append_own_at (P := P) w base t ty e i (.int .u8 0) 1 1 ht hi1 hi2 hi3 hi4 rfl (by omega) v n _ hown ad len cap (xs.map bv) (by simp [hl])
      (fun j u hu => by
        rcases h with rfl | ⟨b, o, hh, _, hr⟩
        · simp at hu
        · cases hh; rw [Addr.add_mid]; exact hr j u hu)
      (fun u hu => by obtain ⟨x, _, rfl⟩ := List.mem_map.1 hu; rfl) (by unfold maxLen; omega) (by omega) hbase
    exact ⟨v', w', h1, by simpa using h2, h3, h5⟩
/-- An own slice of bytes that is not empty reads so. -/
theorem own_bytes {w : World} {base : Nat} {e : TypeId} {v : Value} {n : Nat} {ys : List UInt8} (h : w.ownsRow base e 1 v n (ys.map bv)) (hn : 0 < n) :
    ∃ g cap, v = .slice (some ⟨g, 0, none⟩) n cap ∧ base ≤ g ∧ n ≤ cap ∧ BytesAt w (some ⟨g, 0, none⟩) n ys := by
  obtain ⟨hl, ⟨_, h0⟩ | ⟨g, cap, cur, rfl, h1, h2, h3, _, h5, h6⟩⟩ := h
  · omega
  · refine ⟨g, cap, rfl, h1, h3, by simpa using hl, .inr ⟨g, 0, rfl, (Array.getElem?_eq_some_iff.1 h2).1, fun j v hv => ?_⟩⟩
    rw [cell_of_row w g (0 + j) cur e (0, 0) h2, Nat.zero_add]
    rw [← h6, List.getElem?_take] at hv
    split at hv
    · simpa using hv
    · cases hv
theorem Ex.of_own {w w' : World} {v : Value} (h : w.grownBy w' v.ownBlock) {l : List Nat} (hl : ∀ k, v.ownBlock = some k → k ∈ l) : Ex l w w' :=
  ⟨h.os, h.tape, h.output, h.size, fun k hk hn => h.block k hk (fun e => hn (hl k e.symm))⟩
end Go.Ad
namespace Go.Ad
open Go.RowKit
/-- .. at the operation. -/
theorem G_append_bytes {P : Program} {ops : Array Oper} {w : World} {Q : Exit → Act → World → Prop} {ac : Act} {o : Oper} {rest : List Oper} {t e : TypeId} {x y : Operand} (hg : Region.wanted o (yielded ops ac.tmps) = true)
    (ho : o.op = .call { callee := .builtin .append, args := #[x, y], argTypes := #[t, t] }) (ht : P.underlying t = some (.slice e)) (hi : (P.info? e).map (fun i => (i.zero, i.size, i.bytes)) = some (some (.int .u8 0), 1, 1))
    {v : Value} {a : Option Addr} {len cap : Nat} (hv : ac.eval x = v) (hy : ac.eval y = .slice a len cap)
    {base n : Nat} {ys xs : List UInt8} (hown : w.ownsRow base e 1 v n (ys.map bv)) (hx : BytesAt w a len xs) (hcap : a = none → cap = 0)
    (hlen : n + len ≤ 140737488355328) (hbase : base ≤ w.heap.size)
    (h : ∀ v' w', w'.ownsRow base e 1 v' (n + len) ((ys ++ xs).map bv) → w.grownBy w' v.ownBlock → (v'.ownBlock = v.ownBlock ∨ v'.ownBlock = some w.heap.size) → wpList P ops Q rest (ac.put o.dst v') w') :
    wpList P ops Q (o :: rest) ac w := by
  obtain ⟨v', w', h1, h2, h3, h4⟩ := append_bytes (P := P) (ty := o.type) ht hi hown hx hcap hlen hbase
  refine G_val hg (ex_builtin ho (vs := #[v, .slice a len cap]) (by simp [hv, hy]) rfl h1) (h v' w' h2 h3 h4)
end Go.Ad
namespace Go.Ad
theorem all_bv (ys : List UInt8) : ((ys.map bv).toArray).all (·.oneCell') = true := by
  rw [Array.all_eq_true_iff_forall_mem]
  intro v hv
  simp only [List.mem_toArray, List.mem_map] at hv
  obtain ⟨x, _, rfl⟩ := hv
  rfl
theorem Blk.bytes {w : World} {b : Nat} {t : TypeId} {ys : List UInt8} (h : Blk w b (ys.map bv).toArray t) {n : Nat} (hn : ys.length = n) : BytesAt w (some ⟨b, 0, none⟩) n ys :=
  ⟨hn, .inr ⟨b, 0, rfl, h.lt, by simpa using h.range0⟩⟩
end Go.Ad
namespace Go.Ad
section
variable {P : Program} {a : Act} {w : World} {o : Oper}
/-- A call of a Go function. -/
theorem ex_call {f : FuncId} {fn : Func} {args : List Operand} {ts : Array TypeId} (ho : o.op = .call { callee := .value (.func f), args := args.toArray, argTypes := ts }) (hf : P.funcs[f]? = some fn) (hb : fn.body.isNone = false)
    (hn : (fn.name == "runtime.NumGoroutine") = false) {vs : List Value} (hv : args.map a.eval = vs) : (execOp a.eval o).run P w = .ok (.enter f vs.toArray) w := by
  have h1 : ¬ fn.name = "runtime.NumGoroutine" := by intro h; simp [h] at hn
  have h2 : ¬ fn.body = none := by intro h; simp [h] at hb
  unfold execOp
  simp [ho, resolve, Act.eval, Deferred.ofValue, invoke, callFunc, hf, ← hv, Result.andThen, h1, h2]
end
end Go.Ad
namespace Go.Ad
section
variable {H : Type} {enc : TypeId × Value → H} {P : Program} {W : World} {base : Nat} {sp : Nat → Bool} {held : Bool}
theorem slice_reach {fuel : Nat} {t e : TypeId} (ht : P.underlying t = some (.slice e)) {a : Option Addr} {len cap : Nat} {x : DataW H × List MemPlace}
    (h : DataW.trod enc P W base sp held fuel t [.slice a len cap] = some x) {ts : List TypeId} {ds : List (DataW H)} {j : Nat} (hsz : (DataW.weightsEach P ts ds).all (· ≤ reachBytes) = true)
    (htj : ts[j]? = some t) (hdj : ds[j]? = some x.1) : len * P.bytesOf e ≤ 140737488351232 := by
  rcases slice_inv ht h with ⟨_, rfl, _, _⟩ | ⟨ad, es, rest, fuel', rfl, h1, h2, hx, hl, _, h3⟩
  · simp
  · rw [hx] at hdj
    have := sized_slice hsz htj hdj ht
    have h4 : len * P.bytesOf e ≤ (es.length + rest.length) * P.bytesOf e := Nat.mul_le_mul_right _ (by omega)
    exact Nat.le_trans h4 (by simpa [reachBytes] using this)
/-- One cell that reads at a slice's type is a slice. -/
theorem slice_shape {fuel : Nat} {t e : TypeId} (ht : P.underlying t = some (.slice e)) {v : Value} {x : DataW H × List MemPlace} (h : DataW.trod enc P W base sp held fuel t [v] = some x) : ∃ a len cap, v = .slice a len cap := by
  cases fuel with
  | zero => simp [DataW.trod] at h
  | succ n =>
    unfold DataW.trod at h
    rw [ht] at h
    cases v <;> simp at h
    exact ⟨_, _, _, rfl⟩
/-- A slice of whatever: each element's cells, at their places. -/
theorem slice_cells {fuel : Nat} {t e : TypeId} (ht : P.underlying t = some (.slice e)) {k : Nat} (he : P.cellsOf e = k) (hk : 0 < k) {a : Option Addr} {len cap : Nat} {x : DataW H × List MemPlace}
    (h : DataW.trod enc P W base sp held fuel t [.slice a len cap] = some x) :
    len = 0 ∨ ∃ b o fuel', a = some ⟨b, o, none⟩ ∧ b < W.heap.size ∧ ∀ i, i < len → ∃ cs y, cs.length = k ∧ (∀ j, j < k → W.cell? ⟨b, o + i * k + j, none⟩ = cs[j]?) ∧ DataW.trod enc P W base sp held fuel' e cs = some y := by
  rcases slice_inv ht h with ⟨_, rfl, _, _⟩ | ⟨ad, ds, rest, fuel', rfl, h1, h2, _, hl, _, h3⟩
  · exact .inl rfl
  · by_cases h0 : len = 0
    · exact .inl h0
    · right
      obtain ⟨cs0, d0, ps0, c1, c2, _⟩ := h3 0 (by omega)
      rw [he] at c1
      obtain ⟨_, k1, k2⟩ := cells?_inv c1
      have k3 := k2 0 hk
      obtain ⟨v0, hv0⟩ : ∃ v, cs0[0]? = some v := ⟨cs0[0], by simp⟩
      rw [hv0] at k3
      have hs := spot_of_cell k3
      have hlt := block_lt_of_cell k3
      simp [Addr.add] at hs hlt
      obtain ⟨b, o, s⟩ := ad
      simp only at hs hlt
      subst hs
      refine ⟨b, o, fuel', rfl, hlt, fun i hi => ?_⟩
      obtain ⟨cs, d, ps, e1, e2, _⟩ := h3 i hi
      rw [he] at e1
      obtain ⟨_, g1, g2⟩ := cells?_inv e1
      refine ⟨cs, _, g1, fun j hj => ?_, e2⟩
      have := g2 j hj
      rw [Addr.add_mid, Addr.add_mid] at this
      exact this
end
end Go.Ad
