/- Texts of this claim, laid together: part 1. -/
import Derived.WalkKit
import Derived.WalkSpells
import Derived.WalkLawsBesides
import Derived.Maps.OwnOps
import Derived.StillTailTactics
import Derived.Deep.WholeRow
import Derived.Deep.MidRow
import Derived.Deep.QuietTactic
import Derived.BigQuiet
import Derived.Lib.Hide
import Derived.SizedLaws
import Derived.ChangeArms
import Derived.OrdersHeld
import Derived.StillTail
import Derived.Maps.AppendAt
import Derived.Lib.ConvBytes
import Derived.Laws.BytesString
import Derived.Deep.LoopGhost
import Derived.IntWalk
import Derived.Laws.MakeOwn
import Derived.Laws.Tables
import Derived.Laws.OwnMore
import Derived.Great.BuildSlice
import Derived.Laws.StructEq
import Derived.ChangeKeysEq
import Derived.Test.YtcogbkkdccohfaaGreatProg
import Derived.Laws.IdiomCopy
import Derived.OwnWalk
set_option linter.unusedVariables false
set_option linter.unusedSimpArgs false
set_option maxHeartbeats 1600000
namespace Go.Ad
open Go.RowKit Go.Maps
structure Ex (l : List Nat) (w w' : World) : Prop where
  os : w'.os = w.os
  tape : w'.tape = w.tape
  output : w'.output = w.output
  size : w.heap.size ≤ w'.heap.size
  block : ∀ k, k < w.heap.size → k ∉ l → w'.heap[k]? = w.heap[k]?
theorem Ex.refl (l : List Nat) (w : World) : Ex l w w := ⟨rfl, rfl, rfl, Nat.le_refl _, fun _ _ _ => rfl⟩
theorem Ex.trans {l : List Nat} {a b c : World} (h : Ex l a b) (k : Ex l b c) : Ex l a c :=
  ⟨k.os.trans h.os, k.tape.trans h.tape, k.output.trans h.output, Nat.le_trans h.size k.size, fun i hi hl => (k.block i (Nat.lt_of_lt_of_le hi h.size) hl).trans (h.block i hi hl)⟩
theorem Ex.mono {l l' : List Nat} {w w' : World} (h : Ex l w w') (hl : ∀ k ∈ l, k ∈ l') : Ex l' w w' :=
  ⟨h.os, h.tape, h.output, h.size, fun i hi hn => h.block i hi (fun hm => hn (hl i hm))⟩
theorem Ex.drew {l : List Nat} {a w : World} (h : Ex l a w) : Ex l a w.drew := ⟨h.os, h.tape, h.output, h.size, h.block⟩
theorem Ex.alloc {l : List Nat} {a w : World} (h : Ex l a w) (o : Obj) : Ex l a (w.alloc o) :=
  h.trans ⟨rfl, rfl, rfl, by simp, fun k hk _ => Below.heap_alloc _ _ _ hk⟩
theorem Ex.setCell {l : List Nat} {a w : World} (h : Ex l a w) {p : Addr} (hp : p.block ∈ l ∨ a.heap.size ≤ p.block) (u : Value) : Ex l a (w.setCell p u) := by
  refine ⟨h.os, h.tape, h.output, by simpa [World.setCell] using h.size, fun k hk hl => ?_⟩
  rw [Below.heap_setCell _ _ _ _ (by rintro rfl; rcases hp with hp | hp; exact hl hp; omega)]
  exact h.block k hk hl
theorem Ex.below {l : List Nat} {B : Nat} {w w' : World} (h : Ex l w w') (hB : B ≤ w.heap.size) (hl : ∀ k ∈ l, B ≤ k) : Below B w w' :=
  ⟨h.os, h.tape, h.output, h.size, fun k hk => h.block k (by omega) (fun hm => by have := hl k hm; omega)⟩
theorem Ex.cell {l : List Nat} {w w' : World} (h : Ex l w w') {p : Addr} (hp : p.block < w.heap.size) (hl : p.block ∉ l) : w'.cell? p = w.cell? p := World.cell?_of_block (w := w) (h.block p.block hp hl)
theorem Ex.of_grown {w w' : World} {b : Nat} (h : w.grownBy w' (some b)) : Ex [b] w w' :=
  ⟨h.os, h.tape, h.output, h.size, fun k hk hl => h.block k hk (by simpa using hl)⟩
theorem Ex.of_grown0 {w w' : World} (h : w.grownBy w' none) : Ex [] w w' :=
  ⟨h.os, h.tape, h.output, h.size, fun k hk _ => h.block k hk (by simp)⟩
def KMap (P : Program) (kt : TypeId) (w : World) (m : Nat) (f : Value → Option Value) : Prop :=
  ∃ (es : Array MapEntry) (clock : Nat), w.heap[m]? = some (.map es clock) ∧ (∀ e ∈ es.toList, ∃ l, keyOf P kt e.key = some l) ∧
    (∀ (i j : Nat) (ei ej : MapEntry), es[i]? = some ei → es[j]? = some ej → ei.key = ej.key → i = j) ∧
    ∀ k v, f k = some v ↔ ∃ (i : Nat) (e : MapEntry), es[i]? = some e ∧ e.key = k ∧ e.val = v
open Classical in
noncomputable def upd (f : Value → Option Value) (k v : Value) : Value → Option Value := fun x => if x = k then some v else f x
theorem upd_same (f : Value → Option Value) (k v : Value) : upd f k v k = some v := by simp [upd]
theorem upd_other (f : Value → Option Value) {k x : Value} (v : Value) (h : x ≠ k) : upd f k v x = f x := by simp [upd, h]
section
variable {P : Program} {kt : TypeId} {w w' : World} {m : Nat} {f : Value → Option Value}
theorem KMap.lt (h : KMap P kt w m f) : m < w.heap.size := by
  obtain ⟨es, clock, hb, _⟩ := h
  exact (Array.getElem?_eq_some_iff.1 hb).1
theorem KMap.keep (h : KMap P kt w m f) (hw : w'.heap[m]? = w.heap[m]?) : KMap P kt w' m f := by
  obtain ⟨es, clock, hb, r⟩ := h
  exact ⟨es, clock, hw.trans hb, r⟩
theorem KMap.ex {l : List Nat} (h : KMap P kt w m f) (hw : Ex l w w') (hl : m ∉ l) : KMap P kt w' m f := h.keep (hw.block m h.lt hl)
theorem KMap.new (w : World) : KMap P kt (w.alloc (.map #[] 0)) w.heap.size (fun _ => none) :=
  ⟨#[], 0, (MapKept.heap_alloc w _).1, by simp, by simp, by simp⟩
theorem KMap.lookup {t e : TypeId} (h : KMap P kt w m f) (K : Keyed P kt) (ht : P.underlying t = some (.map kt e)) {z : Value} (hz : (zeroValue e).run P w = .ok z w)
    {k : Value} {kl : Lit} (hkey : keyOf P kt k = some kl) (ok : Bool) :
    (Instr.lookup t (.map (some m)) k ok).run P w = .ok (if ok then .tuple #[(f k).getD z, .bool (f k).isSome] else (f k).getD z) w := by
  obtain ⟨es, clock, hb, hes, huniq, hf⟩ := h
  rcases K.find w hkey es.toList hes with ⟨h1, h2⟩ | ⟨j, e0, h1, h2, h3⟩
  · have hn : f k = none := by
      cases hv : f k with
      | none => rfl
      | some v =>
        obtain ⟨i, e1, a1, a2, _⟩ := (hf k v).1 hv
        exact absurd a2 (h2 e1 (by simpa using Array.mem_of_getElem? a1))
    simp [Instr.lookup, run_underlying ht, MapKept.run_getObj_map hb, K.check w _ hkey, h1, hz, hn, Result.andThen]
  · have hs : f k = some e0.val := (hf k e0.val).2 ⟨j, e0, by simpa using h2, h3, rfl⟩
    simp [Instr.lookup, run_underlying ht, MapKept.run_getObj_map hb, K.check w _ hkey, h1, hs, Result.andThen]
theorem KMap.update {t e : TypeId} (h : KMap P kt w m f) (K : Keyed P kt) (ht : P.underlying t = some (.map kt e)) {k v : Value} {kl : Lit} (hkey : keyOf P kt k = some kl) :
    ∃ w', (Instr.mapUpdate t (.map (some m)) k v).run P w = .ok () w' ∧ KMap P kt w' m (upd f k v) ∧ Ex [m] w w' := by
  obtain ⟨es, clock, hb, hes, huniq, hf⟩ := h
  have hex : ∀ o, Ex [m] w (ChangeMaps.setBlock w m o) := fun o =>
    ⟨rfl, rfl, rfl, by simp [ChangeMaps.setBlock], fun i _ hi => ChangeMaps.heap_setBlock_other hb _ (by simpa using hi)⟩
  rcases K.find w hkey es.toList hes with ⟨h1, h2⟩ | ⟨j, e0, h1, h2, h3⟩
  · refine ⟨ChangeMaps.setBlock w m (.map (es.push ⟨k, v, clock⟩) (clock + 1)), ?_, ⟨_, _, ChangeMaps.heap_setBlock_same hb _, ?_, ?_, ?_⟩, hex _⟩
    · simp [Instr.mapUpdate, run_underlying ht, MapKept.run_getObj_map hb, K.check w false hkey, h1, MapKept.run_setObj_map _ hb, Result.andThen, ChangeMaps.setBlock]
    · intro e1 he1
      simp only [Array.toList_push, List.mem_append, List.mem_singleton] at he1
      rcases he1 with he1 | rfl
      · exact hes e1 he1
      · exact ⟨_, hkey⟩
    · intro i j ei ej hi hj hk
      have hne : ∀ (i : Nat) ei, es[i]? = some ei → ei.key ≠ k := fun i ei hi => h2 ei (by simpa using Array.mem_of_getElem? hi)
      simp only [Array.getElem?_push] at hi hj
      split at hi <;> split at hj
      · omega
      · simp only [Option.some.injEq] at hi; subst hi; exact absurd hk.symm (hne j ej hj)
      · simp only [Option.some.injEq] at hj; subst hj; exact absurd hk (hne i ei hi)
      · exact huniq i j ei ej hi hj hk
    · intro x y
      by_cases hx : x = k
      · subst hx
        rw [upd_same]
        constructor
        · intro h; cases h; exact ⟨es.size, ⟨x, v, clock⟩, by simp, rfl, rfl⟩
        · rintro ⟨i, e1, hi, a, b⟩
          simp only [Array.getElem?_push] at hi
          split at hi
          · cases hi; rw [← b]
          · exact absurd a (h2 e1 (by simpa using Array.mem_of_getElem? hi))
      · rw [upd_other _ _ hx, hf]
        constructor
        · rintro ⟨i, e1, hi, a⟩
          have hlt : i < es.size := (Array.getElem?_eq_some_iff.1 hi).1
          exact ⟨i, e1, by rw [Array.getElem?_push, if_neg (by omega)]; exact hi, a⟩
        · rintro ⟨i, e1, hi, a, b⟩
          simp only [Array.getElem?_push] at hi
          split at hi
          · cases hi; exact absurd a.symm hx
          · exact ⟨i, e1, hi, a, b⟩
  · have hj : es[j]? = some e0 := by simpa using h2
    have hjl : j < es.size := (Array.getElem?_eq_some_iff.1 hj).1
    refine ⟨ChangeMaps.setBlock w m (.map (es.modify j fun e => { e with key := k, val := v }) clock), ?_, ⟨_, _, ChangeMaps.heap_setBlock_same hb _, ?_, ?_, ?_⟩, hex _⟩
    · simp [Instr.mapUpdate, run_underlying ht, MapKept.run_getObj_map hb, K.check w false hkey, h1, MapKept.run_setObj_map _ hb, Result.andThen, ChangeMaps.setBlock, hj, h3, K.stays w hkey]
    · intro e1 he1
      obtain ⟨i, hi, rfl⟩ := List.getElem_of_mem he1
      simp only [Array.getElem_toList, Array.getElem_modify]
      split
      · exact ⟨_, hkey⟩
      · exact hes _ (by simp)
    · intro i i' ei ej hi hi' hk
      simp only [Array.getElem?_modify] at hi hi'
      have key1 : ∀ (i : Nat) ei, (if j = i then Option.map (fun e : MapEntry => { e with key := k, val := v }) es[i]? else es[i]?) = some ei → ∃ e1, es[i]? = some e1 ∧ e1.key = ei.key := by
        intro i ei h
        split at h
        · rename_i hji; subst hji
          rw [hj] at h; cases h
          exact ⟨e0, hj, h3⟩
        · exact ⟨ei, h, rfl⟩
      obtain ⟨a, ha, ha'⟩ := key1 i ei hi
      obtain ⟨b, hb', hb''⟩ := key1 i' ej hi'
      exact huniq i i' a b ha hb' (by rw [ha', hb'', hk])
    · intro x y
      by_cases hx : x = k
      · subst hx
        rw [upd_same]
        constructor
        · intro h; cases h
          exact ⟨j, { e0 with key := x, val := v }, by simp [Array.getElem?_modify, hj], rfl, rfl⟩
        · rintro ⟨i, e1, hi, a, b⟩
          simp only [Array.getElem?_modify] at hi
          split at hi
          · rename_i hji; subst hji
            rw [hj] at hi; cases hi; rw [← b]
          · rename_i hji
            exact absurd (huniq j i e0 e1 hj hi (by rw [h3, a])) hji
      · rw [upd_other _ _ hx, hf]
        constructor
        · rintro ⟨i, e1, hi, a, b⟩
          have hji : j ≠ i := by rintro rfl; rw [hj] at hi; cases hi; exact hx (by rw [← a, h3])
          exact ⟨i, e1, by rw [Array.getElem?_modify, if_neg hji]; exact hi, a, b⟩
        · rintro ⟨i, e1, hi, a, b⟩
          simp only [Array.getElem?_modify] at hi
          split at hi
          · rename_i hji; subst hji
            rw [hj] at hi; cases hi; exact absurd a.symm hx
          · exact ⟨i, e1, hi, a, b⟩
theorem wpList_mapUpdate_K {ops : Array Oper} {rest : List Oper} {o : Oper} {a : Act} {Q : Exit → Act → World → Prop}
    (hg : o.guard = none) (x y z : Operand) (t : TypeId) (hop : o.op = Op.mapUpdate t x y z) (e : TypeId) (K : Keyed P kt) (ht : P.underlying t = some (.map kt e))
    (hm : a.eval x = .map (some m)) (h : KMap P kt w m f) (k v : Value) (kl : Lit) (hx : a.eval y = k) (hv : a.eval z = v) (hkey : keyOf P kt k = some kl)
    (hK : ∀ w', KMap P kt w' m (upd f k v) → Ex [m] w w' → wpList P ops Q rest (a.put o.dst undef) w') : wpList P ops Q (o :: rest) a w := by
  refine wpList_plain hg fun K' hK' => ?_
  obtain ⟨w', hrun, r1, r2⟩ := h.update K ht hkey (v := v)
  unfold Oper.wp
  simp [execOp, hop, hm, hx, hv, hrun, Result.andThen]
  exact hK' _ _ (hK w' r1 r2)
end
end Go.Ad
namespace Go.Ad
open Go.RowKit Go.Maps
section
variable {P : Program} {ops : Array Oper} {w : World} {Q : Act → Prop} {a : Act} {o : Oper} {rest : List Oper}
theorem still_yield (hg : o.guard = none) (v : Value) (hr : (execOp a.eval o).run P w = .ok (.value v) w) (h : wpStill P ops w Q rest (a.put o.dst v)) : wpStill P ops w Q (o :: rest) a := by
  refine wpStill_step fun K hK => ?_
  simp only [Region.wanted, hg, if_true, Oper.still, hr, Oper.stillUpon]
  exact ⟨trivial, hK _ h⟩
end
end Go.Ad
namespace Go.Ad
section
variable {P : Program}
theorem World.rangeAt.drew {w : World} {b o : Nat} {cs : List Value} (h : w.rangeAt b o cs) : w.drew.rangeAt b o cs := h
theorem rangeAt_ex {l : List Nat} {w w' : World} {b o : Nat} {cs : List Value} (h : w.rangeAt b o cs) (hx : Ex l w w') (hb : b < w.heap.size) (hl : b ∉ l) : w'.rangeAt b o cs := fun j v hv => by
  rw [hx.cell (p := ⟨b, o + j, none⟩) hb hl]; exact h j v hv
end
end Go.Ad
namespace Go.Ad
section
variable {P : Program}
theorem exec_load {w : World} {a : Act} {o : Oper} {ty : TypeId} {x : Operand} (ho : o.op = .load ty x) {v p : Value} (hx : a.eval x = p) (h : (Instr.loadAt ty p).run P w = .ok v w) : (execOp a.eval o).run P w = .ok (.value v) w := by
  unfold execOp
  simp only [ho, hx, Sem.run_bind, h, Result.andThen_ok, Sem.run_pure]
end
end Go.Ad
namespace Go.Ad
open Go.RowKit
theorem Ex.of_drew {l : List Nat} {w w' : World} (h : Ex l w.drew w') : Ex l w w' := ⟨h.os, h.tape, h.output, h.size, h.block⟩
def Blk (w : World) (b : Nat) (c : Array Value) (t : TypeId) : Prop := w.heap[b]? = some (.cells c t (0, 0))
section
variable {w w' : World} {b : Nat} {c : Array Value} {t : TypeId}
theorem Blk.cell (h : Blk w b c t) (j : Nat) : w.cell? ⟨b, j, none⟩ = c[j]? := by
  unfold Blk at h; simp [World.cell?, h]
theorem Blk.froz (h : Blk w b c t) (j : Nat) : w.frozen? ⟨b, j, none⟩ = false := by
  unfold Blk at h; simp [World.frozen?, h]
theorem Blk.lt (h : Blk w b c t) : b < w.heap.size := (Array.getElem?_eq_some_iff.1 h).1
theorem Blk.ex {l : List Nat} (h : Blk w b c t) (hx : Ex l w w') (hl : b ∉ l) : Blk w' b c t := (hx.block b h.lt hl).trans h
theorem Blk.drew (h : Blk w b c t) : Blk w.drew b c t := h
theorem Blk.alloc (h : Blk w b c t) (o : Obj) : Blk (w.alloc o) b c t := (Below.heap_alloc w o b h.lt).trans h
theorem Blk.new (w : World) (c : Array Value) (t : TypeId) : Blk (w.alloc (.cells c t)) w.heap.size c t := heap_alloc_new w _
theorem Blk.set (h : Blk w b c t) (j : Nat) (v : Value) : Blk (w.setCell ⟨b, j, none⟩ v) b (c.setIfInBounds j v) t := heap_setCell_same w b j c t v h
theorem Blk.range (h : Blk w b c t) (o : Nat) (xs : List Value) (hx : ∀ j v, xs[j]? = some v → c[o + j]? = some v) : w.rangeAt b o xs := fun j v hv => by rw [h.cell]; exact hx j v hv
theorem Blk.range0 (h : Blk w b c t) : w.rangeAt b 0 c.toList := h.range 0 _ (fun j v hv => by simpa using hv)
theorem Blk.ne_map {P : Program} {kt : TypeId} {m : Nat} {f} (h : Blk w b c t) (hm : KMap P kt w m f) : m ≠ b := by
  rintro rfl
  obtain ⟨es, clock, hb, _⟩ := hm
  rw [h] at hb; cases hb
end
end Go.Ad
namespace Go.Ad
theorem rangeAt_setCell {w : World} {b o : Nat} {cs : List Value} (h : w.rangeAt b o cs) {p : Addr} (hp : b ≠ p.block) (v : Value) : (w.setCell p v).rangeAt b o cs := fun j x hx => by
  rw [World.cell?_setCell_other _ _ _ _ (by rintro rfl; exact hp rfl)]; exact h j x hx
end Go.Ad
namespace Go.Ad
section
variable {P : Program} {ops : Array Oper} {w w' : World} {Q : Exit → Act → World → Prop} {a : Act} {o : Oper} {rest : List Oper} {v p z : Value} {ty : TypeId} {x y : Operand}
theorem L_val (hg : o.guard = none) (hr : (execOp a.eval o).run P w = .ok (.value v) w') (h : wpList P ops Q rest (a.put o.dst v) w') : wpList P ops Q (o :: rest) a w := by
  refine wpList_plain hg fun K hK => ?_
  simp only [Oper.wp, hr, Oper.upon]
  exact hK _ _ h
theorem L_skip (hg : o.guard = none) (hr : (execOp a.eval o).run P w = .ok .skip w') (h : wpList P ops Q rest (a.put o.dst undef) w') : wpList P ops Q (o :: rest) a w := by
  refine wpList_plain hg fun K hK => ?_
  simp only [Oper.wp, hr, Oper.upon]
  exact hK _ _ h
theorem ex_alloc (ho : o.op = .alloc ty) (hz : (zeroValue ty).run P w = .ok z w) : (execOp a.eval o).run P w = .ok (.value (.pointer (some ⟨w.heap.size, 0, none⟩))) (w.alloc (.cells z.cells ty)) := by
  unfold execOp
  simp [ho, Instr.alloc, hz, newVar, newRow, Result.andThen]
theorem ex_store (ho : o.op = .store ty x y) (hx : a.eval x = p) (hy : a.eval y = v) (h : (Instr.storeAt ty p v).run P w = .ok () w') : (execOp a.eval o).run P w = .ok .skip w' := by
  unfold execOp
  simp only [ho, hx, hy, Sem.run_bind, h, Result.andThen_ok, Sem.run_pure]
end
end Go.Ad
namespace Go.Ad
section
variable {P : Program} {w w' : World} {a : Act} {o : Oper} {v p z : Value} {ty e : TypeId} {x y : Operand}
theorem madeCells_one (z : Value) (n : Nat) : madeCells #[z] n = Array.replicate n z := by
  apply Array.ext'
  rw [toList_madeCells_one]; simp
end
end Go.Ad
namespace Go.Ad
theorem Ex.own {l s : List Nat} {a b c : World} (h : Ex s a b) (k : Ex l b c) (hl : ∀ i ∈ l, i ∈ s ∨ a.heap.size ≤ i) : Ex s a c :=
  ⟨k.os.trans h.os, k.tape.trans h.tape, k.output.trans h.output, Nat.le_trans h.size k.size, fun i hi hs =>
    (k.block i (Nat.lt_of_lt_of_le hi h.size) (fun hm => by rcases hl i hm with h1 | h1; exact hs h1; omega)).trans (h.block i hi hs)⟩
end Go.Ad
namespace Go.Ad
section
variable {P : Program} {ops : Array Oper} {w w' : World} {Q : Exit → Act → World → Prop} {a : Act} {o : Oper} {rest : List Oper} {v : Value}
theorem G_val (hg : Region.wanted o (yielded ops a.tmps) = true) (hr : (execOp a.eval o).run P w = .ok (.value v) w') (h : wpList P ops Q rest (a.put o.dst v) w') : wpList P ops Q (o :: rest) a w := by
  refine wpList_step fun K hK => ?_
  rw [if_pos hg]
  simp only [Oper.wp, hr, Oper.upon]
  exact hK _ _ h
end
end Go.Ad
namespace Go.Ad
section
variable {P : Program} {ops : Array Oper} {Q : Exit → Act → World → Prop} {S : World → Prop}
def wpAnyT (P : Program) (ops : Array Oper) (Q : Exit → Act → World → Prop) (S : World → Prop) (T : Nat → Bool) : Nat → Array Bool → Act → World → Prop
  | 0, listed, a, w => Region.ready .any ops listed = [] ∧ Q .normal a w
  | fuel + 1, listed, a, w =>
    (Region.ready .any ops listed = [] → Q .normal a w) ∧
    ∀ i ∈ Region.ready .any ops listed, wpOp P ops Q i (fun a' w' => (T i = true → S w') ∧ wpAnyT P ops Q S T fuel (listed.setIfInBounds i true) a' w') a w
variable {T : Nat → Bool}
theorem wpAny_of_T : ∀ (fuel : Nat) (listed : Array Bool) (a : Act) (w : World), wpAnyT P ops Q S T fuel listed a w → wpAny P .any ops Q fuel listed a w
  | 0, _, _, _, h => h
  | fuel + 1, _, _, _, h => ⟨h.1, fun i hi => wpOp_mono (fun a' w' h' => wpAny_of_T fuel _ a' w' h'.2) (h.2 i hi)⟩
def waits (ops : Array Oper) : Nat → Nat → Nat → Bool
  | 0, _, _ => false
  | n + 1, j, i => match ops[j]? with
    | some oj => oj.after.any fun e => Region.binds .any e && (e.on == i || waits ops n e.on i)
    | none => false
def Closed (ops : Array Oper) (listed : Array Bool) : Prop := ∀ (j : Nat) (oj : Oper), ops[j]? = some oj → listed.getD j false = true → ∀ e ∈ oj.after, Region.binds .any e = true → listed.getD e.on false = true
theorem Closed.waits {listed : Array Bool} (hc : Closed ops listed) {i : Nat} : ∀ (n j : Nat), waits ops n j i = true → (∀ oj, ops[j]? = some oj → ∀ e ∈ oj.after, Region.binds .any e = true → listed.getD e.on false = true) → listed.getD i false = true
  | 0, _, h, _ => by simp [Go.Ad.waits] at h
  | n + 1, j, h, hall => by
    unfold Go.Ad.waits at h
    split at h
    · rename_i oj hoj
      obtain ⟨e, he, hb⟩ := Array.any_eq_true'.1 h
      simp only [Bool.and_eq_true, Bool.or_eq_true, beq_iff_eq] at hb
      have h1 := hall oj hoj e he hb.1
      rcases hb.2 with h2 | h2
      · rw [← h2]; exact h1
      · exact hc.waits n e.on h2 (fun ok hok => hc e.on ok hok h1)
    · cases h
theorem Closed.set {listed : Array Bool} (hc : Closed ops listed) {i : Nat} (hi : i ∈ Region.ready .any ops listed) : Closed ops (listed.setIfInBounds i true) := by
  obtain ⟨_, oi, hoi, hall⟩ := mem_ready.1 hi
  intro j oj hoj hl e he hb
  by_cases hij : i = j
  · subst hij
    have : oj = oi := Option.some.inj (hoj.symm.trans hoi)
    subst this
    exact getD_set_true (hall e he hb)
  · rw [getD_set_ne false hij] at hl
    exact getD_set_true (hc j oj hoj hl e he hb)
theorem not_ready_of_waits {i j n : Nat} {listed : Array Bool} (hc : Closed ops listed) (hw : waits ops n j i = true) (hi : i ∈ Region.ready .any ops listed) : j ∉ Region.ready .any ops listed := by
  intro hj
  obtain ⟨_, oj, hoj, hall⟩ := mem_ready.1 hj
  have h1 := hc.waits n j hw (fun ok hok e he hb => by
    have : ok = oj := Option.some.inj (hok.symm.trans hoj)
    subst this
    exact hall e he hb)
  have h0 := (mem_ready.1 hi).1
  rcases Nat.lt_or_ge i listed.size with h' | h'
  · simp [h'] at h0 h1; rw [h0] at h1; cases h1
  · simp [Array.getElem?_eq_none h'] at h1
theorem wpAnyT_first {i : Nat} {oi : Oper} {v : Value} (hi : ops[i]? = some oi) (hsel : ∀ (j : Nat) (o : Oper) cs b, ops[j]? = some o → o.op ≠ .select cs b)
    (hT : ∀ j, T j = true ∨ waits ops ops.size j i = true ∨ j = i)
    (hQ : ∀ c a w, Q (.panic c) (a.put oi.dst v) w → Q (.panic c) a w) :
    ∀ (fuel : Nat) (listed : Array Bool) (a : Act) (w : World), Closed ops listed →
      (∀ j oj, ops[j]? = some oj → j ≠ i → listed.getD j true = false → (∀ e ∈ oj.after, Region.binds .any e = true → e.on ≠ i) → oi.apart ops oj = true) →
      i ∈ Region.ready .any ops listed → YieldsIf P ops S oi v a → S w →
      wpAnyT P ops Q S T fuel (listed.setIfInBounds i true) (a.put oi.dst v) w → wpAnyT P ops Q S T (fuel + 1) listed a w := by
  intro fuel
  induction fuel with
  | zero =>
    intro listed a w _ _ hr hy hS H
    refine ⟨fun h => (by rw [h] at hr; cases hr), fun j hj => ?_⟩
    by_cases hji : j = i
    · subst hji; exact hy.wpOp hi hS ⟨fun _ => hS, H⟩
    · have := ready_mono hj hji
      rw [H.1] at this
      cases this
  | succ fuel ih =>
    intro listed a w hc hfree hr hy hS H
    refine ⟨fun h => (by rw [h] at hr; cases hr), fun j hj => ?_⟩
    by_cases hji : j = i
    · subst hji; exact hy.wpOp hi hS ⟨fun _ => hS, H⟩
    · have h1 := H.2 j (ready_mono hj hji)
      have hTj : T j = true := by
        rcases hT j with h | h | h
        · exact h
        · exact absurd hj (not_ready_of_waits hc h hr)
        · exact absurd h hji
      obtain ⟨hjun, oj, hoj, hall⟩ := mem_ready.1 hj
      have hnot : ∀ e ∈ oj.after, Region.binds .any e = true → e.on ≠ i := fun e he hb heq => by
        have h1 := hall e he hb
        have h0 := (mem_ready.1 hr).1
        rw [heq] at h1
        rcases Nat.lt_or_ge i listed.size with h' | h'
        · simp [h'] at h0 h1; rw [h0] at h1; cases h1
        · simp [Array.getElem?_eq_none h'] at h1
      have h2 := wpOp_putIf hoj (hfree j oj hoj hji hjun hnot) (fun cs b => hsel i oi cs b hi) (fun cs b => hsel j oj cs b hoj) hQ hy h1
      have hfree' : ∀ k ok, ops[k]? = some ok → k ≠ i → (listed.setIfInBounds j true).getD k true = false →
          (∀ e ∈ ok.after, Region.binds .any e = true → e.on ≠ i) → oi.apart ops ok = true := fun k ok hk hki hun hno => by
        refine hfree k ok hk hki ?_ hno
        by_cases hjk : j = k
        · subst hjk; exact hjun
        · rw [getD_set_ne true hjk] at hun; exact hun
      refine wpOp_mono (fun a' w' h3 => ⟨h3.2.1, ih (listed.setIfInBounds j true) a' w' (hc.set hj) hfree' (ready_mono hr (Ne.symm hji)) h3.1 (h3.2.1 hTj) ?_⟩) h2
      rw [Array.setIfInBounds_comm _ _ hji]
      exact h3.2.2
def wpOrd (P : Program) (ops : Array Oper) (Q : Exit → Act → World → Prop) (S : World → Prop) (T : Nat → Bool) : List (Nat × Bool) → Act → World → Prop
  | [], a, w => Q .normal a w
  | (i, true) :: r, a, w => ∃ o v, ops[i]? = some o ∧ YieldsIf P ops S o v a ∧ wpOrd P ops Q S T r (a.put o.dst v) w
  | (i, false) :: r, a, w => wpOp P ops Q i (fun a' w' => (T i = true → S w') ∧ wpOrd P ops Q S T r a' w') a w
def okOrd (ops : Array Oper) (T : Nat → Bool) : List (Nat × Bool) → Bool → Array Bool → Bool
  | [], _, listed => (Region.ready .any ops listed).isEmpty
  | (i, true) :: r, s, listed => s && Region.free .any ops listed i && (Region.ready .any ops listed).contains i && ((List.range ops.size).all fun j => T j || waits ops ops.size j i || j == i) && okOrd ops T r s (listed.setIfInBounds i true)
  | (i, false) :: r, s, listed => (Region.ready .any ops listed == [i]) && okOrd ops T r (s && T i) (listed.setIfInBounds i true)
theorem wpOrd_sound (hs : Region.noSelect ops = true) (hT : ∀ j, ops.size ≤ j → T j = true) (hQ : ∀ c a d v w, Q (.panic c) (a.put d v) w → Q (.panic c) a w) :
    ∀ (l : List (Nat × Bool)) (s : Bool) (listed : Array Bool) (a : Act) (w : World), Closed ops listed → okOrd ops T l s listed = true → (s = true → S w) → wpOrd P ops Q S T l a w → wpAnyT P ops Q S T l.length listed a w
  | [], _, listed, a, w, _, hok, _, h => ⟨by simpa [okOrd] using hok, h⟩
  | (i, true) :: r, s, listed, a, w, hc, hok, hS, h => by
    simp only [okOrd, Bool.and_eq_true] at hok
    obtain ⟨⟨⟨⟨h1, h2⟩, h3⟩, h4⟩, h5⟩ := hok
    subst h1
    obtain ⟨o, v, ho, hy, hr⟩ := h
    refine wpAnyT_first ho (Region.noSelect_spec hs) (fun j => ?_) (fun c a w => hQ c a _ _ w) r.length listed a w hc (Region.free_spec ho h2) (by simpa using h3) hy (hS rfl) (wpOrd_sound hs hT hQ r true _ _ _ (hc.set (by simpa using h3)) h5 hS hr)
    rcases Nat.lt_or_ge j ops.size with hj | hj
    · have := List.all_eq_true.1 h4 j (List.mem_range.2 hj)
      simp only [Bool.or_eq_true, beq_iff_eq] at this
      rcases this with (h | h) | h
      · exact .inl h
      · exact .inr (.inl h)
      · exact .inr (.inr h)
    · exact .inl (hT j hj)
  | (i, false) :: r, s, listed, a, w, hc, hok, hS, h => by
    simp only [okOrd, Bool.and_eq_true, beq_iff_eq] at hok
    obtain ⟨h1, h2⟩ := hok
    refine ⟨fun h0 => (by rw [h1] at h0; cases h0), fun j hj => ?_⟩
    have hc' := hc.set hj
    rw [h1] at hj
    simp only [List.mem_singleton] at hj
    subst hj
    refine wpOp_mono (fun a' w' h3 => ⟨h3.1, wpOrd_sound hs hT hQ r (s && T j) _ _ _ hc' h2 (fun hh => ?_) h3.2⟩) h
    simp only [Bool.and_eq_true] at hh
    exact h3.1 hh.2
def wpOrdO (P : Program) (ops : Array Oper) (Q : Exit → Act → World → Prop) (S : World → Prop) (T : Nat → Bool) : List (Nat × Bool × Oper) → Act → World → Prop
  | [], a, w => Q .normal a w
  | (_, true, o) :: r, a, w => ∃ v, YieldsIf P ops S o v a ∧ wpOrdO P ops Q S T r (a.put o.dst v) w
  | (i, false, o) :: r, a, w => if Region.wanted o (yielded ops a.tmps) then o.wp P a w (fun a' w' => (T i = true → S w') ∧ wpOrdO P ops Q S T r a' w') Q else (T i = true → S w) ∧ wpOrdO P ops Q S T r (a.put o.dst undef) w
def mkOrd (ops : Array Oper) (l : List (Nat × Bool)) : List (Nat × Bool × Oper) := l.filterMap fun p => (ops[p.1]?).map fun o => (p.1, p.2, o)
theorem wpOrd_of_O : ∀ (l : List (Nat × Bool)) (a : Act) (w : World), l.all (fun p => decide (p.1 < ops.size)) = true → wpOrdO P ops Q S T (mkOrd ops l) a w → wpOrd P ops Q S T l a w
  | [], _, _, _, h => h
  | (i, b) :: r, a, w, hl, h => by
    simp only [List.all_cons, Bool.and_eq_true, decide_eq_true_eq] at hl
    obtain ⟨hi, hr⟩ := hl
    have ho : ops[i]? = some ops[i] := Array.getElem?_eq_getElem hi
    have hm : mkOrd ops ((i, b) :: r) = (i, b, ops[i]) :: mkOrd ops r := by simp [mkOrd, ho]
    rw [hm] at h
    cases b with
    | true =>
      obtain ⟨v, h1, h2⟩ := h
      exact ⟨ops[i], v, ho, h1, wpOrd_of_O r _ _ hr h2⟩
    | false =>
      show wpOp P ops Q i _ a w
      simp only [wpOrdO] at h
      simp only [wpOp, ho]
      split
      · rename_i hw
        rw [if_pos hw] at h
        exact .inl (Oper.wp_mono (fun a' w' hh => ⟨hh.1, wpOrd_of_O r _ _ hr hh.2⟩) h)
      · rename_i hw
        rw [if_neg hw] at h
        exact ⟨h.1, wpOrd_of_O r _ _ hr h.2⟩
theorem wp_region_ord {id : Nat} {a : Act} {w : World} (S : World → Prop) (E : List Nat) (l : List (Nat × Bool)) (hm : P.follows .mixedOrders = true)
    (hs : Region.noSelect ops = true) (hok : okOrd ops (fun j => !E.contains j) l true (Array.replicate ops.size false) = true) (hE : (E.all (· < ops.size) && l.all (fun p => decide (p.1 < ops.size))) = true) (hl : l.length = ops.size)
    (hQ : ∀ c a d v w, Q (.panic c) (a.put d v) w → Q (.panic c) a w) (hS : S w.drew)
    (h : wpOrdO P ops Q S (fun j => !E.contains j) (mkOrd ops l) a w.drew) : (Code.region id ops true).wp P Q a w := by
  simp only [Bool.and_eq_true] at hE
  refine wp_region_any hm ?_
  have h1 := wpOrd_sound hs (fun j hj => ?_) hQ l true _ _ _ (fun j oj _ hl => by rw [getD_replicate_false] at hl; cases hl) hok (fun _ => hS) (wpOrd_of_O l _ _ hE.2 h)
  · rw [hl] at h1
    exact wpAny_of_T _ _ _ _ h1
  · simp only [Bool.not_eq_true', List.contains_eq_mem, decide_eq_false_iff_not]
    intro hm
    have := List.all_eq_true.1 hE.1 j hm
    simp at this; omega
variable {a : Act} {w w' : World} {i : Nat} {r : List (Nat × Bool × Oper)} {o : Oper} {v : Value}
theorem ord_take (hw : Region.wanted o (yielded ops a.tmps) = true) (hy : ∀ w, S w → (execOp a.eval o).run P w = .ok (.value v) w)
    (h : wpOrdO P ops Q S T r (a.put o.dst v) w) : wpOrdO P ops Q S T ((i, true, o) :: r) a w := ⟨v, .inl ⟨hw, hy⟩, h⟩
theorem ord_pass (hw : Region.wanted o (yielded ops a.tmps) = false) (h : wpOrdO P ops Q S T r (a.put o.dst undef) w) : wpOrdO P ops Q S T ((i, true, o) :: r) a w := ⟨undef, .inr ⟨hw, rfl⟩, h⟩
theorem ord_val (hw : Region.wanted o (yielded ops a.tmps) = true) (hr : (execOp a.eval o).run P w = .ok (.value v) w')
    (hS : T i = true → S w') (h : wpOrdO P ops Q S T r (a.put o.dst v) w') : wpOrdO P ops Q S T ((i, false, o) :: r) a w := by
  simp only [wpOrdO, hw, if_true, Oper.wp, hr, Oper.upon]
  exact ⟨hS, h⟩
theorem ord_skip (hw : Region.wanted o (yielded ops a.tmps) = true) (hr : (execOp a.eval o).run P w = .ok .skip w')
    (hS : T i = true → S w') (h : wpOrdO P ops Q S T r (a.put o.dst undef) w') : wpOrdO P ops Q S T ((i, false, o) :: r) a w := by
  simp only [wpOrdO, hw, if_true, Oper.wp, hr, Oper.upon]
  exact ⟨hS, h⟩
theorem ord_enter (hw : Region.wanted o (yielded ops a.tmps) = true) {f : FuncId} {args : Array Value} (hr : (execOp a.eval o).run P w = .ok (.enter f args) w)
    (hc : Calls P f args w (fun e w' => ∃ v, e = .returned v ∧ (T i = true → S w') ∧ wpOrdO P ops Q S T r (a.put o.dst v) w')) : wpOrdO P ops Q S T ((i, false, o) :: r) a w := by
  simp only [wpOrdO, hw, if_true, Oper.wp, hr, Oper.upon]
  refine hc.mono ?_
  rintro e w' ⟨v, rfl, h1, h2⟩
  exact ⟨h1, h2⟩
theorem ord_none (hw : Region.wanted o (yielded ops a.tmps) = false) (hS : T i = true → S w) (h : wpOrdO P ops Q S T r (a.put o.dst undef) w) : wpOrdO P ops Q S T ((i, false, o) :: r) a w := by
  simp only [wpOrdO, hw, Bool.false_eq_true, if_false]
  exact ⟨hS, h⟩
end
end Go.Ad
namespace Go.Ad
open Go.RowKit
abbrev bv (x : UInt8) : Value := .int .u8 (x.toNat : Int)
def BytesAt (w : World) (a : Option Addr) (len : Nat) (xs : List UInt8) : Prop := xs.length = len ∧ (xs = [] ∨ ∃ b o, a = some ⟨b, o, none⟩ ∧ b < w.heap.size ∧ w.rangeAt b o (xs.map bv))
theorem BytesAt.ex {l : List Nat} {w w' : World} {a : Option Addr} {len : Nat} {xs : List UInt8} (h : BytesAt w a len xs) (hx : Ex l w w') (hl : ∀ b o, a = some ⟨b, o, none⟩ → b ∉ l) : BytesAt w' a len xs := by
  refine ⟨h.1, ?_⟩
  rcases h.2 with h | ⟨b, o, h1, h2, h3⟩
  · exact .inl h
  · exact .inr ⟨b, o, h1, Nat.lt_of_lt_of_le h2 hx.size, rangeAt_ex h3 hx h2 (hl b o h1)⟩
end Go.Ad
namespace Go.Ad
open Go.RowKit
theorem foldl_push (ns : List UInt8) (s : ByteArray) : (ns.map (fun x => (x.toNat : Int))).foldl (fun r n => r.push (UInt8.ofNat n.toNat)) s = ⟨s.data ++ ns.toArray⟩ := by
  induction ns generalizing s with
  | nil => simp
  | cons x r ih =>
    simp only [List.map_cons, List.foldl_cons, ih]
    simp [ByteArray.push]
theorem run_bytes_string {P : Program} {w : World} {src dst e : TypeId} (hs : P.underlying src = some (.slice e)) (he : P.underlying e = some (.int .u8)) (hd : P.underlying dst = some .string)
    {a : Option Addr} {len cap : Nat} {xs : List UInt8} (h : BytesAt w a len xs) : (convert src dst (.slice a len cap)).run P w = .ok (.string ⟨xs.toArray⟩) w := by
  rw [run_convert_bytes_string w src dst e a len cap hs he hd]
  obtain ⟨hl, h⟩ := h
  cases a with
  | none =>
    rcases h with rfl | ⟨b, o, h, _⟩
    · simp [Conv.bytesToString]; rfl
    · cases h
  | some ad =>
    have hload : (loadCells ad len).run P w = .ok ((xs.map (fun x => (x.toNat : Int))).map (Value.int .u8)).toArray w := by
      have e1 : (xs.map (fun x => (x.toNat : Int))).map (Value.int .u8) = xs.map bv := by simp [bv]
      rw [e1]
      have := run_loadCells_list (P := P) w ad (xs.map bv) (fun j v hv => by
        rcases h with rfl | ⟨b, o, h1, _, h2⟩
        · simp at hv
        · cases h1; rw [Addr.add_mid]; exact h2 j v hv)
      simpa [hl] using this
    rw [run_bytesToString w ad len cap _ hload, foldl_push]
    simp
end Go.Ad
namespace Go.Ad
open Go.RowKit
end Go.Ad
namespace Go.Ad
open Go.RowKit
end Go.Ad
namespace Go.Ad
theorem Blk.bytes {w : World} {b : Nat} {t : TypeId} {ys : List UInt8} (h : Blk w b (ys.map bv).toArray t) {n : Nat} (hn : ys.length = n) : BytesAt w (some ⟨b, 0, none⟩) n ys :=
  ⟨hn, .inr ⟨b, 0, rfl, h.lt, by simpa using h.range0⟩⟩
end Go.Ad
set_option linter.unusedVariables false
namespace Go.Ad
open Go.RowKit Go.Maps
abbrev ptr (b : Nat) : Value := .pointer (some ⟨b, 0, none⟩)
theorem own_shape {w : World} {base : Nat} {e : TypeId} {size : Nat} {v : Value} {n : Nat} {xs : List Value} (h : w.ownsRow base e size v n xs) : ∃ a cap, v = .slice a n cap := by
  rcases h.2 with ⟨rfl, rfl⟩ | ⟨g, cap, cur, rfl, _⟩
  · exact ⟨_, _, rfl⟩
  · exact ⟨_, _, rfl⟩
theorem G_enter {P : Program} {ops : Array Oper} {Q : Exit → Act → World → Prop} {rest : List Oper} {w : World} {a : Act} {o : Oper} {f : FuncId} {vs : Array Value} (hg : Region.wanted o (yielded ops a.tmps) = true) (hr : (execOp a.eval o).run P w = .ok (.enter f vs) w)
    (hc : Calls P f vs w (fun e w' => ∃ v, e = .returned v ∧ wpList P ops Q rest (a.put o.dst v) w')) : wpList P ops Q (o :: rest) a w := by
  refine wpList_step fun K hK => ?_
  rw [if_pos hg]
  simp only [Oper.wp, hr, Oper.upon]
  refine hc.mono ?_
  rintro e w' ⟨v, rfl, h⟩
  exact hK _ _ h
theorem G_skip {P : Program} {ops : Array Oper} {Q : Exit → Act → World → Prop} {rest : List Oper} {w w' : World} {a : Act} {o : Oper} (hg : Region.wanted o (yielded ops a.tmps) = true) (hr : (execOp a.eval o).run P w = .ok .skip w')
    (h : wpList P ops Q rest (a.put o.dst undef) w') : wpList P ops Q (o :: rest) a w := by
  refine wpList_step fun K hK => ?_
  rw [if_pos hg]
  simp only [Oper.wp, hr, Oper.upon]
  exact hK _ _ h
end Go.Ad
set_option linter.unusedVariables false
namespace Go.Ad
open Go.RowKit Go.Maps
theorem nbeq {d e : Nat} (h : ¬ d = e) : Nat.beq d e = false := by
  cases hb : Nat.beq d e
  · rfl
  · exact absurd (Nat.eq_of_beq_eq_true hb) h
abbrev Ov := List (Nat × Value)
def Ov.get : Ov → List Value → Nat → Value
  | [], base, d => base.getD d undef
  | (k, v) :: r, base, d => bif Nat.beq k d then v else Ov.get r base d
def ev (ov : Ov) (base : List Value) : Operand → Value
  | .tmp t => ov.get base t
  | .const v => v
  | .global g => .pointer (some ⟨g, 0, none⟩)
  | .func f => .func (.func f) #[] #[]
structure Rep (ov : Ov) (base : List Value) (a : Act) : Prop where
  defers : a.defers = []
  size : a.tmps.size = base.length
  get : ∀ d, a.tmps.getD d undef = ov.get base d
section
variable {ov : Ov} {base : List Value} {a : Act}
theorem Rep.eval (h : Rep ov base a) : a.eval = ev ov base := by
  funext x
  cases x with
  | tmp t => exact h.get t
  | _ => rfl
theorem Rep.put (h : Rep ov base a) {d : Nat} (v : Value) (hd : Nat.blt d base.length = true) : Rep ((d, v) :: ov) base (a.put (some d) v) := by
  have hd' : d < a.tmps.size := by rw [h.size]; simpa using hd
  refine ⟨h.defers, by simpa [Act.put] using h.size, fun e => ?_⟩
  have hg := h.get e
  simp only [Act.put, Ov.get]
  by_cases hde : d = e
  · subst hde
    have : Nat.beq d d = true := by simp
    rw [this]
    simp [Array.getD, hd']
  · have : Nat.beq d e = false := nbeq hde
    rw [this]
    simp only [cond_false]
    rw [← hg]
    simp only [Array.getD_eq_getD_getElem?, Array.getElem?_setIfInBounds, hde, if_false]
theorem Rep.yielded (h : Rep ov base a) (ops : Array Oper) (j : Nat) : Go.yielded ops a.tmps j = (match (ops[j]?).bind (·.dst) with | some d => (match ov.get base d with | .bool b => some b | _ => none) | none => none) := by
  unfold Go.yielded
  cases hd : (ops[j]?).bind (·.dst) with
  | none => rfl
  | some d =>
    simp only [Option.bind_some]
    rw [← h.get d]
    rw [Array.getD_eq_getD_getElem?]
    cases hv : a.tmps[d]? with
    | none => rfl
    | some v => cases v <;> rfl
end
def wantedL (ops : Array Oper) (ov : Ov) (base : List Value) (o : Oper) : Bool :=
  match o.guard with
  | none => true
  | some (j, want) => (match (ops[j]?).bind (·.dst) with | some d => (match ov.get base d with | .bool b => b == want | _ => false) | none => false)
theorem Rep.wanted {ov : Ov} {base : List Value} {a : Act} (h : Rep ov base a) (ops : Array Oper) (o : Oper) : Region.wanted o (Go.yielded ops a.tmps) = wantedL ops ov base o := by
  unfold Region.wanted wantedL
  cases o.guard with
  | none => rfl
  | some p =>
    obtain ⟨j, want⟩ := p
    simp only [h.yielded]
    cases (ops[j]?).bind (·.dst) with
    | none => rfl
    | some d =>
      simp only []
      cases ov.get base d with
      | bool b => cases b <;> cases want <;> rfl
      | _ => rfl
structure Bk where
  b : Nat
  t : TypeId
  k : Nat
  cap : Nat
  c : List Value
def Bk.holds (w : World) (x : Bk) : Prop := ∃ cur : Array Value, w.heap[x.b]? = some (.cells cur x.t (0, 0)) ∧ cur.size = x.cap * x.k ∧ x.cap ≤ maxLen ∧ x.c <+: cur.toList
structure Has (W : World) (M : List Nat) (L : List Bk) (w : World) : Prop where
  ex : Ex M W w
  bk : ∀ x ∈ L, x.holds w ∧ (x.b ∈ M ∨ W.heap.size ≤ x.b)
  nd : (L.map (·.b)).Nodup
def Ro (w : World) (b o : Nat) (c : List Value) : Prop := ∀ j v, c[j]? = some v → w.cell? ⟨b, o + j, none⟩ = some v
section
variable {W w w' : World} {M : List Nat} {L L' : List Bk} {x : Bk}
theorem Bk.holds.lt (h : x.holds w) : x.b < w.heap.size := by
  obtain ⟨cur, h1, _⟩ := h
  exact (Array.getElem?_eq_some_iff.1 h1).1
theorem Bk.holds.cell (h : x.holds w) {j : Nat} {v : Value} (hv : x.c[j]? = some v) : w.cell? ⟨x.b, j, none⟩ = some v := by
  obtain ⟨cur, h1, _, _, t, h2⟩ := h
  simp only [World.cell?, h1, Option.isSome_none, Bool.false_eq_true, if_false]
  rw [← Array.getElem?_toList, ← h2, List.getElem?_append_left (by exact (List.getElem?_eq_some_iff.1 hv).1)]
  exact hv
theorem Bk.holds.ro (h : x.holds w) : Ro w x.b 0 x.c := fun j v hv => by rw [Nat.zero_add]; exact h.cell hv
theorem Bk.holds.froz (h : x.holds w) (j : Nat) : w.frozen? ⟨x.b, j, none⟩ = false := by
  obtain ⟨cur, h1, _⟩ := h
  simp [World.frozen?, h1]
theorem Bk.holds.of_block (h : x.holds w) (hw : w'.heap[x.b]? = w.heap[x.b]?) : x.holds w' := by
  obtain ⟨cur, h1, r⟩ := h
  exact ⟨cur, hw.trans h1, r⟩
theorem Has.start (w : World) : Has w [] [] w := ⟨Ex.refl _ _, by simp, by simp⟩
theorem Has.start1 {w : World} {x : Bk} (h : x.holds w) : Has w [x.b] [x] w := ⟨Ex.refl _ _, by simpa using h, by simp⟩
theorem Has.sub (h : Has W M L w) (hs : List.Sublist L' L) : Has W M L' w := ⟨h.ex, fun y hy => h.bk y (hs.subset hy), h.nd.sublist (hs.map _)⟩
theorem Has.perm (h : Has W M L w) (hp : List.Perm L' L) : Has W M L' w := ⟨h.ex, fun y hy => h.bk y (hp.mem_iff.1 hy), (hp.map _).nodup_iff.2 h.nd⟩
theorem Has.swap {y : Bk} (h : Has W M (x :: y :: L) w) : Has W M (y :: x :: L) w := h.perm (.swap _ _ _)
theorem Has.drew (h : Has W M L w) : Has W M L w.drew := ⟨h.ex.drew, h.bk, h.nd⟩
theorem Has.size (h : Has W M L w) : W.heap.size ≤ w.heap.size := h.ex.size
theorem Has.at' (h : Has W M L w) (hx : x ∈ L) : x.holds w := (h.bk x hx).1
theorem Has.ro (h : Has W M L w) {b o : Nat} {c : List Value} (hr : Ro W b o c) (hb : b ∉ M) : Ro w b o c := fun j v hv => by
  have h1 := hr j v hv
  rw [h.ex.cell (p := ⟨b, o + j, none⟩) (block_lt_of_cell h1) hb]; exact h1
theorem Has.alloc (h : Has W M L w) {c : Array Value} {t : TypeId} {k cap : Nat} (hc : c.size = cap * k) (hm : cap ≤ maxLen) : Has W M (⟨w.heap.size, t, k, cap, c.toList⟩ :: L) (w.alloc (.cells c t)) := by
  refine ⟨h.ex.alloc _, fun y hy => ?_, ?_⟩
  · rcases List.mem_cons.1 hy with rfl | hy
    · exact ⟨⟨c, heap_alloc_new w _, hc, hm, List.prefix_refl _⟩, .inr h.size⟩
    · exact ⟨(h.at' hy).of_block (Below.heap_alloc w _ _ (h.at' hy).lt), (h.bk y hy).2⟩
  · simp only [List.map_cons, List.nodup_cons]
    refine ⟨fun hm => ?_, h.nd⟩
    obtain ⟨y, hy, he⟩ := List.mem_map.1 hm
    have := (h.at' hy).lt
    omega
inductive Upd : Bk → Bk → List Bk → List Bk → Prop
  | head {x y : Bk} {L : List Bk} : Upd x y (x :: L) (y :: L)
  | tail {x y z : Bk} {L L' : List Bk} : Upd x y L L' → Upd x y (z :: L) (z :: L')
theorem Upd.mem {y : Bk} (h : Upd x y L L') : x ∈ L := by
  induction h with
  | head => exact List.Mem.head _
  | tail _ ih => exact List.Mem.tail _ ih
theorem Upd.map {y : Bk} (h : Upd x y L L') (hb : y.b = x.b) : L'.map (·.b) = L.map (·.b) := by
  induction h with
  | head => simp [hb]
  | tail _ ih => simp [ih]
theorem Upd.split {y : Bk} (h : Upd x y L L') : ∀ z ∈ L', z = y ∨ z ∈ L := by
  induction h with
  | head =>
    intro z hz
    rcases List.mem_cons.1 hz with rfl | hz
    · exact .inl rfl
    · exact .inr (List.Mem.tail _ hz)
  | tail _ ih =>
    intro z hz
    rcases List.mem_cons.1 hz with rfl | hz
    · exact .inr (List.Mem.head _)
    · rcases ih z hz with h | h
      · exact .inl h
      · exact .inr (List.Mem.tail _ h)
theorem Upd.other {y : Bk} (h : Upd x y L L') (hb : y.b = x.b) (hn : (L.map (·.b)).Nodup) : ∀ z ∈ L', z = y ∨ (z ∈ L ∧ z.b ≠ x.b) := by
  induction h with
  | head =>
    intro z hz
    simp only [List.map_cons, List.nodup_cons] at hn
    rcases List.mem_cons.1 hz with rfl | hz
    · exact .inl rfl
    · exact .inr ⟨List.Mem.tail _ hz, fun he => hn.1 (he ▸ List.mem_map.2 ⟨z, hz, rfl⟩)⟩
  | @tail z0 L L' hu ih =>
    intro z hz
    simp only [List.map_cons, List.nodup_cons] at hn
    rcases List.mem_cons.1 hz with rfl | hz
    · exact .inr ⟨List.Mem.head _, fun he => hn.1 (he ▸ List.mem_map.2 ⟨x, hu.mem, rfl⟩)⟩
    · rcases ih hn.2 z hz with h | ⟨h, hne⟩
      · exact .inl h
      · exact .inr ⟨List.Mem.tail _ h, hne⟩
theorem Has.set (h : Has W M L w) {b t k cap j : Nat} {c : List Value} {v : Value} (hu : Upd ⟨b, t, k, cap, c⟩ ⟨b, t, k, cap, c.set j v⟩ L L') : Has W M L' (w.setCell ⟨b, j, none⟩ v) := by
  obtain ⟨hx, hxm⟩ := h.bk _ hu.mem
  refine ⟨h.ex.setCell hxm v, fun z hz => ?_, by rw [hu.map rfl]; exact h.nd⟩
  rcases hu.other rfl h.nd z hz with rfl | ⟨hz, hne⟩
  · refine ⟨?_, hxm⟩
    obtain ⟨cur, h1, h2, h3, t', h4⟩ := hx
    refine ⟨cur.setIfInBounds j v, heap_setCell_same w b j cur t v h1, by simpa using h2, h3, ?_⟩
    simp only at h4 ⊢
    rw [Array.toList_setIfInBounds, ← h4, List.set_append]
    split
    · exact ⟨_, rfl⟩
    · rename_i hj
      rw [List.set_eq_of_length_le (by omega)]
      exact ⟨_, rfl⟩
  · exact ⟨(h.at' hz).of_block (heap_setCell_other w _ _ _ hne), (h.bk z hz).2⟩
def setCells' (w : World) (b j : Nat) : List Value → World
  | [] => w
  | v :: r => setCells' (w.setCell ⟨b, j, none⟩ v) b (j + 1) r
def setAll (c : List Value) (j : Nat) : List Value → List Value
  | [] => c
  | v :: r => setAll (c.set j v) (j + 1) r
theorem Upd.refl_to {y z : Bk} (h : Upd x y L L') (hz : z.b = x.b) : ∃ L2, Upd x z L L2 ∧ Upd z y L2 L' := by
  induction h with
  | head => exact ⟨_, .head, .head⟩
  | tail _ ih =>
    obtain ⟨L2, h1, h2⟩ := ih
    exact ⟨_, .tail h1, .tail h2⟩
theorem Has.setAll : ∀ (vs : List Value) {w : World} {L L' : List Bk} (_ : Has W M L w) {b t k cap j : Nat} {c : List Value} (_ : Upd ⟨b, t, k, cap, c⟩ ⟨b, t, k, cap, Ad.setAll c j vs⟩ L L'), Has W M L' (setCells' w b j vs)
  | [], w, L, L', h, b, t, k, cap, j, c, hu => by
    have hs : L' = L := by
      simp only [Ad.setAll] at hu
      generalize hx : (⟨b, t, k, cap, c⟩ : Bk) = x at hu
      have : ∀ {x y : Bk} {L L' : List Bk}, Upd x y L L' → x = y → L' = L := by
        intro x y L L' h
        induction h with
        | head => rintro rfl; rfl
        | tail _ ih => intro he; rw [ih he]
      exact this hu rfl
    rw [hs]; exact h
  | v :: r, w, L, L', h, b, t, k, cap, j, c, hu => by
    obtain ⟨L2, h1, h2⟩ := hu.refl_to (z := ⟨b, t, k, cap, c.set j v⟩) rfl
    exact Has.setAll r (h.set h1) h2
inductive Sel : Bk → List Bk → List Bk → Prop
  | head {x : Bk} {L : List Bk} : Sel x (x :: L) L
  | tail {x z : Bk} {L L' : List Bk} : Sel x L L' → Sel x (z :: L) (z :: L')
theorem Sel.mem (h : Sel x L L') : x ∈ L := by
  induction h with
  | head => exact List.Mem.head _
  | tail _ ih => exact List.Mem.tail _ ih
theorem Sel.sublist (h : Sel x L L') : List.Sublist L' L := by
  induction h with
  | head => exact List.sublist_cons_self _ _
  | tail _ ih => exact ih.cons_cons _
theorem Sel.other (h : Sel x L L') (hn : (L.map (·.b)).Nodup) : ∀ z ∈ L', z.b ≠ x.b := by
  induction h with
  | head =>
    intro z hz he
    simp only [List.map_cons, List.nodup_cons] at hn
    exact hn.1 (he ▸ List.mem_map.2 ⟨z, hz, rfl⟩)
  | @tail z0 L L' hs ih =>
    intro z hz he
    simp only [List.map_cons, List.nodup_cons] at hn
    rcases List.mem_cons.1 hz with rfl | hz
    · exact hn.1 (he ▸ List.mem_map.2 ⟨x, hs.mem, rfl⟩)
    · exact ih hn.2 z hz he
end
def Does (P : Program) (f : FuncId) (args : List Value) (W : World) (M : List Nat) (Post : Value → List Bk → Prop) : Prop :=
  Calls P f args.toArray W fun e w' => ∃ v L, e = .returned v ∧ Has W M L w' ∧ Post v L
theorem Does.post {P : Program} {f : FuncId} {args : List Value} {W : World} {M : List Nat} {Post Post' : Value → List Bk → Prop} (h : Does P f args W M Post) (hp : ∀ v L, Post v L → Post' v L) : Does P f args W M Post' :=
  Calls.mono h fun _ _ ⟨v, L, h1, h2, h3⟩ => ⟨v, L, h1, h2, hp v L h3⟩
theorem Has.call {W w w' : World} {M : List Nat} {L L' : List Bk} (h : Has W M L w) (k : Has w [] L' w') : Has W M (L' ++ L) w' := by
  refine ⟨h.ex.trans (k.ex.mono (by simp)), fun x hx => ?_, ?_⟩
  · rcases List.mem_append.1 hx with hx | hx
    · obtain ⟨h1, h2⟩ := k.bk x hx
      rcases h2 with h2 | h2
      · simp at h2
      · exact ⟨h1, .inr (Nat.le_trans h.size h2)⟩
    · obtain ⟨h1, h2⟩ := h.bk x hx
      exact ⟨h1.of_block (k.ex.block x.b h1.lt (by simp)), h2⟩
  · rw [List.map_append, List.nodup_append]
    refine ⟨k.nd, h.nd, fun i hi j hj he => ?_⟩
    obtain ⟨x, hx, rfl⟩ := List.mem_map.1 hi
    obtain ⟨y, hy, rfl⟩ := List.mem_map.1 hj
    have h1 := (h.at' hy).lt
    rcases (k.bk x hx).2 with h2 | h2
    · simp at h2
    · omega
section
variable {P : Program} {W : World} {M : List Nat} {ops : Array Oper} {Q : Exit → Act → World → Prop} {rest : List Oper} {ov : Ov} {base : List Value} {L L' : List Bk}
def QL (W : World) (M : List Nat) (K : Act → World → Prop) (ov : Ov) (base : List Value) (L : List Bk) : Prop := ∀ a w, Rep ov base a → Has W M L w → K a w
def wpC (P : Program) (W : World) (M : List Nat) (c : Code) (Q : Exit → Act → World → Prop) (ov : Ov) (base : List Value) (L : List Bk) : Prop := QL W M (c.wp P Q) ov base L
def wpL (P : Program) (W : World) (M : List Nat) (ops : Array Oper) (Q : Exit → Act → World → Prop) (rest : List Oper) (ov : Ov) (base : List Value) (L : List Bk) : Prop := QL W M (wpList P ops Q rest) ov base L
def wpO (P : Program) (W : World) (M : List Nat) (ops : Array Oper) (Q : Exit → Act → World → Prop) (T : Nat → Bool) (L0 : List Bk) (l : List (Nat × Bool × Oper)) (ov : Ov) (base : List Value) (L : List Bk) : Prop := QL W M (wpOrdO P ops Q (Has W M L0) T l) ov base L
theorem QL.sub {K : Act → World → Prop} (hs : List.Sublist L' L) (h : QL W M K ov base L') : QL W M K ov base L := fun a w hr hH => h a w hr (hH.sub hs)
theorem wpC.sub {c : Code} (hs : List.Sublist L' L) (h : wpC P W M c Q ov base L') : wpC P W M c Q ov base L := QL.sub hs h
def Y (P : Program) (W : World) (M : List Nat) (L : List Bk) (ρ : Operand → Value) (op : Op) (ty : TypeId) (v : Value) : Prop :=
  ∀ w, Has W M L w → ∀ o : Oper, o.op = op → o.type = ty → (execOp ρ o).run P w = .ok (.value v) w
def S (P : Program) (W : World) (M : List Nat) (L : List Bk) (ρ : Operand → Value) (op : Op) (ty : TypeId) (L' : List Bk) : Prop :=
  ∀ w, Has W M L w → ∀ o : Oper, o.op = op → o.type = ty → ∃ w', (execOp ρ o).run P w = .ok .skip w' ∧ Has W M L' w'
def N {α : Type} (P : Program) (W : World) (M : List Nat) (L : List Bk) (ρ : Operand → Value) (op : Op) (ty : TypeId) (φ : α → Prop) (F : α → Value) (G : α → List Bk) : Prop :=
  ∀ w, Has W M L w → ∀ o : Oper, o.op = op → o.type = ty → ∃ x w', φ x ∧ (execOp ρ o).run P w = .ok (.value (F x)) w' ∧ Has W M (G x) w'
theorem s_y {d : Nat} {op : Op} {ty : TypeId} {pos : String} {aft : Array Edge} {g : Option (Nat × Bool)} {v : Value} (hy : Y P W M L (ev ov base) op ty v) (hw : wantedL ops ov base ⟨some d, op, ty, pos, aft, g⟩ = true) (hd : Nat.blt d base.length = true)
    (k : wpL P W M ops Q rest ((d, v) :: ov) base L) : wpL P W M ops Q (⟨some d, op, ty, pos, aft, g⟩ :: rest) ov base L := fun a w hr hH => by
  refine G_val (by rw [hr.wanted]; exact hw) (v := v) (w' := w) (by rw [hr.eval]; exact hy w hH _ rfl rfl) (k _ _ (hr.put v hd) hH)
theorem s_pass {d : Nat} {op : Op} {ty : TypeId} {pos : String} {aft : Array Edge} {g : Option (Nat × Bool)} (hw : wantedL ops ov base ⟨some d, op, ty, pos, aft, g⟩ = false) (hd : Nat.blt d base.length = true)
    (k : wpL P W M ops Q rest ((d, undef) :: ov) base L) : wpL P W M ops Q (⟨some d, op, ty, pos, aft, g⟩ :: rest) ov base L := fun a w hr hH => by
  refine wpList_step fun K hK => ?_
  rw [hr.wanted, hw, if_neg (by simp)]
  exact hK _ _ (k _ _ (hr.put undef hd) hH)
theorem s_s {op : Op} {ty : TypeId} {pos : String} {aft : Array Edge} {g : Option (Nat × Bool)} (hs : S P W M L (ev ov base) op ty L') (hw : wantedL ops ov base ⟨none, op, ty, pos, aft, g⟩ = true)
    (k : wpL P W M ops Q rest ov base L') : wpL P W M ops Q (⟨none, op, ty, pos, aft, g⟩ :: rest) ov base L := fun a w hr hH => by
  obtain ⟨w', h1, h2⟩ := hs w hH ⟨none, op, ty, pos, aft, g⟩ rfl rfl
  exact G_skip (by rw [hr.wanted]; exact hw) (w' := w') (by rw [hr.eval]; exact h1) (k _ _ hr h2)
theorem s_n {α : Type} {d : Nat} {op : Op} {ty : TypeId} {pos : String} {aft : Array Edge} {g : Option (Nat × Bool)} {φ : α → Prop} {F : α → Value} {G : α → List Bk} (hn : N P W M L (ev ov base) op ty φ F G)
    (hw : wantedL ops ov base ⟨some d, op, ty, pos, aft, g⟩ = true) (hd : Nat.blt d base.length = true)
    (k : ∀ x, φ x → wpL P W M ops Q rest ((d, F x) :: ov) base (G x)) : wpL P W M ops Q (⟨some d, op, ty, pos, aft, g⟩ :: rest) ov base L := fun a w hr hH => by
  obtain ⟨x, w', h1, h2, h3⟩ := hn w hH ⟨some d, op, ty, pos, aft, g⟩ rfl rfl
  exact G_val (by rw [hr.wanted]; exact hw) (v := F x) (w' := w') (by rw [hr.eval]; exact h2) (k x h1 _ _ (hr.put _ hd) h3)
def En (P : Program) (W : World) (M : List Nat) (L : List Bk) (ρ : Operand → Value) (op : Op) (ty : TypeId) (f : FuncId) (vs : List Value) : Prop :=
  ∀ w, Has W M L w → ∀ o : Oper, o.op = op → o.type = ty → (execOp ρ o).run P w = .ok (.enter f vs.toArray) w
theorem s_c {d : Nat} {op : Op} {ty : TypeId} {pos : String} {aft : Array Edge} {g : Option (Nat × Bool)} {f : FuncId} {vs : List Value} {Post : Value → List Bk → Prop} (he : En P W M L (ev ov base) op ty f vs)
    (hc : ∀ w, Has W M L w → Does P f vs w [] Post) (hw : wantedL ops ov base ⟨some d, op, ty, pos, aft, g⟩ = true) (hd : Nat.blt d base.length = true)
    (k : ∀ v L', Post v L' → wpL P W M ops Q rest ((d, v) :: ov) base (L' ++ L)) : wpL P W M ops Q (⟨some d, op, ty, pos, aft, g⟩ :: rest) ov base L := fun a w hr hH => by
  refine G_enter (by rw [hr.wanted]; exact hw) (by rw [hr.eval]; exact he w hH _ rfl rfl) ((hc w hH).mono ?_)
  rintro e w' ⟨v, L', rfl, h1, h2⟩
  exact ⟨v, rfl, k v L' h2 _ _ (hr.put v hd) (hH.call h1)⟩
theorem s_nil (k : QL W M (Q .normal) ov base L) : wpL P W M ops Q [] ov base L := k
theorem s_split {d : Nat} {t : Bool} (hv : ov.get base d = .bool t) (h1 : t = true → wpL P W M ops Q rest ((d, .bool true) :: ov) base L) (h2 : t = false → wpL P W M ops Q rest ((d, .bool false) :: ov) base L) : wpL P W M ops Q rest ov base L := by
  have hre : ∀ a, Rep ov base a → Rep ((d, .bool t) :: ov) base a := fun a h => ⟨h.defers, h.size, fun e => by
    rw [h.get e]
    simp only [Ov.get]
    by_cases hde : d = e
    · subst hde
      have : Nat.beq d d = true := by simp
      rw [this, hv]; rfl
    · have : Nat.beq d e = false := nbeq hde
      rw [this]; rfl⟩
  cases t
  · exact fun a w hr hH => h2 rfl a w (hre a hr) hH
  · exact fun a w hr hH => h1 rfl a w (hre a hr) hH
theorem c_seq {x y : Code} (h : wpC P W M x (Exit.then (y.wp P Q) Q) ov base L) : wpC P W M (.seq x y) Q ov base L := fun a w hr hH => wp_seq (h a w hr hH)
theorem c_skip (h : QL W M (Q .normal) ov base L) : wpC P W M .skip Q ov base L := fun a w hr hH => wp_skip (h a w hr hH)
theorem c_exit {i : Nat} (h : QL W M (Q (.exit i)) ov base L) : wpC P W M (.exit i) Q ov base L := fun a w hr hH => wp_exit (h a w hr hH)
theorem c_ret (h : QL W M (Q .ret) ov base L) : wpC P W M .ret Q ov base L := fun a w hr hH => wp_ret (h a w hr hH)
theorem c_block {i : Nat} {c : Code} (h : wpC P W M c (Exit.inBlock i Q) ov base L) : wpC P W M (.block i c) Q ov base L := fun a w hr hH => wp_block (h a w hr hH)
theorem c_cond {c : Operand} {x y : Code} {t : Bool} (hc : ev ov base c = .bool t) (h1 : t = true → wpC P W M x Q ov base L) (h2 : t = false → wpC P W M y Q ov base L) : wpC P W M (.cond c x y) Q ov base L := fun a w hr hH =>
  wp_cond_split (by rw [hr.eval]; exact hc) (fun h => h1 h a w hr hH) (fun h => h2 h a w hr hH)
theorem c_cond' {c : Operand} {x y : Code} {p : Prop} [Decidable p] (hc : ev ov base c = .bool (decide p)) (h1 : p → wpC P W M x Q ov base L) (h2 : ¬ p → wpC P W M y Q ov base L) : wpC P W M (.cond c x y) Q ov base L :=
  c_cond hc (fun h => h1 (of_decide_eq_true h)) (fun h => h2 (of_decide_eq_false h))
theorem c_reg {i : Nat} {l : List Oper} (h : wpL P W M l.toArray Q l ov base L) : wpC P W M (.region i l.toArray false) Q ov base L := fun a w hr hH => wp_region_lit (h a w hr hH)
theorem q_then {y : Code} {Q' : Exit → Act → World → Prop} (h : wpC P W M y Q ov base L) : QL W M (Exit.then (y.wp P Q) Q' .normal) ov base L := h
theorem q_exit {i : Nat} (h : QL W M (Q .normal) ov base L) : QL W M (Exit.inBlock i Q (.exit i)) ov base L := fun a w hr hH => by
  simp only [Exit.inBlock, if_true]; exact h a w hr hH
theorem q_past {i j : Nat} (hn : Nat.beq i j = false) (h : QL W M (Q (.exit i)) ov base L) : QL W M (Exit.inBlock j Q (.exit i)) ov base L := fun a w hr hH => by
  have : ¬ i = j := Nat.ne_of_beq_eq_false hn
  simp only [Exit.inBlock, this, if_false]; exact h a w hr hH
end
end Go.Ad
set_option linter.unusedVariables false
namespace Go.Ad
open Go.RowKit Go.Maps
section
variable {P : Program} {W : World} {M : List Nat} {L L' : List Bk} {ρ : Operand → Value} {x y c : Operand} {ty t t' : TypeId} {v : Value} {k : IntKind} {a b : Int}
theorem Y_move (h : ρ x = v) : Y P W M L ρ (.move x) ty v := fun w _ o ho _ => by
  unfold execOp; rw [ho]; simp [h]
inductive Gt : Ov → List Value → Nat → Value → Prop
  | here {d : Nat} {v : Value} {ov : Ov} {base : List Value} : Gt ((d, v) :: ov) base d v
  | there {k d : Nat} {u v : Value} {ov : Ov} {base : List Value} (h : Nat.beq k d = false) (g : Gt ov base d v) : Gt ((k, u) :: ov) base d v
  | base {d : Nat} {v : Value} {base : List Value} (h : base[d]? = some v) : Gt [] base d v
theorem Gt.eq {ov : Ov} {base : List Value} {d : Nat} (h : Gt ov base d v) : ov.get base d = v := by
  induction h with
  | here => simp only [Ov.get]; rw [show Nat.beq _ _ = true from by simp]; rfl
  | there h _ ih => simp only [Ov.get, h, cond_false]; exact ih
  | base h => simp [Ov.get, List.getD_eq_getElem?_getD, h]
theorem Y_mv {ov : Ov} {base : List Value} {d : Nat} (h : Gt ov base d v := by repeat (first | exact Gt.here | apply Gt.there (by rfl) | exact Gt.base (by rfl))) : Y P W M L (ev ov base) (.move (.tmp d)) ty v := Y_move h.eq
theorem Y_as {ov : Ov} {base : List Value} {d : Nat} (h : Gt ov base d v := by repeat (first | exact Gt.here | apply Gt.there (by rfl) | exact Gt.base (by rfl))) : Y P W M L (ev ov base) (.assign (.tmp d)) ty v := fun w _ o ho _ => by
  unfold execOp; rw [ho]; simp [ev, h.eq]
theorem Y_pick {p q : Operand} {u : Bool} (hc : ρ c = .bool u) {v1 v2 : Value} (h1 : ρ p = v1) (h2 : ρ q = v2) : Y P W M L ρ (.pick c p q) ty (if u then v1 else v2) := fun w _ o ho _ => by
  unfold execOp; rw [ho]; simp only [hc, asBool, Sem.run_bind, Sem.run_pure, Result.andThen_ok, h1, h2]
theorem bin_run {op : BinOp} {xt yt : TypeId} (h : (binOp op xt (.int k a) (.int k b)).run P = fun w => .ok v w) (hx : ρ x = .int k a) (hy : ρ y = .int k b) : Y P W M L ρ (.binOp op xt x y yt) ty v := fun w _ o ho _ => by
  unfold execOp
  rw [ho]
  simp only [hx, hy, Sem.run_bind]
  have he : (eqGuard op xt x y (.int k a) (.int k b)).run P w = .ok () w := by
    unfold eqGuard
    cases op <;> rfl
  rw [he]
  simp only [Result.andThen_ok, h, Sem.run_pure]
theorem Y_addw (hx : ρ x = .int k a) (hy : ρ y = .int k b) : Y P W M L ρ (.binOp .add t x y t') ty (.int k (k.wrap (a + b))) := bin_run (by simp [binOp, Op.intArith]; rfl) hx hy
theorem Y_subw (hx : ρ x = .int k a) (hy : ρ y = .int k b) : Y P W M L ρ (.binOp .sub t x y t') ty (.int k (k.wrap (a - b))) := bin_run (by simp [binOp, Op.intArith]; rfl) hx hy
theorem Y_mulw (hx : ρ x = .int k a) (hy : ρ y = .int k b) : Y P W M L ρ (.binOp .mul t x y t') ty (.int k (k.wrap (a * b))) := bin_run (by simp [binOp, Op.intArith]; rfl) hx hy
theorem Y.num {op : Op} {n m : Int} (h : Y P W M L ρ op ty (.int k n)) (e : n = m) : Y P W M L ρ op ty (.int k m) := e ▸ h
theorem i64_id {n : Int} (h : -9223372036854775808 ≤ n ∧ n ≤ 9223372036854775807) : IntKind.i64.wrap n = n := by rw [IntKind.wrap_i64]; omega
theorem Y_add (hx : ρ x = .int .i64 a) (hy : ρ y = .int .i64 b) (h : -9223372036854775808 ≤ a + b ∧ a + b ≤ 9223372036854775807) : Y P W M L ρ (.binOp .add t x y t') ty (.int .i64 (a + b)) := (Y_addw hx hy).num (i64_id h)
theorem Y_sub (hx : ρ x = .int .i64 a) (hy : ρ y = .int .i64 b) (h : -9223372036854775808 ≤ a - b ∧ a - b ≤ 9223372036854775807) : Y P W M L ρ (.binOp .sub t x y t') ty (.int .i64 (a - b)) := (Y_subw hx hy).num (i64_id h)
theorem Y_mul (hx : ρ x = .int .i64 a) (hy : ρ y = .int .i64 b) (h : -9223372036854775808 ≤ a * b ∧ a * b ≤ 9223372036854775807) : Y P W M L ρ (.binOp .mul t x y t') ty (.int .i64 (a * b)) := (Y_mulw hx hy).num (i64_id h)
theorem Y_quow (hx : ρ x = .int k a) (hy : ρ y = .int k b) (hb : b ≠ 0) : Y P W M L ρ (.binOp .quo t x y t') ty (.int k (k.wrap (a.tdiv b))) := bin_run (by simp [binOp, Op.intDiv, hb]; rfl) hx hy
theorem Y_remw (hx : ρ x = .int k a) (hy : ρ y = .int k b) (hb : b ≠ 0) : Y P W M L ρ (.binOp .rem t x y t') ty (.int k (a.tmod b)) := bin_run (by simp [binOp, Op.intDiv, hb]; rfl) hx hy
theorem Y_quo (hx : ρ x = .int .i64 a) (hy : ρ y = .int .i64 b) (h : 0 ≤ a ∧ a ≤ 9223372036854775807 ∧ 0 < b) : Y P W M L ρ (.binOp .quo t x y t') ty (.int .i64 (a / b)) :=
  (Y_quow hx hy (by omega)).num (by
    rw [Int.tdiv_eq_ediv_of_nonneg h.1]
    have h1 := Int.ediv_nonneg h.1 (show 0 ≤ b by omega)
    have h2 := Int.ediv_le_self b h.1
    exact i64_id (by omega))
theorem Y_rem (hx : ρ x = .int k a) (hy : ρ y = .int k b) (h : 0 ≤ a ∧ 0 < b) : Y P W M L ρ (.binOp .rem t x y t') ty (.int k (a % b)) :=
  (Y_remw hx hy (by omega)).num (Int.tmod_eq_emod_of_nonneg h.1)
theorem Y_eql (hx : ρ x = .int k a) (hy : ρ y = .int k b) : Y P W M L ρ (.binOp .eql t x y t') ty (.bool (decide (a = b))) := bin_run (by simp [binOp, Op.intCmp]; rfl) hx hy
theorem Y_neq (hx : ρ x = .int k a) (hy : ρ y = .int k b) : Y P W M L ρ (.binOp .neq t x y t') ty (.bool (decide (a ≠ b))) := bin_run (by simp [binOp, Op.intCmp, bne, BEq.beq]; rfl) hx hy
theorem Y_lss (hx : ρ x = .int k a) (hy : ρ y = .int k b) : Y P W M L ρ (.binOp .lss t x y t') ty (.bool (decide (a < b))) := bin_run (by simp [binOp, Op.intCmp]; rfl) hx hy
theorem Y_leq (hx : ρ x = .int k a) (hy : ρ y = .int k b) : Y P W M L ρ (.binOp .leq t x y t') ty (.bool (decide (a ≤ b))) := bin_run (by simp [binOp, Op.intCmp]; rfl) hx hy
theorem Y_gtr (hx : ρ x = .int k a) (hy : ρ y = .int k b) : Y P W M L ρ (.binOp .gtr t x y t') ty (.bool (decide (a > b))) := bin_run (by simp [binOp, Op.intCmp]; rfl) hx hy
theorem Y_geq (hx : ρ x = .int k a) (hy : ρ y = .int k b) : Y P W M L ρ (.binOp .geq t x y t') ty (.bool (decide (a ≥ b))) := bin_run (by simp [binOp, Op.intCmp]; rfl) hx hy
theorem shl_run {j : IntKind} {op : BinOp} (hs : op = .shl ∨ op = .shr) (h : (Op.shift op k a j b).run P = fun w => .ok v w) (hx : ρ x = .int k a) (hy : ρ y = .int j b) : Y P W M L ρ (.binOp op t x y t') ty v := fun w _ o ho _ => by
  unfold execOp
  rw [ho]
  simp only [hx, hy, Sem.run_bind]
  have he : (eqGuard op t x y (.int k a) (.int j b)).run P w = .ok () w := by
    unfold eqGuard
    cases op <;> rfl
  rw [he]
  rcases hs with rfl | rfl <;> simp only [Result.andThen_ok, binOp, h, Sem.run_pure]
theorem Y_shl {j : IntKind} (hx : ρ x = .int k a) (hy : ρ y = .int j b) (hb : 0 ≤ b) : Y P W M L ρ (.binOp .shl t x y t') ty (.int k (k.wrap (a * 2 ^ min b.toNat k.bits))) := shl_run (.inl rfl) (by simp [Op.shift, show ¬ b < 0 by omega]; rfl) hx hy
theorem Y_shr {j : IntKind} (hx : ρ x = .int k a) (hy : ρ y = .int j b) (hb : 0 ≤ b) : Y P W M L ρ (.binOp .shr t x y t') ty (.int k (a.fdiv (2 ^ min b.toNat k.bits))) := shl_run (.inr rfl) (by simp [Op.shift, show ¬ b < 0 by omega]; rfl) hx hy
theorem Y_bits {op : BinOp} (hx : ρ x = .int k a) (hy : ρ y = .int k b) (h : (Op.intBits op k a b).run P = fun w => .ok v w) (ho : op = .and ∨ op = .or ∨ op = .xor ∨ op = .andNot) : Y P W M L ρ (.binOp op t x y t') ty v :=
  bin_run (by rcases ho with rfl | rfl | rfl | rfl <;> simpa [binOp] using h) hx hy
theorem Y_not {u : Bool} (hx : ρ x = .bool u) : Y P W M L ρ (.unOp .not t x) ty (.bool (!u)) := fun w _ o ho _ => by
  unfold execOp; rw [ho]; simp [hx, Op.unary]
theorem Y_convw {src dst : TypeId} {j : IntKind} {d : TypeDesc} (hx : ρ x = .int k a) (hs : P.underlying src = some d) (hd : P.underlying dst = some (.int j)) : Y P W M L ρ (.convert src dst x) ty (.int j (j.wrap a)) := fun w _ o ho _ => by
  unfold execOp
  simp only [ho, hx, convert, Sem.run_bind, run_underlying hs, run_underlying hd, Result.andThen_ok]
  cases d <;> simp [Conv.intToInt]
theorem Y_conv {src dst : TypeId} {j : IntKind} {d : TypeDesc} (hx : ρ x = .int k a) (hs : P.underlying src = some d) (hd : P.underlying dst = some (.int j)) (h : j.wrap a = a) : Y P W M L ρ (.convert src dst x) ty (.int j a) := (Y_convw hx hs hd).num h
theorem Y_extract {vs : Array Value} {i : Nat} (hx : ρ x = .tuple vs) (hv : vs[i]? = some v) : Y P W M L ρ (.extract x i) ty v := fun w _ o ho _ => by
  unfold execOp; rw [ho]; simp [hx, Instr.extract, hv]
theorem Y_nil {ad : Addr} (hx : ρ x = .pointer (some ad)) : Y P W M L ρ (.nilCheck x) ty (.pointer (some ad)) := fun w _ o ho _ => by
  unfold execOp; rw [ho]; simp [hx]
def aggD : TypeDesc → Bool
  | .struct _ | .array _ _ => true
  | _ => false
theorem x_load {w : World} {o : Oper} {p : Value} {u : TypeId} (ho : o.op = .load u x) (hx : ρ x = p) (h : (Instr.loadAt u p).run P w = .ok v w) : (execOp ρ o).run P w = .ok (.value v) w := by
  unfold execOp
  simp only [ho, hx, Sem.run_bind, h, Result.andThen_ok, Sem.run_pure]
theorem x_store {w w' : World} {o : Oper} {p : Value} {u : TypeId} (ho : o.op = .store u x y) (hx : ρ x = p) (hy : ρ y = v) (h : (Instr.storeAt u p v).run P w = .ok () w') : (execOp ρ o).run P w = .ok .skip w' := by
  unfold execOp
  simp only [ho, hx, hy, Sem.run_bind, h, Result.andThen_ok, Sem.run_pure]
theorem x_alloc {w : World} {o : Oper} {z : Value} {u : TypeId} (ho : o.op = .alloc u) (hz : (zeroValue u).run P w = .ok z w) : (execOp ρ o).run P w = .ok (.value (.pointer (some ⟨w.heap.size, 0, none⟩))) (w.alloc (.cells z.cells u)) := by
  unfold execOp
  simp [ho, Instr.alloc, hz, newVar, newRow, Result.andThen]
theorem run_isAgg {d : TypeDesc} (h : P.underlying t = some d) (w : World) : (isAgg t).run P w = .ok (aggD d) w := by
  unfold isAgg
  simp only [Sem.run_bind, run_underlying h, Result.andThen_ok]
  cases d <;> rfl
def Cel1 (P : Program) (t : TypeId) : Prop := ∃ d, P.underlying t = some d ∧ aggD d = false
theorem Cel1.mk {d : TypeDesc} (h : P.underlying t = some d) (hd : aggD d = false) : Cel1 P t := ⟨d, h, hd⟩
def CelN (P : Program) (t : TypeId) (n : Nat) : Prop := (∃ d, P.underlying t = some d ∧ aggD d = true) ∧ (P.info? t).map (·.size) = some n
theorem CelN.mk {d : TypeDesc} {n : Nat} (h : P.underlying t = some d) (hi : (P.info? t).map (·.size) = some n) (hd : aggD d = true) : CelN P t n := ⟨⟨d, h, hd⟩, hi⟩
theorem run_size {n : Nat} (hi : (P.info? t).map (·.size) = some n) (w : World) : (sizeOf t).run P w = .ok n w := by
  unfold sizeOf typeInfo
  cases h : P.info? t with
  | none => simp [h] at hi
  | some i =>
    simp [h] at hi
    simp [h, hi]
theorem run_load1 {w : World} {ad : Addr} (ht : Cel1 P ty) (h : w.cell? ad = some v) : (Instr.loadAt ty (.pointer (some ad))).run P w = .ok v w := by
  obtain ⟨d, h1, h2⟩ := ht
  simp only [Instr.loadAt, Instr.sureAddr, Sem.run_bind, Sem.run_pure, Result.andThen_ok, loadVar, run_isAgg h1, h2]
  simp [load, Sem.run, h]
theorem Y_load {b' j kk cap : Nat} {tt : TypeId} {cs : List Value} {u : TypeId} (hx : ρ x = .pointer (some ⟨b', j, none⟩)) (ht : Cel1 P u) (hm : ⟨b', tt, kk, cap, cs⟩ ∈ L) (hv : cs[j]? = some v) : Y P W M L ρ (.load u x) ty v := fun w hw o ho _ =>
  x_load ho hx (run_load1 ht ((hw.at' hm).cell hv))
theorem Y_loadR {b' j off i : Nat} {cs : List Value} {u : TypeId} (hx : ρ x = .pointer (some ⟨b', j, none⟩)) (ht : Cel1 P u) (hr : Ro W b' off cs) (hj : j = off + i) (hv : cs[i]? = some v) (hM : b' ∉ M := by simp) : Y P W M L ρ (.load u x) ty v := fun w hw o ho _ =>
  x_load ho hx (run_load1 ht (by rw [hj]; exact hw.ro hr hM i v hv))
theorem run_loadN {w : World} {b' j n : Nat} (ht : CelN P ty n) {vs : List Value} (hl : vs.length = n) (h : Ro w b' j vs) : (Instr.loadAt ty (.pointer (some ⟨b', j, none⟩))).run P w = .ok (.agg vs.toArray) w := by
  obtain ⟨⟨d, h1, h2⟩, h3⟩ := ht
  simp only [Instr.loadAt, Instr.sureAddr, Sem.run_bind, Sem.run_pure, Result.andThen_ok, loadVar, run_isAgg h1, h2, if_true, run_size h3]
  have := run_loadCells_list (P := P) w ⟨b', j, none⟩ vs (fun i v hv => by rw [Addr.add_mid]; exact h i v hv)
  rw [← hl, this]
  rfl
theorem Y_loadN {b' j kk cap n : Nat} {tt : TypeId} {cs vs : List Value} {u : TypeId} (hx : ρ x = .pointer (some ⟨b', j, none⟩)) (ht : CelN P u n) (hm : ⟨b', tt, kk, cap, cs⟩ ∈ L) (hl : vs.length = n) (hv : ∀ i v, vs[i]? = some v → cs[j + i]? = some v) : Y P W M L ρ (.load u x) ty (.agg vs.toArray) := fun w hw o ho _ =>
  x_load ho hx (run_loadN ht hl (fun i v h => (hw.at' hm).cell (hv i v h)))
theorem Y_loadNR {b' j n : Nat} {vs : List Value} {u : TypeId} (hx : ρ x = .pointer (some ⟨b', j, none⟩)) (ht : CelN P u n) (hr : Ro W b' j vs) (hl : vs.length = n) (hM : b' ∉ M := by simp) : Y P W M L ρ (.load u x) ty (.agg vs.toArray) := fun w hw o ho _ =>
  x_load ho hx (run_loadN ht hl (hw.ro hr hM))
theorem Y_loadAll {b' kk cap n : Nat} {tt : TypeId} {cs : List Value} {u : TypeId} (hx : ρ x = .pointer (some ⟨b', 0, none⟩)) (ht : CelN P u n) (hm : ⟨b', tt, kk, cap, cs⟩ ∈ L) (hl : cs.length = n) : Y P W M L ρ (.load u x) ty (.agg cs.toArray) :=
  Y_loadN hx ht hm hl (fun i v h => by rw [Nat.zero_add]; exact h)
theorem run_store1 {w : World} {b' j : Nat} {u : Value} (hi : (P.info? ty).map (·.size) = some 1) (h1 : u.oneCell' = true) (hc : ∃ v, w.cell? ⟨b', j, none⟩ = some v) (hf : w.frozen? ⟨b', j, none⟩ = false) :
    (Instr.storeAt ty (.pointer (some ⟨b', j, none⟩)) u).run P w = .ok () (w.setCell ⟨b', j, none⟩ u) := by
  obtain ⟨v, hc⟩ := hc
  have hcells : u.cells = #[u] := by cases u <;> simp_all [Value.cells, Value.oneCell']
  simp only [Instr.storeAt, Instr.sureAddr, Sem.run_bind, Sem.run_pure, Result.andThen_ok, storeVar, run_size hi, hcells]
  have hadd : (⟨b', j, none⟩ : Addr).add 0 = ⟨b', j, none⟩ := rfl
  simp only [List.size_toArray, List.length_cons, List.length_nil, Nat.zero_add, ne_eq, not_true_eq_false, if_false, Sem.run_pure, storeCells, hadd]
  cases u <;> simp_all [store, Sem.run, Value.oneCell', Result.andThen]
theorem S_store {b' j kk cap : Nat} {tt : TypeId} {cs cs' : List Value} {u : TypeId} (hx : ρ x = .pointer (some ⟨b', j, none⟩)) (hy : ρ y = v) (hi : (P.info? u).map (·.size) = some 1) (h1 : v.oneCell' = true)
    (hu : Upd ⟨b', tt, kk, cap, cs⟩ ⟨b', tt, kk, cap, cs'⟩ L L') (hc : cs.set j v = cs') (hj : j < cs.length) : S P W M L ρ (.store u x y) ty L' := fun w hw o ho _ => by
  subst hc
  exact ⟨_, x_store ho hx hy (run_store1 hi h1 ⟨cs[j], (hw.at' hu.mem).cell (by simp [hj])⟩ ((hw.at' hu.mem).froz j)), hw.set hu⟩
theorem S_st {ov : Ov} {base : List Value} {d b' j kk cap : Nat} {tt : TypeId} {cs cs' : List Value} {u : TypeId} (hx : ev ov base x = .pointer (some ⟨b', j, none⟩)) (hy : Gt ov base d v) (hi : (P.info? u).map (·.size) = some 1) (h1 : v.oneCell' = true)
    (hu : Upd ⟨b', tt, kk, cap, cs⟩ ⟨b', tt, kk, cap, cs'⟩ L L') (hc : cs.set j v = cs') (hj : j < cs.length) : S P W M L (ev ov base) (.store u x (.tmp d)) ty L' := S_store hx hy.eq hi h1 hu hc hj
theorem S_stC {b' j kk cap : Nat} {tt : TypeId} {cs cs' : List Value} {u : TypeId} {ov : Ov} {base : List Value} (hx : ev ov base x = .pointer (some ⟨b', j, none⟩)) (hi : (P.info? u).map (·.size) = some 1) (h1 : v.oneCell' = true)
    (hu : Upd ⟨b', tt, kk, cap, cs⟩ ⟨b', tt, kk, cap, cs'⟩ L L') (hc : cs.set j v = cs') (hj : j < cs.length) : S P W M L (ev ov base) (.store u x (.const v)) ty L' := S_store hx rfl hi h1 hu hc hj
theorem Y_mvC {ov : Ov} {base : List Value} : Y P W M L (ev ov base) (.move (.const v)) ty v := Y_move rfl
theorem Y_asC {ov : Ov} {base : List Value} : Y P W M L (ev ov base) (.assign (.const v)) ty v := fun w _ o ho _ => by
  unfold execOp; rw [ho]; rfl
theorem i64_u8 (x : UInt8) : IntKind.i64.wrap (x.toNat : Int) = x.toNat := i64_id (by have := x.toNat_lt; omega)
theorem u64_u8 (x : UInt8) : IntKind.u64.wrap (x.toNat : Int) = x.toNat := by rw [IntKind.wrap_u64]; have := x.toNat_lt; omega
theorem u64_id {n : Int} (h : 0 ≤ n ∧ n < 18446744073709551616) : IntKind.u64.wrap n = n := by rw [IntKind.wrap_u64]; omega
theorem u8_id {n : Int} (h : 0 ≤ n ∧ n < 256) : IntKind.u8.wrap n = n := by rw [IntKind.wrap_u8]; omega
theorem u32_id {n : Int} (h : 0 ≤ n ∧ n < 4294967296) : IntKind.u32.wrap n = n := by rw [IntKind.wrap_u32]; omega
theorem N_alloc {z : Value} {cs : List Value} {u : TypeId} (hz : ∀ w, (zeroValue u).run P w = .ok z w) (hn : z.cells.toList = cs) : N P W M L ρ (.alloc u) ty (fun _ : Nat => True) (fun b => .pointer (some ⟨b, 0, none⟩)) (fun b => ⟨b, u, cs.length, 1, cs⟩ :: L) := fun w hw o ho _ => by
  subst hn
  exact ⟨w.heap.size, _, trivial, x_alloc ho (hz w), hw.alloc (by simp) (by unfold maxLen; omega)⟩
theorem N_box {cs : List Value} {u : TypeId} (hx : ρ x = .agg cs.toArray) : N P W M L ρ (.box u x) ty (fun _ : Nat => True) (fun b => .pointer (some ⟨b, 0, none⟩)) (fun b => ⟨b, u, cs.length, 1, cs⟩ :: L) := fun w hw o ho _ => by
  refine ⟨w.heap.size, w.alloc (.cells cs.toArray u), trivial, ?_, hw.alloc (c := cs.toArray) (by simp) (by unfold maxLen; omega)⟩
  unfold execOp
  simp [ho, Instr.box, hx, newVar, newRow, Value.cells, Result.andThen]
theorem N_box1 {u : TypeId} (hx : ρ x = v) (h1 : v.oneCell' = true) : N P W M L ρ (.box u x) ty (fun _ : Nat => True) (fun b => .pointer (some ⟨b, 0, none⟩)) (fun b => ⟨b, u, 1, 1, [v]⟩ :: L) := fun w hw o ho _ => by
  have hcells : v.cells = #[v] := by cases v <;> simp_all [Value.cells, Value.oneCell']
  refine ⟨w.heap.size, w.alloc (.cells #[v] u), trivial, ?_, hw.alloc (c := #[v]) (by simp) (by unfold maxLen; omega)⟩
  unfold execOp
  simp [ho, Instr.box, hx, newVar, newRow, hcells, Result.andThen]
theorem Y_fa {b' j i : Nat} {fs : Array Field} {f : Field} {n : Nat} {u : TypeId} (off : Nat) (hx : ρ x = .pointer (some ⟨b', j, none⟩)) (hu : P.underlying u = some (.struct fs)) (hf : fs[i]? = some f) (hs : (P.info? f.type).map (·.size) = some (n + 1)) (hoff : f.offset = off) : Y P W M L ρ (.fieldAddr u x i) ty (.pointer (some ⟨b', j + off, none⟩)) := fun w _ o ho _ => by
  subst hoff
  unfold execOp
  rw [ho]
  simp only [hx, Instr.fieldAt, Sem.run_bind, run_underlying hu, Result.andThen_ok, hf, Instr.sureAddr, Sem.run_pure, fieldPlace, run_size hs]
  simp [Addr.add_mid]
theorem Y_ia {b' off len cap n kk : Nat} {ik : IntKind} {z : Int} {e u : TypeId} {ix : Operand} (hx : ρ x = .slice (some ⟨b', off, none⟩) len cap) (hi : ρ ix = .int ik z) (hu : P.underlying u = some (.slice e)) (hs : (P.info? e).map (·.size) = some kk) (hz : z = (n : Int)) (hl : n < len) :
    Y P W M L ρ (.indexAddr u x ix) ty (.pointer (some ⟨b', off + n * kk, none⟩)) := fun w _ o ho _ => by
  unfold execOp
  rw [ho]
  subst hz
  have h1 : (0 : Int) ≤ (n : Int) ∧ (n : Int) < len := by omega
  simp only [hx, hi, Instr.indexAt, asIntOf, Sem.run_bind, Sem.run_pure, run_underlying hu, Result.andThen_ok, run_size hs, h1, and_self, if_true, Int.toNat_natCast, Addr.add_mid]
theorem Y.ptr {op : Op} {p q : Addr} (h : Y P W M L ρ op ty (.pointer (some p))) (e : p = q) : Y P W M L ρ op ty (.pointer (some q)) := e ▸ h
theorem Y_ia1 {b' off len cap n : Nat} {ik : IntKind} {z : Int} {e u : TypeId} {ix : Operand} (hx : ρ x = .slice (some ⟨b', off, none⟩) len cap) (hi : ρ ix = .int ik z) (hu : P.underlying u = some (.slice e)) (hs : (P.info? e).map (·.size) = some 1) (hz : z = (n : Int)) (hl : n < len) :
    Y P W M L ρ (.indexAddr u x ix) ty (.pointer (some ⟨b', off + n, none⟩)) := (Y_ia hx hi hu hs hz hl).ptr (by rw [Nat.mul_one])
theorem Y_iaA {b' off len n kk : Nat} {ik : IntKind} {z : Int} {e u : TypeId} {ix : Operand} (hx : ρ x = .pointer (some ⟨b', off, none⟩)) (hi : ρ ix = .int ik z) (hu : P.underlying u = some (.array len e)) (hs : (P.info? e).map (·.size) = some kk) (hz : z = (n : Int)) (hl : n < len) :
    Y P W M L ρ (.indexAddr u x ix) ty (.pointer (some ⟨b', off + n * kk, none⟩)) := fun w _ o ho _ => by
  unfold execOp
  rw [ho]
  subst hz
  have h1 : (0 : Int) ≤ (n : Int) ∧ (n : Int) < len := by omega
  simp only [hx, hi, Instr.indexAt, asIntOf, Sem.run_bind, Sem.run_pure, run_underlying hu, Result.andThen_ok, run_size hs, h1, and_self, if_true, Int.toNat_natCast, Addr.add_mid, Instr.sureAddr]
theorem Y_len {a' : Option Addr} {n cap : Nat} {e u : TypeId} {ts : Array TypeId} (hx : ρ x = .slice a' n cap) (ht : ts[0]? = some u) (hu : P.underlying u = some (.slice e)) : Y P W M L ρ (.call { callee := .builtin .len, args := #[x], argTypes := ts }) ty (.int .i64 n) := fun w _ o ho hty => by
  unfold execOp
  rw [ho]
  simp [resolve, invoke, builtin, Builtin.len_, hx, ht, run_underlying hu, Result.andThen, goInt]
def slAt (a : Option Addr) (cap l k : Nat) : Option Addr := if cap = l then a else a.map (·.add (l * k))
theorem slAt_zero (a : Option Addr) (cap k : Nat) : slAt a cap 0 k = a := by
  unfold slAt
  split
  · rfl
  · rw [Nat.zero_mul]; cases a <;> rfl
theorem Y_slHi {a' : Option Addr} {n cap h kk : Nat} {ik : IntKind} {z : Int} {e u : TypeId} {hi : Operand} (hx : ρ x = .slice a' n cap) (hh : ρ hi = .int ik z) (hu : P.underlying u = some (.slice e)) (hs : (P.info? e).map (·.size) = some kk) (hz : z = (h : Int)) (hl : h ≤ cap) :
    Y P W M L ρ (.slice u x none (some hi) none) ty (.slice a' h cap) := fun w _ o ho _ => by
  unfold execOp
  rw [ho]
  subst hz
  have h1 : (0 : Int) ≤ (h : Int) ∧ (h : Int) ≤ cap := by omega
  simp only [Option.map_some, Option.map_none, hx, hh, Instr.sliceAt, Instr.slice, Instr.sliceBounds, Instr.sliceBound, asIntOf, Sem.run_bind, Sem.run_pure, run_underlying hu, Result.andThen_ok, run_size hs, h1, and_self, if_true, Int.toNat_natCast, Nat.sub_zero]
  have := slAt_zero a' cap kk
  unfold slAt at this
  rw [this]
theorem Y_slLo {a' : Option Addr} {n cap l kk : Nat} {ik : IntKind} {z : Int} {e u : TypeId} {lo : Operand} (hx : ρ x = .slice a' n cap) (hh : ρ lo = .int ik z) (hu : P.underlying u = some (.slice e)) (hs : (P.info? e).map (·.size) = some kk) (hz : z = (l : Int)) (hl : l ≤ n) :
    Y P W M L ρ (.slice u x (some lo) none none) ty (.slice (slAt a' cap l kk) (n - l) (cap - l)) := fun w _ o ho _ => by
  unfold execOp
  rw [ho]
  subst hz
  have h1 : (0 : Int) ≤ (l : Int) ∧ (l : Int) ≤ n := by omega
  simp only [Option.map_some, Option.map_none, hx, hh, Instr.sliceAt, Instr.slice, Instr.sliceBounds, Instr.sliceBound, asIntOf, Sem.run_bind, Sem.run_pure, run_underlying hu, Result.andThen_ok, run_size hs, h1, and_self, if_true, Int.toNat_natCast]
  rfl
theorem Y_slLH {a' : Option Addr} {n cap l h kk : Nat} {ik jk : IntKind} {z y' : Int} {e u : TypeId} {lo hi : Operand} (hx : ρ x = .slice a' n cap) (hh : ρ lo = .int ik z) (hh2 : ρ hi = .int jk y') (hu : P.underlying u = some (.slice e)) (hs : (P.info? e).map (·.size) = some kk) (hz : z = (l : Int)) (hy : y' = (h : Int)) (hl : l ≤ h) (hc : h ≤ cap) :
    Y P W M L ρ (.slice u x (some lo) (some hi) none) ty (.slice (slAt a' cap l kk) (h - l) (cap - l)) := fun w _ o ho _ => by
  unfold execOp
  rw [ho]
  subst hz; subst hy
  have h1 : (0 : Int) ≤ (l : Int) ∧ (l : Int) ≤ h := by omega
  have h2 : (0 : Int) ≤ (h : Int) ∧ (h : Int) ≤ cap := by omega
  simp only [Option.map_some, Option.map_none, hx, hh, hh2, Instr.sliceAt, Instr.slice, Instr.sliceBounds, Instr.sliceBound, asIntOf, Sem.run_bind, Sem.run_pure, run_underlying hu, Result.andThen_ok, run_size hs, h1, h2, and_self, if_true, Int.toNat_natCast]
  rfl
theorem En_call {f : FuncId} {fn : Func} {args : List Operand} {ts : Array TypeId} {vs : List Value} (hρ : ∀ f, ρ (.func f) = .func (.func f) #[] #[]) (hf : P.funcs[f]? = some fn) (hb : fn.body.isNone = false) (hn : (fn.name == "runtime.NumGoroutine") = false) (hv : args.map ρ = vs) :
    En P W M L ρ (.call { callee := .value (.func f), args := args.toArray, argTypes := ts }) ty f vs := fun w _ o ho _ => by
  have h1 : ¬ fn.name = "runtime.NumGoroutine" := by intro h; simp [h] at hn
  have h2 : ¬ fn.body = none := by intro h; simp [h] at hb
  unfold execOp
  have ha : ρ (.func f) = .func (.func f) #[] #[] := hρ f
  simp [ho, resolve, ha, Deferred.ofValue, invoke, callFunc, hf, ← hv, Result.andThen, h1, h2]
end
section
variable {P : Program} {W : World} {M : List Nat} {ov : Ov} {base : List Value} {L L' : List Bk}
theorem enter {f : FuncId} {fn : Func} {cd : Code} {args : List Value} {n : Nat} {L0 : List Bk} {Post : Value → List Bk → Prop} (hf : P.funcs[f]? = some fn) (hb : fn.body = some cd) (hn : fn.ntmps = n) (hl : Nat.ble args.length n = true) (hL : Has W M L0 W)
    (h : wpC P W M cd (bodyPost P fn fun e w' => ∃ v L, e = .returned v ∧ Has W M L w' ∧ Post v L) [] (args ++ List.replicate (n - args.length) undef) L0) : Does P f args W M Post := by
  have hl' : args.length ≤ n := Nat.le_of_ble_eq_true hl
  refine calls_of_wp hf hb (h _ _ ⟨rfl, ?_, fun d => ?_⟩ hL)
  · simp [hn]
  · simp only [Ov.get, hn]
    rw [Array.getD_eq_getD_getElem?, List.getD_eq_getElem?_getD]
    congr 1
    rw [← Array.getElem?_toList]
    simp
theorem q_ret1 {fn : Func} {t : Nat} {v : Value} {Post : Value → List Bk → Prop} (hr : fn.results = #[.tmp t]) (hv : ov.get base t = v) (hs : List.Sublist L' L) (hp : Post v L') : QL W M (bodyPost P fn (fun e w' => ∃ v L, e = .returned v ∧ Has W M L w' ∧ Post v L) .ret) ov base L := fun a w hrp hH =>
  bodyPost_ret (v := v) (by rw [results_tmp hr, hrp.get, hv]) hrp.defers ⟨v, L', rfl, hH.sub hs, hp⟩
theorem q_ret2 {fn : Func} {t u : Nat} {v v2 : Value} {Post : Value → List Bk → Prop} (hr : fn.results = #[.tmp t, .tmp u]) (hv : ov.get base t = v) (hv2 : ov.get base u = v2) (hs : List.Sublist L' L) (hp : Post (.tuple #[v, v2]) L') : QL W M (bodyPost P fn (fun e w' => ∃ v L, e = .returned v ∧ Has W M L w' ∧ Post v L) .ret) ov base L := fun a w hrp hH =>
  bodyPost_ret (v := .tuple #[v, v2]) (by rw [results_tmp2 hr, hrp.get, hv, hrp.get, hv2]) hrp.defers ⟨_, L', rfl, hH.sub hs, hp⟩
theorem q_end0 {fn : Func} {Post : Value → List Bk → Prop} (hr : fn.results = #[]) (hs : List.Sublist L' L) (hp : Post (.tuple #[]) L') : QL W M (bodyPost P fn (fun e w' => ∃ v L, e = .returned v ∧ Has W M L w' ∧ Post v L) .normal) ov base L := fun a w hrp hH =>
  bodyPost_end (v := .tuple #[]) (results_none hr _ _ _) hrp.defers ⟨_, L', rfl, hH.sub hs, hp⟩
end
end Go.Ad
set_option linter.unusedVariables false
namespace Go.Ad
open Go.RowKit Go.Maps
section
variable {P : Program} {W : World} {M : List Nat} {ops : Array Oper} {Q : Exit → Act → World → Prop} {T : Nat → Bool} {L0 L L' : List Bk} {ov : Ov} {base : List Value} {i : Nat} {r : List (Nat × Bool × Oper)}
theorem c_rord {id : Nat} {l : List Oper} {l' : List (Nat × Bool × Oper)} (E : List Nat) (ord : List (Nat × Bool)) (hm : P.follows .mixedOrders = true) (hs : Region.noSelect l.toArray = true)
    (hok : okOrd l.toArray (fun j => !E.contains j) ord true (Array.replicate l.toArray.size false) = true) (hE : (E.all (· < l.toArray.size) && ord.all (fun p => decide (p.1 < l.toArray.size))) = true) (hl : ord.length = l.toArray.size)
    (hQ : ∀ c a d v w, Q (.panic c) (a.put d v) w → Q (.panic c) a w) (hl' : mkOrd l.toArray ord = l')
    (h : wpO P W M l.toArray Q (fun j => !E.contains j) L l' ov base L) : wpC P W M (.region id l.toArray true) Q ov base L := fun a w hr hH => by
  subst hl'
  exact wp_region_ord (Has W M L) E ord hm hs hok hE hl hQ hH.drew (h a w.drew hr hH.drew)
def Keep (W : World) (M : List Nat) (L' L0 : List Bk) (T : Nat → Bool) (i : Nat) : Prop := T i = true → ∀ w, Has W M L' w → Has W M L0 w
theorem keep_no (h : T i = false) : Keep W M L' L0 T i := fun h' => by rw [h] at h'; cases h'
theorem keep_sub (h : List.Sublist L0 L') : Keep W M L' L0 T i := fun _ _ hH => hH.sub h
theorem o_nil (k : QL W M (Q .normal) ov base L) : wpO P W M ops Q T L0 [] ov base L := k
theorem o_y {d : Nat} {op : Op} {ty : TypeId} {pos : String} {aft : Array Edge} {g : Option (Nat × Bool)} {v : Value} (hy : Y P W M L0 (ev ov base) op ty v) (hw : wantedL ops ov base ⟨some d, op, ty, pos, aft, g⟩ = true) (hd : Nat.blt d base.length = true)
    (k : wpO P W M ops Q T L0 r ((d, v) :: ov) base L) : wpO P W M ops Q T L0 ((i, true, ⟨some d, op, ty, pos, aft, g⟩) :: r) ov base L := fun a w hr hH =>
  ord_take (by rw [hr.wanted]; exact hw) (fun w' h' => by rw [hr.eval]; exact hy w' h' _ rfl rfl) (k _ _ (hr.put v hd) hH)
theorem o_pass {d : Nat} {op : Op} {ty : TypeId} {pos : String} {aft : Array Edge} {g : Option (Nat × Bool)} (hw : wantedL ops ov base ⟨some d, op, ty, pos, aft, g⟩ = false) (hd : Nat.blt d base.length = true)
    (k : wpO P W M ops Q T L0 r ((d, undef) :: ov) base L) : wpO P W M ops Q T L0 ((i, true, ⟨some d, op, ty, pos, aft, g⟩) :: r) ov base L := fun a w hr hH =>
  ord_pass (by rw [hr.wanted]; exact hw) (k _ _ (hr.put undef hd) hH)
theorem o_none {d : Nat} {op : Op} {ty : TypeId} {pos : String} {aft : Array Edge} {g : Option (Nat × Bool)} (hk : Keep W M L L0 T i) (hw : wantedL ops ov base ⟨some d, op, ty, pos, aft, g⟩ = false) (hd : Nat.blt d base.length = true)
    (k : wpO P W M ops Q T L0 r ((d, undef) :: ov) base L) : wpO P W M ops Q T L0 ((i, false, ⟨some d, op, ty, pos, aft, g⟩) :: r) ov base L := fun a w hr hH =>
  ord_none (by rw [hr.wanted]; exact hw) (fun h => hk h w hH) (k _ _ (hr.put undef hd) hH)
theorem o_n {α : Type} {d : Nat} {op : Op} {ty : TypeId} {pos : String} {aft : Array Edge} {g : Option (Nat × Bool)} {φ : α → Prop} {F : α → Value} {G : α → List Bk} (hn : N P W M L (ev ov base) op ty φ F G) (hk : ∀ x, Keep W M (G x) L0 T i)
    (hw : wantedL ops ov base ⟨some d, op, ty, pos, aft, g⟩ = true) (hd : Nat.blt d base.length = true)
    (k : ∀ x, φ x → wpO P W M ops Q T L0 r ((d, F x) :: ov) base (G x)) : wpO P W M ops Q T L0 ((i, false, ⟨some d, op, ty, pos, aft, g⟩) :: r) ov base L := fun a w hr hH => by
  obtain ⟨x, w', h1, h2, h3⟩ := hn w hH ⟨some d, op, ty, pos, aft, g⟩ rfl rfl
  exact ord_val (by rw [hr.wanted]; exact hw) (v := F x) (w' := w') (by rw [hr.eval]; exact h2) (fun h => hk x h w' h3) (k x h1 _ _ (hr.put _ hd) h3)
theorem o_s {op : Op} {ty : TypeId} {pos : String} {aft : Array Edge} {g : Option (Nat × Bool)} (hs : S P W M L (ev ov base) op ty L') (hk : Keep W M L' L0 T i) (hw : wantedL ops ov base ⟨none, op, ty, pos, aft, g⟩ = true)
    (k : wpO P W M ops Q T L0 r ov base L') : wpO P W M ops Q T L0 ((i, false, ⟨none, op, ty, pos, aft, g⟩) :: r) ov base L := fun a w hr hH => by
  obtain ⟨w', h1, h2⟩ := hs w hH ⟨none, op, ty, pos, aft, g⟩ rfl rfl
  exact ord_skip (by rw [hr.wanted]; exact hw) (w' := w') (by rw [hr.eval]; exact h1) (fun h => hk h w' h2) (k _ _ hr h2)
theorem o_c {d : Nat} {op : Op} {ty : TypeId} {pos : String} {aft : Array Edge} {g : Option (Nat × Bool)} {f : FuncId} {vs : List Value} {Post : Value → List Bk → Prop} (he : En P W M L (ev ov base) op ty f vs)
    (hc : ∀ w, Has W M L w → Does P f vs w [] Post) (hk : ∀ v L', Post v L' → Keep W M (L' ++ L) L0 T i) (hw : wantedL ops ov base ⟨some d, op, ty, pos, aft, g⟩ = true) (hd : Nat.blt d base.length = true)
    (k : ∀ v L', Post v L' → wpO P W M ops Q T L0 r ((d, v) :: ov) base (L' ++ L)) : wpO P W M ops Q T L0 ((i, false, ⟨some d, op, ty, pos, aft, g⟩) :: r) ov base L := fun a w hr hH => by
  refine ord_enter (by rw [hr.wanted]; exact hw) (by rw [hr.eval]; exact he w hH _ rfl rfl) ((hc w hH).mono ?_)
  rintro e w' ⟨v, L', rfl, h1, h2⟩
  exact ⟨v, rfl, fun h => hk v L' h2 h w' (hH.call h1), k v L' h2 _ _ (hr.put v hd) (hH.call h1)⟩
end
section
variable {P : Program} {W : World} {M : List Nat} {Q : Exit → Act → World → Prop} {ov ov' : Ov} {base : List Value} {L L' : List Bk}
def Ov.drop (ks : List Nat) : Ov → Ov
  | [] => []
  | (k, v) :: r => bif ks.any (Nat.beq k) then Ov.drop ks r else (k, v) :: Ov.drop ks r
theorem Ov.get_drop {ks : List Nat} {d : Nat} (h : ks.any (fun k => Nat.beq d k) = false) : ∀ (ov : Ov) (base : List Value), (ov.drop ks).get base d = ov.get base d
  | [], _ => rfl
  | (k, v) :: r, base => by
    unfold Ov.drop
    cases hk : ks.any (Nat.beq k) with
    | false =>
      simp only [cond_false, Ov.get]
      rw [Ov.get_drop h r base]
    | true =>
      simp only [cond_true, Ov.get]
      have : Nat.beq k d = false := nbeq (by
        rintro rfl
        rw [hk] at h; cases h)
      rw [this, cond_false, Ov.get_drop h r base]
def AllGet (ov : Ov) (base : List Value) : Ov → Prop
  | [] => True
  | (d, v) :: r => ov.get base d = v ∧ AllGet ov base r
def junk (ks : List Nat) (j : Nat → Value) : Ov := ks.map fun d => (d, j d)
theorem get_append {d : Nat} {base : List Value} : ∀ (xs ys : Ov), (∀ p ∈ xs, p.1 ≠ d) → (xs ++ ys).get base d = ys.get base d
  | [], _, _ => rfl
  | (k, v) :: r, ys, h => by
    have : Nat.beq k d = false := nbeq (h _ (List.Mem.head _))
    simp only [List.cons_append, Ov.get, this, cond_false]
    exact get_append r ys (fun p hp => h p (List.Mem.tail _ hp))
theorem get_front {d : Nat} {base : List Value} {j : Nat → Value} {ys : Ov} : ∀ {ks : List Nat}, d ∈ ks → (junk ks j ++ ys).get base d = j d
  | k :: ks, h => by
    simp only [junk, List.map_cons, List.cons_append, Ov.get]
    by_cases hk : k = d
    · subst hk
      have : Nat.beq k k = true := by simp
      rw [this]; rfl
    · rw [nbeq hk, cond_false]
      rcases List.mem_cons.1 h with h | h
      · exact absurd h.symm hk
      · exact get_front h
theorem Rep.again {a : Act} {tr : Ov} {ks : List Nat} (h : Rep ov' base a) (h1 : AllGet ov' base tr) (h2 : ov'.drop ks = ov.drop ks) (h3 : (tr.all fun p => ks.any (Nat.beq p.1)) = true) :
    Rep (tr ++ (junk ks (fun d => ov'.get base d) ++ ov)) base a := by
  refine ⟨h.defers, h.size, fun d => ?_⟩
  rw [h.get d]
  have key : (junk ks (fun d => ov'.get base d) ++ ov).get base d = ov'.get base d := by
    by_cases hd : d ∈ ks
    · exact get_front hd
    · have hf : ks.any (fun k => Nat.beq d k) = false := by
        cases hx : ks.any (fun k => Nat.beq d k) with
        | false => rfl
        | true =>
          obtain ⟨k, hk, hb⟩ := List.any_eq_true.1 hx
          exact absurd (Nat.eq_of_beq_eq_true hb ▸ hk) hd
      rw [get_append, ← Ov.get_drop hf ov, ← h2, Ov.get_drop hf]
      intro p hp
      obtain ⟨k, hk, rfl⟩ := List.mem_map.1 hp
      rintro rfl; exact hd hk
  clear h2 h3
  induction tr with
  | nil => exact key.symm
  | cons p r ih =>
    obtain ⟨k, v⟩ := p
    simp only [List.cons_append, Ov.get]
    by_cases hk : k = d
    · subst hk
      have : Nat.beq k k = true := by simp
      rw [this, h1.1]; rfl
    · rw [nbeq hk, cond_false]
      exact ih h1.2
def Round (W : World) (M : List Nat) {α : Type} (ks : List Nat) (φ : Nat → α → Prop) (tr : α → Ov) (G : α → List Bk) (ov : Ov) (base : List Value) (n : Nat) (K : Act → World → Prop) : Prop :=
  ∀ n' y ov' L', n' < n → φ n' y → AllGet ov' base (tr y) → ov'.drop ks = ov.drop ks → (∀ w, Has W M L' w → Has W M (G y) w) → QL W M K ov' base L'
theorem c_loop {α : Type} (ks : List Nat) (φ : Nat → α → Prop) (tr : α → Ov) (G : α → List Bk) (n0 : Nat) (y0 : α) {c : Code} (h0 : φ n0 y0) (ht : AllGet ov base (tr y0)) (hG : ∀ w, Has W M L w → Has W M (G y0) w)
    (hk : ∀ y, ((tr y).all fun p => ks.any (Nat.beq p.1)) = true)
    (round : ∀ n y j, φ n y → ∀ K, Round W M ks φ tr G (tr y ++ (junk ks j ++ ov)) base n K → wpC P W M c (Exit.then K Q) (tr y ++ (junk ks j ++ ov)) base (G y)) : wpC P W M (.loop c) Q ov base L := fun a w hr hH => by
  refine wp_loop_ghost (fun n a w => ∃ y, φ n y ∧ ∃ j, Rep (tr y ++ (junk ks j ++ ov)) base a ∧ Has W M (G y) w) n0 ⟨y0, h0, _, hr.again ht rfl (hk y0), hG w hH⟩ ?_
  rintro n a w ⟨y, hy, j, hr, hH⟩
  refine round n y j hy _ (fun n' y' ov' L' hlt hy' ha hd hL a' w' hr' hH' => ⟨n', hlt, y', hy', _, hr'.again ha ?_ (hk y'), hL w' hH'⟩) a w hr hH
  rw [hd]
  have h4 : ∀ (tr : Ov), (tr.all fun p => ks.any (Nat.beq p.1)) = true → ∀ ov : Ov, (tr ++ ov).drop ks = ov.drop ks := by
    intro tr
    induction tr with
    | nil => intro _ _; rfl
    | cons p r ih =>
      intro h ov
      simp only [List.all_cons, Bool.and_eq_true] at h
      obtain ⟨k, v⟩ := p
      simp only [List.cons_append, Ov.drop]
      rw [show ks.any (Nat.beq k) = true from h.1, cond_true, ih h.2]
  rw [h4 _ (hk y), h4]
  rw [List.all_eq_true]
  intro p hp
  obtain ⟨k, hk', rfl⟩ := List.mem_map.1 hp
  exact List.any_eq_true.2 ⟨k, hk', by simp⟩
end
end Go.Ad
set_option linter.unusedVariables false
namespace Go.Ad
open Go.RowKit Go.Maps
section
variable {P : Program} {W : World} {M : List Nat} {L L' R : List Bk} {ρ : Operand → Value} {x y c : Operand} {ty t t' : TypeId} {v : Value} {k : IntKind} {a b : Int} {ov : Ov} {base : List Value}
theorem Has.grow {w w' : World} (h : Has W M L w) {b e kk cap n cap' g : Nat} {cs xs : List Value} (hs : Sel ⟨b, e, kk, cap, cs⟩ L R) (hg : w.grownBy w' (some b)) (ho : w'.ownsRow 0 e kk (.slice (some ⟨g, 0, none⟩) n cap') n xs) (hgb : g = b ∨ g = w.heap.size) :
    Has W M (⟨g, e, kk, cap', xs⟩ :: R) w' := by
  have hx := h.bk _ hs.mem
  have hot := hs.other h.nd
  have hX : Ex [b] w w' := Ex.of_grown hg
  obtain ⟨hlen, ⟨h0, _⟩ | ⟨g', c', cur, he, _, h2, h3, h4, h5, h6⟩⟩ := ho
  · cases h0
  cases he
  refine ⟨⟨hg.os.trans h.ex.os, hg.tape.trans h.ex.tape, hg.output.trans h.ex.output, Nat.le_trans h.size hg.size, fun i hi hM => ?_⟩, fun z hz => ?_, ?_⟩
  · rw [hX.block i (Nat.lt_of_lt_of_le hi h.size) (fun hm => by
      have := List.mem_singleton.1 hm
      subst this
      rcases hx.2 with h7 | h7
      · exact hM h7
      · simp only at h7; omega)]
    exact h.ex.block i hi hM
  · rcases List.mem_cons.1 hz with rfl | hz
    · refine ⟨⟨cur, h2, h5, h4, ?_⟩, ?_⟩
      · rw [← h6]; exact List.take_prefix _ _
      · rcases hgb with rfl | rfl
        · exact hx.2
        · exact .inr h.size
    · obtain ⟨h7, h8⟩ := h.bk z (hs.sublist.subset hz)
      exact ⟨h7.of_block (hX.block z.b h7.lt (by simpa using hot z hz)), h8⟩
  · simp only [List.map_cons, List.nodup_cons]
    refine ⟨fun hm => ?_, h.nd.sublist (hs.sublist.map _)⟩
    obtain ⟨z, hz, hzg⟩ := List.mem_map.1 hm
    rcases hgb with rfl | rfl
    · exact hot z hz hzg
    · have := (h.at' (hs.sublist.subset hz)).lt; omega
theorem Has.grow0 {w w' : World} (h : Has W M L w) {e kk n cap' g : Nat} {xs : List Value} (hg : w.grownBy w' none) (ho : w'.ownsRow 0 e kk (.slice (some ⟨g, 0, none⟩) n cap') n xs) (hgb : g = w.heap.size) :
    Has W M (⟨g, e, kk, cap', xs⟩ :: L) w' := by
  have hX : Ex [] w w' := Ex.of_grown0 hg
  obtain ⟨hlen, ⟨h0, _⟩ | ⟨g', c', cur, he, _, h2, h3, h4, h5, h6⟩⟩ := ho
  · cases h0
  cases he
  subst hgb
  refine ⟨h.ex.trans (hX.mono (by simp)), fun z hz => ?_, ?_⟩
  · rcases List.mem_cons.1 hz with rfl | hz
    · exact ⟨⟨cur, h2, h5, h4, by rw [← h6]; exact List.take_prefix _ _⟩, .inr h.size⟩
    · obtain ⟨h7, h8⟩ := h.bk z hz
      exact ⟨h7.of_block (hX.block z.b h7.lt (by simp)), h8⟩
  · simp only [List.map_cons, List.nodup_cons]
    refine ⟨fun hm => ?_, h.nd⟩
    obtain ⟨z, hz, hzg⟩ := List.mem_map.1 hm
    have := (h.at' hz).lt; omega
theorem x_append {w w' : World} {o : Oper} {ts : Array TypeId} {v1 v2 : Value} (ho : o.op = .call { callee := .builtin .append, args := #[x, y], argTypes := ts }) (hx : ρ x = v1) (hy : ρ y = v2) (h : (Builtin.append_ ts o.type #[v1, v2]).run P w = .ok v w') : (execOp ρ o).run P w = .ok (.value v) w' := by
  unfold execOp
  simp [ho, resolve, invoke, builtin, hx, hy, h, Result.andThen]
theorem N_app {b n cap m c2 e kk bytes : Nat} {a2 : Addr} {z : Value} {u : TypeId} {cs news : List Value} (hx : ρ x = .slice (some ⟨b, 0, none⟩) n cap) (hy : ρ y = .slice (some a2) m c2) (hu : P.underlying u = some (.slice e)) (hi : (P.info? e).map (fun i => (i.zero, i.size, i.bytes)) = some (some z, kk, bytes))
    (hz : z.cells.size = kk) (hk : 0 < kk) (hs : Sel ⟨b, e, kk, cap, cs⟩ L R) (hc : cs.length = n * kk) (hn : n ≤ cap) (hr : ∀ w, Has W M L w → ∀ j u, news[j]? = some u → w.cell? (a2.add j) = some u) (hl : news.length = m * kk) (h1 : ∀ u ∈ news, u.oneCell' = true)
    (h63 : n + m ≤ 140737488355328) (hb : (n + m) * bytes ≤ 140737488355328) :
    N P W M L ρ (.call { callee := .builtin .append, args := #[x, y], argTypes := #[u, u] }) ty (fun p : Nat × Nat => n + m ≤ p.2) (fun p => .slice (some ⟨p.1, 0, none⟩) (n + m) p.2) (fun p => ⟨p.1, e, kk, p.2, cs ++ news⟩ :: R) := fun w hw o ho _ => by
  obtain ⟨i, hi1, hi2, hi3, hi4⟩ := info_parts hi
  obtain ⟨⟨cur, q1, q2, q3, q4⟩, _⟩ := hw.bk _ hs.mem
  have hown : w.ownsRow 0 e kk (.slice (some ⟨b, 0, none⟩) n cap) n cs := ⟨hc, .inr ⟨b, cap, cur, rfl, Nat.zero_le _, q1, hn, q3, q2, by
    obtain ⟨r, hr⟩ := q4
    simp only at hr
    rw [← hr, ← hc, List.take_left]⟩⟩
  obtain ⟨v', w', g1, g2, g3, g4, g5⟩ := run_append_own_at (P := P) w 0 u o.type e i z kk bytes hu hi1 hi2 hi3 hi4 hz hk _ n cs hown a2 m c2 news hl (hr w hw) h1 (by unfold maxLen; omega) hb (Nat.zero_le _)
  obtain ⟨xa, xc, rfl⟩ := own_shape g2
  have hne : ∃ g, xa = some ⟨g, 0, none⟩ := by
    rcases g2.2 with ⟨h0, _⟩ | ⟨g', _, _, he, _⟩
    · have := g4.1 h0
      cases this.1
    · cases he; exact ⟨g', rfl⟩
  obtain ⟨g, rfl⟩ := hne
  refine ⟨(g, xc), w', ?_, x_append ho hx hy g1, hw.grow hs g3 g2 (by simpa [Value.ownBlock] using g5)⟩
  rcases g2.2 with ⟨h0, _⟩ | ⟨g', c', _, he, _, _, h3, _⟩
  · cases h0
  · cases he; exact h3
theorem N_appN {m c2 e kk bytes : Nat} {a2 : Addr} {z : Value} {u : TypeId} {news : List Value} (hx : ρ x = .slice none 0 0) (hy : ρ y = .slice (some a2) m c2) (hu : P.underlying u = some (.slice e)) (hi : (P.info? e).map (fun i => (i.zero, i.size, i.bytes)) = some (some z, kk, bytes))
    (hz : z.cells.size = kk) (hk : 0 < kk) (hr : ∀ w, Has W M L w → ∀ j u, news[j]? = some u → w.cell? (a2.add j) = some u) (hl : news.length = m * kk) (h1 : ∀ u ∈ news, u.oneCell' = true)
    (h63 : m ≤ 140737488355328) (hb : m * bytes ≤ 140737488355328) (hm : 0 < m) :
    N P W M L ρ (.call { callee := .builtin .append, args := #[x, y], argTypes := #[u, u] }) ty (fun p : Nat × Nat => m ≤ p.2) (fun p => .slice (some ⟨p.1, 0, none⟩) m p.2) (fun p => ⟨p.1, e, kk, p.2, news⟩ :: L) := fun w hw o ho _ => by
  obtain ⟨i, hi1, hi2, hi3, hi4⟩ := info_parts hi
  have hown : w.ownsRow 0 e kk (.slice none 0 0) 0 [] := ⟨by simp, .inl ⟨rfl, rfl⟩⟩
  obtain ⟨v', w', g1, g2, g3, g4, g5⟩ := run_append_own_at (P := P) w 0 u o.type e i z kk bytes hu hi1 hi2 hi3 hi4 hz hk _ 0 [] hown a2 m c2 news hl (hr w hw) h1 (by unfold maxLen; omega) (by rw [Nat.zero_add]; exact hb) (Nat.zero_le _)
  simp only [Nat.zero_add, List.nil_append] at g2
  obtain ⟨xa, xc, rfl⟩ := own_shape g2
  have hne : ∃ g, xa = some ⟨g, 0, none⟩ := by
    rcases g2.2 with ⟨h0, h1⟩ | ⟨g', _, _, he, _⟩
    · omega
    · cases he; exact ⟨g', rfl⟩
  obtain ⟨g, rfl⟩ := hne
  refine ⟨(g, xc), w', ?_, x_append ho hx hy g1, hw.grow0 (by simpa [Value.ownBlock] using g3) g2 (by simpa [Value.ownBlock] using g5)⟩
  rcases g2.2 with ⟨h0, _⟩ | ⟨g', c', _, he, _, _, h3, _⟩
  · cases h0
  · cases he; exact h3
theorem src {b2 e2 k2 cap2 : Nat} {news : List Value} (hm : ⟨b2, e2, k2, cap2, news⟩ ∈ L) : ∀ w, Has W M L w → ∀ j u, news[j]? = some u → w.cell? ((⟨b2, 0, none⟩ : Addr).add j) = some u := fun w hw j u hu => by
  rw [Addr.add_mid, Nat.zero_add]; exact (hw.at' hm).cell hu
theorem srcR {b2 o2 : Nat} {news : List Value} (hr : Ro W b2 o2 news) (hM : b2 ∉ M := by simp) : ∀ w, Has W M L w → ∀ j u, news[j]? = some u → w.cell? ((⟨b2, o2, none⟩ : Addr).add j) = some u := fun w hw j u hu => by
  rw [Addr.add_mid]; exact hw.ro hr hM j u hu
inductive Gx : Ov → List Value → Operand → Value → Prop
  | tmp {ov : Ov} {base : List Value} {d : Nat} {v : Value} (h : Gt ov base d v) : Gx ov base (.tmp d) v
  | const {ov : Ov} {base : List Value} {v : Value} : Gx ov base (.const v) v
theorem Gx.eq {z : Operand} (h : Gx ov base z v) : ev ov base z = v := by
  cases h with
  | tmp h => exact h.eq
  | const => rfl
theorem Y_pk {p q : Operand} {u : Bool} {v1 v2 : Value} (hc : ev ov base c = .bool u) (h1 : Gx ov base p v1) (h2 : Gx ov base q v2) : Y P W M L (ev ov base) (.pick c p q) ty (if u then v1 else v2) := Y_pick hc h1.eq h2.eq
inductive Gv : Ov → List Value → List Operand → List Value → Prop
  | nil {ov : Ov} {base : List Value} : Gv ov base [] []
  | tmp {ov : Ov} {base : List Value} {d : Nat} {v : Value} {xs : List Operand} {vs : List Value} (h : Gt ov base d v) (r : Gv ov base xs vs) : Gv ov base (.tmp d :: xs) (v :: vs)
  | const {ov : Ov} {base : List Value} {v : Value} {xs : List Operand} {vs : List Value} (r : Gv ov base xs vs) : Gv ov base (.const v :: xs) (v :: vs)
theorem Gv.eq {xs : List Operand} {vs : List Value} (h : Gv ov base xs vs) : xs.map (ev ov base) = vs := by
  induction h with
  | nil => rfl
  | tmp h _ ih => simp only [List.map_cons, ih]; rw [show ev _ _ (.tmp _) = _ from h.eq]
  | const _ ih => simp only [List.map_cons, ih]; rfl
theorem x_buildSlice {w w' : World} {o : Oper} {n : Nat} {ps : Array (Nat × Operand)} {u : TypeId} (ho : o.op = .buildSlice u n ps) (h : (Instr.buildSlice u n (ps.map fun p => (p.1, ρ p.2))).run P w = .ok v w') : (execOp ρ o).run P w = .ok (.value v) w' := by
  unfold execOp
  simp only [ho, Sem.run_bind]
  rw [h]
  simp [Result.andThen]
theorem N_bs {u e n bytes : Nat} {z : Value} {xs : List Operand} {ps : Array (Nat × Operand)} {vs : List Value} (hv : Gv ov base xs vs) (hp : ps.toList = (xs.zipIdx 0).map fun p => (p.2, p.1)) (hu : P.underlying u = some (.slice e)) (hi : (P.info? e).map (fun i => (i.zero, i.size, i.bytes)) = some (some z, 1, bytes)) (hn : xs.length = n) (h0 : 0 < n) (hn2 : n ≤ 1000)
    (h1 : ∀ v ∈ vs, v.oneCell' = true) : N P W M L (ev ov base) (.buildSlice u n ps) ty (fun _ : Nat => True) (fun b => .slice (some ⟨b, 0, none⟩) n n) (fun b => ⟨b, e, 1, n, vs⟩ :: L) := fun w hw o ho _ => by
  obtain ⟨i, hi1, hi2, hi3, hi4⟩ := info_parts hi
  have hlen : vs.length = n := by rw [← hv.eq, List.length_map, hn]
  have hcells : ∀ v : Value, v.oneCell' = true → v.cells = #[v] := fun v h => by cases v <;> simp_all [Value.cells, Value.oneCell']
  refine ⟨w.heap.size, w.alloc (.cells vs.toArray e), trivial, x_buildSlice ho ?_, hw.alloc (c := vs.toArray) (by simp [hlen]) (by unfold maxLen; omega)⟩
  refine run_buildSlice w u e n _ vs.toArray i z hu hi1 hi2 (by rw [hi3]; omega) (by rw [hi3]; omega) ?_
  rw [hi3]
  have hpl : (ps.map fun p => (p.1, ev ov base p.2)).toList = (vs.zipIdx 0).map fun p => (p.2, p.1) := by
    rw [Array.toList_map, hp, ← hv.eq, List.zipIdx_map, List.map_map, List.map_map]
    rfl
  rw [hpl]
  exact Great.fill_flat vs _ (fun v hv => hcells v (h1 v hv)) (by simp [hlen])
theorem N_bs0 {u e : Nat} {ps : Array (Nat × Operand)} {kk : Nat} (hp : ps = #[]) (hu : P.underlying u = some (.slice e)) (hi : (P.info? e).map (·.size) = some kk) : N P W M L ρ (.buildSlice u 0 ps) ty (fun _ : Nat => True) (fun b => .slice (some ⟨b, 0, none⟩) 0 0) (fun b => ⟨b, e, kk, 0, []⟩ :: L) := fun w hw o ho _ => by
  subst hp
  refine ⟨w.heap.size, w.alloc (.cells #[] e), trivial, x_buildSlice ho ?_, hw.alloc (c := #[]) (by simp) (by unfold maxLen; omega)⟩
  simp [Instr.buildSlice, run_underlying hu, run_size hi, Instr.fill, newRow, Result.andThen]
  have : Array.map (fun _ => (default : Value)) (Array.range 0) = #[] := by simp [Array.range]
  rw [this]
theorem N_bsA {u e n bytes : Nat} {z : Value} {d : Nat} {cs : List Value} (hv : Gt ov base d (.agg cs.toArray)) (hu : P.underlying u = some (.slice e)) (hi : (P.info? e).map (fun i => (i.zero, i.size, i.bytes)) = some (some z, n, bytes)) (hz : z.cells.size = n) (hn : cs.length = n) (h0 : 0 < n) (hn2 : n ≤ 1000) :
    N P W M L (ev ov base) (.buildSlice u 1 #[(0, .tmp d)]) ty (fun _ : Nat => True) (fun b => .slice (some ⟨b, 0, none⟩) 1 1) (fun b => ⟨b, e, n, 1, cs⟩ :: L) := fun w hw o ho _ => by
  obtain ⟨i, hi1, hi2, hi3, hi4⟩ := info_parts hi
  refine ⟨w.heap.size, w.alloc (.cells cs.toArray e), trivial, x_buildSlice ho ?_, hw.alloc (c := cs.toArray) (by simp [hn]) (by unfold maxLen; omega)⟩
  refine run_buildSlice w u e 1 _ cs.toArray i z hu hi1 hi2 (by rw [hi3]; omega) (by rw [hi3]; omega) ?_
  rw [hi3]
  have := Great.fill_whole (s := n) h0 [.agg cs.toArray] ((Array.range (1 * n)).map (z.cells[· % z.cells.size]!)) (by simp [Value.cells, hn]) (by simp)
  simpa [Value.cells, ev, hv.eq] using this
theorem N_make1 {u e n bytes : Nat} {z : Value} {kl kc : IntKind} {m : Int} (hx : ρ x = .int kl m) (hy : ρ y = .int kc m) (hu : P.underlying u = some (.slice e)) (hi : (P.info? e).map (fun i => (i.zero, i.size, i.bytes)) = some (some z, 1, bytes)) (hz : z.cells = #[z]) (hm : m = (n : Int)) (hb : bytes * n ≤ 281474976710656) (h63 : n ≤ 9223372036854775807) :
    N P W M L ρ (.makeSlice u x y) ty (fun _ : Nat => True) (fun b => .slice (some ⟨b, 0, none⟩) n n) (fun b => ⟨b, e, 1, n, List.replicate n z⟩ :: L) := fun w hw o ho _ => by
  obtain ⟨i, hi1, hi2, hi3, hi4⟩ := info_parts hi
  subst hm
  have := run_make (P := P) w u e i z hu hi1 hi2 kl kc n n (by omega) (by omega) (by rw [hi4, ← Int.natCast_mul]; exact Int.ofNat_le.2 hb) (by omega)
  have hA := hw.alloc (c := Array.replicate n z) (t := e) (k := 1) (cap := n) (by simp) (by unfold maxLen; omega)
  rw [Array.toList_replicate] at hA
  refine ⟨w.heap.size, w.alloc (.cells (Array.replicate n z) e), trivial, ?_, hA⟩
  unfold execOp
  simp only [ho, hx, hy, Sem.run_bind, this, Result.andThen_ok, Sem.run_pure, hi3, Int.toNat_natCast, Nat.mul_one, hz, madeCells_one]
theorem madeCells_all {c : Array Value} {u : Value} {kk : Nat} (hc : c = Array.replicate kk u) (hk : 0 < kk) (n : Nat) : madeCells c n = Array.replicate n u := by
  subst hc
  unfold madeCells
  apply Array.ext
  · simp
  · intro i h1 h2
    simp only [Array.getElem_map, Array.getElem_range, Array.getElem_replicate, Array.size_replicate]
    have := Nat.mod_lt i hk
    rw [getElem!_pos _ _ (by simpa using this)]
    simp
theorem N_makeU {u e n bytes : Nat} {z u0 : Value} {kl kc : IntKind} {m : Int} {kk : Nat} (hx : ρ x = .int kl m) (hy : ρ y = .int kc m) (hu : P.underlying u = some (.slice e)) (hi : (P.info? e).map (fun i => (i.zero, i.size, i.bytes)) = some (some z, kk, bytes)) (hz : z.cells = Array.replicate kk u0) (hk : 0 < kk) (hm : m = (n : Int)) (hb : bytes * n ≤ 281474976710656) (h63 : n ≤ 9223372036854775807) :
    N P W M L ρ (.makeSlice u x y) ty (fun _ : Nat => True) (fun b => .slice (some ⟨b, 0, none⟩) n n) (fun b => ⟨b, e, kk, n, List.replicate (n * kk) u0⟩ :: L) := fun w hw o ho _ => by
  obtain ⟨i, hi1, hi2, hi3, hi4⟩ := info_parts hi
  subst hm
  have := run_make (P := P) w u e i z hu hi1 hi2 kl kc n n (by omega) (by omega) (by rw [hi4, ← Int.natCast_mul]; exact Int.ofNat_le.2 hb) (by omega)
  have hA := hw.alloc (c := Array.replicate (n * kk) u0) (t := e) (k := kk) (cap := n) (by simp) (by unfold maxLen; omega)
  rw [Array.toList_replicate] at hA
  refine ⟨w.heap.size, w.alloc (.cells (Array.replicate (n * kk) u0) e), trivial, ?_, hA⟩
  unfold execOp
  simp only [ho, hx, hy, Sem.run_bind, this, Result.andThen_ok, Sem.run_pure, hi3, Int.toNat_natCast, madeCells_all hz hk]
inductive Gp : Ov → List Value → List (Nat × Operand) → List (Nat × Value) → Prop
  | nil {ov : Ov} {base : List Value} : Gp ov base [] []
  | tmp {ov : Ov} {base : List Value} {i d : Nat} {v : Value} {xs : List (Nat × Operand)} {vs : List (Nat × Value)} (h : Gt ov base d v) (r : Gp ov base xs vs) : Gp ov base ((i, .tmp d) :: xs) ((i, v) :: vs)
  | const {ov : Ov} {base : List Value} {i : Nat} {v : Value} {xs : List (Nat × Operand)} {vs : List (Nat × Value)} (r : Gp ov base xs vs) : Gp ov base ((i, .const v) :: xs) ((i, v) :: vs)
theorem Gp.eq {xs : List (Nat × Operand)} {vs : List (Nat × Value)} (h : Gp ov base xs vs) : (xs.map fun p => (p.1, ev ov base p.2)) = vs := by
  induction h with
  | nil => rfl
  | tmp h _ ih => simp only [List.map_cons, ih]; rw [show ev _ _ (.tmp _) = _ from h.eq]
  | const _ ih => simp only [List.map_cons, ih]; rfl
theorem Y_build {u : TypeId} {ps : Array (Nat × Operand)} {vs : List (Nat × Value)} {cs : List Value} (hv : Gp ov base ps.toList vs) (hb : P.built u vs = some cs.toArray) : Y P W M L (ev ov base) (.build u ps) ty (.agg cs.toArray) := fun w _ o ho _ => by
  unfold execOp
  simp only [ho, Sem.run_bind]
  have : (ps.map fun p => (p.1, ev ov base p.2)).toList = vs := by rw [Array.toList_map]; exact hv.eq
  have hr := run_build (P := P) w u (ps.map fun p => (p.1, ev ov base p.2)) cs.toArray (by rw [this]; exact hb)
  have he : (Array.map (fun x => (x.fst, ev ov base x.snd)) ps) = ps.map fun p => (p.1, ev ov base p.2) := rfl
  rw [show (Instr.build u (ps.map fun x => match x with | (i, x) => (i, ev ov base x))) = Instr.build u (ps.map fun p => (p.1, ev ov base p.2)) from rfl, hr]
  simp [Result.andThen]
def Bld (P : Program) (u : TypeId) (z : Array Value) (pl : Array (Nat × Nat)) : Prop := ∀ vs cs, Instr.fill (pl[·]?) z vs = some cs → P.built u vs = some cs
theorem Bld.mk {u : TypeId} {z : Array Value} {pl : Array (Nat × Nat)} {i : TypeInfo} {zv : Value} {fs : Array Field} (hi : P.info? u = some i) (hz : i.zero = some zv) (hzc : zv.cells = z) (hu : P.underlying u = some (.struct fs)) (hp : fs.toList.mapM (fun f => (P.info? f.type).map fun i => (f.offset, i.size)) = some pl.toList) : Bld P u z pl := fun vs cs h => by
  unfold Program.built
  simp only [hi, hu, hz, hp, hzc]
  exact h
end
section
variable {P : Program} {W : World} {M : List Nat} {L L' R : List Bk} {ρ : Operand → Value} {x y c : Operand} {ty t t' : TypeId} {v : Value}
theorem bin2_run {op : BinOp} {xt yt : TypeId} {p q : Value} (hg : ∀ w, (eqGuard op xt x y p q).run P w = .ok () w) (h : ∀ w, (binOp op xt p q).run P w = .ok v w) (hx : ρ x = p) (hy : ρ y = q) : Y P W M L ρ (.binOp op xt x y yt) ty v := fun w _ o ho _ => by
  unfold execOp
  rw [ho]
  simp only [hx, hy, Sem.run_bind, hg w, Result.andThen_ok, h w, Sem.run_pure]
theorem Y_eqS {a b : ByteArray} (hx : ρ x = .string a) (hy : ρ y = .string b) : Y P W M L ρ (.binOp .eql t x y t') ty (.bool (decide (a.toList = b.toList))) := bin2_run (fun w => rfl) (fun w => by
  have : (a.toList == b.toList) = decide (a.toList = b.toList) := by rw [Bool.eq_iff_iff]; simp
  simp [binOp, Op.stringOp, this]) hx hy
theorem Y_neS {a b : ByteArray} (hx : ρ x = .string a) (hy : ρ y = .string b) : Y P W M L ρ (.binOp .neq t x y t') ty (.bool (decide (a.toList ≠ b.toList))) := bin2_run (fun w => rfl) (fun w => by
  have : (a.toList == b.toList) = decide (a.toList = b.toList) := by rw [Bool.eq_iff_iff]; simp
  simp [binOp, Op.stringOp, this]) hx hy
theorem Y_eqB {a b : Bool} (hx : ρ x = .bool a) (hy : ρ y = .bool b) (hu : P.underlying t = some .bool) : Y P W M L ρ (.binOp .eql t x y t') ty (.bool (decide (a = b))) := bin2_run (fun w => rfl) (fun w => by
  simp only [binOp]
  simp [Op.equal, Op.maxDepth, run_equalIn_bool' w 9999 t a b hu]
  cases a <;> cases b <;> rfl) hx hy
theorem Y_eqN {a : Option Addr} {n cp n' c' : Nat} {e : TypeId} (hx : ρ x = .slice a n cp) (hy : ρ y = .slice none n' c') (hu : P.underlying t = some (.slice e)) : Y P W M L ρ (.binOp .eql t x y t') ty (.bool a.isNone) := bin2_run (fun w => rfl) (fun w => Lib.run_eql_slice_nil w t e a n cp n' c' hu) hx hy
end
section
variable {P : Program} {W : World} {M : List Nat} {L L' R : List Bk} {ρ : Operand → Value} {x y c : Operand} {ty t t' : TypeId} {v : Value}
def ints (zs : List Int) : Array Value := (zs.map (Value.int .i64)).toArray
def Flat (P : Program) (t : TypeId) (n : Nat) : Prop := (∀ w (zs zs' : List Int), zs.length = n → zs'.length = n → (Op.equalIn 10000 t (.agg (ints zs)) (.agg (ints zs'))).run P w = .ok (decide (zs = zs')) w) ∧ P.eqGuardType P.depth t = false
def isInt (P : Program) (t : TypeId) : Bool := match P.underlying t with | some (.int _) => true | _ => false
theorem isInt.out {t : TypeId} (h : isInt P t = true) : ∃ k, P.underlying t = some (.int k) := by
  unfold isInt at h
  split at h
  · rename_i k hk; exact ⟨k, hk⟩
  · cases h
theorem run_part {w : World} {cs : Array Value} {i : Nat} (h : isInt P t = true) (hv : cs[i]? = some v) : (part t cs i).run P w = .ok v w := by
  obtain ⟨k, hk⟩ := isInt.out h
  simp only [part, Sem.run_bind, run_isAgg hk, Result.andThen_ok, aggD, Bool.false_eq_true, if_false, hv, Sem.run_pure]
def flatFields (P : Program) : List Field → Nat → Bool
  | [], _ => true
  | f :: fs, i => (f.offset == i) && (f.name != "_") && isInt P f.type && flatFields P fs (i + 1)
theorem ints_get {zs : List Int} {i : Nat} {z : Int} (h : zs[i]? = some z) : (ints zs)[i]? = some (.int .i64 z) := by simp [ints, h]
theorem decide_cons (a b : Int) (r s : List Int) : decide (a :: r = b :: s) = (decide (a = b) && decide (r = s)) := by simp
theorem run_eqFields (d : Nat) (w : World) (zs zs' : List Int) : ∀ (fs : List Field) (i : Nat), flatFields P fs i = true → i + fs.length = zs.length → zs'.length = zs.length →
    (Op.eqFields (d + 1) (ints zs) (ints zs') fs).run P w = .ok (decide (zs.drop i = zs'.drop i)) w
  | [], i, _, h, h' => by
    simp only [List.length_nil, Nat.add_zero] at h
    rw [List.drop_of_length_le (by omega), List.drop_of_length_le (by omega)]
    simp [Op.eqFields]
  | f :: fs, i, hf, h, h' => by
    simp only [flatFields, Bool.and_eq_true, beq_iff_eq, bne_iff_ne, ne_eq] at hf
    obtain ⟨⟨⟨rfl, h2⟩, h3⟩, h4⟩ := hf
    simp only [List.length_cons] at h
    have e1 : zs[f.offset]? = some zs[f.offset] := by simp
    have e2 : zs'[f.offset]? = some zs'[f.offset] := by simp
    obtain ⟨k, hk⟩ := isInt.out h3
    simp only [Op.eqFields, h2, not_false_iff, if_true, ne_eq, Sem.run_bind, run_part h3 (ints_get e1), run_part h3 (ints_get e2), Result.andThen_ok, run_equalIn_int w d f.type .i64 k _ _ hk]
    rw [List.drop_eq_getElem_cons (by omega), List.drop_eq_getElem_cons (l := zs') (by omega), decide_cons]
    by_cases he : zs[f.offset] = zs'[f.offset]
    · simp only [he, BEq.rfl, Bool.not_true, Bool.false_eq_true, if_false, decide_true, Bool.true_and]
      exact run_eqFields d w zs zs' fs (f.offset + 1) h4 (by omega) h'
    · have : (zs[f.offset] == zs'[f.offset]) = false := by simpa using he
      simp [this, he]
theorem Flat.struct {fs : Array Field} {n : Nat} (hu : P.underlying t = some (.struct fs)) (hp : P.stoodInHeld t = false) (hg : P.eqGuardType P.depth t = false) (hf : flatFields P fs.toList 0 = true) (hn : fs.size = n) : Flat P t n := by
  have hfo : P.fieldsOf t = fs := by simp [Program.fieldsOf, hu]
  refine ⟨fun w zs zs' h1 h2 => ?_, hg⟩
  rw [run_equalIn_struct w 9999 t _ _ (by rw [hfo]; exact hu) hp, hfo, run_eqFields 9998 w zs zs' _ 0 hf (by simp; omega) (by omega)]
  simp
theorem run_eqItems (d : Nat) (w : World) {e : TypeId} (he : isInt P e = true) (zs zs' : List Int) : ∀ (m i : Nat), i + m = zs.length → zs'.length = zs.length →
    (Op.eqItems (d + 1) e 1 (ints zs) (ints zs') (List.range' i m)).run P w = .ok (decide (zs.drop i = zs'.drop i)) w
  | 0, i, h, h' => by
    rw [List.drop_of_length_le (by omega), List.drop_of_length_le (by omega)]
    simp [Op.eqItems]
  | m + 1, i, h, h' => by
    have e1 : zs[i]? = some zs[i] := by simp
    have e2 : zs'[i]? = some zs'[i] := by simp
    obtain ⟨k, hk⟩ := isInt.out he
    rw [List.range'_succ]
    simp only [Op.eqItems, Nat.mul_one, Sem.run_bind, run_part he (ints_get e1), run_part he (ints_get e2), Result.andThen_ok, run_equalIn_int w d e .i64 k _ _ hk]
    rw [List.drop_eq_getElem_cons (by omega), List.drop_eq_getElem_cons (l := zs') (by omega), decide_cons]
    by_cases hz : zs[i] = zs'[i]
    · simp only [hz, BEq.rfl, Bool.not_true, Bool.false_eq_true, if_false, decide_true, Bool.true_and]
      exact run_eqItems d w he zs zs' m (i + 1) (by omega) h'
    · have : (zs[i] == zs'[i]) = false := by simpa using hz
      simp [this, hz]
theorem Flat.array {e : TypeId} {n : Nat} (hu : P.underlying t = some (.array n e)) (he : isInt P e = true) (hc : (P.info? e).map (·.size) = some 1) (hg : P.eqGuardType P.depth t = false) : Flat P t n := by
  cases hi : P.info? e with
  | none => simp [hi] at hc
  | some i =>
    have hce : P.cellsOf e = 1 := by simpa [Program.cellsOf, hi] using hc
    refine ⟨fun w zs zs' h1 h2 => ?_, hg⟩
    rw [run_equalIn_array w 9999 _ _ hu hi, hce, List.range_eq_range', run_eqItems 9998 w he zs zs' n 0 (by omega) (by omega)]
    simp
theorem Y_eqF {n : Nat} {zs zs' : List Int} (hx : ρ x = .agg (ints zs)) (hy : ρ y = .agg (ints zs')) (hf : Flat P t n) (h1 : zs.length = n) (h2 : zs'.length = n) : Y P W M L ρ (.binOp .eql t x y t') ty (.bool (decide (zs = zs'))) :=
  bin2_run (fun w => run_eqGuard_agg w .eql t x y _ _ hf.2) (fun w => by rw [run_eql_struct, hf.1 w zs zs' h1 h2]; rfl) hx hy
theorem Y_neF {n : Nat} {zs zs' : List Int} (hx : ρ x = .agg (ints zs)) (hy : ρ y = .agg (ints zs')) (hf : Flat P t n) (h1 : zs.length = n) (h2 : zs'.length = n) : Y P W M L ρ (.binOp .neq t x y t') ty (.bool (decide (zs ≠ zs'))) :=
  bin2_run (fun w => run_eqGuard_agg w .neq t x y _ _ hf.2) (fun w => by rw [run_neq_struct, hf.1 w zs zs' h1 h2]; simp [Result.andThen]) hx hy
end
end Go.Ad
set_option linter.unusedVariables false
namespace Go.Ad
open Go.RowKit Go.Maps
section
variable {P : Program} {W : World} {M : List Nat} {ops : Array Oper} {Q : Exit → Act → World → Prop} {all rest : List Oper} {ov ov' : Ov} {base : List Value} {L L' L2 : List Bk}
theorem QL.again {K : Act → World → Prop} {tr : Ov} {ks : List Nat} (h1 : AllGet ov' base tr) (h2 : ov'.drop ks = ov.drop ks) (h3 : (tr.all fun p => ks.any (Nat.beq p.1)) = true) (hL : ∀ w, Has W M L w → Has W M L2 w)
    (h : ∀ j, QL W M K (tr ++ (junk ks j ++ ov)) base L2) : QL W M K ov' base L := fun a w hr hH => h _ a w (hr.again h1 h2 h3) (hL w hH)
theorem c_meet {α : Type} {next : Act → World → Prop} {c : Code} (ks : List Nat) (tr : α → Ov) (φ : α → Prop) (G : α → List Bk) (hk : ∀ y, ((tr y).all fun p => ks.any (Nat.beq p.1)) = true) (K : ∀ y j, φ y → QL W M next (tr y ++ (junk ks j ++ ov)) base (G y))
    (go : (∀ y ov' L', φ y → AllGet ov' base (tr y) → ov'.drop ks = ov.drop ks → (∀ w, Has W M L' w → Has W M (G y) w) → QL W M next ov' base L') → wpC P W M c Q ov base L) : wpC P W M c Q ov base L :=
  go fun y _ _ hy h1 h2 hL => QL.again h1 h2 (hk y) hL (fun j => K y j hy)
theorem c_known {c : Operand} {x y : Code} {t u : Bool} (hc : ev ov base c = .bool t) (ht : t = u) (h : wpC P W M (if u then x else y) Q ov base L) : wpC P W M (.cond c x y) Q ov base L := by
  subst ht
  refine c_cond hc (fun ht => ?_) (fun ht => ?_) <;> (rw [ht] at h; exact h)
theorem c_T {c : Operand} {x y : Code} {t : Bool} (hc : ev ov base c = .bool t) (ht : t = true) (h : wpC P W M x Q ov base L) : wpC P W M (.cond c x y) Q ov base L := c_known hc ht h
theorem c_F {c : Operand} {x y : Code} {t : Bool} (hc : ev ov base c = .bool t) (ht : t = false) (h : wpC P W M y Q ov base L) : wpC P W M (.cond c x y) Q ov base L := c_known hc ht h
theorem q_te {K : Act → World → Prop} {i : Nat} (h : QL W M (Q (.exit i)) ov base L) : QL W M (Exit.then K Q (.exit i)) ov base L := h
theorem q_bn {i : Nat} (h : QL W M (Q .normal) ov base L) : QL W M (Exit.inBlock i Q .normal) ov base L := h
inductive Sels : List Bk → List Bk → List Bk → Prop
  | nil {L : List Bk} : Sels [] L L
  | cons {x : Bk} {xs L L1 L2 : List Bk} (h : Sel x L L1) (r : Sels xs L1 L2) : Sels (x :: xs) L L2
theorem Sels.sublist {xs : List Bk} (h : Sels xs L L') : List.Sublist L' L := by
  induction h with
  | nil => exact .refl _
  | cons h _ ih => exact ih.trans h.sublist
theorem Sels.mem {xs : List Bk} (h : Sels xs L L') : ∀ x ∈ xs, x ∈ L := by
  induction h with
  | nil => intro x hx; cases hx
  | cons h _ ih =>
    intro x hx
    rcases List.mem_cons.1 hx with rfl | hx
    · exact h.mem
    · exact h.sublist.subset (ih x hx)
theorem Sels.other {xs : List Bk} (h : Sels xs L L') (hn : (L.map (·.b)).Nodup) : ∀ z ∈ L', z.b ∉ xs.map (·.b) := by
  induction h with
  | nil => intro z _; simp
  | cons h r ih =>
    intro z hz hm
    rw [List.map_cons, List.mem_cons] at hm
    rcases hm with hm | hm
    · exact h.other hn z (r.sublist.subset hz) hm
    · exact ih (hn.sublist (h.sublist.map _)) z hz hm
theorem Has.calls {W w w' : World} {xs : List Bk} {R : List Bk} (h : Has W M L w) (hs : Sels xs L R) (k : Has w (xs.map (·.b)) L' w') : Has W M (L' ++ R) w' := by
  have hx : ∀ i ∈ xs.map (·.b), i ∈ M ∨ W.heap.size ≤ i := fun i hi => by
    obtain ⟨x, hx, rfl⟩ := List.mem_map.1 hi
    exact (h.bk x (hs.mem x hx)).2
  have hot := hs.other h.nd
  refine ⟨⟨k.ex.os.trans h.ex.os, k.ex.tape.trans h.ex.tape, k.ex.output.trans h.ex.output, Nat.le_trans h.size k.size, fun i hi hM => ?_⟩, fun y hy => ?_, ?_⟩
  · rw [k.ex.block i (Nat.lt_of_lt_of_le hi h.size) (fun hm => by rcases hx i hm with h2 | h2; exact hM h2; omega)]
    exact h.ex.block i hi hM
  · rcases List.mem_append.1 hy with hy | hy
    · obtain ⟨h1, h2⟩ := k.bk y hy
      rcases h2 with h2 | h2
      · exact ⟨h1, hx _ h2⟩
      · exact ⟨h1, .inr (Nat.le_trans h.size h2)⟩
    · obtain ⟨h1, h2⟩ := h.bk y (hs.sublist.subset hy)
      exact ⟨h1.of_block (k.ex.block y.b h1.lt (hot y hy)), h2⟩
  · rw [List.map_append, List.nodup_append]
    refine ⟨k.nd, h.nd.sublist (hs.sublist.map _), fun i hi j hj he => ?_⟩
    obtain ⟨y, hy, rfl⟩ := List.mem_map.1 hi
    obtain ⟨z, hz, rfl⟩ := List.mem_map.1 hj
    have h1 := (h.at' (hs.sublist.subset hz)).lt
    rcases (k.bk y hy).2 with h2 | h2
    · exact hot z hz (he ▸ h2)
    · omega
theorem s_cm {d : Nat} {op : Op} {ty : TypeId} {pos : String} {aft : Array Edge} {g : Option (Nat × Bool)} {f : FuncId} {vs : List Value} {Post : Value → List Bk → Prop} (xs : List Bk) {R : List Bk} (he : En P W M L (ev ov base) op ty f vs) (hs : Sels xs L R)
    (hc : ∀ w, Has W M L w → Does P f vs w (xs.map (·.b)) Post) (hw : wantedL ops ov base ⟨some d, op, ty, pos, aft, g⟩ = true) (hd : Nat.blt d base.length = true)
    (k : ∀ v L', Post v L' → wpL P W M ops Q rest ((d, v) :: ov) base (L' ++ R)) : wpL P W M ops Q (⟨some d, op, ty, pos, aft, g⟩ :: rest) ov base L := fun a w hr hH => by
  refine G_enter (by rw [hr.wanted]; exact hw) (by rw [hr.eval]; exact he w hH _ rfl rfl) ((hc w hH).mono ?_)
  rintro e w' ⟨v, L', rfl, h1, h2⟩
  exact ⟨v, rfl, k v L' h2 _ _ (hr.put v hd) (hH.calls hs h1)⟩
theorem o_cm {T : Nat → Bool} {L0 : List Bk} {i : Nat} {r : List (Nat × Bool × Oper)} {d : Nat} {op : Op} {ty : TypeId} {pos : String} {aft : Array Edge} {g : Option (Nat × Bool)} {f : FuncId} {vs : List Value} {Post : Value → List Bk → Prop} (xs : List Bk) {R : List Bk} (he : En P W M L (ev ov base) op ty f vs) (hs : Sels xs L R)
    (hc : ∀ w, Has W M L w → Does P f vs w (xs.map (·.b)) Post) (hk : ∀ v L', Post v L' → Keep W M (L' ++ R) L0 T i) (hw : wantedL ops ov base ⟨some d, op, ty, pos, aft, g⟩ = true) (hd : Nat.blt d base.length = true)
    (k : ∀ v L', Post v L' → wpO P W M ops Q T L0 r ((d, v) :: ov) base (L' ++ R)) : wpO P W M ops Q T L0 ((i, false, ⟨some d, op, ty, pos, aft, g⟩) :: r) ov base L := fun a w hr hH => by
  refine ord_enter (by rw [hr.wanted]; exact hw) (by rw [hr.eval]; exact he w hH _ rfl rfl) ((hc w hH).mono ?_)
  rintro e w' ⟨v, L', rfl, h1, h2⟩
  exact ⟨v, rfl, fun h => hk v L' h2 h w' (hH.calls hs h1), k v L' h2 _ _ (hr.put v hd) (hH.calls hs h1)⟩
theorem Has.starts {w : World} {xs : List Bk} (h : ∀ x ∈ xs, x.holds w) (hn : (xs.map (·.b)).Nodup) : Has w (xs.map (·.b)) xs w := ⟨Ex.refl _ _, fun x hx => ⟨h x hx, .inl (List.mem_map.2 ⟨x, hx, rfl⟩)⟩, hn⟩
theorem Has.nodup2 {w : World} {x y : Bk} {R : List Bk} (h : Has W M L w) (hs : Sels [x, y] L R) : x.b ≠ y.b := by
  obtain ⟨L1, h1, h2⟩ : ∃ L1, Sel x L L1 ∧ Sels [y] L1 R := by cases hs with | cons a b => exact ⟨_, a, b⟩
  exact fun he => h1.other h.nd y (h2.mem y (by simp)) he.symm
variable {ρ : Operand → Value} {ty : TypeId} {x : Operand} {v : Value}
theorem Y_mkF {f : Fn} {first captured : Array Operand} {vs ws : Array Value} (h1 : first.map ρ = vs) (h2 : captured.map ρ = ws) : Y P W M L ρ (.makeFunc f first captured) ty (.func f vs ws) := fun w _ o ho _ => by
  unfold execOp
  rw [ho]
  simp only [Instr.makeFunc, Sem.run_bind, Sem.run_pure, Result.andThen_ok, h1, h2]
theorem Y_mk {f : Fn} {xs ys : List Operand} {vs ws : List Value} (h1 : Gv ov base xs vs) (h2 : Gv ov base ys ws) : Y P W M L (ev ov base) (.makeFunc f xs.toArray ys.toArray) ty (.func f vs.toArray ws.toArray) := Y_mkF (by rw [← h1.eq]; simp) (by rw [← h2.eq]; simp)
theorem Y_nilM {name : String} {t : TypeId} {u : Value} {cp : Array Value} (hx : ρ x = .func (.method name) #[.iface t u] cp) (h : ∀ w k, (nilAhead (k + 1) t u name).run P w = .ok (some false) w) : Y P W M L ρ (.nilCheck x) ty (.func (.method name) #[.iface t u] cp) := fun w _ o ho _ => by
  unfold execOp
  rw [ho]
  simp only [hx]
  have := h w (P.types.size + Made.depth - 1)
  have e : P.types.size + Made.depth - 1 + 1 = P.types.size + Made.depth := by
    have : 0 < Made.depth := by decide
    omega
  rw [e] at this
  simp [run_program, this, Result.andThen]
theorem Y_nilF {f : FuncId} {fs cp : Array Value} (hx : ρ x = .func (.func f) fs cp) : Y P W M L ρ (.nilCheck x) ty (.func (.func f) fs cp) := fun w _ o ho _ => by
  unfold execOp
  rw [ho]
  simp only [hx]
  simp
end
end Go.Ad
namespace Go.Proofs.YtcogbkkdccohfaaGreat
open Go.RowKit Go.Ad
set_option linter.unusedVariables false
theorem sz2 : (Tryz.prog.info? 2).map (·.size) = some 1 := by kernel_rfl
theorem one2 : Cel1 Tryz.prog 2 := Cel1.mk Tryz.underlying2 rfl
theorem sz3 : (Tryz.prog.info? 3).map (·.size) = some 1 := by kernel_rfl
theorem one3 : Cel1 Tryz.prog 3 := Cel1.mk Tryz.underlying3 rfl
theorem zv3 (w : World) : (zeroValue 3).run Tryz.prog w = .ok (.int .i64 0) w := by kernel_rfl
theorem inf3 : (Tryz.prog.info? 3).map (fun i => (i.zero, i.size, i.bytes)) = some (some (.int .i64 0), 1, 8) := by kernel_rfl
theorem sz4 : (Tryz.prog.info? 4).map (·.size) = some 1 := by kernel_rfl
theorem one4 : Cel1 Tryz.prog 4 := Cel1.mk Tryz.underlying4 rfl
theorem inf4 : (Tryz.prog.info? 4).map (fun i => (i.zero, i.size, i.bytes)) = some (some (.bool false), 1, 1) := by kernel_rfl
theorem sz5 : (Tryz.prog.info? 5).map (·.size) = some 1 := by kernel_rfl
theorem one5 : Cel1 Tryz.prog 5 := Cel1.mk Tryz.underlying5 rfl
theorem inf5 : (Tryz.prog.info? 5).map (fun i => (i.zero, i.size, i.bytes)) = some (some (.int .u8 0), 1, 1) := by kernel_rfl
theorem sz23 : (Tryz.prog.info? 23).map (·.size) = some 1 := by kernel_rfl
theorem one23 : Cel1 Tryz.prog 23 := Cel1.mk Tryz.underlying23 rfl
theorem sz24 : (Tryz.prog.info? 24).map (·.size) = some 1 := by kernel_rfl
theorem one24 : Cel1 Tryz.prog 24 := Cel1.mk Tryz.underlying24 rfl
theorem sz30 : (Tryz.prog.info? 30).map (·.size) = some 1 := by kernel_rfl
theorem one30 : Cel1 Tryz.prog 30 := Cel1.mk Tryz.underlying30 rfl
theorem sz31 : (Tryz.prog.info? 31).map (·.size) = some 1 := by kernel_rfl
theorem one31 : Cel1 Tryz.prog 31 := Cel1.mk Tryz.underlying31 rfl
theorem sz32 : (Tryz.prog.info? 32).map (·.size) = some 4 := by kernel_rfl
theorem many32 : CelN Tryz.prog 32 4 := CelN.mk Tryz.underlying32 sz32 rfl
theorem flat32 : Flat Tryz.prog 32 4 := Flat.array Tryz.underlying32 (by kernel_rfl) sz3 (by kernel_rfl)
theorem sz34 : (Tryz.prog.info? 34).map (·.size) = some 11 := by kernel_rfl
theorem many34 : CelN Tryz.prog 34 11 := CelN.mk Tryz.underlying34 sz34 rfl
theorem zv34 (w : World) : (zeroValue 34).run Tryz.prog w = .ok (.agg #[.int .i64 0, .int .i64 0, .int .i64 0, .int .i64 0, .slice none 0 0, .slice none 0 0, .slice none 0 0, .int .i64 0, .int .i64 0, .int .i64 0, .int .i64 0]) w := by kernel_rfl
theorem inf34 : (Tryz.prog.info? 34).map (fun i => (i.zero, i.size, i.bytes)) = some (some (.agg #[.int .i64 0, .int .i64 0, .int .i64 0, .int .i64 0, .slice none 0 0, .slice none 0 0, .slice none 0 0, .int .i64 0, .int .i64 0, .int .i64 0, .int .i64 0]), 11, 136) := by kernel_rfl
theorem bld34 : Bld Tryz.prog 34 #[.int .i64 0, .int .i64 0, .int .i64 0, .int .i64 0, .slice none 0 0, .slice none 0 0, .slice none 0 0, .int .i64 0, .int .i64 0, .int .i64 0, .int .i64 0] #[(0, 1), (1, 1), (2, 1), (3, 1), (4, 1), (5, 1), (6, 1), (7, 4)] := by
  obtain ⟨i, h1, h2, _⟩ := info_parts inf34
  exact Bld.mk h1 h2 rfl Tryz.underlying34 (by kernel_rfl)
theorem sz56 : (Tryz.prog.info? 56).map (·.size) = some 4 := by kernel_rfl
theorem many56 : CelN Tryz.prog 56 4 := CelN.mk Tryz.underlying56 sz56 rfl
theorem sz58 : (Tryz.prog.info? 58).map (·.size) = some 15 := by kernel_rfl
theorem many58 : CelN Tryz.prog 58 15 := CelN.mk Tryz.underlying58 sz58 rfl
theorem zv58 (w : World) : (zeroValue 58).run Tryz.prog w = .ok (.agg #[.int .i64 0, .int .i64 0, .int .i64 0, .int .i64 0, .slice none 0 0, .slice none 0 0, .slice none 0 0, .int .i64 0, .int .i64 0, .int .i64 0, .int .i64 0, .bool false, .bool false, .bool false, .bool false]) w := by kernel_rfl
theorem inf58 : (Tryz.prog.info? 58).map (fun i => (i.zero, i.size, i.bytes)) = some (some (.agg #[.int .i64 0, .int .i64 0, .int .i64 0, .int .i64 0, .slice none 0 0, .slice none 0 0, .slice none 0 0, .int .i64 0, .int .i64 0, .int .i64 0, .int .i64 0, .bool false, .bool false, .bool false, .bool false]), 15, 144) := by kernel_rfl
theorem bld58 : Bld Tryz.prog 58 #[.int .i64 0, .int .i64 0, .int .i64 0, .int .i64 0, .slice none 0 0, .slice none 0 0, .slice none 0 0, .int .i64 0, .int .i64 0, .int .i64 0, .int .i64 0, .bool false, .bool false, .bool false, .bool false] #[(0, 11), (11, 4)] := by
  obtain ⟨i, h1, h2, _⟩ := info_parts inf58
  exact Bld.mk h1 h2 rfl Tryz.underlying58 (by kernel_rfl)
theorem sz77 : (Tryz.prog.info? 77).map (·.size) = some 3 := by kernel_rfl
theorem inf77 : (Tryz.prog.info? 77).map (fun i => (i.zero, i.size, i.bytes)) = some (some (.agg #[.int .i64 0, .int .i64 0, .bool false]), 3, 24) := by kernel_rfl
theorem bld77 : Bld Tryz.prog 77 #[.int .i64 0, .int .i64 0, .bool false] #[(0, 1), (1, 1), (2, 1)] := by
  obtain ⟨i, h1, h2, _⟩ := info_parts inf77
  exact Bld.mk h1 h2 rfl Tryz.underlying77 (by kernel_rfl)
theorem sz79 : (Tryz.prog.info? 79).map (·.size) = some 12 := by kernel_rfl
theorem many79 : CelN Tryz.prog 79 12 := CelN.mk Tryz.underlying79 sz79 rfl
theorem zv79 (w : World) : (zeroValue 79).run Tryz.prog w = .ok (.agg #[.int .i64 0, .int .i64 0, .bool false, .int .i64 0, .int .i64 0, .bool false, .int .i64 0, .int .i64 0, .bool false, .int .i64 0, .int .i64 0, .bool false]) w := by kernel_rfl
theorem sz93 : (Tryz.prog.info? 93).map (·.size) = some 11 := by kernel_rfl
theorem many93 : CelN Tryz.prog 93 11 := CelN.mk Tryz.underlying93 sz93 rfl
theorem flat93 : Flat Tryz.prog 93 11 := Flat.struct Tryz.underlying93 (by kernel_rfl) (by kernel_rfl) (by kernel_rfl) rfl
theorem zv93 (w : World) : (zeroValue 93).run Tryz.prog w = .ok (.agg #[.int .i64 0, .int .i64 0, .int .i64 0, .int .i64 0, .int .i64 0, .int .i64 0, .int .i64 0, .int .i64 0, .int .i64 0, .int .i64 0, .int .i64 0]) w := by kernel_rfl
theorem inf93 : (Tryz.prog.info? 93).map (fun i => (i.zero, i.size, i.bytes)) = some (some (.agg #[.int .i64 0, .int .i64 0, .int .i64 0, .int .i64 0, .int .i64 0, .int .i64 0, .int .i64 0, .int .i64 0, .int .i64 0, .int .i64 0, .int .i64 0]), 11, 88) := by kernel_rfl
theorem bld93 : Bld Tryz.prog 93 #[.int .i64 0, .int .i64 0, .int .i64 0, .int .i64 0, .int .i64 0, .int .i64 0, .int .i64 0, .int .i64 0, .int .i64 0, .int .i64 0, .int .i64 0] #[(0, 1), (1, 1), (2, 1), (3, 1), (4, 1), (5, 1), (6, 1), (7, 1), (8, 1), (9, 1), (10, 1)] := by
  obtain ⟨i, h1, h2, _⟩ := info_parts inf93
  exact Bld.mk h1 h2 rfl Tryz.underlying93 (by kernel_rfl)
theorem sz96 : (Tryz.prog.info? 96).map (·.size) = some 1 := by kernel_rfl
theorem one96 : Cel1 Tryz.prog 96 := Cel1.mk Tryz.underlying96 rfl
theorem sz98 : (Tryz.prog.info? 98).map (·.size) = some 4 := by kernel_rfl
theorem many98 : CelN Tryz.prog 98 4 := CelN.mk Tryz.underlying98 sz98 rfl
theorem flat98 : Flat Tryz.prog 98 4 := Flat.struct Tryz.underlying98 (by kernel_rfl) (by kernel_rfl) (by kernel_rfl) rfl
theorem zv98 (w : World) : (zeroValue 98).run Tryz.prog w = .ok (.agg #[.int .i64 0, .int .i64 0, .int .i64 0, .int .i64 0]) w := by kernel_rfl
theorem inf98 : (Tryz.prog.info? 98).map (fun i => (i.zero, i.size, i.bytes)) = some (some (.agg #[.int .i64 0, .int .i64 0, .int .i64 0, .int .i64 0]), 4, 32) := by kernel_rfl
theorem bld98 : Bld Tryz.prog 98 #[.int .i64 0, .int .i64 0, .int .i64 0, .int .i64 0] #[(0, 1), (1, 1), (2, 1), (3, 1)] := by
  obtain ⟨i, h1, h2, _⟩ := info_parts inf98
  exact Bld.mk h1 h2 rfl Tryz.underlying98 (by kernel_rfl)
theorem inf101 : (Tryz.prog.info? 101).map (fun i => (i.zero, i.size, i.bytes)) = some (some (.agg #[.slice none 0 0]), 1, 24) := by kernel_rfl
theorem bld101 : Bld Tryz.prog 101 #[.slice none 0 0] #[(0, 1)] := by
  obtain ⟨i, h1, h2, _⟩ := info_parts inf101
  exact Bld.mk h1 h2 rfl Tryz.underlying101 (by kernel_rfl)
theorem sz104 : (Tryz.prog.info? 104).map (·.size) = some 1 := by kernel_rfl
theorem one104 : Cel1 Tryz.prog 104 := Cel1.mk Tryz.underlying104 rfl
theorem inf104 : (Tryz.prog.info? 104).map (fun i => (i.zero, i.size, i.bytes)) = some (some (.pointer none), 1, 8) := by kernel_rfl
theorem sz127 : (Tryz.prog.info? 127).map (·.size) = some 2 := by kernel_rfl
theorem many127 : CelN Tryz.prog 127 2 := CelN.mk Tryz.underlying127 sz127 rfl
theorem zv127 (w : World) : (zeroValue 127).run Tryz.prog w = .ok (.agg #[.int .u64 0, .int .u64 0]) w := by kernel_rfl
theorem sz138 : (Tryz.prog.info? 138).map (·.size) = some 3 := by kernel_rfl
theorem many138 : CelN Tryz.prog 138 3 := CelN.mk Tryz.underlying138 sz138 rfl
theorem zv138 (w : World) : (zeroValue 138).run Tryz.prog w = .ok (.agg #[.slice none 0 0, .slice none 0 0, .slice none 0 0]) w := by kernel_rfl
theorem inf138 : (Tryz.prog.info? 138).map (fun i => (i.zero, i.size, i.bytes)) = some (some (.agg #[.slice none 0 0, .slice none 0 0, .slice none 0 0]), 3, 72) := by kernel_rfl
theorem bld138 : Bld Tryz.prog 138 #[.slice none 0 0, .slice none 0 0, .slice none 0 0] #[(0, 1), (1, 1), (2, 1)] := by
  obtain ⟨i, h1, h2, _⟩ := info_parts inf138
  exact Bld.mk h1 h2 rfl Tryz.underlying138 (by kernel_rfl)
theorem zv177 (w : World) : (zeroValue 177).run Tryz.prog w = .ok (.agg #[.int .i64 0, .int .i64 0, .int .i64 0, .int .i64 0, .int .i64 0, .int .i64 0]) w := by kernel_rfl
theorem flat218 : Flat Tryz.prog 218 2 := Flat.struct Tryz.underlying218 (by kernel_rfl) (by kernel_rfl) (by kernel_rfl) rfl
theorem inf218 : (Tryz.prog.info? 218).map (fun i => (i.zero, i.size, i.bytes)) = some (some (.agg #[.int .i64 0, .int .i64 0]), 2, 16) := by kernel_rfl
theorem bld218 : Bld Tryz.prog 218 #[.int .i64 0, .int .i64 0] #[(0, 1), (1, 1)] := by
  obtain ⟨i, h1, h2, _⟩ := info_parts inf218
  exact Bld.mk h1 h2 rfl Tryz.underlying218 (by kernel_rfl)
end Go.Proofs.YtcogbkkdccohfaaGreat
set_option linter.unusedVariables false
namespace Go.Ad
open Go.RowKit Go.Maps
section
variable {P : Program} {W : World} {M : List Nat} {ops : Array Oper} {Q : Exit → Act → World → Prop} {all rest : List Oper} {ov ov' : Ov} {base : List Value} {L L' L2 : List Bk} {ρ : Operand → Value} {ty : TypeId} {x y : Operand} {v : Value}
theorem QL.perm {K : Act → World → Prop} (hp : List.Perm L' L) (h : QL W M K ov base L') : QL W M K ov base L := fun a w hr hH => h a w hr (hH.perm hp)
theorem QL.last {K : Act → World → Prop} {x : Bk} (h : QL W M K ov base (x :: L)) : QL W M K ov base (L ++ [x]) := QL.perm (List.perm_append_singleton x L).symm h
theorem c_rordS {Q : Exit → Act → World → Prop} {L0 : List Bk} (hs0 : List.Sublist L0 L) {id : Nat} {l : List Oper} {l' : List (Nat × Bool × Oper)} (E : List Nat) (ord : List (Nat × Bool)) (hm : P.follows .mixedOrders = true) (hs : Region.noSelect l.toArray = true)
    (hok : okOrd l.toArray (fun j => !E.contains j) ord true (Array.replicate l.toArray.size false) = true) (hE : (E.all (· < l.toArray.size) && ord.all (fun p => decide (p.1 < l.toArray.size))) = true) (hl : ord.length = l.toArray.size)
    (hQ : ∀ c a d v w, Q (.panic c) (a.put d v) w → Q (.panic c) a w) (hl' : mkOrd l.toArray ord = l')
    (h : wpO P W M l.toArray Q (fun j => !E.contains j) L0 l' ov base L) : wpC P W M (.region id l.toArray true) Q ov base L := fun a w hr hH => by
  subst hl'
  exact wp_region_ord (Has W M L0) E ord hm hs hok hE hl hQ (hH.drew.sub hs0) (h a w.drew hr hH.drew)
theorem c_meetQ {α : Type} {Q : Exit → Act → World → Prop} {c : Code} (ks : List Nat) (tr : α → Ov) (φ : α → Prop) (G : α → List Bk) (hk : ∀ y, ((tr y).all fun p => ks.any (Nat.beq p.1)) = true) (K : ∀ y j, φ y → QL W M (Q .normal) (tr y ++ (junk ks j ++ ov)) base (G y))
    (go : (∀ y ov' L', φ y → AllGet ov' base (tr y) → ov'.drop ks = ov.drop ks → (∀ w, Has W M L' w → Has W M (G y) w) → QL W M (Q .normal) ov' base L') → wpC P W M c Q ov base L) : wpC P W M c Q ov base L := c_meet ks tr φ G hk K go
theorem QL.known {K : Act → World → Prop} {d : Nat} {t u : Bool} (hv : ov.get base d = .bool t) (ht : t = u) (h : QL W M K ((d, .bool u) :: ov) base L) : QL W M K ov base L := by
  subst ht
  refine fun a w hr hH => h a w ⟨hr.defers, hr.size, fun e => ?_⟩ hH
  rw [hr.get e]
  simp only [Ov.get]
  by_cases hde : d = e
  · subst hde
    have : Nat.beq d d = true := by simp
    rw [this, hv]; rfl
  · have : Nat.beq d e = false := nbeq hde
    rw [this]; rfl
theorem QL.rebase {K : Act → World → Prop} (h : ∀ W1, Has W M L W1 → QL W1 [] K ov base []) : QL W M K ov base L := fun a w hr hH => h w hH a w hr (Has.start w)
theorem Has.self {w : World} (h : Has W M L w) : Has w (L.map (·.b)) L w := ⟨Ex.refl _ _, fun x hx => ⟨h.at' hx, .inl (List.mem_map.2 ⟨x, hx, rfl⟩)⟩, h.nd⟩
theorem q_ret1W {W1 : World} {M1 : List Nat} {fn : Func} {t : Nat} {Post : Value → List Bk → Prop} (v : Value) (hX : ∀ w, Ex M1 W1 w → Ex M W w) (hr : fn.results = #[.tmp t]) (hv : ov.get base t = v) (hp : Post v []) : QL W1 M1 (bodyPost P fn (fun e w' => ∃ v L, e = .returned v ∧ Has W M L w' ∧ Post v L) .ret) ov base L := fun a w hrp hH =>
  bodyPost_ret (v := v) (by rw [results_tmp hr, hrp.get, hv]) hrp.defers ⟨v, [], rfl, ⟨hX w hH.ex, by simp, by simp⟩, hp⟩
theorem Does.old {f : FuncId} {args : List Value} {v : Value} (h : Calls P f args.toArray W fun e w' => e = .returned v ∧ Ex [] W w') : Does P f args W [] (fun u L => u = v ∧ L = []) :=
  Calls.mono h fun _ _ ⟨h1, h2⟩ => ⟨v, [], h1, ⟨h2, by simp, by simp⟩, rfl, rfl⟩
theorem setCells_eq (b : Nat) : ∀ (vs : List Value) (w : World) (j : Nat), w.setCells b j vs = setCells' w b j vs
  | [], _, _ => rfl
  | v :: r, w, j => setCells_eq b r _ (j + 1)
theorem S_storeN {b' j kk cap n : Nat} {tt : TypeId} {cs cs' vs : List Value} {u : TypeId} (hx : ρ x = .pointer (some ⟨b', j, none⟩)) (hy : ρ y = .agg vs.toArray) (hi : (P.info? u).map (·.size) = some n) (hn : vs.length = n) (h1 : vs.all (·.oneCell') = true)
    (hu : Upd ⟨b', tt, kk, cap, cs⟩ ⟨b', tt, kk, cap, cs'⟩ L L') (hc : setAll cs j vs = cs') (hj : Nat.ble (j + vs.length) cs.length = true) : S P W M L ρ (.store u x y) ty L' := fun w hw o ho _ => by
  subst hc
  have hj := Nat.le_of_ble_eq_true hj
  refine ⟨setCells' w b' j vs, x_store ho hx hy ?_, Has.setAll vs hw hu⟩
  have hm := hw.at' hu.mem
  simp only [Instr.storeAt, Instr.sureAddr, Sem.run_bind, Sem.run_pure, Result.andThen_ok, storeVar, run_size hi, Value.cells]
  have := run_storeCells_cells (P := P) b' j vs 0 w (fun i hi => by
    have : cs[j + i]? = some (cs[j + i]'(by omega)) := List.getElem?_eq_getElem _
    rw [Nat.add_zero, hm.cell this]; rfl) (fun i _ => hm.froz _) (fun v hv => List.all_eq_true.1 h1 v hv)
  rw [Nat.add_zero, setCells_eq] at this
  simp [hn, this]
theorem setAll_pre : ∀ (vs cs pre : List Value), vs.length = cs.length → setAll (pre ++ cs) pre.length vs = pre ++ vs
  | [], [], pre, _ => rfl
  | v :: r, c :: cs, pre, h => by
    have := setAll_pre r cs (pre ++ [v]) (by simpa using h)
    simp only [setAll]
    simp only [List.append_assoc, List.singleton_append, List.length_append, List.length_singleton] at this
    rw [← this]
    simp
theorem S_storeA {b' kk cap n : Nat} {tt : TypeId} {cs vs : List Value} {u : TypeId} (hx : ρ x = .pointer (some ⟨b', 0, none⟩)) (hy : ρ y = .agg vs.toArray) (hi : (P.info? u).map (·.size) = some n) (hn : vs.length = n) (h1 : vs.all (·.oneCell') = true)
    (hu : Upd ⟨b', tt, kk, cap, cs⟩ ⟨b', tt, kk, cap, vs⟩ L L') (hj : Nat.beq vs.length cs.length = true) : S P W M L ρ (.store u x y) ty L' := by
  have hj := Nat.eq_of_beq_eq_true hj
  exact S_storeN hx hy hi hn h1 hu (setAll_pre vs cs [] hj) (by rw [Nat.zero_add, hj]; simp)
theorem BytesAt.has {a : Option Addr} {n : Nat} {xs : List UInt8} (h : BytesAt W a n xs) (hM : ∀ b o, a = some ⟨b, o, none⟩ → b ∉ M) {w : World} (hH : Has W M L w) : BytesAt w a n xs := by
  refine ⟨h.1, ?_⟩
  rcases h.2 with h2 | ⟨b, o, h1, h2, h3⟩
  · exact .inl h2
  · exact .inr ⟨b, o, h1, Nat.lt_of_lt_of_le h2 hH.size, hH.ro h3 (hM b o h1)⟩
theorem Y_bs {src dst e : TypeId} {a : Option Addr} {n c : Nat} {xs : List UInt8} (hx : ρ x = .slice a n c) (hs : P.underlying src = some (.slice e)) (he : P.underlying e = some (.int .u8)) (hd : P.underlying dst = some .string) (h : ∀ w, Has W M L w → BytesAt w a n xs) : Y P W M L ρ (.convert src dst x) ty (.string ⟨xs.toArray⟩) := fun w hw o ho _ => by
  have hr := run_bytes_string (P := P) hs he hd (h w hw) (cap := c)
  unfold execOp
  rw [ho]
  simp only [hx, Sem.run_bind, hr, Result.andThen_ok, Sem.run_pure]
theorem bytesL {g t k cap : Nat} {xs : List UInt8} (hm : ⟨g, t, k, cap, xs.map bv⟩ ∈ L) {w : World} (hH : Has W M L w) : BytesAt w (some ⟨g, 0, none⟩) xs.length xs := ⟨rfl, .inr ⟨g, 0, rfl, (hH.at' hm).lt, (hH.at' hm).ro⟩⟩
theorem q_ret2c {fn : Func} {p u b' kk cap n : Nat} {t tt : TypeId} {cs : List Value} {v2 : Value} {Post : Value → List Bk → Prop} (hr : fn.results = #[.cell p t, .tmp u]) (hp : ov.get base p = .pointer (some ⟨b', 0, none⟩)) (ht : CelN P t n) (hv2 : ov.get base u = v2) (hm : ⟨b', tt, kk, cap, cs⟩ ∈ L) (hl : cs.length = n) (hs : List.Sublist L' L) (hq : Post (.tuple #[.agg cs.toArray, v2]) L') :
    QL W M (bodyPost P fn (fun e w' => ∃ v L, e = .returned v ∧ Has W M L w' ∧ Post v L) .ret) ov base L := fun a w hrp hH => by
  refine bodyPost_ret (v := .tuple #[.agg cs.toArray, v2]) ?_ hrp.defers ⟨_, L', rfl, hH.sub hs, hq⟩
  have h := run_loadN (P := P) (ty := t) (w := w) (b' := b') (j := 0) ht hl (fun i v h => by rw [Nat.zero_add]; exact (hH.at' hm).cell h)
  simp only [Instr.loadAt, Instr.sureAddr, Sem.run_bind, Sem.run_pure, Result.andThen_ok] at h
  rw [results_cell_tmp hr, hrp.get, hp, hrp.get, hv2]
  simp [asAddr, h, Result.andThen]
theorem q_ret1c {fn : Func} {p b' kk cap n : Nat} {t tt : TypeId} {cs : List Value} {Post : Value → List Bk → Prop} (hr : fn.results = #[.cell p t]) (hp : ov.get base p = .pointer (some ⟨b', 0, none⟩)) (ht : CelN P t n) (hm : ⟨b', tt, kk, cap, cs⟩ ∈ L) (hl : cs.length = n) (hs : List.Sublist L' L) (hq : Post (.agg cs.toArray) L') :
    QL W M (bodyPost P fn (fun e w' => ∃ v L, e = .returned v ∧ Has W M L w' ∧ Post v L) .ret) ov base L := fun a w hrp hH => by
  refine bodyPost_ret (v := .agg cs.toArray) ?_ hrp.defers ⟨_, L', rfl, hH.sub hs, hq⟩
  have h := run_loadN (P := P) (ty := t) (w := w) (b' := b') (j := 0) ht hl (fun i v h => by rw [Nat.zero_add]; exact (hH.at' hm).cell h)
  simp only [Instr.loadAt, Instr.sureAddr, Sem.run_bind, Sem.run_pure, Result.andThen_ok] at h
  have hp2 : a.tmps.getD p undef = .pointer (some ⟨b', 0, none⟩) := by rw [hrp.get, hp]
  have hp' : a.tmps[p]?.getD undef = .pointer (some ⟨b', 0, none⟩) := by simpa using hp2
  simp [results, hr, hp', asAddr, h, Result.andThen]
inductive Row (e kk : Nat) : Value → Nat → List Value → List Bk → Prop
  | nil : Row e kk (.slice none 0 0) 0 [] []
  | some {g n cap : Nat} {cs : List Value} (hn : n ≤ cap) (hc : cs.length = n * kk) : Row e kk (.slice (some ⟨g, 0, none⟩) n cap) n cs [⟨g, e, kk, cap, cs⟩]
theorem N_appR {n m c2 e kk bytes : Nat} {a2 : Addr} {z v : Value} {u : TypeId} {cs news : List Value} {B R : List Bk} (hB : Row e kk v n cs B) (hL : List.Perm (B ++ R) L) (hx : ρ x = v) (hy : ρ y = .slice (some a2) m c2) (hu : P.underlying u = some (.slice e)) (hi : (P.info? e).map (fun i => (i.zero, i.size, i.bytes)) = some (some z, kk, bytes))
    (hz : z.cells.size = kk) (hk : 0 < kk) (hr : ∀ w, Has W M L w → ∀ j u, news[j]? = some u → w.cell? (a2.add j) = some u) (hl : news.length = m * kk) (h1 : ∀ u ∈ news, u.oneCell' = true)
    (h63 : n + m ≤ 140737488355328) (hb : (n + m) * bytes ≤ 140737488355328) (hm : 0 < m) :
    N P W M L ρ (.call { callee := .builtin .append, args := #[x, y], argTypes := #[u, u] }) ty (fun p : Nat × Nat => n + m ≤ p.2) (fun p => .slice (some ⟨p.1, 0, none⟩) (n + m) p.2) (fun p => ⟨p.1, e, kk, p.2, cs ++ news⟩ :: R) := fun w hw o ho ht => by
  have hw' := hw.perm hL
  cases hB with
  | nil =>
    obtain ⟨p, w', h1', h2, h3⟩ := N_appN (L := R) hx hy hu hi hz hk (fun w h => hr w (h.perm hL.symm)) hl h1 (by omega) (by simpa using hb) hm w hw' o ho ht
    exact ⟨p, w', by simpa using h1', by simpa using h2, by simpa using h3⟩
  | some hn hc => exact N_app hx hy hu hi hz hk .head hc hn (fun w h => hr w (h.perm hL.symm)) hl h1 h63 hb w hw' o ho ht
end
end Go.Ad
namespace Go.Ad
open Go.RowKit Go.Maps
set_option linter.unusedVariables false
set_option linter.unusedSimpArgs false
abbrev iv (z : Int) : Value := .int .i64 z
theorem setAll_mid : ∀ (vs A B C : List Value), vs.length = B.length → setAll (A ++ (B ++ C)) A.length vs = A ++ (vs ++ C)
  | [], A, [], C, _ => rfl
  | v :: r, A, c :: B, C, h => by
    have := setAll_mid r (A ++ [v]) B C (by simpa using h)
    simp only [setAll]
    simp only [List.append_assoc, List.singleton_append, List.length_append, List.length_singleton, List.cons_append, List.nil_append] at this
    have e : (A ++ (c :: B ++ C)).set A.length v = A ++ v :: (B ++ C) := by simp
    rw [e, this]
    simp
section
variable {α : Type} {c : α → List Value} {k : Nat}
theorem fl_len (hk : ∀ a, (c a).length = k) : ∀ l : List α, (l.flatMap c).length = l.length * k
  | [] => by simp
  | a :: r => by simp only [List.flatMap_cons, List.length_append, fl_len hk r, hk, List.length_cons, Nat.succ_mul]; omega
theorem fl_get (hk : ∀ a, (c a).length = k) : ∀ {l : List α} {i : Nat} {a : α}, l[i]? = some a → ∀ {j : Nat} {v : Value}, (c a)[j]? = some v → (l.flatMap c)[i * k + j]? = some v
  | a0 :: r, 0, a, h, j, v, hj => by
    simp only [List.getElem?_cons_zero, Option.some.injEq] at h
    subst h
    simp only [List.flatMap_cons, Nat.zero_mul, Nat.zero_add]
    rw [List.getElem?_append_left (List.getElem?_eq_some_iff.1 hj).1]; exact hj
  | a0 :: r, i + 1, a, h, j, v, hj => by
    simp only [List.getElem?_cons_succ] at h
    simp only [List.flatMap_cons]
    rw [List.getElem?_append_right (by rw [hk, Nat.succ_mul]; omega), hk, show (i + 1) * k + j - k = i * k + j by rw [Nat.succ_mul]; omega]
    exact fl_get hk h hj
theorem fl_cut (hk : ∀ a, (c a).length = k) {l : List α} {i : Nat} {a : α} (h : l[i]? = some a) : l.flatMap c = (l.take i).flatMap c ++ (c a ++ (l.drop (i + 1)).flatMap c) ∧ ((l.take i).flatMap c).length = i * k := by
  obtain ⟨hi, rfl⟩ := List.getElem?_eq_some_iff.1 h
  refine ⟨?_, by rw [fl_len hk, List.length_take, Nat.min_eq_left (by omega)]⟩
  conv => lhs; rw [← List.take_append_drop i l]
  rw [List.flatMap_append, List.drop_eq_getElem_cons hi, List.flatMap_cons]
theorem fl_put {l : List α} {i : Nat} {a : α} (h : l[i]? = some a) (a' : α) : (l.set i a').flatMap c = (l.take i).flatMap c ++ (c a' ++ (l.drop (i + 1)).flatMap c) := by
  obtain ⟨hi, rfl⟩ := List.getElem?_eq_some_iff.1 h
  rw [List.set_eq_take_append_cons_drop, if_pos hi, List.flatMap_append, List.flatMap_cons]
theorem fl_set (hk : ∀ a, (c a).length = k) {l : List α} {i : Nat} {a a' : α} (h : l[i]? = some a) {j : Nat} {v : Value} (hc : (c a).set j v = c a') (hj : j < k) : (l.flatMap c).set (i * k + j) v = (l.set i a').flatMap c := by
  obtain ⟨h1, h2⟩ := fl_cut hk h
  rw [fl_put h, h1, ← hc, ← h2, List.set_append_right _ _ (by omega), Nat.add_sub_cancel_left, List.set_append_left _ _ (by rw [hk]; exact hj)]
theorem fl_all (hk : ∀ a, (c a).length = k) {l : List α} {i : Nat} (h : i < l.length) (a' : α) : setAll (l.flatMap c) (i * k) (c a') = (l.set i a').flatMap c := by
  have h : l[i]? = some l[i] := List.getElem?_eq_getElem h
  obtain ⟨h1, h2⟩ := fl_cut hk h
  rw [fl_put h, h1, ← h2, setAll_mid _ _ _ _ (by rw [hk, hk])]
theorem fl_take (hk : ∀ a, (c a).length = k) (l : List α) (m : Nat) : (l.take m).flatMap c <+: l.flatMap c := by
  conv => rhs; rw [← List.take_append_drop m l]
  rw [List.flatMap_append]
  exact List.prefix_append _ _
end
section
variable {P : Program} {W : World} {M : List Nat} {ops : Array Oper} {Q : Exit → Act → World → Prop} {all : List Oper} {ov : Ov} {base : List Value} {L : List Bk}
theorem s_and (n : Nat) (ks : List Nat) (d : Nat) {g : Nat} {t b : Bool} (hv : ov.get base g = .bool t) (hk : ks.any (Nat.beq d) = true)
    (T : t = true → (∀ ov', AllGet ov' base [(d, .bool b)] → ov'.drop ks = ov.drop ks → wpL P W M ops Q (all.drop n) ov' base L) → wpL P W M ops Q all ((g, .bool true) :: ov) base L)
    (F : t = false → (∀ ov', AllGet ov' base [(d, .bool false)] → ov'.drop ks = ov.drop ks → wpL P W M ops Q (all.drop n) ov' base L) → wpL P W M ops Q all ((g, .bool false) :: ov) base L)
    (K : ∀ j, wpL P W M ops Q (all.drop n) ([(d, .bool (t && b))] ++ (junk ks j ++ ov)) base L) : wpL P W M ops Q all ov base L := by
  refine s_split hv (fun ht => T ht (fun ov' h1 h2 => ?_)) (fun ht => F ht (fun ov' h1 h2 => ?_))
  · exact QL.again (tr := [(d, .bool (t && b))]) (by subst ht; exact h1) h2 (by simpa using hk) (fun _ h => h) K
  · exact QL.again (tr := [(d, .bool (t && b))]) (by subst ht; exact h1) h2 (by simpa using hk) (fun _ h => h) K
theorem s_or (n : Nat) (ks : List Nat) (d : Nat) {g : Nat} {t b : Bool} (hv : ov.get base g = .bool t) (hk : ks.any (Nat.beq d) = true)
    (T : t = false → (∀ ov', AllGet ov' base [(d, .bool b)] → ov'.drop ks = ov.drop ks → wpL P W M ops Q (all.drop n) ov' base L) → wpL P W M ops Q all ((g, .bool false) :: ov) base L)
    (F : t = true → (∀ ov', AllGet ov' base [(d, .bool true)] → ov'.drop ks = ov.drop ks → wpL P W M ops Q (all.drop n) ov' base L) → wpL P W M ops Q all ((g, .bool true) :: ov) base L)
    (K : ∀ j, wpL P W M ops Q (all.drop n) ([(d, .bool (t || b))] ++ (junk ks j ++ ov)) base L) : wpL P W M ops Q all ov base L := by
  refine s_split hv (fun ht => F ht (fun ov' h1 h2 => ?_)) (fun ht => T ht (fun ov' h1 h2 => ?_))
  · exact QL.again (tr := [(d, .bool (t || b))]) (by subst ht; exact h1) h2 (by simpa using hk) (fun _ h => h) K
  · exact QL.again (tr := [(d, .bool (t || b))]) (by subst ht; exact h1) h2 (by simpa using hk) (fun _ h => h) K
theorem QL.split {K : Act → World → Prop} {d : Nat} {t : Bool} (hv : ov.get base d = .bool t) (h1 : t = true → QL W M K ((d, .bool true) :: ov) base L) (h2 : t = false → QL W M K ((d, .bool false) :: ov) base L) : QL W M K ov base L := by
  cases t with
  | true => exact QL.known hv rfl (h1 rfl)
  | false => exact QL.known hv rfl (h2 rfl)
theorem o_and {TT : Nat → Bool} {L0 : List Bk} {al : List (Nat × Bool × Oper)} (n : Nat) (ks : List Nat) (d : Nat) {g : Nat} {t b : Bool} (hv : ov.get base g = .bool t) (hk : ks.any (Nat.beq d) = true)
    (T : t = true → (∀ ov', AllGet ov' base [(d, .bool b)] → ov'.drop ks = ov.drop ks → wpO P W M ops Q TT L0 (al.drop n) ov' base L) → wpO P W M ops Q TT L0 al ((g, .bool true) :: ov) base L)
    (F : t = false → (∀ ov', AllGet ov' base [(d, .bool false)] → ov'.drop ks = ov.drop ks → wpO P W M ops Q TT L0 (al.drop n) ov' base L) → wpO P W M ops Q TT L0 al ((g, .bool false) :: ov) base L)
    (K : ∀ j, wpO P W M ops Q TT L0 (al.drop n) ([(d, .bool (t && b))] ++ (junk ks j ++ ov)) base L) : wpO P W M ops Q TT L0 al ov base L := by
  refine QL.split hv (fun ht => T ht (fun ov' h1 h2 => ?_)) (fun ht => F ht (fun ov' h1 h2 => ?_))
  · exact QL.again (tr := [(d, .bool (t && b))]) (by subst ht; exact h1) h2 (by simpa using hk) (fun _ h => h) K
  · exact QL.again (tr := [(d, .bool (t && b))]) (by subst ht; exact h1) h2 (by simpa using hk) (fun _ h => h) K
theorem o_or {TT : Nat → Bool} {L0 : List Bk} {al : List (Nat × Bool × Oper)} (n : Nat) (ks : List Nat) (d : Nat) {g : Nat} {t b : Bool} (hv : ov.get base g = .bool t) (hk : ks.any (Nat.beq d) = true)
    (T : t = false → (∀ ov', AllGet ov' base [(d, .bool b)] → ov'.drop ks = ov.drop ks → wpO P W M ops Q TT L0 (al.drop n) ov' base L) → wpO P W M ops Q TT L0 al ((g, .bool false) :: ov) base L)
    (F : t = true → (∀ ov', AllGet ov' base [(d, .bool true)] → ov'.drop ks = ov.drop ks → wpO P W M ops Q TT L0 (al.drop n) ov' base L) → wpO P W M ops Q TT L0 al ((g, .bool true) :: ov) base L)
    (K : ∀ j, wpO P W M ops Q TT L0 (al.drop n) ([(d, .bool (t || b))] ++ (junk ks j ++ ov)) base L) : wpO P W M ops Q TT L0 al ov base L := by
  refine QL.split hv (fun ht => F ht (fun ov' h1 h2 => ?_)) (fun ht => T ht (fun ov' h1 h2 => ?_))
  · exact QL.again (tr := [(d, .bool (t || b))]) (by subst ht; exact h1) h2 (by simpa using hk) (fun _ h => h) K
  · exact QL.again (tr := [(d, .bool (t || b))]) (by subst ht; exact h1) h2 (by simpa using hk) (fun _ h => h) K
theorem q_retG1 {fn : Func} {t : Nat} {v : Value} {L' : List Bk} {Post : Value → List Bk → Prop} (hr : fn.results = #[.tmp t]) (hv : Gt ov base t v) (hs : List.Sublist L' L) (hp : Post v L') : QL W M (bodyPost P fn (fun e w' => ∃ v L, e = .returned v ∧ Has W M L w' ∧ Post v L) .ret) ov base L := q_ret1 hr hv.eq hs hp
theorem q_retG2 {fn : Func} {t u : Nat} {v v2 : Value} {L' : List Bk} {Post : Value → List Bk → Prop} (hr : fn.results = #[.tmp t, .tmp u]) (hv : Gt ov base t v) (hv2 : Gt ov base u v2) (hs : List.Sublist L' L) (hp : Post (.tuple #[v, v2]) L') : QL W M (bodyPost P fn (fun e w' => ∃ v L, e = .returned v ∧ Has W M L w' ∧ Post v L) .ret) ov base L := q_ret2 hr hv.eq hv2.eq hs hp
theorem q_retG3 {fn : Func} {t u t3 : Nat} {v v2 v3 : Value} {L' : List Bk} {Post : Value → List Bk → Prop} (hr : fn.results = #[.tmp t, .tmp u, .tmp t3]) (hv : Gt ov base t v) (hv2 : Gt ov base u v2) (hv3 : Gt ov base t3 v3) (hs : List.Sublist L' L) (hp : Post (.tuple #[v, v2, v3]) L') : QL W M (bodyPost P fn (fun e w' => ∃ v L, e = .returned v ∧ Has W M L w' ∧ Post v L) .ret) ov base L := fun a w hrp hH =>
  bodyPost_ret (v := .tuple #[v, v2, v3]) (by rw [results_tmp3 hr, hrp.get, hv.eq, hrp.get, hv2.eq, hrp.get, hv3.eq]) hrp.defers ⟨_, L', rfl, hH.sub hs, hp⟩
end
def firstR : Code → Option Nat
  | .region i _ _ => some i
  | .seq x _ => firstR x
  | .cond _ x _ => firstR x
  | .block _ x => firstR x
  | .loop x => firstR x
  | .scope x => firstR x
  | _ => none
def tailR (r : Nat) : Code → Code
  | .seq x y => bif (match firstR x with | some i => Nat.beq i r | none => false) then .seq x y else tailR r y
  | c => c
def tailOf (fn : Func) (r : Nat) : Code := match fn.body with
  | some c => tailR r c
  | none => .skip
abbrev PostOf (P : Program) (fn : Func) (W : World) (M : List Nat) (Post : Value → List Bk → Prop) : Exit → Act → World → Prop := bodyPost P fn (fun e w' => ∃ v L, e = .returned v ∧ Has W M L w' ∧ Post v L)
inductive Gts (ov : Ov) (base : List Value) : Ov → Prop
  | nil : Gts ov base []
  | cons {d : Nat} {v : Value} {tr : Ov} (h : Gt ov base d v) (r : Gts ov base tr) : Gts ov base ((d, v) :: tr)
theorem Gts.get {ov tr : Ov} {base base' : List Value} (h : Gts ov base tr) {d : Nat} (hb : base'.getD d undef = ov.get base d) : tr.get base' d = ov.get base d := by
  induction h with
  | nil => exact hb
  | @cons e v tr hg _ ih =>
    by_cases he : e = d
    · subst he
      simp only [Ov.get]
      rw [show Nat.beq e e = true from by simp, cond_true, hg.eq]
    · simp only [Ov.get, nbeq he, cond_false]
      exact ih
theorem QL.forget {W : World} {M : List Nat} {K : Act → World → Prop} {ov : Ov} {base : List Value} {L : List Bk} {tr : Ov} (n : Nat) (hn : Nat.beq base.length n = true) (h1 : Gts ov base tr) (h : ∀ j : Nat → Value, QL W M K tr ((List.range n).map j) L) : QL W M K ov base L := fun a w hr hH => by
  have hn := Nat.eq_of_beq_eq_true hn
  have h2 : a.tmps.size = n := by rw [hr.size, hn]
  refine h (fun d => a.tmps.getD d undef) a w ⟨hr.defers, by rw [hr.size, hn]; simp, fun d => ?_⟩ hH
  rw [hr.get d]
  refine (h1.get ?_).symm
  rw [← hr.get d]
  by_cases hd : d < n
  · simp [List.getD_eq_getElem?_getD, hd]
  · simp [List.getD_eq_getElem?_getD, hd, Array.getD_eq_getD_getElem?, h2]
theorem Sel.toPerm {x : Bk} {L L' : List Bk} (h : Sel x L L') : List.Perm (x :: L') L := by
  induction h with
  | head => exact .refl _
  | tail _ ih => exact (List.Perm.swap _ _ _).trans (ih.cons _)
theorem Sels.toPerm {xs L L' : List Bk} (h : Sels xs L L') : List.Perm (xs ++ L') L := by
  induction h with
  | nil => exact .refl _
  | cons h _ ih => exact (ih.cons _).trans h.toPerm
theorem Has.pick {W w : World} {M : List Nat} {L L' R : List Bk} (hs : Sels L' L R) (hH : Has W M L w) : Has W M L' w := (hH.perm hs.toPerm).sub (List.sublist_append_left _ _)
theorem QL.pick {W : World} {M : List Nat} {K : Act → World → Prop} {ov : Ov} {base : List Value} {L L' R : List Bk} (hs : Sels L' L R) (h : QL W M K ov base L') : QL W M K ov base L := fun a w hr hH => h a w hr (hH.pick hs)
theorem Has.pick2 {W w : World} {M : List Nat} {L xs R R' : List Bk} (hs : Sels xs L R) (hr : List.Sublist R' R) (hH : Has W M L w) : Has W M (xs ++ R') w := (hH.perm hs.toPerm).sub (List.Sublist.append_left hr xs)
theorem QL.pick2 {W : World} {M : List Nat} {K : Act → World → Prop} {ov : Ov} {base : List Value} {L xs R R' : List Bk} (hs : Sels xs L R) (hr : List.Sublist R' R) (h : QL W M K ov base (xs ++ R')) : QL W M K ov base L := fun a w hrp hH => h a w hrp (hH.pick2 hs hr)
theorem perm_mid (B A E : List Bk) : List.Perm (B ++ (A ++ E)) (A ++ (B ++ E)) := by
  rw [← List.append_assoc, ← List.append_assoc]
  exact List.perm_append_comm.append_right E
theorem Y_lenR {P : Program} {W : World} {M : List Nat} {L B : List Bk} {ρ : Operand → Value} {x : Operand} {ty e kk n : Nat} {v : Value} {cs : List Value} {el u : TypeId} {ts : Array TypeId} (hB : Row e kk v n cs B) (hx : ρ x = v) (ht : ts[0]? = some u) (hu : P.underlying u = some (.slice el)) : Y P W M L ρ (.call { callee := .builtin .len, args := #[x], argTypes := ts }) ty (.int .i64 n) := by
  cases hB with
  | nil => exact Y_len hx ht hu
  | some => exact Y_len hx ht hu
theorem Row.some_of {e kk n : Nat} {v : Value} {cs : List Value} {B : List Bk} (h : Row e kk v n cs B) (h0 : 0 < n) : ∃ g cap, v = .slice (Option.some ⟨g, 0, none⟩) n cap ∧ B = [⟨g, e, kk, cap, cs⟩] ∧ n ≤ cap := by
  cases h with
  | nil => omega
  | some h1 h2 => exact ⟨_, _, rfl, rfl, h1⟩
theorem Row.nodup {e kk n : Nat} {v : Value} {cs : List Value} {B : List Bk} (h : Row e kk v n cs B) : (B.map (·.b)).Nodup := by cases h <;> simp
theorem Row.one {e kk n : Nat} {v : Value} {cs : List Value} {B : List Bk} (h : Row e kk v n cs B) : v.oneCell' = true := by cases h <;> rfl
theorem Row.len {e kk n : Nat} {v : Value} {cs : List Value} {B : List Bk} (h : Row e kk v n cs B) : cs.length = n * kk := by
  cases h with
  | nil => simp
  | some h1 h2 => exact h2
theorem Y_min {P : Program} {W : World} {M : List Nat} {L : List Bk} {ρ : Operand → Value} {x y : Operand} {ty : TypeId} {ts : Array TypeId} {k : IntKind} {a b : Int} (hx : ρ x = .int k a) (hy : ρ y = .int k b) : Y P W M L ρ (.call { callee := .builtin .min, args := #[x, y], argTypes := ts }) ty (.int k (min a b)) := fun w _ o ho hty => by
  unfold execOp
  rw [ho]
  simp [resolve, invoke, builtin, Builtin.min_, Builtin.min2, hx, hy]
  rw [Int.min_def]
  split <;> split <;> omega
theorem Y_max {P : Program} {W : World} {M : List Nat} {L : List Bk} {ρ : Operand → Value} {x y : Operand} {ty : TypeId} {ts : Array TypeId} {k : IntKind} {a b : Int} (hx : ρ x = .int k a) (hy : ρ y = .int k b) : Y P W M L ρ (.call { callee := .builtin .max, args := #[x, y], argTypes := ts }) ty (.int k (max a b)) := fun w _ o ho hty => by
  unfold execOp
  rw [ho]
  simp [resolve, invoke, builtin, Builtin.max_, Builtin.max2, hx, hy]
  rw [Int.max_def]
  split <;> split <;> omega
theorem N_appE {P : Program} {W : World} {M : List Nat} {L R : List Bk} {ρ : Operand → Value} {x y : Operand} {ty : TypeId} {b cap m c2 e kk bytes : Nat} {a2 : Addr} {z : Value} {u : TypeId} {news : List Value} (hx : ρ x = .slice (some ⟨b, 0, none⟩) 0 cap) (hy : ρ y = .slice (some a2) m c2) (hu : P.underlying u = some (.slice e)) (hi : (P.info? e).map (fun i => (i.zero, i.size, i.bytes)) = some (some z, kk, bytes))
    (hz : z.cells.size = kk) (hk : 0 < kk) (hs : Sel ⟨b, e, kk, cap, []⟩ L R) (hr : ∀ w, Has W M L w → ∀ j u, news[j]? = some u → w.cell? (a2.add j) = some u) (hl : news.length = m * kk) (h1 : ∀ u ∈ news, u.oneCell' = true)
    (h63 : m ≤ 140737488355328) (hb : m * bytes ≤ 140737488355328) :
    N P W M L ρ (.call { callee := .builtin .append, args := #[x, y], argTypes := #[u, u] }) ty (fun p : Nat × Nat => m ≤ p.2) (fun p => .slice (some ⟨p.1, 0, none⟩) m p.2) (fun p => ⟨p.1, e, kk, p.2, news⟩ :: R) := fun w hw o ho ht => by
  obtain ⟨p, w', h1', h2, h3⟩ := N_app (cs := []) hx hy hu hi hz hk hs (by simp) (Nat.zero_le _) hr hl h1 (by omega) (by simpa using hb) w hw o ho ht
  exact ⟨p, w', by simpa using h1', by simpa using h2, by simpa using h3⟩
def xr (x y : Int) : Int := IntKind.u64.wrap ((BitVec.ofInt 64 x ^^^ BitVec.ofInt 64 y).toNat : Int)
theorem Y_xr {P : Program} {W : World} {M : List Nat} {L : List Bk} {ρ : Operand → Value} {x y : Operand} {ty t t' : TypeId} {a b : Int} (hx : ρ x = .int .u64 a) (hy : ρ y = .int .u64 b) : Y P W M L ρ (.binOp .xor t x y t') ty (.int .u64 (xr a b)) := Y_bits hx hy rfl (.inr (.inr (.inl rfl)))
structure SlB (W : World) (b o n c k : Nat) (cs : List Value) : Prop where
  len : cs.length = n * k
  cap : n ≤ c
  big : c ≤ maxLen
  lt : b < W.heap.size
  ro : Ro W b o cs
section
variable {W w : World} {M : List Nat} {L : List Bk} {b o n c k : Nat} {cs : List Value}
theorem SlB.has (h : SlB W b o n c k cs) (hH : Has W M L w) (hM : b ∉ M := by simp) : SlB w b o n c k cs := ⟨h.len, h.cap, h.big, Nat.lt_of_lt_of_le h.lt hH.size, hH.ro h.ro hM⟩
theorem SlB.at' {α : Type} {f : α → List Value} {l : List α} (hk : ∀ a, (f a).length = k) (h : SlB W b o n c k (l.flatMap f)) {i : Nat} {a : α} (hi : l[i]? = some a) : Ro W b (o + i * k) (f a) := fun j v hj => by
  rw [Nat.add_assoc]; exact h.ro _ _ (fl_get hk hi hj)
theorem Bk.holds.sl {t cap : Nat} (h : (⟨b, t, k, cap, cs⟩ : Bk).holds w) (hl : cs.length = n * k) (hn : n ≤ cap) : SlB w b 0 n cap k cs := by
  refine ⟨hl, hn, ?_, h.lt, h.ro⟩
  obtain ⟨cur, h1, h2, h3, h4⟩ := h
  exact h3
theorem SlB.src (h : SlB W b o n c k cs) : ∀ w, Has W [] L w → ∀ j u, cs[j]? = some u → w.cell? ((⟨b, o, none⟩ : Addr).add j) = some u := fun w hw j u hu => by
  rw [Addr.add_mid]; exact hw.ro h.ro (by simp) j u hu
theorem ro_take {cs' : List Value} (h : Ro W b o cs) (hp : cs' <+: cs) : Ro W b o cs' := fun j v hj => by
  obtain ⟨t, rfl⟩ := hp
  exact h j v (by rw [List.getElem?_append_left (List.getElem?_eq_some_iff.1 hj).1]; exact hj)
end
structure Ent where
  kind : Int
  gen : Int
  seat : Int
  x : Int
  y : Int
  hp : Int
  max : Int
  atk : Int
  df : Int
  poison : Int
  stun : Int
def Ent.cells (e : Ent) : List Value := [iv e.kind, iv e.gen, iv e.seat, iv e.x, iv e.y, iv e.hp, iv e.max, iv e.atk, iv e.df, iv e.poison, iv e.stun]
theorem Ent.len (e : Ent) : e.cells.length = 11 := rfl
def ecells (l : List Ent) : List Value := l.flatMap Ent.cells
abbrev Ent.zero : Ent := ⟨0, 0, 0, 0, 0, 0, 0, 0, 0, 0, 0⟩
structure Itm where
  kind : Int
  whr : Int
  a : Int
  b : Int
def Itm.cells (x : Itm) : List Value := [iv x.kind, iv x.whr, iv x.a, iv x.b]
theorem Itm.len (x : Itm) : x.cells.length = 4 := rfl
def icells (l : List Itm) : List Value := l.flatMap Itm.cells
abbrev Itm.zero : Itm := ⟨0, 0, 0, 0⟩
theorem ecells_len (l : List Ent) : (ecells l).length = l.length * 11 := fl_len Ent.len l
theorem icells_len (l : List Itm) : (icells l).length = l.length * 4 := fl_len Itm.len l
theorem one_fl {α : Type} {c : α → List Value} (h : ∀ a, (c a).all (·.oneCell') = true) (l : List α) : ∀ u ∈ l.flatMap c, u.oneCell' = true := fun u hu => by
  obtain ⟨a, _, ha⟩ := List.mem_flatMap.1 hu
  exact List.all_eq_true.1 (h a) u ha
theorem ecells_snoc (l : List Ent) (e : Ent) : ecells l ++ e.cells = ecells (l ++ [e]) := by simp [ecells]
theorem icells_snoc (l : List Itm) (x : Itm) : icells l ++ x.cells = icells (l ++ [x]) := by simp [icells]
theorem one_e1 (e : Ent) : ∀ u ∈ e.cells, u.oneCell' = true := fun u hu => List.all_eq_true.1 (show e.cells.all (·.oneCell') = true from rfl) u hu
theorem one_i1 (x : Itm) : ∀ u ∈ x.cells, u.oneCell' = true := fun u hu => List.all_eq_true.1 (show x.cells.all (·.oneCell') = true from rfl) u hu
theorem one_e (l : List Ent) : ∀ u ∈ ecells l, u.oneCell' = true := one_fl (fun _ => rfl) l
theorem one_i (l : List Itm) : ∀ u ∈ icells l, u.oneCell' = true := one_fl (fun _ => rfl) l
section
variable {l : List Ent} {i j : Nat} {e e' : Ent} {v : Value} {r : List Itm} {x x' : Itm}
theorem eget (h : l[i]? = some e) (hj : e.cells[j]? = some v) : (ecells l)[0 + i * 11 + j]? = some v := by rw [Nat.zero_add]; exact fl_get Ent.len h hj
theorem iget (h : r[i]? = some x) (hj : x.cells[j]? = some v) : (icells r)[0 + i * 4 + j]? = some v := by rw [Nat.zero_add]; exact fl_get Itm.len h hj
theorem egetN (h : l[i]? = some e) : ∀ j v, e.cells[j]? = some v → (ecells l)[0 + i * 11 + j]? = some v := fun _ _ hj => eget h hj
theorem igetN (h : r[i]? = some x) : ∀ j v, x.cells[j]? = some v → (icells r)[0 + i * 4 + j]? = some v := fun _ _ hj => iget h hj
theorem eset (e' : Ent) (h : l[i]? = some e) (hc : e.cells.set j v = e'.cells) (hj : Nat.blt j 11 = true) : (ecells l).set (0 + i * 11 + j) v = ecells (l.set i e') := by rw [Nat.zero_add]; exact fl_set Ent.len h hc (by simpa using hj)
theorem iset (x' : Itm) (h : r[i]? = some x) (hc : x.cells.set j v = x'.cells) (hj : Nat.blt j 4 = true) : (icells r).set (0 + i * 4 + j) v = icells (r.set i x') := by rw [Nat.zero_add]; exact fl_set Itm.len h hc (by simpa using hj)
theorem eall (e' : Ent) (h : i < l.length) : setAll (ecells l) (0 + i * 11) e'.cells = ecells (l.set i e') := by rw [Nat.zero_add]; exact fl_all Ent.len h e'
theorem iall (x' : Itm) (h : i < r.length) : setAll (icells r) (0 + i * 4) x'.cells = icells (r.set i x') := by rw [Nat.zero_add]; exact fl_all Itm.len h x'
end
structure Four where
  a : Int
  b : Int
  c : Int
  d : Int
def Four.get (g : Four) : Nat → Int
  | 0 => g.a
  | 1 => g.b
  | 2 => g.c
  | _ => g.d
def Four.set (g : Four) (v : Int) : Nat → Four
  | 0 => { g with a := v }
  | 1 => { g with b := v }
  | 2 => { g with c := v }
  | _ => { g with d := v }
structure Wd where
  seed : Int
  frame : Int
  floor : Int
  state : Int
  cells : List UInt8
  ents : List Ent
  items : List Itm
  gold : Four
structure Ws where
  cb : Nat
  co : Nat
  cc : Nat
  eb : Nat
  eo : Nat
  ec : Nat
  ib : Nat
  io : Nat
  ic : Nat
def wv (d : Wd) (s : Ws) : List Value := [iv d.seed, iv d.frame, iv d.floor, iv d.state, .slice (some ⟨s.cb, s.co, none⟩) d.cells.length s.cc, .slice (some ⟨s.eb, s.eo, none⟩) d.ents.length s.ec, .slice (some ⟨s.ib, s.io, none⟩) d.items.length s.ic, iv d.gold.a, iv d.gold.b, iv d.gold.c, iv d.gold.d]
structure WAt (W : World) (d : Wd) (s : Ws) : Prop where
  c : SlB W s.cb s.co d.cells.length s.cc 1 (d.cells.map bv)
  e : SlB W s.eb s.eo d.ents.length s.ec 11 (ecells d.ents)
  i : SlB W s.ib s.io d.items.length s.ic 4 (icells d.items)
theorem WAt.has {W w : World} {L : List Bk} {d : Wd} {s : Ws} (h : WAt W d s) (hH : Has W [] L w) : WAt w d s := ⟨h.c.has hH, h.e.has hH, h.i.has hH⟩
def fnd {α : Type} (p : α → Bool) : List α → Nat → Int
  | [], _ => -1
  | a :: r, i => if p a then (i : Int) else fnd p r (i + 1)
theorem fnd_step {α : Type} {p : α → Bool} {l : List α} {i : Nat} {a : α} (h : l[i]? = some a) (hp : p a = false) : fnd p (l.drop i) i = fnd p (l.drop (i + 1)) (i + 1) := by
  obtain ⟨hi, rfl⟩ := List.getElem?_eq_some_iff.1 h
  rw [List.drop_eq_getElem_cons hi, fnd, hp]; simp
theorem fnd_here {α : Type} {p : α → Bool} {l : List α} {i : Nat} {a : α} (h : l[i]? = some a) (hp : p a = true) : fnd p (l.drop i) i = i := by
  obtain ⟨hi, rfl⟩ := List.getElem?_eq_some_iff.1 h
  rw [List.drop_eq_getElem_cons hi, fnd, hp]; simp
theorem fnd_end {α : Type} {p : α → Bool} {l : List α} {i : Nat} (h : l.length ≤ i) : fnd p (l.drop i) i = -1 := by
  rw [List.drop_eq_nil_of_le h]; rfl
theorem fnd_lt {α : Type} {p : α → Bool} : ∀ (l : List α) (i : Nat), fnd p l i < 0 ∨ ∃ (j : Nat) (a : α), fnd p l i = (i + j : Nat) ∧ l[j]? = some a ∧ p a = true
  | [], i => .inl (by simp [fnd])
  | a :: r, i => by
    by_cases h : p a = true
    · exact .inr ⟨0, a, by simp [fnd, h], rfl, h⟩
    · rw [Bool.not_eq_true] at h
      rcases fnd_lt r (i + 1) with h1 | ⟨j, b, h1, h2, h3⟩
      · exact .inl (by simpa [fnd, h] using h1)
      · exact .inr ⟨j + 1, b, by rw [fnd, h]; simp only [Bool.false_eq_true, if_false]; rw [h1]; congr 1; omega, by simpa using h2, h3⟩
theorem fnd_take {α : Type} {p : α → Bool} : ∀ {l : List α} {i k : Nat} {a : α}, l[i]? = some a → p a = true → (fnd p l k = ((k + i : Nat) : Int) ↔ fnd p (l.take i) k < 0)
  | b :: r, 0, k, a, h, hp => by
    simp only [List.getElem?_cons_zero, Option.some.injEq] at h
    subst h
    simp [fnd, hp]
  | b :: r, i + 1, k, a, h, hp => by
    simp only [List.getElem?_cons_succ] at h
    simp only [List.take_succ_cons, fnd]
    by_cases hb : p b = true
    · simp only [hb, if_true]; omega
    · rw [Bool.not_eq_true] at hb
      simp only [hb, Bool.false_eq_true, if_false]
      have := fnd_take (k := k + 1) h hp
      rw [← this]
      constructor <;> intro h1 <;> (rw [h1]; congr 1; omega)
theorem take_lt {α : Type} {l : List α} {i : Nat} (h : i < l.length) : ∃ a, l[i]? = some a := ⟨l[i], List.getElem?_eq_getElem h⟩
end Go.Ad
namespace Go.Ad
open Go.RowKit Go.Maps
set_option linter.unusedVariables false
set_option linter.unusedSimpArgs false
theorem mm_ {α : Type} {a : α} {l : List α} (h : a ∈ l := by repeat (first | exact List.Mem.head _ | assumption | apply List.Mem.tail | apply List.mem_append_right)) : a ∈ l := h
theorem gt_ {ov : Ov} {base : List Value} {d : Nat} {v : Value} (h : Gt ov base d v := by repeat (first | exact Gt.here | apply Gt.there (by rfl) | exact Gt.base (by rfl))) : Gt ov base d v := h
theorem sl_ {α : Type} {l l' : List α} (h : List.Sublist l l' := by repeat (first | exact List.Sublist.refl _ | exact List.nil_sublist _ | apply List.Sublist.cons_cons | apply List.Sublist.cons)) : List.Sublist l l' := h
section
variable {P : Program} {W : World} {M : List Nat} {L0 L L' L2 : List Bk} {ρ : Operand → Value} {ty t t' u : TypeId} {x y : Operand} {v : Value} {T : Nat → Bool} {i n : Nat}
theorem yl_ (ht0 : Cel1 P u) (h : Cel1 P u → Y P W M L ρ (.load u x) ty v := by intro ht0; first | exact Y_load rfl ht0 mm_ (by rfl) | exact Y_loadR rfl ht0 hr rfl rfl | exact Y_loadR rfl ht0 hr2 rfl rfl | exact Y_load rfl ht0 mm_ (eget he rfl) | exact Y_load rfl ht0 mm_ (iget hx rfl) | exact Y_load rfl ht0 mm_ (by assumption) | exact Y_loadR rfl ht0 (by assumption) rfl (by assumption)) : Y P W M L ρ (.load u x) ty v := h ht0
theorem ya_ (ht0 : CelN P u n) (h : CelN P u n → Y P W M L ρ (.load u x) ty v := by intro ht0; first | exact Y_loadAll rfl ht0 mm_ (by rfl) | exact Y_loadN rfl ht0 mm_ ‹_› ‹_› | exact Y_loadNR rfl ht0 hr rfl | exact Y_loadNR rfl ht0 hr2 rfl | exact Y_loadNR rfl ht0 ‹_› rfl) : Y P W M L ρ (.load u x) ty v := h ht0
theorem sa_ (ht0 : (P.info? u).map (·.size) = some n) (h : (P.info? u).map (·.size) = some n → S P W M L ρ (.store u x y) ty L' := by intro ht0; first | exact S_storeA rfl rfl ht0 (by first | rfl | assumption) (by first | rfl | assumption) (by repeat (first | exact Upd.head | apply Upd.tail)) (by first | rfl | assumption) | exact S_storeN rfl rfl ht0 (by rfl) (by first | rfl | assumption) (by repeat (first | exact Upd.head | apply Upd.tail)) (by simp only [setAll, List.set_cons_zero, List.set_cons_succ, Nat.zero_add, Nat.reduceAdd]; rfl) (by first | rfl | assumption)) : S P W M L ρ (.store u x y) ty L' := h ht0
theorem kp_ (h : Keep W M L' L0 T i := by first | exact keep_no rfl | (refine keep_sub ?_; (repeat (first | exact List.Sublist.refl _ | exact List.nil_sublist _ | apply List.Sublist.cons_cons | apply List.Sublist.cons)); done) | (refine keep_sub (List.Sublist.trans ?_ (List.sublist_append_right _ _)); (repeat (first | exact List.Sublist.refl _ | exact List.nil_sublist _ | apply List.Sublist.cons_cons | apply List.Sublist.cons)); done)) : Keep W M L' L0 T i := h
theorem ss_ {Ls : List Bk} (h : Sels Ls L L' := by repeat (first | exact Sels.nil | apply Sels.cons (by repeat (first | exact Sel.head | apply Sel.tail)))) : Sels Ls L L' := h
theorem up_ {b b' : Bk} (h : Upd b b' L L' := by repeat (first | exact Upd.head | apply Upd.tail)) : Upd b b' L L' := h
theorem se_ {b : Bk} (h : Sel b L L' := by repeat (first | exact Sel.head | apply Sel.tail)) : Sel b L L' := h
theorem ad_ (h : Y P W M L ρ (.binOp .add t x y t') ty v := by first | exact Y_add rfl rfl (by omega) | exact Y_addw rfl rfl) : Y P W M L ρ (.binOp .add t x y t') ty v := h
theorem su_ (h : Y P W M L ρ (.binOp .sub t x y t') ty v := by first | exact Y_sub rfl rfl (by omega) | exact Y_subw rfl rfl) : Y P W M L ρ (.binOp .sub t x y t') ty v := h
theorem mu_ (h : Y P W M L ρ (.binOp .mul t x y t') ty v := by first | exact Y_mul rfl rfl (by omega) | exact Y_mulw rfl rfl) : Y P W M L ρ (.binOp .mul t x y t') ty v := h
end
theorem nrm_ : (∀ a b : Bool, ((a && b) = true) = (a = true ∧ b = true)) ∧ (∀ a b : Bool, ((a || b) = true) = (a = true ∨ b = true)) ∧ (∀ a b : Bool, ((a && b) = false) = (a = false ∨ b = false)) ∧ (∀ a b : Bool, ((a || b) = false) = (a = false ∧ b = false)) ∧ (∀ a : Bool, ((!a) = true) = (a = false)) ∧ (∀ a : Bool, ((!a) = false) = (a = true)) ∧ (∀ a b : Bool, ((!a) = b) = (a = !b)) ∧ ((!true) = false) ∧ ((!false) = true) ∧ (∀ (p : Prop) [Decidable p], (decide p = true) = p) ∧ (∀ (p : Prop) [Decidable p], (decide p = false) = ¬ p) ∧ (∀ (p : Prop) [Decidable p], (¬ ¬ p) = p) := by
  refine ⟨?_, ?_, ?_, ?_, ?_, ?_, ?_, rfl, rfl, fun p _ => decide_eq_true_eq, fun p _ => propext decide_eq_false_iff_not, fun p _ => propext Decidable.not_not⟩ <;> decide
def sh (x : Int) (b : Nat) : Int := x.fdiv (2 ^ b)
def mM (x : Int) : Int :=
  let a := IntKind.u64.wrap (xr x (sh x 30) * 13787848793156543929)
  let b := IntKind.u64.wrap (xr a (sh a 27) * 10723151780598845931)
  xr b (sh b 31)
def mixS (x v : Int) : Int := mM (IntKind.u64.wrap (xr x (IntKind.u64.wrap v) + 11400714819323198485))
def still (x : Int) (n : Nat) : Int := if n = 0 then x else still x (n - 1)
termination_by n
theorem still_eq (x : Int) : still x 0 = x := by rw [still]; simp
def mixM (seed : Int) (l : List Int) : Int := still (l.foldl mixS (mM (IntKind.u64.wrap (IntKind.u64.wrap seed + 11400714819323198485)))) 0
theorem mixM_eq (seed : Int) (l : List Int) : mixM seed l = l.foldl mixS (mM (IntKind.u64.wrap (IntKind.u64.wrap seed + 11400714819323198485))) := still_eq _
theorem u64_rng (z : Int) : 0 ≤ IntKind.u64.wrap z ∧ IntKind.u64.wrap z < 18446744073709551616 := by rw [IntKind.wrap_u64]; omega
theorem mM_rng (z : Int) : 0 ≤ mM z ∧ mM z < 18446744073709551616 := u64_rng _
theorem mixM_rng (seed : Int) : ∀ l, 0 ≤ mixM seed l ∧ mixM seed l < 18446744073709551616 := by
  have : ∀ (l : List Int) (x : Int), 0 ≤ x ∧ x < 18446744073709551616 → 0 ≤ l.foldl mixS x ∧ l.foldl mixS x < 18446744073709551616 := by
    intro l
    induction l with
    | nil => intro x h; exact h
    | cons a r ih => intro x h; exact ih _ (mM_rng _)
  exact fun l => by rw [mixM_eq]; exact this l _ (mM_rng _)
def dieM (n seed : Int) (l : List Int) : Int := mixM seed l % n
theorem dieM_rng {n : Int} (h : 0 < n) (seed : Int) (l : List Int) : 0 ≤ dieM n seed l ∧ dieM n seed l < n := ⟨Int.emod_nonneg _ (by omega), Int.emod_lt_of_pos _ h⟩
def inM (x y : Int) : Bool := decide (0 ≤ x ∧ x < 24 ∧ 0 ≤ y ∧ y < 16)
def byteAt (cells : List UInt8) (i : Nat) : Int := ((cells.getD i 0).toNat : Int)
def atM (cells : List UInt8) (x y : Int) : Int := if inM x y = true ∧ y * 24 + x < cells.length then byteAt cells (y * 24 + x).toNat else 0
def walkM (k : Int) : Bool := decide (1 ≤ k ∧ k ≤ 5)
theorem byteAt_of {cells : List UInt8} {i : Nat} {x : UInt8} (h : cells[i]? = some x) : byteAt cells i = x.toNat := by
  unfold byteAt; rw [List.getD_eq_getElem?_getD, h]; rfl
theorem byteAt_rng (cells : List UInt8) (i : Nat) : 0 ≤ byteAt cells i ∧ byteAt cells i < 256 := by
  have := (cells.getD i 0).toNat_lt
  unfold byteAt; omega
def findM (cells : List UInt8) (k : Int) : Int := fnd (fun x => decide ((x.toNat : Int) = k)) (cells.take 384) 0
def eAt (l : List Ent) (x y : Int) : Int := fnd (fun e => decide (e.kind ≠ 0 ∧ e.x = x ∧ e.y = y)) l 0
def eHero (l : List Ent) (s : Int) : Int := fnd (fun e => decide (e.kind = 1 ∧ e.seat = s)) l 0
def statsM (k : Int) : Ent :=
  if k = 1 then ⟨1, 0, 0, 0, 0, 20, 20, 5, 1, 0, 0⟩ else if k = 2 then ⟨2, 0, 0, 0, 0, 4, 4, 2, 0, 0, 0⟩ else if k = 3 then ⟨3, 0, 0, 0, 0, 9, 9, 4, 1, 0, 0⟩ else if k = 4 then ⟨4, 0, 0, 0, 0, 6, 6, 3, 0, 0, 0⟩ else Ent.zero
def freeRow (l : List Ent) : Int := fnd (fun e => decide (e.kind = 0)) (l.take 32) 0
def genOf (g : Int) : Int := IntKind.i64.wrap (g + 1) |>.tmod 256
def iIn (l : List Itm) (w a b : Int) : Int := fnd (fun x => decide (x.whr = w ∧ x.a = a ∧ x.b = b)) l 0
end Go.Ad
namespace Go.Ad
open Go.RowKit Go.Maps
set_option linter.unusedVariables false
set_option linter.unusedSimpArgs false
def nbM (i d : Nat) : Int × Int :=
  let x := ((i % 24 : Nat) : Int)
  let y := ((i / 24 : Nat) : Int)
  match d with
  | 0 => (x, y - 1)
  | 1 => (x + 1, y)
  | 2 => (x, y + 1)
  | _ => (x - 1, y)
def getI (f : List Int) (i : Nat) : Int := f.getD i 0
def opens (cells : List UInt8) (bl : List Bool) (f : List Int) (p : Int × Int) : Bool :=
  inM p.1 p.2 && decide (getI f (p.2 * 24 + p.1).toNat < 0) && walkM (atM cells p.1 p.2) && (decide (bl.length ≤ (p.2 * 24 + p.1).toNat) || !bl.getD (p.2 * 24 + p.1).toNat false)
def tryD (cells : List UInt8) (bl : List Bool) (i : Nat) (st : List Int × List Nat) (d : Nat) : List Int × List Nat :=
  if opens cells bl st.1 (nbM i d) = true then (st.1.set ((nbM i d).2 * 24 + (nbM i d).1).toNat (getI st.1 i + 1), st.2 ++ [((nbM i d).2 * 24 + (nbM i d).1).toNat]) else st
def triesM (cells : List UInt8) (bl : List Bool) (i : Nat) (st : List Int × List Nat) : Nat → List Int × List Nat
  | 0 => st
  | d + 1 => tryD cells bl i (triesM cells bl i st d) d
def bfs (cells : List UInt8) (bl : List Bool) : Nat → Nat → List Int × List Nat → List Int
  | 0, _, st => st.1
  | n + 1, k, st => match st.2[k]? with
    | none => st.1
    | some i => bfs cells bl n (k + 1) (triesM cells bl i st 4)
def markM (cells : List UInt8) (f : List Int) (t : Int) : List Int :=
  if 0 ≤ t ∧ t < 384 ∧ walkM (atM cells (t % 24) (t / 24)) = true then f.set t.toNat 0 else f
def zerosM (f : List Int) (n : Nat) : List Nat := (List.range n).filter fun i => decide (getI f i = 0)
def marksM (cells : List UInt8) (ts : List Int) : List Int := ts.foldl (markM cells) (List.replicate 384 (-1))
def fieldM (cells : List UInt8) (bl : List Bool) (ts : List Int) : List Int :=
  bfs cells bl 385 0 (marksM cells ts, zerosM (marksM cells ts) 384)
def negs (f : List Int) : Nat := (f.filter fun v => decide (v < 0)).length
structure Bfs (f : List Int) (row : List Nat) : Prop where
  len : f.length = 384
  rws : ∀ i ∈ row, i < 384 ∧ 0 ≤ getI f i
  low : ∀ v ∈ f, -1 ≤ v ∧ v ≤ row.length
  sum : negs f + row.length = 384
theorem get_getI {f : List Int} {i : Nat} (h : i < f.length) : f[i]? = some (getI f i) := by
  unfold getI; rw [List.getD_eq_getElem?_getD, List.getElem?_eq_getElem h]; rfl
theorem getI_set {f : List Int} {i j : Nat} {v : Int} (h : i < f.length) : getI (f.set i v) j = if i = j then v else getI f j := by
  unfold getI
  rw [List.getD_eq_getElem?_getD, List.getElem?_set]
  by_cases hij : i = j
  · subst hij; simp [h]
  · simp [hij, List.getD_eq_getElem?_getD]
theorem negs_set : ∀ {f : List Int} {i : Nat} {v : Int}, getI f i < 0 → 0 ≤ v → i < f.length → negs (f.set i v) + 1 = negs f
  | a :: r, 0, v, h, hv, _ => by
    have h : a < 0 := h
    simp only [negs, List.set_cons_zero, List.filter_cons]
    rw [if_neg (by simp; omega), if_pos (by simp; omega)]
    simp
  | a :: r, i + 1, v, h, hv, hi => by
    have := negs_set (f := r) (i := i) (v := v) h hv (by simpa using hi)
    simp only [negs, List.set_cons_succ, List.filter_cons] at this ⊢
    by_cases ha : decide (a < 0) = true
    · simp only [ha, if_true, List.length_cons]; omega
    · simp only [ha, if_false, Bool.false_eq_true]; omega
theorem Bfs.push {f : List Int} {row : List Nat} (B : Bfs f row) {i k : Nat} (hi : i < 384) (h0 : 0 ≤ getI f i) (hk : k < 384) (hn : getI f k < 0) : Bfs (f.set k (getI f i + 1)) (row ++ [k]) := by
  have hl := B.len
  have hb := B.low _ (List.mem_of_getElem? (get_getI (show i < f.length by omega)))
  refine ⟨by simpa using hl, fun j hj => ?_, fun v hv => ?_, ?_⟩
  · rcases List.mem_append.1 hj with h | h
    · obtain ⟨h1, h2⟩ := B.rws j h
      refine ⟨h1, ?_⟩
      rw [getI_set (by omega)]
      split <;> omega
    · obtain rfl := List.mem_singleton.1 h
      refine ⟨hk, ?_⟩
      rw [getI_set (by omega), if_pos rfl]; omega
  · rw [List.length_append, List.length_singleton]
    rcases List.mem_or_eq_of_mem_set hv with h | h
    · have := B.low v h; omega
    · subst h; omega
  · have := negs_set hn (show 0 ≤ getI f i + 1 by omega) (show k < f.length by omega)
    have := B.sum
    rw [List.length_append, List.length_singleton]; omega
theorem nb_in {i d : Nat} (h : inM (nbM i d).1 (nbM i d).2 = true) : ((nbM i d).2 * 24 + (nbM i d).1).toNat < 384 ∧ 0 ≤ (nbM i d).2 * 24 + (nbM i d).1 := by
  simp only [inM, decide_eq_true_eq] at h; omega
theorem Bfs.try {f : List Int} {row : List Nat} (B : Bfs f row) {i : Nat} (hi : i < 384) (h0 : 0 ≤ getI f i) (cells : List UInt8) (bl : List Bool) (d : Nat) : Bfs (tryD cells bl i (f, row) d).1 (tryD cells bl i (f, row) d).2 ∧ 0 ≤ getI (tryD cells bl i (f, row) d).1 i ∧ row <+: (tryD cells bl i (f, row) d).2 := by
  unfold tryD
  split
  · rename_i h
    simp only [opens, Bool.and_eq_true, decide_eq_true_eq] at h
    obtain ⟨⟨⟨h1, h2⟩, h3⟩, h4⟩ := h
    have hk := nb_in h1
    refine ⟨B.push hi h0 hk.1 h2, ?_, List.prefix_append _ _⟩
    simp only
    rw [getI_set (by rw [B.len]; exact hk.1)]
    split <;> omega
  · exact ⟨B, h0, List.prefix_refl _⟩
theorem Bfs.tries {f : List Int} {row : List Nat} (B : Bfs f row) {i : Nat} (hi : i < 384) (h0 : 0 ≤ getI f i) (cells : List UInt8) (bl : List Bool) : ∀ d, Bfs (triesM cells bl i (f, row) d).1 (triesM cells bl i (f, row) d).2 ∧ 0 ≤ getI (triesM cells bl i (f, row) d).1 i ∧ row <+: (triesM cells bl i (f, row) d).2
  | 0 => ⟨B, h0, List.prefix_refl _⟩
  | d + 1 => by
    obtain ⟨h1, h2, h3⟩ := B.tries hi h0 cells bl d
    obtain ⟨q1, q2, q3⟩ := h1.try hi h2 cells bl d
    exact ⟨q1, q2, h3.trans q3⟩
abbrev gd (seed floor a b n : Int) : Int := dieM n seed [floor, a, b]
def roomW (seed floor i : Int) : Int := 3 + gd seed floor i 0 5
def roomH (seed floor i : Int) : Int := 2 + gd seed floor i 1 4
def roomX (seed floor i : Int) : Int := 1 + gd seed floor i 2 (23 - roomW seed floor i)
def roomY (seed floor i : Int) : Int := 1 + gd seed floor i 3 (15 - roomH seed floor i)
theorem gd_rng {n : Int} (h : 0 < n) (seed floor a b : Int) : 0 ≤ gd seed floor a b n ∧ gd seed floor a b n < n := dieM_rng h seed _
theorem room_rng (seed floor i : Int) : 3 ≤ roomW seed floor i ∧ roomW seed floor i ≤ 7 ∧ 2 ≤ roomH seed floor i ∧ roomH seed floor i ≤ 5 ∧ 1 ≤ roomX seed floor i ∧ roomX seed floor i + roomW seed floor i ≤ 23 ∧ 1 ≤ roomY seed floor i ∧ roomY seed floor i + roomH seed floor i ≤ 15 := by
  have hw : 3 ≤ roomW seed floor i ∧ roomW seed floor i ≤ 7 := by
    have := gd_rng (n := 5) (by omega) seed floor i 0
    unfold roomW; omega
  have hh : 2 ≤ roomH seed floor i ∧ roomH seed floor i ≤ 5 := by
    have := gd_rng (n := 4) (by omega) seed floor i 1
    unfold roomH; omega
  have h3 := gd_rng (n := 23 - roomW seed floor i) (by omega) seed floor i 2
  have h4 := gd_rng (n := 15 - roomH seed floor i) (by omega) seed floor i 3
  have hx : roomX seed floor i = 1 + gd seed floor i 2 (23 - roomW seed floor i) := rfl
  have hy : roomY seed floor i = 1 + gd seed floor i 3 (15 - roomH seed floor i) := rfl
  omega
def fillRow (cells : List UInt8) (k : Nat) : Nat → List UInt8
  | 0 => cells
  | n + 1 => fillRow (cells.set k 1) (k + 1) n
def fillRect (cells : List UInt8) (k w : Nat) : Nat → List UInt8
  | 0 => cells
  | n + 1 => fillRect (fillRow cells k w) (k + 24) w n
def digRoom (seed floor : Int) (cells : List UInt8) (i : Nat) : List UInt8 :=
  fillRect cells (roomY seed floor i * 24 + roomX seed floor i).toNat (roomW seed floor i).toNat (roomH seed floor i).toNat
def digRooms (seed floor : Int) : Nat → List UInt8
  | 0 => List.replicate 384 0
  | i + 1 => digRoom seed floor (digRooms seed floor i) i
def midX (seed floor i : Int) : Int := roomX seed floor i + roomW seed floor i / 2
def midY (seed floor i : Int) : Int := roomY seed floor i + roomH seed floor i / 2
theorem mid_rng (seed floor i : Int) : 1 ≤ midX seed floor i ∧ midX seed floor i ≤ 22 ∧ 1 ≤ midY seed floor i ∧ midY seed floor i ≤ 14 := by
  have := room_rng seed floor i
  unfold midX midY; omega
def digM (cells : List UInt8) (x y : Int) (door : Bool) : List UInt8 × Bool :=
  if byteAt cells (y * 24 + x).toNat ≠ 0 then (cells, door) else (cells.set (y * 24 + x).toNat (if door then 1 else 2), true)
def towardM (a b : Int) : Int := if a < b then a + 1 else a - 1
def corrM (tx ty : Int) (first : Bool) : Nat → List UInt8 → Bool → Int → Int → List UInt8
  | 0, cells, _, _, _ => cells
  | n + 1, cells, door, x, y =>
    if x ≠ tx ∨ y ≠ ty then
      let p := if (first = true ∧ x ≠ tx) ∨ (first = false ∧ y = ty) then (towardM x tx, y) else (x, towardM y ty)
      let q := digM cells p.1 p.2 door
      corrM tx ty first n q.1 q.2 p.1 p.2
    else cells
def corrStart (seed floor : Int) (cells : List UInt8) (i : Int) : List UInt8 :=
  let q := digM cells (midX seed floor (i - 1)) (midY seed floor (i - 1)) false
  corrM (midX seed floor i) (midY seed floor i) (decide (gd seed floor i 4 2 = 0)) 64 q.1 q.2 (midX seed floor (i - 1)) (midY seed floor (i - 1))
def corrsM (seed floor : Int) (cells : List UInt8) : Nat → List UInt8
  | 0 => cells
  | i + 1 => corrStart seed floor (corrsM seed floor cells i) ((i : Int) + 1)
def upM (seed floor : Int) : Nat := (midY seed floor 0 * 24 + midX seed floor 0).toNat
def farM (f : List Int) (up : Nat) : Nat → Nat
  | 0 => up
  | i + 1 => if getI f i > getI f (farM f up i) then i else farM f up i
def shopM (cells : List UInt8) (f : List Int) (v : Int) : Nat → Option Nat
  | 0 => none
  | i + 1 => match shopM cells f v i with
    | some k => some k
    | none => if byteAt cells i = 1 ∧ getI f i = v then some i else none
def baseM (seed floor : Int) : List UInt8 := (corrsM seed floor (digRooms seed floor 6) 5).set (upM seed floor) 3
def distM (seed floor : Int) : List Int := fieldM (baseM seed floor) [] [(upM seed floor : Int)]
def farMM (seed floor : Int) : Nat := farM (distM seed floor) (upM seed floor) 384
def downM (seed floor : Int) : List UInt8 := (baseM seed floor).set (farMM seed floor) 4
def shopAt (seed floor : Int) : Option Nat := if gd seed floor 6 0 2 = 0 then shopM (downM seed floor) (distM seed floor) ((getI (distM seed floor) (farMM seed floor)).tdiv 2) 384 else none
def shopC (cells : List UInt8) : Option Nat → List UInt8
  | some k => cells.set k 5
  | none => cells
def cellsM (seed floor : Int) : List UInt8 := shopC (downM seed floor) (shopAt seed floor)
def freeM (cells : List UInt8) (f : List Int) (far : Int) (used : List Bool) (n : Nat) : List Nat := (List.range n).filter fun i => decide (byteAt cells i = 1) && decide (getI f i ≥ far) && !used.getD i false
def pickM (cells : List UInt8) (f : List Int) (far : Int) (used : List Bool) (seed floor a : Int) : Int :=
  match freeM cells f far used 384 with
  | [] => -1
  | l => ((l.getD (gd seed floor a 0 l.length).toNat 0 : Nat) : Int)
def foesM (seed floor : Int) (cells : List UInt8) (f : List Int) : Nat → Nat → List Bool → List Ent → List Ent
  | 0, _, _, l => l
  | n + 1, k, used, l =>
    let at_ := pickM cells f 4 used seed floor (7 + k)
    if at_ < 0 then l else
      foesM seed floor cells f n (k + 1) (used.set at_.toNat true) (l ++ [{ statsM (2 + gd seed floor (16 + k) 1 (min (floor + 1) 3)) with x := at_ % 24, y := at_ / 24 }])
def waresM (seed floor : Int) (cells : List UInt8) (f : List Int) : Nat → Nat → List Bool → List Itm → List Itm
  | 0, _, _, l => l
  | n + 1, k, used, l =>
    let at_ := pickM cells f 0 used seed floor (40 + k)
    if at_ < 0 then waresM seed floor cells f n (k + 1) used l else
      waresM seed floor cells f n (k + 1) (used.set at_.toNat true) (l ++ [⟨1 + gd seed floor (40 + k) 1 4, 1, at_ % 24, at_ / 24⟩])
def shelfM (seed floor : Int) : Nat → List Itm
  | 0 => []
  | k + 1 => shelfM seed floor k ++ [⟨1 + gd seed floor (50 + k) 1 3, 4, k, 0⟩]
structure Lvl where
  cells : List UInt8
  ents : List Ent
  items : List Itm
def makeM (seed floor : Int) : Lvl :=
  ⟨cellsM seed floor, foesM seed floor (cellsM seed floor) (distM seed floor) (floor + 2).toNat 0 (List.replicate 384 false) [],
    waresM seed floor (cellsM seed floor) (distM seed floor) 4 0 (List.replicate 384 false) [] ++ (if (shopAt seed floor).isSome then shelfM seed floor 3 else [])⟩
end Go.Ad
namespace Go.Ad
open Go.RowKit Go.Maps
set_option linter.unusedVariables false
set_option linter.unusedSimpArgs false
def btw (n f t : Int) : Bool := decide (f ≤ n ∧ n ≤ t)
def numsOk (w : Wd) : Bool := btw w.frame 0 1073741823 && btw w.floor 1 3 && btw w.state 0 2 && btw w.gold.a 0 999 && btw w.gold.b 0 999 && btw w.gold.c 0 999 && btw w.gold.d 0 999
def sizesOk (w : Wd) : Bool := decide (w.cells.length = 384 ∧ w.ents.length = 32 ∧ w.items.length = 40)
def cnt (k : UInt8) (cells : List UInt8) : Nat := (cells.filter (· == k)).length
def headM (w : Wd) : Int :=
  if numsOk w = false then 1 else if sizesOk w = false then 4 else if w.cells.any (fun x => decide (5 < x.toNat)) then 3
  else if cnt 3 w.cells = 1 ∧ cnt 4 w.cells = 1 then 0 else 2
def fitsM (w : Wd) (i : Nat) (e : Ent) : Bool :=
  btw e.gen 0 255 &&
  (if e.kind = 0 then decide (e.seat = 0 ∧ e.x = 0 ∧ e.y = 0 ∧ e.hp = 0 ∧ e.max = 0 ∧ e.atk = 0 ∧ e.df = 0 ∧ e.poison = 0 ∧ e.stun = 0)
  else walkM (atM w.cells e.x e.y) && decide (eAt (w.ents.take i) e.x e.y < 0) && btw e.hp 1 e.max && decide (e.max = (statsM e.kind).max) && decide (e.atk = (statsM e.kind).atk) && decide (e.df = (statsM e.kind).df) && btw e.poison 0 9 && btw e.stun 0 9 &&
    (if e.kind = 1 then btw e.seat 0 3 && decide (eHero (w.ents.take i) e.seat < 0) else decide (e.seat = 0)))
def entM (w : Wd) (i : Nat) (e : Ent) : Int := if btw e.kind 0 4 = false then 3 else if fitsM w i e then 0 else 9
def entsM (w : Wd) : List Ent → Nat → Int
  | [], _ => 0
  | e :: r, i => if entM w i e ≠ 0 then entM w i e else entsM w r (i + 1)
def Itm.isZ (x : Itm) : Bool := decide (x.kind = 0 ∧ x.whr = 0 ∧ x.a = 0 ∧ x.b = 0)
def placedM (cells : List UInt8) (x : Itm) : Bool :=
  if x.whr = 1 then walkM (atM cells x.a x.b)
  else if x.whr = 2 then btw x.a 0 3 && btw x.b 0 3 && decide (x.kind ≠ 4)
  else if x.whr = 3 then btw x.a 0 3 && decide (x.kind = 2 ∧ x.b = 0 ∨ x.kind = 3 ∧ x.b = 1)
  else if x.whr = 4 then btw x.a 0 2 && decide (x.b = 0) && decide (x.kind ≠ 4)
  else false
def aloneM (l : List Itm) (x : Itm) : Bool := l.all fun y => !decide (y.whr = x.whr ∧ y.a = x.a ∧ y.b = x.b ∧ y.whr ≠ 0)
def itemsM (cells : List UInt8) (all : List Itm) : List Itm → Nat → Bool
  | [], _ => true
  | x :: r, i => if x.isZ then itemsM cells all r (i + 1) else if btw x.kind 1 4 && placedM cells x && aloneM (all.take i) x then itemsM cells all r (i + 1) else false
def goodsM (w : Wd) : Bool := decide (w.items.length = 40) && itemsM w.cells w.items w.items 0
def checkM (w : Wd) : Int := if headM w ≠ 0 then headM w else if entsM w w.ents 0 ≠ 0 then entsM w w.ents 0 else if goodsM w then 0 else 9
def byteM (v : Int) : UInt8 := UInt8.ofNat (v % 256).toNat
def beM (v : Int) : Nat → List UInt8
  | 0 => []
  | n + 1 => byteM (v.fdiv (2 ^ (8 * n))) :: beM v n
def eBytes (e : Ent) : List UInt8 := [byteM e.kind, byteM e.gen, byteM e.seat, byteM e.x, byteM e.y, byteM e.hp, byteM e.max, byteM e.atk, byteM e.df, byteM e.poison, byteM e.stun]
def iBytes (x : Itm) : List UInt8 := [byteM x.kind, byteM x.whr, byteM x.a, byteM x.b]
def encW (w : Wd) : List UInt8 :=
  beM (IntKind.u64.wrap w.seed) 8 ++ beM (IntKind.u64.wrap w.frame) 4 ++ [byteM w.floor, byteM w.state] ++ beM (IntKind.u64.wrap w.gold.a) 2 ++ beM (IntKind.u64.wrap w.gold.b) 2 ++ beM (IntKind.u64.wrap w.gold.c) 2 ++ beM (IntKind.u64.wrap w.gold.d) 2
    ++ w.cells ++ w.ents.flatMap eBytes ++ w.items.flatMap iBytes
end Go.Ad
namespace Go.Proofs.YtcogbkkdccohfaaGreat
open Go.RowKit Go.Ad Go.Maps
set_option linter.unusedVariables false
set_option linter.unusedSimpArgs false
section
variable {W : World}
set_option maxRecDepth 100000 in
theorem rm_d (x : Int) : Does Tryz.prog 213 [.int .u64 x] W [] (fun v L => v = .int .u64 (mM x) ∧ L = []) := by
  refine enter Tryz.func213 rfl rfl rfl (Has.start _) ?_
  refine c_seq ?_
  refine c_reg ?_
  refine s_y (Y_asC) rfl rfl ?_
  refine s_nil ?_
  refine q_then ?_
  refine c_seq ?_
  refine c_reg ?_
  refine s_y (Y_mv) rfl rfl ?_
  refine s_y (Y_mv) rfl rfl ?_
  refine s_y (Y_shr rfl rfl (by omega)) rfl rfl ?_
  refine s_y (Y_xr rfl rfl) rfl rfl ?_
  refine s_y (Y_mulw rfl rfl) rfl rfl ?_
  refine s_y (Y_as) rfl rfl ?_
  refine s_nil ?_
  refine q_then ?_
  refine c_seq ?_
  refine c_reg ?_
  refine s_y (Y_mv) rfl rfl ?_
  refine s_y (Y_mv) rfl rfl ?_
  refine s_y (Y_shr rfl rfl (by omega)) rfl rfl ?_
  refine s_y (Y_xr rfl rfl) rfl rfl ?_
  refine s_y (Y_mulw rfl rfl) rfl rfl ?_
  refine s_y (Y_as) rfl rfl ?_
  refine s_nil ?_
  refine q_then ?_
  refine c_seq ?_
  refine c_reg ?_
  refine s_y (Y_mv) rfl rfl ?_
  refine s_y (Y_mv) rfl rfl ?_
  refine s_y (Y_shr rfl rfl (by omega)) rfl rfl ?_
  refine s_y (Y_xr rfl rfl) rfl rfl ?_
  refine s_y (Y_as) rfl rfl ?_
  refine s_nil ?_
  refine q_then ?_
  refine c_ret ?_
  refine q_retG1 rfl gt_ (L' := _) sl_ (⟨rfl, rfl⟩)
set_option maxRecDepth 100000 in
theorem rmix_d {seed : Int} {b o n c : Nat} {l : List Int} (hs : SlB W b o n c 1 (l.map iv)) : Does Tryz.prog 187 [iv seed, .slice (some ⟨b, o, none⟩) n c] W [] (fun v L => v = .int .u64 (mixM seed l) ∧ L = []) := by
  have hn : l.length = n := by have := hs.len; simpa using this
  have hb := hs.cap
  have hg := hs.big
  simp only [maxLen] at hg
  refine enter Tryz.func187 rfl rfl rfl (Has.start _) ?_
  refine c_seq ?_
  refine c_reg ?_
  refine s_y (Y_asC) rfl rfl ?_
  refine s_nil ?_
  refine q_then ?_
  refine c_seq ?_
  refine c_reg ?_
  refine s_y (Y_mv) rfl rfl ?_
  refine s_y ((by first | exact Y_conv rfl Tryz.underlying2 Tryz.underlying96 (by first | exact i64_u8 _ | exact u64_u8 _ | exact i64_id (by omega) | exact u64_id (by omega) | exact u8_id (by omega) | exact u32_id (by omega)) | exact Y_convw rfl Tryz.underlying2 Tryz.underlying96)) rfl rfl ?_
  refine s_y (Y_addw rfl rfl) rfl rfl ?_
  refine s_c (En_call (fun _ => rfl) Tryz.func213 rfl (by kernel_rfl) rfl) (fun w hH => rm_d _) rfl rfl ?_
  rintro _ _ ⟨rfl, rfl⟩
  refine s_y (Y_as) rfl rfl ?_
  refine s_nil ?_
  refine q_then ?_
  refine c_seq ?_
  refine c_seq ?_
  refine c_reg ?_
  refine s_y (Y_asC) rfl rfl ?_
  refine s_nil ?_
  refine q_then ?_
  refine c_block ?_
  refine c_loop [5, 6, 11, 12, 13, 14, 15, 16, 17, 18, 19, 20, 21, 22, 23, 24, 25] (fun m (y : Nat × Int) => y.1 + m = n ∧ (l.drop y.1).foldl mixS y.2 = mixM seed l) (fun y => [(5, .int .u64 y.2), (6, iv y.1)]) (fun _ => []) (n) ((0, mM (IntKind.u64.wrap (IntKind.u64.wrap seed + 11400714819323198485)))) (⟨by omega, (mixM_eq seed l).symm⟩) (by repeat (first | exact trivial | refine ⟨rfl, ?_⟩)) (fun _ h => h.sub sl_) (fun _ => rfl) ?_
  rintro m ⟨i, x⟩ j ⟨hi, hf⟩ K hK
  simp only at hi hf ⊢
  refine c_seq ?_
  refine c_seq ?_
  refine c_reg ?_
  refine s_y (Y_mv) rfl rfl ?_
  refine s_y (Y_mv) rfl rfl ?_
  refine s_y (Y_len rfl rfl Tryz.underlying23) rfl rfl ?_
  refine s_y (Y_lss rfl rfl) rfl rfl ?_
  refine s_nil ?_
  refine q_then ?_
  first | refine c_cond' rfl (fun hc3 => ?_) (fun hc3 => ?_) | refine c_cond rfl (fun hc3 => ?_) (fun hc3 => ?_)
  · skip
    try simp only [nrm_] at hc3
    refine c_skip ?_
    refine q_then ?_
    refine c_seq ?_
    refine c_block ?_
    obtain ⟨z, hz⟩ := take_lt (show i < l.length by omega)
    rw [List.drop_eq_getElem_cons (show i < l.length by omega), List.foldl_cons] at hf
    obtain rfl : l[i]'(by omega) = z := (List.getElem?_eq_some_iff.1 hz).2
    refine c_reg ?_
    refine s_y (Y_mv) rfl rfl ?_
    refine s_y (Y_mv) rfl rfl ?_
    refine s_y (Y_mv) rfl rfl ?_
    refine s_y (Y_ia1 rfl rfl Tryz.underlying23 sz3 rfl (by omega)) rfl rfl ?_
    refine s_y (Y_loadR (i := i) rfl one3 hs.ro rfl (by rw [List.getElem?_map, hz]; rfl)) rfl rfl ?_
    refine s_y ((by first | exact Y_conv rfl Tryz.underlying3 Tryz.underlying96 (by first | exact i64_u8 _ | exact u64_u8 _ | exact i64_id (by omega) | exact u64_id (by omega) | exact u8_id (by omega) | exact u32_id (by omega)) | exact Y_convw rfl Tryz.underlying3 Tryz.underlying96)) rfl rfl ?_
    refine s_y (Y_xr rfl rfl) rfl rfl ?_
    refine s_y (Y_addw rfl rfl) rfl rfl ?_
    refine s_c (En_call (fun _ => rfl) Tryz.func213 rfl (by kernel_rfl) rfl) (fun w hH => rm_d _) rfl rfl ?_
    rintro _ _ ⟨rfl, rfl⟩
    refine s_y (Y_as) rfl rfl ?_
    refine s_nil ?_
    refine q_bn ?_
    refine q_then ?_
    refine c_reg ?_
    refine s_y (Y_mv) rfl rfl ?_
    refine s_y ad_ rfl rfl ?_
    refine s_y (Y_as) rfl rfl ?_
    refine s_nil ?_
    refine hK (m - 1) (i + 1, _) _ _ (by omega) ⟨by simp only; omega, hf⟩ ⟨rfl, rfl, trivial⟩ rfl (fun _ h => h)
  · skip
    try simp only [nrm_] at hc3
    refine c_exit ?_
    repeat with_reducible refine q_te ?_
    refine q_exit ?_
    refine q_then ?_
    refine c_seq ?_
    refine c_reg ?_
    refine s_y (Y_mv) rfl rfl ?_
    refine s_y (Y_as) rfl rfl ?_
    refine s_nil ?_
    refine q_then ?_
    refine c_ret ?_
    refine q_retG1 rfl gt_ (L' := _) sl_ (⟨by rw [← hf, List.drop_eq_nil_of_le (by omega)]; rfl, rfl⟩)
set_option maxRecDepth 100000 in
theorem rdie_d {m seed : Int} (hm : 1 ≤ m ∧ m ≤ 4611686018427387904) {b o n c : Nat} {l : List Int} (hs : SlB W b o n c 1 (l.map iv)) : Does Tryz.prog 149 [iv m, iv seed, .slice (some ⟨b, o, none⟩) n c] W [] (fun v L => v = iv (dieM m seed l) ∧ L = []) := by
  have hx := mixM_rng seed l
  have hd := dieM_rng (n := m) (by omega) seed l
  have hu : IntKind.u64.wrap m = m := u64_id (by omega)
  refine enter Tryz.func149 rfl rfl rfl (Has.start _) ?_
  refine c_seq ?_
  refine c_reg ?_
  refine s_y (Y_asC) rfl rfl ?_
  refine s_nil ?_
  refine q_then ?_
  refine c_seq ?_
  refine c_seq ?_
  refine c_reg ?_
  refine s_y (Y_mv) rfl rfl ?_
  refine s_y (Y_lss rfl rfl) rfl rfl ?_
  refine s_nil ?_
  refine q_then ?_
  refine c_F rfl ((decide_eq_false (by omega))) ?_
  refine c_skip ?_
  refine q_then ?_
  refine c_seq ?_
  refine c_reg ?_
  refine s_y (Y_mv) rfl rfl ?_
  refine s_y (Y_mv) rfl rfl ?_
  refine s_c (En_call (fun _ => rfl) Tryz.func187 rfl (by kernel_rfl) rfl) (fun w hH => rmix_d (hs.has hH)) rfl rfl ?_
  rintro _ _ ⟨rfl, rfl⟩
  refine s_y (Y_mv) rfl rfl ?_
  refine s_y ((by first | exact Y_conv rfl Tryz.underlying3 Tryz.underlying96 (by first | exact i64_u8 _ | exact u64_u8 _ | exact i64_id (by omega) | exact u64_id (by omega) | exact u8_id (by omega) | exact u32_id (by omega)) | exact Y_convw rfl Tryz.underlying3 Tryz.underlying96)) rfl rfl ?_
  refine s_y (Y_rem rfl rfl (by omega)) rfl rfl ?_
  refine s_y (Y_conv rfl Tryz.underlying96 Tryz.underlying3 (i64_id (by unfold dieM at hd; omega))) rfl rfl ?_
  refine s_y (Y_as) rfl rfl ?_
  refine s_nil ?_
  refine q_then ?_
  refine c_ret ?_
  refine q_retG1 rfl gt_ (L' := _) sl_ (⟨rfl, rfl⟩)
set_option maxRecDepth 100000 in
theorem rd_d {seed floor a b m : Int} (hm : 1 ≤ m ∧ m ≤ 4611686018427387904) : Does Tryz.prog 118 [iv seed, iv floor, iv a, iv b, iv m] W [] (fun v L => v = iv (gd seed floor a b m) ∧ L = []) := by
  refine enter Tryz.func118 rfl rfl rfl (Has.start _) ?_
  refine c_seq ?_
  refine c_reg ?_
  refine s_y (Y_asC) rfl rfl ?_
  refine s_nil ?_
  refine q_then ?_
  refine c_seq ?_
  refine c_reg ?_
  refine s_y (Y_mv) rfl rfl ?_
  refine s_y (Y_mv) rfl rfl ?_
  refine s_y (Y_mv) rfl rfl ?_
  refine s_y (Y_mv) rfl rfl ?_
  refine s_y (Y_mv) rfl rfl ?_
  refine s_n (N_bs (xs := [.tmp 13, .tmp 14, .tmp 15]) (by repeat (first | exact Gv.nil | apply Gv.const | apply Gv.tmp gt_)) rfl Tryz.underlying23 inf3 rfl (by omega) (by omega) (by first | simp [Value.oneCell'] | (intro v hv; simp at hv; subst hv; rfl))) rfl rfl (fun b16 _ => ?_)
  refine s_c (En_call (fun _ => rfl) Tryz.func149 rfl (by kernel_rfl) rfl) (fun w hH => rdie_d (l := [floor, a, b]) hm ((hH.at' (x := ⟨b16, 3, 1, 3, [iv floor, iv a, iv b]⟩) mm_).sl rfl (Nat.le_refl _))) rfl rfl ?_
  rintro _ _ ⟨rfl, rfl⟩
  refine s_y (Y_as) rfl rfl ?_
  refine s_nil ?_
  refine q_then ?_
  refine c_ret ?_
  refine q_retG1 rfl gt_ (L' := _) sl_ (⟨rfl, rfl⟩)
set_option maxRecDepth 100000 in
theorem rin_d {x y : Int} : Does Tryz.prog 144 [iv x, iv y] W [] (fun v L => v = .bool (inM x y) ∧ L = []) := by
  refine enter Tryz.func144 rfl rfl rfl (Has.start _) ?_
  refine c_seq ?_
  refine c_reg ?_
  refine s_y (Y_asC) rfl rfl ?_
  refine s_nil ?_
  refine q_then ?_
  refine c_seq ?_
  refine c_reg ?_
  refine s_y (Y_mv) rfl rfl ?_
  refine s_y (Y_geq rfl rfl) rfl rfl ?_
  refine s_y (Y_mv) rfl rfl ?_
  apply s_and 3 [7, 8, 9, 10] 10 (g := 7) rfl rfl
  · intro ht3 hm
    try simp only [nrm_] at ht3
    first | refine s_y (Y_mv) rfl rfl ?_ | refine s_pass rfl rfl ?_
    first | refine s_y (Y_lss rfl rfl) rfl rfl ?_ | refine s_pass rfl rfl ?_
    refine s_y (Y_pk rfl (Gx.tmp gt_) Gx.const) rfl rfl ?_
    first | exact hm _ ⟨rfl, trivial⟩ rfl | exact QL.sub sl_ (hm _ ⟨rfl, trivial⟩ rfl)
  · intro ht3 hm
    iterate 2 refine s_pass rfl rfl ?_
    refine s_y (Y_pk rfl (Gx.tmp gt_) Gx.const) rfl rfl ?_
    exact hm _ ⟨rfl, trivial⟩ rfl
  intro j10
  refine s_y (Y_mv) rfl rfl ?_
  apply s_and 3 [11, 12, 13, 14] 14 (g := 11) rfl rfl
  · intro ht7 hm
    try simp only [nrm_] at ht7
    first | refine s_y (Y_mv) rfl rfl ?_ | refine s_pass rfl rfl ?_
    first | refine s_y (Y_geq rfl rfl) rfl rfl ?_ | refine s_pass rfl rfl ?_
    refine s_y (Y_pk rfl (Gx.tmp gt_) Gx.const) rfl rfl ?_
    first | exact hm _ ⟨rfl, trivial⟩ rfl | exact QL.sub sl_ (hm _ ⟨rfl, trivial⟩ rfl)
  · intro ht7 hm
    iterate 2 refine s_pass rfl rfl ?_
    refine s_y (Y_pk rfl (Gx.tmp gt_) Gx.const) rfl rfl ?_
    exact hm _ ⟨rfl, trivial⟩ rfl
  intro j14
  refine s_y (Y_mv) rfl rfl ?_
  apply s_and 3 [15, 16, 17, 18] 18 (g := 15) rfl rfl
  · intro ht11 hm
    try simp only [nrm_] at ht11
    first | refine s_y (Y_mv) rfl rfl ?_ | refine s_pass rfl rfl ?_
    first | refine s_y (Y_lss rfl rfl) rfl rfl ?_ | refine s_pass rfl rfl ?_
    refine s_y (Y_pk rfl (Gx.tmp gt_) Gx.const) rfl rfl ?_
    first | exact hm _ ⟨rfl, trivial⟩ rfl | exact QL.sub sl_ (hm _ ⟨rfl, trivial⟩ rfl)
  · intro ht11 hm
    iterate 2 refine s_pass rfl rfl ?_
    refine s_y (Y_pk rfl (Gx.tmp gt_) Gx.const) rfl rfl ?_
    exact hm _ ⟨rfl, trivial⟩ rfl
  intro j18
  refine s_y (Y_as) rfl rfl ?_
  refine s_nil ?_
  refine q_then ?_
  refine c_ret ?_
  refine q_retG1 rfl gt_ (L' := _) sl_ (⟨by congr 1; simp only [inM]; rw [Bool.eq_iff_iff]; (first | (simp only [nrm_]; done) | (simp only [nrm_]; omega)), rfl⟩)
set_option maxRecDepth 100000 in
theorem rwalk_d {k : Int} : Does Tryz.prog 97 [iv k] W [] (fun v L => v = .bool (walkM k) ∧ L = []) := by
  refine enter Tryz.func97 rfl rfl rfl (Has.start _) ?_
  refine c_seq ?_
  refine c_reg ?_
  refine s_y (Y_asC) rfl rfl ?_
  refine s_nil ?_
  refine q_then ?_
  refine c_seq ?_
  refine c_reg ?_
  refine s_y (Y_mv) rfl rfl ?_
  refine s_y (Y_geq rfl rfl) rfl rfl ?_
  refine s_y (Y_mv) rfl rfl ?_
  apply s_and 3 [5, 6, 7, 8] 8 (g := 5) rfl rfl
  · intro ht3 hm
    try simp only [nrm_] at ht3
    first | refine s_y (Y_mv) rfl rfl ?_ | refine s_pass rfl rfl ?_
    first | refine s_y (Y_leq rfl rfl) rfl rfl ?_ | refine s_pass rfl rfl ?_
    refine s_y (Y_pk rfl (Gx.tmp gt_) Gx.const) rfl rfl ?_
    first | exact hm _ ⟨rfl, trivial⟩ rfl | exact QL.sub sl_ (hm _ ⟨rfl, trivial⟩ rfl)
  · intro ht3 hm
    iterate 2 refine s_pass rfl rfl ?_
    refine s_y (Y_pk rfl (Gx.tmp gt_) Gx.const) rfl rfl ?_
    exact hm _ ⟨rfl, trivial⟩ rfl
  intro j8
  refine s_y (Y_as) rfl rfl ?_
  refine s_nil ?_
  refine q_then ?_
  refine c_ret ?_
  refine q_retG1 rfl gt_ (L' := _) sl_ (⟨by congr 1; simp only [walkM]; rw [Bool.eq_iff_iff]; (first | (simp only [nrm_]; done) | (simp only [nrm_]; omega)), rfl⟩)
set_option maxRecDepth 100000 in
theorem rat_d {b o n c : Nat} {l : List UInt8} (hs : SlB W b o n c 1 (l.map bv)) {x y : Int} : Does Tryz.prog 91 [.slice (some ⟨b, o, none⟩) n c, iv x, iv y] W [] (fun v L => v = iv (atM l x y) ∧ L = []) := by
  have hn : l.length = n := by have := hs.len; simpa using this
  refine enter Tryz.func91 rfl rfl rfl (Has.start _) ?_
  refine c_seq ?_
  refine c_reg ?_
  refine s_y (Y_asC) rfl rfl ?_
  refine s_nil ?_
  refine q_then ?_
  refine c_seq ?_
  refine c_seq ?_
  refine c_reg ?_
  refine s_y (Y_mv) rfl rfl ?_
  refine s_y (Y_mv) rfl rfl ?_
  refine s_c (En_call (fun _ => rfl) Tryz.func144 rfl (by kernel_rfl) rfl) (fun w hH => rin_d) rfl rfl ?_
  rintro _ _ ⟨rfl, rfl⟩
  refine s_y (Y_not rfl) rfl rfl ?_
  refine s_y (Y_mv) rfl rfl ?_
  apply s_or 8 [11, 12, 13, 14, 15, 16, 17, 18, 19] 19 (g := 11) rfl rfl
  · intro ht5 hm
    try simp only [nrm_] at ht5
    first | refine s_y (Y_mv) rfl rfl ?_ | refine s_pass rfl rfl ?_
    first | refine s_y (Y_mul rfl rfl (by simp only [inM, decide_eq_true_eq] at ht5; omega)) rfl rfl ?_ | refine s_pass rfl rfl ?_
    first | refine s_y (Y_mv) rfl rfl ?_ | refine s_pass rfl rfl ?_
    first | refine s_y (Y_add rfl rfl (by simp only [inM, decide_eq_true_eq] at ht5; omega)) rfl rfl ?_ | refine s_pass rfl rfl ?_
    first | refine s_y (Y_mv) rfl rfl ?_ | refine s_pass rfl rfl ?_
    first | refine s_y (Y_len rfl rfl Tryz.underlying24) rfl rfl ?_ | refine s_pass rfl rfl ?_
    first | refine s_y (Y_geq rfl rfl) rfl rfl ?_ | refine s_pass rfl rfl ?_
    refine s_y (Y_pk rfl Gx.const (Gx.tmp gt_)) rfl rfl ?_
    first | exact hm _ ⟨rfl, trivial⟩ rfl | exact QL.sub sl_ (hm _ ⟨rfl, trivial⟩ rfl)
  · intro ht5 hm
    iterate 7 refine s_pass rfl rfl ?_
    refine s_y (Y_pk rfl Gx.const (Gx.tmp gt_)) rfl rfl ?_
    exact hm _ ⟨rfl, trivial⟩ rfl
  intro j19
  refine s_nil ?_
  refine q_then ?_
  first | refine c_cond' rfl (fun hc1 => ?_) (fun hc1 => ?_) | refine c_cond rfl (fun hc1 => ?_) (fun hc1 => ?_)
  · skip
    try simp only [nrm_] at hc1
    refine c_seq ?_
    refine c_reg ?_
    refine s_y (Y_asC) rfl rfl ?_
    refine s_nil ?_
    refine q_then ?_
    refine c_ret ?_
    refine q_retG1 rfl gt_ (L' := _) sl_ (⟨by
        simp only [atM]
        rw [if_neg]
        rintro ⟨h1, h2⟩
        rcases hc1 with h | h
        · rw [h1] at h; cases h
        · omega, rfl⟩)
  · skip
    try simp only [nrm_] at hc1
    refine c_skip ?_
    refine q_then ?_
    refine c_seq ?_
    obtain ⟨h1, h2⟩ := hc1
    have h3 := h1
    simp only [inM, decide_eq_true_eq] at h3
    obtain ⟨k, hk⟩ : ∃ k : Nat, (k : Int) = y * 24 + x := ⟨(y * 24 + x).toNat, by omega⟩
    obtain ⟨u, hu⟩ := take_lt (show k < l.length by omega)
    have hv : atM l x y = u.toNat := by
      simp only [atM]
      rw [if_pos ⟨h1, by omega⟩, ← hk, Int.toNat_natCast, byteAt_of hu]
    refine c_reg ?_
    refine s_y (Y_mv) rfl rfl ?_
    refine s_y (Y_mv) rfl rfl ?_
    refine s_y mu_ rfl rfl ?_
    refine s_y (Y_mv) rfl rfl ?_
    refine s_y ((Y_add rfl rfl (by omega)).num hk.symm) rfl rfl ?_
    refine s_y (Y_ia1 rfl rfl Tryz.underlying24 sz5 rfl (by omega)) rfl rfl ?_
    refine s_y (Y_loadR (i := k) rfl one5 hs.ro rfl (by rw [List.getElem?_map, hu]; rfl)) rfl rfl ?_
    refine s_y ((by first | exact Y_conv rfl Tryz.underlying5 Tryz.underlying3 (by first | exact i64_u8 _ | exact u64_u8 _ | exact i64_id (by omega) | exact u64_id (by omega) | exact u8_id (by omega) | exact u32_id (by omega)) | exact Y_convw rfl Tryz.underlying5 Tryz.underlying3)) rfl rfl ?_
    refine s_y (Y_as) rfl rfl ?_
    refine s_nil ?_
    refine q_then ?_
    refine c_ret ?_
    refine q_retG1 rfl gt_ (L' := _) sl_ (⟨by rw [hv], rfl⟩)
end
end Go.Proofs.YtcogbkkdccohfaaGreat
namespace Go.Proofs.YtcogbkkdccohfaaGreat
open Go.RowKit Go.Ad Go.Maps
set_option linter.unusedVariables false
set_option linter.unusedSimpArgs false
section
variable {W : World}
set_option maxRecDepth 100000 in
theorem reat_d {b o n c : Nat} {l : List Ent} (hs : SlB W b o n c 11 (ecells l)) {x y : Int} : Does Tryz.prog 73 [.slice (some ⟨b, o, none⟩) n c, iv x, iv y] W [] (fun v L => v = iv (eAt l x y) ∧ L = []) := by
  have hn : l.length = n := by have := hs.len; rw [ecells_len] at this; omega
  have hb := hs.cap
  have hg := hs.big
  simp only [maxLen] at hg
  refine enter Tryz.func73 rfl rfl rfl (Has.start _) ?_
  refine c_seq ?_
  refine c_reg ?_
  refine s_y (Y_asC) rfl rfl ?_
  refine s_nil ?_
  refine q_then ?_
  refine c_seq ?_
  refine c_seq ?_
  refine c_reg ?_
  refine s_y (Y_asC) rfl rfl ?_
  refine s_nil ?_
  refine q_then ?_
  refine c_block ?_
  refine c_loop [6, 7, 8, 9, 10, 11, 12, 13, 14, 15, 16, 17, 18, 19, 20, 21, 22, 23, 24, 25, 26, 27, 28, 29, 30, 31, 32, 33, 34, 35, 36, 37, 38] (fun m i => i + m = n ∧ fnd (fun e : Ent => decide (e.kind ≠ 0 ∧ e.x = x ∧ e.y = y)) (l.drop i) i = eAt l x y) (fun i => [(7, iv i)]) (fun _ => []) (n) (0) (⟨by omega, rfl⟩) (by repeat (first | exact trivial | refine ⟨rfl, ?_⟩)) (fun _ h => h.sub sl_) (fun _ => rfl) ?_
  rintro m i j ⟨hi, hf⟩ K hK
  refine c_seq ?_
  refine c_seq ?_
  refine c_reg ?_
  refine s_y (Y_mv) rfl rfl ?_
  refine s_y (Y_mv) rfl rfl ?_
  refine s_y (Y_len rfl rfl Tryz.underlying30) rfl rfl ?_
  refine s_y (Y_lss rfl rfl) rfl rfl ?_
  refine s_nil ?_
  refine q_then ?_
  first | refine c_cond' rfl (fun hc2 => ?_) (fun hc2 => ?_) | refine c_cond rfl (fun hc2 => ?_) (fun hc2 => ?_)
  · skip
    try simp only [nrm_] at hc2
    refine c_skip ?_
    refine q_then ?_
    refine c_seq ?_
    refine c_block ?_
    refine c_seq ?_
    obtain ⟨e, he⟩ := take_lt (show i < l.length by omega)
    have hr := hs.at' Ent.len he
    refine c_reg ?_
    refine s_y (Y_mv) rfl rfl ?_
    refine s_y (Y_mv) rfl rfl ?_
    refine s_y (Y_ia rfl rfl Tryz.underlying30 sz93 rfl (by omega)) rfl rfl ?_
    refine s_y (Y_fa 0 rfl Tryz.underlying93 rfl sz3 rfl) rfl rfl ?_
    refine s_y (yl_ one3) rfl rfl ?_
    refine s_y (Y_neq rfl rfl) rfl rfl ?_
    refine s_y (Y_mv) rfl rfl ?_
    apply s_and 8 [20, 21, 22, 23, 24, 25, 26, 27, 28] 28 (g := 20) rfl rfl
    · intro ht7 hm
      try simp only [nrm_] at ht7
      first | refine s_y (Y_mv) rfl rfl ?_ | refine s_pass rfl rfl ?_
      first | refine s_y (Y_mv) rfl rfl ?_ | refine s_pass rfl rfl ?_
      first | refine s_y (Y_ia rfl rfl Tryz.underlying30 sz93 rfl (by omega)) rfl rfl ?_ | refine s_pass rfl rfl ?_
      first | refine s_y (Y_fa 3 rfl Tryz.underlying93 rfl sz3 rfl) rfl rfl ?_ | refine s_pass rfl rfl ?_
      first | refine s_y (yl_ one3) rfl rfl ?_ | refine s_pass rfl rfl ?_
      first | refine s_y (Y_mv) rfl rfl ?_ | refine s_pass rfl rfl ?_
      first | refine s_y (Y_eql rfl rfl) rfl rfl ?_ | refine s_pass rfl rfl ?_
      refine s_y (Y_pk rfl (Gx.tmp gt_) Gx.const) rfl rfl ?_
      first | exact hm _ ⟨rfl, trivial⟩ rfl | exact QL.sub sl_ (hm _ ⟨rfl, trivial⟩ rfl)
    · intro ht7 hm
      iterate 7 refine s_pass rfl rfl ?_
      refine s_y (Y_pk rfl (Gx.tmp gt_) Gx.const) rfl rfl ?_
      exact hm _ ⟨rfl, trivial⟩ rfl
    intro j28
    refine s_y (Y_mv) rfl rfl ?_
    apply s_and 8 [29, 30, 31, 32, 33, 34, 35, 36, 37] 37 (g := 29) rfl rfl
    · intro ht16 hm
      try simp only [nrm_] at ht16
      first | refine s_y (Y_mv) rfl rfl ?_ | refine s_pass rfl rfl ?_
      first | refine s_y (Y_mv) rfl rfl ?_ | refine s_pass rfl rfl ?_
      first | refine s_y (Y_ia rfl rfl Tryz.underlying30 sz93 rfl (by omega)) rfl rfl ?_ | refine s_pass rfl rfl ?_
      first | refine s_y (Y_fa 4 rfl Tryz.underlying93 rfl sz3 rfl) rfl rfl ?_ | refine s_pass rfl rfl ?_
      first | refine s_y (yl_ one3) rfl rfl ?_ | refine s_pass rfl rfl ?_
      first | refine s_y (Y_mv) rfl rfl ?_ | refine s_pass rfl rfl ?_
      first | refine s_y (Y_eql rfl rfl) rfl rfl ?_ | refine s_pass rfl rfl ?_
      refine s_y (Y_pk rfl (Gx.tmp gt_) Gx.const) rfl rfl ?_
      first | exact hm _ ⟨rfl, trivial⟩ rfl | exact QL.sub sl_ (hm _ ⟨rfl, trivial⟩ rfl)
    · intro ht16 hm
      iterate 7 refine s_pass rfl rfl ?_
      refine s_y (Y_pk rfl (Gx.tmp gt_) Gx.const) rfl rfl ?_
      exact hm _ ⟨rfl, trivial⟩ rfl
    intro j37
    refine s_nil ?_
    refine q_then ?_
    first | refine c_cond' rfl (fun hp => ?_) (fun hp => ?_) | refine c_cond rfl (fun hp => ?_) (fun hp => ?_)
    · skip
      try simp only [nrm_] at hp
      refine c_seq ?_
      refine c_reg ?_
      refine s_y (Y_mv) rfl rfl ?_
      refine s_y (Y_as) rfl rfl ?_
      refine s_nil ?_
      refine q_then ?_
      refine c_ret ?_
      refine q_retG1 rfl gt_ (L' := _) sl_ (⟨by rw [← hf, fnd_here he (by simp only [nrm_]; omega)], rfl⟩)
    · skip
      try simp only [nrm_] at hp
      refine c_skip ?_
      refine q_bn ?_
      refine q_then ?_
      refine c_reg ?_
      refine s_y (Y_mv) rfl rfl ?_
      refine s_y ad_ rfl rfl ?_
      refine s_y (Y_as) rfl rfl ?_
      refine s_nil ?_
      refine hK (m - 1) (i + 1) _ _ (by omega) ⟨by omega, by rw [← fnd_step he (by simp only [nrm_]; omega)]; exact hf⟩ ⟨rfl, trivial⟩ rfl (fun _ h => h)
  · skip
    try simp only [nrm_] at hc2
    refine c_exit ?_
    repeat with_reducible refine q_te ?_
    refine q_exit ?_
    refine q_then ?_
    refine c_seq ?_
    refine c_reg ?_
    refine s_y (Y_asC) rfl rfl ?_
    refine s_nil ?_
    refine q_then ?_
    refine c_ret ?_
    refine q_retG1 rfl gt_ (L' := _) sl_ (⟨by rw [← hf, fnd_end (by omega)], rfl⟩)
set_option maxRecDepth 100000 in
theorem rhero_d {b o n c : Nat} {l : List Ent} (hs : SlB W b o n c 11 (ecells l)) {s : Int} : Does Tryz.prog 54 [.slice (some ⟨b, o, none⟩) n c, iv s] W [] (fun v L => v = iv (eHero l s) ∧ L = []) := by
  have hn : l.length = n := by have := hs.len; rw [ecells_len] at this; omega
  have hb := hs.cap
  have hg := hs.big
  simp only [maxLen] at hg
  refine enter Tryz.func54 rfl rfl rfl (Has.start _) ?_
  refine c_seq ?_
  refine c_reg ?_
  refine s_y (Y_asC) rfl rfl ?_
  refine s_nil ?_
  refine q_then ?_
  refine c_seq ?_
  refine c_seq ?_
  refine c_reg ?_
  refine s_y (Y_asC) rfl rfl ?_
  refine s_nil ?_
  refine q_then ?_
  refine c_block ?_
  refine c_loop [4, 5, 6, 7, 8, 9, 10, 11, 12, 13, 14, 15, 16, 17, 18, 19, 20, 21, 22, 23, 24, 25, 26, 27] (fun m i => i + m = n ∧ fnd (fun e : Ent => decide (e.kind = 1 ∧ e.seat = s)) (l.drop i) i = eHero l s) (fun i => [(5, iv i)]) (fun _ => []) (n) (0) (⟨by omega, rfl⟩) (by repeat (first | exact trivial | refine ⟨rfl, ?_⟩)) (fun _ h => h.sub sl_) (fun _ => rfl) ?_
  rintro m i j ⟨hi, hf⟩ K hK
  refine c_seq ?_
  refine c_seq ?_
  refine c_reg ?_
  refine s_y (Y_mv) rfl rfl ?_
  refine s_y (Y_mv) rfl rfl ?_
  refine s_y (Y_len rfl rfl Tryz.underlying30) rfl rfl ?_
  refine s_y (Y_lss rfl rfl) rfl rfl ?_
  refine s_nil ?_
  refine q_then ?_
  first | refine c_cond' rfl (fun hc2 => ?_) (fun hc2 => ?_) | refine c_cond rfl (fun hc2 => ?_) (fun hc2 => ?_)
  · skip
    try simp only [nrm_] at hc2
    refine c_skip ?_
    refine q_then ?_
    refine c_seq ?_
    refine c_block ?_
    refine c_seq ?_
    obtain ⟨e, he⟩ := take_lt (show i < l.length by omega)
    have hr := hs.at' Ent.len he
    refine c_reg ?_
    refine s_y (Y_mv) rfl rfl ?_
    refine s_y (Y_mv) rfl rfl ?_
    refine s_y (Y_ia rfl rfl Tryz.underlying30 sz93 rfl (by omega)) rfl rfl ?_
    refine s_y (Y_fa 0 rfl Tryz.underlying93 rfl sz3 rfl) rfl rfl ?_
    refine s_y (yl_ one3) rfl rfl ?_
    refine s_y (Y_eql rfl rfl) rfl rfl ?_
    refine s_y (Y_mv) rfl rfl ?_
    apply s_and 8 [18, 19, 20, 21, 22, 23, 24, 25, 26] 26 (g := 18) rfl rfl
    · intro ht7 hm
      try simp only [nrm_] at ht7
      first | refine s_y (Y_mv) rfl rfl ?_ | refine s_pass rfl rfl ?_
      first | refine s_y (Y_mv) rfl rfl ?_ | refine s_pass rfl rfl ?_
      first | refine s_y (Y_ia rfl rfl Tryz.underlying30 sz93 rfl (by omega)) rfl rfl ?_ | refine s_pass rfl rfl ?_
      first | refine s_y (Y_fa 2 rfl Tryz.underlying93 rfl sz3 rfl) rfl rfl ?_ | refine s_pass rfl rfl ?_
      first | refine s_y (yl_ one3) rfl rfl ?_ | refine s_pass rfl rfl ?_
      first | refine s_y (Y_mv) rfl rfl ?_ | refine s_pass rfl rfl ?_
      first | refine s_y (Y_eql rfl rfl) rfl rfl ?_ | refine s_pass rfl rfl ?_
      refine s_y (Y_pk rfl (Gx.tmp gt_) Gx.const) rfl rfl ?_
      first | exact hm _ ⟨rfl, trivial⟩ rfl | exact QL.sub sl_ (hm _ ⟨rfl, trivial⟩ rfl)
    · intro ht7 hm
      iterate 7 refine s_pass rfl rfl ?_
      refine s_y (Y_pk rfl (Gx.tmp gt_) Gx.const) rfl rfl ?_
      exact hm _ ⟨rfl, trivial⟩ rfl
    intro j26
    refine s_nil ?_
    refine q_then ?_
    first | refine c_cond' rfl (fun hp => ?_) (fun hp => ?_) | refine c_cond rfl (fun hp => ?_) (fun hp => ?_)
    · skip
      try simp only [nrm_] at hp
      refine c_seq ?_
      refine c_reg ?_
      refine s_y (Y_mv) rfl rfl ?_
      refine s_y (Y_as) rfl rfl ?_
      refine s_nil ?_
      refine q_then ?_
      refine c_ret ?_
      refine q_retG1 rfl gt_ (L' := _) sl_ (⟨by rw [← hf, fnd_here he (by simp only [nrm_]; omega)], rfl⟩)
    · skip
      try simp only [nrm_] at hp
      refine c_skip ?_
      refine q_bn ?_
      refine q_then ?_
      refine c_reg ?_
      refine s_y (Y_mv) rfl rfl ?_
      refine s_y ad_ rfl rfl ?_
      refine s_y (Y_as) rfl rfl ?_
      refine s_nil ?_
      refine hK (m - 1) (i + 1) _ _ (by omega) ⟨by omega, by rw [← fnd_step he (by simp only [nrm_]; omega)]; exact hf⟩ ⟨rfl, trivial⟩ rfl (fun _ h => h)
  · skip
    try simp only [nrm_] at hc2
    refine c_exit ?_
    repeat with_reducible refine q_te ?_
    refine q_exit ?_
    refine q_then ?_
    refine c_seq ?_
    refine c_reg ?_
    refine s_y (Y_asC) rfl rfl ?_
    refine s_nil ?_
    refine q_then ?_
    refine c_ret ?_
    refine q_retG1 rfl gt_ (L' := _) sl_ (⟨by rw [← hf, fnd_end (by omega)], rfl⟩)
set_option maxRecDepth 100000 in
theorem riin_d {b o n c : Nat} {l : List Itm} (hs : SlB W b o n c 4 (icells l)) {w x y : Int} : Does Tryz.prog 103 [.slice (some ⟨b, o, none⟩) n c, iv w, iv x, iv y] W [] (fun v L => v = iv (iIn l w x y) ∧ L = []) := by
  have hn : l.length = n := by have := hs.len; rw [icells_len] at this; omega
  have hb := hs.cap
  have hg := hs.big
  simp only [maxLen] at hg
  refine enter Tryz.func103 rfl rfl rfl (Has.start _) ?_
  refine c_seq ?_
  refine c_reg ?_
  refine s_y (Y_asC) rfl rfl ?_
  refine s_nil ?_
  refine q_then ?_
  refine c_seq ?_
  refine c_seq ?_
  refine c_reg ?_
  refine s_y (Y_asC) rfl rfl ?_
  refine s_nil ?_
  refine q_then ?_
  refine c_block ?_
  refine c_loop [8, 9, 10, 11, 12, 13, 14, 15, 16, 17, 18, 19, 20, 21, 22, 23, 24, 25, 26, 27, 28, 29, 30, 31, 32, 33, 34, 35, 36, 37, 38, 39, 40, 41] (fun m i => i + m = n ∧ fnd (fun e : Itm => decide (e.whr = w ∧ e.a = x ∧ e.b = y)) (l.drop i) i = iIn l w x y) (fun i => [(9, iv i)]) (fun _ => []) (n) (0) (⟨by omega, rfl⟩) (by repeat (first | exact trivial | refine ⟨rfl, ?_⟩)) (fun _ h => h.sub sl_) (fun _ => rfl) ?_
  rintro m i j ⟨hi, hf⟩ K hK
  refine c_seq ?_
  refine c_seq ?_
  refine c_reg ?_
  refine s_y (Y_mv) rfl rfl ?_
  refine s_y (Y_mv) rfl rfl ?_
  refine s_y (Y_len rfl rfl Tryz.underlying31) rfl rfl ?_
  refine s_y (Y_lss rfl rfl) rfl rfl ?_
  refine s_nil ?_
  refine q_then ?_
  first | refine c_cond' rfl (fun hc2 => ?_) (fun hc2 => ?_) | refine c_cond rfl (fun hc2 => ?_) (fun hc2 => ?_)
  · skip
    try simp only [nrm_] at hc2
    refine c_skip ?_
    refine q_then ?_
    refine c_seq ?_
    refine c_block ?_
    refine c_seq ?_
    obtain ⟨e, he⟩ := take_lt (show i < l.length by omega)
    have hr := hs.at' Itm.len he
    refine c_reg ?_
    refine s_y (Y_mv) rfl rfl ?_
    refine s_y (Y_mv) rfl rfl ?_
    refine s_y (Y_ia rfl rfl Tryz.underlying31 sz98 rfl (by omega)) rfl rfl ?_
    refine s_y (Y_fa 1 rfl Tryz.underlying98 rfl sz3 rfl) rfl rfl ?_
    refine s_y (yl_ one3) rfl rfl ?_
    refine s_y (Y_mv) rfl rfl ?_
    refine s_y (Y_eql rfl rfl) rfl rfl ?_
    refine s_y (Y_mv) rfl rfl ?_
    apply s_and 8 [23, 24, 25, 26, 27, 28, 29, 30, 31] 31 (g := 23) rfl rfl
    · intro ht8 hm
      try simp only [nrm_] at ht8
      first | refine s_y (Y_mv) rfl rfl ?_ | refine s_pass rfl rfl ?_
      first | refine s_y (Y_mv) rfl rfl ?_ | refine s_pass rfl rfl ?_
      first | refine s_y (Y_ia rfl rfl Tryz.underlying31 sz98 rfl (by omega)) rfl rfl ?_ | refine s_pass rfl rfl ?_
      first | refine s_y (Y_fa 2 rfl Tryz.underlying98 rfl sz3 rfl) rfl rfl ?_ | refine s_pass rfl rfl ?_
      first | refine s_y (yl_ one3) rfl rfl ?_ | refine s_pass rfl rfl ?_
      first | refine s_y (Y_mv) rfl rfl ?_ | refine s_pass rfl rfl ?_
      first | refine s_y (Y_eql rfl rfl) rfl rfl ?_ | refine s_pass rfl rfl ?_
      refine s_y (Y_pk rfl (Gx.tmp gt_) Gx.const) rfl rfl ?_
      first | exact hm _ ⟨rfl, trivial⟩ rfl | exact QL.sub sl_ (hm _ ⟨rfl, trivial⟩ rfl)
    · intro ht8 hm
      iterate 7 refine s_pass rfl rfl ?_
      refine s_y (Y_pk rfl (Gx.tmp gt_) Gx.const) rfl rfl ?_
      exact hm _ ⟨rfl, trivial⟩ rfl
    intro j31
    refine s_y (Y_mv) rfl rfl ?_
    apply s_and 8 [32, 33, 34, 35, 36, 37, 38, 39, 40] 40 (g := 32) rfl rfl
    · intro ht17 hm
      try simp only [nrm_] at ht17
      first | refine s_y (Y_mv) rfl rfl ?_ | refine s_pass rfl rfl ?_
      first | refine s_y (Y_mv) rfl rfl ?_ | refine s_pass rfl rfl ?_
      first | refine s_y (Y_ia rfl rfl Tryz.underlying31 sz98 rfl (by omega)) rfl rfl ?_ | refine s_pass rfl rfl ?_
      first | refine s_y (Y_fa 3 rfl Tryz.underlying98 rfl sz3 rfl) rfl rfl ?_ | refine s_pass rfl rfl ?_
      first | refine s_y (yl_ one3) rfl rfl ?_ | refine s_pass rfl rfl ?_
      first | refine s_y (Y_mv) rfl rfl ?_ | refine s_pass rfl rfl ?_
      first | refine s_y (Y_eql rfl rfl) rfl rfl ?_ | refine s_pass rfl rfl ?_
      refine s_y (Y_pk rfl (Gx.tmp gt_) Gx.const) rfl rfl ?_
      first | exact hm _ ⟨rfl, trivial⟩ rfl | exact QL.sub sl_ (hm _ ⟨rfl, trivial⟩ rfl)
    · intro ht17 hm
      iterate 7 refine s_pass rfl rfl ?_
      refine s_y (Y_pk rfl (Gx.tmp gt_) Gx.const) rfl rfl ?_
      exact hm _ ⟨rfl, trivial⟩ rfl
    intro j40
    refine s_nil ?_
    refine q_then ?_
    first | refine c_cond' rfl (fun hp => ?_) (fun hp => ?_) | refine c_cond rfl (fun hp => ?_) (fun hp => ?_)
    · skip
      try simp only [nrm_] at hp
      refine c_seq ?_
      refine c_reg ?_
      refine s_y (Y_mv) rfl rfl ?_
      refine s_y (Y_as) rfl rfl ?_
      refine s_nil ?_
      refine q_then ?_
      refine c_ret ?_
      refine q_retG1 rfl gt_ (L' := _) sl_ (⟨by rw [← hf, fnd_here he (by simp only [nrm_]; omega)], rfl⟩)
    · skip
      try simp only [nrm_] at hp
      refine c_skip ?_
      refine q_bn ?_
      refine q_then ?_
      refine c_reg ?_
      refine s_y (Y_mv) rfl rfl ?_
      refine s_y ad_ rfl rfl ?_
      refine s_y (Y_as) rfl rfl ?_
      refine s_nil ?_
      refine hK (m - 1) (i + 1) _ _ (by omega) ⟨by omega, by rw [← fnd_step he (by simp only [nrm_]; omega)]; exact hf⟩ ⟨rfl, trivial⟩ rfl (fun _ h => h)
  · skip
    try simp only [nrm_] at hc2
    refine c_exit ?_
    repeat with_reducible refine q_te ?_
    refine q_exit ?_
    refine q_then ?_
    refine c_seq ?_
    refine c_reg ?_
    refine s_y (Y_asC) rfl rfl ?_
    refine s_nil ?_
    refine q_then ?_
    refine c_ret ?_
    refine q_retG1 rfl gt_ (L' := _) sl_ (⟨by rw [← hf, fnd_end (by omega)], rfl⟩)
set_option maxRecDepth 100000 in
theorem rfind_d {b o n c : Nat} {l : List UInt8} (hs : SlB W b o n c 1 (l.map bv)) {k : Int} : Does Tryz.prog 55 [.slice (some ⟨b, o, none⟩) n c, iv k] W [] (fun v L => v = iv (findM l k) ∧ L = []) := by
  have hn : l.length = n := by have := hs.len; simpa using this
  have hb := hs.cap
  have hg := hs.big
  simp only [maxLen] at hg
  refine enter Tryz.func55 rfl rfl rfl (Has.start _) ?_
  refine c_seq ?_
  refine c_reg ?_
  refine s_y (Y_asC) rfl rfl ?_
  refine s_nil ?_
  refine q_then ?_
  refine c_seq ?_
  refine c_seq ?_
  refine c_reg ?_
  refine s_y (Y_asC) rfl rfl ?_
  refine s_nil ?_
  refine q_then ?_
  refine c_block ?_
  refine c_loop [4, 5, 6, 7, 8, 9, 10, 11, 12, 13, 14, 15, 16, 17, 18, 19, 20, 21, 22, 23] (fun m i => i + m = min n 384 ∧ fnd (fun x : UInt8 => decide ((x.toNat : Int) = k)) ((l.take 384).drop i) i = findM l k) (fun i => [(5, iv i)]) (fun _ => []) (min n 384) (0) (⟨by omega, rfl⟩) (by repeat (first | exact trivial | refine ⟨rfl, ?_⟩)) (fun _ h => h.sub sl_) (fun _ => rfl) ?_
  rintro m i j ⟨hi, hf⟩ K hK
  refine c_seq ?_
  refine c_seq ?_
  refine c_reg ?_
  refine s_y (Y_mv) rfl rfl ?_
  refine s_y (Y_mv) rfl rfl ?_
  refine s_y (Y_len rfl rfl Tryz.underlying24) rfl rfl ?_
  refine s_y (Y_lss rfl rfl) rfl rfl ?_
  refine s_y (Y_mv) rfl rfl ?_
  apply s_and 3 [10, 11, 12, 13] 13 (g := 10) rfl rfl
  · intro ht5 hm
    try simp only [nrm_] at ht5
    first | refine s_y (Y_mv) rfl rfl ?_ | refine s_pass rfl rfl ?_
    first | refine s_y (Y_lss rfl rfl) rfl rfl ?_ | refine s_pass rfl rfl ?_
    refine s_y (Y_pk rfl (Gx.tmp gt_) Gx.const) rfl rfl ?_
    first | exact hm _ ⟨rfl, trivial⟩ rfl | exact QL.sub sl_ (hm _ ⟨rfl, trivial⟩ rfl)
  · intro ht5 hm
    iterate 2 refine s_pass rfl rfl ?_
    refine s_y (Y_pk rfl (Gx.tmp gt_) Gx.const) rfl rfl ?_
    exact hm _ ⟨rfl, trivial⟩ rfl
  intro j13
  refine s_nil ?_
  refine q_then ?_
  first | refine c_cond' rfl (fun hc2 => ?_) (fun hc2 => ?_) | refine c_cond rfl (fun hc2 => ?_) (fun hc2 => ?_)
  · skip
    try simp only [nrm_] at hc2
    refine c_skip ?_
    refine q_then ?_
    refine c_seq ?_
    refine c_block ?_
    refine c_seq ?_
    obtain ⟨e, he⟩ := take_lt (show i < (l.take 384).length by rw [List.length_take]; omega)
    have he2 : l[i]? = some e := by rw [List.getElem?_take_of_lt (by omega)] at he; exact he
    refine c_reg ?_
    refine s_y (Y_mv) rfl rfl ?_
    refine s_y (Y_mv) rfl rfl ?_
    refine s_y (Y_ia1 rfl rfl Tryz.underlying24 sz5 rfl (by omega)) rfl rfl ?_
    refine s_y (Y_loadR (i := i) rfl one5 hs.ro rfl (by rw [List.getElem?_map, he2]; rfl)) rfl rfl ?_
    refine s_y ((by first | exact Y_conv rfl Tryz.underlying5 Tryz.underlying3 (by first | exact i64_u8 _ | exact u64_u8 _ | exact i64_id (by omega) | exact u64_id (by omega) | exact u8_id (by omega) | exact u32_id (by omega)) | exact Y_convw rfl Tryz.underlying5 Tryz.underlying3)) rfl rfl ?_
    refine s_y (Y_mv) rfl rfl ?_
    refine s_y (Y_eql rfl rfl) rfl rfl ?_
    refine s_nil ?_
    refine q_then ?_
    first | refine c_cond' rfl (fun hp => ?_) (fun hp => ?_) | refine c_cond rfl (fun hp => ?_) (fun hp => ?_)
    · skip
      try simp only [nrm_] at hp
      refine c_seq ?_
      refine c_reg ?_
      refine s_y (Y_mv) rfl rfl ?_
      refine s_y (Y_as) rfl rfl ?_
      refine s_nil ?_
      refine q_then ?_
      refine c_ret ?_
      refine q_retG1 rfl gt_ (L' := _) sl_ (⟨by rw [← hf, fnd_here he (by simp only [nrm_]; omega)], rfl⟩)
    · skip
      try simp only [nrm_] at hp
      refine c_skip ?_
      refine q_bn ?_
      refine q_then ?_
      refine c_reg ?_
      refine s_y (Y_mv) rfl rfl ?_
      refine s_y ad_ rfl rfl ?_
      refine s_y (Y_as) rfl rfl ?_
      refine s_nil ?_
      refine hK (m - 1) (i + 1) _ _ (by omega) ⟨by omega, by rw [← fnd_step he (by simp only [nrm_]; omega)]; exact hf⟩ ⟨rfl, trivial⟩ rfl (fun _ h => h)
  · skip
    try simp only [nrm_] at hc2
    refine c_exit ?_
    repeat with_reducible refine q_te ?_
    refine q_exit ?_
    refine q_then ?_
    refine c_seq ?_
    refine c_reg ?_
    refine s_y (Y_asC) rfl rfl ?_
    refine s_nil ?_
    refine q_then ?_
    refine c_ret ?_
    refine q_retG1 rfl gt_ (L' := _) sl_ (⟨by rw [← hf, fnd_end (by rw [List.length_take]; omega)], rfl⟩)
end
end Go.Proofs.YtcogbkkdccohfaaGreat
namespace Go.Proofs.YtcogbkkdccohfaaGreat
open Go.RowKit Go.Ad Go.Maps
set_option linter.unusedVariables false
set_option linter.unusedSimpArgs false
section
variable {W : World}
set_option maxRecDepth 100000 in
theorem rstats_d {k : Int} : Does Tryz.prog 86 [iv k] W [] (fun v L => v = .agg (statsM k).cells.toArray ∧ L = []) := by
  refine enter Tryz.func86 rfl rfl rfl (Has.start _) ?_
  refine c_seq ?_
  refine c_reg ?_
  refine s_n (N_alloc (z := .agg #[.int .i64 0, .int .i64 0, .int .i64 0, .int .i64 0, .int .i64 0, .int .i64 0, .int .i64 0, .int .i64 0, .int .i64 0, .int .i64 0, .int .i64 0]) (cs := [.int .i64 0, .int .i64 0, .int .i64 0, .int .i64 0, .int .i64 0, .int .i64 0, .int .i64 0, .int .i64 0, .int .i64 0, .int .i64 0, .int .i64 0]) zv93 rfl) rfl rfl (fun b2 _ => ?_)
  refine s_nil ?_
  refine q_then ?_
  refine c_seq ?_
  refine c_reg ?_
  refine s_y (Y_asC) rfl rfl ?_
  refine s_y (Y_asC) rfl rfl ?_
  refine s_y (Y_asC) rfl rfl ?_
  refine s_nil ?_
  refine q_then ?_
  refine c_seq ?_
  refine c_seq ?_
  refine c_reg ?_
  refine s_y (Y_mv) rfl rfl ?_
  refine s_nil ?_
  refine q_then ?_
  refine c_block ?_
  refine c_seq ?_
  refine c_reg ?_
  refine s_y (Y_eql rfl rfl) rfl rfl ?_
  refine s_y (Y_as) rfl rfl ?_
  refine s_nil ?_
  refine q_then ?_
  first | refine c_cond' rfl (fun hc4 => ?_) (fun hc4 => ?_) | refine c_cond rfl (fun hc4 => ?_) (fun hc4 => ?_)
  · skip
    try simp only [nrm_] at hc4
    refine c_reg ?_
    refine s_y (Y_asC) rfl rfl ?_
    refine s_y (Y_asC) rfl rfl ?_
    refine s_y (Y_asC) rfl rfl ?_
    refine s_nil ?_
    refine q_bn ?_
    refine q_then ?_
    refine c_seq ?_
    refine c_reg ?_
    refine s_y (Y_mv) rfl rfl ?_
    refine s_y (Y_mv) rfl rfl ?_
    refine s_y (Y_mv) rfl rfl ?_
    refine s_y (Y_mv) rfl rfl ?_
    refine s_y (Y_mv) rfl rfl ?_
    refine s_y (Y_build (cs := [_, .int .i64 0, .int .i64 0, .int .i64 0, .int .i64 0, _, _, _, _, .int .i64 0, .int .i64 0]) (by repeat (first | exact Gp.nil | apply Gp.const | apply Gp.tmp gt_)) (bld93 _ _ (by first | rfl | (simp; rfl)))) rfl rfl ?_
    refine s_s ((sa_ sz93)) rfl ?_
    refine s_nil ?_
    refine q_then ?_
    refine c_ret ?_
    refine q_ret1c rfl rfl many93 mm_ (by rfl) (L' := _) sl_ (⟨by first | (obtain rfl := hc4; rfl) | (obtain rfl := hc6; rfl) | (obtain rfl := hc8; rfl) | (obtain rfl := hc10; rfl), rfl⟩)
  · skip
    try simp only [nrm_] at hc4
    refine c_seq ?_
    refine c_reg ?_
    refine s_y (Y_eql rfl rfl) rfl rfl ?_
    refine s_y (Y_as) rfl rfl ?_
    refine s_nil ?_
    refine q_then ?_
    first | refine c_cond' rfl (fun hc6 => ?_) (fun hc6 => ?_) | refine c_cond rfl (fun hc6 => ?_) (fun hc6 => ?_)
    · skip
      try simp only [nrm_] at hc6
      refine c_reg ?_
      refine s_y (Y_asC) rfl rfl ?_
      refine s_y (Y_asC) rfl rfl ?_
      refine s_nil ?_
      refine q_bn ?_
      refine q_then ?_
      refine c_seq ?_
      refine c_reg ?_
      refine s_y (Y_mv) rfl rfl ?_
      refine s_y (Y_mv) rfl rfl ?_
      refine s_y (Y_mv) rfl rfl ?_
      refine s_y (Y_mv) rfl rfl ?_
      refine s_y (Y_mv) rfl rfl ?_
      refine s_y (Y_build (cs := [_, .int .i64 0, .int .i64 0, .int .i64 0, .int .i64 0, _, _, _, _, .int .i64 0, .int .i64 0]) (by repeat (first | exact Gp.nil | apply Gp.const | apply Gp.tmp gt_)) (bld93 _ _ (by first | rfl | (simp; rfl)))) rfl rfl ?_
      refine s_s ((sa_ sz93)) rfl ?_
      refine s_nil ?_
      refine q_then ?_
      refine c_ret ?_
      refine q_ret1c rfl rfl many93 mm_ (by rfl) (L' := _) sl_ (⟨by first | (obtain rfl := hc4; rfl) | (obtain rfl := hc6; rfl) | (obtain rfl := hc8; rfl) | (obtain rfl := hc10; rfl), rfl⟩)
    · skip
      try simp only [nrm_] at hc6
      refine c_seq ?_
      refine c_reg ?_
      refine s_y (Y_eql rfl rfl) rfl rfl ?_
      refine s_y (Y_as) rfl rfl ?_
      refine s_nil ?_
      refine q_then ?_
      first | refine c_cond' rfl (fun hc8 => ?_) (fun hc8 => ?_) | refine c_cond rfl (fun hc8 => ?_) (fun hc8 => ?_)
      · skip
        try simp only [nrm_] at hc8
        refine c_reg ?_
        refine s_y (Y_asC) rfl rfl ?_
        refine s_y (Y_asC) rfl rfl ?_
        refine s_y (Y_asC) rfl rfl ?_
        refine s_nil ?_
        refine q_bn ?_
        refine q_then ?_
        refine c_seq ?_
        refine c_reg ?_
        refine s_y (Y_mv) rfl rfl ?_
        refine s_y (Y_mv) rfl rfl ?_
        refine s_y (Y_mv) rfl rfl ?_
        refine s_y (Y_mv) rfl rfl ?_
        refine s_y (Y_mv) rfl rfl ?_
        refine s_y (Y_build (cs := [_, .int .i64 0, .int .i64 0, .int .i64 0, .int .i64 0, _, _, _, _, .int .i64 0, .int .i64 0]) (by repeat (first | exact Gp.nil | apply Gp.const | apply Gp.tmp gt_)) (bld93 _ _ (by first | rfl | (simp; rfl)))) rfl rfl ?_
        refine s_s ((sa_ sz93)) rfl ?_
        refine s_nil ?_
        refine q_then ?_
        refine c_ret ?_
        refine q_ret1c rfl rfl many93 mm_ (by rfl) (L' := _) sl_ (⟨by first | (obtain rfl := hc4; rfl) | (obtain rfl := hc6; rfl) | (obtain rfl := hc8; rfl) | (obtain rfl := hc10; rfl), rfl⟩)
      · skip
        try simp only [nrm_] at hc8
        refine c_seq ?_
        refine c_reg ?_
        refine s_y (Y_eql rfl rfl) rfl rfl ?_
        refine s_y (Y_as) rfl rfl ?_
        refine s_nil ?_
        refine q_then ?_
        first | refine c_cond' rfl (fun hc10 => ?_) (fun hc10 => ?_) | refine c_cond rfl (fun hc10 => ?_) (fun hc10 => ?_)
        · skip
          try simp only [nrm_] at hc10
          refine c_reg ?_
          refine s_y (Y_asC) rfl rfl ?_
          refine s_y (Y_asC) rfl rfl ?_
          refine s_nil ?_
          refine q_bn ?_
          refine q_then ?_
          refine c_seq ?_
          refine c_reg ?_
          refine s_y (Y_mv) rfl rfl ?_
          refine s_y (Y_mv) rfl rfl ?_
          refine s_y (Y_mv) rfl rfl ?_
          refine s_y (Y_mv) rfl rfl ?_
          refine s_y (Y_mv) rfl rfl ?_
          refine s_y (Y_build (cs := [_, .int .i64 0, .int .i64 0, .int .i64 0, .int .i64 0, _, _, _, _, .int .i64 0, .int .i64 0]) (by repeat (first | exact Gp.nil | apply Gp.const | apply Gp.tmp gt_)) (bld93 _ _ (by first | rfl | (simp; rfl)))) rfl rfl ?_
          refine s_s ((sa_ sz93)) rfl ?_
          refine s_nil ?_
          refine q_then ?_
          refine c_ret ?_
          refine q_ret1c rfl rfl many93 mm_ (by rfl) (L' := _) sl_ (⟨by first | (obtain rfl := hc4; rfl) | (obtain rfl := hc6; rfl) | (obtain rfl := hc8; rfl) | (obtain rfl := hc10; rfl), rfl⟩)
        · skip
          try simp only [nrm_] at hc10
          refine c_seq ?_
          refine c_reg ?_
          refine s_y (Y_build (cs := [.int .i64 0, .int .i64 0, .int .i64 0, .int .i64 0, .int .i64 0, .int .i64 0, .int .i64 0, .int .i64 0, .int .i64 0, .int .i64 0, .int .i64 0]) (by repeat (first | exact Gp.nil | apply Gp.const | apply Gp.tmp gt_)) (bld93 _ _ (by first | rfl | (simp; rfl)))) rfl rfl ?_
          refine s_s ((sa_ sz93)) rfl ?_
          refine s_nil ?_
          refine q_then ?_
          refine c_ret ?_
          refine q_ret1c rfl rfl many93 mm_ (by rfl) (L' := _) sl_ (⟨by rw [show statsM k = Ent.zero by unfold statsM; rw [if_neg hc4, if_neg hc6, if_neg hc8, if_neg hc10]]; rfl, rfl⟩)
inductive SpawnP (l : List Ent) (e : Ent) : Value → List Bk → Prop
  | kind (h : ¬ (1 ≤ e.kind ∧ e.kind ≤ 4)) : SpawnP l e (.tuple #[.slice none 0 0, iv 0, iv 3]) []
  | full (h : 1 ≤ e.kind ∧ e.kind ≤ 4) (hf : freeRow l = -1) : SpawnP l e (.tuple #[.slice none 0 0, iv 0, iv 5]) []
  | ok {i g cap : Nat} {a : Ent} (h : 1 ≤ e.kind ∧ e.kind ≤ 4) (hf : freeRow l = i) (ha : l[i]? = some a) (hc : l.length ≤ cap) : SpawnP l e (.tuple #[.slice (some ⟨g, 0, none⟩) l.length cap, iv i, iv 0]) [⟨g, 93, 11, cap, ecells (l.set i { e with gen := genOf a.gen })⟩]
set_option maxRecDepth 100000 in
theorem rspawn_d {b o n c : Nat} {l : List Ent} (hs : SlB W b o n c 11 (ecells l)) (h1 : n ≤ 100000) (e : Ent) : Does Tryz.prog 98 [.slice (some ⟨b, o, none⟩) n c, .agg e.cells.toArray] W [] (SpawnP l e) := by
  obtain rfl : n = l.length := by have := hs.len; rw [ecells_len] at this; omega
  have hb := hs.cap
  refine enter Tryz.func98 rfl rfl rfl (Has.start _) ?_
  refine c_seq ?_
  refine c_reg ?_
  refine s_n (N_box rfl) rfl rfl (fun b3 _ => ?_)
  refine s_y (Y_asC) rfl rfl ?_
  refine s_y (Y_asC) rfl rfl ?_
  refine s_y (Y_asC) rfl rfl ?_
  refine s_nil ?_
  refine q_then ?_
  refine c_seq ?_
  refine c_seq ?_
  refine c_reg ?_
  refine s_y (Y_fa 0 rfl Tryz.underlying93 rfl sz3 rfl) rfl rfl ?_
  refine s_y (yl_ one3) rfl rfl ?_
  refine s_y (Y_lss rfl rfl) rfl rfl ?_
  refine s_y (Y_mv) rfl rfl ?_
  apply s_or 4 [12, 13, 14, 15, 16] 16 (g := 12) rfl rfl
  · intro ht4 hm
    try simp only [nrm_] at ht4
    first | refine s_y (Y_fa 0 rfl Tryz.underlying93 rfl sz3 rfl) rfl rfl ?_ | refine s_pass rfl rfl ?_
    first | refine s_y (yl_ one3) rfl rfl ?_ | refine s_pass rfl rfl ?_
    first | refine s_y (Y_gtr rfl rfl) rfl rfl ?_ | refine s_pass rfl rfl ?_
    refine s_y (Y_pk rfl Gx.const (Gx.tmp gt_)) rfl rfl ?_
    first | exact hm _ ⟨rfl, trivial⟩ rfl | exact QL.sub sl_ (hm _ ⟨rfl, trivial⟩ rfl)
  · intro ht4 hm
    iterate 3 refine s_pass rfl rfl ?_
    refine s_y (Y_pk rfl Gx.const (Gx.tmp gt_)) rfl rfl ?_
    exact hm _ ⟨rfl, trivial⟩ rfl
  intro j16
  refine s_nil ?_
  refine q_then ?_
  first | refine c_cond' rfl (fun hc1 => ?_) (fun hc1 => ?_) | refine c_cond rfl (fun hc1 => ?_) (fun hc1 => ?_)
  · skip
    try simp only [nrm_] at hc1
    refine c_seq ?_
    refine c_reg ?_
    refine s_y (Y_asC) rfl rfl ?_
    refine s_y (Y_asC) rfl rfl ?_
    refine s_y (Y_asC) rfl rfl ?_
    refine s_nil ?_
    refine q_then ?_
    refine c_ret ?_
    refine q_retG3 rfl gt_ gt_ gt_ (L' := _) sl_ (.kind (by omega))
  · skip
    try simp only [nrm_] at hc1
    refine c_skip ?_
    refine q_then ?_
    refine c_seq ?_
    refine c_seq ?_
    refine c_reg ?_
    refine s_y (Y_asC) rfl rfl ?_
    refine s_nil ?_
    refine q_then ?_
    refine c_block ?_
    refine c_loop [4, 5, 6, 7, 8, 17, 18, 19, 20, 21, 22, 23, 24, 25, 26, 27, 28, 29, 30, 31, 32, 33, 34, 35, 36, 37, 38, 39, 40, 41, 42, 43, 44, 45, 46, 47, 48, 49] (fun m i => i + m = min l.length 32 ∧ fnd (fun e : Ent => decide (e.kind = 0)) ((l.take 32).drop i) i = freeRow l) (fun i => [(7, iv i)]) (fun _ => [⟨b3, 93, 11, 1, e.cells⟩]) (min l.length 32) (0) (⟨by omega, rfl⟩) (by repeat (first | exact trivial | refine ⟨rfl, ?_⟩)) (fun _ h => h.sub sl_) (fun _ => rfl) ?_
    rintro m i j ⟨hi, hf⟩ K hK
    refine c_seq ?_
    refine c_seq ?_
    refine c_reg ?_
    refine s_y (Y_mv) rfl rfl ?_
    refine s_y (Y_mv) rfl rfl ?_
    refine s_y (Y_len rfl rfl Tryz.underlying30) rfl rfl ?_
    refine s_y (Y_lss rfl rfl) rfl rfl ?_
    refine s_y (Y_mv) rfl rfl ?_
    apply s_and 3 [21, 22, 23, 24] 24 (g := 21) rfl rfl
    · intro ht5 hm
      try simp only [nrm_] at ht5
      first | refine s_y (Y_mv) rfl rfl ?_ | refine s_pass rfl rfl ?_
      first | refine s_y (Y_lss rfl rfl) rfl rfl ?_ | refine s_pass rfl rfl ?_
      refine s_y (Y_pk rfl (Gx.tmp gt_) Gx.const) rfl rfl ?_
      first | exact hm _ ⟨rfl, trivial⟩ rfl | exact QL.sub sl_ (hm _ ⟨rfl, trivial⟩ rfl)
    · intro ht5 hm
      iterate 2 refine s_pass rfl rfl ?_
      refine s_y (Y_pk rfl (Gx.tmp gt_) Gx.const) rfl rfl ?_
      exact hm _ ⟨rfl, trivial⟩ rfl
    intro j24
    refine s_nil ?_
    refine q_then ?_
    first | refine c_cond' rfl (fun hc4 => ?_) (fun hc4 => ?_) | refine c_cond rfl (fun hc4 => ?_) (fun hc4 => ?_)
    · skip
      try simp only [nrm_] at hc4
      refine c_skip ?_
      refine q_then ?_
      refine c_seq ?_
      refine c_block ?_
      refine c_seq ?_
      obtain ⟨a, ha⟩ := take_lt (show i < (l.take 32).length by rw [List.length_take]; omega)
      have he : l[i]? = some a := by rw [List.getElem?_take_of_lt (by omega)] at ha; exact ha
      have hr := hs.at' Ent.len he
      refine c_reg ?_
      refine s_y (Y_mv) rfl rfl ?_
      refine s_y (Y_mv) rfl rfl ?_
      refine s_y (Y_ia rfl rfl Tryz.underlying30 sz93 rfl (by omega)) rfl rfl ?_
      refine s_y (Y_fa 0 rfl Tryz.underlying93 rfl sz3 rfl) rfl rfl ?_
      refine s_y (yl_ one3) rfl rfl ?_
      refine s_y (Y_eql rfl rfl) rfl rfl ?_
      refine s_nil ?_
      refine q_then ?_
      first | refine c_cond' rfl (fun hp => ?_) (fun hp => ?_) | refine c_cond rfl (fun hp => ?_) (fun hp => ?_)
      · skip
        try simp only [nrm_] at hp
        refine c_seq ?_
        refine c_reg ?_
        refine s_n (N_bs0 rfl Tryz.underlying30 sz93) rfl rfl (fun b33 _ => ?_)
        refine s_y (Y_mv) rfl rfl ?_
        refine s_n (N_appE (news := ecells l) rfl rfl Tryz.underlying30 inf93 rfl (by omega) se_ hs.src hs.len (one_e l) (by omega) (by omega)) rfl rfl (fun ⟨g35, cp35⟩ hc35 => ?_)
        refine s_y (Y_as) rfl rfl ?_
        refine s_nil ?_
        refine q_then ?_
        refine c_seq ?_
        refine c_reg ?_
        refine s_y (Y_mv) rfl rfl ?_
        refine s_y (Y_mv) rfl rfl ?_
        refine s_y (Y_ia rfl rfl Tryz.underlying30 sz93 rfl (by omega)) rfl rfl ?_
        refine s_y (Y_fa 1 rfl Tryz.underlying93 rfl sz3 rfl) rfl rfl ?_
        refine s_y (yl_ one3) rfl rfl ?_
        refine s_y ad_ rfl rfl ?_
        refine s_y ((by first | exact Y_rem rfl rfl (by omega) | exact Y_remw rfl rfl (by omega))) rfl rfl ?_
        refine s_y (Y_fa 1 rfl Tryz.underlying93 rfl sz3 rfl) rfl rfl ?_
        refine s_s (S_st (cs' := ({ e with gen := genOf a.gen } : Ent).cells) rfl gt_ sz3 (by rfl) up_ (by rfl) (by rw [Ent.len]; decide)) rfl ?_
        refine s_nil ?_
        refine q_then ?_
        refine c_seq ?_
        refine c_reg ?_
        refine s_y (Y_mv) rfl rfl ?_
        refine s_y (Y_mv) rfl rfl ?_
        refine s_y (ya_ many93) rfl rfl ?_
        refine s_y (Y_ia rfl rfl Tryz.underlying30 sz93 rfl (by omega)) rfl rfl ?_
        refine s_s (S_storeN (cs' := ecells (l.set i { e with gen := genOf a.gen })) rfl rfl sz93 (by rfl) (by rfl) up_ (eall _ (by omega)) (by simp [ecells_len, Ent.cells]; omega)) rfl ?_
        refine s_nil ?_
        refine q_then ?_
        refine c_seq ?_
        refine c_reg ?_
        refine s_y (Y_mv) rfl rfl ?_
        refine s_y (Y_mv) rfl rfl ?_
        refine s_y (Y_as) rfl rfl ?_
        refine s_y (Y_as) rfl rfl ?_
        refine s_y (Y_asC) rfl rfl ?_
        refine s_nil ?_
        refine q_then ?_
        refine c_ret ?_
        refine q_retG3 rfl gt_ gt_ gt_ (L' := _) sl_ (.ok (g := g35) (cap := cp35) (by omega) (by rw [← hf, fnd_here ha (by simp only [nrm_]; omega)]) he (by omega))
      · skip
        try simp only [nrm_] at hp
        refine c_skip ?_
        refine q_bn ?_
        refine q_then ?_
        refine c_reg ?_
        refine s_y (Y_mv) rfl rfl ?_
        refine s_y ad_ rfl rfl ?_
        refine s_y (Y_as) rfl rfl ?_
        refine s_nil ?_
        refine hK (m - 1) (i + 1) _ _ (by omega) ⟨by omega, by rw [← fnd_step ha (by simp only [nrm_]; omega)]; exact hf⟩ ⟨rfl, trivial⟩ rfl (fun _ h => h)
    · skip
      try simp only [nrm_] at hc4
      refine c_exit ?_
      repeat with_reducible refine q_te ?_
      refine q_exit ?_
      refine q_then ?_
      refine c_seq ?_
      refine c_reg ?_
      refine s_y (Y_asC) rfl rfl ?_
      refine s_y (Y_asC) rfl rfl ?_
      refine s_y (Y_asC) rfl rfl ?_
      refine s_nil ?_
      refine q_then ?_
      refine c_ret ?_
      refine q_retG3 rfl gt_ gt_ gt_ (L' := _) sl_ (.full (by omega) (by rw [← hf, fnd_end (by rw [List.length_take]; omega)]))
inductive EntsP (b o n c : Nat) (l l' : List Ent) : Value → List Bk → Prop
  | old (h : l' = l) : EntsP b o n c l l' (.slice (some ⟨b, o, none⟩) n c) []
  | new {g cap : Nat} (hc : l'.length ≤ cap) (hl : l'.length = n) : EntsP b o n c l l' (.slice (some ⟨g, 0, none⟩) n cap) [⟨g, 93, 11, cap, ecells l'⟩]
def spawnedM (l : List Ent) (e : Ent) : List Ent :=
  if 1 ≤ e.kind ∧ e.kind ≤ 4 ∧ 0 ≤ freeRow l then l.set (freeRow l).toNat { e with gen := genOf (l.getD (freeRow l).toNat Ent.zero).gen } else l
theorem spawnedM_len (l : List Ent) (e : Ent) : (spawnedM l e).length = l.length := by unfold spawnedM; split <;> simp
theorem SpawnP.open {l : List Ent} {e : Ent} {v : Value} {L : List Bk} (h : SpawnP l e v L) : ∃ sv ix er, v = .tuple #[sv, iv ix, iv er] ∧ ((er ≠ 0 ∧ spawnedM l e = l ∧ L = []) ∨ (er = 0 ∧ ∃ (g cap r : Nat), ix = r ∧ freeRow l = r ∧ l.length ≤ cap ∧ sv = .slice (some ⟨g, 0, none⟩) l.length cap ∧ L = [⟨g, 93, 11, cap, ecells (spawnedM l e)⟩])) := by
  cases h with
  | kind h => exact ⟨_, _, _, rfl, .inl ⟨by decide, by unfold spawnedM; rw [if_neg]; rintro ⟨h1, h2, _⟩; exact h ⟨h1, h2⟩, rfl⟩⟩
  | full h hf => exact ⟨_, _, _, rfl, .inl ⟨by decide, by unfold spawnedM; rw [if_neg]; rintro ⟨_, _, h3⟩; omega, rfl⟩⟩
  | @ok i g cap a h hf ha hc =>
    refine ⟨_, _, _, rfl, .inr ⟨rfl, g, cap, i, rfl, hf, hc, rfl, ?_⟩⟩
    unfold spawnedM
    rw [if_pos ⟨h.1, h.2, by omega⟩, hf, Int.toNat_natCast, List.getD_eq_getElem?_getD, ha]
    rfl
set_option maxRecDepth 100000 in
theorem rspawned_d {b o n c : Nat} {l : List Ent} (hs : SlB W b o n c 11 (ecells l)) (h1 : n ≤ 100000) (e : Ent) : Does Tryz.prog 88 [.slice (some ⟨b, o, none⟩) n c, .agg e.cells.toArray] W [] (EntsP b o n c l (spawnedM l e)) := by
  obtain rfl : n = l.length := by have := hs.len; rw [ecells_len] at this; omega
  refine enter Tryz.func88 rfl rfl rfl (Has.start _) ?_
  refine c_seq ?_
  refine c_reg ?_
  refine s_n (N_box rfl) rfl rfl (fun b3 _ => ?_)
  refine s_y (Y_asC) rfl rfl ?_
  refine s_nil ?_
  refine q_then ?_
  refine c_seq ?_
  refine c_reg ?_
  refine s_y (Y_mv) rfl rfl ?_
  refine s_y (ya_ many93) rfl rfl ?_
  refine s_c (En_call (fun _ => rfl) Tryz.func98 rfl (by kernel_rfl) rfl) (fun w hH => rspawn_d (hs.has hH) h1 e) rfl rfl ?_
  rintro _ _ hP0
  rename_i lP
  obtain ⟨sv, ix, er, rfl, hP⟩ := hP0.open
  clear hP0
  refine s_y (Y_mv) rfl rfl ?_
  refine s_y (Y_extract rfl rfl) rfl rfl ?_
  refine s_y (Y_extract rfl rfl) rfl rfl ?_
  refine s_y (Y_extract rfl rfl) rfl rfl ?_
  refine s_y (Y_as) rfl rfl ?_
  refine s_y (Y_as) rfl rfl ?_
  refine s_y (Y_as) rfl rfl ?_
  refine s_nil ?_
  refine q_then ?_
  refine c_seq ?_
  refine c_seq ?_
  refine c_reg ?_
  refine s_y (Y_mv) rfl rfl ?_
  refine s_y (Y_neq rfl rfl) rfl rfl ?_
  refine s_nil ?_
  refine q_then ?_
  first | refine c_cond' rfl (fun hc2 => ?_) (fun hc2 => ?_) | refine c_cond rfl (fun hc2 => ?_) (fun hc2 => ?_)
  · skip
    try simp only [nrm_] at hc2
    refine c_seq ?_
    refine c_reg ?_
    refine s_y (Y_mv) rfl rfl ?_
    refine s_y (Y_as) rfl rfl ?_
    refine s_nil ?_
    refine q_then ?_
    refine c_ret ?_
    rcases hP with ⟨h, h2, rfl⟩ | ⟨h, _⟩
    rotate_left
    · exact absurd h hc2
    refine q_retG1 rfl gt_ (L' := []) sl_ (.old h2)
  · skip
    try simp only [nrm_] at hc2
    refine c_skip ?_
    refine q_then ?_
    refine c_seq ?_
    refine c_reg ?_
    refine s_y (Y_mv) rfl rfl ?_
    refine s_y (Y_as) rfl rfl ?_
    refine s_nil ?_
    refine q_then ?_
    refine c_ret ?_
    rcases hP with ⟨h, _⟩ | ⟨h0, g, cap, r, h1, h2, h3, rfl, rfl⟩
    · exact absurd hc2 h
    refine q_retG1 rfl gt_ (L' := [_]) sl_ (.new (by rw [spawnedM_len]; exact h3) (spawnedM_len _ _))
end
end Go.Proofs.YtcogbkkdccohfaaGreat
namespace Go.Proofs.YtcogbkkdccohfaaGreat
open Go.RowKit Go.Ad Go.Maps
set_option linter.unusedVariables false
set_option linter.unusedSimpArgs false
abbrev cB (b cap : Nat) (cells : List UInt8) : Bk := ⟨b, 5, 1, cap, cells.map bv⟩
theorem bv_set (cells : List UInt8) (k : Nat) (x : UInt8) : (cells.map bv).set k (bv x) = (cells.set k x).map bv := by rw [List.map_set]
section
variable {W : World}
set_option maxRecDepth 100000 in
theorem rtoward_d {a b : Int} (ha : -1000 ≤ a ∧ a ≤ 1000) : Does Tryz.prog 120 [iv a, iv b] W [] (fun v L => v = iv (towardM a b) ∧ L = []) := by
  refine enter Tryz.func120 rfl rfl rfl (Has.start _) ?_
  refine c_seq ?_
  refine c_reg ?_
  refine s_y (Y_asC) rfl rfl ?_
  refine s_nil ?_
  refine q_then ?_
  refine c_seq ?_
  refine c_seq ?_
  refine c_reg ?_
  refine s_y (Y_mv) rfl rfl ?_
  refine s_y (Y_mv) rfl rfl ?_
  refine s_y (Y_lss rfl rfl) rfl rfl ?_
  refine s_nil ?_
  refine q_then ?_
  first | refine c_cond' rfl (fun hc1 => ?_) (fun hc1 => ?_) | refine c_cond rfl (fun hc1 => ?_) (fun hc1 => ?_)
  · skip
    try simp only [nrm_] at hc1
    refine c_seq ?_
    refine c_reg ?_
    refine s_y (Y_mv) rfl rfl ?_
    refine s_y ad_ rfl rfl ?_
    refine s_y (Y_as) rfl rfl ?_
    refine s_nil ?_
    refine q_then ?_
    refine c_ret ?_
    refine q_retG1 rfl gt_ (L' := _) sl_ (⟨by rw [towardM, if_pos hc1], rfl⟩)
  · skip
    try simp only [nrm_] at hc1
    refine c_skip ?_
    refine q_then ?_
    refine c_seq ?_
    refine c_reg ?_
    refine s_y (Y_mv) rfl rfl ?_
    refine s_y su_ rfl rfl ?_
    refine s_y (Y_as) rfl rfl ?_
    refine s_nil ?_
    refine q_then ?_
    refine c_ret ?_
    refine q_retG1 rfl gt_ (L' := _) sl_ (⟨by rw [towardM, if_neg hc1], rfl⟩)
set_option maxRecDepth 100000 in
theorem rdig_d {b cap : Nat} {cells : List UInt8} {x y : Int} {door : Bool} (hx : (cB b cap cells).holds W) (hl : cells.length = 384) (hc : 384 ≤ cap) (hxy : 0 ≤ x ∧ x < 24 ∧ 0 ≤ y ∧ y < 16) : Does Tryz.prog 119 [.slice (some ⟨b, 0, none⟩) 384 cap, iv x, iv y, .bool door] W [b] (fun v L => v = .bool (digM cells x y door).2 ∧ L = [cB b cap (digM cells x y door).1]) := by
  obtain ⟨k, hk⟩ : ∃ k : Nat, (k : Int) = y * 24 + x := ⟨(y * 24 + x).toNat, by omega⟩
  obtain ⟨u, hu⟩ := take_lt (show k < cells.length by omega)
  have hkt : (y * 24 + x).toNat = k := by omega
  have hb : byteAt cells (y * 24 + x).toNat = u.toNat := by rw [hkt, byteAt_of hu]
  have hkl : 0 + k < (List.map bv cells).length := by simp; omega
  have hv : (List.map bv cells)[0 + k]? = some (bv u) := by rw [Nat.zero_add, List.getElem?_map, hu]; rfl
  refine enter Tryz.func119 rfl rfl rfl (Has.start1 hx) ?_
  refine c_seq ?_
  refine c_reg ?_
  refine s_y (Y_asC) rfl rfl ?_
  refine s_nil ?_
  refine q_then ?_
  refine c_seq ?_
  refine c_reg ?_
  refine s_y (Y_mv) rfl rfl ?_
  refine s_y mu_ rfl rfl ?_
  refine s_y (Y_mv) rfl rfl ?_
  refine s_y ((Y_add rfl rfl (by omega)).num hk.symm) rfl rfl ?_
  refine s_y (Y_as) rfl rfl ?_
  refine s_nil ?_
  refine q_then ?_
  refine c_seq ?_
  refine c_seq ?_
  refine c_reg ?_
  refine s_y (Y_mv) rfl rfl ?_
  refine s_y (Y_mv) rfl rfl ?_
  refine s_y (Y_ia1 rfl rfl Tryz.underlying24 sz5 rfl (by omega)) rfl rfl ?_
  refine s_y (Y_load (v := bv u) rfl one5 mm_ hv) rfl rfl ?_
  refine s_y (Y_neq rfl rfl) rfl rfl ?_
  refine s_nil ?_
  refine q_then ?_
  first | refine c_cond' rfl (fun hc2 => ?_) (fun hc2 => ?_) | refine c_cond rfl (fun hc2 => ?_) (fun hc2 => ?_)
  · skip
    try simp only [nrm_] at hc2
    refine c_seq ?_
    refine c_reg ?_
    refine s_y (Y_mv) rfl rfl ?_
    refine s_y (Y_as) rfl rfl ?_
    refine s_nil ?_
    refine q_then ?_
    refine c_ret ?_
    refine q_retG1 rfl gt_ (L' := _) sl_ (⟨by unfold digM; rw [if_pos (by rw [hb]; exact hc2)], by unfold digM; rw [if_pos (by rw [hb]; exact hc2)]⟩)
  · skip
    try simp only [nrm_] at hc2
    refine c_skip ?_
    refine q_then ?_
    refine c_seq ?_
    refine c_reg ?_
    refine s_y (Y_mv) rfl rfl ?_
    refine s_y (Y_mv) rfl rfl ?_
    refine s_y (Y_ia1 rfl rfl Tryz.underlying24 sz5 rfl (by omega)) rfl rfl ?_
    refine s_s (S_stC (cs' := (cells.set k 1).map bv) rfl sz5 (by rfl) up_ (by rw [Nat.zero_add]; exact bv_set cells k 1) (by omega)) rfl ?_
    refine s_nil ?_
    refine q_then ?_
    refine c_seq ?_
    refine c_seq ?_
    refine c_reg ?_
    refine s_y (Y_mv) rfl rfl ?_
    refine s_y (Y_not rfl) rfl rfl ?_
    refine s_nil ?_
    refine q_then ?_
    refine c_cond (t := (!door)) rfl (fun hd => ?_) (fun hd => ?_)
    · skip
      try simp only [nrm_] at hd
      refine c_reg ?_
      refine s_y (Y_mv) rfl rfl ?_
      refine s_y (Y_mv) rfl rfl ?_
      refine s_y (Y_ia1 rfl rfl Tryz.underlying24 sz5 rfl (by omega)) rfl rfl ?_
      refine s_s (S_stC (cs' := (cells.set k 2).map bv) rfl sz5 (by rfl) up_ (by rw [Nat.zero_add, show Value.int IntKind.u8 2 = bv 2 from rfl, bv_set, List.set_set]) (by simp; omega)) rfl ?_
      refine s_nil ?_
      refine q_then ?_
      refine c_seq ?_
      refine c_reg ?_
      refine s_y (Y_asC) rfl rfl ?_
      refine s_nil ?_
      refine q_then ?_
      refine c_ret ?_
      refine q_retG1 rfl gt_ (L' := _) sl_ (⟨by unfold digM; rw [if_neg (by rw [hb]; simpa using hc2)], by unfold digM; rw [if_neg (by rw [hb]; simpa using hc2), hkt]; simp [hd]⟩)
    · skip
      try simp only [nrm_] at hd
      refine c_skip ?_
      refine q_then ?_
      refine c_seq ?_
      refine c_reg ?_
      refine s_y (Y_asC) rfl rfl ?_
      refine s_nil ?_
      refine q_then ?_
      refine c_ret ?_
      refine q_retG1 rfl gt_ (L' := _) sl_ (⟨by unfold digM; rw [if_neg (by rw [hb]; simpa using hc2)], by unfold digM; rw [if_neg (by rw [hb]; simpa using hc2), hkt]; simp [hd]⟩)
end
end Go.Proofs.YtcogbkkdccohfaaGreat
