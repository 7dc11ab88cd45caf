/- slices.Clone at ints and records; wire.twin. -/
import Derived.Test.YtphmdhbhoakcaaaWireF
namespace Go.Proofs.Ytphmdhbhoakcaaa
open Go.RowKit Go.Ad Go.Maps
theorem infoInt : (Try.prog.info? 3).map (fun i => (i.zero, i.size, i.bytes)) = some (some (.int .i64 0), 1, 8) := by kernel_rfl
theorem infoRec : (Try.prog.info? 37).map (fun i => (i.zero, i.size, i.bytes)) = some (some (.agg #[.int .i64 0, .int .i64 0, .int .i64 0, .int .i64 0, .int .i64 0]), 5, 40) := by kernel_rfl
theorem ex_bin {P : Program} {w : World} {a : Act} {o : Oper} {op : BinOp} {t t' : TypeId} {x y : Operand} {v1 v2 v : Value} (ho : o.op = .binOp op t x y t') (hx : a.eval x = v1) (hy : a.eval y = v2) (hg : (eqGuard op t x y v1 v2).run P w = .ok () w) (h : (binOp op t v1 v2).run P w = .ok v w) :
    (execOp a.eval o).run P w = .ok (.value v) w := by
  unfold execOp
  simp only [ho, hx, hy, Sem.run_bind, hg, h, Result.andThen_ok, Sem.run_pure]
theorem nilInts (w : World) : (binOp .eql 24 (.slice none 0 0) (.slice none 0 0)).run Try.prog w = .ok (.bool true) w := by kernel_rfl
theorem someInts (ad : Addr) (l c : Nat) (w : World) : (binOp .eql 24 (.slice (some ad) l c) (.slice none 0 0)).run Try.prog w = .ok (.bool false) w := by kernel_rfl
theorem nilRecs (w : World) : (binOp .eql 25 (.slice none 0 0) (.slice none 0 0)).run Try.prog w = .ok (.bool true) w := by kernel_rfl
theorem someRecs (ad : Addr) (l c : Nat) (w : World) : (binOp .eql 25 (.slice (some ad) l c) (.slice none 0 0)).run Try.prog w = .ok (.bool false) w := by kernel_rfl
/-- 'append([]T{}, s...)'. -/
theorem clone_row {P : Program} {w : World} {t e : TypeId} {z : Value} {size bytes : Nat} (ht : P.underlying t = some (.slice e)) (hi : (P.info? e).map (fun i => (i.zero, i.size, i.bytes)) = some (some z, size, bytes)) (hz : z.cells.size = size) (h0 : 0 < size) {ad : Addr} {len cap : Nat} {xs : List Value} (hx : xs.length = len * size)
    (hr : ∀ j u, xs[j]? = some u → w.cell? (ad.add j) = some u) (h1 : xs.all (·.oneCell') = true) (hm : len ≤ 1000000) (hb : len * bytes ≤ 140737488355328) :
    ∃ v' w', (Builtin.append_ #[t, t] t #[.slice (some ⟨w.heap.size, 0, none⟩) 0 0, .slice (some ad) len cap]).run P (w.alloc (.cells #[] e)) = .ok v' w' ∧ w'.ownsRow w.heap.size e size v' len xs ∧ Ex [] w w' := by
  obtain ⟨i, hi1, hi2, hi3, hi4⟩ := info_parts hi
  have X0 : Ex [] w (w.alloc (.cells #[] e)) := (Ex.refl _ _).alloc _
  have O0 : (w.alloc (.cells #[] e)).ownsRow w.heap.size e size (.slice (some ⟨w.heap.size, 0, none⟩) 0 0) 0 [] := World.ownsRow_lit w #[] 0 (Nat.le_refl _) (by simp [maxLen]) (by simp)
  obtain ⟨v', w', g1, g2, g3, _, _⟩ := run_append_own_at (P := P) (w.alloc (.cells #[] e)) w.heap.size t t e i z size bytes ht hi1 hi2 hi3 hi4 hz h0 _ 0 [] O0 ad len cap xs hx (fun j u hu => by
    have := hr j u hu
    rw [X0.cell (p := ad.add j) (block_lt_of_cell this) (by simp)]; exact this) (fun u hu => List.all_eq_true.1 h1 u hu) (by simp [maxLen]; omega) (by simpa using hb) (by simp)
  refine ⟨v', w', g1, by simpa using g2, X0.own (Ex.of_own g3 (l := [w.heap.size]) (fun k hk => by simp [Value.ownBlock] at hk; simp [hk])) (fun k hk => by simp at hk; exact .inr (by omega))⟩
/-- A new row: nothing, or a block of its own. -/
theorem own_at {w : World} {B size n cap : Nat} {e : TypeId} {a : Option Addr} {xs : List Value} (O : w.ownsRow B e size (.slice a n cap) n xs) (hx : xs.length = n * size) : xs = [] ∨ ∃ g, a = some ⟨g, 0, none⟩ ∧ B ≤ g ∧ g < w.heap.size ∧ ∀ (i : Nat) (u : Value), xs[i]? = some u → w.cell? ⟨g, i, none⟩ = some u ∧ w.frozen? ⟨g, i, none⟩ = false := by
  rcases O.2 with ⟨h1, h2⟩ | ⟨g, cap', cur, h1, h2, h3, h4, h5, h6, h7⟩
  · subst h2; left; exact List.eq_nil_of_length_eq_zero (by omega)
  · cases h1
    have hl := O.lt g rfl
    refine .inr ⟨g, rfl, h2, hl.2, fun i u hu => ?_⟩
    have hi := (List.getElem?_eq_some_iff.1 hu).1
    exact ⟨by rw [O.cellAt i (by omega)]; exact hu, O.frozenAt i⟩
/-- A slice of ints that came in. -/
def IntsAt (w : World) (a : Option Addr) (zs : List Int) : Prop := zs = [] ∨ ∃ b o, a = some ⟨b, o, none⟩ ∧ b < w.heap.size ∧ w.rangeAt b o (zs.map (Value.int .i64))
def NewInts (w w' : World) (a : Option Addr) (zs : List Int) : Prop := zs = [] ∨ ∃ g, a = some ⟨g, 0, none⟩ ∧ w.heap.size ≤ g ∧ g < w'.heap.size ∧ ∀ (i : Nat) (x : Int), zs[i]? = some x → w'.cell? ⟨g, i, none⟩ = some (.int .i64 x) ∧ w'.frozen? ⟨g, i, none⟩ = false
def CloneI (w : World) (len : Nat) (zs : List Int) (z : Ending) (w' : World) : Prop := ∃ a' cap', z = .returned (.slice a' len cap') ∧ NewInts w w' a' zs ∧ Ex [] w w'
set_option maxRecDepth 100000 in
theorem clone_ints {w : World} {a : Option Addr} {len cap : Nat} {zs : List Int} (hz : zs.length = len) (h : IntsAt w a zs) (hn : a = none → len = 0 ∧ cap = 0) (hm : len ≤ 1000000) :
    Calls Try.prog 38 #[.slice a len cap] w (CloneI w len zs) := by
  cases a with
  | none =>
    obtain ⟨rfl, rfl⟩ := hn rfl
    obtain rfl := List.eq_nil_of_length_eq_zero hz
    go_enter Try.func38, Try.ntmps38
    go_wp2_with (refine G_val (o := ⟨some 4, _, _, _, _, _⟩) rfl (ex_bin rfl rfl rfl (by kernel_rfl) (nilInts _)) ?_)
    go_ret
    exact ⟨_, _, rfl, .inl rfl, Ex.refl _ _⟩
  | some ad =>
    obtain ⟨v', w', h1, h2, h3⟩ := clone_row (P := Try.prog) (w := w) (t := 24) (ad := ad) (len := len) (cap := cap) (xs := zs.map (Value.int .i64)) Try.underlying24 infoInt rfl (by omega) (by simp [hz]) (fun j u hu => by
      rcases h with rfl | ⟨b, o, e, hb, hr⟩
      · simp at hu
      · cases e; rw [Addr.add_mid]; exact hr j u hu) (by simp [Value.oneCell']) hm (by omega)
    obtain ⟨xa, xc, rfl⟩ := own_shape h2
    have H1 := Lib.hid h1
    clear h1 h hn
    go_enter Try.func38, Try.ntmps38
    go_wp2_with (first | (refine G_val (o := ⟨some 4, _, _, _, _, _⟩) rfl (ex_bin rfl rfl rfl (by kernel_rfl) (someInts _ _ _ _)) ?_) | (refine G_val (o := ⟨some 7, _, _, _, _, _⟩) rfl (ex_append2 rfl rfl rfl H1.out) ?_))
    go_ret
    refine ⟨_, _, rfl, ?_, h3⟩
    rcases own_at h2 (by simp [hz]) with h | ⟨g, h4, h5, h6, h7⟩
    · left; simpa using h
    · exact .inr ⟨g, h4, h5, h6, fun i x hx => h7 i _ (by simp [hx])⟩
def rcells (rs : List Rec) : List Value := rs.flatMap Rec.cells
theorem rcells_length : ∀ rs : List Rec, (rcells rs).length = rs.length * 5
  | [] => rfl
  | r :: l => by
    have := rcells_length l
    simp only [rcells, List.flatMap_cons, List.length_append, List.length_cons] at *
    rw [this]; simp [Rec.cells]; omega
theorem rcells_one : ∀ rs : List Rec, (rcells rs).all (·.oneCell') = true
  | [] => rfl
  | r :: l => by
    have := rcells_one l
    simp only [rcells, List.flatMap_cons, List.all_append, Bool.and_eq_true] at *
    exact ⟨by simp [Rec.cells, Value.oneCell'], this⟩
theorem rcells_at : ∀ (rs : List Rec) (k t : Nat) (d : Rec), rs[k]? = some d → t < 5 → (rcells rs)[k * 5 + t]? = d.cells[t]?
  | [], _, _, _, h, _ => by simp at h
  | d0 :: r, 0, t, d, h, ht => by
    simp only [List.getElem?_cons_zero, Option.some.injEq] at h
    subst h
    simp only [rcells, List.flatMap_cons, Nat.zero_mul, Nat.zero_add]
    rw [List.getElem?_append_left (by simpa [Rec.cells] using ht)]
  | d0 :: r, k + 1, t, d, h, ht => by
    simp only [List.getElem?_cons_succ] at h
    have ih := rcells_at r k t d h ht
    simp only [rcells, List.flatMap_cons] at *
    have e : (k + 1) * 5 + t = d0.cells.length + (k * 5 + t) := by simp [Rec.cells]; omega
    rw [e, List.getElem?_append_right (by omega), Nat.add_sub_cancel_left, ih]
def RecsAt (w : World) (a : Option Addr) (zs : List Rec) : Prop := zs = [] ∨ ∃ b o, a = some ⟨b, o, none⟩ ∧ b < w.heap.size ∧ w.rangeAt b o (rcells zs)
def NewRecs (w w' : World) (a : Option Addr) (zs : List Rec) : Prop := zs = [] ∨ ∃ g, a = some ⟨g, 0, none⟩ ∧ w.heap.size ≤ g ∧ g < w'.heap.size ∧ ∀ (i : Nat) (x : Rec), zs[i]? = some x → RecAt w' g (0 + i * 5) x
def CloneR (w : World) (len : Nat) (zs : List Rec) (z : Ending) (w' : World) : Prop := ∃ a' cap', z = .returned (.slice a' len cap') ∧ NewRecs w w' a' zs ∧ Ex [] w w'
set_option maxRecDepth 100000 in
theorem clone_recs {w : World} {a : Option Addr} {len cap : Nat} {zs : List Rec} (hz : zs.length = len) (h : RecsAt w a zs) (hn : a = none → len = 0 ∧ cap = 0) (hm : len ≤ 1000000) :
    Calls Try.prog 39 #[.slice a len cap] w (CloneR w len zs) := by
  cases a with
  | none =>
    obtain ⟨rfl, rfl⟩ := hn rfl
    obtain rfl := List.eq_nil_of_length_eq_zero hz
    go_enter Try.func39, Try.ntmps39
    go_wp2_with (refine G_val (o := ⟨some 4, _, _, _, _, _⟩) rfl (ex_bin rfl rfl rfl (by kernel_rfl) (nilRecs _)) ?_)
    go_ret
    exact ⟨_, _, rfl, .inl rfl, Ex.refl _ _⟩
  | some ad =>
    obtain ⟨v', w', h1, h2, h3⟩ := clone_row (P := Try.prog) (w := w) (t := 25) (ad := ad) (len := len) (cap := cap) (xs := rcells zs) Try.underlying25 infoRec rfl (by omega) (by rw [rcells_length, hz]) (fun j u hu => by
      rcases h with rfl | ⟨b, o, e, hb, hr⟩
      · simp [rcells] at hu
      · cases e; rw [Addr.add_mid]; exact hr j u hu) (rcells_one _) hm (by omega)
    obtain ⟨xa, xc, rfl⟩ := own_shape h2
    have H1 := Lib.hid h1
    clear h1 h hn
    go_enter Try.func39, Try.ntmps39
    go_wp2_with (first | (refine G_val (o := ⟨some 4, _, _, _, _, _⟩) rfl (ex_bin rfl rfl rfl (by kernel_rfl) (someRecs _ _ _ _)) ?_) | (refine G_val (o := ⟨some 7, _, _, _, _, _⟩) rfl (ex_append2 rfl rfl rfl H1.out) ?_))
    go_ret
    refine ⟨_, _, rfl, ?_, h3⟩
    rcases own_at h2 (by rw [rcells_length, hz]) with h | ⟨g, h4, h5, h6, h7⟩
    · left
      have := rcells_length zs
      rw [h] at this
      exact List.eq_nil_of_length_eq_zero (by simp at this; omega)
    · refine .inr ⟨g, h4, h5, h6, fun i x hx => ?_⟩
      have hc := fun t (ht : t < 5) => h7 (i * 5 + t) _ ((rcells_at zs i t x hx ht).trans (List.getElem?_eq_getElem (by simpa [Rec.cells] using ht)))
      rw [Nat.zero_add]
      exact ⟨by simpa [Rec.cells] using (hc 0 (by omega)).1, by simpa [Rec.cells] using (hc 1 (by omega)).1, by simpa [Rec.cells] using (hc 2 (by omega)).1, by simpa [Rec.cells] using (hc 3 (by omega)).1, by simpa [Rec.cells] using (hc 4 (by omega)).1, fun j hj => (hc j hj).2⟩
end Go.Proofs.Ytphmdhbhoakcaaa
