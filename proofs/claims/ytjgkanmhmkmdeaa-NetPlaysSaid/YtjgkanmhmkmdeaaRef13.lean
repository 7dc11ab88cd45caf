/- The document's disk of chapter 13 in memory, and what each call does to it. -/
import Derived.Test.YtjgkanmhmkmdeaaDiskLaw2
namespace Go.Proofs.Ytjgkanmhmkmdeaa
open Go.RowKit Go.Ad Go.Maps
abbrev rcells (v : Value) (done left : Int) (dead : Bool) : Array Value := #[v, .int .i64 done, .int .i64 left, .bool dead]
theorem infoRow : (Try.prog.info? 31).map (fun i => (i.zero, i.size, i.bytes)) = some (some (.slice none 0 0), 1, 24) := by kernel_rfl
theorem ex_append2 {P : Program} {w w' : World} {a : Act} {o : Oper} {x y : Operand} {ts : Array TypeId} (ho : o.op = .call { callee := .builtin .append, args := #[x, y], argTypes := ts }) {v1 v2 : Value} (hx : a.eval x = v1) (hy : a.eval y = v2)
    {v : Value} (h : (Builtin.append_ ts o.type #[v1, v2]).run P w = .ok v w') : (execOp a.eval o).run P w = .ok (.value v) w' := ex_builtin ho (by simp [hx, hy]) rfl h
/-- The sectors' rows: slices of 64 bytes each, in blocks that are not among 'av', nor the struct's, nor the row's own. -/
structure RefAt (w : World) (B : Nat) (av : List Nat) (b : Nat) (v : Value) (n : Nat) (done left : Int) (dead : Bool) (ys : List (List UInt8)) : Prop where
  blk : Blk w b (rcells v done left dead) 49
  bav : b ∉ av
  bas : B ≤ b
  vav : ∀ k, v.ownBlock = some k → k ∉ av ∧ k ≠ b
  len : ys.length = n
  own : ∃ xs : List Value, w.ownsRow B 31 1 v n xs ∧ ∀ (i : Nat) (y : List UInt8), ys[i]? = some y → y.length = 64 ∧
    ∃ (g c : Nat), xs[i]? = some (.slice (some ⟨g, 0, none⟩) 64 c) ∧ w.rangeAt g 0 (y.map bv) ∧ g ∉ av ∧ g ≠ b ∧ v.ownBlock ≠ some g ∧ g < w.heap.size

theorem ownsRow_succ' {W : World} {base : Nat} {e : TypeId} {size : Nat} {v : Value} {k : Nat} {xs : List Value} (h : W.ownsRow base e size v (k + 1) xs) : ∃ g cap, v = .slice (some ⟨g, 0, none⟩) (k + 1) cap := by
  rcases h.2 with ⟨_, h⟩ | ⟨g, cap, cur, h, _⟩
  · omega
  · exact ⟨g, cap, h⟩
theorem ownsRow_ex {w w' : World} {l : List Nat} {base : Nat} {e : TypeId} {size : Nat} {v : Value} {n : Nat} {xs : List Value} (h : w.ownsRow base e size v n xs) (hx : Ex l w w') (hv : ∀ k, v.ownBlock = some k → k ∉ l) : w'.ownsRow base e size v n xs := by
  refine ⟨h.1, ?_⟩
  rcases h.2 with hn | ⟨g, cap, cur, rfl, hb, hgg, rest⟩
  · exact .inl hn
  · exact .inr ⟨g, cap, cur, rfl, hb, by rw [hx.block g (Array.getElem?_eq_some_iff.1 hgg).1 (hv g rfl)]; exact hgg, rest⟩

section
variable {w w' : World} {B : Nat} {av : List Nat} {b : Nat} {v : Value} {n : Nat} {done left : Int} {dead : Bool} {ys : List (List UInt8)}
theorem RefAt.ex (h : RefAt w B av b v n done left dead ys) {l : List Nat} (hx : Ex l w w') (hl : ∀ k ∈ l, k ∈ av) : RefAt w' B av b v n done left dead ys := by
  obtain ⟨xs, h1, h2⟩ := h.own
  refine ⟨h.blk.ex hx (fun hm => h.bav (hl _ hm)), h.bav, h.bas, h.vav, h.len, xs, ownsRow_ex h1 hx (fun k hk hm => (h.vav k hk).1 (hl k hm)), fun i y hy => ?_⟩
  obtain ⟨g0, g, c, g1, g2, g3, g4, g5, g6⟩ := h2 i y hy
  exact ⟨g0, g, c, g1, rangeAt_ex g2 hx g6 (fun hm => g3 (hl g hm)), g3, g4, g5, Nat.lt_of_lt_of_le g6 hx.size⟩
/-- The struct's own cells change: the rows stay. -/
theorem RefAt.set (h : RefAt w B av b v n done left dead ys) (j : Nat) (x : Value) {done' left' : Int} {dead' : Bool} (hc : (rcells v done left dead).setIfInBounds j x = rcells v done' left' dead') :
    RefAt (w.setCell ⟨b, j, none⟩ x) B av b v n done' left' dead' ys := by
  obtain ⟨xs, h1, h2⟩ := h.own
  refine ⟨by rw [← hc]; exact h.blk.set j x, h.bav, h.bas, h.vav, h.len, xs, ownsRow_ex h1 (l := [b]) ((Ex.refl _ _).setCell (.inl (by simp)) x) (fun k hk => by simpa using (h.vav k hk).2), fun i y hy => ?_⟩
  obtain ⟨g0, g, c, g1, g2, g3, g4, g5, g6⟩ := h2 i y hy
  exact ⟨g0, g, c, g1, rangeAt_setCell g2 g4 x, g3, g4, g5, by simpa [World.setCell] using g6⟩
variable {q : Int}
set_option maxHeartbeats 400000 in
theorem RefCut_any (D : RefAt w B av b v n done left dead ys) :
    Calls Try.prog 21 #[ptr b, .int .i64 q] w fun e w' => e = .returned (.tuple #[]) ∧ RefAt w' B av b v n done (max q (-1)) dead ys ∧ Ex [b] w w' := by
  have c := D.blk.cell
  have fz := D.blk.froz
  by_cases h : q < -1
  all_goals
    go_enter Try.func21, Try.ntmps21
    go_wp2
    go_end0
  · rw [show max q (-1) = -1 by omega]
    exact ⟨rfl, D.set 2 _ rfl, (Ex.refl _ _).setCell (.inl (by simp)) _⟩
  · rw [show max q (-1) = q by omega]
    exact ⟨rfl, D.set 2 _ rfl, (Ex.refl _ _).setCell (.inl (by simp)) _⟩
set_option maxHeartbeats 400000 in
theorem RefStart_any (D : RefAt w B av b v n done left dead ys) :
    Calls Try.prog 22 #[ptr b] w fun e w' => e = .returned (.tuple #[]) ∧ RefAt w' B av b v n done (-1) false ys ∧ Ex [b] w w' := by
  have c := D.blk.cell
  have fz := D.blk.froz
  go_enter Try.func22, Try.ntmps22
  go_wp2
  go_end0
  exact ⟨rfl, (D.set 3 (.bool false) rfl).set 2 _ rfl, ((Ex.refl _ _).setCell (.inl (by simp)) _).setCell (.inl (by simp)) _⟩
set_option maxHeartbeats 400000 in
theorem RefRead_dead (D : RefAt w B av b v n done left true ys) :
    Calls Try.prog 19 #[ptr b, .int .i64 q] w fun e w' => e = .returned (.tuple #[.slice none 0 0, .int .i64 11]) ∧ w = w' := by
  have c := D.blk.cell
  go_enter Try.func19, Try.ntmps19
  go_wp2
  go_ret2
  exact ⟨rfl, rfl⟩
theorem RefAt.val (D : RefAt w B av b v n done left dead ys) (hn : 0 < n) : ∃ g cap, v = .slice (some ⟨g, 0, none⟩) n cap := by
  obtain ⟨xs, h1, _⟩ := D.own
  rcases h1.2 with ⟨_, h⟩ | ⟨g, cap, cur, h, _⟩
  · omega
  · exact ⟨g, cap, h⟩
set_option maxHeartbeats 400000 in
theorem RefRead_arg (D : RefAt w B av b v n done left false ys) (hn : 0 < n) (h : q < 0 ∨ n ≤ q) :
    Calls Try.prog 19 #[ptr b, .int .i64 q] w fun e w' => e = .returned (.tuple #[.slice none 0 0, .int .i64 1]) ∧ w = w' := by
  have c := D.blk.cell
  obtain ⟨g, cap, rfl⟩ := D.val hn
  by_cases h1 : q < 0
  · skip
    go_enter Try.func19, Try.ntmps19
    go_wp2
    go_ret2
    exact ⟨rfl, rfl⟩
  have h2 : (n : Int) ≤ q := by omega
  clear h
  go_enter Try.func19, Try.ntmps19
  go_wp2
  go_ret2
  exact ⟨rfl, rfl⟩

set_option maxHeartbeats 800000 in
theorem RefRead_ok (D : RefAt w B av b v n done left false ys) (h0 : 0 ≤ q) (hn : q < n) {y : List UInt8} (hy : ys[q.toNat]? = some y) :
    Calls Try.prog 19 #[ptr b, .int .i64 q] w fun e w' => ∃ g cap, e = .returned (.tuple #[.slice (some ⟨g, 0, none⟩) 64 cap, .int .i64 0]) ∧ BytesAt w' (some ⟨g, 0, none⟩) 64 y ∧ Ex [] w w' := by
  have c := D.blk.cell
  obtain ⟨gv, cap, rfl⟩ := D.val (by omega)
  obtain ⟨xs, h1, h2⟩ := D.own
  obtain ⟨q0, rfl⟩ := Int.eq_ofNat_of_zero_le h0
  simp only [Int.toNat_natCast] at hy
  obtain ⟨hl, g, cc, hx, hr, hga, hgb, hgv, hglt⟩ := h2 q0 y hy
  have c2 : w.cell? ⟨gv, q0, none⟩ = some (.slice (some ⟨g, 0, none⟩) 64 cc) := by rw [h1.cellAt q0 (by omega)]; exact hx
  have Hb : Hid (BytesAt w (some ⟨g, 0, none⟩) 64 y) := ⟨hl, .inr ⟨g, 0, rfl, hglt, hr⟩⟩
  have ca := (D.blk.alloc (.cells #[] 5)).cell
  have c2a : (w.alloc (.cells #[] 5)).cell? ⟨gv, q0, none⟩ = some (.slice (some ⟨g, 0, none⟩) 64 cc) := by
    rw [((Ex.refl [] w).alloc (.cells #[] 5)).cell (p := ⟨gv, q0, none⟩) (h1.lt gv rfl).2 (by simp)]; exact c2
  clear h1 h2 hx hr hl
  have hqn : (q0 : Int) < n := hn
  go_enter Try.func19, Try.ntmps19
  go_wp2_with (refine G_append_bytes rfl rfl Try.underlying31 infoU8 rfl rfl (base := w.heap.size) (n := 0) (ys := []) (xs := y) ?own ?bytes (by simp) (by omega) ?base ?next)
  case own => exact World.ownsRow_lit w #[] 0 (Nat.le_refl _) (by simp [maxLen]) rfl
  case bytes => exact Hb.out.ex ((Ex.refl [] _).alloc _) (by simp)
  case base => simp
  case next =>
    intro v3 w3 O3 G3 L3
    obtain ⟨g2, cap2, rfl, hg1, _, B3⟩ := own_bytes (ys := y) O3 (show 0 < 0 + 64 by omega)
    have X3 : Ex [] w w3 := ((Ex.refl [] _).alloc _).own (Ex.of_own (l := [w.heap.size]) G3 (by simp [Value.ownBlock])) (by simp)
    go_wp2
    go_ret2
    exact ⟨_, _, rfl, B3, X3⟩

/-- A row is laid anew. -/
theorem RefAt.row {gv cap : Nat} (D : RefAt w B av b (.slice (some ⟨gv, 0, none⟩) n cap) n done left dead ys) {i g c : Nat} {y : List UInt8} (hy : y.length = 64) (hi : i < n) (hr : w.rangeAt g 0 (y.map bv)) (hga : g ∉ av) (hgb : g ≠ b) (hgv : gv ≠ g) (hg : g < w.heap.size) :
    RefAt (w.setCell ⟨gv, i, none⟩ (.slice (some ⟨g, 0, none⟩) 64 c)) B av b (.slice (some ⟨gv, 0, none⟩) n cap) n done left dead (ys.set i y) := by
  obtain ⟨xs, h1, h2⟩ := D.own
  have hv := D.vav gv rfl
  have hX : Ex [gv] w (w.setCell ⟨gv, i, none⟩ (.slice (some ⟨g, 0, none⟩) 64 c)) := (Ex.refl _ _).setCell (.inl (by simp)) _
  refine ⟨D.blk.ex hX (by simpa using Ne.symm hv.2), D.bav, D.bas, D.vav, by simpa using D.len, _, (h1.stored i _).1, fun j z hz => ?_⟩
  by_cases hij : i = j
  · subst hij
    have hil : i < ys.length := by rw [D.len]; exact hi
    rw [List.getElem?_set_self hil] at hz
    cases hz
    refine ⟨hy, g, c, ?_, rangeAt_ex hr hX hg (by simpa using Ne.symm hgv), hga, hgb, by simpa [Value.ownBlock] using hgv, Nat.lt_of_lt_of_le hg hX.size⟩
    rw [List.getElem?_set_self (by have := h1.1; omega)]
  · rw [List.getElem?_set_ne hij] at hz
    obtain ⟨q0, g', c', q1, q2, q3, q4, q5, q6⟩ := h2 j z hz
    refine ⟨q0, g', c', by rw [List.getElem?_set_ne hij]; exact q1, rangeAt_ex q2 hX q6 (by simpa using fun e => q5 (by simp [Value.ownBlock, e])), q3, q4, q5, Nat.lt_of_lt_of_le q6 hX.size⟩
theorem RefAt.there {gv cap : Nat} (D : RefAt w B av b (.slice (some ⟨gv, 0, none⟩) n cap) n done left dead ys) {i : Nat} (hi : i < n) : ∃ g c y, ys[i]? = some y ∧ y.length = 64 ∧ w.cell? ⟨gv, i, none⟩ = some (.slice (some ⟨g, 0, none⟩) 64 c) ∧ w.frozen? ⟨gv, i, none⟩ = false := by
  obtain ⟨xs, h1, h2⟩ := D.own
  obtain ⟨y, hy⟩ : ∃ y, ys[i]? = some y := ⟨ys[i]'(by rw [D.len]; exact hi), by simp⟩
  obtain ⟨q0, g, c, q1, _⟩ := h2 i y hy
  exact ⟨g, c, y, hy, q0, by rw [h1.cellAt i (by omega)]; exact q1, h1.frozenAt i⟩
theorem RefAt.drew (h : RefAt w B av b v n done left dead ys) : RefAt w.drew B av b v n done left dead ys := h.ex ((Ex.refl [] w).drew) (by simp)
theorem RefWrite_dead (u : Value) (D : RefAt w B av b v n done left true ys) :
    Calls Try.prog 20 #[ptr b, .int .i64 q, u] w fun e w' => e = .returned (.int .i64 11) ∧ w = w' := by
  have c := D.blk.cell
  go_enter Try.func20, Try.ntmps20
  go_wp2
  go_ret
  exact ⟨rfl, rfl⟩
set_option maxHeartbeats 800000 in
theorem RefWrite_arg (a : Option Addr) (len cap : Nat) (D : RefAt w B av b v n done left false ys) (hn : 0 < n) (h : q < 0 ∨ n ≤ q ∨ len ≠ 64) :
    Calls Try.prog 20 #[ptr b, .int .i64 q, .slice a len cap] w fun e w' => e = .returned (.int .i64 1) ∧ w = w' := by
  have c := D.blk.cell
  obtain ⟨g, cap', rfl⟩ := D.val hn
  by_cases h1 : q < 0
  · skip
    go_enter Try.func20, Try.ntmps20
    go_wp2
    go_ret
    exact ⟨rfl, rfl⟩
  by_cases h2 : (n : Int) ≤ q
  · skip
    go_enter Try.func20, Try.ntmps20
    go_wp2
    go_ret
    exact ⟨rfl, rfl⟩
  have h3 : (((len : Int) != 64)) = true := by rw [bne_iff_ne]; omega
  clear h
  go_enter Try.func20, Try.ntmps20
  go_wp2
  go_ret
  exact ⟨rfl, rfl⟩
set_option maxHeartbeats 800000 in
theorem RefWrite_cut (a : Option Addr) (cap : Nat) (D : RefAt w B av b v n done 0 false ys) (h0 : 0 ≤ q) (hn : q < n) :
    Calls Try.prog 20 #[ptr b, .int .i64 q, .slice a 64 cap] w fun e w' => e = .returned (.int .i64 11) ∧ RefAt w' B av b v n done 0 true ys ∧ Ex [b] w w' := by
  have c := D.blk.cell
  have fz := D.blk.froz
  obtain ⟨g, cap', rfl⟩ := D.val (by omega)
  go_enter Try.func20, Try.ntmps20
  go_wp2
  go_ret
  exact ⟨rfl, D.set 3 _ rfl, (Ex.refl _ _).setCell (.inl (by simp)) _⟩
set_option maxHeartbeats 1600000 in
theorem RefWrite_ok (a : Option Addr) (cap : Nat) {y : List UInt8} (D : RefAt w B av b v n done left false ys) (h0 : 0 ≤ q) (hn : q < n) (hl : left ≠ 0) (hl1 : -1 ≤ left) (hl2 : left ≤ 9223372036854775807) (hd : 0 ≤ done) (hd' : done < 1000000) (hy : BytesAt w a 64 y) (hcap : a = none → cap = 0) (hab : ∀ c o, a = some ⟨c, o, none⟩ → c ≠ b) (hav : ∀ k ∈ av, k < w.heap.size) :
    Calls Try.prog 20 #[ptr b, .int .i64 q, .slice a 64 cap] w fun e w' => e = .returned (.int .i64 0) ∧ RefAt w' B av b v n (done + 1) (if 0 < left then left - 1 else left) false (ys.set q.toNat y) ∧ ∃ l, Ex l w w' ∧ ∀ k ∈ l, B ≤ k ∧ k ∉ av := by
  have c := D.blk.cell
  have fz := D.blk.froz
  obtain ⟨gv, cv, rfl⟩ := D.val (by omega)
  obtain ⟨q0, rfl⟩ := Int.eq_ofNat_of_zero_le h0
  have hl0 : (left == 0) = false := by simpa using hl
  have Hy := Lib.hid hy
  clear hy
  by_cases hp : 0 < left
  · simp only [if_pos hp]
    go_enter Try.func20, Try.ntmps20
    go_wp2
    have D1 := D.set 2 (.int .i64 (left - 1)) rfl
    have X1 : Ex [b] w (w.setCell ⟨b, 2, none⟩ (.int .i64 (left - 1))) := (Ex.refl _ _).setCell (.inl (by simp)) _
    generalize (w.setCell ⟨b, 2, none⟩ (.int .i64 (left - 1))) = w1 at *
    have c1 := D1.blk.cell
    refine wp_region_ord (fun w' => w'.cell? ⟨b, 0, none⟩ = some (.slice (some ⟨gv, 0, none⟩) n cv)) [9] [(0, true), (1, true), (2, true), (3, true), (4, true), (6, true), (5, false), (7, false), (8, true), (9, false)]
      (by kernel_rfl) (by kernel_rfl) (by kernel_rfl) (by kernel_rfl) rfl (by intro c a d v w h; cases d <;> exact h) (c1 0) ?_
    simp only [mkOrd, List.filterMap_cons, List.filterMap_nil, List.getElem?_toArray, List.getElem?_cons_zero, List.getElem?_cons_succ, Option.map_some]
    replace D1 := D1.drew
    replace X1 := X1.drew
    clear c c1 fz D
    generalize w1.drew = w2 at *
    iterate 6
      refine ord_take (v := ?_) rfl ?_ ?_
      rotate_left
      · intro w' hS
        go_simp
        with_reducible rfl
      go_frame
    refine ord_val (v := ?_) (w' := ?_) rfl ?_ ?_ ?_
    rotate_left
    rotate_left
    · go_simp
      first | with_reducible rfl | (refine ⟨?_, ?_⟩ <;> with_reducible rfl)
    · intro _; exact (D1.blk.alloc _).cell 0
    go_frame
    have D2 := D1.ex ((Ex.refl [] w2).alloc (.cells #[] 5)) (by simp)
    have X2 : Ex [] w2 (w2.alloc (.cells #[] 5)) := (Ex.refl [] w2).alloc _
    have hg2 := (D1.own.choose_spec.1.lt gv rfl)
    have hbb := D1.blk.lt
    obtain ⟨v3, w3, hap, O3, G3, L3⟩ := append_bytes (P := Try.prog) (ty := 31) (base := w2.heap.size) Try.underlying31 infoU8 (World.ownsRow_lit w2 #[] 0 (Nat.le_refl _) (by simp [maxLen]) rfl) (ys := [])
      ((Hy.out.ex X1 (fun c o e => by simpa using hab c o e)).ex X2 (by simp)) hcap (by omega) (by simp)
    obtain ⟨g, cg, rfl, hg1, _, B3⟩ := own_bytes (ys := y) O3 (show 0 < 0 + 64 by omega)
    have X3 : Ex [w2.heap.size] (w2.alloc (.cells #[] 5)) w3 := Ex.of_own G3 (by simp [Value.ownBlock])
    have X23 : Ex [] w2 w3 := X2.own X3 (by simp)
    have D3 := D1.ex X23 (by simp)
    refine ord_val rfl (ex_append2 rfl rfl rfl hap) (fun _ => D3.blk.cell 0) ?_
    go_frame
    obtain ⟨_, _, _, _, _, c3, f3⟩ := D3.there (show q0 < n by omega)
    iterate 1
      refine ord_take (v := ?_) rfl ?_ ?_
      rotate_left
      · intro w' hS
        go_simp
        with_reducible rfl
      go_frame
    refine ord_skip (w' := ?_) rfl ?_ ?_ ?_
    rotate_left
    · go_simp
      first | with_reducible rfl | (refine ⟨?_, ?_⟩ <;> with_reducible rfl)
    · intro h; simp at h
    go_frame
    refine ord_nil ?_
    have D4 := D3.row (i := q0) (g := g) (c := cg) (y := y) B3.1 (by omega) (by obtain ⟨_, rfl | ⟨_, _, e, _, r⟩⟩ := B3; (intro j v h; simp at h); cases e; exact r) ?ga (by omega) (by omega) ?glt
    case ga => intro hm; have := hav g hm; have := X1.size; omega
    case glt => obtain ⟨hl3, rfl | ⟨_, _, e, r, _⟩⟩ := B3; (simp at hl3); cases e; exact r
    have X4 : Ex [gv] w3 (w3.setCell ⟨gv, q0, none⟩ (.slice (some ⟨g, 0, none⟩) 64 cg)) := (Ex.refl _ _).setCell (.inl (by simp)) _
    generalize (w3.setCell ⟨gv, q0, none⟩ (.slice (some ⟨g, 0, none⟩) 64 cg)) = w4 at *
    have c4 := D4.blk.cell
    have f4 := D4.blk.froz
    clear c3 f3 hap O3 G3 L3
    go_wp2
    go_ret
    refine ⟨rfl, by simpa using D4.set 1 (.int .i64 (done + 1)) rfl, [b, gv], (((X1.mono (by simp)).trans (X23.mono (by simp))).trans (X4.mono (by simp))).setCell (.inl (by simp)) _, ?_⟩
    intro k hk
    have hvv := D4.vav gv rfl
    simp only [List.mem_cons, List.not_mem_nil, or_false] at hk
    rcases hk with rfl | rfl
    · exact ⟨D4.bas, D4.bav⟩
    · exact ⟨hg2.1, hvv.1⟩
  · simp only [if_neg hp]
    go_enter Try.func20, Try.ntmps20
    go_wp2
    have D1 := D
    have X1 := Ex.refl [b] w
    have c1 := D1.blk.cell
    refine wp_region_ord (fun w' => w'.cell? ⟨b, 0, none⟩ = some (.slice (some ⟨gv, 0, none⟩) n cv)) [9] [(0, true), (1, true), (2, true), (3, true), (4, true), (6, true), (5, false), (7, false), (8, true), (9, false)]
      (by kernel_rfl) (by kernel_rfl) (by kernel_rfl) (by kernel_rfl) rfl (by intro c a d v w h; cases d <;> exact h) (c1 0) ?_
    simp only [mkOrd, List.filterMap_cons, List.filterMap_nil, List.getElem?_toArray, List.getElem?_cons_zero, List.getElem?_cons_succ, Option.map_some]
    replace D1 := D1.drew
    replace X1 := X1.drew
    clear c c1 fz D
    generalize w.drew = w2 at *
    iterate 6
      refine ord_take (v := ?_) rfl ?_ ?_
      rotate_left
      · intro w' hS
        go_simp
        with_reducible rfl
      go_frame
    refine ord_val (v := ?_) (w' := ?_) rfl ?_ ?_ ?_
    rotate_left
    rotate_left
    · go_simp
      first | with_reducible rfl | (refine ⟨?_, ?_⟩ <;> with_reducible rfl)
    · intro _; exact (D1.blk.alloc _).cell 0
    go_frame
    have D2 := D1.ex ((Ex.refl [] w2).alloc (.cells #[] 5)) (by simp)
    have X2 : Ex [] w2 (w2.alloc (.cells #[] 5)) := (Ex.refl [] w2).alloc _
    have hg2 := (D1.own.choose_spec.1.lt gv rfl)
    have hbb := D1.blk.lt
    obtain ⟨v3, w3, hap, O3, G3, L3⟩ := append_bytes (P := Try.prog) (ty := 31) (base := w2.heap.size) Try.underlying31 infoU8 (World.ownsRow_lit w2 #[] 0 (Nat.le_refl _) (by simp [maxLen]) rfl) (ys := [])
      ((Hy.out.ex X1 (fun c o e => by simpa using hab c o e)).ex X2 (by simp)) hcap (by omega) (by simp)
    obtain ⟨g, cg, rfl, hg1, _, B3⟩ := own_bytes (ys := y) O3 (show 0 < 0 + 64 by omega)
    have X3 : Ex [w2.heap.size] (w2.alloc (.cells #[] 5)) w3 := Ex.of_own G3 (by simp [Value.ownBlock])
    have X23 : Ex [] w2 w3 := X2.own X3 (by simp)
    have D3 := D1.ex X23 (by simp)
    refine ord_val rfl (ex_append2 rfl rfl rfl hap) (fun _ => D3.blk.cell 0) ?_
    go_frame
    obtain ⟨_, _, _, _, _, c3, f3⟩ := D3.there (show q0 < n by omega)
    iterate 1
      refine ord_take (v := ?_) rfl ?_ ?_
      rotate_left
      · intro w' hS
        go_simp
        with_reducible rfl
      go_frame
    refine ord_skip (w' := ?_) rfl ?_ ?_ ?_
    rotate_left
    · go_simp
      first | with_reducible rfl | (refine ⟨?_, ?_⟩ <;> with_reducible rfl)
    · intro h; simp at h
    go_frame
    refine ord_nil ?_
    have D4 := D3.row (i := q0) (g := g) (c := cg) (y := y) B3.1 (by omega) (by obtain ⟨_, rfl | ⟨_, _, e, _, r⟩⟩ := B3; (intro j v h; simp at h); cases e; exact r) ?ga (by omega) (by omega) ?glt
    case ga => intro hm; have := hav g hm; have := X1.size; omega
    case glt => obtain ⟨hl3, rfl | ⟨_, _, e, r, _⟩⟩ := B3; (simp at hl3); cases e; exact r
    have X4 : Ex [gv] w3 (w3.setCell ⟨gv, q0, none⟩ (.slice (some ⟨g, 0, none⟩) 64 cg)) := (Ex.refl _ _).setCell (.inl (by simp)) _
    generalize (w3.setCell ⟨gv, q0, none⟩ (.slice (some ⟨g, 0, none⟩) 64 cg)) = w4 at *
    have c4 := D4.blk.cell
    have f4 := D4.blk.froz
    clear c3 f3 hap O3 G3 L3
    go_wp2
    go_ret
    refine ⟨rfl, by simpa using D4.set 1 (.int .i64 (done + 1)) rfl, [b, gv], (((X1.mono (by simp)).trans (X23.mono (by simp))).trans (X4.mono (by simp))).setCell (.inl (by simp)) _, ?_⟩
    intro k hk
    have hvv := D4.vav gv rfl
    simp only [List.mem_cons, List.not_mem_nil, or_false] at hk
    rcases hk with rfl | rfl
    · exact ⟨D4.bas, D4.bav⟩
    · exact ⟨hg2.1, hvv.1⟩
abbrev zrow : List UInt8 := List.replicate 64 0
def NewI (w : World) (av : List Nat) (n : Nat) (k : Nat) (vi : Value) (wr : World) : Prop :=
  ∃ (i : Nat) (v : Value), vi = .int .i64 (i : Int) ∧ i + k = n ∧ RefAt wr w.heap.size av w.heap.size v i 0 (-1) false (List.replicate i zrow) ∧ Ex [] w wr
theorem RefNew_bad (h : q < 1 ∨ 1024 < q) (w : World) :
    Calls Try.prog 18 #[.int .i64 q] w fun e w' => e = .returned (.tuple #[.pointer none, .int .i64 1]) ∧ w = w' := by
  rcases h with h | h
  · skip
    go_enter Try.func18, Try.ntmps18
    go_wp2
    go_ret2
    exact ⟨rfl, rfl⟩
  · have h' : ¬ q < 1 := by omega
    go_enter Try.func18, Try.ntmps18
    go_wp2
    go_ret2
    exact ⟨rfl, rfl⟩
set_option maxHeartbeats 1600000 in
theorem RefNew_ok (n : Nat) (h1 : 1 ≤ n) (h2 : n ≤ 1024) (w : World) (hav : ∀ k ∈ av, k < w.heap.size) :
    Calls Try.prog 18 #[.int .i64 (n : Int)] w fun e w' => e = .returned (.tuple #[ptr w.heap.size, .int .i64 0]) ∧ (∃ v, RefAt w' w.heap.size av w.heap.size v n 0 (-1) false (List.replicate n zrow)) ∧ Ex [] w w' := by
  have hn1 : ¬ (n : Int) < 1 := by omega
  have hn2 : ¬ 1024 < (n : Int) := by omega
  go_enter Try.func18, Try.ntmps18
  go_wp2_with fail
  have B1 := Blk.new w (rcells (.slice none 0 0) 0 (-1) false) 49
  have X1 : Ex [] w (w.alloc (.cells (rcells (.slice none 0 0) 0 (-1) false) 49)) := (Ex.refl _ _).alloc _
  generalize w.alloc (.cells (rcells (.slice none 0 0) 0 (-1) false) 49) = w1 at *
  go_loopg [5] n (fun k vi wr => NewI w av n k vi wr)
  case atStart => exact ⟨0, .slice none 0 0, rfl, by omega, ⟨B1, fun hm => by have := hav _ hm; omega, Nat.le_refl _, by simp [Value.ownBlock], rfl, [], World.ownsRow_nil _ _ _ _, by simp⟩, X1⟩
  case round =>
    obtain ⟨i, v, rfl, hk, D, X⟩ := hrel
    clear B1 X1
    by_cases hin : (i : Int) < n
    · go_wp2
      replace D := D.drew
      replace X := X.drew
      have c := D.blk.cell
      refine wp_region_ord (fun w' => w'.cell? ⟨w.heap.size, 0, none⟩ = some v) [10] [(0, true), (1, true), (2, true), (3, true), (4, true), (5, false), (6, false), (7, false), (8, true), (9, true), (10, false)]
        (by kernel_rfl) (by kernel_rfl) (by kernel_rfl) (by kernel_rfl) rfl (by intro c a d v w h; cases d <;> exact h) (c 0) ?_
      simp only [mkOrd, List.filterMap_cons, List.filterMap_nil, List.getElem?_toArray, List.getElem?_cons_zero, List.getElem?_cons_succ, Option.map_some]
      generalize wr.drew = w2 at *
      clear c
      iterate 5
        refine ord_take (v := ?_) rfl ?_ ?_
        rotate_left
        · intro w' hS
          go_simp
          with_reducible rfl
        go_frame
      have Ba := Blk.new w2 (Array.replicate 64 (.int .u8 0)) 5
      have Xa : Ex [] w2 (w2.alloc (.cells (Array.replicate 64 (.int .u8 0)) 5)) := (Ex.refl [] _).alloc _
      have Da := D.ex Xa (by simp)
      refine ord_val rfl (ex_make1 (n := 64) rfl rfl rfl Try.underlying31 infoU8 rfl (by omega) (by omega) (by omega)) (fun _ => Da.blk.cell 0) ?_
      go_frame
      have hga : ∀ k ∈ av, k < w2.heap.size := fun k hk => by have := hav k hk; have := X.size; omega
      have hgs : w.heap.size < w2.heap.size := D.blk.lt
      obtain ⟨xs, o1, o2⟩ := Da.own
      have hvlt : ∀ k, v.ownBlock = some k → k < w2.heap.size := fun k hk => (D.own.choose_spec.1.lt k hk).2
      have hlt3 : w2.heap.size < (w2.alloc (.cells (Array.replicate 64 (.int .u8 0)) 5)).heap.size := Ba.lt
      simp only [show (64 : Int).toNat = 64 from rfl]
      generalize w2.alloc (.cells (Array.replicate 64 (.int .u8 0)) 5) = w3 at *
      refine ord_val (v := ?_) (w' := ?_) rfl ?_ ?_ ?_
      rotate_left
      rotate_left
      · go_simp
        first | with_reducible rfl | (refine ⟨?_, ?_⟩ <;> with_reducible rfl)
      · intro _; exact (Da.blk.alloc _).cell 0
      go_frame
      have Bb := Blk.new w3 #[.slice (some ⟨w2.heap.size, 0, none⟩) 64 64] 31
      have Xb : Ex [] w3 (w3.alloc (.cells #[.slice (some ⟨w2.heap.size, 0, none⟩) 64 64] 31)) := (Ex.refl [] _).alloc _
      have Db := Da.ex Xb (by simp)
      have Ba' := Ba.ex Xb (by simp)
      obtain ⟨ii, hi1, hi2, hi3, hi4⟩ := info_parts infoRow
      have o1b := o1.alloc (.cells #[.slice (some ⟨w2.heap.size, 0, none⟩) 64 64] 31)
      obtain ⟨v4, w4, hap, O4, G4, _, L4⟩ := run_append_own_at (P := Try.prog) (w3.alloc (.cells #[.slice (some ⟨w2.heap.size, 0, none⟩) 64 64] 31)) w.heap.size 47 47 31 ii _ 1 24 Try.underlying47 hi1 hi2 hi3 hi4 rfl (by omega)
        v i xs o1b ⟨w3.heap.size, 0, none⟩ 1 1 [.slice (some ⟨w2.heap.size, 0, none⟩) 64 64] rfl (fun j u hu => by rw [Addr.add_mid]; exact Bb.range0 j u hu) (by simp [Value.oneCell']) (by simp [maxLen]; omega) (by omega) (by have := X.size; have := Xb.size; omega)
      obtain ⟨g4, cap4, rfl⟩ := ownsRow_succ' O4
      have X4 := Ex.of_own (l := v.ownBlock.toList) G4 (by simp)
      have hb4 := (Db.blk.ex X4 (by simpa using fun e => (D.vav _ e).2 rfl))
      have c4 := hb4.cell
      have f4 := hb4.froz
      refine ord_val rfl (ex_append2 rfl rfl rfl hap) (fun _ => c4 0) ?_
      go_frame
      iterate 2
        refine ord_take (v := ?_) rfl ?_ ?_
        rotate_left
        · intro w' hS
          go_simp
          with_reducible rfl
        go_frame
      refine ord_skip (w' := ?_) rfl ?_ ?_ ?_
      rotate_left
      · go_simp
        first | with_reducible rfl | (refine ⟨?_, ?_⟩ <;> with_reducible rfl)
      · intro h; simp at h
      go_frame
      refine ord_nil ?_
      have X5 : Ex [w.heap.size] w4 (w4.setCell ⟨w.heap.size, 0, none⟩ (.slice (some ⟨g4, 0, none⟩) (i + 1) cap4)) := (Ex.refl _ _).setCell (.inl (by simp)) _
      have B5 := hb4.set 0 (.slice (some ⟨g4, 0, none⟩) (i + 1) cap4)
      generalize w4.setCell ⟨w.heap.size, 0, none⟩ (.slice (some ⟨g4, 0, none⟩) (i + 1) cap4) = w5 at *
      have hv4 : g4 ∉ av ∧ g4 ≠ w.heap.size ∧ g4 ≠ w2.heap.size := by
        rcases L4 with e | e
        · have hk := e.symm
          exact ⟨(D.vav g4 hk).1, (D.vav g4 hk).2, Nat.ne_of_lt (hvlt g4 hk)⟩
        · have e' : g4 = _ := Option.some.inj e
          have := Xb.size
          refine ⟨fun hm => ?_, by omega, by omega⟩
          have := hga _ hm
          omega
      have O5 := ownsRow_ex O4 X5 (fun k hk => by cases hk; simpa using hv4.2.1)
      have hs4 := X4.size
      have hs5 := X5.size
      have hsb := Xb.size
      have X35 : Ex (w.heap.size :: v.ownBlock.toList) w3 w5 := ((Xb.mono (by simp)).trans (X4.mono (by simp +contextual))).trans (X5.mono (by simp))
      have D5 : RefAt w5 w.heap.size av w.heap.size (.slice (some ⟨g4, 0, none⟩) (i + 1) cap4) (i + 1) 0 (-1) false (List.replicate (i + 1) zrow) := by
        refine ⟨B5, D.bav, D.bas, fun k hk => by cases hk; exact ⟨hv4.1, hv4.2.1⟩, by simp, _, O5, fun j y hj => ?_⟩
        by_cases hji : j = i
        · subst hji
          have hxl : xs.length = j := by have := o1.1; omega
          rw [List.getElem?_replicate, if_pos (by omega)] at hj
          cases hj
          have hw2v : v.ownBlock ≠ some w2.heap.size := fun e => by have := hvlt _ e; omega
          refine ⟨by simp, w2.heap.size, 64, by rw [List.getElem?_append_right (by omega)]; simp [hxl], ?_, fun hm => by have := hga _ hm; omega, by omega, by simpa [Value.ownBlock] using hv4.2.2, by omega⟩
          have hr : w3.rangeAt w2.heap.size 0 (zrow.map bv) := by have := Ba.range0; rwa [← zeros_arr] at this
          exact rangeAt_ex hr X35 hlt3 (by simp; exact ⟨by omega, hw2v⟩)
        · have hjl : j < i := by
            have := (List.getElem?_eq_some_iff.1 hj).1
            simp at this; omega
          obtain ⟨q0, g, c, q1, q2, q3, q4, q5, q6⟩ := o2 j y (by rw [List.getElem?_replicate, if_pos hjl]; rw [List.getElem?_replicate, if_pos (by omega)] at hj; exact hj)
          refine ⟨q0, g, c, by rw [List.getElem?_append_left (by have := o1.1; omega)]; exact q1, rangeAt_ex q2 X35 q6 (by simp; exact ⟨q4, q5⟩), q3, q4, ?_, by omega⟩
          rcases L4 with e | e
          · rw [show (Value.slice (some ⟨g4, 0, none⟩) (i + 1) cap4).ownBlock = v.ownBlock from e]; exact q5
          · rw [show (Value.slice (some ⟨g4, 0, none⟩) (i + 1) cap4).ownBlock = some _ from e]; exact fun h => by have := Option.some.inj h; omega
      have hvB : ∀ k, v.ownBlock = some k → w.heap.size ≤ k := fun k hk => (D.own.choose_spec.1.lt k hk).1
      have X6 : Ex [] w w5 := (X.trans Xa).own X35 (by simp; exact hvB)
      clear hap Da Db D X X35 X5 X4 Xa Xb
      go_wp2
      go_roundg (gk - 1)
      case measure => omega
      case rel => exact ⟨i + 1, _, by go_num, by omega, D5, X6⟩
    · obtain rfl : i = n := by omega
      go_wp2
      go_ret2
      exact ⟨rfl, ⟨v, D⟩, X⟩
end
end Go.Proofs.Ytjgkanmhmkmdeaa
