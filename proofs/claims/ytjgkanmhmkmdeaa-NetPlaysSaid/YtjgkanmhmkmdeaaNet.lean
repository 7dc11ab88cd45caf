/- The contracts of package net: what each call does to a net in memory. -/
import Derived.Test.YtjgkanmhmkmdeaaRef13
import Derived.Laws.CopyRow
import Derived.ArgAppend
namespace Go.Proofs.Ytjgkanmhmkmdeaa
open Go.RowKit Go.Ad Go.Maps
/-- A datagram as it lies in memory, and its bytes. -/
structure Dv where
  frm : Int
  to : Int
  a : Option Addr
  len : Nat
  cap : Nat
  data : List UInt8
abbrev Dv.cells (d : Dv) : List Value := [.int .i64 d.frm, .int .i64 d.to, .slice d.a d.len d.cap]
abbrev dcellsOf (ds : List Dv) : List Value := ds.flatMap Dv.cells
structure DvOk (w : World) (bad : Nat → Prop) (d : Dv) : Prop where
  bytes : BytesAt w d.a d.len d.data
  nil : d.a = none → d.cap = 0
  small : d.len ≤ 140737488351232
  apart : ∀ c o, 0 < d.len → d.a = some ⟨c, o, none⟩ → ¬ bad c
theorem bytesAt_exN {l : List Nat} {w w' : World} {a : Option Addr} {len : Nat} {xs : List UInt8} (h : BytesAt w a len xs) (hx : Ex l w w') (hl : ∀ b o, 0 < len → a = some ⟨b, o, none⟩ → b ∉ l) : BytesAt w' a len xs := by
  refine ⟨h.1, ?_⟩
  rcases h.2 with h' | ⟨b, o, h1, h2, h3⟩
  · exact .inl h'
  · by_cases h0 : 0 < len
    · exact .inr ⟨b, o, h1, Nat.lt_of_lt_of_le h2 hx.size, rangeAt_ex h3 hx h2 (hl b o h0 h1)⟩
    · exact .inl (List.eq_nil_of_length_eq_zero (by have := h.1; omega))
theorem own_shape {w : World} {base : Nat} {e : TypeId} {size : Nat} {v : Value} {n : Nat} {xs : List Value} (h : w.ownsRow base e size v n xs) : ∃ a cap, v = .slice a n cap := by
  rcases h.2 with ⟨rfl, rfl⟩ | ⟨g, cap, cur, rfl, _⟩
  · exact ⟨_, _, rfl⟩
  · exact ⟨_, _, rfl⟩
theorem ex_copy2 {P : Program} {w w' : World} {a : Act} {o : Oper} {x y : Operand} {ts : Array TypeId} (ho : o.op = .call { callee := .builtin .copy, args := #[x, y], argTypes := ts }) {v1 v2 : Value} (hx : a.eval x = v1) (hy : a.eval y = v2)
    {v : Value} (h : (Builtin.copy_ ts o.type #[v1, v2]).run P w = .ok v w') : (execOp a.eval o).run P w = .ok (.value v) w' := by
  have hm : #[x, y].map a.eval = #[v1, v2] := by simp [hx, hy]
  unfold execOp
  simp only [ho, resolve, invoke, builtin, hm, Sem.run_bind, h, Result.andThen_ok, Sem.run_pure]
theorem ex_clear1 {P : Program} {w w' : World} {a : Act} {o : Oper} {x : Operand} {ts : Array TypeId} (ho : o.op = .call { callee := .builtin .clear, args := #[x], argTypes := ts }) {v1 : Value} (hx : a.eval x = v1)
    {v : Value} (h : (Builtin.clear_ ts o.type #[v1]).run P w = .ok v w') : (execOp a.eval o).run P w = .ok (.value v) w' := by
  have hm : #[x].map a.eval = #[v1] := by simp [hx]
  unfold execOp
  simp only [ho, resolve, invoke, builtin, hm, Sem.run_bind, h, Result.andThen_ok, Sem.run_pure]
theorem Ex.setRow {w : World} {g : Nat} (cs : Array Value) : Ex [g] w (w.setRow g cs) := ⟨rfl, rfl, rfl, by simp, fun k _ hk => setRow_other w g k cs (by simpa using hk)⟩
/-- 'copy(dst, src)' of bytes into a block of the call's own that just holds them. -/
theorem copy_bytes {P : Program} {w : World} {t ty e : TypeId} (ht : P.underlying t = some (.slice e)) (hs : (P.info? e).map (·.size) = some 1) {g cap : Nat} {cur : Array Value} {tt : TypeId} (hg : Blk w g cur tt) {a : Option Addr} {len cap' : Nat} {data : List UInt8}
    (hd : BytesAt w a len data) (hcap : a = none → cap' = 0) (hc : cur.size = len) :
    ∃ v w', (Builtin.copy_ #[t, t] ty #[.slice (some ⟨g, 0, none⟩) len cap, .slice a len cap']).run P w = .ok v w' ∧ Blk w' g (data.map bv).toArray tt ∧ Ex [g] w w' := by
  obtain ⟨hl, hd⟩ := hd
  cases a with
  | none =>
    obtain rfl := hcap rfl
    rcases hd with rfl | ⟨_, _, h, _⟩
    · simp at hl
      subst hl
      obtain rfl : cur = #[] := Array.eq_empty_of_size_eq_zero hc
      exact ⟨_, w, run_copy_nil (P := P) w t t ty e ⟨g, 0, none⟩ 0 cap ht (by cases h : P.info? e <;> simp [h] at hs ⊢), hg, Ex.refl _ _⟩
    · cases h
  | some ad =>
    refine ⟨_, _, run_copy_row (P := P) w t t ty e g 0 len cap ad len cap' cur tt (data.map bv) ht hs hg (by rw [List.length_map, hl]; exact (Nat.min_self len).symm) (fun j u hu => ?_) (by simp; omega) (fun u hu => by obtain ⟨x, _, rfl⟩ := List.mem_map.1 hu; rfl), ?_, Ex.setRow _⟩
    · rcases hd with rfl | ⟨b, o, hh, _, hr⟩
      · simp at hu
      · cases hh; rw [Addr.add_mid]; exact hr j u hu
    · have := setRow_heap w g cur (List.take 0 cur.toList ++ data.map bv ++ List.drop (0 + (data.map bv).length) cur.toList).toArray tt (0, 0) hg
      have e1 : (List.take 0 cur.toList ++ data.map bv ++ List.drop (0 + (data.map bv).length) cur.toList).toArray = (data.map bv).toArray := by
        have : List.drop (0 + (data.map bv).length) cur.toList = [] := List.drop_eq_nil_of_le (by simp; omega)
        rw [this]; simp
      rw [e1] at this
      rw [e1]
      exact this
theorem setCells_blk {b : Nat} {tt : TypeId} : ∀ (vs : List Value) (o : Nat) (w : World) (cur : Array Value), Blk w b cur tt → ∃ cur' : Array Value, Blk (w.setCells b o vs) b cur' tt ∧ cur'.size = cur.size ∧ Ex [b] w (w.setCells b o vs)
  | [], _, w, cur, h => ⟨cur, h, rfl, Ex.refl _ _⟩
  | v :: r, o, w, cur, h => by
    obtain ⟨c', h1, h2, h3⟩ := setCells_blk r (o + 1) (w.setCell ⟨b, o, none⟩ v) _ (h.set o v)
    exact ⟨c', h1, by simpa using h2, ((Ex.refl [b] w).setCell (.inl (by simp)) v).trans h3⟩
/-- 'clear(s)' of a slice in a block of the call's own. -/
theorem clear_cells {P : Program} (w : World) (t e ty : TypeId) (z : Value) (ht : P.underlying t = some (.slice e)) (hv : ∀ w, (zeroValue e).run P w = .ok z w) {size : Nat} (hz : z.cells.size = size) (h1 : z.cells.all (·.oneCell') = true) (h0 : 0 < size) (b o n c : Nat) (hn : 0 < n)
    {cur : Array Value} {tt : TypeId} (hg : Blk w b cur tt) (hfit : o + n * size ≤ cur.size) :
    ∃ vs : List Value, (Builtin.clear_ #[t] ty #[.slice (some ⟨b, o, none⟩) n c]).run P w = .ok (.tuple #[]) (w.setCells b o vs) := by
  have hsz : (Builtin.zeroCells z.cells n).toList.length = n * size := by rw [Array.length_toList, size_zeroCells, hz]
  have hst := run_storeCells_cells (P := P) b o (Builtin.zeroCells z.cells n).toList 0 w (fun j hj => by
      rw [hg.cell, Nat.add_zero, Array.getElem?_eq_getElem (by omega)]; rfl) (fun j _ => hg.froz _) (fun u hu => by
      simp only [Builtin.zeroCells, Array.toList_map, List.mem_map] at hu
      obtain ⟨i, hi, rfl⟩ := hu
      have hlt : i % z.cells.size < z.cells.size := Nat.mod_lt _ (by omega)
      rw [getElem!_pos z.cells _ hlt]
      exact Array.all_eq_true.1 h1 _ hlt)
  simp only [Nat.add_zero] at hst
  obtain ⟨m, rfl⟩ : ∃ m, n = m + 1 := ⟨n - 1, by omega⟩
  exact ⟨(Builtin.zeroCells z.cells (m + 1)).toList, by simp [Builtin.clear_, run_underlying ht, hv, hst]⟩
structure NetAt (w : World) (B : Nat) (av : List Nat) (b : Nat) (v : Value) (ds : List Dv) : Prop where
  blk : Blk w b #[v] 73
  bav : b ∉ av
  bas : B ≤ b
  vav : ∀ k, v.ownBlock = some k → k ∉ av ∧ k ≠ b
  own : w.ownsRow B 58 3 v ds.length (dcellsOf ds)
  dat : ∀ d ∈ ds, DvOk w (fun c => c ∈ av ∨ c = b ∨ v.ownBlock = some c) d
theorem infoDg : (Try.prog.info? 58).map (fun i => (i.zero, i.size, i.bytes)) = some (some (.agg #[.int .i64 0, .int .i64 0, .slice none 0 0]), 3, 40) := by kernel_rfl
section
variable {w w' : World} {B : Nat} {av : List Nat} {b : Nat} {v : Value} {ds : List Dv} {i : Int}
theorem DvOk.ex {bad bad' : Nat → Prop} {d : Dv} (h : DvOk w bad d) {l : List Nat} (hx : Ex l w w') (hl : ∀ k ∈ l, k < w.heap.size → bad k) (hb : ∀ k, k < w.heap.size → bad' k → bad k) : DvOk w' bad' d := by
  by_cases h0 : 0 < d.len
  · refine ⟨bytesAt_exN h.bytes hx (fun c o h1 h2 hm => ?_), h.nil, h.small, fun c o h1 h2 hc => ?_⟩
    · have hlt : c < w.heap.size := by
        rcases h.bytes.2 with hn | ⟨c', o', e, hlt, _⟩
        · have := h.bytes.1; rw [hn] at this; simp at this; omega
        · rw [h2] at e; cases e; exact hlt
      exact h.apart c o h1 h2 (hl c hm hlt)
    · have hlt : c < w.heap.size := by
        rcases h.bytes.2 with hn | ⟨c', o', e, hlt, _⟩
        · have := h.bytes.1; rw [hn] at this; simp at this; omega
        · rw [h2] at e; cases e; exact hlt
      exact h.apart c o h1 h2 (hb c hlt hc)
  · refine ⟨⟨h.bytes.1, .inl (List.eq_nil_of_length_eq_zero (by have := h.bytes.1; omega))⟩, h.nil, h.small, fun c o h1 => absurd h1 h0⟩
theorem NetAt.ex (h : NetAt w B av b v ds) {l : List Nat} (hx : Ex l w w') (hl : ∀ k ∈ l, k ∈ av) : NetAt w' B av b v ds :=
  ⟨h.blk.ex hx (fun hm => h.bav (hl _ hm)), h.bav, h.bas, h.vav, ownsRow_ex h.own hx (fun k hk hm => (h.vav k hk).1 (hl k hm)), fun d hd => (h.dat d hd).ex hx (fun k hk _ => .inl (hl k hk)) (fun _ _ h => h)⟩
theorem NetNew_any (hB : B ≤ w.heap.size) (hav : ∀ k ∈ av, k < w.heap.size) :
    Calls Try.prog 25 #[] w fun e w' => e = .returned (ptr w.heap.size) ∧ NetAt w' B av w.heap.size (.slice none 0 0) [] ∧ Ex [] w w' := by
  go_enter Try.func25, Try.ntmps25
  go_wp2
  go_ret
  exact ⟨rfl, ⟨Blk.new w _ _, fun hm => by have := hav _ hm; omega, hB, by simp [Value.ownBlock], World.ownsRow_nil _ _ _ _, by simp⟩, (Ex.refl _ _).alloc _⟩
theorem NetLen_any (D : NetAt w B av b v ds) : Calls Try.prog 32 #[ptr b] w fun e w' => e = .returned (.int .i64 (ds.length : Int)) ∧ w = w' := by
  have c := D.blk.cell
  obtain ⟨a, cap, rfl⟩ := own_shape D.own
  go_enter Try.func32, Try.ntmps32
  go_wp2
  go_ret
  exact ⟨rfl, rfl⟩
theorem NetPlace_none (D : NetAt w B av b v []) : Calls Try.prog 34 #[ptr b, .int .i64 i] w fun e w' => e = .returned (.tuple #[.int .i64 0, .bool false]) ∧ w = w' := by
  have c := D.blk.cell
  obtain ⟨a, cap, rfl⟩ := own_shape D.own
  go_enter Try.func34, Try.ntmps34
  go_wp2
  go_ret2
  exact ⟨rfl, rfl⟩
theorem NetPlace_some (D : NetAt w B av b v ds) (h0 : 0 < ds.length) (h1 : ds.length ≤ 1000000) : Calls Try.prog 34 #[ptr b, .int .i64 i] w fun e w' => e = .returned (.tuple #[.int .i64 (i % (ds.length : Int)), .bool true]) ∧ w = w' := by
  have c := D.blk.cell
  obtain ⟨a, cap, rfl⟩ := own_shape D.own
  generalize ds.length = n at *
  have hne : ((n : Int) == 0) = false := by rw [beq_eq_false_iff_ne]; omega
  have hz : (0 : Int) < (n : Int) := by omega
  go_enter Try.func34, Try.ntmps34
  go_wp2
  go_ret2
  refine ⟨?_, rfl⟩
  have h2 := Int.tmod_lt_of_pos i hz
  have h3 : -(n : Int) < i.tmod n := by have := Int.lt_tmod_of_pos i hz; omega
  rw [wrap64_id (by omega) (by omega)]
  have h4 : (i.tmod n + n).tmod n = i % n := by
    rw [Int.tmod_eq_emod_of_nonneg (by omega), Int.add_emod_right]
    have := Int.tmod_eq_emod (a := i) (b := n)
    rw [this]
    split
    · simp
    · rw [Int.sub_emod]; simp
  rw [h4]
  rfl
set_option maxHeartbeats 800000 in
theorem NetTwin_ok {bad : Nat → Prop} (d : Dv) (h : DvOk w bad d) : Calls Try.prog 33 #[.agg d.cells.toArray] w fun e w' => ∃ g, w.heap.size ≤ g ∧ e = .returned (.agg #[.int .i64 d.frm, .int .i64 d.to, .slice (some ⟨g, 0, none⟩) d.len d.len]) ∧ BytesAt w' (some ⟨g, 0, none⟩) d.len d.data ∧ Ex [] w w' := by
  obtain ⟨frm, to, a, len, cap, data⟩ := d
  simp only [Dv.cells] at *
  have hsm : len ≤ 140737488351232 := h.small
  have hz : (Array.replicate len (Value.int .u8 0)).size = len := by simp
  have B0 := ((Blk.new w #[.int .i64 frm, .int .i64 to, .slice a len cap] 58).alloc (.cells #[.int .i64 0, .int .i64 0, .slice none 0 0] 58)).alloc (.cells (Array.replicate len (.int .u8 0)) 5)
  have B1 := (Blk.new (w.alloc (.cells #[.int .i64 frm, .int .i64 to, .slice a len cap] 58)) #[.int .i64 0, .int .i64 0, .slice none 0 0] 58).alloc (.cells (Array.replicate len (.int .u8 0)) 5)
  have B2 := Blk.new ((w.alloc (.cells #[.int .i64 frm, .int .i64 to, .slice a len cap] 58)).alloc (.cells #[.int .i64 0, .int .i64 0, .slice none 0 0] 58)) (Array.replicate len (.int .u8 0)) 5
  have X3 : Ex [] w (((w.alloc (.cells #[.int .i64 frm, .int .i64 to, .slice a len cap] 58)).alloc (.cells #[.int .i64 0, .int .i64 0, .slice none 0 0] 58)).alloc (.cells (Array.replicate len (.int .u8 0)) 5)) := (((Ex.refl _ _).alloc _).alloc _).alloc _
  simp only [World.size_alloc] at B1 B2
  obtain ⟨vc, wc, hcp, Bc, Xc⟩ := copy_bytes (P := Try.prog) (ty := 3) (cap := len) Try.underlying31 (by kernel_rfl) B2 (bytesAt_exN h.bytes X3 (by simp)) h.nil hz
  have Hcp := Lib.hid hcp
  have H0 := Lib.hid (B0.ex Xc (by simp; omega))
  have H1 := Lib.hid (B1.ex Xc (by simp))
  have HX := Lib.hid X3
  have HXc := Lib.hid Xc
  have Hc := Lib.hid Bc
  have hlen : data.length = len := h.bytes.1
  clear h hcp Bc Xc X3 B0 B1 B2 hz
  go_enter Try.func33, Try.ntmps33
  go_wp2_with (first | (refine G_val rfl (ex_make1 (n := (len : Int)) rfl rfl rfl Try.underlying31 infoU8 rfl (by omega) (by omega) (by omega)) ?_) | (refine G_val rfl (ex_copy2 rfl rfl rfl Hcp.out) ?_; have c0 := H0.out.cell; have c1 := H1.out.cell; have f0 := H0.out.froz; have f1 := H1.out.froz))
  have hb : Blk _ (w.heap.size + 1) #[.int .i64 frm, .int .i64 to, .slice (some ⟨w.heap.size + 1 + 1, 0, none⟩) len len] 58 :=
    ((((H1.out.set_other (p := ⟨w.heap.size, 2, none⟩) (by simp) (.slice (some ⟨w.heap.size + 1 + 1, 0, none⟩) len len)).set 0 (.int .i64 frm)).set 1 (.int .i64 to)).set 2 (.slice (some ⟨w.heap.size + 1 + 1, 0, none⟩) len len))
  have X4 : Ex [w.heap.size, w.heap.size + 1] wc _ := (((((Ex.refl [w.heap.size, w.heap.size + 1] wc).setCell (p := ⟨w.heap.size, 2, none⟩) (.inl (by simp)) (.slice (some ⟨w.heap.size + 1 + 1, 0, none⟩) len len)).setCell (p := ⟨w.heap.size + 1, 0, none⟩) (.inl (by simp)) (.int .i64 frm)).setCell (p := ⟨w.heap.size + 1, 1, none⟩) (.inl (by simp)) (.int .i64 to)).setCell (p := ⟨w.heap.size + 1, 2, none⟩) (.inl (by simp)) (.slice (some ⟨w.heap.size + 1 + 1, 0, none⟩) len len))
  refine bodyPost_ret (results_cell_row rfl _ _ (w.heap.size + 1) _ _ _ _ rfl hb Try.underlying58 rfl (by kernel_rfl)) rfl ?_
  exact ⟨_, by omega, rfl, (Hc.out.bytes hlen).ex X4 (by simp; omega), (HX.out.own HXc.out (by simp; omega)).own X4 (by simp)⟩
set_option maxHeartbeats 1600000 in
theorem NetDelete_ok {g cap n k : Nat} {xs : List Value} (O : w.ownsRow B 58 3 (.slice (some ⟨g, 0, none⟩) n cap) n xs) (hxs : xs.all (·.oneCell') = true) (hk : k < n) (hn : n ≤ 1000000) :
    Calls Try.prog 35 #[.slice (some ⟨g, 0, none⟩) n cap, .int .i64 (k : Int), .int .i64 ((k : Int) + 1)] w fun e w' => e = .returned (.slice (some ⟨g, 0, none⟩) (n - 1) cap) ∧
      w'.ownsRow B 58 3 (.slice (some ⟨g, 0, none⟩) (n - 1) cap) (n - 1) (xs.take (3 * k) ++ xs.drop (3 * (k + 1))) ∧ Ex [g] w w' := by
  obtain ⟨hl, ⟨h0, _⟩ | ⟨g', cap', cur, hv, hB, hg, hnc, hcm, hcs, htk⟩⟩ := O
  · cases h0
  cases hv
  have hg : Blk w g cur 58 := hg
  have hk1 : (k : Int) < n := by omega
  have hk2 : (k : Int) + 1 ≤ n := by omega
  have hc1 : (n : Int) ≤ cap := by omega
  go_enter Try.func35, Try.ntmps35
  go_wp2_with fail
  refine wp_region_ord (fun _ => True) [] [(0, true), (1, true), (2, true), (3, true), (4, true), (5, true), (6, false), (7, true)]
    (by kernel_rfl) (by kernel_rfl) (by kernel_rfl) (by kernel_rfl) rfl (by intro c a d v w h; cases d <;> exact h) trivial ?_
  simp only [mkOrd, List.filterMap_cons, List.filterMap_nil, List.getElem?_toArray, List.getElem?_cons_zero, List.getElem?_cons_succ, Option.map_some]
  have i1 : k ≤ cap := by omega
  have i2 : (0 : Int) ≤ (k : Int) + 1 := by omega
  have H1 := Lib.hid hg
  have Htk := Lib.hid htk
  have Hcs := Lib.hid hcs
  have Hxs := Lib.hid hxs
  obtain ⟨A, hA, hsrc⟩ : ∃ A : Addr, (if cap = k + 1 then (some ⟨g, 0, none⟩ : Option Addr) else some ⟨g, (k + 1) * 3, none⟩) = some A ∧ Hid (∀ j u, (xs.drop (3 * (k + 1)))[j]? = some u → w.drew.cell? (A.add j) = some u) := by
    by_cases h : cap = k + 1
    · refine ⟨⟨g, 0, none⟩, by simp [h], fun j u hu => ?_⟩
      rw [List.drop_eq_nil_of_le (by omega)] at hu
      simp at hu
    · refine ⟨⟨g, (k + 1) * 3, none⟩, by simp [h], fun j u hu => ?_⟩
      rw [Addr.add_mid]
      show w.cell? _ = _
      rw [hg.cell, ← hu, List.getElem?_drop, ← htk, List.getElem?_take, if_pos]
      · simp only [Array.getElem?_toList]; congr 1; omega
      · rw [List.getElem?_drop] at hu
        have := (List.getElem?_eq_some_iff.1 hu).1
        omega
  clear hg htk hcs hxs
  iterate 6
    refine ord_take (v := ?_) rfl ?_ ?_
    rotate_left
    · intro w' hS
      go_simp
      try simp only [if_pos i1, if_pos i2, hA]
      with_reducible rfl
    go_frame
  obtain ⟨ii, hi1, hi2, hi3, hi4⟩ := info_parts infoDg
  have happ := run_append_room_cells (P := Try.prog) (w := w.drew) 54 54 58 ii Try.underlying54 hi1 g 0 k cap A (n - (k + 1)) (cap - (k + 1)) (xs.drop (3 * (k + 1))) (by rw [hi3, List.length_drop]; omega) hsrc.out
    (fun u hu => List.all_eq_true.1 Hxs.out u (List.mem_of_mem_drop hu)) (by omega) (fun j hj => by
      rw [List.length_drop] at hj
      show (w.cell? _).isSome = true
      rw [H1.out.cell, hi3, Array.getElem?_eq_getElem (by have := Hcs.out; omega)]; rfl) (fun j _ => H1.out.froz _)
  rw [hi3] at happ
  obtain ⟨cur1, E1, E2, E3⟩ := setCells_blk (xs.drop (3 * (k + 1))) (0 + k * 3) w.drew cur (tt := 58) H1.out
  refine ord_val rfl (ex_append2 rfl rfl rfl happ) (fun _ => trivial) ?_
  go_frame
  iterate 1
    refine ord_take (v := ?_) rfl ?_ ?_
    rotate_left
    · intro w' hS
      go_simp
      with_reducible rfl
    go_frame
  refine ord_nil ?_
  have e : k + (n - (k + 1)) = n - 1 := by omega
  rw [e]
  have hcell : ∀ j, j < 3 * (n - 1) → (w.drew.setCells g (0 + k * 3) (xs.drop (3 * (k + 1)))).cell? ⟨g, j, none⟩ = (xs.take (3 * k) ++ xs.drop (3 * (k + 1)))[j]? := by
    intro j hj
    have hsz := Hcs.out
    by_cases hjk : j < 3 * k
    · rw [World.cell?_setCells_out g _ _ _ _ (fun _ _ => .inl (by simp only []; omega)), List.getElem?_append_left (by rw [List.length_take]; omega)]
      show w.cell? _ = _
      rw [H1.out.cell, List.getElem?_take, if_pos hjk, ← Htk.out, List.getElem?_take, if_pos (by omega)]
      simp
    · obtain ⟨q, rfl⟩ : ∃ q, j = 0 + k * 3 + q := ⟨j - k * 3, by omega⟩
      have hq : q < (xs.drop (3 * (k + 1))).length := by rw [List.length_drop]; omega
      rw [World.cell?_setCells_in g _ _ _ (fun j hj => by
        rw [List.length_drop] at hj
        show (w.cell? _).isSome = true
        rw [H1.out.cell, Array.getElem?_eq_getElem (by omega)]; rfl) q hq, List.getElem?_append_right (by rw [List.length_take]; omega), List.length_take, Nat.min_eq_left (by omega)]
      rw [show 0 + k * 3 + q - 3 * k = q by omega, List.getElem?_eq_getElem hq]
  generalize w.drew.setCells g (0 + k * 3) (xs.drop (3 * (k + 1))) = w1 at *
  have hsz1 : cur1.size = cap * 3 := by rw [E2]; exact Hcs.out
  obtain ⟨vs, hcl⟩ := clear_cells (P := Try.prog) w1 54 58 0 _ Try.underlying54 (fun w => (by kernel_rfl : (zeroValue 58).run Try.prog w = .ok (.agg #[.int .i64 0, .int .i64 0, .slice none 0 0]) w)) (size := 3) rfl (by simp [Value.cells, Value.oneCell']) (by omega) g ((n - 1) * 3) 1 (cap - (n - 1)) (by omega) E1 (by omega)
  obtain ⟨cur2, F1, F2, F3⟩ := setCells_blk vs ((n - 1) * 3) w1 cur1 E1
  have hcell2 : ∀ j, j < 3 * (n - 1) → (w1.setCells g ((n - 1) * 3) vs).cell? ⟨g, j, none⟩ = (xs.take (3 * k) ++ xs.drop (3 * (k + 1)))[j]? := fun j hj => by
    rw [World.cell?_setCells_out g _ _ _ _ (fun _ _ => .inl (by simp only []; omega))]; exact hcell j hj
  have j1 : n - 1 ≤ n := by omega
  have j2 : n ≤ cap := by omega
  have j3 : ¬ cap = n - 1 := by omega
  have j4 : n - (n - 1) = 1 := by omega
  have Hcl := Lib.hid hcl
  have Hcell := Lib.hid hcell2
  clear happ hcl hcell hcell2 hsrc E1 E2
  go_wp2_with (refine G_val rfl (ex_clear1 rfl rfl Hcl.out) ?_)
  go_ret
  refine ⟨rfl, ⟨by simp only [List.length_append, List.length_take, List.length_drop]; omega, .inr ⟨g, cap, cur2, rfl, hB, F1, by omega, hcm, by rw [F2, hsz1], ?_⟩⟩, (Ex.of_drew E3).trans F3⟩
  apply List.ext_getElem?
  intro j
  by_cases hj : j < (n - 1) * 3
  · rw [List.getElem?_take, if_pos hj]
    have := Hcell.out j (by omega)
    rw [F1.cell] at this
    simpa using this
  · rw [List.getElem?_eq_none (by rw [List.length_take]; omega), List.getElem?_eq_none (by simp only [List.length_append, List.length_take, List.length_drop]; omega)]
theorem dcells_length : ∀ ds : List Dv, (dcellsOf ds).length = ds.length * 3
  | [] => rfl
  | d :: r => by simp only [dcellsOf, List.flatMap_cons, List.length_append, List.length_cons, List.length_nil] at *; have := dcells_length r; simp only [dcellsOf] at this; omega
theorem dcells_one : ∀ ds : List Dv, (dcellsOf ds).all (·.oneCell') = true
  | [] => rfl
  | d :: r => by
    have := dcells_one r
    simp only [dcellsOf, List.flatMap_cons, List.all_append, Bool.and_eq_true] at *
    exact ⟨by simp [Value.oneCell'], this⟩
theorem dcells_erase : ∀ (ds : List Dv) (k : Nat), k < ds.length → dcellsOf (ds.eraseIdx k) = (dcellsOf ds).take (3 * k) ++ (dcellsOf ds).drop (3 * (k + 1))
  | [], _, h => by simp at h
  | d :: r, 0, _ => by simp [dcellsOf]
  | d :: r, k + 1, h => by
    have ih := dcells_erase r k (by simpa using h)
    have e1 : (dcellsOf (d :: r)).take (3 * (k + 1)) = d.cells ++ (dcellsOf r).take (3 * k) := by
      simp only [dcellsOf, List.flatMap_cons]
      rw [List.take_append, List.take_of_length_le (by simp; omega)]
      simp [show 3 * (k + 1) - 3 = 3 * k by omega]
    have e2 : (dcellsOf (d :: r)).drop (3 * (k + 1 + 1)) = (dcellsOf r).drop (3 * (k + 1)) := by
      simp only [dcellsOf, List.flatMap_cons]
      rw [List.drop_append]
      simp [show 3 * (k + 1 + 1) - 3 = 3 * (k + 1) by omega]
      omega
    rw [e1, e2, List.append_assoc, ← ih]
    simp [dcellsOf]
theorem dcells_at : ∀ (ds : List Dv) (k t : Nat) (d : Dv), ds[k]? = some d → t < 3 → (dcellsOf ds)[k * 3 + t]? = d.cells[t]?
  | [], _, _, _, h, _ => by simp at h
  | d0 :: r, 0, t, d, h, ht => by
    simp only [List.getElem?_cons_zero, Option.some.injEq] at h
    subst h
    simp only [dcellsOf, List.flatMap_cons, Nat.zero_mul, Nat.zero_add]
    rw [List.getElem?_append_left (by simpa using ht)]
  | d0 :: r, k + 1, t, d, h, ht => by
    simp only [List.getElem?_cons_succ] at h
    have ih := dcells_at r k t d h ht
    simp only [dcellsOf, List.flatMap_cons] at *
    rw [List.getElem?_append_right (by simp; omega)]
    rw [← ih]
    congr 1
    simp only [List.length_cons, List.length_nil]
    omega
end
theorem results_cell_row_tmp {P : Program} {fn : Func} {p u : Tmp} {ty : TypeId} (h : fn.results = #[.cell p ty, .tmp u]) (tmps : Array Value) (w : World) (g : Nat) (t : TypeId) (cs : Array Value) (d : TypeDesc)
    (hp : tmps.getD p undef = .pointer (some ⟨g, 0, none⟩)) (hg : Blk w g cs t) (hu : P.underlying ty = some d) (hd : (match d with | .struct _ | .array _ _ => true | _ => false) = true) (hi : (P.info? ty).map (·.size) = some cs.size) :
    (results fn tmps).run P w = .ok (.tuple #[.agg cs, tmps.getD u undef]) w := by
  rw [results_cell_tmp h, hp]
  simp [asAddr, run_loadVar_row w g t ty cs (0, 0) d hg hu hd hi, Result.andThen]
theorem store3 {w : World} {g : Nat} {t : TypeId} {a b c : Value} (h : Blk w g #[a, b, c] t) (x y z : Value) :
    Blk (((w.setCell ⟨g, 0, none⟩ x).setCell ⟨g, 1, none⟩ y).setCell ⟨g, 2, none⟩ z) g #[x, y, z] t ∧ Ex [g] w (((w.setCell ⟨g, 0, none⟩ x).setCell ⟨g, 1, none⟩ y).setCell ⟨g, 2, none⟩ z) :=
  ⟨((h.set 0 x).set 1 y).set 2 z, (((Ex.refl _ _).setCell (p := ⟨g, 0, none⟩) (.inl (by simp)) x).setCell (p := ⟨g, 1, none⟩) (.inl (by simp)) y).setCell (p := ⟨g, 2, none⟩) (.inl (by simp)) z⟩
section
variable {w w' : World} {B : Nat} {av : List Nat} {b : Nat} {v : Value} {ds : List Dv} {i : Int}
set_option maxHeartbeats 800000 in
theorem NetDeliver_none (D : NetAt w B av b v []) :
    Calls Try.prog 28 #[ptr b, .int .i64 i] w fun e w' => e = .returned (.tuple #[.agg #[.int .i64 0, .int .i64 0, .slice none 0 0], .int .i64 2]) ∧ Ex [] w w' := by
  have D1 := D.ex (l := []) ((Ex.refl _ _).alloc (.cells #[.int .i64 0, .int .i64 0, .slice none 0 0] 58)) (by simp)
  go_enter Try.func28, Try.ntmps28
  go_wp2_with fail
  with_reducible refine (NetPlace_none D1).mono ?_
  rintro e w1 ⟨rfl, rfl⟩
  have B1 := Blk.new w #[.int .i64 0, .int .i64 0, .slice none 0 0] 58
  have X1 : Ex [] w (w.alloc (.cells #[.int .i64 0, .int .i64 0, .slice none 0 0] 58)) := (Ex.refl _ _).alloc _
  generalize w.alloc (.cells #[.int .i64 0, .int .i64 0, .slice none 0 0] 58) = w1 at *
  have c1 := B1.cell
  have f1 := B1.froz
  go_wp2_with fail
  obtain ⟨hb, X2⟩ := store3 B1 (.int .i64 0) (.int .i64 0) (.slice none 0 0)
  refine bodyPost_ret (results_cell_row_tmp rfl _ _ w.heap.size _ _ _ rfl hb Try.underlying58 rfl (by kernel_rfl)) rfl ?_
  exact ⟨rfl, X1.own X2 (by simp)⟩
theorem NetAt.lt (D : NetAt w B av b v ds) : b < w.heap.size ∧ ∀ k, v.ownBlock = some k → B ≤ k ∧ k < w.heap.size := ⟨D.blk.lt, D.own.lt⟩
set_option maxHeartbeats 1600000 in
theorem NetDeliver_ok (D : NetAt w B av b v ds) (h0 : 0 < ds.length) (h1 : ds.length ≤ 1000000) :
    Calls Try.prog 28 #[ptr b, .int .i64 i] w fun e w' => ∃ d v', ds[(i % (ds.length : Int)).toNat]? = some d ∧ e = .returned (.tuple #[.agg d.cells.toArray, .int .i64 0]) ∧
      NetAt w' B av b v' (ds.eraseIdx (i % (ds.length : Int)).toNat) ∧ DvOk w' (fun c => c ∈ av ∨ c = b ∨ v'.ownBlock = some c) d ∧ Ex (b :: v.ownBlock.toList) w w' := by
  have D1 := D.ex (l := []) ((Ex.refl _ _).alloc (.cells #[.int .i64 0, .int .i64 0, .slice none 0 0] 58)) (by simp)
  have hi0 := Int.emod_nonneg i (show (ds.length : Int) ≠ 0 by omega)
  have hi1 := Int.emod_lt_of_pos i (show (0 : Int) < ds.length by omega)
  have hlt := D.lt
  go_enter Try.func28, Try.ntmps28
  go_wp2_with fail
  with_reducible refine (NetPlace_some D1 h0 h1).mono ?_
  rintro e w1 ⟨rfl, rfl⟩
  obtain ⟨k, hk⟩ := Int.eq_ofNat_of_zero_le hi0
  rw [hk] at hi1 ⊢
  have hkl : k < ds.length := by omega
  obtain ⟨d, hd⟩ : ∃ d, ds[k]? = some d := ⟨ds[k], by simp⟩
  have B1 := Blk.new w #[.int .i64 0, .int .i64 0, .slice none 0 0] 58
  have X1 : Ex [] w (w.alloc (.cells #[.int .i64 0, .int .i64 0, .slice none 0 0] 58)) := (Ex.refl _ _).alloc _
  generalize w.alloc (.cells #[.int .i64 0, .int .i64 0, .slice none 0 0] 58) = w1 at *
  obtain ⟨g, cap, rfl⟩ : ∃ g cap, v = .slice (some ⟨g, 0, none⟩) ds.length cap := by
    rcases D1.own.2 with ⟨_, h⟩ | ⟨g, cap, cur, h, _⟩
    · omega
    · exact ⟨g, cap, h⟩
  have c1 := B1.cell
  have f1 := B1.froz
  have cb := D1.blk.cell
  have ce : ∀ t, t < 3 → w1.cell? ⟨g, k * 3 + t, none⟩ = d.cells[t]? := fun t ht => by rw [D1.own.cellAt _ (by omega), dcells_at ds k t d hd ht]
  have ce0 := ce 0 (by omega)
  have ce1 := ce 1 (by omega)
  have ce2 := ce 2 (by omega)
  simp only [List.getElem?_cons_zero, List.getElem?_cons_succ, Nat.add_zero] at ce0 ce1 ce2
  have hkl2 : (k : Int) < ds.length := by omega
  clear ce
  have cba := (D1.blk.alloc (.cells #[.int .i64 d.frm, .int .i64 d.to, .slice d.a d.len d.cap] 58)).cell
  go_wp2_with fail
  have B2 := Blk.new w1 #[.int .i64 d.frm, .int .i64 d.to, .slice d.a d.len d.cap] 58
  have X2 : Ex [] w1 (w1.alloc (.cells #[.int .i64 d.frm, .int .i64 d.to, .slice d.a d.len d.cap] 58)) := (Ex.refl _ _).alloc _
  have D2 := D1.ex X2 (by simp)
  have hs1 := B1.lt
  have hs2 := B2.lt
  have B1' := B1.ex X2 (by simp)
  generalize w1.alloc (.cells #[.int .i64 d.frm, .int .i64 d.to, .slice d.a d.len d.cap] 58) = w2 at *
  clear cba cb ce0 ce1 ce2 c1 f1
  with_reducible refine (NetDelete_ok D2.own (dcells_one ds) hkl h1).mono ?_
  rintro e w3 ⟨rfl, O3, X3⟩
  have hvb := D.vav g rfl
  have hvl := hlt.2 g rfl
  have hbl := hlt.1
  have E3 := D2.blk.ex X3 (by simpa using Ne.symm hvb.2)
  have B13 := B1'.ex X3 (by simp; omega)
  have B23 := B2.ex X3 (by simp; omega)
  have cb := E3.cell
  have fb := E3.froz
  have E4 := E3.set 0 (.slice (some ⟨g, 0, none⟩) (ds.length - 1) cap)
  have X4 : Ex [b] w3 (w3.setCell ⟨b, 0, none⟩ (.slice (some ⟨g, 0, none⟩) (ds.length - 1) cap)) := (Ex.refl _ _).setCell (.inl (by simp)) _
  have B14 := B13.ex X4 (by simp; omega)
  have B24 := B23.ex X4 (by simp; omega)
  have c4 := B24.cell
  have c5 := B14.cell
  have f5 := B14.froz
  go_wp2_with fail
  obtain ⟨hb5, X5⟩ := store3 B14 (.int .i64 d.frm) (.int .i64 d.to) (.slice d.a d.len d.cap)
  refine bodyPost_ret (results_cell_row_tmp rfl _ _ w.heap.size _ _ _ rfl hb5 Try.underlying58 rfl (by kernel_rfl)) rfl ?_
  have X05 := (((((X1.trans X2).mono (l' := [b, g]) (by simp)).trans (X3.mono (by simp))).trans (X4.mono (by simp))).own X5 (by simp))
  have X45 := (X4.mono (l' := [b, w.heap.size]) (by simp)).trans (X5.mono (by simp))
  refine ⟨d, .slice (some ⟨g, 0, none⟩) (ds.length - 1) cap, by rw [hk]; simpa using hd, rfl, ⟨E4.ex X5 (by simp; omega), D.bav, D.bas, D.vav, ?_, fun d' hd' => ?_⟩, ?_, X05.mono (by simp [Value.ownBlock])⟩
  · rw [hk, Int.toNat_natCast, List.length_eraseIdx_of_lt hkl, dcells_erase ds k hkl]
    exact ownsRow_ex O3 X45 (fun x hx => by cases hx; simp; omega)
  · exact (D.dat d' (List.mem_of_mem_eraseIdx hd')).ex X05 (fun x hx _ => by simp only [List.mem_cons, List.not_mem_nil, or_false] at hx; rcases hx with rfl | rfl; exact .inr (.inl rfl); exact .inr (.inr rfl)) (fun _ _ h => h)
  · exact (D.dat d (List.mem_of_getElem? hd)).ex X05 (fun x hx _ => by simp only [List.mem_cons, List.not_mem_nil, or_false] at hx; rcases hx with rfl | rfl; exact .inr (.inl rfl); exact .inr (.inr rfl)) (fun _ _ h => h)
theorem NetDrop_none (D : NetAt w B av b v []) :
    Calls Try.prog 30 #[ptr b, .int .i64 i] w fun e w' => e = .returned (.int .i64 2) ∧ Ex [] w w' := by
  go_enter Try.func30, Try.ntmps30
  go_wp2_with fail
  with_reducible refine (NetDeliver_none D).mono ?_
  rintro e w1 ⟨rfl, X1⟩
  go_wp2_with fail
  go_ret
  exact ⟨rfl, X1.alloc _⟩
theorem NetDrop_ok (D : NetAt w B av b v ds) (h0 : 0 < ds.length) (h1 : ds.length ≤ 1000000) :
    Calls Try.prog 30 #[ptr b, .int .i64 i] w fun e w' => ∃ v', e = .returned (.int .i64 0) ∧
      NetAt w' B av b v' (ds.eraseIdx (i % (ds.length : Int)).toNat) ∧ Ex (b :: v.ownBlock.toList) w w' := by
  go_enter Try.func30, Try.ntmps30
  go_wp2_with fail
  with_reducible refine (NetDeliver_ok D h0 h1).mono ?_
  rintro e w1 ⟨d, v', hd, rfl, D1, _, X1⟩
  go_wp2_with fail
  go_ret
  exact ⟨v', rfl, D1.ex ((Ex.refl [] _).alloc _) (by simp), X1.alloc _⟩
/-- What a datagram says. -/
abbrev Dv.key (d : Dv) : Int × Int × List UInt8 := (d.frm, d.to, d.data)
/-- The datagrams that are to be sent. -/
def RowAt (w : World) (sb so : Nat) (es : List Dv) : Prop := ∀ j d, es[j]? = some d → w.cell? ⟨sb, so + j * 3, none⟩ = some (.int .i64 d.frm) ∧ w.cell? ⟨sb, so + j * 3 + 1, none⟩ = some (.int .i64 d.to) ∧ w.cell? ⟨sb, so + j * 3 + 2, none⟩ = some (.slice d.a d.len d.cap)
theorem RowAt.ex {sb so : Nat} {es : List Dv} (h : RowAt w sb so es) {l : List Nat} (hx : Ex l w w') (hb : sb < w.heap.size) (hl : sb ∉ l) : RowAt w' sb so es := fun j d hd => by
  obtain ⟨h1, h2, h3⟩ := h j d hd
  exact ⟨by rw [hx.cell (p := ⟨sb, _, none⟩) hb hl]; exact h1, by rw [hx.cell (p := ⟨sb, _, none⟩) hb hl]; exact h2, by rw [hx.cell (p := ⟨sb, _, none⟩) hb hl]; exact h3⟩
def SendI (w : World) (B : Nat) (av : List Nat) (b : Nat) (v : Value) (ds es : List Dv) (k : Nat) (vi : Value) (wr : World) : Prop :=
  ∃ (j : Nat) (v' : Value) (es' : List Dv), vi = .int .i64 (j : Int) ∧ j + k = es.length ∧ es'.map Dv.key = (es.take j).map Dv.key ∧ NetAt wr B av b v' (ds ++ es') ∧ Ex (b :: v.ownBlock.toList) w wr ∧
    (v'.ownBlock = v.ownBlock ∨ ∃ x, v'.ownBlock = some x ∧ w.heap.size ≤ x) ∧ ∀ d ∈ es, DvOk wr (fun c => c = b ∨ v'.ownBlock = some c) d
set_option maxHeartbeats 1600000 in
theorem NetSend_ok {sb so : Nat} {sc : Nat} {es : List Dv} (D : NetAt w B (sb :: av) b v ds) (hB : B ≤ w.heap.size) (hav : ∀ k ∈ av, k < w.heap.size) (hsb : sb < w.heap.size) (R : RowAt w sb so es) (he : ∀ d ∈ es, DvOk w (fun c => c = b ∨ v.ownBlock = some c) d) (h1 : ds.length + es.length ≤ 1000000) :
    Calls Try.prog 27 #[ptr b, .slice (some ⟨sb, so, none⟩) es.length sc] w fun e w' => ∃ v' es', e = .returned (.tuple #[]) ∧ es'.map Dv.key = es.map Dv.key ∧ NetAt w' B (sb :: av) b v' (ds ++ es') ∧ Ex (b :: v.ownBlock.toList) w w' := by
  have hvb := D.vav
  have hbs := D.bav
  have hvl := D.own.lt
  have hbl := D.blk.lt
  go_enter Try.func27, Try.ntmps27
  go_wp2_with fail
  go_loopg [8] es.length (fun k vi wr => SendI w B (sb :: av) b v ds es k vi wr)
  case atStart => exact ⟨0, v, [], rfl, by omega, by simp, by simpa using D, Ex.refl _ _, .inl rfl, he⟩
  case round =>
    obtain ⟨j, v', es', rfl, hk, hkey, D2, X2, L2, E2⟩ := hrel
    by_cases hjl : (j : Int) < es.length
    · obtain ⟨d, hd⟩ : ∃ d, es[j]? = some d := ⟨es[j], by simp⟩
      have R2 := R.ex X2 hsb (by
        simp only [List.mem_cons, Option.mem_toList, not_or]
        exact ⟨fun e => hbs (by simp [e]), fun e => (hvb sb e).1 (by simp)⟩)
      obtain ⟨r0, r1, r2⟩ := R2 j d hd
      go_wp2_with fail
      generalize hL : ds ++ es' = L at *
      obtain ⟨va, vc, rfl⟩ := own_shape D2.own
      have hvl' := D2.own.lt
      have hvb' := D2.vav
      have hd' : d ∈ es := List.mem_of_getElem? hd
      have B3 := Blk.new wr d.cells.toArray 58
      have X3 : Ex [] wr (wr.alloc (.cells d.cells.toArray 58)) := (Ex.refl _ _).alloc _
      have hwr := X2.size
      have D3 := D2.ex X3 (by simp)
      generalize wr.alloc (.cells d.cells.toArray 58) = w3 at *
      have c0 := D3.blk.cell 0
      have c1 := B3.cell
      refine wp_region_ord (fun w' => w'.cell? ⟨b, 0, none⟩ = some (.slice va L.length vc) ∧ w'.cell? ⟨wr.heap.size, 0, none⟩ = some (.int .i64 d.frm) ∧ w'.cell? ⟨wr.heap.size, 1, none⟩ = some (.int .i64 d.to) ∧ w'.cell? ⟨wr.heap.size, 2, none⟩ = some (.slice d.a d.len d.cap)) [11] [(0, true), (1, true), (2, true), (3, true), (4, true), (5, true), (6, false), (7, false), (8, false), (9, true), (10, true), (11, false)]
        (by kernel_rfl) (by kernel_rfl) (by kernel_rfl) (by kernel_rfl) rfl (by intro c a d v w h; cases d <;> exact h) ⟨c0, c1 0, c1 1, c1 2⟩ ?_
      simp only [mkOrd, List.filterMap_cons, List.filterMap_nil, List.getElem?_toArray, List.getElem?_cons_zero, List.getElem?_cons_succ, Option.map_some]
      replace D3 := D3.ex ((Ex.refl [] w3).drew) (by simp)
      replace B3 := B3.drew
      replace X3 := X3.drew
      have E3 := (E2 d hd').ex X3 (by simp) (fun _ _ h => h)
      have hs3 : wr.heap.size < w3.drew.heap.size := B3.lt
      clear c0 c1
      generalize w3.drew = w4 at *
      iterate 6
        refine ord_take (v := ?_) rfl ?_ ?_
        rotate_left
        · intro w' hS
          obtain ⟨s0, s1, s2, s3⟩ := hS
          go_simp
          with_reducible rfl
        go_frame
      refine ord_enter rfl (ex_call (vs := [.agg d.cells.toArray]) rfl Try.func33 rfl (by kernel_rfl) rfl) ?_
      with_reducible refine (NetTwin_ok d E3).mono ?_
      rintro e w5 ⟨g, hg, rfl, Bt, X5⟩
      have D5 := D3.ex X5 (by simp)
      have B5 := B3.ex X5 (by simp)
      refine ⟨_, rfl, fun _ => ⟨D5.blk.cell 0, B5.cell 0, B5.cell 1, B5.cell 2⟩, ?_⟩
      go_frame
      have hgl : 0 < d.len → g < w5.heap.size := fun h => by
        rcases Bt.2 with hn | ⟨c', o', e, hlt, _⟩
        · have := Bt.1; rw [hn] at this; simp at this; omega
        · cases e; exact hlt
      have D6 := D5.ex (l := []) ((Ex.refl _ _).alloc (.cells #[.int .i64 d.frm, .int .i64 d.to, .slice (some ⟨g, 0, none⟩) d.len d.len] 58)) (by simp)
      have B6 := B5.alloc (.cells #[.int .i64 d.frm, .int .i64 d.to, .slice (some ⟨g, 0, none⟩) d.len d.len] 58)
      refine ord_val (v := ?_) (w' := ?_) rfl ?_ ?_ ?_
      rotate_left
      rotate_left
      · go_simp
        first | with_reducible rfl | (refine ⟨?_, ?_⟩ <;> with_reducible rfl)
      · intro _; exact ⟨D6.blk.cell 0, B6.cell 0, B6.cell 1, B6.cell 2⟩
      go_frame
      have N6 := Blk.new w5 #[.int .i64 d.frm, .int .i64 d.to, .slice (some ⟨g, 0, none⟩) d.len d.len] 58
      have X6 : Ex [] w5 (w5.alloc (.cells #[.int .i64 d.frm, .int .i64 d.to, .slice (some ⟨g, 0, none⟩) d.len d.len] 58)) := (Ex.refl _ _).alloc _
      have hs5 := X5.size
      have hs6 := X6.size
      generalize w5.alloc (.cells #[.int .i64 d.frm, .int .i64 d.to, .slice (some ⟨g, 0, none⟩) d.len d.len] 58) = w6 at *
      obtain ⟨ii, hi1, hi2, hi3, hi4⟩ := info_parts infoDg
      have hlen : L.length + 1 ≤ 1000000 := by
        have := congrArg List.length hkey
        simp only [List.length_map, List.length_take] at this
        rw [← hL, List.length_append]; omega
      obtain ⟨v7, w7, hap, O7, G7, _, L7⟩ := run_append_own_at (P := Try.prog) w6 B 54 54 58 ii _ 3 40 Try.underlying54 hi1 hi2 hi3 hi4 rfl (by omega)
        _ _ _ D6.own ⟨w5.heap.size, 0, none⟩ 1 1 [.int .i64 d.frm, .int .i64 d.to, .slice (some ⟨g, 0, none⟩) d.len d.len] rfl (fun q u hu => by rw [Addr.add_mid]; exact N6.range0 q u hu) (by simp [Value.oneCell']) (by simp [maxLen]; omega) (by omega) (by omega)
      obtain ⟨g7, cap7, rfl⟩ := ownsRow_succ' O7
      have X7 := Ex.of_own (l := (Value.slice va L.length vc).ownBlock.toList) G7 (by simp)
      have hob : ∀ x, (Value.slice va L.length vc).ownBlock = some x → x ≠ b ∧ x < wr.heap.size := fun x hx => ⟨(hvb' x hx).2, (hvl' x hx).2⟩
      have hb7 := D6.blk.ex X7 (by simp only [Option.mem_toList]; exact fun h => (hob _ h).1 rfl)
      have B7 := B6.ex X7 (by simp only [Option.mem_toList]; exact fun h => by have := (hob _ h).2; omega)
      have c7 := hb7.cell
      have f7 := hb7.froz
      refine ord_val rfl (ex_append2 rfl rfl rfl hap) (fun _ => ⟨c7 0, B7.cell 0, B7.cell 1, B7.cell 2⟩) ?_
      go_frame
      iterate 2
        refine ord_take (v := ?_) rfl ?_ ?_
        rotate_left
        · intro w' hS
          obtain ⟨s0, s1, s2, s3⟩ := hS
          go_simp
          with_reducible rfl
        go_frame
      refine ord_skip (w' := ?_) rfl ?_ ?_ ?_
      rotate_left
      · go_simp
        first | with_reducible rfl | (refine ⟨?_, ?_⟩ <;> with_reducible rfl)
      · intro h; simp at h
      go_frame
      refine ord_nil ?_
      have X8 : Ex [b] w7 (w7.setCell ⟨b, 0, none⟩ (.slice (some ⟨g7, 0, none⟩) (L.length + 1) cap7)) := (Ex.refl _ _).setCell (.inl (by simp)) _
      have hb8 := hb7.set 0 (.slice (some ⟨g7, 0, none⟩) (L.length + 1) cap7)
      generalize w7.setCell ⟨b, 0, none⟩ (.slice (some ⟨g7, 0, none⟩) (L.length + 1) cap7) = w8 at *
      clear c7 f7 hap
      have hv7 : ∀ x, (Value.slice (some ⟨g7, 0, none⟩) (L.length + 1) cap7).ownBlock = some x → (x ≠ b ∧ x ∉ sb :: av) ∧ (x < w6.heap.size → (Value.slice va L.length vc).ownBlock = some x) := by
        intro x hx
        rcases L7 with e | e
        · rw [e] at hx; exact ⟨⟨(hvb' x hx).2, (hvb' x hx).1⟩, fun _ => hx⟩
        · have hx' : x = w6.heap.size := by rw [e] at hx; exact (Option.some.inj hx).symm
          refine ⟨⟨by omega, fun hm => ?_⟩, fun h => by omega⟩
          rcases List.mem_cons.1 hm with hm | hm
          · omega
          · have := hav _ hm; omega
      have X38 : Ex (b :: (Value.slice va L.length vc).ownBlock.toList) wr w8 := (((((X3.trans X5).trans X6).mono (by simp)).trans (X7.mono (by simp +contextual))).trans (X8.mono (by simp)))
      have X68 : Ex (b :: (Value.slice va L.length vc).ownBlock.toList) w6 w8 := (X7.mono (by simp +contextual)).trans (X8.mono (by simp))
      have D8 : NetAt w8 B (sb :: av) b (.slice (some ⟨g7, 0, none⟩) (L.length + 1) cap7) (L ++ [⟨d.frm, d.to, some ⟨g, 0, none⟩, d.len, d.len, d.data⟩]) := by
        refine ⟨hb8, D2.bav, D2.bas, fun x hx => ⟨(hv7 x hx).1.2, (hv7 x hx).1.1⟩, ?_, fun d' hd' => ?_⟩
        · have := ownsRow_ex O7 X8 (fun x hx => by simpa using (hv7 x hx).1.1)
          simpa [dcellsOf] using this
        · rcases List.mem_append.1 hd' with hm | hm
          · refine (D6.dat d' hm).ex X68 (fun x hx _ => ?_) (fun x hx hb => ?_)
            · simp only [List.mem_cons, Option.mem_toList] at hx
              rcases hx with hx | hx
              · exact .inr (.inl hx)
              · exact .inr (.inr hx)
            · rcases hb with hb | hb | hb
              · exact .inl hb
              · exact .inr (.inl hb)
              · exact .inr (.inr ((hv7 x hb).2 hx))
          · obtain rfl := List.mem_singleton.1 hm
            have hne : 0 < d.len → g ≠ b ∧ ∀ x, (Value.slice va L.length vc).ownBlock = some x → g ≠ x := fun _ => ⟨by omega, fun x hx => by have := (hob x hx).2; omega⟩
            refine ⟨bytesAt_exN (bytesAt_exN Bt X6 (by simp)) X68 (fun c o h e => ?_), by simp, E3.small, fun c o h e hb => ?_⟩
            · cases e
              simp only [List.mem_cons, Option.mem_toList, not_or]
              exact ⟨(hne h).1, fun hx => (hne h).2 _ hx rfl⟩
            · cases e
              have hg5 := hgl h
              rcases hb with hb | hb | hb
              · rcases List.mem_cons.1 hb with hb | hb
                · omega
                · have := hav _ hb; omega
              · exact (hne h).1 hb
              · exact (hne h).2 _ ((hv7 _ hb).2 (by omega)) rfl
      go_wp2_with fail
      go_roundg (gk - 1)
      case measure => omega
      case rel =>
        refine ⟨j + 1, .slice (some ⟨g7, 0, none⟩) (L.length + 1) cap7, es' ++ [⟨d.frm, d.to, some ⟨g, 0, none⟩, d.len, d.len, d.data⟩], by go_num, by omega, ?_, ?_, ?_, ?_, ?_⟩
        · rw [List.map_append, hkey, List.take_add_one, hd, List.map_append]; rfl
        · rw [← List.append_assoc, hL]; exact D8
        · refine X2.own X38 (fun x hx => ?_)
          simp only [List.mem_cons, Option.mem_toList] at hx ⊢
          rcases hx with hx | hx
          · exact .inl (.inl hx)
          · rcases L2 with e | ⟨y, e, hy⟩
            · exact .inl (.inr (by rw [← e]; exact hx))
            · rw [e] at hx; cases hx; exact .inr hy
        · rcases L7 with e | e
          · rw [e]; exact L2
          · exact .inr ⟨_, e, by omega⟩
        · intro d' hd''
          refine (E2 d' hd'').ex X38 (fun x hx _ => ?_) (fun x hx hb => ?_)
          · simp only [List.mem_cons, Option.mem_toList] at hx; exact hx
          · rcases hb with hb | hb
            · exact .inl hb
            · exact .inr ((hv7 x hb).2 (by omega))
    · have hjk : j = es.length := by omega
      go_wp2_with fail
      go_end0
      exact ⟨rfl, v', es', by rw [hkey, hjk, List.take_length], D2, X2⟩
theorem NetSend_n {sb so : Nat} {sc n : Nat} {es : List Dv} (hn : es.length = n) (D : NetAt w B (sb :: av) b v ds) (hB : B ≤ w.heap.size) (hav : ∀ k ∈ av, k < w.heap.size) (hsb : sb < w.heap.size) (R : RowAt w sb so es) (he : ∀ d ∈ es, DvOk w (fun c => c = b ∨ v.ownBlock = some c) d) (h1 : ds.length + n ≤ 1000000) :
    Calls Try.prog 27 #[ptr b, .slice (some ⟨sb, so, none⟩) n sc] w fun e w' => ∃ v' es', e = .returned (.tuple #[]) ∧ es'.map Dv.key = es.map Dv.key ∧ NetAt w' B (sb :: av) b v' (ds ++ es') ∧ Ex (b :: v.ownBlock.toList) w w' := by
  subst hn
  exact NetSend_ok D hB hav hsb R he h1
theorem DvOk.lt {bad : Nat → Prop} {d : Dv} (h : DvOk w bad d) {c o : Nat} (h0 : 0 < d.len) (e : d.a = some ⟨c, o, none⟩) : c < w.heap.size := by
  rcases h.bytes.2 with hn | ⟨c', o', e', hlt, _⟩
  · have := h.bytes.1; rw [hn] at this; simp at this; omega
  · rw [e] at e'; cases e'; exact hlt
theorem NetAt.more (h : NetAt w B av b v ds) (hx : Ex [] w w') (l : List Nat) (hl : ∀ k ∈ l, w.heap.size ≤ k) : NetAt w' B (l ++ av) b v ds := by
  have h' := h.ex hx (by simp)
  have ho := h.own.lt
  refine ⟨h'.blk, fun hm => ?_, h.bas, fun k hk => ⟨fun hm => ?_, (h.vav k hk).2⟩, h'.own, fun d hd => ?_⟩
  · rcases List.mem_append.1 hm with hm | hm
    · have := hl _ hm; have := h.blk.lt; omega
    · exact h.bav hm
  · rcases List.mem_append.1 hm with hm | hm
    · have := hl _ hm; have := (ho k hk).2; omega
    · exact (h.vav k hk).1 hm
  · have hd0 := h.dat d hd
    refine hd0.ex hx (by simp) (fun k hk hb => ?_)
    rcases hb with hb | hb
    · rcases List.mem_append.1 hb with hm | hm
      · have := hl _ hm; omega
      · exact .inl hm
    · exact .inr hb
theorem NetAt.fewer {av' : List Nat} (h : NetAt w B av b v ds) (hl : ∀ k ∈ av', k ∈ av) : NetAt w B av' b v ds :=
  ⟨h.blk, fun hm => h.bav (hl _ hm), h.bas, fun k hk => ⟨fun hm => (h.vav k hk).1 (hl _ hm), (h.vav k hk).2⟩, h.own, fun d hd => (h.dat d hd).ex (l := []) (Ex.refl _ _) (by simp) (fun k _ hb => by
    rcases hb with hb | hb
    · exact .inl (hl _ hb)
    · exact .inr hb)⟩
theorem NetDouble_none (D : NetAt w B av b v []) :
    Calls Try.prog 31 #[ptr b, .int .i64 i] w fun e w' => e = .returned (.int .i64 2) ∧ w = w' := by
  go_enter Try.func31, Try.ntmps31
  go_wp2_with fail
  with_reducible refine (NetPlace_none D).mono ?_
  rintro e w1 ⟨rfl, rfl⟩
  go_wp2_with fail
  go_ret
  exact ⟨rfl, rfl⟩
set_option maxHeartbeats 800000 in
theorem NetDouble_ok (D : NetAt w B av b v ds) (hB : B ≤ w.heap.size) (hav : ∀ k ∈ av, k < w.heap.size) (h0 : 0 < ds.length) (h1 : ds.length < 1000000) :
    Calls Try.prog 31 #[ptr b, .int .i64 i] w fun e w' => ∃ d v' es', ds[(i % (ds.length : Int)).toNat]? = some d ∧ e = .returned (.int .i64 0) ∧
      es'.map Dv.key = [d.key] ∧ NetAt w' B av b v' (ds ++ es') ∧ Ex (b :: v.ownBlock.toList) w w' := by
  have hi0 := Int.emod_nonneg i (show (ds.length : Int) ≠ 0 by omega)
  have hi1 := Int.emod_lt_of_pos i (show (0 : Int) < ds.length by omega)
  go_enter Try.func31, Try.ntmps31
  go_wp2_with fail
  with_reducible refine (NetPlace_some D h0 (by omega)).mono ?_
  rintro e w1 ⟨rfl, rfl⟩
  obtain ⟨k, hk⟩ := Int.eq_ofNat_of_zero_le hi0
  rw [hk] at hi1 ⊢
  have hkl : k < ds.length := by omega
  obtain ⟨d, hd⟩ : ∃ d, ds[k]? = some d := ⟨ds[k], by simp⟩
  obtain ⟨g, cap, rfl⟩ : ∃ g cap, v = .slice (some ⟨g, 0, none⟩) ds.length cap := by
    rcases D.own.2 with ⟨_, h⟩ | ⟨g, cap, cur, h, _⟩
    · omega
    · exact ⟨g, cap, h⟩
  have cb := D.blk.cell
  have ce : ∀ t, t < 3 → w.cell? ⟨g, k * 3 + t, none⟩ = d.cells[t]? := fun t ht => by rw [D.own.cellAt _ (by omega), dcells_at ds k t d hd ht]
  have ce0 := ce 0 (by omega)
  have ce1 := ce 1 (by omega)
  have ce2 := ce 2 (by omega)
  simp only [List.getElem?_cons_zero, List.getElem?_cons_succ, Nat.add_zero] at ce0 ce1 ce2
  have hkl2 : (k : Int) < ds.length := by omega
  clear ce
  go_wp2_with fail
  have B1 := Blk.new w d.cells.toArray 58
  have X1 : Ex [] w (w.alloc (.cells d.cells.toArray 58)) := (Ex.refl _ _).alloc _
  have D1 : NetAt (w.alloc (.cells d.cells.toArray 58)) B (w.heap.size :: av) b (.slice (some ⟨g, 0, none⟩) ds.length cap) ds := D.more X1 [w.heap.size] (by simp)
  have hs1 := B1.lt
  generalize w.alloc (.cells d.cells.toArray 58) = w1 at *
  have hR : RowAt w1 w.heap.size 0 [d] := fun j d' hj => by
    match j, hj with
    | 0, hj =>
      simp only [List.getElem?_cons_zero, Option.some.injEq] at hj
      subst hj
      exact ⟨B1.cell _, B1.cell _, B1.cell _⟩
  have hE : ∀ d' ∈ [d], DvOk w1 (fun c => c = b ∨ (Value.slice (some ⟨g, 0, none⟩) ds.length cap).ownBlock = some c) d' := fun d' hd' => by
    obtain rfl := List.mem_singleton.1 hd'
    exact (D.dat d' (List.mem_of_getElem? hd)).ex X1 (by simp) (fun x _ hb => .inr hb)
  with_reducible refine (NetSend_n (es := [d]) (so := 0) (sc := 1) (n := 1) rfl D1 (by omega) (fun x hx => by have := hav x hx; omega) hs1 hR hE (by omega)).mono ?_
  rintro e w2 ⟨v', es', rfl, hkey, D2, X2⟩
  clear cb ce0 ce1 ce2
  go_wp2_with fail
  go_ret
  exact ⟨d, v', es', by rw [hk]; simpa using hd, rfl, by simpa using hkey, D2.fewer (by simp +contextual), (X1.mono (by simp)).trans X2⟩
end
end Go.Proofs.Ytjgkanmhmkmdeaa
