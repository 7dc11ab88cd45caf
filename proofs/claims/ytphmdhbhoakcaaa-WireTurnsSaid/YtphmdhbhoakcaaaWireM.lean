/- wire.up, down, chunk, fields over a writer. -/
import Derived.Test.YtphmdhbhoakcaaaWireR
namespace Go.Proofs.Ytphmdhbhoakcaaa
open Go.RowKit Go.Ad Go.Maps
/-- A datagram, and where its rows lie. -/
structure MsgD where
  kind : Int
  epoch : Int
  transfer : Int
  watch : Bool
  bits : Nat
  records : Int
  heard : Nat → Int
  live : Int
  first : Int
  ia : Option Addr
  il : Nat
  ic : Nat
  inputs : List Int
  stage : Int
  seat : Int
  base : Int
  frm : Int
  ra : Option Addr
  rl : Nat
  rc : Nat
  stream : List Rec
  firsts : Nat → Int
  sa : Nat → Option Addr
  sl : Nat → Nat
  sc : Nat → Nat
  seats : Nat → List Int
  ack : Int
  index : Int
  total : Int
  da : Option Addr
  dl : Nat
  dc : Nat
  data : List UInt8
/-- Its thirty cells. -/
abbrev msgCells (m : MsgD) : Array Value := #[.int .i64 m.kind, .int .i64 m.epoch, .int .i64 m.transfer, .bool m.watch, .int .u32 (m.bits : Int), .int .i64 m.records, .int .i64 (m.heard 0), .int .i64 (m.heard 1), .int .i64 (m.heard 2), .int .i64 (m.heard 3),
  .int .i64 m.live, .int .i64 m.first, .slice m.ia m.il m.ic, .int .i64 m.stage, .int .i64 m.seat, .int .i64 m.base, .int .i64 m.frm, .slice m.ra m.rl m.rc, .int .i64 (m.firsts 0), .int .i64 (m.firsts 1), .int .i64 (m.firsts 2), .int .i64 (m.firsts 3),
  .slice (m.sa 0) (m.sl 0) (m.sc 0), .slice (m.sa 1) (m.sl 1) (m.sc 1), .slice (m.sa 2) (m.sl 2) (m.sc 2), .slice (m.sa 3) (m.sl 3) (m.sc 3), .int .i64 m.ack, .int .i64 m.index, .int .i64 m.total, .slice m.da m.dl m.dc]
/-- Bytes that lie somewhere that stays. -/
def DataIn (w : World) (av : List Nat) (a : Option Addr) (xs : List UInt8) : Prop := xs = [] ∨ ∃ db o, a = some ⟨db, o, none⟩ ∧ db ∈ av ∧ w.rangeAt db o (xs.map bv)
theorem DataIn.bytes {w : World} {av : List Nat} {a : Option Addr} {xs : List UInt8} {n : Nat} (h : DataIn w av a xs) (hav : ∀ k ∈ av, k < w.heap.size) (hn : xs.length = n) : BytesAt w a n xs := by
  rcases h with h | ⟨db, o, h1, h2, h3⟩
  · exact ⟨hn, .inl h⟩
  · exact ⟨hn, .inr ⟨db, o, h1, hav _ h2, h3⟩⟩
/-- A datagram in a block of its own, its rows where they may be written. -/
structure MsgAt (w : World) (av : List Nat) (b : Nat) (m : MsgD) : Prop where
  blk : Blk w b (msgCells m) 29
  bav : b ∈ av
  bits : m.bits < 4294967296
  inp : IntsIn w av m.ia m.inputs
  il : m.inputs.length = m.il
  str : RecsIn w av m.ra m.stream
  rl : m.stream.length = m.rl
  sts : ∀ s, s < 4 → IntsIn w av (m.sa s) (m.seats s)
  sl : ∀ s, s < 4 → (m.seats s).length = m.sl s
  dat : DataIn w av m.da m.data
  dl : m.data.length = m.dl
  dnil : m.da = none → m.dc = 0
  nb : ∀ ab ao, ((m.inputs ≠ [] ∧ m.ia = some ⟨ab, ao, none⟩) ∨ (m.stream ≠ [] ∧ m.ra = some ⟨ab, ao, none⟩) ∨ (m.data ≠ [] ∧ m.da = some ⟨ab, ao, none⟩) ∨ ∃ s, s < 4 ∧ m.seats s ≠ [] ∧ m.sa s = some ⟨ab, ao, none⟩) → ab ≠ b
section
variable {w w' : World} {B wb : Nat} {av : List Nat} {v : Value} {ys : List UInt8} {e : Int}
theorem IntsIn.over {a : Option Addr} {zs : List Int} (h : IntsIn w av a zs) (D : WrAt w B wb av v ys e) (hav : ∀ k ∈ av, k < w.heap.size) (X : Ex (wb :: v.ownBlock.toList) w w') : IntsIn w' av a zs := by
  rcases h with h | ⟨ab, ao, h1, h2, h3⟩
  · exact .inl h
  · exact .inr ⟨ab, ao, h1, h2, fun i x hx => ⟨cell_over D hav h2 (h3 i x hx).1 X, froz_over D hav h2 (h3 i x hx).2 X⟩⟩
theorem RecsIn.over {a : Option Addr} {zs : List Rec} (h : RecsIn w av a zs) (D : WrAt w B wb av v ys e) (hav : ∀ k ∈ av, k < w.heap.size) (X : Ex (wb :: v.ownBlock.toList) w w') : RecsIn w' av a zs := by
  rcases h with h | ⟨ab, ao, h1, h2, h3⟩
  · exact .inl h
  · exact .inr ⟨ab, ao, h1, h2, fun i x hx => (h3 i x hx).over D hav h2 X⟩
section
variable {w0 w1 : World} {v0 : Value} {ys0 : List UInt8} {e0 : Int} {ok ok2 : Bool} {enc enc2 : List UInt8} {m m2 : Nat} {av' : List Nat}
/-- One pointer, handed to plain. -/
theorem plain1_s {b o : Nat} {x : Int} (S : WSt w0 B wb av v0 ys0 e0 ok enc m w v ys) (hB : B ≤ w0.heap.size) (hav : ∀ k ∈ av, k < w0.heap.size) (hl : ys0.length + m + 4 ≤ 1000000) (hb : b ∈ av) (c : w.cell? ⟨b, o, none⟩ = some (.int .i64 x)) (fz : w.frozen? ⟨b, o, none⟩ = false) :
    Calls Try.prog 40 #[.iface 52 (ptr wb), .slice (some ⟨w.heap.size, 0, none⟩) 1 1] (w.alloc (.cells #[ptrAt b o] 83)) fun z w' => ∃ v1 ys1, z = .returned (.tuple #[]) ∧ WSt w0 B wb av v0 ys0 e0 (ok && nokAll [x]) (enc ++ nenc [x]) (m + 4) w' v1 ys1 := by
  have X3 : Ex [] w (w.alloc (.cells #[ptrAt b o] 83)) := (Ex.refl _ _).alloc _
  have B3 := Blk.new w #[ptrAt b o] 83
  have D3 := S.at'.more X3
  have hs := S.ex.size
  have hl0 := S.len
  have hav2 : ∀ k ∈ av, k < w.heap.size := fun k hk => by have := hav k hk; omega
  have hav3 := av_more X3 B3.lt hav2
  have hs3 := X3.size
  refine (plain_p (n := 1) (sc := 1) (xs := [x]) rfl D3 (by omega) hav3 (by omega) (by simp) (fun i y hy => ?_)).mono ?_
  · match i, hy with
    | 0, hy =>
      simp only [List.getElem?_cons_zero, Option.some.injEq] at hy; subst hy
      exact ⟨b, o, B3.cell 0, by simp [hb], by rw [X3.cell (p := ⟨b, _, none⟩) (hav2 _ hb) (by simp)]; exact c, by rw [X3.frozen (p := ⟨b, _, none⟩) (hav2 _ hb) (by simp)]; exact fz⟩
  · intro z w4 hz
    exact (S.go X3).step hz (fun _ h => List.mem_cons_of_mem _ h)
theorem plain2_s {b o o' : Nat} {x y : Int} (S : WSt w0 B wb av v0 ys0 e0 ok enc m w v ys) (hB : B ≤ w0.heap.size) (hav : ∀ k ∈ av, k < w0.heap.size) (hl : ys0.length + m + 8 ≤ 1000000) (hb : b ∈ av) (c : w.cell? ⟨b, o, none⟩ = some (.int .i64 x)) (fz : w.frozen? ⟨b, o, none⟩ = false)
    (c' : w.cell? ⟨b, o', none⟩ = some (.int .i64 y)) (fz' : w.frozen? ⟨b, o', none⟩ = false) :
    Calls Try.prog 40 #[.iface 52 (ptr wb), .slice (some ⟨w.heap.size, 0, none⟩) 2 2] (w.alloc (.cells #[ptrAt b o, ptrAt b o'] 83)) fun z w' => ∃ v1 ys1, z = .returned (.tuple #[]) ∧ WSt w0 B wb av v0 ys0 e0 (ok && nokAll [x, y]) (enc ++ nenc [x, y]) (m + 8) w' v1 ys1 := by
  have X3 : Ex [] w (w.alloc (.cells #[ptrAt b o, ptrAt b o'] 83)) := (Ex.refl _ _).alloc _
  have B3 := Blk.new w #[ptrAt b o, ptrAt b o'] 83
  have D3 := S.at'.more X3
  have hs := S.ex.size
  have hl0 := S.len
  have hav2 : ∀ k ∈ av, k < w.heap.size := fun k hk => by have := hav k hk; omega
  have hav3 := av_more X3 B3.lt hav2
  have hs3 := X3.size
  refine (plain_p (n := 2) (sc := 2) (xs := [x, y]) rfl D3 (by omega) hav3 (by omega) (by simp) (fun i z hz => ?_)).mono ?_
  · match i, hz with
    | 0, hz =>
      simp only [List.getElem?_cons_zero, Option.some.injEq] at hz; subst hz
      exact ⟨b, o, B3.cell 0, by simp [hb], by rw [X3.cell (p := ⟨b, _, none⟩) (hav2 _ hb) (by simp)]; exact c, by rw [X3.frozen (p := ⟨b, _, none⟩) (hav2 _ hb) (by simp)]; exact fz⟩
    | 1, hz =>
      simp only [List.getElem?_cons_succ, List.getElem?_cons_zero, Option.some.injEq] at hz; subst hz
      exact ⟨b, o', B3.cell 1, by simp [hb], by rw [X3.cell (p := ⟨b, _, none⟩) (hav2 _ hb) (by simp)]; exact c', by rw [X3.frozen (p := ⟨b, _, none⟩) (hav2 _ hb) (by simp)]; exact fz'⟩
  · intro z w4 hz
    exact (S.go X3).step hz (fun _ h => List.mem_cons_of_mem _ h)
end
theorem DataIn.over {a : Option Addr} {xs : List UInt8} (h : DataIn w av a xs) (D : WrAt w B wb av v ys e) (hav : ∀ k ∈ av, k < w.heap.size) (X : Ex (wb :: v.ownBlock.toList) w w') : DataIn w' av a xs := by
  rcases h with h | ⟨db, o, h1, h2, h3⟩
  · exact .inl h
  · exact .inr ⟨db, o, h1, h2, fun j u hu => cell_over D hav h2 (h3 j u hu) X⟩
theorem MsgAt.over {b : Nat} {m : MsgD} (M : MsgAt w av b m) (D : WrAt w B wb av v ys e) (hav : ∀ k ∈ av, k < w.heap.size) (X : Ex (wb :: v.ownBlock.toList) w w') : MsgAt w' av b m :=
  ⟨M.blk.ex X (by
    simp only [List.mem_cons, Option.mem_toList, not_or]
    exact ⟨fun h => D.bav (by rw [← h]; exact M.bav), fun h => (D.vav _ h).1 M.bav⟩), M.bav, M.bits, M.inp.over D hav X, M.il, M.str.over D hav X, M.rl, fun s hs => (M.sts s hs).over D hav X, M.sl, M.dat.over D hav X, M.dl, M.dnil, M.nb⟩
theorem raw_p {n x : Nat} {pb po : Nat} (D : WrAt w B wb av v ys e) (hB : B ≤ w.heap.size) (hav : ∀ k ∈ av, k < w.heap.size) (hn : n ≤ 4) (hl : ys.length + n ≤ 1000000) (hp : w.cell? ⟨pb, po, none⟩ = some (.int .u64 (x : Int))) (hpa : pb ∈ av) (hx : x < 2 ^ 64) :
    Calls Try.prog 68 #[ptr wb, .int .i64 (n : Int), ptrAt pb po] w (WPost w B wb av v ys e true (be n x) n) :=
  (raw_w D hB hav hn hl hp hpa hx).mono fun z w' ⟨v', hz, h1, h2, h3⟩ => ⟨v', _, hz, by rw [noted_true]; exact h1, fun _ _ => rfl, by simp [be_length], h2, h3⟩
def upOk (m : MsgD) : Bool := nokAll [m.records] && nokAll [m.heard 0] && nokAll [m.heard 1] && nokAll [m.heard 2] && nokAll [m.heard 3] && nokAll [m.live, m.first] && rowOk m.inputs
def upEnc (m : MsgD) : List UInt8 := be 4 m.bits ++ nenc [m.records] ++ nenc [m.heard 0] ++ nenc [m.heard 1] ++ nenc [m.heard 2] ++ nenc [m.heard 3] ++ nenc [m.live, m.first] ++ rowEnc m.inputs
def heardOk (m : MsgD) (i : Nat) : Bool := (List.range i).all fun s => nokAll [m.heard s]
def heardEnc (m : MsgD) (i : Nat) : List UInt8 := (List.range i).flatMap fun s => nenc [m.heard s]
def UpI (w0 : World) (B wb : Nat) (av : List Nat) (v0 : Value) (ys0 : List UInt8) (e0 : Int) (m : MsgD) (ok : Bool) (enc : List UInt8) (k : Nat) (vi : Value) (wr : World) : Prop :=
  ∃ (i : Nat) (v' : Value) (ys' : List UInt8), vi = .int .i64 (i : Int) ∧ i + k = 4 ∧ WSt w0 B wb av v0 ys0 e0 (ok && heardOk m i) (enc ++ heardEnc m i) (8 + 4 * i) wr v' ys'
theorem heard_cell {b : Nat} {m : MsgD} (M : MsgAt w av b m) {i : Nat} (hi : i < 4) : w.cell? ⟨b, 6 + i, none⟩ = some (.int .i64 (m.heard i)) := by
  rw [M.blk.cell]
  match i, hi with
  | 0, _ => rfl
  | 1, _ => rfl
  | 2, _ => rfl
  | 3, _ => rfl
set_option maxRecDepth 100000 in
set_option maxHeartbeats 3200000 in
theorem up_w {b : Nat} {m : MsgD} (D : WrAt w B wb av v ys e) (hB : B ≤ w.heap.size) (hav : ∀ k ∈ av, k < w.heap.size) (hl : ys.length + 1000 + m.il ≤ 1000000) (M : MsgAt w av b m) :
    Calls Try.prog 42 #[.iface 52 (ptr wb), ptr b] w (WPost w B wb av v ys e (upOk m) (upEnc m) (33 + m.il)) := by
  have c4 : w.cell? ⟨b, 4, none⟩ = some (.int .u32 (m.bits : Int)) := M.blk.cell 4
  have hbits := M.bits
  go_enter Try.func42, Try.ntmps42
  go_wp2_with (refine G_enter (o := ⟨some 12, _, _, _, _, _⟩) rfl (ex_invoke rfl rfl rfl (inv_raw wb _ _ _)) ?_)
  have X1 : Ex [] w (w.alloc (.cells #[.int .u64 (m.bits : Int)] 90)) := (Ex.refl _ _).alloc _
  have B1 := Blk.new w #[.int .u64 (m.bits : Int)] 90
  have D1 := D.more X1
  have S1 := (WSt.start D).go X1
  have hav1 := av_more X1 B1.lt hav
  generalize w.alloc (.cells #[.int .u64 (m.bits : Int)] 90) = w1 at *
  have hs1 := X1.size
  refine (raw_p (n := 4) (x := m.bits) D1 (by omega) hav1 (by omega) (by omega) (B1.cell 0) (by simp) (by omega)).mono ?_
  rintro z w2 hz
  obtain ⟨v2, ys2, rfl, S2⟩ := S1.step (ok2 := true) (by rw [noted_true]; exact hz) (fun _ h => List.mem_cons_of_mem _ h)
  have hv2 : w2.cell? ⟨w.heap.size, 0, none⟩ = some (.int .u64 (m.bits : Int)) := by
    obtain ⟨_, _, _, hh⟩ := hz
    exact cell_over D1 hav1 (by simp) (B1.cell 0) hh.ex
  have M2 := M.over D hav S2.ex
  have c2 : ∀ j, w2.cell? ⟨b, j, none⟩ = (msgCells m)[j]? := M2.blk.cell
  have f2 := M2.blk.froz
  have cb2 : w2.cell? ⟨b, 4, none⟩ = some (.int .u32 (m.bits : Int)) := c2 4
  have hu : IntKind.u32.wrap (m.bits : Int) = m.bits := by rw [IntKind.wrap_u32]; omega
  clear S1 D1 hav1 hz B1 c4
  refine ⟨_, rfl, ?_⟩
  clear c2
  go_wp2_with fail
  rw [setCell_stay cb2]
  clear cb2 hv2 f2 hu
  refine (plain1_s (x := m.records) S2 hB hav (by omega) M.bav (M2.blk.cell 5) (M2.blk.froz 5)).mono ?_
  rintro z w3 ⟨v3, ys3, rfl, S3⟩
  clear S2 M2
  simp only [Bool.true_and, List.nil_append] at S3
  go_wp2_with fail
  have P3 : UpI w B wb av v ys e m (nokAll [m.records]) (be 4 m.bits ++ nenc [m.records]) 4 (.int .i64 0) w3 := ⟨0, v3, ys3, rfl, rfl, by simpa [heardOk, heardEnc] using S3⟩
  clear S3
  go_loopg [24] 4 (fun k vi wr => UpI w B wb av v ys e m (nokAll [m.records]) (be 4 m.bits ++ nenc [m.records]) k vi wr)
  case atStart => exact P3
  case round =>
    clear P3
    obtain ⟨i, v4, ys4, rfl, hk, S4⟩ := hrel
    have M4 := M.over D hav S4.ex
    by_cases hi : i < 4
    · have hi' : (i : Int) < 4 := by omega
      have hc := heard_cell M4 hi
      have Hc := Lib.hid hc
      clear hc
      go_wp2_with fail
      refine (plain1_s (x := m.heard i) S4 hB hav (by omega) M.bav Hc.out (M4.blk.froz _)).mono ?_
      rintro z w5 ⟨v5, ys5, rfl, S5⟩
      clear S4 M4 Hc
      go_wp2_with fail
      go_roundg (gk - 1)
      case measure => omega
      case rel =>
        refine ⟨i + 1, v5, ys5, by go_num, by omega, ?_⟩
        simpa [heardOk, heardEnc, List.range_succ, List.all_append, List.flatMap_append, Bool.and_assoc, Nat.mul_add, Nat.add_assoc] using S5
    · obtain rfl : i = 4 := by omega
      go_wp2_with fail
      refine wp_region_ord (fun _ => True) [8] [(0, true), (1, true), (2, true), (3, true), (4, true), (5, true), (6, true), (7, false), (8, false)]
        (by kernel_rfl) (by kernel_rfl) (by kernel_rfl) (by kernel_rfl) rfl (by intro c a d v w h; cases d <;> exact h) trivial ?_
      simp only [mkOrd, List.filterMap_cons, List.filterMap_nil, List.getElem?_toArray, List.getElem?_cons_zero, List.getElem?_cons_succ, Option.map_some]
      iterate 7
        refine ord_take (v := ?_) rfl ?_ ?_
        rotate_left
        · intro w' hS
          go_simp
          with_reducible rfl
        go_frame
      refine ord_val (v := ?_) (w' := ?_) rfl ?_ ?_ ?_
      rotate_left
      rotate_left
      · go_simp
        first | with_reducible rfl | (refine ⟨?_, ?_⟩ <;> with_reducible rfl)
      · intro _; exact trivial
      go_frame
      have Sd := S4.go ((Ex.refl [] wr).drew)
      refine ord_enter rfl (ex_call (vs := [.iface 52 (ptr wb), .slice (some ⟨wr.heap.size, 0, none⟩) 2 2]) rfl Try.func40 rfl (by kernel_rfl) rfl) ?_
      refine (plain2_s (x := m.live) (y := m.first) (o := 10) (o' := 11) Sd hB hav (by omega) M.bav (M4.blk.cell 10) (M4.blk.froz 10) (M4.blk.cell 11) (M4.blk.froz 11)).mono ?_
      rintro z w5 ⟨v5, ys5, rfl, S5⟩
      refine ⟨_, rfl, fun h => by simp at h, ?_⟩
      go_frame
      refine ord_nil ?_
      clear S4 M4
      have M5 := M.over D hav S5.ex
      have hs5 := S5.ex.size
      have hl5 := S5.len
      go_wp2_with fail
      refine (row_w S5.at' (by omega) (fun k hk => by have := hav k hk; omega) (by omega) (M5.blk.cell 12) M.bav M5.il M5.inp).mono ?_
      rintro z w6 hz
      obtain ⟨v6, ys6, rfl, S6⟩ := S5.step hz (fun _ h => h)
      have ho : upOk m = (nokAll [m.records] && heardOk m 4 && nokAll [m.live, m.first] && rowOk m.inputs) := by simp [upOk, heardOk, List.range_succ, Bool.and_assoc]
      have hn : upEnc m = be 4 m.bits ++ nenc [m.records] ++ heardEnc m 4 ++ nenc [m.live, m.first] ++ rowEnc m.inputs := by simp [upEnc, heardEnc, List.range_succ]
      have Ho := Lib.hid ho
      have Hn := Lib.hid hn
      clear ho hn hz S5 M5
      go_wp2_with fail
      go_end0
      rw [Ho.out, Hn.out]
      exact S6.done.weak (by omega)
theorem WSt.bad {w0 : World} {v0 : Value} {ys0 : List UInt8} {e0 : Int} {ok ok' : Bool} {enc enc' : List UInt8} {m : Nat} (h : WSt w0 B wb av v0 ys0 e0 ok enc m w v ys) (hf : noted ok e0 1 ≠ 0) (hi : ok' = true → ok = true) : WSt w0 B wb av v0 ys0 e0 ok' enc' m w v ys := by
  have hno : ok = false ∨ e0 ≠ 0 := by
    cases hq : ok
    · exact .inl rfl
    · exact .inr (fun h0 => hf (noted_zero.2 ⟨h0, hq⟩))
  refine ⟨?_, fun h0 h1 => ?_, h.len, h.ex, h.gr⟩
  · have : noted ok e0 1 = noted ok' e0 1 := by
      rcases hno with h | h
      · have hf : ok' = false := by
          cases hq : ok'
          · rfl
          · rw [hi hq] at h; cases h
        rw [h, hf]
      · simp [noted, h]
    rw [← this]; exact h.at'
  · rcases hno with h | h
    · rw [hi h1] at h; cases h
    · exact absurd h0 h
theorem within_p (n f t : Int) (D : WrAt w B wb av v ys e) : Calls Try.prog 69 #[ptr wb, .int .i64 n, .int .i64 f, .int .i64 t] w (WPost w B wb av v ys e (inB n f t) [] 0) :=
  (within_any n f t D).mono fun z w' ⟨hz, h1, h2⟩ => ⟨v, ys, hz, h1, by simp, by simp, h2.mono (by simp), Gr.refl _ _⟩
theorem nil_bytes (wb : Nat) (k : Nat) (w : World) : (nilAhead (k + 1) 52 (ptr wb) "adit/wire.bytes").run Try.prog w = .ok (some false) w := by kernel_rfl
def chunkOk (m : MsgD) : Bool := nokAll [m.base] && inB m.index 0 255 && inB m.total 1 16 && inB m.index 0 (m.total - 1) && inB m.dl 0 64
def chunkEnc (m : MsgD) : List UInt8 := nenc [m.base] ++ be 1 m.index.toNat ++ be 1 m.total.toNat ++ be 1 m.dl ++ m.data
set_option maxRecDepth 100000 in
set_option maxHeartbeats 3200000 in
theorem chunk_w {b : Nat} {m : MsgD} (D : WrAt w B wb av v ys e) (hB : B ≤ w.heap.size) (hav : ∀ k ∈ av, k < w.heap.size) (hl : ys.length + 1000 + m.dl ≤ 1000000) (M : MsgAt w av b m) :
    Calls Try.prog 44 #[.iface 52 (ptr wb), ptr b] w (WPost w B wb av v ys e (chunkOk m) (chunkEnc m) (7 + m.dl)) := by
  go_enter Try.func44, Try.ntmps44
  go_wp2_with fail
  refine (plain1_s (x := m.base) (o := 15) (WSt.start D) hB hav (by omega) M.bav (M.blk.cell 15) (M.blk.froz 15)).mono ?_
  rintro z w1 ⟨v1, ys1, rfl, S1⟩
  simp only [Bool.true_and, List.nil_append, Nat.zero_add] at S1
  have M1 := M.over D hav S1.ex
  have hs1 := S1.ex.size
  have hl1 := S1.len
  go_wp2_with fail
  refine (number_p (n := 1) (x := m.index) (f := 0) (t := 255) S1.at' (by omega) (fun k hk => by have := hav k hk; omega) (by omega) (by omega) (M1.blk.cell 27) (M1.blk.froz 27) M.bav (by omega) (by omega)).mono ?_
  rintro z w2 hz
  obtain ⟨v2, ys2, rfl, S2⟩ := S1.step hz (fun _ h => h)
  clear hz S1 M1
  have M2 := M.over D hav S2.ex
  have hs2 := S2.ex.size
  have hl2 := S2.len
  go_wp2_with fail
  refine (number_p (n := 1) (x := m.total) (f := 1) (t := 16) S2.at' (by omega) (fun k hk => by have := hav k hk; omega) (by omega) (by omega) (M2.blk.cell 28) (M2.blk.froz 28) M.bav (by omega) (by omega)).mono ?_
  rintro z w3 hz
  obtain ⟨v3, ys3, rfl, S3⟩ := S2.step hz (fun _ h => h)
  clear hz S2 M2
  have M3 := M.over D hav S3.ex
  have hs3 := S3.ex.size
  have hl3 := S3.len
  go_wp2_with (refine G_enter (o := ⟨some 22, _, _, _, _, _⟩) rfl (ex_invoke rfl rfl rfl (inv_failed wb _)) ?_)
  refine (failed_any S3.at').mono ?_
  rintro z w4 ⟨rfl, rfl⟩
  refine ⟨_, rfl, ?_⟩
  by_cases he : noted (nokAll [m.base] && inB m.index 0 255 && inB m.total 1 16) e 1 = 0
  · have he1 : (noted (nokAll [m.base] && inB m.index 0 255 && inB m.total 1 16) e 1 != 0) = false := by simpa using he
    obtain ⟨he2, he3⟩ := noted_zero.1 he
    have ht : 1 ≤ m.total ∧ m.total ≤ 16 := by simp only [Bool.and_eq_true] at he3; simpa [inB] using he3.2
    obtain ⟨ht1, ht2⟩ := ht
    clear he2 he3 he
    go_wp2_with fail
    have hw : w3.drew.cell? ⟨b, 27, none⟩ = some (.int .i64 m.index) ∧ w3.drew.cell? ⟨b, 28, none⟩ = some (.int .i64 m.total) := ⟨M3.blk.cell 27, M3.blk.cell 28⟩
    refine wp_region_ord (fun w' => w'.cell? ⟨b, 27, none⟩ = some (.int .i64 m.index) ∧ w'.cell? ⟨b, 28, none⟩ = some (.int .i64 m.total)) [13] [(0, true), (1, true), (2, true), (3, true), (4, true), (5, true), (6, true), (7, true), (8, true), (9, true), (10, false), (11, true), (12, true), (13, false)]
      (by kernel_rfl) (by kernel_rfl) (by kernel_rfl) (by kernel_rfl) rfl (by intro c a d v w h; cases d <;> exact h) hw ?_
    simp only [mkOrd, List.filterMap_cons, List.filterMap_nil, List.getElem?_toArray, List.getElem?_cons_zero, List.getElem?_cons_succ, Option.map_some]
    have hw1 : IntKind.i64.wrap (m.total - 1) = m.total - 1 := IntWalk.i64_in _ (by omega)
    iterate 10
      refine ord_take (v := ?_) rfl ?_ ?_
      rotate_left
      · intro w' hS
        obtain ⟨s0, s1⟩ := hS
        go_simp
        with_reducible rfl
      go_frame
    clear hw1
    refine ord_val (v := ?_) (w' := ?_) rfl ?_ ?_ ?_
    rotate_left
    rotate_left
    · go_simp
      first | with_reducible rfl | (refine ⟨?_, ?_⟩ <;> with_reducible rfl)
    · intro _; exact hw
    go_frame
    have hnil := nil_within wb
    iterate 2
      refine ord_take (v := ?_) rfl ?_ ?_
      rotate_left
      · intro w' hS
        go_simp
        with_reducible rfl
      go_frame
    clear hnil he1
    refine ord_enter rfl (ex_invoke rfl rfl rfl (inv_within wb _ _ _ _)) ?_
    have Sd := S3.go ((Ex.refl [] w3).drew)
    refine (within_p m.index 0 (m.total - 1) Sd.at').mono ?_
    rintro z w5 hz
    obtain ⟨v5, ys5, rfl, S4⟩ := Sd.step hz (fun _ h => h)
    rw [List.append_nil, Nat.add_zero] at S4
    refine ⟨_, rfl, fun h => by simp at h, ?_⟩
    go_frame
    refine ord_nil ?_
    have M5 := M.over D hav S4.ex
    have c29 : w5.cell? ⟨b, 29, none⟩ = some (.slice m.da m.dl m.dc) := M5.blk.cell 29
    clear hz S3 Sd M3 hw M5
    go_wp2_with fail
    clear c29
    generalize hw4 : w5 = w4 at *
    clear hw4
    have X5 : Ex [] w4 (w4.alloc (.cells #[.int .i64 (m.dl : Int)] 3)) := (Ex.refl _ _).alloc _
    have B5 := Blk.new w4 #[.int .i64 (m.dl : Int)] 3
    have D5 := S4.at'.more X5
    have hs4 := S4.ex.size
    have hl4 := S4.len
    have hav4 : ∀ k ∈ av, k < w4.heap.size := fun k hk => by have := hav k hk; omega
    have hav5 := av_more X5 B5.lt hav4
    have S5 := S4.go X5
    generalize w4.alloc (.cells #[.int .i64 (m.dl : Int)] 3) = w5 at *
    have hs5 := X5.size
    refine (number_p (n := 1) (x := (m.dl : Int)) (f := 0) (t := 64) D5 (by omega) hav5 (by omega) (by omega) (B5.cell 0) (B5.froz 0) (by simp) (by omega) (by omega)).mono ?_
    rintro z w6 hz
    have hv6 : w6.cell? ⟨w4.heap.size, 0, none⟩ = some (.int .i64 (m.dl : Int)) := by
      obtain ⟨_, _, _, hh⟩ := hz
      exact cell_over D5 hav5 (by simp) (B5.cell 0) hh.ex
    obtain ⟨v6, ys6, rfl, S6⟩ := S5.step hz (fun _ h => List.mem_cons_of_mem _ h)
    clear S5 D5 hav5 B5 hz S4
    go_wp2_with (refine G_enter (o := ⟨some 46, _, _, _, _, _⟩) rfl (ex_invoke rfl rfl rfl (inv_failed wb _)) ?_)
    refine (failed_any S6.at').mono ?_
    rintro z w7 ⟨rfl, rfl⟩
    refine ⟨_, rfl, ?_⟩
    have hcO : chunkOk m = (nokAll [m.base] && inB m.index 0 255 && inB m.total 1 16 && inB m.index 0 (m.total - 1) && inB m.dl 0 64) := rfl
    have Ho := Lib.hid hcO
    have hcN : chunkEnc m = nenc [m.base] ++ be 1 m.index.toNat ++ be 1 m.total.toNat ++ be 1 m.dl ++ m.data := rfl
    have Hn := Lib.hid hcN
    clear hcO hcN
    have M6 := M.over D hav S6.ex
    have hs6 := S6.ex.size
    have hl6 := S6.len
    by_cases he : noted (nokAll [m.base] && inB m.index 0 255 && inB m.total 1 16 && inB m.index 0 (m.total - 1) && inB m.dl 0 64) e 1 = 0
    · have he1 : (noted (nokAll [m.base] && inB m.index 0 255 && inB m.total 1 16 && inB m.index 0 (m.total - 1) && inB m.dl 0 64) e 1 != 0) = false := by simpa using he
      clear he
      go_wp2_with fail
      have hw : w6.drew.cell? ⟨w4.heap.size, 0, none⟩ = some (.int .i64 (m.dl : Int)) := hv6
      refine wp_region_ord (fun w' => w'.cell? ⟨w4.heap.size, 0, none⟩ = some (.int .i64 (m.dl : Int))) [8] [(0, true), (1, true), (2, true), (3, true), (4, true), (5, false), (6, true), (7, true), (8, false)]
        (by kernel_rfl) (by kernel_rfl) (by kernel_rfl) (by kernel_rfl) rfl (by intro c a d v w h; cases d <;> exact h) hw ?_
      simp only [mkOrd, List.filterMap_cons, List.filterMap_nil, List.getElem?_toArray, List.getElem?_cons_zero, List.getElem?_cons_succ, Option.map_some]
      iterate 5
        refine ord_take (v := ?_) rfl ?_ ?_
        rotate_left
        · intro w' hS
          have s0 := hS
          go_simp
          with_reducible rfl
        go_frame
      refine ord_val (v := ?_) (w' := ?_) rfl ?_ ?_ ?_
      rotate_left
      rotate_left
      · go_simp
        first | with_reducible rfl | (refine ⟨?_, ?_⟩ <;> with_reducible rfl)
      · intro _; exact hw
      go_frame
      have hnil := nil_bytes wb
      iterate 2
        refine ord_take (v := ?_) rfl ?_ ?_
        rotate_left
        · intro w' hS
          go_simp
          with_reducible rfl
        go_frame
      clear hnil he1
      refine ord_enter rfl (ex_invoke rfl rfl rfl (inv_bytes wb _ _ _)) ?_
      have Sd := S6.go ((Ex.refl [] w6).drew)
      have Md := M.over D hav Sd.ex
      refine (bytes_w m.dl Sd.at' (Nat.le_trans hB hs6) (fun k hk => Nat.lt_of_lt_of_le (hav k hk) hs6) (Md.blk.cell 29) M.bav (Md.dat.bytes (fun k hk => Nat.lt_of_lt_of_le (hav k hk) hs6) M.dl) M.dnil (by omega)).mono ?_
      rintro z w9 ⟨v9, rfl, D9, X9, G9⟩
      obtain ⟨v10, ys10, _, S9⟩ := Sd.step (ok2 := true) (enc2 := m.data) (m2 := m.dl) (z := .returned (.tuple #[])) ⟨v9, _, rfl, by rw [noted_true]; exact D9, fun _ _ => rfl, by rw [List.length_append, M.dl]; omega, X9, G9⟩ (fun _ h => h)
      refine ⟨_, rfl, fun h => by simp at h, ?_⟩
      go_frame
      refine ord_nil ?_
      clear S6 M6 Sd Md D9 X9 G9 hw hv6
      rw [Bool.and_true, Int.toNat_natCast] at S9
      go_wp2_with fail
      go_end0
      rw [Ho.out, Hn.out]
      exact S9.done.weak (by omega)
    · have he1 : (noted (nokAll [m.base] && inB m.index 0 255 && inB m.total 1 16 && inB m.index 0 (m.total - 1) && inB m.dl 0 64) e 1 != 0) = true := by simpa using he
      have S7 := S6.bad (ok' := chunkOk m) (enc' := chunkEnc m) he (fun h => by rw [Ho.out] at h; exact h)
      clear he S6
      go_wp2_with fail
      go_end0
      exact S7.done.weak (by omega)
  · have he1 : (noted (nokAll [m.base] && inB m.index 0 255 && inB m.total 1 16) e 1 != 0) = true := by simpa using he
    have S4 := S3.bad (ok' := nokAll [m.base] && inB m.index 0 255 && inB m.total 1 16 && inB m.index 0 (m.total - 1)) (enc' := nenc [m.base] ++ be 1 m.index.toNat ++ be 1 m.total.toNat) he (fun h => by simp only [Bool.and_eq_true] at h ⊢; exact h.1)
    have c29 : w3.cell? ⟨b, 29, none⟩ = some (.slice m.da m.dl m.dc) := M3.blk.cell 29
    clear he S3
    go_wp2_with fail
    clear he1 c29
    have X5 : Ex [] w3 (w3.alloc (.cells #[.int .i64 (m.dl : Int)] 3)) := (Ex.refl _ _).alloc _
    have B5 := Blk.new w3 #[.int .i64 (m.dl : Int)] 3
    have D5 := S4.at'.more X5
    have hs4 := S4.ex.size
    have hl4 := S4.len
    have hav4 : ∀ k ∈ av, k < w3.heap.size := fun k hk => by have := hav k hk; omega
    have hav5 := av_more X5 B5.lt hav4
    have S5 := S4.go X5
    generalize w3.alloc (.cells #[.int .i64 (m.dl : Int)] 3) = w5 at *
    have hs5 := X5.size
    refine (number_p (n := 1) (x := (m.dl : Int)) (f := 0) (t := 64) D5 (by omega) hav5 (by omega) (by omega) (B5.cell 0) (B5.froz 0) (by simp) (by omega) (by omega)).mono ?_
    rintro z w6 hz
    have hv6 : w6.cell? ⟨w3.heap.size, 0, none⟩ = some (.int .i64 (m.dl : Int)) := by
      obtain ⟨_, _, _, hh⟩ := hz
      exact cell_over D5 hav5 (by simp) (B5.cell 0) hh.ex
    obtain ⟨v6, ys6, rfl, S6⟩ := S5.step hz (fun _ h => List.mem_cons_of_mem _ h)
    clear S5 D5 hav5 B5 hz S4
    go_wp2_with (refine G_enter (o := ⟨some 46, _, _, _, _, _⟩) rfl (ex_invoke rfl rfl rfl (inv_failed wb _)) ?_)
    refine (failed_any S6.at').mono ?_
    rintro z w7 ⟨rfl, rfl⟩
    refine ⟨_, rfl, ?_⟩
    have hcO : chunkOk m = (nokAll [m.base] && inB m.index 0 255 && inB m.total 1 16 && inB m.index 0 (m.total - 1) && inB m.dl 0 64) := rfl
    have Ho := Lib.hid hcO
    have hcN : chunkEnc m = nenc [m.base] ++ be 1 m.index.toNat ++ be 1 m.total.toNat ++ be 1 m.dl ++ m.data := rfl
    have Hn := Lib.hid hcN
    clear hcO hcN
    have M6 := M.over D hav S6.ex
    have hs6 := S6.ex.size
    have hl6 := S6.len
    by_cases he : noted (nokAll [m.base] && inB m.index 0 255 && inB m.total 1 16 && inB m.index 0 (m.total - 1) && inB m.dl 0 64) e 1 = 0
    · have he1 : (noted (nokAll [m.base] && inB m.index 0 255 && inB m.total 1 16 && inB m.index 0 (m.total - 1) && inB m.dl 0 64) e 1 != 0) = false := by simpa using he
      clear he
      go_wp2_with fail
      have hw : w6.drew.cell? ⟨w3.heap.size, 0, none⟩ = some (.int .i64 (m.dl : Int)) := hv6
      refine wp_region_ord (fun w' => w'.cell? ⟨w3.heap.size, 0, none⟩ = some (.int .i64 (m.dl : Int))) [8] [(0, true), (1, true), (2, true), (3, true), (4, true), (5, false), (6, true), (7, true), (8, false)]
        (by kernel_rfl) (by kernel_rfl) (by kernel_rfl) (by kernel_rfl) rfl (by intro c a d v w h; cases d <;> exact h) hw ?_
      simp only [mkOrd, List.filterMap_cons, List.filterMap_nil, List.getElem?_toArray, List.getElem?_cons_zero, List.getElem?_cons_succ, Option.map_some]
      iterate 5
        refine ord_take (v := ?_) rfl ?_ ?_
        rotate_left
        · intro w' hS
          have s0 := hS
          go_simp
          with_reducible rfl
        go_frame
      refine ord_val (v := ?_) (w' := ?_) rfl ?_ ?_ ?_
      rotate_left
      rotate_left
      · go_simp
        first | with_reducible rfl | (refine ⟨?_, ?_⟩ <;> with_reducible rfl)
      · intro _; exact hw
      go_frame
      have hnil := nil_bytes wb
      iterate 2
        refine ord_take (v := ?_) rfl ?_ ?_
        rotate_left
        · intro w' hS
          go_simp
          with_reducible rfl
        go_frame
      clear hnil he1
      refine ord_enter rfl (ex_invoke rfl rfl rfl (inv_bytes wb _ _ _)) ?_
      have Sd := S6.go ((Ex.refl [] w6).drew)
      have Md := M.over D hav Sd.ex
      refine (bytes_w m.dl Sd.at' (Nat.le_trans hB hs6) (fun k hk => Nat.lt_of_lt_of_le (hav k hk) hs6) (Md.blk.cell 29) M.bav (Md.dat.bytes (fun k hk => Nat.lt_of_lt_of_le (hav k hk) hs6) M.dl) M.dnil (by omega)).mono ?_
      rintro z w9 ⟨v9, rfl, D9, X9, G9⟩
      obtain ⟨v10, ys10, _, S9⟩ := Sd.step (ok2 := true) (enc2 := m.data) (m2 := m.dl) (z := .returned (.tuple #[])) ⟨v9, _, rfl, by rw [noted_true]; exact D9, fun _ _ => rfl, by rw [List.length_append, M.dl]; omega, X9, G9⟩ (fun _ h => h)
      refine ⟨_, rfl, fun h => by simp at h, ?_⟩
      go_frame
      refine ord_nil ?_
      clear S6 M6 Sd Md D9 X9 G9 hw hv6
      rw [Bool.and_true, Int.toNat_natCast] at S9
      go_wp2_with fail
      go_end0
      rw [Ho.out, Hn.out]
      exact S9.done.weak (by omega)
    · have he1 : (noted (nokAll [m.base] && inB m.index 0 255 && inB m.total 1 16 && inB m.index 0 (m.total - 1) && inB m.dl 0 64) e 1 != 0) = true := by simpa using he
      have S7 := S6.bad (ok' := chunkOk m) (enc' := chunkEnc m) he (fun h => by rw [Ho.out] at h; exact h)
      clear he S6
      go_wp2_with fail
      go_end0
      exact S7.done.weak (by omega)
end
end Go.Proofs.Ytphmdhbhoakcaaa
