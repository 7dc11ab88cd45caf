/- wire.down over a writer. -/
import Derived.Test.YtphmdhbhoakcaaaWireM
namespace Go.Proofs.Ytphmdhbhoakcaaa
open Go.RowKit Go.Ad Go.Maps
def seatB (m : MsgD) : Int := if m.seat = -1 then 4 else m.seat
def stsOk (m : MsgD) (i : Nat) : Bool := (List.range i).all fun s => nokAll [m.firsts s] && rowOk (m.seats s)
def stsEnc (m : MsgD) (i : Nat) : List UInt8 := (List.range i).flatMap fun s => nenc [m.firsts s] ++ rowEnc (m.seats s)
def slSum (m : MsgD) (i : Nat) : Nat := ((List.range i).map m.sl).sum
theorem slSum_le (m : MsgD) {i : Nat} (hi : i < 4) : slSum m i + m.sl i ≤ slSum m 4 := by
  match i, hi with
  | 0, _ => first | (simp [slSum, List.range_succ]; done) | (simp [slSum, List.range_succ]; omega)
  | 1, _ => first | (simp [slSum, List.range_succ]; done) | (simp [slSum, List.range_succ]; omega)
  | 2, _ => first | (simp [slSum, List.range_succ]; done) | (simp [slSum, List.range_succ]; omega)
  | 3, _ => first | (simp [slSum, List.range_succ]; done) | (simp [slSum, List.range_succ]; omega)
theorem slSum_succ (m : MsgD) (i : Nat) : slSum m (i + 1) = slSum m i + m.sl i := by simp [slSum, List.range_succ]
def restOk (m : MsgD) : Bool := nokAll [m.base, m.frm] && streamOk m.stream && stsOk m 4 && nokAll [m.ack]
def restEnc (m : MsgD) : List UInt8 := nenc [m.base, m.frm] ++ streamEnc m.stream ++ stsEnc m 4 ++ nenc [m.ack]
def downOk (m : MsgD) : Bool := inB m.stage 1 7 && inB (seatB m) 0 4 && restOk m
def downEnc (m : MsgD) : List UInt8 := be 1 m.stage.toNat ++ be 1 (seatB m).toNat ++ restEnc m
def DownI (w0 : World) (B wb : Nat) (av : List Nat) (v0 : Value) (ys0 : List UInt8) (e0 : Int) (m : MsgD) (ok : Bool) (enc : List UInt8) (n : Nat) (k : Nat) (vi : Value) (wr : World) : Prop :=
  ∃ (i : Nat) (v' : Value) (ys' : List UInt8), vi = .int .i64 (i : Int) ∧ i + k = 4 ∧ WSt w0 B wb av v0 ys0 e0 (ok && stsOk m i) (enc ++ stsEnc m i) (n + 5 * i + slSum m i) wr v' ys'
section
variable {w w' : World} {B wb : Nat} {av : List Nat} {v : Value} {ys : List UInt8} {e : Int}
theorem Gr.mono {w1 : World} {v v1 : Value} (h : Gr w1 v v1) (hs : w.heap.size ≤ w1.heap.size) : Gr w v v1 := h.imp id (fun ⟨y, h, hy⟩ => ⟨y, h, Nat.le_trans hs hy⟩)
theorem Ex.dropB {b : Nat} {l : List Nat} (X : Ex (b :: l) w w') (h : w'.heap[b]? = w.heap[b]?) : Ex l w w' := ⟨X.os, X.tape, X.output, X.size, fun k hk hl => by
  by_cases hb : k = b
  · subst hb; exact h
  · exact X.block k hk (by simp [hb, hl])⟩
theorem first_cell {b : Nat} {m : MsgD} (M : MsgAt w av b m) {i : Nat} (hi : i < 4) : w.cell? ⟨b, 18 + i, none⟩ = some (.int .i64 (m.firsts i)) := by
  rw [M.blk.cell]
  match i, hi with
  | 0, _ => rfl
  | 1, _ => rfl
  | 2, _ => rfl
  | 3, _ => rfl
theorem seats_cell {b : Nat} {m : MsgD} (M : MsgAt w av b m) {i : Nat} (hi : i < 4) : w.cell? ⟨b, 22 + i, none⟩ = some (.slice (m.sa i) (m.sl i) (m.sc i)) := by
  rw [M.blk.cell]
  match i, hi with
  | 0, _ => rfl
  | 1, _ => rfl
  | 2, _ => rfl
  | 3, _ => rfl
set_option maxRecDepth 100000 in
set_option maxHeartbeats 3200000 in
theorem down_w {b : Nat} {m : MsgD} (D : WrAt w B wb av v ys e) (hB : B ≤ w.heap.size) (hav : ∀ k ∈ av, k < w.heap.size) (hl : ys.length + 1000 + 10 * m.rl + slSum m 4 ≤ 1000000) (M : MsgAt w av b m) (hs4 : m.seat ≠ 4) :
    Calls Try.prog 43 #[.iface 52 (ptr wb), ptr b] w (WPost w B wb av v ys e (downOk m) (downEnc m) (36 + 10 * m.rl + slSum m 4)) := by
  have D0 := D
  have M0 := M
  have hav0 := hav
  have hB0 := hB
  go_enter Try.func43, Try.ntmps43
  go_wp2_with fail
  refine (number_p (n := 1) (x := m.stage) (f := 1) (t := 7) D hB hav (by omega) (by omega) (M.blk.cell 13) (M.blk.froz 13) M.bav (by omega) (by omega)).mono ?_
  rintro z w1 hz
  obtain ⟨v1, ys1, rfl, S1⟩ := (WSt.start D).step (ok := true) (enc := []) (m := 0) (by rw [noted_true]; exact hz) (fun _ h => h)
  simp only [Bool.true_and, List.nil_append, Nat.zero_add] at S1
  have M1 := M.over D hav S1.ex
  have hs1 := S1.ex.size
  have hl1 := S1.len
  clear hz
  have c14 : w1.cell? ⟨b, 14, none⟩ = some (.int .i64 m.seat) := M1.blk.cell 14
  have f14 := M1.blk.froz
  by_cases h1 : m.seat = -1
  · rw [h1] at c14
    have hsb : seatB m = 4 := by simp [seatB, h1]
    have Hsb := Lib.hid hsb
    have H1 := Lib.hid h1
    clear hsb h1 hs4
    go_wp2_with fail
    have XA : Ex [b] w1 (w1.setCell ⟨b, 14, none⟩ (.int .i64 4)) := (Ex.refl _ _).setCell (.inl (by simp)) _
    have DA := S1.at'.turn (av' := av) XA (fun k hk => .inl (by rw [List.mem_singleton.1 hk]; exact M.bav)) (fun k hk => .inl hk)
    have BA := M1.blk.set 14 (.int .i64 4)
    generalize w1.setCell ⟨b, 14, none⟩ (.int .i64 4) = wA at *
    have hsA := XA.size
    have havA : ∀ k ∈ av, k < wA.heap.size := fun k hk => by have := hav k hk; omega
    have cA : wA.cell? ⟨b, 14, none⟩ = some (.int .i64 4) := BA.cell 14
    refine (number_p (n := 1) (x := 4) (f := 0) (t := 4) DA (by omega) havA (by omega) (by omega) cA (BA.froz 14) M.bav (by omega) (by omega)).mono ?_
    rintro z w2 ⟨v2, ys2, rfl, T2⟩
    have hnb : b ∉ wb :: v1.ownBlock.toList := by
      simp only [List.mem_cons, Option.mem_toList, not_or]
      exact ⟨fun h => DA.bav (by rw [← h]; exact M.bav), fun h => (DA.vav _ h).1 M.bav⟩
    have B2 := BA.ex T2.ex hnb
    have c2 : w2.cell? ⟨b, 14, none⟩ = some (.int .i64 4) := B2.cell 14
    have f2 := B2.froz
    clear c14 f14 cA
    go_wp2_with fail
    have X3 : Ex [b] w2 (w2.setCell ⟨b, 14, none⟩ (.int .i64 (-1))) := (Ex.refl _ _).setCell (.inl (by simp)) _
    have B3 := B2.set 14 (.int .i64 (-1))
    generalize w2.setCell ⟨b, 14, none⟩ (.int .i64 (-1)) = w3 at *
    have B3' : Blk w3 b (msgCells m) 29 := by
      have e1 : ((msgCells m).setIfInBounds 14 (.int .i64 4)).setIfInBounds 14 (.int .i64 (-1)) = msgCells m := by
        simp [msgCells, H1.out]
      rw [← e1]; exact B3
    have X13 : Ex (b :: wb :: v1.ownBlock.toList) w1 w3 := ((XA.mono (by simp)).trans (T2.ex.mono (fun k hk => List.mem_cons_of_mem _ hk))).trans (X3.mono (by simp))
    have X03 : Ex (b :: wb :: v.ownBlock.toList) w w3 := (S1.ex.mono (fun k hk => List.mem_cons_of_mem _ hk)).own X13 (fun k hk => by
      rcases List.mem_cons.1 hk with rfl | hk
      · exact .inl (by simp)
      · rcases List.mem_cons.1 hk with rfl | hk
        · exact .inl (by simp)
        · rcases S1.gr with h | ⟨y, h, hy⟩
          · exact .inl (by rw [h] at hk; simp [hk])
          · rw [h] at hk; simp at hk; exact .inr (by omega))
    have S3 : WSt w B wb av v ys e (inB m.stage 1 7 && inB 4 0 4) (be 1 m.stage.toNat ++ be 1 (4 : Int).toNat) 2 w3 v2 ys2 := by
      refine ⟨?_, fun h0 h1 => ?_, by have := T2.len; omega, Ex.dropB X03 (B3'.trans M.blk.symm), S1.gr.grow (Gr.mono T2.gr hsA) hs1⟩
      · rw [← noted_two]
        exact T2.at'.turn X3 (fun k hk => .inl (by rw [List.mem_singleton.1 hk]; exact M.bav)) (fun k hk => .inl hk)
      · simp only [Bool.and_eq_true] at h1
        rw [T2.enc (noted_zero.2 ⟨h0, h1.1⟩) h1.2, S1.enc h0 h1.1, List.append_assoc]
    have M3 := M.over D hav S3.ex
    clear S1 M1 XA DA BA T2 B2 X3 B3 X13 X03 B3' c2 f2
    refine wp_region_ord (fun _ => True) [8] [(0, true), (1, true), (2, true), (3, true), (4, true), (5, true), (6, true), (7, false), (8, false)]
      (by kernel_rfl) (by kernel_rfl) (by kernel_rfl) (by kernel_rfl) rfl (by intro c a d v w h; cases d <;> exact h) trivial ?_
    simp only [mkOrd, List.filterMap_cons, List.filterMap_nil, List.getElem?_toArray, List.getElem?_cons_zero, List.getElem?_cons_succ, Option.map_some]
    iterate 7
      refine ord_take (v := ?_) rfl ?_ ?_
      rotate_left
      · intro w' hS
        go_simp
        with_reducible rfl
      go_frame
    refine ord_val (v := ?_) (w' := ?_) rfl ?_ ?_ ?_
    rotate_left
    rotate_left
    · go_simp
      first | with_reducible rfl | (refine ⟨?_, ?_⟩ <;> with_reducible rfl)
    · intro _; exact trivial
    go_frame
    have Sd := S3.go ((Ex.refl [] w3).drew)
    refine ord_enter rfl (ex_call (vs := [.iface 52 (ptr wb), .slice (some ⟨w3.heap.size, 0, none⟩) 2 2]) rfl Try.func40 rfl (by kernel_rfl) rfl) ?_
    refine (plain2_s (x := m.base) (y := m.frm) (o := 15) (o' := 16) Sd hB0 hav0 (by omega) M0.bav (M3.blk.cell 15) (M3.blk.froz 15) (M3.blk.cell 16) (M3.blk.froz 16)).mono ?_
    rintro z w4 ⟨v4, ys4, rfl, S4⟩
    refine ⟨_, rfl, fun h => by simp at h, ?_⟩
    go_frame
    refine ord_nil ?_
    clear S3 M3 Sd
    have M4 := M0.over D0 hav0 S4.ex
    have hs4 := S4.ex.size
    have hl4 := S4.len
    go_wp2_with fail
    refine (stream_w S4.at' (by omega) (fun k hk => by have := hav0 k hk; omega) (by omega) (M4.blk.cell 17) M0.bav M4.rl M4.str).mono ?_
    rintro z w5 hz
    obtain ⟨v5, ys5, rfl, S5⟩ := S4.step hz (fun _ h => h)
    clear S4 M4 hz
    generalize hok : (inB m.stage 1 7 && inB 4 0 4 && nokAll [m.base, m.frm] && streamOk m.stream) = ok5 at S5
    generalize hen : (be 1 m.stage.toNat ++ be 1 (4 : Int).toNat ++ nenc [m.base, m.frm] ++ streamEnc m.stream) = en5 at S5
    have Hok := Lib.hid hok
    have Hen := Lib.hid hen
    clear hok hen
    go_wp2_with fail
    have P5 : DownI w B wb av v ys e m ok5 en5 (2 + 8 + (2 + 10 * m.rl)) 4 (.int .i64 0) w5 := ⟨0, v5, ys5, rfl, rfl, by simpa [stsOk, stsEnc, slSum] using S5⟩
    clear S5
    go_loopg [53] 4 (fun k vi wr => DownI w B wb av v ys e m ok5 en5 (2 + 8 + (2 + 10 * m.rl)) k vi wr)
    case atStart => exact P5
    case round =>
      clear P5
      obtain ⟨i, v6, ys6, rfl, hk, S6⟩ := hrel
      have M6 := M0.over D0 hav0 S6.ex
      by_cases hi : i < 4
      · have hi' : (i : Int) < 4 := by omega
        have hc := first_cell M6 hi
        have Hc := Lib.hid hc
        have hsl := slSum_le m hi
        clear hc
        go_wp2_with fail
        refine (plain1_s (x := m.firsts i) S6 hB0 hav0 (by omega) M0.bav Hc.out (M6.blk.froz _)).mono ?_
        rintro z w7 ⟨v7, ys7, rfl, S7⟩
        clear S6 M6 Hc
        have M7 := M0.over D0 hav0 S7.ex
        have hs7 := S7.ex.size
        have hl7 := S7.len
        have hc := seats_cell M7 hi
        have Hc := Lib.hid hc
        clear hc
        go_wp2_with fail
        refine (row_w S7.at' (by omega) (fun k hk => by have := hav0 k hk; omega) (by omega) Hc.out M0.bav (M7.sl i hi) (M7.sts i hi)).mono ?_
        rintro z w8 hz
        obtain ⟨v8, ys8, rfl, S8⟩ := S7.step hz (fun _ h => h)
        clear S7 M7 Hc hz
        have hss := slSum_succ m i
        have Hss := Lib.hid hss
        clear hss
        go_wp2_with fail
        go_roundg (gk - 1)
        case measure => omega
        case rel =>
          refine ⟨i + 1, v8, ys8, by go_num, by omega, ?_⟩
          have e1 : 2 + 8 + (2 + 10 * m.rl) + 5 * i + slSum m i + 4 + (1 + m.sl i) = 2 + 8 + (2 + 10 * m.rl) + 5 * (i + 1) + slSum m (i + 1) := by rw [Hss.out]; omega
          rw [e1] at S8
          simpa [stsOk, stsEnc, List.range_succ, List.all_append, List.flatMap_append, Bool.and_assoc] using S8
      · obtain rfl : i = 4 := by omega
        go_wp2_with fail
        refine (plain1_s (x := m.ack) (o := 26) S6 hB0 hav0 (by omega) M0.bav (M6.blk.cell 26) (M6.blk.froz 26)).mono ?_
        rintro z w7 ⟨v7, ys7, rfl, S7⟩
        clear S6 M6
        go_wp2_with fail
        go_end0
        rw [← Hok.out, ← Hen.out] at S7
        have e1 : downOk m = (inB m.stage 1 7 && inB 4 0 4 && nokAll [m.base, m.frm] && streamOk m.stream && stsOk m 4 && nokAll [m.ack]) := by rw [downOk, Hsb.out, restOk]; simp [Bool.and_assoc]
        have e2 : downEnc m = be 1 m.stage.toNat ++ be 1 (4 : Int).toNat ++ nenc [m.base, m.frm] ++ streamEnc m.stream ++ stsEnc m 4 ++ nenc [m.ack] := by rw [downEnc, Hsb.out, restEnc]; simp
        rw [e1, e2]
        exact S7.done.weak (by omega)
  · have g1 : (m.seat == -1) = false := by simpa using h1
    have g4 : (m.seat == 4) = false := by simpa using hs4
    have hsb : seatB m = m.seat := by simp [seatB, h1]
    have Hsb := Lib.hid hsb
    clear hsb h1 hs4
    go_wp2_with fail
    refine (number_p (n := 1) (x := m.seat) (f := 0) (t := 4) S1.at' (by omega) (fun k hk => by have := hav k hk; omega) (by omega) (by omega) c14 (f14 14) M.bav (by omega) (by omega)).mono ?_
    rintro z w3 hz
    obtain ⟨v3, ys3, rfl, S3⟩ := S1.step hz (fun _ h => h)
    have M3 := M.over D hav S3.ex
    have c3 : w3.cell? ⟨b, 14, none⟩ = some (.int .i64 m.seat) := M3.blk.cell 14
    clear hz S1 M1 c14 f14
    go_wp2_with fail
    clear c3 g1 g4
    refine wp_region_ord (fun _ => True) [8] [(0, true), (1, true), (2, true), (3, true), (4, true), (5, true), (6, true), (7, false), (8, false)]
      (by kernel_rfl) (by kernel_rfl) (by kernel_rfl) (by kernel_rfl) rfl (by intro c a d v w h; cases d <;> exact h) trivial ?_
    simp only [mkOrd, List.filterMap_cons, List.filterMap_nil, List.getElem?_toArray, List.getElem?_cons_zero, List.getElem?_cons_succ, Option.map_some]
    iterate 7
      refine ord_take (v := ?_) rfl ?_ ?_
      rotate_left
      · intro w' hS
        go_simp
        with_reducible rfl
      go_frame
    refine ord_val (v := ?_) (w' := ?_) rfl ?_ ?_ ?_
    rotate_left
    rotate_left
    · go_simp
      first | with_reducible rfl | (refine ⟨?_, ?_⟩ <;> with_reducible rfl)
    · intro _; exact trivial
    go_frame
    have Sd := S3.go ((Ex.refl [] w3).drew)
    refine ord_enter rfl (ex_call (vs := [.iface 52 (ptr wb), .slice (some ⟨w3.heap.size, 0, none⟩) 2 2]) rfl Try.func40 rfl (by kernel_rfl) rfl) ?_
    refine (plain2_s (x := m.base) (y := m.frm) (o := 15) (o' := 16) Sd hB0 hav0 (by omega) M0.bav (M3.blk.cell 15) (M3.blk.froz 15) (M3.blk.cell 16) (M3.blk.froz 16)).mono ?_
    rintro z w4 ⟨v4, ys4, rfl, S4⟩
    refine ⟨_, rfl, fun h => by simp at h, ?_⟩
    go_frame
    refine ord_nil ?_
    clear S3 M3 Sd
    have M4 := M0.over D0 hav0 S4.ex
    have hs4 := S4.ex.size
    have hl4 := S4.len
    go_wp2_with fail
    refine (stream_w S4.at' (by omega) (fun k hk => by have := hav0 k hk; omega) (by omega) (M4.blk.cell 17) M0.bav M4.rl M4.str).mono ?_
    rintro z w5 hz
    obtain ⟨v5, ys5, rfl, S5⟩ := S4.step hz (fun _ h => h)
    clear S4 M4 hz
    generalize hok : (inB m.stage 1 7 && inB m.seat 0 4 && nokAll [m.base, m.frm] && streamOk m.stream) = ok5 at S5
    generalize hen : (be 1 m.stage.toNat ++ be 1 m.seat.toNat ++ nenc [m.base, m.frm] ++ streamEnc m.stream) = en5 at S5
    have Hok := Lib.hid hok
    have Hen := Lib.hid hen
    clear hok hen
    go_wp2_with fail
    have P5 : DownI w B wb av v ys e m ok5 en5 (2 + 8 + (2 + 10 * m.rl)) 4 (.int .i64 0) w5 := ⟨0, v5, ys5, rfl, rfl, by simpa [stsOk, stsEnc, slSum] using S5⟩
    clear S5
    go_loopg [53] 4 (fun k vi wr => DownI w B wb av v ys e m ok5 en5 (2 + 8 + (2 + 10 * m.rl)) k vi wr)
    case atStart => exact P5
    case round =>
      clear P5
      obtain ⟨i, v6, ys6, rfl, hk, S6⟩ := hrel
      have M6 := M0.over D0 hav0 S6.ex
      by_cases hi : i < 4
      · have hi' : (i : Int) < 4 := by omega
        have hc := first_cell M6 hi
        have Hc := Lib.hid hc
        have hsl := slSum_le m hi
        clear hc
        go_wp2_with fail
        refine (plain1_s (x := m.firsts i) S6 hB0 hav0 (by omega) M0.bav Hc.out (M6.blk.froz _)).mono ?_
        rintro z w7 ⟨v7, ys7, rfl, S7⟩
        clear S6 M6 Hc
        have M7 := M0.over D0 hav0 S7.ex
        have hs7 := S7.ex.size
        have hl7 := S7.len
        have hc := seats_cell M7 hi
        have Hc := Lib.hid hc
        clear hc
        go_wp2_with fail
        refine (row_w S7.at' (by omega) (fun k hk => by have := hav0 k hk; omega) (by omega) Hc.out M0.bav (M7.sl i hi) (M7.sts i hi)).mono ?_
        rintro z w8 hz
        obtain ⟨v8, ys8, rfl, S8⟩ := S7.step hz (fun _ h => h)
        clear S7 M7 Hc hz
        have hss := slSum_succ m i
        have Hss := Lib.hid hss
        clear hss
        go_wp2_with fail
        go_roundg (gk - 1)
        case measure => omega
        case rel =>
          refine ⟨i + 1, v8, ys8, by go_num, by omega, ?_⟩
          have e1 : 2 + 8 + (2 + 10 * m.rl) + 5 * i + slSum m i + 4 + (1 + m.sl i) = 2 + 8 + (2 + 10 * m.rl) + 5 * (i + 1) + slSum m (i + 1) := by rw [Hss.out]; omega
          rw [e1] at S8
          simpa [stsOk, stsEnc, List.range_succ, List.all_append, List.flatMap_append, Bool.and_assoc] using S8
      · obtain rfl : i = 4 := by omega
        go_wp2_with fail
        refine (plain1_s (x := m.ack) (o := 26) S6 hB0 hav0 (by omega) M0.bav (M6.blk.cell 26) (M6.blk.froz 26)).mono ?_
        rintro z w7 ⟨v7, ys7, rfl, S7⟩
        clear S6 M6
        go_wp2_with fail
        go_end0
        rw [← Hok.out, ← Hen.out] at S7
        have e1 : downOk m = (inB m.stage 1 7 && inB m.seat 0 4 && nokAll [m.base, m.frm] && streamOk m.stream && stsOk m 4 && nokAll [m.ack]) := by rw [downOk, Hsb.out, restOk]; simp [Bool.and_assoc]
        have e2 : downEnc m = be 1 m.stage.toNat ++ be 1 m.seat.toNat ++ nenc [m.base, m.frm] ++ streamEnc m.stream ++ stsEnc m 4 ++ nenc [m.ack] := by rw [downEnc, Hsb.out, restEnc]; simp
        rw [e1, e2]
        exact S7.done.weak (by omega)
/-- Another number in one place of a datagram's block: its rows stay. -/
theorem MsgAt.set {b : Nat} {m m' : MsgD} (M : MsgAt w av b m) (hav : ∀ k ∈ av, k < w.heap.size) (j : Nat) (u : Value) (hc : (msgCells m).setIfInBounds j u = msgCells m') (hr : m'.bits = m.bits ∧ m'.ia = m.ia ∧ m'.inputs = m.inputs ∧ m'.il = m.il ∧ m'.ra = m.ra ∧ m'.stream = m.stream ∧ m'.rl = m.rl ∧ m'.sa = m.sa ∧ m'.seats = m.seats ∧ m'.sl = m.sl ∧ m'.da = m.da ∧ m'.data = m.data ∧ m'.dl = m.dl ∧ m'.dc = m.dc) :
    MsgAt (w.setCell ⟨b, j, none⟩ u) av b m' := by
  obtain ⟨r0, r1, r2, r3, r4, r5, r6, r7, r8, r9, r10, r11, r12, r13⟩ := hr
  have X : Ex [b] w (w.setCell ⟨b, j, none⟩ u) := (Ex.refl _ _).setCell (.inl (by simp)) _
  have hI : ∀ (a : Option Addr) (zs : List Int), (zs ≠ [] → ∀ ab ao, a = some ⟨ab, ao, none⟩ → ab ≠ b) → IntsIn w av a zs → IntsIn (w.setCell ⟨b, j, none⟩ u) av a zs := fun a zs hn h => by
    by_cases h0 : zs = []
    · exact .inl h0
    rcases h with h | ⟨ab, ao, h1, h2, h3⟩
    · exact .inl h
    · refine .inr ⟨ab, ao, h1, h2, fun i x hx => ?_⟩
      have hne : ab ∉ [b] := by simpa using hn h0 ab ao h1
      exact ⟨by rw [X.cell (p := ⟨ab, _, none⟩) (hav _ h2) hne]; exact (h3 i x hx).1, by rw [X.frozen (p := ⟨ab, _, none⟩) (hav _ h2) hne]; exact (h3 i x hx).2⟩
  refine ⟨by rw [← hc]; exact M.blk.set j u, M.bav, by rw [r0]; exact M.bits, by rw [r1, r2]; exact hI _ _ (fun h0 ab ao h => M.nb ab ao (.inl ⟨h0, h⟩)) M.inp, by rw [r2, r3]; exact M.il, ?_, by rw [r5, r6]; exact M.rl, fun s hs => by rw [r7, r8]; exact hI _ _ (fun h0 ab ao h => M.nb ab ao (.inr (.inr (.inr ⟨s, hs, h0, h⟩)))) (M.sts s hs), fun s hs => by rw [r8, r9]; exact M.sl s hs, ?_, by rw [r11, r12]; exact M.dl, by rw [r10, r13]; exact M.dnil, by rw [r1, r2, r4, r5, r10, r11, r7, r8]; exact M.nb⟩
  · rw [r4, r5]
    by_cases h0 : m.stream = []
    · exact .inl h0
    rcases M.str with h | ⟨ab, ao, h1, h2, h3⟩
    · exact .inl h
    · refine .inr ⟨ab, ao, h1, h2, fun i x hx => ?_⟩
      have hne : ab ∉ [b] := by simpa using M.nb ab ao (.inr (.inl ⟨h0, h1⟩))
      have R := h3 i x hx
      exact ⟨by rw [X.cell (p := ⟨ab, _, none⟩) (hav _ h2) hne]; exact R.c0, by rw [X.cell (p := ⟨ab, _, none⟩) (hav _ h2) hne]; exact R.c1, by rw [X.cell (p := ⟨ab, _, none⟩) (hav _ h2) hne]; exact R.c2, by rw [X.cell (p := ⟨ab, _, none⟩) (hav _ h2) hne]; exact R.c3, by rw [X.cell (p := ⟨ab, _, none⟩) (hav _ h2) hne]; exact R.c4, fun q hq => by rw [X.frozen (p := ⟨ab, _, none⟩) (hav _ h2) hne]; exact R.fz q hq⟩
  · rw [r10, r11]
    by_cases h0 : m.data = []
    · exact .inl h0
    rcases M.dat with h | ⟨ab, ao, h1, h2, h3⟩
    · exact .inl h
    · exact .inr ⟨ab, ao, h1, h2, rangeAt_ex h3 X (hav _ h2) (by simpa using M.nb ab ao (.inr (.inr (.inl ⟨h0, h1⟩))))⟩
/-- What is left of a writer that refuses. -/
def WNo (w0 : World) (B wb : Nat) (av : List Nat) (b : Nat) (v0 : Value) (e0 : Int) (n : Nat) (z : Ending) (w : World) : Prop :=
  ∃ v ys, z = .returned (.tuple #[]) ∧ WrAt w B wb av v ys (noted false e0 1) ∧ ys.length ≤ n ∧ Ex (b :: wb :: v0.ownBlock.toList) w0 w ∧ Gr w0 v0 v
set_option maxRecDepth 100000 in
set_option maxHeartbeats 3200000 in
theorem down4_w {b : Nat} {m : MsgD} (D : WrAt w B wb av v ys e) (hB : B ≤ w.heap.size) (hav : ∀ k ∈ av, k < w.heap.size) (hl : ys.length + 1000 + 10 * m.rl + slSum m 4 ≤ 1000000) (M : MsgAt w av b m) (hs4 : m.seat = 4) :
    Calls Try.prog 43 #[.iface 52 (ptr wb), ptr b] w (WNo w B wb av b v e (ys.length + 36 + 10 * m.rl + slSum m 4)) := by
  go_enter Try.func43, Try.ntmps43
  go_wp2_with fail
  refine (number_p (n := 1) (x := m.stage) (f := 1) (t := 7) D hB hav (by omega) (by omega) (M.blk.cell 13) (M.blk.froz 13) M.bav (by omega) (by omega)).mono ?_
  rintro z w1 hz
  obtain ⟨v1, ys1, rfl, S1⟩ := (WSt.start D).step (ok := true) (enc := []) (m := 0) (by rw [noted_true]; exact hz) (fun _ h => h)
  simp only [Bool.true_and, List.nil_append, Nat.zero_add] at S1
  have M1 := M.over D hav S1.ex
  have hs1 := S1.ex.size
  have hl1 := S1.len
  clear hz
  have c14 : w1.cell? ⟨b, 14, none⟩ = some (.int .i64 4) := by rw [← hs4]; exact M1.blk.cell 14
  have f14 := M1.blk.froz
  have hav1 : ∀ k ∈ av, k < w1.heap.size := fun k hk => by have := hav k hk; omega
  have H4 := Lib.hid hs4
  clear hs4
  go_wp2_with fail
  have XA : Ex [b] w1 (w1.setCell ⟨b, 14, none⟩ (.int .i64 (-2))) := (Ex.refl _ _).setCell (.inl (by simp)) _
  have D0 := S1.at'.turn (av' := av) XA (fun k hk => .inl (by rw [List.mem_singleton.1 hk]; exact M.bav)) (fun k hk => .inl hk)
  have M0 := M1.set (m' := { m with seat := -2 }) hav1 14 (.int .i64 (-2)) (by simp [msgCells]) ⟨rfl, rfl, rfl, rfl, rfl, rfl, rfl, rfl, rfl, rfl, rfl, rfl, rfl, rfl⟩
  generalize w1.setCell ⟨b, 14, none⟩ (.int .i64 (-2)) = wA at *
  have hsA := XA.size
  have hav0 : ∀ k ∈ av, k < wA.heap.size := fun k hk => by have := hav k hk; omega
  have hB0 : B ≤ wA.heap.size := by omega
  refine (number_p (n := 1) (x := -2) (f := 0) (t := 4) D0 (by omega) hav0 (by omega) (by omega) (M0.blk.cell 14) (M0.blk.froz 14) M.bav (by omega) (by omega)).mono ?_
  rintro z w3 ⟨v3, ys3, rfl, S3⟩
  have M3 := M0.over D0 hav0 S3.ex
  have c3 : w3.cell? ⟨b, 14, none⟩ = some (.int .i64 (-2)) := M3.blk.cell 14
  clear c14 f14 M1
  have HS1 := Lib.hid (noted_two (inB m.stage 1 7) false e)
  go_wp2_with fail
  clear c3
  obtain ⟨e1, he1⟩ : ∃ e1, noted (inB m.stage 1 7) e 1 = e1 := ⟨_, rfl⟩
  rw [he1] at D0 S3
  obtain ⟨q, hq⟩ : ∃ q, { m with seat := -2 } = q := ⟨_, rfl⟩
  rw [hq] at M0 M3
  have hq1 : q.rl = m.rl ∧ ∀ i, slSum q i = slSum m i := by subst hq; exact ⟨rfl, fun _ => rfl⟩
  obtain ⟨hq1, hq2⟩ := hq1
  have hq4 := hq2 4
  refine wp_region_ord (fun _ => True) [8] [(0, true), (1, true), (2, true), (3, true), (4, true), (5, true), (6, true), (7, false), (8, false)]
    (by kernel_rfl) (by kernel_rfl) (by kernel_rfl) (by kernel_rfl) rfl (by intro c a d v w h; cases d <;> exact h) trivial ?_
  simp only [mkOrd, List.filterMap_cons, List.filterMap_nil, List.getElem?_toArray, List.getElem?_cons_zero, List.getElem?_cons_succ, Option.map_some]
  iterate 7
    refine ord_take (v := ?_) rfl ?_ ?_
    rotate_left
    · intro w' hS
      go_simp
      with_reducible rfl
    go_frame
  refine ord_val (v := ?_) (w' := ?_) rfl ?_ ?_ ?_
  rotate_left
  rotate_left
  · go_simp
    first | with_reducible rfl | (refine ⟨?_, ?_⟩ <;> with_reducible rfl)
  · intro _; exact trivial
  go_frame
  have Sd := S3.go ((Ex.refl [] w3).drew)
  refine ord_enter rfl (ex_call (vs := [.iface 52 (ptr wb), .slice (some ⟨w3.heap.size, 0, none⟩) 2 2]) rfl Try.func40 rfl (by kernel_rfl) rfl) ?_
  refine (plain2_s (x := q.base) (y := q.frm) (o := 15) (o' := 16) Sd hB0 hav0 (by omega) M0.bav (M3.blk.cell 15) (M3.blk.froz 15) (M3.blk.cell 16) (M3.blk.froz 16)).mono ?_
  rintro z w4 ⟨v4, ys4, rfl, S4⟩
  refine ⟨_, rfl, fun h => by simp at h, ?_⟩
  go_frame
  refine ord_nil ?_
  clear S3 M3 Sd
  have M4 := M0.over D0 hav0 S4.ex
  have hs4 := S4.ex.size
  have hl4 := S4.len
  go_wp2_with fail
  refine (stream_w S4.at' (by omega) (fun k hk => by have := hav0 k hk; omega) (by omega) (M4.blk.cell 17) M0.bav M4.rl M4.str).mono ?_
  rintro z w5 hz
  obtain ⟨v5, ys5, rfl, S5⟩ := S4.step hz (fun _ h => h)
  clear S4 M4 hz
  generalize hok : (inB (-2) 0 4 && nokAll [q.base, q.frm] && streamOk q.stream) = ok5 at S5
  generalize hen : (be 1 (-2 : Int).toNat ++ nenc [q.base, q.frm] ++ streamEnc q.stream) = en5 at S5
  have Hok := Lib.hid hok
  have Hen := Lib.hid hen
  clear hok hen
  go_wp2_with fail
  have P5 : DownI wA B wb av v1 ys1 e1 q ok5 en5 (1 + 8 + (2 + 10 * q.rl)) 4 (.int .i64 0) w5 := ⟨0, v5, ys5, rfl, rfl, by simpa [stsOk, stsEnc, slSum] using S5⟩
  clear S5
  go_loopg [53] 4 (fun k vi wr => DownI wA B wb av v1 ys1 e1 q ok5 en5 (1 + 8 + (2 + 10 * q.rl)) k vi wr)
  case atStart => exact P5
  case round =>
    clear P5
    obtain ⟨i, v6, ys6, rfl, hk, S6⟩ := hrel
    have M6 := M0.over D0 hav0 S6.ex
    by_cases hi : i < 4
    · have hi' : (i : Int) < 4 := by omega
      have hc := first_cell M6 hi
      have Hc := Lib.hid hc
      have hsl := slSum_le q hi
      clear hc
      go_wp2_with fail
      refine (plain1_s (x := q.firsts i) S6 hB0 hav0 (by omega) M0.bav Hc.out (M6.blk.froz _)).mono ?_
      rintro z w7 ⟨v7, ys7, rfl, S7⟩
      clear S6 M6 Hc
      have M7 := M0.over D0 hav0 S7.ex
      have hs7 := S7.ex.size
      have hl7 := S7.len
      have hc := seats_cell M7 hi
      have Hc := Lib.hid hc
      clear hc
      go_wp2_with fail
      refine (row_w S7.at' (by omega) (fun k hk => by have := hav0 k hk; omega) (by omega) Hc.out M0.bav (M7.sl i hi) (M7.sts i hi)).mono ?_
      rintro z w8 hz
      obtain ⟨v8, ys8, rfl, S8⟩ := S7.step hz (fun _ h => h)
      clear S7 M7 Hc hz
      have hss := slSum_succ q i
      have Hss := Lib.hid hss
      clear hss
      go_wp2_with fail
      go_roundg (gk - 1)
      case measure => omega
      case rel =>
        refine ⟨i + 1, v8, ys8, by go_num, by omega, ?_⟩
        have e1 : 1 + 8 + (2 + 10 * q.rl) + 5 * i + slSum q i + 4 + (1 + q.sl i) = 1 + 8 + (2 + 10 * q.rl) + 5 * (i + 1) + slSum q (i + 1) := by rw [Hss.out]; omega
        rw [e1] at S8
        simpa [stsOk, stsEnc, List.range_succ, List.all_append, List.flatMap_append, Bool.and_assoc] using S8
    · obtain rfl : i = 4 := by omega
      go_wp2_with fail
      refine (plain1_s (x := q.ack) (o := 26) S6 hB0 hav0 (by omega) M0.bav (M6.blk.cell 26) (M6.blk.froz 26)).mono ?_
      rintro z w7 ⟨v7, ys7, rfl, S7⟩
      clear S6 M6
      go_wp2_with fail
      go_end0
      rw [← Hok.out, ← Hen.out] at S7
      have hfl : inB (-2) 0 4 = false := by decide
      have hfin := S7.at'
      rw [hfl] at hfin
      simp only [Bool.false_and] at hfin
      rw [← he1, noted_two, Bool.and_false] at hfin
      have hlen := S7.len
      have X17 : Ex (b :: wb :: v1.ownBlock.toList) w1 w7 := (XA.mono (by simp)).trans (S7.ex.mono (fun k hk => List.mem_cons_of_mem _ hk))
      refine ⟨v7, ys7, rfl, hfin, by omega, (S1.ex.mono (fun k hk => List.mem_cons_of_mem _ hk)).own X17 (fun k hk => ?_), S1.gr.grow (Gr.mono S7.gr hsA) hs1⟩
      rcases List.mem_cons.1 hk with rfl | hk
      · exact .inl (by simp)
      · rcases List.mem_cons.1 hk with rfl | hk
        · exact .inl (by simp)
        · rcases S1.gr with h | ⟨y, h, hy⟩
          · exact .inl (by rw [h] at hk; simp [hk])
          · rw [h] at hk; simp at hk; exact .inr (by omega)
end
end Go.Proofs.Ytphmdhbhoakcaaa
