/- WireSizes, walked. -/
import Derived.Test.YtphmdhbhoakcaaaWireL
namespace Go.Proofs.Ytphmdhbhoakcaaa
open Go.RowKit Go.Ad Go.Maps
def RecLI (ws : World) (g : MsgD) (k : Nat) (vn vi : Value) (wr : World) : Prop := ∃ i : Nat, vi = .int .i64 (i : Int) ∧ i + k = g.rl ∧ vn = .int .i64 ((25 + recSum (g.stream.take i) : Nat) : Int) ∧ Ex [] ws wr
def seatSum (g : MsgD) (i : Nat) : Nat := ((List.range i).map fun s => 5 + g.sl s).sum
def SeatLI (ws : World) (g : MsgD) (q : Nat) (k : Nat) (vn vi : Value) (wr : World) : Prop := ∃ i : Nat, vi = .int .i64 (i : Int) ∧ i + k = 4 ∧ vn = .int .i64 ((q + seatSum g i : Nat) : Int) ∧ Ex [] ws wr
theorem recSum_le (rs : List Rec) : recSum rs ≤ 10 * rs.length := by
  induction rs with
  | nil => simp [recSum]
  | cons r l ih =>
    have : recLen r ≤ 10 := by unfold recLen; split <;> (try split) <;> (try split) <;> omega
    simp only [recSum, List.map_cons, List.sum_cons, List.length_cons] at *
    omega
theorem recSum_take (rs : List Rec) (i : Nat) : recSum (rs.take i) ≤ recSum rs := by
  have h : recSum rs = recSum (rs.take i) + recSum (rs.drop i) := by
    conv => lhs; rw [← List.take_append_drop i rs]
    rw [recSum, List.map_append, List.sum_append]; rfl
  omega
theorem seatSum_succ (g : MsgD) (i : Nat) : seatSum g (i + 1) = seatSum g i + (5 + g.sl i) := by
  simp [seatSum, List.range_succ]
theorem seatSum_le (g : MsgD) {i : Nat} (hi : i < 4) : seatSum g i + (5 + g.sl i) ≤ seatSum g 4 := by
  obtain rfl | rfl | rfl | rfl : i = 0 ∨ i = 1 ∨ i = 2 ∨ i = 3 := by omega
  all_goals simp [seatSum, List.range_succ]
  all_goals omega
theorem ga_lt {w : World} {ga n q : Nat} {xs : List UInt8} (h : BytesAt w (some ⟨ga, 0, none⟩) n xs) (hq : xs.length = q) (hp : 0 < q) : ga < w.heap.size := by
  rcases h.2 with h | ⟨b, o, h1, h2, _⟩
  · rw [h] at hq; simp at hq; omega
  · cases h1; exact h2
set_option maxRecDepth 100000 in
set_option maxHeartbeats 6400000 in
theorem wireSizes_walk {W : World} {m : MsgD} (ML : MsgL m) (MV : tot m < 2000 → MsgV W m) (hdc : m.dl ≤ m.dc) :
    Calls Try.prog 3 #[.agg (msgCells m)] W fun e w' => e = .returned (.bool true) ∧ Ex [] W w' := by
  have X1 : Ex [] W (W.alloc (.cells (msgCells m) 29)) := (Ex.refl _ _).alloc _
  have B1 := Blk.new W (msgCells m) 29
  have hsz : (Try.prog.info? 29).map (·.size) = some (msgCells m).size := by kernel_rfl
  go_enter Try.func3, Try.ntmps3
  go_wp2_with fail
  generalize W.alloc (.cells (msgCells m) 29) = w1 at *
  generalize hb1 : W.heap.size = b1 at *
  refine (known15 _).mono ?_
  rintro z w2 ⟨rfl, X2⟩
  have B2 := B1.ex X2 (by simp)
  have X02 := X1.trans X2
  clear B1 X1 X2
  go_wp2_with (refine G_val (o := ⟨some 10, _, _, _, _, _⟩) rfl (exec_load rfl rfl (row_load B2 Try.underlying29 rfl hsz)) ?_)
  refine (few15 ML).mono ?_
  rintro z w3 ⟨rfl, X3⟩
  have B3 := B2.ex X3 (by simp)
  have X03 := X02.trans X3
  clear B2 X02 X3
  by_cases hfew : (tot m : Int) < 2000
  · have hf : decide ((tot m : Int) < 2000) = true := by simpa using hfew
    have M := MV (by omega)
    rw [hf]
    clear hf hfew MV
    go_wp2_with (refine G_val (o := ⟨some 13, _, _, _, _, _⟩) rfl (exec_load rfl rfl (row_load B3 Try.underlying29 rfl hsz)) ?_)
    refine (good15 (M.ex X03) hdc).mono ?_
    rintro z w4 ⟨g, rfl, Mgz, G, X4⟩
    have Mg := Mgz [] w4 (Ex.refl _ _) (by simp)
    have hb13 : b1 < w3.heap.size := B3.lt
    have B4 := B3.ex X4 (by simp)
    have X04 := X03.trans X4
    have hb1W : b1 < w4.heap.size := B4.lt
    obtain ⟨hst, B5, X5⟩ := row_store (P := Try.prog) (ty := 29) (cs := msgCells g) B4 (by kernel_rfl) rfl (by simp [msgCells, Value.oneCell'])
    have hszg : (Try.prog.info? 29).map (·.size) = some (msgCells g).size := by kernel_rfl
    have Mg5 : MsgV (w4.setRow b1 (msgCells g)) g := Mgz [b1] _ X5 (fun k hk => by
      obtain rfl := List.mem_singleton.1 hk
      refine ⟨hb13, ?_⟩
      rcases M.dat.2 with h | ⟨db, o, h1, h2, _⟩
      · exact .inl h
      · refine .inr (fun o' h => ?_)
        rw [h1] at h; cases h; omega)
    have X05 : Ex [] W (w4.setRow b1 (msgCells g)) := X04.own X5 (fun k hk => by simp at hk; exact .inr (by omega))
    clear B3 B4 X03 X4 X04
    generalize w4.setRow b1 (msgCells g) = w5 at *
    go_wp2_with (first | (refine G_skip (o := ⟨none, Op.store 29 _ _, _, _, _, _⟩) rfl (ex_store rfl rfl rfl hst) ?_) | (refine G_val (o := ⟨some 16, _, _, _, _, _⟩) rfl (exec_load rfl rfl (row_load B5 Try.underlying29 rfl hszg)) ?_))
    have hok := good_ok G Mg.dat.1
    have hlen := encB_len (g := g)
    have hil := Mg.il
    have hrl := Mg.rl
    have hdl := Mg.dat.1
    have hi1 := G.inputs.1
    have hst := G.stream.1
    have hda := G.data
    have hs0 := Mg.sl 0 (by omega)
    have hs1 := Mg.sl 1 (by omega)
    have hs2 := Mg.sl 2 (by omega)
    have hs3 := Mg.sl 3 (by omega)
    have hq0 := (G.seats 0 (by omega)).1
    have hq1 := (G.seats 1 (by omega)).1
    have hq2 := (G.seats 2 (by omega)).1
    have hq3 := (G.seats 3 (by omega)).1
    have hsum : slSum g 4 = g.sl 0 + (g.sl 1 + (g.sl 2 + g.sl 3)) := by simp [slSum, List.range_succ] <;> omega
    have hfl : fLen g ≤ 900000 := by unfold fLen; omega
    refine (encode_w Mg5 G.kind.1 G.kind.2 hfl).mono ?_
    rintro z w6 ⟨X6, ⟨_, a, cap, rfl, O6⟩ | ⟨hno, _⟩⟩
    · have B6 := B5.ex X6 (by simp)
      have X56 := X6
      have X06 := X05.trans X6
      have hpos : 0 < (encB g).length := by simp [encB]
      obtain ⟨q, hq⟩ : ∃ q, (encB g).length = q := ⟨_, rfl⟩
      rw [hq] at O6 hpos
      obtain ⟨ga, cap', he, _, _, hby⟩ := own_bytes O6 hpos
      have hga6 := ga_lt hby hq hpos
      cases he
      have cb0 : w6.cell? ⟨ga, 0, none⟩ = some (bv (UInt8.ofNat g.kind.toNat)) := by
        rcases hby.2 with h | ⟨b, o, h1, h2, h3⟩
        · simp [encB] at h
        · cases h1
          have := h3 0 (bv (UInt8.ofNat g.kind.toNat)) (by simp [encB])
          simpa using this
      have Hq := Lib.hid hq
      have Hlen := Lib.hid hlen
      have c0 : w6.cell? ⟨b1, 0, none⟩ = some (.int .i64 g.kind) := B6.cell 0
      clear hq hlen hby O6 X05 X6 hfl hsum
      rw [Hq.out]
      have hq : q = sizeOfMsg g := by rw [← Hq.out, Hlen.out]
      clear Hq Hlen
      have Hpos := Lib.hid hpos
      clear hpos
      obtain ⟨kd, hkd⟩ : ∃ k, g.kind = k := ⟨_, rfl⟩
      rw [hkd] at cb0 c0
      have hkk := G.kind
      rw [hkd] at hkk
      obtain rfl | rfl | rfl | rfl : kd = 1 ∨ kd = 2 ∨ kd = 3 ∨ kd = 4 := by omega
      · have Hqq := Lib.hid (show q = 6 by rw [hq]; simp [sizeOfMsg, hkd])
        clear hq
        go_wp2_with fail
        have hqi : (q : Int) = 6 := by rw [Hqq.out]; rfl
        have hw : w6.drew.cell? ⟨ga, 0, none⟩ = some (bv (UInt8.ofNat (1 : Int).toNat)) ∧ w6.drew.cell? ⟨b1, 0, none⟩ = some (.int .i64 1) := ⟨cb0, c0⟩
        have Xd : Ex [] W w6.drew := X06.drew
        refine wp_region_ord (fun w' => (w'.cell? ⟨ga, 0, none⟩ = some (bv (UInt8.ofNat (1 : Int).toNat)) ∧ w'.cell? ⟨b1, 0, none⟩ = some (.int .i64 1))) [] [(0, true), (1, true), (2, true), (3, true), (4, true), (5, true), (6, true), (7, true), (8, true), (9, true), (10, true), (11, true), (12, true), (13, true)]
          (by kernel_rfl) (by kernel_rfl) (by kernel_rfl) (by kernel_rfl) rfl (by intro c a d v w h; cases d <;> exact h) hw ?_
        simp only [mkOrd, List.filterMap_cons, List.filterMap_nil, List.getElem?_toArray, List.getElem?_cons_zero, List.getElem?_cons_succ, Option.map_some]
        have hpos : (0 : Int) < 6 := by omega
        iterate 14
          refine ord_take (v := ?_) rfl ?_ ?_
          rotate_left
          · intro w' hS
            obtain ⟨s0, s1⟩ := hS
            go_simp
            with_reducible rfl
          go_frame
        refine ord_nil ?_
        go_wp2_with fail
        go_ret
        exact ⟨rfl, Xd⟩
      · have Hqq := Lib.hid (show q = 42 + g.il by rw [hq, ← hil]; simp [sizeOfMsg, hkd])
        have c12 : w6.cell? ⟨b1, 12, none⟩ = some (.slice g.ia g.il g.ic) := B6.cell 12
        have hle : g.il ≤ 1000000 := Mg.ib
        clear hq
        go_wp2_with fail
        have hqi : (q : Int) = 42 + g.il := by rw [Hqq.out]; rfl
        have hw : w6.drew.cell? ⟨ga, 0, none⟩ = some (bv (UInt8.ofNat (2 : Int).toNat)) ∧ w6.drew.cell? ⟨b1, 0, none⟩ = some (.int .i64 2) := ⟨cb0, c0⟩
        have Xd : Ex [] W w6.drew := X06.drew
        refine wp_region_ord (fun w' => (w'.cell? ⟨ga, 0, none⟩ = some (bv (UInt8.ofNat (2 : Int).toNat)) ∧ w'.cell? ⟨b1, 0, none⟩ = some (.int .i64 2))) [] [(0, true), (1, true), (2, true), (3, true), (4, true), (5, true), (6, true), (7, true), (8, true), (9, true), (10, true), (11, true), (12, true), (13, true)]
          (by kernel_rfl) (by kernel_rfl) (by kernel_rfl) (by kernel_rfl) rfl (by intro c a d v w h; cases d <;> exact h) hw ?_
        simp only [mkOrd, List.filterMap_cons, List.filterMap_nil, List.getElem?_toArray, List.getElem?_cons_zero, List.getElem?_cons_succ, Option.map_some]
        have hpos : (0 : Int) < (42 + g.il) := by omega
        iterate 14
          refine ord_take (v := ?_) rfl ?_ ?_
          rotate_left
          · intro w' hS
            obtain ⟨s0, s1⟩ := hS
            go_simp
            with_reducible rfl
          go_frame
        refine ord_nil ?_
        go_wp2_with fail
        go_ret
        exact ⟨rfl, Xd⟩
      · have Hqq := Lib.hid (show q = 25 + recSum g.stream + seatSum g 4 by
          rw [hq]; simp [sizeOfMsg, hkd, seatSum, List.range_succ, Mg.sl 0 (by omega), Mg.sl 1 (by omega), Mg.sl 2 (by omega), Mg.sl 3 (by omega)]; omega)
        clear hq
        have hrs : recSum g.stream ≤ 4000 := by have := recSum_le g.stream; omega
        have hsx : seatSum g 4 ≤ 1040 := by simp [seatSum, List.range_succ]; omega
        have Hil := Lib.hid hil
        have Hss := Lib.hid (And.intro hs0 (And.intro hs1 (And.intro hs2 hs3)))
        clear hs0 hs1 hs2 hs3 hil hdl
        have P6 : RecLI w6 g g.rl (.int .i64 25) (.int .i64 0) w6 := ⟨0, rfl, by omega, by simp [recSum], Ex.refl _ _⟩
        go_wp2_with fail
        go_loopg [5, 6] g.rl (fun k vn vi wr => RecLI w6 g k vn vi wr)
        case atStart => exact P6
        case round =>
          clear P6
          obtain ⟨i, rfl, hk, rfl, XL⟩ := hrel
          have BL := B6.ex XL (by simp)
          have c17 : wr.cell? ⟨b1, 17, none⟩ = some (.slice g.ra g.rl g.rc) := BL.cell 17
          obtain ⟨rs, hrs1⟩ : ∃ x, recSum (g.stream.take i) = x := ⟨_, rfl⟩
          have Hrs := Lib.hid hrs1
          rw [hrs1]
          clear hrs1
          by_cases hin : i < g.rl
          · have hin2 : (i : Int) < g.rl := by omega
            have hin3 : i < g.stream.length := by omega
            obtain ⟨r, hr⟩ : ∃ r, g.stream[i]? = some r := ⟨g.stream[i]'hin3, by simp⟩
            have hmem : r ∈ g.stream := List.mem_of_getElem? hr
            have hrk := G.stream.2 r hmem
            obtain ⟨rb, ro, hre, hrb, hrr⟩ : ∃ rb ro, g.ra = some ⟨rb, ro, none⟩ ∧ rb < w6.heap.size ∧ w6.rangeAt rb ro (rcells g.stream) := by
              rcases (Mg5.str.ex X56) with h | h
              · rw [h] at hr; simp at hr
              · exact h
            rw [hre] at c17
            have r0 : wr.cell? ⟨rb, ro + i * 5, none⟩ = some (.int .i64 r.kind) := by
              rw [XL.cell (p := ⟨rb, _, none⟩) hrb (by simp)]
              have := hrr (i * 5 + 0) (.int .i64 r.kind) (by rw [rcells_at g.stream i 0 r hr (by omega)]; rfl)
              simpa using this
            have hsum1 : recSum (g.stream.take (i + 1)) = rs + recLen r := by
              rw [List.take_add_one, hr]; simp [recSum] at *; rw [← Hrs.out]
            have hle : rs + recLen r ≤ 4000 := by
              rw [← hsum1]
              refine Nat.le_trans ?_ hrs
              exact recSum_take _ _
            have Hre := Lib.hid hre
            have Hsum := Lib.hid hsum1
            clear hre hsum1 hr hrr hin hin3 hmem
            obtain ⟨rk, hrk0⟩ : ∃ x, r.kind = x := ⟨_, rfl⟩
            rw [hrk0] at r0 hrk
            have hlen : recLen r = if rk = 1 then 2 else if rk = 3 then 10 else if rk = 2 then 6 else 1 := by rw [← hrk0]; rfl
            clear hrk0
            have XA : Ex [] wr (wr.alloc (.cells #[.int .i64 0, .int .i64 2, .int .i64 6, .int .i64 10] 3)) := (Ex.refl _ _).alloc _
            have BA := Blk.new wr #[.int .i64 0, .int .i64 2, .int .i64 6, .int .i64 10] 3
            have a17 : (wr.alloc (.cells #[.int .i64 0, .int .i64 2, .int .i64 6, .int .i64 10] 3)).cell? ⟨b1, 17, none⟩ = some (.slice (some ⟨rb, ro, none⟩) g.rl g.rc) := by rw [XA.cell (p := ⟨b1, _, none⟩) BL.lt (by simp)]; exact c17
            have hrbr : rb < wr.heap.size := by have := XL.size; omega
            have a0 : (wr.alloc (.cells #[.int .i64 0, .int .i64 2, .int .i64 6, .int .i64 10] 3)).cell? ⟨rb, ro + i * 5, none⟩ = some (.int .i64 rk) := by rw [XA.cell (p := ⟨rb, _, none⟩) hrbr (by simp)]; exact r0
            have ac := BA.cell
            clear BA
            obtain rfl | rfl | rfl : rk = 1 ∨ rk = 2 ∨ rk = 3 := by omega
            · have hl : recLen r = 2 := by simpa using hlen
              clear hlen
              rw [hl] at hle Hsum
              clear hl
              have ak : (wr.alloc (.cells #[.int .i64 0, .int .i64 2, .int .i64 6, .int .i64 10] 3)).cell? ⟨wr.heap.size, 1, none⟩ = some (.int .i64 2) := ac 1
              clear ac
              go_wp2_with fail
              go_roundg (gk - 1)
              case measure => omega
              case rel => exact ⟨i + 1, by go_num, by omega, by rw [Hsum.out]; go_num, XL.trans XA⟩
            · have hl : recLen r = 6 := by simpa using hlen
              clear hlen
              rw [hl] at hle Hsum
              clear hl
              have ak : (wr.alloc (.cells #[.int .i64 0, .int .i64 2, .int .i64 6, .int .i64 10] 3)).cell? ⟨wr.heap.size, 2, none⟩ = some (.int .i64 6) := ac 2
              clear ac
              go_wp2_with fail
              go_roundg (gk - 1)
              case measure => omega
              case rel => exact ⟨i + 1, by go_num, by omega, by rw [Hsum.out]; go_num, XL.trans XA⟩
            · have hl : recLen r = 10 := by simpa using hlen
              clear hlen
              rw [hl] at hle Hsum
              clear hl
              have ak : (wr.alloc (.cells #[.int .i64 0, .int .i64 2, .int .i64 6, .int .i64 10] 3)).cell? ⟨wr.heap.size, 3, none⟩ = some (.int .i64 10) := ac 3
              clear ac
              go_wp2_with fail
              go_roundg (gk - 1)
              case measure => omega
              case rel => exact ⟨i + 1, by go_num, by omega, by rw [Hsum.out]; go_num, XL.trans XA⟩
          · obtain rfl : i = g.rl := by omega
            have hrs2 : recSum g.stream = rs := by rw [← Hrs.out, ← hrl, List.take_length]
            have X0W := X06.trans XL
            obtain ⟨ws, rfl⟩ : ∃ x, x = wr := ⟨_, rfl⟩
            have P7 : SeatLI ws g (25 + rs) 4 (.int .i64 ((25 + rs : Nat) : Int)) (.int .i64 0) ws := ⟨0, rfl, rfl, by simp [seatSum], Ex.refl _ _⟩
            clear hk Hrs
            rw [hrs2] at Hqq hrs
            clear hrs2
            have cbW : ws.cell? ⟨ga, 0, none⟩ = some (bv (UInt8.ofNat (3 : Int).toNat)) := by rw [XL.cell (p := ⟨ga, _, none⟩) hga6 (by simp)]; exact cb0
            have c0W : ws.cell? ⟨b1, 0, none⟩ = some (.int .i64 3) := by rw [XL.cell (p := ⟨b1, _, none⟩) B6.lt (by simp)]; exact c0
            have hgaW : ga < ws.heap.size := Nat.lt_of_lt_of_le hga6 XL.size
            clear XL
            go_wp2_with fail
            clear c17
            go_loopg [5, 7] 4 (fun k vn vi wr => SeatLI ws g (25 + rs) k vn vi wr)
            case atStart => exact P7
            case round =>
              clear P7
              obtain ⟨i, rfl, hk, rfl, XS⟩ := hrel
              obtain ⟨qs, hqs⟩ : ∃ x, 25 + rs + seatSum g i = x := ⟨_, rfl⟩
              have Hqs := Lib.hid hqs
              rw [hqs]
              by_cases hi : i < 4
              · have hi' : (i : Int) < 4 := by omega
                have hc := seats_cellB (BL.ex XS (by simp)) hi
                have hle := seatSum_le g hi
                have hss := seatSum_succ g i
                have Hsx := Lib.hid hss
                have hqb : qs + 5 + g.sl i ≤ 100000 := by omega
                clear hss hqs hle
                go_wp2_with fail
                go_roundg (gk - 1)
                case measure => omega
                case rel => exact ⟨i + 1, by go_num, by omega, by rw [Hsx.out, ← Nat.add_assoc, Hqs.out]; go_num, XS⟩
              · obtain rfl : i = 4 := by omega
                have hqi : (q : Int) = (qs : Int) := by rw [Hqq.out, Hqs.out]
                have hqb : qs ≤ 100000 := by omega
                have hqn : 0 < qs := by omega
                have XE := X0W.trans XS
                have cbE : wr.cell? ⟨ga, 0, none⟩ = some (bv (UInt8.ofNat (3 : Int).toNat)) := by rw [XS.cell (p := ⟨ga, _, none⟩) hgaW (by simp)]; exact cbW
                have c0E : wr.cell? ⟨b1, 0, none⟩ = some (.int .i64 3) := by rw [XS.cell (p := ⟨b1, _, none⟩) BL.lt (by simp)]; exact c0W
                clear hqs
                go_wp2_with fail
                have hw : wr.drew.cell? ⟨ga, 0, none⟩ = some (bv (UInt8.ofNat (3 : Int).toNat)) ∧ wr.drew.cell? ⟨b1, 0, none⟩ = some (.int .i64 3) := ⟨cbE, c0E⟩
                have Xd : Ex [] W wr.drew := XE.drew
                refine wp_region_ord (fun w' => (w'.cell? ⟨ga, 0, none⟩ = some (bv (UInt8.ofNat (3 : Int).toNat)) ∧ w'.cell? ⟨b1, 0, none⟩ = some (.int .i64 3))) [] [(0, true), (1, true), (2, true), (3, true), (4, true), (5, true), (6, true), (7, true), (8, true), (9, true), (10, true), (11, true), (12, true), (13, true)]
                  (by kernel_rfl) (by kernel_rfl) (by kernel_rfl) (by kernel_rfl) rfl (by intro c a d v w h; cases d <;> exact h) hw ?_
                simp only [mkOrd, List.filterMap_cons, List.filterMap_nil, List.getElem?_toArray, List.getElem?_cons_zero, List.getElem?_cons_succ, Option.map_some]
                have hpos : (0 : Int) < qs := by omega
                iterate 14
                  refine ord_take (v := ?_) rfl ?_ ?_
                  rotate_left
                  · intro w' hS
                    obtain ⟨s0, s1⟩ := hS
                    go_simp
                    with_reducible rfl
                  go_frame
                refine ord_nil ?_
                go_wp2_with fail
                go_ret
                exact ⟨rfl, Xd⟩
      · have Hqq := Lib.hid (show q = 16 + g.dl by rw [hq, ← hdl]; simp [sizeOfMsg, hkd])
        have c29 : w6.cell? ⟨b1, 29, none⟩ = some (.slice g.da g.dl g.dc) := B6.cell 29
        have hle : g.dl ≤ 1000000 := by omega
        clear hq
        go_wp2_with fail
        have hqi : (q : Int) = 16 + g.dl := by rw [Hqq.out]; rfl
        have hw : w6.drew.cell? ⟨ga, 0, none⟩ = some (bv (UInt8.ofNat (4 : Int).toNat)) ∧ w6.drew.cell? ⟨b1, 0, none⟩ = some (.int .i64 4) := ⟨cb0, c0⟩
        have Xd : Ex [] W w6.drew := X06.drew
        refine wp_region_ord (fun w' => (w'.cell? ⟨ga, 0, none⟩ = some (bv (UInt8.ofNat (4 : Int).toNat)) ∧ w'.cell? ⟨b1, 0, none⟩ = some (.int .i64 4))) [] [(0, true), (1, true), (2, true), (3, true), (4, true), (5, true), (6, true), (7, true), (8, true), (9, true), (10, true), (11, true), (12, true), (13, true)]
          (by kernel_rfl) (by kernel_rfl) (by kernel_rfl) (by kernel_rfl) rfl (by intro c a d v w h; cases d <;> exact h) hw ?_
        simp only [mkOrd, List.filterMap_cons, List.filterMap_nil, List.getElem?_toArray, List.getElem?_cons_zero, List.getElem?_cons_succ, Option.map_some]
        have hpos : (0 : Int) < (16 + g.dl) := by omega
        iterate 14
          refine ord_take (v := ?_) rfl ?_ ?_
          rotate_left
          · intro w' hS
            obtain ⟨s0, s1⟩ := hS
            go_simp
            with_reducible rfl
          go_frame
        refine ord_nil ?_
        go_wp2_with fail
        go_ret
        exact ⟨rfl, Xd⟩
    · rw [hok] at hno; cases hno
  · have hf : decide ((tot m : Int) < 2000) = false := by simpa using hfew
    rw [hf]
    clear hf hfew
    go_wp2_with fail
    go_ret
    exact ⟨rfl, X03⟩
end Go.Proofs.Ytphmdhbhoakcaaa
