/- WireBounds, walked: what is one too much is refused. -/
import Derived.Test.YtfnedfacapgoaaaWireL
import Derived.Test.YtfnedfacapgoaaaTree
import Derived.Laws.MakeOwn
namespace Go.Proofs.Ytfnedfacapgoaaa
open Go.RowKit Go.Ad Go.Maps
section
variable {w w' : World} {g : MsgD}
abbrev y0 (g : MsgD) : MsgD := { g with kind := 5 }
abbrev y1 (g : MsgD) : MsgD := { g with transfer := 1073741824 }
abbrev y2 (g : MsgD) (a : Option Addr) : MsgD := { g with kind := 2, ia := a, il := 256, ic := 256, inputs := List.replicate 256 0 }
abbrev y3 (g : MsgD) (a : Option Addr) : MsgD := { g with kind := 2, ia := a, il := 1, ic := 1, inputs := [11] }
abbrev y4 (g : MsgD) (a : Option Addr) : MsgD := { g with kind := 3, ra := a, rl := 401, rc := 401, stream := List.replicate 401 ⟨0, 0, 0, 0, 0⟩ }
abbrev y5 (g : MsgD) : MsgD := { g with kind := 3, stage := 8 }
abbrev y6 (g : MsgD) : MsgD := { g with kind := 3, seat := 4 }
abbrev y7 (g : MsgD) : MsgD := { g with kind := 4, index := 3, total := 3 }
abbrev y8 (g : MsgD) (a : Option Addr) : MsgD := { g with kind := 4, da := a, dl := 65, dc := 65, data := List.replicate 65 0 }
theorem nok1_far (g : MsgD) : encOk (y1 g) = false := by
  simp [encOk, fOk, nokAll, inB]
theorem row_far (n : Nat) (h : 255 < n) : rowOk (List.replicate n 0) = false := by
  have : ¬ ((n : Int) ≤ 255) := by omega
  simp [rowOk, inB, this]
theorem stream_far (n : Nat) (h : 400 < n) : streamOk (List.replicate n ⟨0, 0, 0, 0, 0⟩) = false := by
  have : ¬ ((n : Int) ≤ 400) := by omega
  simp [streamOk, inB, this]
theorem up_far {g : MsgD} (h : rowOk g.inputs = false) (hk : g.kind = 2) : encOk g = false := by
  simp [encOk, fOk, upOk, h, hk]
theorem down_far {g : MsgD} (h : streamOk g.stream = false) (hk : g.kind = 3) : encOk g = false := by
  simp [encOk, fOk, downOk, restOk, h, hk]
theorem nok2_far (g : MsgD) (a : Option Addr) : encOk (y2 g a) = false := up_far (row_far 256 (by omega)) rfl
theorem nok3_far (g : MsgD) (a : Option Addr) : encOk (y3 g a) = false := by
  have : rowOk [11] = false := by simp [rowOk, inB]
  simp [encOk, fOk, upOk, this]
theorem nok4_far (g : MsgD) (a : Option Addr) : encOk (y4 g a) = false := down_far (stream_far 401 (by omega)) rfl
theorem nok5_far (g : MsgD) : encOk (y5 g) = false := by
  simp [encOk, fOk, downOk, inB]
theorem nok6_far (g : MsgD) : encOk (y6 g) = false := by
  simp [encOk]
theorem nok7_far (g : MsgD) : encOk (y7 g) = false := by
  simp [encOk, fOk, chunkOk, inB]
theorem nok8_far (g : MsgD) (a : Option Addr) : encOk (y8 g a) = false := by
  simp [encOk, fOk, chunkOk, inB]
theorem ex_makeR {P : Program} {o : Oper} {a : Act} {ty e : TypeId} {x y : Operand} (ho : o.op = .makeSlice ty x y) {kl kc : IntKind} {n : Int} {z : Value} {size bytes : Nat} (hx : a.eval x = .int kl n) (hy : a.eval y = .int kc n) (ht : P.underlying ty = some (.slice e))
    (hi : (P.info? e).map (fun i => (i.zero, i.size, i.bytes)) = some (some z, size, bytes)) (h0 : 0 ≤ n) (hb : (bytes : Int) * n ≤ 281474976710656) (h63 : n ≤ 9223372036854775807) :
    (execOp a.eval o).run P w = .ok (.value (.slice (some ⟨w.heap.size, 0, none⟩) n.toNat n.toNat)) (w.alloc (.cells (madeCells z.cells (n.toNat * size)) e)) := by
  obtain ⟨i, hi1, hi2, hi3, hi4⟩ := info_parts hi
  have := run_make (P := P) w ty e i z ht hi1 hi2 kl kc n n h0 (by omega) (by rw [hi4]; exact hb) h63
  unfold execOp
  simp only [ho, hx, hy, Sem.run_bind, this, Result.andThen_ok, Sem.run_pure, hi3]
theorem ints_new {b n : Nat} (B : Blk w b (Array.replicate n (.int .i64 0)) 3) : IntsAt w (some ⟨b, 0, none⟩) (List.replicate n 0) :=
  .inr ⟨b, 0, rfl, B.lt, fun j u hu => B.range0 j u (by simpa using hu)⟩
theorem bytes_new {b n : Nat} (B : Blk w b (Array.replicate n (.int .u8 0)) 5) : BytesAt w (some ⟨b, 0, none⟩) n (List.replicate n 0) :=
  ⟨by simp, .inr ⟨b, 0, rfl, B.lt, fun j u hu => B.range0 j u (by simpa [bv] using hu)⟩⟩
theorem zrecs_at : ∀ (n j : Nat), j < n * 5 → (rcells (List.replicate n ⟨0, 0, 0, 0, 0⟩))[j]? = some (.int .i64 0) := fun n j hj => by
  have e : j = j / 5 * 5 + j % 5 := by omega
  have h2 : (List.replicate n (⟨0, 0, 0, 0, 0⟩ : Rec))[j / 5]? = some ⟨0, 0, 0, 0, 0⟩ := by
    rw [List.getElem?_replicate, if_pos (by omega)]
  rw [e, rcells_at _ _ _ _ h2 (by omega)]
  have : j % 5 = 0 ∨ j % 5 = 1 ∨ j % 5 = 2 ∨ j % 5 = 3 ∨ j % 5 = 4 := by omega
  rcases this with h | h | h | h | h <;> rw [h] <;> rfl
theorem recs_new {b n : Nat} (B : Blk w b (madeCells #[.int .i64 0, .int .i64 0, .int .i64 0, .int .i64 0, .int .i64 0] (n * 5)) 37) : RecsAt w (some ⟨b, 0, none⟩) (List.replicate n ⟨0, 0, 0, 0, 0⟩) :=
  .inr ⟨b, 0, rfl, B.lt, fun j u hu => by
    have hj : j < n * 5 := by
      have := (List.getElem?_eq_some_iff.1 hu).1
      rw [rcells_length, List.length_replicate] at this; exact this
    rw [zrecs_at n j hj] at hu
    rw [Nat.zero_add, B.cell j, ← hu]
    have hm : j % 5 = 0 ∨ j % 5 = 1 ∨ j % 5 = 2 ∨ j % 5 = 3 ∨ j % 5 = 4 := by omega
    simp only [madeCells, Array.getElem?_map, Array.getElem?_range, hj, if_true, Option.map_some]
    rcases hm with h | h | h | h | h <;> simp [h]⟩
theorem MsgV.y1 (M : MsgV w g) : MsgV w (y1 g) := ⟨M.bits, M.inp, M.il, M.inil, M.ib, M.str, M.rl, M.rnil, M.rb, M.sts, M.sl, M.snil, M.sb, M.dat, M.dnil⟩
theorem MsgV.y2 (M : MsgV w g) {b : Nat} (h : IntsAt w (some ⟨b, 0, none⟩) (List.replicate 256 0)) : MsgV w (y2 g (some ⟨b, 0, none⟩)) := ⟨M.bits, h, List.length_replicate, (fun h => nomatch h), by show 256 ≤ _; omega, M.str, M.rl, M.rnil, M.rb, M.sts, M.sl, M.snil, M.sb, M.dat, M.dnil⟩
theorem MsgV.y3 (M : MsgV w g) {b : Nat} (h : IntsAt w (some ⟨b, 0, none⟩) [11]) : MsgV w (y3 g (some ⟨b, 0, none⟩)) := ⟨M.bits, h, by simp, by simp, by show 1 ≤ _; omega, M.str, M.rl, M.rnil, M.rb, M.sts, M.sl, M.snil, M.sb, M.dat, M.dnil⟩
theorem MsgV.y4 (M : MsgV w g) {b : Nat} (h : RecsAt w (some ⟨b, 0, none⟩) (List.replicate 401 ⟨0, 0, 0, 0, 0⟩)) : MsgV w (y4 g (some ⟨b, 0, none⟩)) := ⟨M.bits, M.inp, M.il, M.inil, M.ib, h, List.length_replicate, (fun h => nomatch h), by show 401 ≤ _; omega, M.sts, M.sl, M.snil, M.sb, M.dat, M.dnil⟩
theorem MsgV.y5 (M : MsgV w g) : MsgV w (y5 g) := ⟨M.bits, M.inp, M.il, M.inil, M.ib, M.str, M.rl, M.rnil, M.rb, M.sts, M.sl, M.snil, M.sb, M.dat, M.dnil⟩
theorem MsgV.y6 (M : MsgV w g) : MsgV w (y6 g) := ⟨M.bits, M.inp, M.il, M.inil, M.ib, M.str, M.rl, M.rnil, M.rb, M.sts, M.sl, M.snil, M.sb, M.dat, M.dnil⟩
theorem MsgV.y7 (M : MsgV w g) : MsgV w (y7 g) := ⟨M.bits, M.inp, M.il, M.inil, M.ib, M.str, M.rl, M.rnil, M.rb, M.sts, M.sl, M.snil, M.sb, M.dat, M.dnil⟩
theorem MsgV.y8 (M : MsgV w g) {b : Nat} (h : BytesAt w (some ⟨b, 0, none⟩) 65 (List.replicate 65 0)) : MsgV w (y8 g (some ⟨b, 0, none⟩)) := ⟨M.bits, M.inp, M.il, M.inil, M.ib, M.str, M.rl, M.rnil, M.rb, M.sts, M.sl, M.snil, M.sb, h, by simp⟩
end
set_option maxRecDepth 100000 in
set_option maxHeartbeats 6400000 in
theorem wireBounds_walk {W : World} {m : MsgD} (k : Int) (ML : MsgL m) (MV : tot m < 2000 → MsgV W m) (hdc : m.dl ≤ m.dc) :
    Calls Try.prog 4 #[.agg (msgCells m), .int .i64 k] W fun e w' => e = .returned (.bool true) ∧ Ex [] W w' := by
  have X1 : Ex [] W (W.alloc (.cells (msgCells m) 29)) := (Ex.refl _ _).alloc _
  have B1 := Blk.new W (msgCells m) 29
  have hsz : (Try.prog.info? 29).map (·.size) = some (msgCells m).size := by kernel_rfl
  go_enter Try.func4, Try.ntmps4
  go_wp2_with fail
  generalize W.alloc (.cells (msgCells m) 29) = w1 at *
  generalize hb1 : W.heap.size = b1 at *
  refine (known15 _).mono ?_
  rintro z w2 ⟨rfl, X2⟩
  have B2 := B1.ex X2 (by simp)
  have X02 := X1.trans X2
  clear B1 X1 X2
  go_wp2_with (refine G_val (o := ⟨some 9, _, _, _, _, _⟩) rfl (exec_load rfl rfl (row_load B2 Try.underlying29 rfl hsz)) ?_)
  refine (few15 ML).mono ?_
  rintro z w3 ⟨rfl, X3⟩
  have B3 := B2.ex X3 (by simp)
  have X03 := X02.trans X3
  clear B2 X02 X3
  by_cases hfew : (tot m : Int) < 2000
  · have hf : decide ((tot m : Int) < 2000) = true := by simpa using hfew
    have M := MV (by omega)
    rw [hf]
    clear hf hfew MV
    go_wp2_with (refine G_val (o := ⟨some 12, _, _, _, _, _⟩) rfl (exec_load rfl rfl (row_load B3 Try.underlying29 rfl hsz)) ?_)
    refine (good15 (M.ex X03) hdc).mono ?_
    rintro z w4 ⟨g, rfl, Mgz, G, X4⟩
    have hb13 : b1 < w3.heap.size := B3.lt
    have B4 := B3.ex X4 (by simp)
    have X04 := X03.trans X4
    have hb1W : b1 < w4.heap.size := B4.lt
    obtain ⟨hst, B5, X5⟩ := row_store (P := Try.prog) (ty := 29) (cs := msgCells g) B4 (by kernel_rfl) rfl (by simp [msgCells, Value.oneCell'])
    have Mz : ∀ wz, Ex [b1] w4 wz → MsgV wz g := fun wz X => Mgz [b1] _ X (fun k hk => by
      obtain rfl := List.mem_singleton.1 hk
      refine ⟨hb13, ?_⟩
      rcases M.dat.2 with h | ⟨db, o, h1, h2, _⟩
      · exact .inl h
      · refine .inr (fun o' h => ?_)
        rw [h1] at h; cases h; omega)
    have MG := Mgz [] w4 (Ex.refl _ _) (by simp)
    clear B3 B4 X03 X4 Mgz
    generalize w4.setRow b1 (msgCells g) = w5 at *
    go_wp2_with (refine G_skip (o := ⟨none, Op.store 29 _ _, _, _, _, _⟩) rfl (ex_store rfl rfl rfl hst) ?_)
    refine (within15 k 9 (by omega) (by omega) _).mono ?_
    rintro z w6 ⟨rfl, rfl⟩
    have q0 := Int.emod_nonneg k (show (9 : Int) ≠ 0 by omega)
    have q1 := Int.emod_lt_of_pos k (show (0 : Int) < 9 by omega)
    generalize k % 9 = kd at *
    have c0 := B5.cell
    have f0 := B5.froz
    have h0 : kd = 0 ∨ kd = 1 ∨ kd = 2 ∨ kd = 3 ∨ kd = 4 ∨ kd = 5 ∨ kd = 6 ∨ kd = 7 ∨ kd = 8 := by omega
    clear q0 q1
    rcases h0 with rfl | rfl | rfl | rfl | rfl | rfl | rfl | rfl | rfl
    · have Bz : Blk (w5.setCell ⟨b1, 0, none⟩ (.int .i64 5)) b1 (msgCells (y0 g)) 29 := B5.set 0 _
      have Xz : Ex [b1] w5 (w5.setCell ⟨b1, 0, none⟩ (.int .i64 5)) := (Ex.refl _ _).setCell (.inl (by simp)) _
      have hszz : (Try.prog.info? 29).map (·.size) = some (msgCells (y0 g)).size := by kernel_rfl
      go_wp2_with (refine G_val (o := ⟨some 57, _, _, _, _, _⟩) rfl (exec_load rfl rfl (row_load Bz Try.underlying29 rfl hszz)) ?_)
      have XE := X04.own (X5.trans Xz) (fun k hk => by simp at hk; exact .inr (by omega))
      generalize w5.setCell ⟨b1, 0, none⟩ (.int .i64 5) = wz at *
      refine (encode_kind (m := y0 g) (.inr (by show (4 : Int) < 5; omega))).mono ?_
      rintro z w6 ⟨rfl, X6⟩
      clear c0 f0
      go_wp2_with fail
      go_ret
      exact ⟨rfl, XE.trans X6⟩
    · have Bz : Blk (w5.setCell ⟨b1, 2, none⟩ (.int .i64 1073741824)) b1 (msgCells (y1 g)) 29 := B5.set 2 _
      have Xz : Ex [b1] w5 (w5.setCell ⟨b1, 2, none⟩ (.int .i64 1073741824)) := (Ex.refl _ _).setCell (.inl (by simp)) _
      have NK := nok1_far g
      have MY := (Mz _ (X5.trans Xz)).y1
      have K1 : 1 ≤ (y1 g).kind ∧ (y1 g).kind ≤ 4 := G.kind
      have hszz : (Try.prog.info? 29).map (·.size) = some (msgCells (y1 g)).size := by kernel_rfl
      go_wp2_with (refine G_val (o := ⟨some 57, _, _, _, _, _⟩) rfl (exec_load rfl rfl (row_load Bz Try.underlying29 rfl hszz)) ?_)
      have XE := X04.own (X5.trans Xz) (fun k hk => by simp at hk; exact .inr (by omega))
      generalize (w5.setCell ⟨b1, 2, none⟩ (.int .i64 1073741824)) = wz at *
      have HL : fLen (y1 g) ≤ 900000 := by
        have := G.inputs.1; have := G.stream.1; have := G.data
        have := MG.il; have := MG.rl; have := MG.dat.1
        have := MG.sl 0 (by omega); have := MG.sl 1 (by omega); have := MG.sl 2 (by omega); have := MG.sl 3 (by omega)
        have := (G.seats 0 (by omega)).1; have := (G.seats 1 (by omega)).1; have := (G.seats 2 (by omega)).1; have := (G.seats 3 (by omega)).1
        simp [fLen, slSum, List.range_succ]
        omega
      refine (encode_w MY K1.1 K1.2 HL).mono ?_
      rintro z w6 ⟨X6, ⟨hno, _⟩ | ⟨_, rfl⟩⟩
      · rw [NK] at hno; cases hno
      · clear c0 f0
        go_wp2_with fail
        go_ret
        exact ⟨rfl, XE.trans X6⟩
    · go_wp2_with fail
      refine wp_region_tree (x := ?xtree1) (fun _ => True) [] (.take 1 (.two 0 (.one 2 (.take 3 (.one 4 .nil))) 2 (.one 0 (.take 3 (.one 4 .nil))))) (by kernel_rfl) (by kernel_rfl) (by kernel_rfl) (by kernel_rfl) rfl (by intro c a d v w h; cases d <;> exact h) trivial ?hxtree1 ?_
      case hxtree1 =>
        simp only [mkTr, List.getElem?_toArray, List.getElem?_cons_zero, List.getElem?_cons_succ]
        exact rfl
      iterate 1
        refine tre_take (v := ?_) rfl ?_ ?_
        rotate_left
        · intro w' hS
          go_simp
          with_reducible rfl
        go_frame
      have Xd : Ex [b1] w5 w5.drew := (Ex.refl _ _).drew
      have B6 := B5.drew
      generalize w5.drew = wd at *
      refine tre_two ?_ ?_
      · have Bn := Blk.new wd (Array.replicate 256 (.int .i64 0)) 3
        have Xa : Ex [b1] w5 (wd.alloc (.cells (Array.replicate 256 (.int .i64 0)) 3)) := Xd.alloc _
        have B7 := B6.alloc (.cells (Array.replicate 256 (.int .i64 0)) 3)
        have hnb : b1 < wd.heap.size := B6.lt
        refine tre_val rfl (ex_make1 (n := 256) rfl rfl rfl Try.underlying24 infoInt rfl (by omega) (by omega) (by omega)) (fun _ => trivial) ?_
        go_frame
        simp only [show (256 : Int).toNat = 256 from rfl]
        generalize wd.heap.size = bn at *
        generalize wd.alloc (.cells (Array.replicate 256 (.int .i64 0)) 3) = wa at *
        clear c0 f0
        have c0 := B7.cell
        have f0 := B7.froz
        refine tre_skip (w' := ?_) rfl ?_ ?_ ?_
        rotate_left
        · go_simp
          first | with_reducible rfl | (refine ⟨?_, ?_⟩ <;> with_reducible rfl)
        · intro h; trivial
        go_frame
        iterate 1
          refine tre_take (v := ?_) rfl ?_ ?_
          rotate_left
          · intro w' hS
            go_simp
            with_reducible rfl
          go_frame
        refine tre_skip (w' := ?_) rfl ?_ ?_ ?_
        rotate_left
        · go_simp
          first | with_reducible rfl | (refine ⟨?_, ?_⟩ <;> with_reducible rfl)
        · intro h; trivial
        go_frame
        refine tre_nil ?_
        have Bz : Blk ((wa.setCell ⟨b1, 0, none⟩ (.int .i64 2)).setCell ⟨b1, 12, none⟩ (.slice (some ⟨bn, 0, none⟩) 256 256)) b1 (msgCells (y2 g (some ⟨bn, 0, none⟩))) 29 := (B7.set 0 _).set 12 _
        have Xz : Ex [b1] w5 ((wa.setCell ⟨b1, 0, none⟩ (.int .i64 2)).setCell ⟨b1, 12, none⟩ (.slice (some ⟨bn, 0, none⟩) 256 256)) := (Xa.setCell (.inl (by simp)) _).setCell (.inl (by simp)) _
        have NK := nok2_far g (some ⟨bn, 0, none⟩)
        have MY := (Mz _ (X5.trans Xz)).y2 (ints_new ((Bn.set_other (p := ⟨b1, 0, none⟩) (show bn ≠ b1 by omega) _).set_other (p := ⟨b1, 12, none⟩) (show bn ≠ b1 by omega) _))
        have K1 : 1 ≤ (y2 g (some ⟨bn, 0, none⟩)).kind ∧ (y2 g (some ⟨bn, 0, none⟩)).kind ≤ 4 := ⟨by show (1 : Int) ≤ 2; omega, by show (2 : Int) ≤ 4; omega⟩
        have hszz : (Try.prog.info? 29).map (·.size) = some (msgCells (y2 g (some ⟨bn, 0, none⟩))).size := by kernel_rfl
        go_wp2_with (refine G_val (o := ⟨some 57, _, _, _, _, _⟩) rfl (exec_load rfl rfl (row_load Bz Try.underlying29 rfl hszz)) ?_)
        have XE := X04.own (X5.trans Xz) (fun k hk => by simp at hk; exact .inr (by omega))
        generalize ((wa.setCell ⟨b1, 0, none⟩ (.int .i64 2)).setCell ⟨b1, 12, none⟩ (.slice (some ⟨bn, 0, none⟩) 256 256)) = wz at *
        have HL : fLen (y2 g (some ⟨bn, 0, none⟩)) ≤ 900000 := by
          have := G.inputs.1; have := G.stream.1; have := G.data
          have := MG.il; have := MG.rl; have := MG.dat.1
          have := MG.sl 0 (by omega); have := MG.sl 1 (by omega); have := MG.sl 2 (by omega); have := MG.sl 3 (by omega)
          have := (G.seats 0 (by omega)).1; have := (G.seats 1 (by omega)).1; have := (G.seats 2 (by omega)).1; have := (G.seats 3 (by omega)).1
          simp [fLen, slSum, List.range_succ]
          omega
        refine (encode_w MY K1.1 K1.2 HL).mono ?_
        rintro z w6 ⟨X6, ⟨hno, _⟩ | ⟨_, rfl⟩⟩
        · rw [NK] at hno; cases hno
        · clear c0 f0
          go_wp2_with fail
          go_ret
          exact ⟨rfl, XE.trans X6⟩
      · clear c0 f0
        have c0 := B6.cell
        have f0 := B6.froz
        refine tre_skip (w' := ?_) rfl ?_ ?_ ?_
        rotate_left
        · go_simp
          first | with_reducible rfl | (refine ⟨?_, ?_⟩ <;> with_reducible rfl)
        · intro h; trivial
        go_frame
        have Xs : Ex [b1] w5 (wd.setCell ⟨b1, 0, none⟩ (.int .i64 2)) := Xd.setCell (.inl (by simp)) _
        have B7 := B6.set 0 (.int .i64 2)
        generalize wd.setCell ⟨b1, 0, none⟩ (.int .i64 2) = ws at *
        clear c0 f0
        have Bn := Blk.new ws (Array.replicate 256 (.int .i64 0)) 3
        have Xa : Ex [b1] w5 (ws.alloc (.cells (Array.replicate 256 (.int .i64 0)) 3)) := Xs.alloc _
        have B8 := B7.alloc (.cells (Array.replicate 256 (.int .i64 0)) 3)
        have hnb : b1 < ws.heap.size := B7.lt
        refine tre_val rfl (ex_make1 (n := 256) rfl rfl rfl Try.underlying24 infoInt rfl (by omega) (by omega) (by omega)) (fun _ => trivial) ?_
        go_frame
        simp only [show (256 : Int).toNat = 256 from rfl]
        generalize ws.heap.size = bn at *
        generalize ws.alloc (.cells (Array.replicate 256 (.int .i64 0)) 3) = wa at *
        have c0 := B8.cell
        have f0 := B8.froz
        iterate 1
          refine tre_take (v := ?_) rfl ?_ ?_
          rotate_left
          · intro w' hS
            go_simp
            with_reducible rfl
          go_frame
        refine tre_skip (w' := ?_) rfl ?_ ?_ ?_
        rotate_left
        · go_simp
          first | with_reducible rfl | (refine ⟨?_, ?_⟩ <;> with_reducible rfl)
        · intro h; trivial
        go_frame
        refine tre_nil ?_
        have Bz : Blk (wa.setCell ⟨b1, 12, none⟩ (.slice (some ⟨bn, 0, none⟩) 256 256)) b1 (msgCells (y2 g (some ⟨bn, 0, none⟩))) 29 := B8.set 12 _
        have Xz : Ex [b1] w5 (wa.setCell ⟨b1, 12, none⟩ (.slice (some ⟨bn, 0, none⟩) 256 256)) := Xa.setCell (.inl (by simp)) _
        have NK := nok2_far g (some ⟨bn, 0, none⟩)
        have MY := (Mz _ (X5.trans Xz)).y2 (ints_new (Bn.set_other (p := ⟨b1, 12, none⟩) (show bn ≠ b1 by omega) _))
        have K1 : 1 ≤ (y2 g (some ⟨bn, 0, none⟩)).kind ∧ (y2 g (some ⟨bn, 0, none⟩)).kind ≤ 4 := ⟨by show (1 : Int) ≤ 2; omega, by show (2 : Int) ≤ 4; omega⟩
        have hszz : (Try.prog.info? 29).map (·.size) = some (msgCells (y2 g (some ⟨bn, 0, none⟩))).size := by kernel_rfl
        go_wp2_with (refine G_val (o := ⟨some 57, _, _, _, _, _⟩) rfl (exec_load rfl rfl (row_load Bz Try.underlying29 rfl hszz)) ?_)
        have XE := X04.own (X5.trans Xz) (fun k hk => by simp at hk; exact .inr (by omega))
        generalize (wa.setCell ⟨b1, 12, none⟩ (.slice (some ⟨bn, 0, none⟩) 256 256)) = wz at *
        have HL : fLen (y2 g (some ⟨bn, 0, none⟩)) ≤ 900000 := by
          have := G.inputs.1; have := G.stream.1; have := G.data
          have := MG.il; have := MG.rl; have := MG.dat.1
          have := MG.sl 0 (by omega); have := MG.sl 1 (by omega); have := MG.sl 2 (by omega); have := MG.sl 3 (by omega)
          have := (G.seats 0 (by omega)).1; have := (G.seats 1 (by omega)).1; have := (G.seats 2 (by omega)).1; have := (G.seats 3 (by omega)).1
          simp [fLen, slSum, List.range_succ]
          omega
        refine (encode_w MY K1.1 K1.2 HL).mono ?_
        rintro z w6 ⟨X6, ⟨hno, _⟩ | ⟨_, rfl⟩⟩
        · rw [NK] at hno; cases hno
        · clear c0 f0
          go_wp2_with fail
          go_ret
          exact ⟨rfl, XE.trans X6⟩
    · have hnb : b1 < w5.heap.size := B5.lt
      have c1 := (B5.alloc (.cells #[.int .i64 11] 3)).cell
      have f1 := (B5.alloc (.cells #[.int .i64 11] 3)).froz
      have hsx : ((w5.setCell ⟨b1, 0, none⟩ (.int .i64 2)).setCell ⟨b1, 12, none⟩ (.slice (some ⟨w5.heap.size, 0, none⟩) 1 1)).heap.size = w5.heap.size := by simp
      have Bn := Blk.new ((w5.setCell ⟨b1, 0, none⟩ (.int .i64 2)).setCell ⟨b1, 12, none⟩ (.slice (some ⟨w5.heap.size, 0, none⟩) 1 1)) #[.int .i64 11] 3
      rw [hsx] at Bn
      have Bz : Blk (((w5.setCell ⟨b1, 0, none⟩ (.int .i64 2)).setCell ⟨b1, 12, none⟩ (.slice (some ⟨w5.heap.size, 0, none⟩) 1 1)).alloc (.cells #[.int .i64 11] 3)) b1 (msgCells (y3 g (some ⟨w5.heap.size, 0, none⟩))) 29 := ((B5.set 0 _).set 12 _).alloc _
      have Xz : Ex [b1] w5 (((w5.setCell ⟨b1, 0, none⟩ (.int .i64 2)).setCell ⟨b1, 12, none⟩ (.slice (some ⟨w5.heap.size, 0, none⟩) 1 1)).alloc (.cells #[.int .i64 11] 3)) := (((Ex.refl _ _).setCell (.inl (by simp)) _).setCell (.inl (by simp)) _).alloc _
      have NK := nok3_far g (some ⟨w5.heap.size, 0, none⟩)
      have MY := (Mz _ (X5.trans Xz)).y3 (.inr ⟨_, 0, rfl, Bn.lt, fun j u hu => Bn.range0 j u (by simpa using hu)⟩)
      have K1 : 1 ≤ (y3 g (some ⟨w5.heap.size, 0, none⟩)).kind ∧ (y3 g (some ⟨w5.heap.size, 0, none⟩)).kind ≤ 4 := ⟨by show (1 : Int) ≤ 2; omega, by show (2 : Int) ≤ 4; omega⟩
      have hszz : (Try.prog.info? 29).map (·.size) = some (msgCells (y3 g (some ⟨w5.heap.size, 0, none⟩))).size := by kernel_rfl
      go_wp2_with (refine G_val (o := ⟨some 57, _, _, _, _, _⟩) rfl (exec_load rfl rfl (row_load Bz Try.underlying29 rfl hszz)) ?_)
      have XE := X04.own (X5.trans Xz) (fun k hk => by simp at hk; exact .inr (by omega))
      generalize (((w5.setCell ⟨b1, 0, none⟩ (.int .i64 2)).setCell ⟨b1, 12, none⟩ (.slice (some ⟨w5.heap.size, 0, none⟩) 1 1)).alloc (.cells #[.int .i64 11] 3)) = wz at *
      have HL : fLen (y3 g (some ⟨w5.heap.size, 0, none⟩)) ≤ 900000 := by
        have := G.inputs.1; have := G.stream.1; have := G.data
        have := MG.il; have := MG.rl; have := MG.dat.1
        have := MG.sl 0 (by omega); have := MG.sl 1 (by omega); have := MG.sl 2 (by omega); have := MG.sl 3 (by omega)
        have := (G.seats 0 (by omega)).1; have := (G.seats 1 (by omega)).1; have := (G.seats 2 (by omega)).1; have := (G.seats 3 (by omega)).1
        simp [fLen, slSum, List.range_succ]
        omega
      refine (encode_w MY K1.1 K1.2 HL).mono ?_
      rintro z w6 ⟨X6, ⟨hno, _⟩ | ⟨_, rfl⟩⟩
      · rw [NK] at hno; cases hno
      · clear c0 f0
        go_wp2_with fail
        go_ret
        exact ⟨rfl, XE.trans X6⟩
    · go_wp2_with fail
      refine wp_region_tree (x := ?xtree2) (fun _ => True) [] (.take 1 (.two 0 (.one 2 (.take 3 (.one 4 .nil))) 2 (.one 0 (.take 3 (.one 4 .nil))))) (by kernel_rfl) (by kernel_rfl) (by kernel_rfl) (by kernel_rfl) rfl (by intro c a d v w h; cases d <;> exact h) trivial ?hxtree2 ?_
      case hxtree2 =>
        simp only [mkTr, List.getElem?_toArray, List.getElem?_cons_zero, List.getElem?_cons_succ]
        exact rfl
      iterate 1
        refine tre_take (v := ?_) rfl ?_ ?_
        rotate_left
        · intro w' hS
          go_simp
          with_reducible rfl
        go_frame
      have Xd : Ex [b1] w5 w5.drew := (Ex.refl _ _).drew
      have B6 := B5.drew
      generalize w5.drew = wd at *
      refine tre_two ?_ ?_
      · have Bn := Blk.new wd (madeCells (Value.agg #[.int .i64 0, .int .i64 0, .int .i64 0, .int .i64 0, .int .i64 0]).cells (401 * 5)) 37
        have Xa : Ex [b1] w5 (wd.alloc (.cells (madeCells (Value.agg #[.int .i64 0, .int .i64 0, .int .i64 0, .int .i64 0, .int .i64 0]).cells (401 * 5)) 37)) := Xd.alloc _
        have B7 := B6.alloc (.cells (madeCells (Value.agg #[.int .i64 0, .int .i64 0, .int .i64 0, .int .i64 0, .int .i64 0]).cells (401 * 5)) 37)
        have hnb : b1 < wd.heap.size := B6.lt
        refine tre_val rfl (ex_makeR (n := 401) rfl rfl rfl Try.underlying25 infoRec (by omega) (by omega) (by omega)) (fun _ => trivial) ?_
        go_frame
        simp only [show (401 : Int).toNat = 401 from rfl]
        generalize wd.heap.size = bn at *
        generalize wd.alloc (.cells (madeCells (Value.agg #[.int .i64 0, .int .i64 0, .int .i64 0, .int .i64 0, .int .i64 0]).cells (401 * 5)) 37) = wa at *
        clear c0 f0
        have c0 := B7.cell
        have f0 := B7.froz
        refine tre_skip (w' := ?_) rfl ?_ ?_ ?_
        rotate_left
        · go_simp
          first | with_reducible rfl | (refine ⟨?_, ?_⟩ <;> with_reducible rfl)
        · intro h; trivial
        go_frame
        iterate 1
          refine tre_take (v := ?_) rfl ?_ ?_
          rotate_left
          · intro w' hS
            go_simp
            with_reducible rfl
          go_frame
        refine tre_skip (w' := ?_) rfl ?_ ?_ ?_
        rotate_left
        · go_simp
          first | with_reducible rfl | (refine ⟨?_, ?_⟩ <;> with_reducible rfl)
        · intro h; trivial
        go_frame
        refine tre_nil ?_
        have Bz : Blk ((wa.setCell ⟨b1, 0, none⟩ (.int .i64 3)).setCell ⟨b1, 17, none⟩ (.slice (some ⟨bn, 0, none⟩) 401 401)) b1 (msgCells (y4 g (some ⟨bn, 0, none⟩))) 29 := (B7.set 0 _).set 17 _
        have Xz : Ex [b1] w5 ((wa.setCell ⟨b1, 0, none⟩ (.int .i64 3)).setCell ⟨b1, 17, none⟩ (.slice (some ⟨bn, 0, none⟩) 401 401)) := (Xa.setCell (.inl (by simp)) _).setCell (.inl (by simp)) _
        have NK := nok4_far g (some ⟨bn, 0, none⟩)
        have MY := (Mz _ (X5.trans Xz)).y4 (recs_new ((Bn.set_other (p := ⟨b1, 0, none⟩) (show bn ≠ b1 by omega) _).set_other (p := ⟨b1, 17, none⟩) (show bn ≠ b1 by omega) _))
        have K1 : 1 ≤ (y4 g (some ⟨bn, 0, none⟩)).kind ∧ (y4 g (some ⟨bn, 0, none⟩)).kind ≤ 4 := ⟨by show (1 : Int) ≤ 3; omega, by show (3 : Int) ≤ 4; omega⟩
        have hszz : (Try.prog.info? 29).map (·.size) = some (msgCells (y4 g (some ⟨bn, 0, none⟩))).size := by kernel_rfl
        go_wp2_with (refine G_val (o := ⟨some 57, _, _, _, _, _⟩) rfl (exec_load rfl rfl (row_load Bz Try.underlying29 rfl hszz)) ?_)
        have XE := X04.own (X5.trans Xz) (fun k hk => by simp at hk; exact .inr (by omega))
        generalize ((wa.setCell ⟨b1, 0, none⟩ (.int .i64 3)).setCell ⟨b1, 17, none⟩ (.slice (some ⟨bn, 0, none⟩) 401 401)) = wz at *
        have HL : fLen (y4 g (some ⟨bn, 0, none⟩)) ≤ 900000 := by
          have := G.inputs.1; have := G.stream.1; have := G.data
          have := MG.il; have := MG.rl; have := MG.dat.1
          have := MG.sl 0 (by omega); have := MG.sl 1 (by omega); have := MG.sl 2 (by omega); have := MG.sl 3 (by omega)
          have := (G.seats 0 (by omega)).1; have := (G.seats 1 (by omega)).1; have := (G.seats 2 (by omega)).1; have := (G.seats 3 (by omega)).1
          simp [fLen, slSum, List.range_succ]
          omega
        refine (encode_w MY K1.1 K1.2 HL).mono ?_
        rintro z w6 ⟨X6, ⟨hno, _⟩ | ⟨_, rfl⟩⟩
        · rw [NK] at hno; cases hno
        · clear c0 f0
          go_wp2_with fail
          go_ret
          exact ⟨rfl, XE.trans X6⟩
      · clear c0 f0
        have c0 := B6.cell
        have f0 := B6.froz
        refine tre_skip (w' := ?_) rfl ?_ ?_ ?_
        rotate_left
        · go_simp
          first | with_reducible rfl | (refine ⟨?_, ?_⟩ <;> with_reducible rfl)
        · intro h; trivial
        go_frame
        have Xs : Ex [b1] w5 (wd.setCell ⟨b1, 0, none⟩ (.int .i64 3)) := Xd.setCell (.inl (by simp)) _
        have B7 := B6.set 0 (.int .i64 3)
        generalize wd.setCell ⟨b1, 0, none⟩ (.int .i64 3) = ws at *
        clear c0 f0
        have Bn := Blk.new ws (madeCells (Value.agg #[.int .i64 0, .int .i64 0, .int .i64 0, .int .i64 0, .int .i64 0]).cells (401 * 5)) 37
        have Xa : Ex [b1] w5 (ws.alloc (.cells (madeCells (Value.agg #[.int .i64 0, .int .i64 0, .int .i64 0, .int .i64 0, .int .i64 0]).cells (401 * 5)) 37)) := Xs.alloc _
        have B8 := B7.alloc (.cells (madeCells (Value.agg #[.int .i64 0, .int .i64 0, .int .i64 0, .int .i64 0, .int .i64 0]).cells (401 * 5)) 37)
        have hnb : b1 < ws.heap.size := B7.lt
        refine tre_val rfl (ex_makeR (n := 401) rfl rfl rfl Try.underlying25 infoRec (by omega) (by omega) (by omega)) (fun _ => trivial) ?_
        go_frame
        simp only [show (401 : Int).toNat = 401 from rfl]
        generalize ws.heap.size = bn at *
        generalize ws.alloc (.cells (madeCells (Value.agg #[.int .i64 0, .int .i64 0, .int .i64 0, .int .i64 0, .int .i64 0]).cells (401 * 5)) 37) = wa at *
        have c0 := B8.cell
        have f0 := B8.froz
        iterate 1
          refine tre_take (v := ?_) rfl ?_ ?_
          rotate_left
          · intro w' hS
            go_simp
            with_reducible rfl
          go_frame
        refine tre_skip (w' := ?_) rfl ?_ ?_ ?_
        rotate_left
        · go_simp
          first | with_reducible rfl | (refine ⟨?_, ?_⟩ <;> with_reducible rfl)
        · intro h; trivial
        go_frame
        refine tre_nil ?_
        have Bz : Blk (wa.setCell ⟨b1, 17, none⟩ (.slice (some ⟨bn, 0, none⟩) 401 401)) b1 (msgCells (y4 g (some ⟨bn, 0, none⟩))) 29 := B8.set 17 _
        have Xz : Ex [b1] w5 (wa.setCell ⟨b1, 17, none⟩ (.slice (some ⟨bn, 0, none⟩) 401 401)) := Xa.setCell (.inl (by simp)) _
        have NK := nok4_far g (some ⟨bn, 0, none⟩)
        have MY := (Mz _ (X5.trans Xz)).y4 (recs_new (Bn.set_other (p := ⟨b1, 17, none⟩) (show bn ≠ b1 by omega) _))
        have K1 : 1 ≤ (y4 g (some ⟨bn, 0, none⟩)).kind ∧ (y4 g (some ⟨bn, 0, none⟩)).kind ≤ 4 := ⟨by show (1 : Int) ≤ 3; omega, by show (3 : Int) ≤ 4; omega⟩
        have hszz : (Try.prog.info? 29).map (·.size) = some (msgCells (y4 g (some ⟨bn, 0, none⟩))).size := by kernel_rfl
        go_wp2_with (refine G_val (o := ⟨some 57, _, _, _, _, _⟩) rfl (exec_load rfl rfl (row_load Bz Try.underlying29 rfl hszz)) ?_)
        have XE := X04.own (X5.trans Xz) (fun k hk => by simp at hk; exact .inr (by omega))
        generalize (wa.setCell ⟨b1, 17, none⟩ (.slice (some ⟨bn, 0, none⟩) 401 401)) = wz at *
        have HL : fLen (y4 g (some ⟨bn, 0, none⟩)) ≤ 900000 := by
          have := G.inputs.1; have := G.stream.1; have := G.data
          have := MG.il; have := MG.rl; have := MG.dat.1
          have := MG.sl 0 (by omega); have := MG.sl 1 (by omega); have := MG.sl 2 (by omega); have := MG.sl 3 (by omega)
          have := (G.seats 0 (by omega)).1; have := (G.seats 1 (by omega)).1; have := (G.seats 2 (by omega)).1; have := (G.seats 3 (by omega)).1
          simp [fLen, slSum, List.range_succ]
          omega
        refine (encode_w MY K1.1 K1.2 HL).mono ?_
        rintro z w6 ⟨X6, ⟨hno, _⟩ | ⟨_, rfl⟩⟩
        · rw [NK] at hno; cases hno
        · clear c0 f0
          go_wp2_with fail
          go_ret
          exact ⟨rfl, XE.trans X6⟩
    · have Bz : Blk ((w5.setCell ⟨b1, 0, none⟩ (.int .i64 3)).setCell ⟨b1, 13, none⟩ (.int .i64 8)) b1 (msgCells (y5 g)) 29 := ((B5.set 0 _).set 13 _)
      have Xz : Ex [b1] w5 ((w5.setCell ⟨b1, 0, none⟩ (.int .i64 3)).setCell ⟨b1, 13, none⟩ (.int .i64 8)) := (((Ex.refl _ _).setCell (.inl (by simp)) _).setCell (.inl (by simp)) _)
      have NK := nok5_far g
      have MY := (Mz _ (X5.trans Xz)).y5
      have K1 : 1 ≤ (y5 g).kind ∧ (y5 g).kind ≤ 4 := ⟨by show (1 : Int) ≤ 3; omega, by show (3 : Int) ≤ 4; omega⟩
      have hszz : (Try.prog.info? 29).map (·.size) = some (msgCells (y5 g)).size := by kernel_rfl
      go_wp2_with (refine G_val (o := ⟨some 57, _, _, _, _, _⟩) rfl (exec_load rfl rfl (row_load Bz Try.underlying29 rfl hszz)) ?_)
      have XE := X04.own (X5.trans Xz) (fun k hk => by simp at hk; exact .inr (by omega))
      generalize ((w5.setCell ⟨b1, 0, none⟩ (.int .i64 3)).setCell ⟨b1, 13, none⟩ (.int .i64 8)) = wz at *
      have HL : fLen (y5 g) ≤ 900000 := by
        have := G.inputs.1; have := G.stream.1; have := G.data
        have := MG.il; have := MG.rl; have := MG.dat.1
        have := MG.sl 0 (by omega); have := MG.sl 1 (by omega); have := MG.sl 2 (by omega); have := MG.sl 3 (by omega)
        have := (G.seats 0 (by omega)).1; have := (G.seats 1 (by omega)).1; have := (G.seats 2 (by omega)).1; have := (G.seats 3 (by omega)).1
        simp [fLen, slSum, List.range_succ]
        omega
      refine (encode_w MY K1.1 K1.2 HL).mono ?_
      rintro z w6 ⟨X6, ⟨hno, _⟩ | ⟨_, rfl⟩⟩
      · rw [NK] at hno; cases hno
      · clear c0 f0
        go_wp2_with fail
        go_ret
        exact ⟨rfl, XE.trans X6⟩
    · have Bz : Blk ((w5.setCell ⟨b1, 0, none⟩ (.int .i64 3)).setCell ⟨b1, 14, none⟩ (.int .i64 4)) b1 (msgCells (y6 g)) 29 := ((B5.set 0 _).set 14 _)
      have Xz : Ex [b1] w5 ((w5.setCell ⟨b1, 0, none⟩ (.int .i64 3)).setCell ⟨b1, 14, none⟩ (.int .i64 4)) := (((Ex.refl _ _).setCell (.inl (by simp)) _).setCell (.inl (by simp)) _)
      have NK := nok6_far g
      have MY := (Mz _ (X5.trans Xz)).y6
      have K1 : 1 ≤ (y6 g).kind ∧ (y6 g).kind ≤ 4 := ⟨by show (1 : Int) ≤ 3; omega, by show (3 : Int) ≤ 4; omega⟩
      have hszz : (Try.prog.info? 29).map (·.size) = some (msgCells (y6 g)).size := by kernel_rfl
      go_wp2_with (refine G_val (o := ⟨some 57, _, _, _, _, _⟩) rfl (exec_load rfl rfl (row_load Bz Try.underlying29 rfl hszz)) ?_)
      have XE := X04.own (X5.trans Xz) (fun k hk => by simp at hk; exact .inr (by omega))
      generalize ((w5.setCell ⟨b1, 0, none⟩ (.int .i64 3)).setCell ⟨b1, 14, none⟩ (.int .i64 4)) = wz at *
      have HL : fLen (y6 g) ≤ 900000 := by
        have := G.inputs.1; have := G.stream.1; have := G.data
        have := MG.il; have := MG.rl; have := MG.dat.1
        have := MG.sl 0 (by omega); have := MG.sl 1 (by omega); have := MG.sl 2 (by omega); have := MG.sl 3 (by omega)
        have := (G.seats 0 (by omega)).1; have := (G.seats 1 (by omega)).1; have := (G.seats 2 (by omega)).1; have := (G.seats 3 (by omega)).1
        simp [fLen, slSum, List.range_succ]
        omega
      refine (encode_w MY K1.1 K1.2 HL).mono ?_
      rintro z w6 ⟨X6, ⟨hno, _⟩ | ⟨_, rfl⟩⟩
      · rw [NK] at hno; cases hno
      · clear c0 f0
        go_wp2_with fail
        go_ret
        exact ⟨rfl, XE.trans X6⟩
    · have Bz : Blk (((w5.setCell ⟨b1, 0, none⟩ (.int .i64 4)).setCell ⟨b1, 27, none⟩ (.int .i64 3)).setCell ⟨b1, 28, none⟩ (.int .i64 3)) b1 (msgCells (y7 g)) 29 := (((B5.set 0 _).set 27 _).set 28 _)
      have Xz : Ex [b1] w5 (((w5.setCell ⟨b1, 0, none⟩ (.int .i64 4)).setCell ⟨b1, 27, none⟩ (.int .i64 3)).setCell ⟨b1, 28, none⟩ (.int .i64 3)) := ((((Ex.refl _ _).setCell (.inl (by simp)) _).setCell (.inl (by simp)) _).setCell (.inl (by simp)) _)
      have NK := nok7_far g
      have MY := (Mz _ (X5.trans Xz)).y7
      have K1 : 1 ≤ (y7 g).kind ∧ (y7 g).kind ≤ 4 := ⟨by show (1 : Int) ≤ 4; omega, by show (4 : Int) ≤ 4; omega⟩
      have hszz : (Try.prog.info? 29).map (·.size) = some (msgCells (y7 g)).size := by kernel_rfl
      go_wp2_with (refine G_val (o := ⟨some 57, _, _, _, _, _⟩) rfl (exec_load rfl rfl (row_load Bz Try.underlying29 rfl hszz)) ?_)
      have XE := X04.own (X5.trans Xz) (fun k hk => by simp at hk; exact .inr (by omega))
      generalize (((w5.setCell ⟨b1, 0, none⟩ (.int .i64 4)).setCell ⟨b1, 27, none⟩ (.int .i64 3)).setCell ⟨b1, 28, none⟩ (.int .i64 3)) = wz at *
      have HL : fLen (y7 g) ≤ 900000 := by
        have := G.inputs.1; have := G.stream.1; have := G.data
        have := MG.il; have := MG.rl; have := MG.dat.1
        have := MG.sl 0 (by omega); have := MG.sl 1 (by omega); have := MG.sl 2 (by omega); have := MG.sl 3 (by omega)
        have := (G.seats 0 (by omega)).1; have := (G.seats 1 (by omega)).1; have := (G.seats 2 (by omega)).1; have := (G.seats 3 (by omega)).1
        simp [fLen, slSum, List.range_succ]
        omega
      refine (encode_w MY K1.1 K1.2 HL).mono ?_
      rintro z w6 ⟨X6, ⟨hno, _⟩ | ⟨_, rfl⟩⟩
      · rw [NK] at hno; cases hno
      · clear c0 f0
        go_wp2_with fail
        go_ret
        exact ⟨rfl, XE.trans X6⟩
    · go_wp2_with fail
      refine wp_region_tree (x := ?xtree3) (fun _ => True) [] (.take 1 (.two 0 (.one 2 (.take 3 (.one 4 .nil))) 2 (.one 0 (.take 3 (.one 4 .nil))))) (by kernel_rfl) (by kernel_rfl) (by kernel_rfl) (by kernel_rfl) rfl (by intro c a d v w h; cases d <;> exact h) trivial ?hxtree3 ?_
      case hxtree3 =>
        simp only [mkTr, List.getElem?_toArray, List.getElem?_cons_zero, List.getElem?_cons_succ]
        exact rfl
      iterate 1
        refine tre_take (v := ?_) rfl ?_ ?_
        rotate_left
        · intro w' hS
          go_simp
          with_reducible rfl
        go_frame
      have Xd : Ex [b1] w5 w5.drew := (Ex.refl _ _).drew
      have B6 := B5.drew
      generalize w5.drew = wd at *
      refine tre_two ?_ ?_
      · have Bn := Blk.new wd (Array.replicate 65 (.int .u8 0)) 5
        have Xa : Ex [b1] w5 (wd.alloc (.cells (Array.replicate 65 (.int .u8 0)) 5)) := Xd.alloc _
        have B7 := B6.alloc (.cells (Array.replicate 65 (.int .u8 0)) 5)
        have hnb : b1 < wd.heap.size := B6.lt
        refine tre_val rfl (ex_make1 (n := 65) rfl rfl rfl Try.underlying27 infoU8 rfl (by omega) (by omega) (by omega)) (fun _ => trivial) ?_
        go_frame
        simp only [show (65 : Int).toNat = 65 from rfl]
        generalize wd.heap.size = bn at *
        generalize wd.alloc (.cells (Array.replicate 65 (.int .u8 0)) 5) = wa at *
        clear c0 f0
        have c0 := B7.cell
        have f0 := B7.froz
        refine tre_skip (w' := ?_) rfl ?_ ?_ ?_
        rotate_left
        · go_simp
          first | with_reducible rfl | (refine ⟨?_, ?_⟩ <;> with_reducible rfl)
        · intro h; trivial
        go_frame
        iterate 1
          refine tre_take (v := ?_) rfl ?_ ?_
          rotate_left
          · intro w' hS
            go_simp
            with_reducible rfl
          go_frame
        refine tre_skip (w' := ?_) rfl ?_ ?_ ?_
        rotate_left
        · go_simp
          first | with_reducible rfl | (refine ⟨?_, ?_⟩ <;> with_reducible rfl)
        · intro h; trivial
        go_frame
        refine tre_nil ?_
        have Bz : Blk ((wa.setCell ⟨b1, 0, none⟩ (.int .i64 4)).setCell ⟨b1, 29, none⟩ (.slice (some ⟨bn, 0, none⟩) 65 65)) b1 (msgCells (y8 g (some ⟨bn, 0, none⟩))) 29 := (B7.set 0 _).set 29 _
        have Xz : Ex [b1] w5 ((wa.setCell ⟨b1, 0, none⟩ (.int .i64 4)).setCell ⟨b1, 29, none⟩ (.slice (some ⟨bn, 0, none⟩) 65 65)) := (Xa.setCell (.inl (by simp)) _).setCell (.inl (by simp)) _
        have NK := nok8_far g (some ⟨bn, 0, none⟩)
        have MY := (Mz _ (X5.trans Xz)).y8 (bytes_new ((Bn.set_other (p := ⟨b1, 0, none⟩) (show bn ≠ b1 by omega) _).set_other (p := ⟨b1, 29, none⟩) (show bn ≠ b1 by omega) _))
        have K1 : 1 ≤ (y8 g (some ⟨bn, 0, none⟩)).kind ∧ (y8 g (some ⟨bn, 0, none⟩)).kind ≤ 4 := ⟨by show (1 : Int) ≤ 4; omega, by show (4 : Int) ≤ 4; omega⟩
        have hszz : (Try.prog.info? 29).map (·.size) = some (msgCells (y8 g (some ⟨bn, 0, none⟩))).size := by kernel_rfl
        go_wp2_with (refine G_val (o := ⟨some 57, _, _, _, _, _⟩) rfl (exec_load rfl rfl (row_load Bz Try.underlying29 rfl hszz)) ?_)
        have XE := X04.own (X5.trans Xz) (fun k hk => by simp at hk; exact .inr (by omega))
        generalize ((wa.setCell ⟨b1, 0, none⟩ (.int .i64 4)).setCell ⟨b1, 29, none⟩ (.slice (some ⟨bn, 0, none⟩) 65 65)) = wz at *
        have HL : fLen (y8 g (some ⟨bn, 0, none⟩)) ≤ 900000 := by
          have := G.inputs.1; have := G.stream.1; have := G.data
          have := MG.il; have := MG.rl; have := MG.dat.1
          have := MG.sl 0 (by omega); have := MG.sl 1 (by omega); have := MG.sl 2 (by omega); have := MG.sl 3 (by omega)
          have := (G.seats 0 (by omega)).1; have := (G.seats 1 (by omega)).1; have := (G.seats 2 (by omega)).1; have := (G.seats 3 (by omega)).1
          simp [fLen, slSum, List.range_succ]
          omega
        refine (encode_w MY K1.1 K1.2 HL).mono ?_
        rintro z w6 ⟨X6, ⟨hno, _⟩ | ⟨_, rfl⟩⟩
        · rw [NK] at hno; cases hno
        · clear c0 f0
          go_wp2_with fail
          go_ret
          exact ⟨rfl, XE.trans X6⟩
      · clear c0 f0
        have c0 := B6.cell
        have f0 := B6.froz
        refine tre_skip (w' := ?_) rfl ?_ ?_ ?_
        rotate_left
        · go_simp
          first | with_reducible rfl | (refine ⟨?_, ?_⟩ <;> with_reducible rfl)
        · intro h; trivial
        go_frame
        have Xs : Ex [b1] w5 (wd.setCell ⟨b1, 0, none⟩ (.int .i64 4)) := Xd.setCell (.inl (by simp)) _
        have B7 := B6.set 0 (.int .i64 4)
        generalize wd.setCell ⟨b1, 0, none⟩ (.int .i64 4) = ws at *
        clear c0 f0
        have Bn := Blk.new ws (Array.replicate 65 (.int .u8 0)) 5
        have Xa : Ex [b1] w5 (ws.alloc (.cells (Array.replicate 65 (.int .u8 0)) 5)) := Xs.alloc _
        have B8 := B7.alloc (.cells (Array.replicate 65 (.int .u8 0)) 5)
        have hnb : b1 < ws.heap.size := B7.lt
        refine tre_val rfl (ex_make1 (n := 65) rfl rfl rfl Try.underlying27 infoU8 rfl (by omega) (by omega) (by omega)) (fun _ => trivial) ?_
        go_frame
        simp only [show (65 : Int).toNat = 65 from rfl]
        generalize ws.heap.size = bn at *
        generalize ws.alloc (.cells (Array.replicate 65 (.int .u8 0)) 5) = wa at *
        have c0 := B8.cell
        have f0 := B8.froz
        iterate 1
          refine tre_take (v := ?_) rfl ?_ ?_
          rotate_left
          · intro w' hS
            go_simp
            with_reducible rfl
          go_frame
        refine tre_skip (w' := ?_) rfl ?_ ?_ ?_
        rotate_left
        · go_simp
          first | with_reducible rfl | (refine ⟨?_, ?_⟩ <;> with_reducible rfl)
        · intro h; trivial
        go_frame
        refine tre_nil ?_
        have Bz : Blk (wa.setCell ⟨b1, 29, none⟩ (.slice (some ⟨bn, 0, none⟩) 65 65)) b1 (msgCells (y8 g (some ⟨bn, 0, none⟩))) 29 := B8.set 29 _
        have Xz : Ex [b1] w5 (wa.setCell ⟨b1, 29, none⟩ (.slice (some ⟨bn, 0, none⟩) 65 65)) := Xa.setCell (.inl (by simp)) _
        have NK := nok8_far g (some ⟨bn, 0, none⟩)
        have MY := (Mz _ (X5.trans Xz)).y8 (bytes_new (Bn.set_other (p := ⟨b1, 29, none⟩) (show bn ≠ b1 by omega) _))
        have K1 : 1 ≤ (y8 g (some ⟨bn, 0, none⟩)).kind ∧ (y8 g (some ⟨bn, 0, none⟩)).kind ≤ 4 := ⟨by show (1 : Int) ≤ 4; omega, by show (4 : Int) ≤ 4; omega⟩
        have hszz : (Try.prog.info? 29).map (·.size) = some (msgCells (y8 g (some ⟨bn, 0, none⟩))).size := by kernel_rfl
        go_wp2_with (refine G_val (o := ⟨some 57, _, _, _, _, _⟩) rfl (exec_load rfl rfl (row_load Bz Try.underlying29 rfl hszz)) ?_)
        have XE := X04.own (X5.trans Xz) (fun k hk => by simp at hk; exact .inr (by omega))
        generalize (wa.setCell ⟨b1, 29, none⟩ (.slice (some ⟨bn, 0, none⟩) 65 65)) = wz at *
        have HL : fLen (y8 g (some ⟨bn, 0, none⟩)) ≤ 900000 := by
          have := G.inputs.1; have := G.stream.1; have := G.data
          have := MG.il; have := MG.rl; have := MG.dat.1
          have := MG.sl 0 (by omega); have := MG.sl 1 (by omega); have := MG.sl 2 (by omega); have := MG.sl 3 (by omega)
          have := (G.seats 0 (by omega)).1; have := (G.seats 1 (by omega)).1; have := (G.seats 2 (by omega)).1; have := (G.seats 3 (by omega)).1
          simp [fLen, slSum, List.range_succ]
          omega
        refine (encode_w MY K1.1 K1.2 HL).mono ?_
        rintro z w6 ⟨X6, ⟨hno, _⟩ | ⟨_, rfl⟩⟩
        · rw [NK] at hno; cases hno
        · clear c0 f0
          go_wp2_with fail
          go_ret
          exact ⟨rfl, XE.trans X6⟩
  · have hf : decide ((tot m : Int) < 2000) = false := by simpa using hfew
    rw [hf]
    clear hf hfew
    go_wp2_with fail
    go_ret
    exact ⟨rfl, X03⟩
end Go.Proofs.Ytfnedfacapgoaaa
