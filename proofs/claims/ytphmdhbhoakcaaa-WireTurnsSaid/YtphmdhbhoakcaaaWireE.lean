/- wire.Encode. -/
import Derived.Test.YtphmdhbhoakcaaaWireT
namespace Go.Proofs.Ytphmdhbhoakcaaa
open Go.RowKit Go.Ad Go.Maps
def encOk (m : MsgD) : Bool := fOk m && !(m.kind == 3 && m.seat == 4)
def encB (m : MsgD) : List UInt8 := UInt8.ofNat m.kind.toNat :: fEnc m
/-- What Encode gives. -/
def EncR (w : World) (m : MsgD) (z : Ending) (w' : World) : Prop := Ex [] w w' ∧ ((encOk m = true ∧ ∃ a cap, z = .returned (.tuple #[.slice a (encB m).length cap, .int .i64 0]) ∧ w'.ownsRow w.heap.size 5 1 (.slice a (encB m).length cap) (encB m).length ((encB m).map bv)) ∨
  (encOk m = false ∧ z = .returned (.tuple #[.slice none 0 0, .int .i64 1])))
section
variable {w w' : World}
theorem MsgV.ex {m : MsgD} (M : MsgV w m) (X : Ex [] w w') : MsgV w' m :=
  ⟨M.bits, M.inp.ex X, M.il, M.inil, M.ib, M.str.ex X, M.rl, M.rnil, M.rb, fun s hs => (M.sts s hs).ex X, M.sl, M.snil, M.sb, M.dat.ex X (by simp), M.dnil⟩
theorem MsgAt.ex {av : List Nat} {b : Nat} {m : MsgD} (M : MsgAt w av b m) (hav : ∀ k ∈ av, k < w.heap.size) (X : Ex [] w w') : MsgAt w' av b m := by
  have hI : ∀ a zs, IntsIn w av a zs → IntsIn w' av a zs := fun a zs h => by
    rcases h with h | ⟨ab, ao, h1, h2, h3⟩
    · exact .inl h
    · exact .inr ⟨ab, ao, h1, h2, fun i x hx => ⟨by rw [X.cell (p := ⟨ab, _, none⟩) (hav _ h2) (by simp)]; exact (h3 i x hx).1, by rw [X.frozen (p := ⟨ab, _, none⟩) (hav _ h2) (by simp)]; exact (h3 i x hx).2⟩⟩
  refine ⟨M.blk.ex X (by simp), M.bav, M.bits, hI _ _ M.inp, M.il, ?_, M.rl, fun s hs => hI _ _ (M.sts s hs), M.sl, ?_, M.dl, M.dnil, M.nb⟩
  · rcases M.str with h | ⟨ab, ao, h1, h2, h3⟩
    · exact .inl h
    · exact .inr ⟨ab, ao, h1, h2, fun i x hx => (h3 i x hx).ex (hav _ h2) X⟩
  · rcases M.dat with h | ⟨ab, ao, h1, h2, h3⟩
    · exact .inl h
    · exact .inr ⟨ab, ao, h1, h2, rangeAt_ex h3 X (hav _ h2) (by simp)⟩
/-- A moved datagram in a block of its own, ready to be gone through. -/
theorem MsgAt.made {w0 : World} {b : Nat} {m : MsgD} {a1 : Option Addr} {c1 : Nat} {a2 : Option Addr} {c2 : Nat} {fa : Nat → Option Addr} {fc : Nat → Nat} (M : MsgV w m) (hb : b < w0.heap.size) (B : Blk w b (msgCells (moved m a1 c1 a2 c2 fa fc)) 29) (N1 : NewInts w0 w a1 m.inputs) (N2 : NewRecs w0 w a2 m.stream) (N3 : ∀ s, s < 4 → NewInts w0 w (fa s) (m.seats s))
    (hd : ∀ ab ao, m.data ≠ [] → m.da = some ⟨ab, ao, none⟩ → ab ≠ b) : MsgAt w (List.range w.heap.size) b (moved m a1 c1 a2 c2 fa fc) := by
  have hI : ∀ a zs, NewInts w0 w a zs → IntsIn w (List.range w.heap.size) a zs := fun a zs h => by
    rcases h with h | ⟨g, h1, h2, h3, h4⟩
    · exact .inl h
    · exact .inr ⟨g, 0, h1, by simpa using h3, fun i x hx => by rw [Nat.zero_add]; exact h4 i x hx⟩
  have hI2 : ∀ a zs, NewInts w0 w a zs → zs ≠ [] → ∀ ab ao, a = some ⟨ab, ao, none⟩ → ab ≠ b := fun a zs h h0 ab ao he => by
    rcases h with h | ⟨g, h1, h2, h3, h4⟩
    · exact absurd h h0
    · rw [h1] at he; cases he; omega
  refine ⟨B, by simpa using B.lt, M.bits, hI _ _ N1, M.il, ?_, M.rl, fun s hs => hI _ _ (N3 s hs), M.sl, ?_, M.dat.1, M.dnil, fun ab ao h => ?_⟩
  · rcases N2 with h | ⟨g, h1, h2, h3, h4⟩
    · exact .inl h
    · exact .inr ⟨g, 0, h1, by simpa using h3, h4⟩
  · rcases M.dat.2 with h | ⟨g, o, h1, h2, h3⟩
    · exact .inl h
    · exact .inr ⟨g, o, h1, by simpa using h2, h3⟩
  · rcases h with ⟨h0, h⟩ | ⟨h0, h⟩ | ⟨h0, h⟩ | ⟨s, hs, h0, h⟩
    · exact hI2 _ _ N1 h0 ab ao h
    · rcases N2 with h' | ⟨g, h1, h2, h3, h4⟩
      · exact absurd h' h0
      · rw [h1] at h; cases h; omega
    · exact hd ab ao h0 h
    · exact hI2 _ _ (N3 s hs) h0 ab ao h
set_option maxRecDepth 100000 in
set_option maxHeartbeats 3200000 in
theorem encode_kind {m : MsgD} (hk : m.kind < 1 ∨ 4 < m.kind) : Calls Try.prog 10 #[.agg (msgCells m)] w fun z w' => z = .returned (.tuple #[.slice none 0 0, .int .i64 3]) ∧ Ex [] w w' := by
  have X1 : Ex [] w (w.alloc (.cells (msgCells m) 29)) := (Ex.refl _ _).alloc _
  rcases hk with h | h
  · skip
    go_enter Try.func10, Try.ntmps10
    go_wp2_with fail
    go_ret2
    exact ⟨rfl, X1⟩
  · have h1 : ¬ m.kind < 1 := by omega
    go_enter Try.func10, Try.ntmps10
    go_wp2_with fail
    go_ret2
    exact ⟨rfl, X1⟩
set_option maxRecDepth 100000 in
set_option maxHeartbeats 3200000 in
theorem encode_w {m : MsgD} (M : MsgV w m) (hk1 : 1 ≤ m.kind) (hk4 : m.kind ≤ 4) (hl : fLen m ≤ 900000) : Calls Try.prog 10 #[.agg (msgCells m)] w (EncR w m) := by
  have k1 : ¬ m.kind < 1 := by omega
  have k2 : ¬ m.kind > 4 := by omega
  have X1 : Ex [] w (w.alloc (.cells (msgCells m) 29)) := (Ex.refl _ _).alloc _
  have B1 := Blk.new w (msgCells m) 29
  have hsz : (Try.prog.info? 29).map (·.size) = some (msgCells m).size := by kernel_rfl
  go_enter Try.func10, Try.ntmps10
  go_wp2_with (refine G_val (o := ⟨some 13, _, _, _, _, _⟩) rfl (exec_load rfl rfl (row_load B1 Try.underlying29 rfl hsz)) ?_)
  generalize hw1 : w.alloc (.cells (msgCells m) 29) = w1 at *
  have hs1 := B1.lt
  generalize hb0 : w.heap.size = b0 at *
  refine (twin_w (M.ex X1)).mono ?_
  rintro z w2 ⟨a1, c1, a2, c2, fa, fc, rfl, N1, N2, N3, X2⟩
  have B2 := B1.ex X2 (by simp)
  obtain ⟨hst, B3, X3⟩ := row_store (P := Try.prog) (ty := 29) (cs := msgCells (moved m a1 c1 a2 c2 fa fc)) B2 (by kernel_rfl) rfl (by simp [msgCells, Value.oneCell'])
  have hb1 : ∀ k ∈ [b0], k < w1.heap.size := fun k hk => by simp at hk; omega
  have N13 := N1.ex X3 hb1
  have N23 := N2.ex X3 hb1
  have N33 : ∀ s, s < 4 → NewInts w1 _ (fa s) (m.seats s) := fun s hs => (N3 s hs).ex X3 hb1
  have hs2 := X2.size
  have hs3 := X3.size
  have X03 : Ex [] w (w2.setRow b0 (msgCells (moved m a1 c1 a2 c2 fa fc))) := (X1.trans X2).own X3 (fun k hk => by simp at hk; exact .inr (by omega))
  have M3 := MsgAt.made (M.ex X03) hs1 B3 N13 N23 N33 (fun ab ao h0 h => by
    rcases M.dat.2 with h1 | ⟨g, o, h1, h2, _⟩
    · exact absurd h1 h0
    · rw [h1] at h; cases h; omega)
  have hst' := Lib.hid hst
  clear hst B2 N1 N2 N3 N13 N23 N33 X2 B1
  generalize w2.setRow b0 (msgCells (moved m a1 c1 a2 c2 fa fc)) = w3 at *
  have c3 : w3.cell? ⟨b0, 0, none⟩ = some (.int .i64 m.kind) := B3.cell 0
  go_wp2_with (refine G_skip (o := ⟨none, Op.store 29 _ _, _, _, _, _⟩) rfl (ex_store rfl rfl rfl hst'.out) ?_)
  have X45 : Ex [] w3 ((w3.alloc (.cells #[.int .u8 m.kind] 5)).alloc (.cells #[.slice (some ⟨w3.heap.size, 0, none⟩) 1 1, .int .i64 0, .int .i64 1] 56)) := ((Ex.refl _ _).alloc _).alloc _
  have hkb : Value.int .u8 m.kind = bv (UInt8.ofNat m.kind.toNat) := by
    obtain ⟨q, hq⟩ := Int.eq_ofNat_of_zero_le (show 0 ≤ m.kind by omega)
    rw [hq]
    have : q < 256 := by omega
    simp [bv, UInt8.toNat_ofNat', Nat.mod_eq_of_lt this]
  have O4 : (w3.alloc (.cells #[.int .u8 m.kind] 5)).ownsRow b0 5 1 (.slice (some ⟨w3.heap.size, 0, none⟩) 1 1) 1 ([UInt8.ofNat m.kind.toNat].map bv) := by
    have := World.ownsRow_lit (e := 5) (size := 1) (base := b0) w3 #[.int .u8 m.kind] 1 (by omega) (by simp [maxLen]) rfl
    rw [hkb] at this ⊢
    simpa using this
  have B5 := Blk.new (w3.alloc (.cells #[.int .u8 m.kind] 5)) #[.slice (some ⟨w3.heap.size, 0, none⟩) 1 1, .int .i64 0, .int .i64 1] 56
  rw [World.size_alloc] at B5
  have D5 : WrAt ((w3.alloc (.cells #[.int .u8 m.kind] 5)).alloc (.cells #[.slice (some ⟨w3.heap.size, 0, none⟩) 1 1, .int .i64 0, .int .i64 1] 56)) b0 (w3.heap.size + 1) (List.range w3.heap.size) (.slice (some ⟨w3.heap.size, 0, none⟩) 1 1) [UInt8.ofNat m.kind.toNat] 0 :=
    ⟨B5, by omega, by simp, fun k hk => by simp [Value.ownBlock] at hk; subst hk; exact ⟨by simp, by omega⟩, ownsRow_ex (l := []) O4 ((Ex.refl _ _).alloc _) (fun _ _ => List.not_mem_nil), by simp⟩
  have M5 := M3.ex (by simp) X45
  have hs5 := X45.size
  have hav5 : ∀ k ∈ List.range w3.heap.size, k < ((w3.alloc (.cells #[.int .u8 m.kind] 5)).alloc (.cells #[.slice (some ⟨w3.heap.size, 0, none⟩) 1 1, .int .i64 0, .int .i64 1] 56)).heap.size := fun k hk => by simp at hk ⊢; omega
  have XX := X03.trans X45
  generalize (w3.alloc (.cells #[.int .u8 m.kind] 5)).alloc (.cells #[.slice (some ⟨w3.heap.size, 0, none⟩) 1 1, .int .i64 0, .int .i64 1] 56) = w5 at *
  clear O4 B5 M3 X03 X45 c3 B3 X3 hst'
  have hB5 : b0 ≤ w5.heap.size := by omega
  have hfl : fLen (moved m a1 c1 a2 c2 fa fc) = fLen m := rfl
  by_cases h34 : m.kind = 3 ∧ m.seat = 4
  · have hno : encOk m = false := by simp [encOk, h34.1, h34.2]
    have Hno := Lib.hid hno
    obtain ⟨hk3, hse⟩ := h34
    refine (fields4_w D5 hB5 hav5 (by rw [hfl]; simp; omega) M5 hk3 hse).mono ?_
    rintro z w6 ⟨v6, ys6, rfl, D6, hl6, X6, G6⟩
    have X6' : Ex [] w w6 := XX.own X6 (fun k hk => by
      simp [Value.ownBlock] at hk
      rcases hk with rfl | rfl | rfl <;> exact .inr (by omega))
    have hn1 : noted false 0 1 = 1 := rfl
    rw [hn1] at D6
    clear hno hk3 hse M5 D5 hfl hn1
    have ce : w6.drew.cell? ⟨w3.heap.size + 1, 1, none⟩ = some (.int .i64 1) := D6.blk.cell 1
    go_wp2_with fail
    refine (failed_any D6).mono ?_
    rintro z w7 ⟨rfl, rfl⟩
    go_wp2_with fail
    refine wp_region_ord (fun w' => w'.cell? ⟨w3.heap.size + 1, 1, none⟩ = some (.int .i64 1)) [] [(0, true), (1, true), (2, true), (3, true), (4, true), (5, true), (6, true)]
      (by kernel_rfl) (by kernel_rfl) (by kernel_rfl) (by kernel_rfl) rfl (by intro c a d v w h; cases d <;> exact h) ce ?_
    simp only [mkOrd, List.filterMap_cons, List.filterMap_nil, List.getElem?_toArray, List.getElem?_cons_zero, List.getElem?_cons_succ, Option.map_some]
    iterate 7
      refine ord_take (v := ?_) rfl ?_ ?_
      rotate_left
      · intro w' hS
        have s0 := hS
        go_simp
        with_reducible rfl
      go_frame
    refine ord_nil ?_
    go_wp2_with fail
    go_ret2
    exact ⟨X6'.drew, .inr ⟨Hno.out, rfl⟩⟩
  · refine (fields_w D5 hB5 hav5 (by rw [hfl]; simp; omega) M5 ⟨hk1, hk4⟩ (fun h3 h4 => h34 ⟨h3, h4⟩)).mono ?_
    rintro z w6 ⟨v6, ys6, rfl, S6⟩
    have X6' : Ex [] w w6 := XX.own S6.ex (fun k hk => by
      simp [Value.ownBlock] at hk
      rcases hk with rfl | rfl <;> exact .inr (by omega))
    have hff : fOk (moved m a1 c1 a2 c2 fa fc) = encOk m := by
      have h1 : fOk (moved m a1 c1 a2 c2 fa fc) = fOk m := rfl
      have h2 : (m.kind == 3 && m.seat == 4) = false := by
        cases h : (m.kind == 3 && m.seat == 4)
        · rfl
        · simp only [Bool.and_eq_true, beq_iff_eq] at h; exact absurd h h34
      rw [h1, encOk, h2]; simp
    rw [hff] at S6
    cases he : encOk m
    · rw [he] at S6
      have D6 := S6.at'
      have hn1 : noted false 0 1 = 1 := rfl
      rw [hn1] at D6
      have Hno := Lib.hid he
      clear he hff M5 D5 hfl hn1 S6 h34
      have ce : w6.drew.cell? ⟨w3.heap.size + 1, 1, none⟩ = some (.int .i64 1) := D6.blk.cell 1
      go_wp2_with fail
      refine (failed_any D6).mono ?_
      rintro z w7 ⟨rfl, rfl⟩
      go_wp2_with fail
      refine wp_region_ord (fun w' => w'.cell? ⟨w3.heap.size + 1, 1, none⟩ = some (.int .i64 1)) [] [(0, true), (1, true), (2, true), (3, true), (4, true), (5, true), (6, true)]
        (by kernel_rfl) (by kernel_rfl) (by kernel_rfl) (by kernel_rfl) rfl (by intro c a d v w h; cases d <;> exact h) ce ?_
      simp only [mkOrd, List.filterMap_cons, List.filterMap_nil, List.getElem?_toArray, List.getElem?_cons_zero, List.getElem?_cons_succ, Option.map_some]
      iterate 7
        refine ord_take (v := ?_) rfl ?_ ?_
        rotate_left
        · intro w' hS
          have s0 := hS
          go_simp
          with_reducible rfl
        go_frame
      refine ord_nil ?_
      go_wp2_with fail
      go_ret2
      exact ⟨X6'.drew, .inr ⟨Hno.out, rfl⟩⟩
    · rw [he] at S6
      have D6 := S6.at'
      have hn1 : noted true 0 1 = 0 := rfl
      rw [hn1] at D6
      have hys : ys6 = encB m := S6.enc rfl rfl
      subst hys
      have Hyes := Lib.hid he
      obtain ⟨xa, xc, rfl⟩ := own_shape D6.own
      have O6 := D6.own
      clear he hff M5 D5 hfl hn1 S6 h34
      obtain ⟨n6, hn6⟩ : ∃ n6, (encB m).length = n6 := ⟨_, rfl⟩
      have Hn6 := Lib.hid hn6
      rw [hn6] at D6 O6
      have c6 := D6.blk.cell
      clear hn6
      go_wp2_with fail
      refine (failed_any D6).mono ?_
      rintro z w7 ⟨rfl, rfl⟩
      go_wp2_with fail
      go_ret2
      refine ⟨X6', .inl ⟨Hyes.out, xa, xc, ?_, ?_⟩⟩
      · rw [Hn6.out]; rfl
      · rw [Hn6.out, hb0]; exact O6
end
end Go.Proofs.Ytphmdhbhoakcaaa
