/- wire.twin: a datagram apart. -/
import Derived.Test.YtphmdhbhoakcaaaWireC
namespace Go.Proofs.Ytphmdhbhoakcaaa
open Go.RowKit Go.Ad Go.Maps
/-- A datagram as a value: its rows can be read. -/
structure MsgV (w : World) (m : MsgD) : Prop where
  bits : m.bits < 4294967296
  inp : IntsAt w m.ia m.inputs
  il : m.inputs.length = m.il
  inil : m.ia = none → m.il = 0 ∧ m.ic = 0
  ib : m.il ≤ 1000000
  str : RecsAt w m.ra m.stream
  rl : m.stream.length = m.rl
  rnil : m.ra = none → m.rl = 0 ∧ m.rc = 0
  rb : m.rl ≤ 1000000
  sts : ∀ s, s < 4 → IntsAt w (m.sa s) (m.seats s)
  sl : ∀ s, s < 4 → (m.seats s).length = m.sl s
  snil : ∀ s, s < 4 → m.sa s = none → m.sl s = 0 ∧ m.sc s = 0
  sb : ∀ s, s < 4 → m.sl s ≤ 1000000
  dat : BytesAt w m.da m.dl m.data
  dnil : m.da = none → m.dc = 0
theorem results_cell {P : Program} {fn : Func} {p : Tmp} {ty : TypeId} (h : fn.results = #[.cell p ty]) (tmps : Array Value) (w : World) (g : Nat) (t : TypeId) (cs : Array Value) (d : TypeDesc)
    (hp : tmps.getD p undef = .pointer (some ⟨g, 0, none⟩)) (hg : Blk w g cs t) (hu : P.underlying ty = some d) (hd : (match d with | .struct _ | .array _ _ => true | _ => false) = true) (hi : (P.info? ty).map (·.size) = some cs.size) :
    (results fn tmps).run P w = .ok (.agg cs) w := by
  have hp' : tmps[p]?.getD undef = .pointer (some ⟨g, 0, none⟩) := by simpa using hp
  simp [results, h, hp', asAddr, run_loadVar_row w g t ty cs (0, 0) d hg hu hd hi]
section
variable {w w' : World}
theorem IntsAt.ex {a : Option Addr} {zs : List Int} (h : IntsAt w a zs) (X : Ex [] w w') : IntsAt w' a zs := by
  rcases h with h | ⟨b, o, h1, h2, h3⟩
  · exact .inl h
  · exact .inr ⟨b, o, h1, Nat.lt_of_lt_of_le h2 X.size, rangeAt_ex h3 X h2 (by simp)⟩
theorem RecsAt.ex {a : Option Addr} {zs : List Rec} (h : RecsAt w a zs) (X : Ex [] w w') : RecsAt w' a zs := by
  rcases h with h | ⟨b, o, h1, h2, h3⟩
  · exact .inl h
  · exact .inr ⟨b, o, h1, Nat.lt_of_lt_of_le h2 X.size, rangeAt_ex h3 X h2 (by simp)⟩
theorem NewInts.ex {w0 : World} {a : Option Addr} {zs : List Int} (h : NewInts w0 w a zs) {l : List Nat} (X : Ex l w w') (hl : ∀ k ∈ l, k < w0.heap.size) : NewInts w0 w' a zs := by
  rcases h with h | ⟨g, h1, h2, h3, h4⟩
  · exact .inl h
  · have hg : g ∉ l := fun hm => by have := hl g hm; omega
    exact .inr ⟨g, h1, h2, Nat.lt_of_lt_of_le h3 X.size, fun i x hx => ⟨by rw [X.cell (p := ⟨g, i, none⟩) h3 hg]; exact (h4 i x hx).1, by rw [X.frozen (p := ⟨g, i, none⟩) h3 hg]; exact (h4 i x hx).2⟩⟩
theorem NewInts.base {w0 w1 : World} {a : Option Addr} {zs : List Int} (h : NewInts w1 w a zs) (hs : w0.heap.size ≤ w1.heap.size) : NewInts w0 w a zs := by
  rcases h with h | ⟨g, h1, h2, h3, h4⟩
  · exact .inl h
  · exact .inr ⟨g, h1, Nat.le_trans hs h2, h3, h4⟩
theorem NewRecs.ex {w0 : World} {a : Option Addr} {zs : List Rec} (h : NewRecs w0 w a zs) {l : List Nat} (X : Ex l w w') (hl : ∀ k ∈ l, k < w0.heap.size) : NewRecs w0 w' a zs := by
  rcases h with h | ⟨g, h1, h2, h3, h4⟩
  · exact .inl h
  · have hg : g ∉ l := fun hm => by have := hl g hm; omega
    refine .inr ⟨g, h1, h2, Nat.lt_of_lt_of_le h3 X.size, fun i x hx => ?_⟩
    have R := h4 i x hx
    exact ⟨by rw [X.cell (p := ⟨g, _, none⟩) h3 hg]; exact R.c0, by rw [X.cell (p := ⟨g, _, none⟩) h3 hg]; exact R.c1, by rw [X.cell (p := ⟨g, _, none⟩) h3 hg]; exact R.c2, by rw [X.cell (p := ⟨g, _, none⟩) h3 hg]; exact R.c3, by rw [X.cell (p := ⟨g, _, none⟩) h3 hg]; exact R.c4, fun q hq => by rw [X.frozen (p := ⟨g, _, none⟩) h3 hg]; exact R.fz q hq⟩
theorem NewRecs.base {w0 w1 : World} {a : Option Addr} {zs : List Rec} (h : NewRecs w1 w a zs) (hs : w0.heap.size ≤ w1.heap.size) : NewRecs w0 w a zs := by
  rcases h with h | ⟨g, h1, h2, h3, h4⟩
  · exact .inl h
  · exact .inr ⟨g, h1, Nat.le_trans hs h2, h3, h4⟩
/-- A datagram whose rows lie elsewhere. -/
abbrev moved (m : MsgD) (a1 : Option Addr) (c1 : Nat) (a2 : Option Addr) (c2 : Nat) (fa : Nat → Option Addr) (fc : Nat → Nat) : MsgD := { m with ia := a1, ic := c1, ra := a2, rc := c2, sa := fa, sc := fc }
def TwinR (w : World) (m : MsgD) (z : Ending) (w' : World) : Prop := ∃ a1 c1 a2 c2 fa fc, z = .returned (.agg (msgCells (moved m a1 c1 a2 c2 fa fc))) ∧ NewInts w w' a1 m.inputs ∧ NewRecs w w' a2 m.stream ∧ (∀ s, s < 4 → NewInts w w' (fa s) (m.seats s)) ∧ Ex [] w w'
def TwI (w w2 : World) (b1 : Nat) (m : MsgD) (a1 : Option Addr) (c1 : Nat) (a2 : Option Addr) (c2 : Nat) (k : Nat) (vi : Value) (wr : World) : Prop :=
  ∃ (i : Nat) (fa : Nat → Option Addr) (fc : Nat → Nat), vi = .int .i64 (i : Int) ∧ i + k = 4 ∧ Blk wr b1 (msgCells (moved m a1 c1 a2 c2 (fun s => if s < i then fa s else m.sa s) (fun s => if s < i then fc s else m.sc s))) 29 ∧
    NewInts w2 wr a1 m.inputs ∧ NewRecs w2 wr a2 m.stream ∧ (∀ s, s < i → NewInts w2 wr (fa s) (m.seats s)) ∧ Ex [] w wr ∧ Ex [b1] w2 wr
abbrev zmsg : MsgD := ⟨0, 0, 0, false, 0, 0, fun _ => 0, 0, 0, none, 0, 0, [], 0, 0, 0, 0, none, 0, 0, [], fun _ => 0, fun _ => none, fun _ => 0, fun _ => 0, fun _ => [], 0, 0, 0, none, 0, 0, []⟩
set_option maxRecDepth 100000 in
set_option maxHeartbeats 3200000 in
theorem twin_w {m : MsgD} (M : MsgV w m) : Calls Try.prog 19 #[.agg (msgCells m)] w (TwinR w m) := by
  go_enter Try.func19, Try.ntmps19
  go_wp2_with fail
  have X2 : Ex [] w ((w.alloc (.cells (msgCells m) 29)).alloc (.cells (msgCells zmsg) 29)) := ((Ex.refl _ _).alloc _).alloc _
  have B1 := (Blk.new w (msgCells m) 29).alloc (.cells (msgCells zmsg) 29)
  have B2 := Blk.new (w.alloc (.cells (msgCells m) 29)) (msgCells zmsg) 29
  rw [World.size_alloc] at B2
  generalize (w.alloc (.cells (msgCells m) 29)).alloc (.cells (msgCells zmsg) 29) = w2 at *
  have hs2 := X2.size
  have hlb := B2.lt
  generalize hb1 : w.heap.size = b1 at *
  refine (clone_ints M.il (M.inp.ex X2) M.inil M.ib).mono ?_
  rintro z w3 ⟨a1, c1, rfl, N1, X3⟩
  have B13 := B1.ex X3 (by simp)
  have B23 := B2.ex X3 (by simp)
  have c3 := B13.cell
  have f3 := B13.froz
  clear B1
  go_wp2_with fail
  have X4 : Ex [b1] w3 (w3.setCell ⟨b1, 12, none⟩ (.slice a1 m.il c1)) := (Ex.refl _ _).setCell (.inl (by simp)) _
  have B14 := B13.set 12 (.slice a1 m.il c1)
  have B24 := B23.set_other (p := ⟨b1, 12, none⟩) (by simp) (.slice a1 m.il c1)
  generalize w3.setCell ⟨b1, 12, none⟩ (.slice a1 m.il c1) = w4 at *
  have X04 : Ex [] w w4 := (X2.trans X3).own X4 (fun k hk => by simp at hk; exact .inr (by omega))
  have X24 : Ex [b1] w2 w4 := (X3.mono (by simp)).trans X4
  have N14 := N1.ex X4 (fun k hk => by simp at hk; omega)
  clear B13 B23 X3 X4 c3 f3 N1
  refine (clone_recs M.rl (M.str.ex X04) M.rnil M.rb).mono ?_
  rintro z w5 ⟨a2, c2, rfl, N2, X5⟩
  have B15 := B14.ex X5 (by simp)
  have B25 := B24.ex X5 (by simp)
  have c5 := B15.cell
  have f5 := B15.froz
  clear B14 B24
  go_wp2_with fail
  have X6 : Ex [b1] w5 (w5.setCell ⟨b1, 17, none⟩ (.slice a2 m.rl c2)) := (Ex.refl _ _).setCell (.inl (by simp)) _
  have B16 := B15.set 17 (.slice a2 m.rl c2)
  have B26 := B25.set_other (p := ⟨b1, 17, none⟩) (by simp) (.slice a2 m.rl c2)
  generalize w5.setCell ⟨b1, 17, none⟩ (.slice a2 m.rl c2) = w6 at *
  have X06 : Ex [] w w6 := (X04.trans X5).own X6 (fun k hk => by simp at hk; exact .inr (by omega))
  have X26 : Ex [b1] w2 w6 := (X24.trans (X5.mono (by simp))).trans X6
  have N16 := (N14.ex X5 (by simp)).ex X6 (fun k hk => by simp at hk; omega)
  have N26 := (N2.ex X6 (fun k hk => by simp at hk; have := X24.size; omega)).base (w0 := w2) X24.size
  have P6 : TwI w w2 b1 m a1 c1 a2 c2 4 (.int .i64 0) w6 := ⟨0, fun _ => none, fun _ => 0, rfl, rfl, by simpa [msgCells, moved] using B16, N16, N26, by simp, X06, X26⟩
  clear B15 B25 X5 X6 c5 f5 N2 B16 N16 N26 X04 X24 N14
  go_loopg [12] 4 (fun k vi wr => TwI w w2 b1 m a1 c1 a2 c2 k vi wr)
  case atStart => exact P6
  case round =>
    clear P6 X06
    obtain ⟨i, fa, fc, rfl, hk, B7, N1, N2, N3, X07, X27⟩ := hrel
    by_cases hi : i < 4
    · have hi' : (i : Int) < 4 := by omega
      have hc : wr.cell? ⟨b1, 22 + i, none⟩ = some (.slice (m.sa i) (m.sl i) (m.sc i)) := by
        rw [B7.cell]
        match i, hi with
        | 0, _ => rfl
        | 1, _ => rfl
        | 2, _ => rfl
        | 3, _ => rfl
      have f7 := B7.froz
      go_wp2_with fail
      refine (clone_ints (M.sl i hi) ((M.sts i hi).ex X07) (M.snil i hi) (M.sb i hi)).mono ?_
      rintro z w8 ⟨a3, c3, rfl, N4, X8⟩
      have B8 := B7.ex X8 (by simp)
      have hc8 : w8.cell? ⟨b1, 22 + i, none⟩ = some (.slice (m.sa i) (m.sl i) (m.sc i)) := by rw [X8.cell (p := ⟨b1, _, none⟩) B7.lt (by simp)]; exact hc
      have f8 := B8.froz
      clear hc f7 B7
      go_wp2_with fail
      have X9 : Ex [b1] w8 (w8.setCell ⟨b1, 22 + i, none⟩ (.slice a3 (m.sl i) c3)) := (Ex.refl _ _).setCell (.inl (by simp)) _
      have B9 := B8.set (22 + i) (.slice a3 (m.sl i) c3)
      generalize w8.setCell ⟨b1, 22 + i, none⟩ (.slice a3 (m.sl i) c3) = w9 at *
      have hl1 : ∀ k ∈ [b1], k < w2.heap.size := fun k hk => by simp at hk; omega
      clear hc8 f8 B8
      go_roundg (gk - 1)
      case measure => omega
      case rel =>
        refine ⟨i + 1, fun s => if s = i then a3 else fa s, fun s => if s = i then c3 else fc s, by go_num, by omega, ?_, (N1.ex X8 (by simp)).ex X9 hl1, (N2.ex X8 (by simp)).ex X9 hl1, fun s hs => ?_, (X07.trans X8).own X9 (fun k hk => by simp at hk; exact .inr (by omega)), (X27.trans (X8.mono (by simp))).trans X9⟩
        · have e1 : (msgCells (moved m a1 c1 a2 c2 (fun s => if s < i then fa s else m.sa s) (fun s => if s < i then fc s else m.sc s))).setIfInBounds (22 + i) (.slice a3 (m.sl i) c3) = msgCells (moved m a1 c1 a2 c2 (fun s => if s < i + 1 then (if s = i then a3 else fa s) else m.sa s) (fun s => if s < i + 1 then (if s = i then c3 else fc s) else m.sc s)) := by
            match i, hi with
            | 0, _ => simp [msgCells]
            | 1, _ => simp [msgCells]
            | 2, _ => simp [msgCells]
            | 3, _ => simp [msgCells]
          rw [← e1]; exact B9
        · by_cases h : s = i
          · subst h
            simp only [if_true]
            exact (N4.ex X9 (fun k hk => by have := hl1 k hk; have := X27.size; omega)).base X27.size
          · simp only [if_neg h]
            exact ((N3 s (by omega)).ex X8 (by simp)).ex X9 hl1
    · obtain rfl : i = 4 := by omega
      have B29 := B2.ex X27 (by simp)
      have B7' : Blk wr b1 (msgCells (moved m a1 c1 a2 c2 fa fc)) 29 := by simpa [msgCells, moved] using B7
      clear B7
      obtain ⟨hst, B30, X30⟩ := row_store (P := Try.prog) (ty := 29) (cs := msgCells (moved m a1 c1 a2 c2 fa fc)) B29 (by kernel_rfl) rfl (by simp [msgCells, Value.oneCell'])
      obtain ⟨cs, hcs⟩ : ∃ cs, msgCells (moved m a1 c1 a2 c2 fa fc) = cs := ⟨_, rfl⟩
      have hsz : (Try.prog.info? 29).map (·.size) = some cs.size := by rw [← hcs]; kernel_rfl
      have Hcs := Lib.hid hcs
      rw [hcs] at B7' hst B30 X30
      generalize wr.setRow (b1 + 1) cs = w9 at *
      clear hcs
      go_wp2_with (first | (refine G_val (o := ⟨some 24, _, _, _, _, _⟩) rfl (exec_load rfl rfl (row_load B7' Try.underlying29 rfl hsz)) ?_) | (refine G_skip (o := ⟨none, Op.store 29 _ _, _, _, _, _⟩) rfl (ex_store rfl rfl rfl hst) ?_))
      refine bodyPost_ret (v := .agg cs) (results_cell rfl _ _ _ _ _ _ rfl B30 Try.underlying29 rfl hsz) rfl ?_
      have hb2 : ∀ k ∈ [b1 + 1], k < w2.heap.size := fun k hk => by simp at hk; omega
      have hsw : w.heap.size ≤ w2.heap.size := X2.size
      exact ⟨a1, c1, a2, c2, fa, fc, by rw [Hcs.out], (N1.ex X30 hb2).base hsw, (N2.ex X30 hb2).base hsw, fun s hs => ((N3 s hs).ex X30 hb2).base hsw, X07.own X30 (fun k hk => by simp at hk; exact .inr (by omega))⟩
end
end Go.Proofs.Ytphmdhbhoakcaaa
