/- aditlaw15.good: a datagram such as may be. -/
import Derived.Test.YtphmdhbhoakcaaaWireG
namespace Go.Proofs.Ytphmdhbhoakcaaa
open Go.RowKit Go.Ad Go.Maps
def St (W : World) (b : Nat) (g : MsgD) (w : World) : Prop := Blk w b (msgCells g) 29 ∧ Ex [] W w
section
variable {W w w' : World} {b : Nat} {g g' : MsgD}
theorem St.set (h : St W b g w) (hb : W.heap.size ≤ b) (j : Nat) (u : Value) (hc : (msgCells g).setIfInBounds j u = msgCells g') : St W b g' (w.setCell ⟨b, j, none⟩ u) :=
  ⟨by rw [← hc]; exact h.1.set j u, h.2.setCell (.inr hb) u⟩
theorem blk_sets {t : TypeId} : ∀ (js : List (Nat × Value)) (w : World) (c : Array Value), Blk w b c t → Blk (js.foldl (fun w p => w.setCell ⟨b, p.1, none⟩ p.2) w) b (js.foldl (fun c p => c.setIfInBounds p.1 p.2) c) t
  | [], _, _, h => h
  | p :: r, _, _, h => blk_sets r _ _ (h.set p.1 p.2)
theorem ex_sets (hb : W.heap.size ≤ b) : ∀ (js : List (Nat × Value)) (w : World), Ex [] W w → Ex [] W (js.foldl (fun w p => w.setCell ⟨b, p.1, none⟩ p.2) w)
  | [], _, h => h
  | p :: r, _, h => ex_sets hb r _ (h.setCell (.inr hb) p.2)
theorem blk_other {b2 : Nat} (hb : b2 ≠ b) {c : Array Value} {t : TypeId} : ∀ (js : List (Nat × Value)) (w : World), Blk w b2 c t → Blk (js.foldl (fun w p => w.setCell ⟨b, p.1, none⟩ p.2) w) b2 c t
  | [], _, h => h
  | p :: r, _, h => blk_other hb r _ (h.set_other (p := ⟨b, p.1, none⟩) hb p.2)
theorem St.sets (h : St W b g w) (hb : W.heap.size ≤ b) (js : List (Nat × Value)) (hc : js.foldl (fun c p => c.setIfInBounds p.1 p.2) (msgCells g) = msgCells g') : St W b g' (js.foldl (fun w p => w.setCell ⟨b, p.1, none⟩ p.2) w) :=
  ⟨by rw [← hc]; exact blk_sets js w _ h.1, ex_sets hb js w h.2⟩
theorem St.go (h : St W b g w) (X : Ex [] w w') : St W b g w' := ⟨h.1.ex X (by simp), h.2.trans X⟩
abbrev P30 : Int := 1073741824
/-- The numbers, brought within their bounds. -/
abbrev g1 (m : MsgD) : MsgD := { m with kind := 1 + m.kind % 4 }
abbrev g2 (m : MsgD) : MsgD := { g1 m with epoch := m.epoch % P30, transfer := m.transfer % P30, records := m.records % P30, live := m.live % P30, first := m.first % P30 }
abbrev g3 (m : MsgD) : MsgD := { g2 m with base := m.base % P30, frm := m.frm % P30, ack := m.ack % P30 }
abbrev g4 (m : MsgD) : MsgD := { g3 m with stage := 1 + m.stage % 7, seat := m.seat % 5 - 1 }
abbrev g5 (m : MsgD) : MsgD := { g4 m with total := 1 + m.total % 16 }
abbrev g6 (m : MsgD) : MsgD := { g5 m with index := m.index % (1 + m.total % 16) }
/-- A datagram such as may be. -/
structure Good (g : MsgD) : Prop where
  kind : 1 ≤ g.kind ∧ g.kind ≤ 4
  epoch : 0 ≤ g.epoch ∧ g.epoch < P30
  transfer : 0 ≤ g.transfer ∧ g.transfer < P30
  records : 0 ≤ g.records ∧ g.records < P30
  live : 0 ≤ g.live ∧ g.live < P30
  first : 0 ≤ g.first ∧ g.first < P30
  base : 0 ≤ g.base ∧ g.base < P30
  frm : 0 ≤ g.frm ∧ g.frm < P30
  ack : 0 ≤ g.ack ∧ g.ack < P30
  stage : 1 ≤ g.stage ∧ g.stage ≤ 7
  seat : -1 ≤ g.seat ∧ g.seat ≤ 3
  total : 1 ≤ g.total ∧ g.total ≤ 16
  index : 0 ≤ g.index ∧ g.index < g.total
  heard : ∀ s, s < 4 → 0 ≤ g.heard s ∧ g.heard s < P30
  firsts : ∀ s, s < 4 → 0 ≤ g.firsts s ∧ g.firsts s < P30
  inputs : InB g.inputs
  seats : ∀ s, s < 4 → InB (g.seats s)
  stream : g.stream.length ≤ 400 ∧ ∀ r ∈ g.stream, 1 ≤ r.kind ∧ r.kind ≤ 3 ∧ 0 ≤ r.input ∧ r.input ≤ 10 ∧ 0 ≤ r.seat ∧ r.seat ≤ 3 ∧ 0 ≤ r.frame ∧ r.frame < P30 ∧ 0 ≤ r.last ∧ r.last < P30
  data : g.data.length ≤ 64
/-- What good gives; its rows are apart from what was there, but for the data. -/
def GoodR (m : MsgD) (w : World) (z : Ending) (w' : World) : Prop := ∃ g, z = .returned (.agg (msgCells g)) ∧ (∀ (l : List Nat) (wz : World), Ex l w' wz → (∀ k ∈ l, k < w.heap.size ∧ (m.data = [] ∨ ∀ o, m.da ≠ some ⟨k, o, none⟩)) → MsgV wz g) ∧ Good g ∧ Ex [] w w'
/-- The seats' part, brought within its bounds, up to a seat. -/
structure SeatsG (w1 w : World) (i : Nat) (hf ff : Nat → Int) (fa : Nat → Option Addr) (fl fc : Nat → Nat) (fz : Nat → List Int) : Prop where
  h : ∀ s, s < i → 0 ≤ hf s ∧ hf s < P30
  f : ∀ s, s < i → 0 ≤ ff s ∧ ff s < P30
  l : ∀ s, s < i → (fz s).length = fl s
  b : ∀ s, s < i → InB (fz s)
  n : ∀ s, s < i → NewInts w1 w (fa s) (fz s)
  z : ∀ s, s < i → fa s = none → fl s = 0 ∧ fc s = 0
abbrev g7 (m : MsgD) (ai : Option Addr) (ni ci : Nat) (os : List Int) : MsgD := { g6 m with ia := ai, il := ni, ic := ci, inputs := os }
abbrev g8 (m : MsgD) (ai : Option Addr) (ni ci : Nat) (os : List Int) (i : Nat) (hf ff : Nat → Int) (fa : Nat → Option Addr) (fl fc : Nat → Nat) (fz : Nat → List Int) : MsgD :=
  { g7 m ai ni ci os with heard := fun s => if s < i then hf s else m.heard s, firsts := fun s => if s < i then ff s else m.firsts s, sa := fun s => if s < i then fa s else m.sa s, sl := fun s => if s < i then fl s else m.sl s, sc := fun s => if s < i then fc s else m.sc s, seats := fun s => if s < i then fz s else m.seats s }
def GI (w w1 : World) (b1 : Nat) (m : MsgD) (ai : Option Addr) (ni ci : Nat) (os : List Int) (k : Nat) (vi : Value) (wr : World) : Prop :=
  ∃ (i : Nat) (hf ff : Nat → Int) (fa : Nat → Option Addr) (fl fc : Nat → Nat) (fz : Nat → List Int), vi = .int .i64 (i : Int) ∧ i + k = 4 ∧ St w b1 (g8 m ai ni ci os i hf ff fa fl fc fz) wr ∧ NewInts w1 wr ai os ∧ SeatsG w1 wr i hf ff fa fl fc fz ∧ Blk wr (b1 + 1) (msgCells zmsg) 29 ∧ w1.heap.size ≤ wr.heap.size
theorem SeatsG.ex {w1 : World} {i : Nat} {hf ff : Nat → Int} {fa : Nat → Option Addr} {fl fc : Nat → Nat} {fz : Nat → List Int} (h : SeatsG w1 w i hf ff fa fl fc fz) {l : List Nat} (X : Ex l w w') (hl : ∀ k ∈ l, k < w1.heap.size) : SeatsG w1 w' i hf ff fa fl fc fz :=
  ⟨h.h, h.f, h.l, h.b, fun s hs => (h.n s hs).ex X hl, h.z⟩
def RecG (r : Rec) : Prop := 1 ≤ r.kind ∧ r.kind ≤ 3 ∧ 0 ≤ r.input ∧ r.input ≤ 10 ∧ 0 ≤ r.seat ∧ r.seat ≤ 3 ∧ 0 ≤ r.frame ∧ r.frame < P30 ∧ 0 ≤ r.last ∧ r.last < P30
/-- 'append(l, x)' onto records of the call's own. -/
theorem own_pushR {B : Nat} {vw : Value} {n : Nat} {xs : List Rec} (h : w.ownsRow B 37 5 vw n (rcells xs)) (hB : B ≤ w.heap.size) (hn : n < 1000000) (x : Rec) :
    ∃ vw' w', (Builtin.append_ #[25, 25] 25 #[vw, .slice (some ⟨w.heap.size, 0, none⟩) 1 1]).run Try.prog (w.alloc (.cells x.cells.toArray 37)) = .ok vw' w' ∧ w'.ownsRow B 37 5 vw' (n + 1) (rcells (xs ++ [x])) ∧
      Ex vw.ownBlock.toList w w' := by
  obtain ⟨ii, hi1, hi2, hi3, hi4⟩ := info_parts infoRec
  have B1 := Blk.new w x.cells.toArray 37
  obtain ⟨v', w', h1, h2, h3, _, h5⟩ := run_append_own_at (P := Try.prog) (w.alloc (.cells x.cells.toArray 37)) B 25 25 37 ii _ 5 40 Try.underlying25 hi1 hi2 hi3 hi4 rfl (by omega)
    vw n _ (h.alloc _) ⟨w.heap.size, 0, none⟩ 1 1 x.cells (by simp [Rec.cells]) (fun q u hu => by rw [Addr.add_mid]; exact B1.range0 q u (by simpa using hu)) (by simp [Rec.cells, Value.oneCell']) (by simp [maxLen]; omega) (by omega) (by rw [World.size_alloc]; omega)
  exact ⟨v', w', h1, by simpa [rcells] using h2, (((Ex.refl [] w).alloc _).mono (by simp)).trans (Ex.of_own h3 (by simp))⟩
abbrev g9 (m : MsgD) (ai : Option Addr) (ni ci : Nat) (os : List Int) (hf ff : Nat → Int) (fa : Nat → Option Addr) (fl fc : Nat → Nat) (fz : Nat → List Int) : MsgD :=
  { g7 m ai ni ci os with heard := hf, firsts := ff, sa := fa, sl := fl, sc := fc, seats := fz }
theorem RecsAt.exl {a : Option Addr} {zs : List Rec} (h : RecsAt w a zs) {l : List Nat} (X : Ex l w w') (hl : ∀ b o, a = some ⟨b, o, none⟩ → b ∉ l) : RecsAt w' a zs := by
  rcases h with h | ⟨b, o, h1, h2, h3⟩
  · exact .inl h
  · exact .inr ⟨b, o, h1, Nat.lt_of_lt_of_le h2 X.size, rangeAt_ex h3 X h2 (hl b o h1)⟩
theorem BytesAt.exl {a : Option Addr} {n : Nat} {xs : List UInt8} (h : BytesAt w a n xs) {l : List Nat} (X : Ex l w w') (hl : ∀ k ∈ l, xs = [] ∨ ∀ o, a ≠ some ⟨k, o, none⟩) : BytesAt w' a n xs := by
  refine ⟨h.1, ?_⟩
  rcases h.2 with h0 | ⟨b, o, h1, h2, h3⟩
  · exact .inl h0
  · by_cases hb : b ∈ l
    · rcases hl b hb with h | h
      · exact .inl h
      · exact absurd h1 (h o)
    · exact .inr ⟨b, o, h1, Nat.lt_of_lt_of_le h2 X.size, rangeAt_ex h3 X h2 hb⟩
theorem NewInts.at {w0 : World} {a : Option Addr} {zs : List Int} (h : NewInts w0 w a zs) : IntsAt w a zs := by
  rcases h with h | ⟨g, h1, h2, h3, h4⟩
  · exact .inl h
  · refine .inr ⟨g, 0, h1, h3, fun j u hu => ?_⟩
    simp only [List.getElem?_map, Option.map_eq_some_iff] at hu
    obtain ⟨x, hx, rfl⟩ := hu
    rw [Nat.zero_add]; exact (h4 j x hx).1
theorem bytes_take {a : Option Addr} {n k : Nat} {xs : List UInt8} (h : BytesAt w a n xs) (hk : k ≤ n) : BytesAt w a k (xs.take k) := by
  refine ⟨by rw [List.length_take, h.1]; omega, ?_⟩
  rcases h.2 with h0 | ⟨b, o, h1, h2, h3⟩
  · exact .inl (by rw [h0]; simp)
  · refine .inr ⟨b, o, h1, h2, fun j u hu => ?_⟩
    rw [List.map_take, List.getElem?_take] at hu
    split at hu
    · exact h3 j u hu
    · cases hu
theorem p30 (x : Int) : 0 ≤ x % P30 ∧ x % P30 < P30 := ⟨Int.emod_nonneg _ (by decide), Int.emod_lt_of_pos _ (by decide)⟩
abbrev g10 (g : MsgD) (la : Option Addr) (i lc : Nat) (rs : List Rec) : MsgD := { g with ra := la, rl := i, rc := lc, stream := rs }
abbrev g11 (g : MsgD) : MsgD := { g with dl := 64, data := g.data.take 64 }
theorem good_fin {m : MsgD} (M : MsgV w m) {w10 wr : World} {ai la : Option Addr} {ni ci i lc : Nat} {os : List Int} {hf ff : Nat → Int} {fa : Nat → Option Addr} {fl fc : Nat → Nat} {fz : Nat → List Int} {rs : List Rec} (hos1 : os.length = ni) (hos2 : InB os) (hos3 : ai = none → ni = 0 ∧ ci = 0) (N : NewInts w10 wr ai os)
    (G : SeatsG w10 wr 4 hf ff fa fl fc fz) (hrl : rs.length = i) (hi : i ≤ 400) (hrg : ∀ r ∈ rs, RecG r) (hR : RecsAt wr la rs) (hRn : la = none → i = 0 ∧ lc = 0) {dl : Nat} {data : List UInt8} (hd : BytesAt wr m.da dl data) (hd64 : dl ≤ 64) :
    MsgV wr { g10 (g9 m ai ni ci os hf ff fa fl fc fz) la i lc rs with dl := dl, data := data } ∧ Good { g10 (g9 m ai ni ci os hf ff fa fl fc fz) la i lc rs with dl := dl, data := data } := by
  have k1 := Int.emod_nonneg m.kind (show (4 : Int) ≠ 0 by omega)
  have k2 := Int.emod_lt_of_pos m.kind (show (0 : Int) < 4 by omega)
  have r0 := Int.emod_nonneg m.stage (show (7 : Int) ≠ 0 by omega)
  have r1 := Int.emod_lt_of_pos m.stage (show (0 : Int) < 7 by omega)
  have r2 := Int.emod_nonneg m.seat (show (5 : Int) ≠ 0 by omega)
  have r3 := Int.emod_lt_of_pos m.seat (show (0 : Int) < 5 by omega)
  have t0 := Int.emod_nonneg m.total (show (16 : Int) ≠ 0 by omega)
  have t1 := Int.emod_lt_of_pos m.total (show (0 : Int) < 16 by omega)
  have i0 := Int.emod_nonneg m.index (show (1 + m.total % 16 : Int) ≠ 0 by omega)
  have i1 := Int.emod_lt_of_pos m.index (show (0 : Int) < 1 + m.total % 16 by omega)
  have hol := hos2.1
  refine ⟨⟨M.bits, N.at, hos1, hos3, by show ni ≤ _; omega, hR, hrl, hRn, by show i ≤ _; omega, fun s hs => (G.n s hs).at, G.l, G.z, fun s hs => ?_, hd, M.dnil⟩, ⟨by show 1 ≤ 1 + m.kind % 4 ∧ 1 + m.kind % 4 ≤ 4; omega, p30 _, p30 _, p30 _, p30 _, p30 _, p30 _, p30 _, p30 _, by show 1 ≤ 1 + m.stage % 7 ∧ 1 + m.stage % 7 ≤ 7; omega, by show -1 ≤ m.seat % 5 - 1 ∧ m.seat % 5 - 1 ≤ 3; omega, by show 1 ≤ 1 + m.total % 16 ∧ 1 + m.total % 16 ≤ 16; omega, by show 0 ≤ m.index % (1 + m.total % 16) ∧ m.index % (1 + m.total % 16) < 1 + m.total % 16; omega, G.h, G.f, hos2, G.b, ⟨by show rs.length ≤ _; omega, hrg⟩, by show data.length ≤ 64; rw [hd.1]; exact hd64⟩⟩
  have h1 := (G.b s hs).1
  have h2 := G.l s hs
  show fl s ≤ _
  omega
def SI (ws : World) (k : Nat) (vl vi : Value) (wr : World) : Prop :=
  ∃ (i : Nat) (rs : List Rec), vi = .int .i64 (i : Int) ∧ i + k = 400 ∧ rs.length = i ∧ (∀ r ∈ rs, RecG r) ∧ wr.ownsRow ws.heap.size 37 5 vl i (rcells rs) ∧ Ex [] ws wr
set_option maxRecDepth 100000 in
set_option maxHeartbeats 6400000 in
theorem good15 {m : MsgD} (M : MsgV w m) (hdc : m.dl ≤ m.dc) : Calls Try.prog 9 #[.agg (msgCells m)] w (GoodR m w) := by
  have X1 : Ex [] w ((w.alloc (.cells (msgCells m) 29)).alloc (.cells (msgCells zmsg) 29)) := ((Ex.refl _ _).alloc _).alloc _
  have B1 := (Blk.new w (msgCells m) 29).alloc (.cells (msgCells zmsg) 29)
  have B2 := Blk.new (w.alloc (.cells (msgCells m) 29)) (msgCells zmsg) 29
  rw [World.size_alloc] at B2
  go_enter Try.func9, Try.ntmps9
  go_wp2_with fail
  generalize (w.alloc (.cells (msgCells m) 29)).alloc (.cells (msgCells zmsg) 29) = w1 at *
  have hlb := B2.lt
  generalize hb1 : w.heap.size = b1 at *
  have hwb : w.heap.size ≤ b1 := by omega
  have S1 : St w b1 m w1 := ⟨B1, X1⟩
  clear B1 X1
  refine (within15 m.kind 4 (by omega) (by omega) _).mono ?_
  rintro z wz ⟨rfl, rfl⟩
  have q0 := Int.emod_nonneg m.kind (show (4 : Int) ≠ 0 by omega)
  have q1 := Int.emod_lt_of_pos m.kind (show (0 : Int) < 4 by omega)
  have f1 := S1.1.froz
  have c1 := S1.1.cell
  go_wp2_with fail
  have S2 : St w b1 (g1 m) _ := S1.set hwb 0 (.int .i64 (1 + m.kind % 4)) (by simp [msgCells])
  have hs2 := S2.2.size
  have B22 : Blk (w1.setCell ⟨b1, 0, none⟩ (.int .i64 (1 + m.kind % 4))) (b1 + 1) (msgCells zmsg) 29 := B2.set_other (by simp) _
  generalize w1.setCell ⟨b1, 0, none⟩ (.int .i64 (1 + m.kind % 4)) = w2 at *
  clear S1 c1 f1 B2
  have hw : (w2.drew.cell? ⟨b1, 1, none⟩ = some (.int .i64 m.epoch) ∧ w2.drew.cell? ⟨b1, 2, none⟩ = some (.int .i64 m.transfer) ∧ w2.drew.cell? ⟨b1, 5, none⟩ = some (.int .i64 m.records) ∧ w2.drew.cell? ⟨b1, 10, none⟩ = some (.int .i64 m.live) ∧ w2.drew.cell? ⟨b1, 11, none⟩ = some (.int .i64 m.first)) := ⟨S2.1.cell 1, S2.1.cell 2, S2.1.cell 5, S2.1.cell 10, S2.1.cell 11⟩
  refine wp_region_ord (fun w' => (w'.cell? ⟨b1, 1, none⟩ = some (.int .i64 m.epoch) ∧ w'.cell? ⟨b1, 2, none⟩ = some (.int .i64 m.transfer) ∧ w'.cell? ⟨b1, 5, none⟩ = some (.int .i64 m.records) ∧ w'.cell? ⟨b1, 10, none⟩ = some (.int .i64 m.live) ∧ w'.cell? ⟨b1, 11, none⟩ = some (.int .i64 m.first))) [16, 17, 18, 19, 20, 21, 22, 23, 24] [(0, true), (1, true), (3, true), (4, true), (6, true), (7, true), (9, true), (10, true), (12, true), (13, true), (2, false), (15, true), (5, false), (8, false), (11, false), (14, false), (16, false), (17, false), (18, false), (19, false), (20, false), (21, false), (22, false), (23, false), (24, false)]
    (by kernel_rfl) (by kernel_rfl) (by kernel_rfl) (by kernel_rfl) rfl (by intro c a d v w h; cases d <;> exact h) hw ?_
  simp only [mkOrd, List.filterMap_cons, List.filterMap_nil, List.getElem?_toArray, List.getElem?_cons_zero, List.getElem?_cons_succ, Option.map_some]
  iterate 10
    refine ord_take (v := ?_) rfl ?_ ?_
    rotate_left
    · intro w' hS
      obtain ⟨s0, s1, s2, s3, s4⟩ := hS
      go_simp
      with_reducible rfl
    go_frame
  refine ord_enter rfl (ex_call (vs := [.int .i64 m.epoch, .int .i64 1073741824]) rfl Try.func11 rfl (by kernel_rfl) rfl) ?_
  refine (within15 m.epoch 1073741824 (by omega) (by omega) _).mono ?_
  rintro e wz ⟨rfl, rfl⟩
  refine ⟨_, rfl, fun _ => hw, ?_⟩
  go_frame
  iterate 1
    refine ord_take (v := ?_) rfl ?_ ?_
    rotate_left
    · intro w' hS
      go_simp
      with_reducible rfl
    go_frame
  refine ord_enter rfl (ex_call (vs := [.int .i64 m.transfer, .int .i64 1073741824]) rfl Try.func11 rfl (by kernel_rfl) rfl) ?_
  refine (within15 m.transfer 1073741824 (by omega) (by omega) _).mono ?_
  rintro e wz ⟨rfl, rfl⟩
  refine ⟨_, rfl, fun _ => hw, ?_⟩
  go_frame
  refine ord_enter rfl (ex_call (vs := [.int .i64 m.records, .int .i64 1073741824]) rfl Try.func11 rfl (by kernel_rfl) rfl) ?_
  refine (within15 m.records 1073741824 (by omega) (by omega) _).mono ?_
  rintro e wz ⟨rfl, rfl⟩
  refine ⟨_, rfl, fun _ => hw, ?_⟩
  go_frame
  refine ord_enter rfl (ex_call (vs := [.int .i64 m.live, .int .i64 1073741824]) rfl Try.func11 rfl (by kernel_rfl) rfl) ?_
  refine (within15 m.live 1073741824 (by omega) (by omega) _).mono ?_
  rintro e wz ⟨rfl, rfl⟩
  refine ⟨_, rfl, fun _ => hw, ?_⟩
  go_frame
  refine ord_enter rfl (ex_call (vs := [.int .i64 m.first, .int .i64 1073741824]) rfl Try.func11 rfl (by kernel_rfl) rfl) ?_
  refine (within15 m.first 1073741824 (by omega) (by omega) _).mono ?_
  rintro e wz ⟨rfl, rfl⟩
  refine ⟨_, rfl, fun _ => hw, ?_⟩
  go_frame
  have S3 := S2.go ((Ex.refl [] w2).drew)
  have B23 := B22.drew
  have f0 := S3.1.froz
  have c0 := S3.1.cell
  generalize w2.drew = w3 at *
  clear S2 B22 hw
  refine ord_skip (w' := ?_) rfl ?_ ?_ ?_
  rotate_left
  · go_simp
    first | with_reducible rfl | (refine ⟨?_, ?_⟩ <;> with_reducible rfl)
  · intro h; simp at h
  go_frame
  refine ord_val (v := ?_) (w' := ?_) rfl ?_ ?_ ?_
  rotate_left
  rotate_left
  · go_simp
    first | with_reducible rfl | (refine ⟨?_, ?_⟩ <;> with_reducible rfl)
  · intro _; exact (by rename_i h; simp at h)
  go_frame
  refine ord_skip (w' := ?_) rfl ?_ ?_ ?_
  rotate_left
  · go_simp
    first | with_reducible rfl | (refine ⟨?_, ?_⟩ <;> with_reducible rfl)
  · intro h; simp at h
  go_frame
  refine ord_val (v := ?_) (w' := ?_) rfl ?_ ?_ ?_
  rotate_left
  rotate_left
  · go_simp
    first | with_reducible rfl | (refine ⟨?_, ?_⟩ <;> with_reducible rfl)
  · intro _; exact (by rename_i h; simp at h)
  go_frame
  refine ord_skip (w' := ?_) rfl ?_ ?_ ?_
  rotate_left
  · go_simp
    first | with_reducible rfl | (refine ⟨?_, ?_⟩ <;> with_reducible rfl)
  · intro h; simp at h
  go_frame
  refine ord_val (v := ?_) (w' := ?_) rfl ?_ ?_ ?_
  rotate_left
  rotate_left
  · go_simp
    first | with_reducible rfl | (refine ⟨?_, ?_⟩ <;> with_reducible rfl)
  · intro _; exact (by rename_i h; simp at h)
  go_frame
  refine ord_skip (w' := ?_) rfl ?_ ?_ ?_
  rotate_left
  · go_simp
    first | with_reducible rfl | (refine ⟨?_, ?_⟩ <;> with_reducible rfl)
  · intro h; simp at h
  go_frame
  refine ord_val (v := ?_) (w' := ?_) rfl ?_ ?_ ?_
  rotate_left
  rotate_left
  · go_simp
    first | with_reducible rfl | (refine ⟨?_, ?_⟩ <;> with_reducible rfl)
  · intro _; exact (by rename_i h; simp at h)
  go_frame
  refine ord_skip (w' := ?_) rfl ?_ ?_ ?_
  rotate_left
  · go_simp
    first | with_reducible rfl | (refine ⟨?_, ?_⟩ <;> with_reducible rfl)
  · intro h; simp at h
  go_frame
  refine ord_nil ?_
  have S4 := S3.sets (g' := g2 m) hwb [(1, .int .i64 (m.epoch % P30)), (2, .int .i64 (m.transfer % P30)), (5, .int .i64 (m.records % P30)), (10, .int .i64 (m.live % P30)), (11, .int .i64 (m.first % P30))] (by simp [msgCells])
  have B24 := blk_other (b := b1) (by omega) [(1, .int .i64 (m.epoch % P30)), (2, .int .i64 (m.transfer % P30)), (5, .int .i64 (m.records % P30)), (10, .int .i64 (m.live % P30)), (11, .int .i64 (m.first % P30))] _ B23
  simp only [List.foldl_cons, List.foldl_nil] at S4 B24
  generalize (((((w3.setCell ⟨b1, 1, none⟩ (.int .i64 (m.epoch % P30))).setCell ⟨b1, 2, none⟩ (.int .i64 (m.transfer % P30))).setCell ⟨b1, 5, none⟩ (.int .i64 (m.records % P30))).setCell ⟨b1, 10, none⟩ (.int .i64 (m.live % P30))).setCell ⟨b1, 11, none⟩ (.int .i64 (m.first % P30))) = w4 at *
  clear S3 B23 f0 c0
  go_wp2_with fail
  have hw : (w4.drew.cell? ⟨b1, 15, none⟩ = some (.int .i64 m.base) ∧ w4.drew.cell? ⟨b1, 16, none⟩ = some (.int .i64 m.frm) ∧ w4.drew.cell? ⟨b1, 26, none⟩ = some (.int .i64 m.ack)) := ⟨S4.1.cell 15, S4.1.cell 16, S4.1.cell 26⟩
  refine wp_region_ord (fun w' => (w'.cell? ⟨b1, 15, none⟩ = some (.int .i64 m.base) ∧ w'.cell? ⟨b1, 16, none⟩ = some (.int .i64 m.frm) ∧ w'.cell? ⟨b1, 26, none⟩ = some (.int .i64 m.ack))) [10, 11, 12, 13, 14] [(0, true), (1, true), (3, true), (4, true), (6, true), (7, true), (2, false), (9, true), (5, false), (8, false), (10, false), (11, false), (12, false), (13, false), (14, false)]
    (by kernel_rfl) (by kernel_rfl) (by kernel_rfl) (by kernel_rfl) rfl (by intro c a d v w h; cases d <;> exact h) hw ?_
  simp only [mkOrd, List.filterMap_cons, List.filterMap_nil, List.getElem?_toArray, List.getElem?_cons_zero, List.getElem?_cons_succ, Option.map_some]
  iterate 6
    refine ord_take (v := ?_) rfl ?_ ?_
    rotate_left
    · intro w' hS
      obtain ⟨s0, s1, s2⟩ := hS
      go_simp
      with_reducible rfl
    go_frame
  refine ord_enter rfl (ex_call (vs := [.int .i64 m.base, .int .i64 1073741824]) rfl Try.func11 rfl (by kernel_rfl) rfl) ?_
  refine (within15 m.base 1073741824 (by omega) (by omega) _).mono ?_
  rintro e wz ⟨rfl, rfl⟩
  refine ⟨_, rfl, fun _ => hw, ?_⟩
  go_frame
  iterate 1
    refine ord_take (v := ?_) rfl ?_ ?_
    rotate_left
    · intro w' hS
      go_simp
      with_reducible rfl
    go_frame
  refine ord_enter rfl (ex_call (vs := [.int .i64 m.frm, .int .i64 1073741824]) rfl Try.func11 rfl (by kernel_rfl) rfl) ?_
  refine (within15 m.frm 1073741824 (by omega) (by omega) _).mono ?_
  rintro e wz ⟨rfl, rfl⟩
  refine ⟨_, rfl, fun _ => hw, ?_⟩
  go_frame
  refine ord_enter rfl (ex_call (vs := [.int .i64 m.ack, .int .i64 1073741824]) rfl Try.func11 rfl (by kernel_rfl) rfl) ?_
  refine (within15 m.ack 1073741824 (by omega) (by omega) _).mono ?_
  rintro e wz ⟨rfl, rfl⟩
  refine ⟨_, rfl, fun _ => hw, ?_⟩
  go_frame
  have S5 := S4.go ((Ex.refl [] w4).drew)
  have B25 := B24.drew
  have f0 := S5.1.froz
  have c0 := S5.1.cell
  generalize w4.drew = w5 at *
  clear S4 B24 hw
  refine ord_skip (w' := ?_) rfl ?_ ?_ ?_
  rotate_left
  · go_simp
    first | with_reducible rfl | (refine ⟨?_, ?_⟩ <;> with_reducible rfl)
  · intro h; simp at h
  go_frame
  refine ord_val (v := ?_) (w' := ?_) rfl ?_ ?_ ?_
  rotate_left
  rotate_left
  · go_simp
    first | with_reducible rfl | (refine ⟨?_, ?_⟩ <;> with_reducible rfl)
  · intro _; exact (by rename_i h; simp at h)
  go_frame
  refine ord_skip (w' := ?_) rfl ?_ ?_ ?_
  rotate_left
  · go_simp
    first | with_reducible rfl | (refine ⟨?_, ?_⟩ <;> with_reducible rfl)
  · intro h; simp at h
  go_frame
  refine ord_val (v := ?_) (w' := ?_) rfl ?_ ?_ ?_
  rotate_left
  rotate_left
  · go_simp
    first | with_reducible rfl | (refine ⟨?_, ?_⟩ <;> with_reducible rfl)
  · intro _; exact (by rename_i h; simp at h)
  go_frame
  refine ord_skip (w' := ?_) rfl ?_ ?_ ?_
  rotate_left
  · go_simp
    first | with_reducible rfl | (refine ⟨?_, ?_⟩ <;> with_reducible rfl)
  · intro h; simp at h
  go_frame
  refine ord_nil ?_
  have S6 := S5.sets (g' := g3 m) hwb [(15, .int .i64 (m.base % P30)), (16, .int .i64 (m.frm % P30)), (26, .int .i64 (m.ack % P30))] (by simp [msgCells])
  have B26 := blk_other (b := b1) (by omega) [(15, .int .i64 (m.base % P30)), (16, .int .i64 (m.frm % P30)), (26, .int .i64 (m.ack % P30))] _ B25
  simp only [List.foldl_cons, List.foldl_nil] at S6 B26
  generalize (((w5.setCell ⟨b1, 15, none⟩ (.int .i64 (m.base % P30))).setCell ⟨b1, 16, none⟩ (.int .i64 (m.frm % P30))).setCell ⟨b1, 26, none⟩ (.int .i64 (m.ack % P30))) = w6 at *
  clear S5 B25 f0 c0
  have r0 := Int.emod_nonneg m.stage (show (7 : Int) ≠ 0 by omega)
  have r1 := Int.emod_lt_of_pos m.stage (show (0 : Int) < 7 by omega)
  have r2 := Int.emod_nonneg m.seat (show (5 : Int) ≠ 0 by omega)
  have r3 := Int.emod_lt_of_pos m.seat (show (0 : Int) < 5 by omega)
  have wr1 : IntKind.i64.wrap (1 + m.stage % 7) = 1 + m.stage % 7 := IntWalk.i64_in _ (by omega)
  have wr2 : IntKind.i64.wrap (m.seat % 5 - 1) = m.seat % 5 - 1 := IntWalk.i64_in _ (by omega)
  have Wr1 := Lib.hid wr1
  have Wr2 := Lib.hid wr2
  clear wr1 wr2
  go_wp2_with fail
  have hw : w6.drew.cell? ⟨b1, 14, none⟩ = some (.int .i64 m.seat) := S6.1.cell 14
  refine wp_region_ord (fun w' => w'.cell? ⟨b1, 14, none⟩ = some (.int .i64 m.seat)) [11] [(0, true), (4, true), (5, true), (1, false), (2, false), (3, true), (8, true), (6, false), (7, true), (9, false), (10, true), (11, false)]
    (by kernel_rfl) (by kernel_rfl) (by kernel_rfl) (by kernel_rfl) rfl (by intro c a d v w h; cases d <;> exact h) hw ?_
  simp only [mkOrd, List.filterMap_cons, List.filterMap_nil, List.getElem?_toArray, List.getElem?_cons_zero, List.getElem?_cons_succ, Option.map_some]
  iterate 3
    refine ord_take (v := ?_) rfl ?_ ?_
    rotate_left
    · intro w' hS
      have s0 := hS
      go_simp
      with_reducible rfl
    go_frame
  have S7 := S6.go ((Ex.refl [] w6).drew)
  have B27 := B26.drew
  have f0 := S7.1.froz
  have c0 := S7.1.cell
  generalize w6.drew = w7 at *
  clear S6 B26
  refine ord_val (v := ?_) (w' := ?_) rfl ?_ ?_ ?_
  rotate_left
  rotate_left
  · go_simp
    first | with_reducible rfl | (refine ⟨?_, ?_⟩ <;> with_reducible rfl)
  · intro _; exact hw
  go_frame
  refine ord_enter rfl (ex_call (vs := [.int .i64 m.stage, .int .i64 7]) rfl Try.func11 rfl (by kernel_rfl) rfl) ?_
  refine (within15 m.stage 7 (by omega) (by omega) _).mono ?_
  rintro e wz ⟨rfl, rfl⟩
  refine ⟨_, rfl, fun _ => hw, ?_⟩
  go_frame
  have wr1 := Wr1.out
  iterate 2
    refine ord_take (v := ?_) rfl ?_ ?_
    rotate_left
    · intro w' hS
      go_simp
      with_reducible rfl
    go_frame
  clear wr1
  refine ord_enter rfl (ex_call (vs := [.int .i64 m.seat, .int .i64 5]) rfl Try.func11 rfl (by kernel_rfl) rfl) ?_
  refine (within15 m.seat 5 (by omega) (by omega) _).mono ?_
  rintro e wz ⟨rfl, rfl⟩
  refine ⟨_, rfl, fun _ => hw, ?_⟩
  go_frame
  have wr2 := Wr2.out
  iterate 1
    refine ord_take (v := ?_) rfl ?_ ?_
    rotate_left
    · intro w' hS
      go_simp
      with_reducible rfl
    go_frame
  clear wr2
  have B13 := S7.1.set 13 (.int .i64 (1 + m.stage % 7))
  have hw13 : (w7.setCell ⟨b1, 13, none⟩ (.int .i64 (1 + m.stage % 7))).cell? ⟨b1, 14, none⟩ = some (.int .i64 m.seat) := B13.cell 14
  refine ord_skip (w' := ?_) rfl ?_ ?_ ?_
  rotate_left
  · go_simp
    first | with_reducible rfl | (refine ⟨?_, ?_⟩ <;> with_reducible rfl)
  · intro h; exact hw13
  go_frame
  clear B13 hw13 hw
  iterate 1
    refine ord_take (v := ?_) rfl ?_ ?_
    rotate_left
    · intro w' hS
      go_simp
      with_reducible rfl
    go_frame
  refine ord_skip (w' := ?_) rfl ?_ ?_ ?_
  rotate_left
  · go_simp
    first | with_reducible rfl | (refine ⟨?_, ?_⟩ <;> with_reducible rfl)
  · intro h; simp at h
  go_frame
  refine ord_nil ?_
  have S8 := S7.sets (g' := g4 m) hwb [(13, .int .i64 (1 + m.stage % 7)), (14, .int .i64 (m.seat % 5 - 1))] (by simp [msgCells])
  have B28 := blk_other (b := b1) (by omega) [(13, .int .i64 (1 + m.stage % 7)), (14, .int .i64 (m.seat % 5 - 1))] _ B27
  simp only [List.foldl_cons, List.foldl_nil] at S8 B28
  generalize ((w7.setCell ⟨b1, 13, none⟩ (.int .i64 (1 + m.stage % 7))).setCell ⟨b1, 14, none⟩ (.int .i64 (m.seat % 5 - 1))) = w8 at *
  clear S7 B27 f0 c0
  have c0 := S8.1.cell
  have f0 := S8.1.froz
  go_wp2_with fail
  refine (within15 m.total 16 (by omega) (by omega) _).mono ?_
  rintro z wz ⟨rfl, rfl⟩
  have t0 := Int.emod_nonneg m.total (show (16 : Int) ≠ 0 by omega)
  have t1 := Int.emod_lt_of_pos m.total (show (0 : Int) < 16 by omega)
  go_wp2_with fail
  have S9 := S8.set (g' := g5 m) hwb 28 (.int .i64 (1 + m.total % 16)) (by simp [msgCells])
  have B29 := B28.set_other (p := ⟨b1, 28, none⟩) (by simp) (.int .i64 (1 + m.total % 16))
  have Xsw9 : Ex [b1] w8 (w8.setCell ⟨b1, 28, none⟩ (.int .i64 (1 + m.total % 16))) := (Ex.refl _ _).setCell (.inl (by simp)) _
  generalize w8.setCell ⟨b1, 28, none⟩ (.int .i64 (1 + m.total % 16)) = w9 at *
  clear S8 B28 c0 f0
  have c0 := S9.1.cell
  have f0 := S9.1.froz
  refine (within15 m.index (1 + m.total % 16) (by omega) (by omega) _).mono ?_
  rintro z wz ⟨rfl, rfl⟩
  have i0 := Int.emod_nonneg m.index (show (1 + m.total % 16 : Int) ≠ 0 by omega)
  have i1 := Int.emod_lt_of_pos m.index (show (0 : Int) < 1 + m.total % 16 by omega)
  go_wp2_with fail
  have S10 := S9.set (g' := g6 m) hwb 27 (.int .i64 (m.index % (1 + m.total % 16))) (by simp [msgCells])
  have B30 := B29.set_other (p := ⟨b1, 27, none⟩) (by simp) (.int .i64 (m.index % (1 + m.total % 16)))
  have Xsw10 : Ex [b1] w9 (w9.setCell ⟨b1, 27, none⟩ (.int .i64 (m.index % (1 + m.total % 16)))) := (Ex.refl _ _).setCell (.inl (by simp)) _
  generalize w9.setCell ⟨b1, 27, none⟩ (.int .i64 (m.index % (1 + m.total % 16))) = w10 at *
  clear S9 B29 c0 f0
  have c0 := S10.1.cell
  have f0 := S10.1.froz
  refine (inputs15 M.il (M.inp.ex S10.2) M.ib).mono ?_
  rintro z w11 ⟨ai, ni, ci, os, rfl, hos1, hos2, N1, hos3, X11⟩
  have S11 := S10.go X11
  have B31 := B30.ex X11 (by simp)
  have hlb10 := B30.lt
  have hx10 := X11.size
  clear S10 B30 c0 f0
  have c0 := S11.1.cell
  have f0 := S11.1.froz
  go_wp2_with fail
  have S12 := S11.set (g' := g7 m ai ni ci os) hwb 12 (.slice ai ni ci) (by simp [msgCells])
  have B32 := B31.set_other (p := ⟨b1, 12, none⟩) (by simp) (.slice ai ni ci)
  have Xsw12 : Ex [b1] w11 (w11.setCell ⟨b1, 12, none⟩ (.slice ai ni ci)) := (Ex.refl _ _).setCell (.inl (by simp)) _
  generalize w11.setCell ⟨b1, 12, none⟩ (.slice ai ni ci) = w12 at *
  clear S11 B31 c0 f0
  have N12 := N1.ex Xsw12 (fun k hk => by simp at hk; omega)
  have hx12 := Xsw12.size
  have P12 : GI w w10 b1 m ai ni ci os 4 (.int .i64 0) w12 := ⟨0, fun _ => 0, fun _ => 0, fun _ => none, fun _ => 0, fun _ => 0, fun _ => [], rfl, rfl, S12, N12, ⟨by simp, by simp, by simp, by simp, by simp, by simp⟩, B32, by omega⟩
  clear S12 N1 N12 B32 Xsw9 Xsw10 Xsw12 X11
  go_loopg [3] 4 (fun k vi wr => GI w w10 b1 m ai ni ci os k vi wr)
  case atStart => exact P12
  case round =>
    clear P12
    obtain ⟨i, hf, ff, fa, fl, fc, fz, rfl, hk, S, N, G, Bz, hsz⟩ := hrel
    by_cases hi : i < 4
    · have hi' : (i : Int) < 4 := by omega
      have hh : wr.cell? ⟨b1, 6 + i, none⟩ = some (.int .i64 (m.heard i)) := by
        rw [S.1.cell]
        match i, hi with
        | 0, _ => rfl
        | 1, _ => rfl
        | 2, _ => rfl
        | 3, _ => rfl
      have hfi : wr.cell? ⟨b1, 18 + i, none⟩ = some (.int .i64 (m.firsts i)) := by
        rw [S.1.cell]
        match i, hi with
        | 0, _ => rfl
        | 1, _ => rfl
        | 2, _ => rfl
        | 3, _ => rfl
      have hsi : wr.cell? ⟨b1, 22 + i, none⟩ = some (.slice (m.sa i) (m.sl i) (m.sc i)) := by
        rw [S.1.cell]
        match i, hi with
        | 0, _ => rfl
        | 1, _ => rfl
        | 2, _ => rfl
        | 3, _ => rfl
      have Hsi := Lib.hid hsi
      have Hh := Lib.hid hh
      have Hfi := Lib.hid hfi
      clear hh hfi hsi
      go_wp2_with fail
      have hw : wr.drew.cell? ⟨b1, 18 + i, none⟩ = some (.int .i64 (m.firsts i)) := Hfi.out
      have hh : wr.drew.cell? ⟨b1, 6 + i, none⟩ = some (.int .i64 (m.heard i)) := Hh.out
      refine wp_region_ord (fun w' => w'.cell? ⟨b1, 18 + i, none⟩ = some (.int .i64 (m.firsts i))) [17] [(0, true), (1, true), (2, true), (3, true), (4, true), (7, true), (8, true), (9, true), (10, true), (12, true), (15, true), (5, false), (6, false), (13, true), (11, false), (14, false), (16, true), (17, false)]
        (by kernel_rfl) (by kernel_rfl) (by kernel_rfl) (by kernel_rfl) rfl (by intro c a d v w h; cases d <;> exact h) hw ?_
      simp only [mkOrd, List.filterMap_cons, List.filterMap_nil, List.getElem?_toArray, List.getElem?_cons_zero, List.getElem?_cons_succ, Option.map_some]
      iterate 11
        refine ord_take (v := ?_) rfl ?_ ?_
        rotate_left
        · intro w' hS
          have s0 := hS
          go_simp
          with_reducible rfl
        go_frame
      refine ord_val (v := ?_) (w' := ?_) rfl ?_ ?_ ?_
      rotate_left
      rotate_left
      · go_simp
        first | with_reducible rfl | (refine ⟨?_, ?_⟩ <;> with_reducible rfl)
      · intro _; exact hw
      go_frame
      refine ord_enter rfl (ex_call (vs := [.int .i64 (m.heard i), .int .i64 1073741824]) rfl Try.func11 rfl (by kernel_rfl) rfl) ?_
      refine (within15 (m.heard i) 1073741824 (by omega) (by omega) _).mono ?_
      rintro e wz ⟨rfl, rfl⟩
      refine ⟨_, rfl, fun _ => hw, ?_⟩
      go_frame
      iterate 1
        refine ord_take (v := ?_) rfl ?_ ?_
        rotate_left
        · intro w' hS
          go_simp
          with_reducible rfl
        go_frame
      refine ord_enter rfl (ex_call (vs := [.int .i64 (m.firsts i), .int .i64 1073741824]) rfl Try.func11 rfl (by kernel_rfl) rfl) ?_
      refine (within15 (m.firsts i) 1073741824 (by omega) (by omega) _).mono ?_
      rintro e wz ⟨rfl, rfl⟩
      refine ⟨_, rfl, fun _ => hw, ?_⟩
      go_frame
      have S2 := S.go ((Ex.refl [] wr).drew)
      have Bz2 := Bz.drew
      have Xd : Ex [] wr wr.drew := (Ex.refl _ _).drew
      have f0 := S2.1.froz
      have hs2 : wr.drew.cell? ⟨b1, 22 + i, none⟩ = some (.slice (m.sa i) (m.sl i) (m.sc i)) := Hsi.out
      have Hs2 := Lib.hid hs2
      generalize hwd : wr.drew = wd at *
      clear hs2
      have e6 : (msgCells (g8 m ai ni ci os i hf ff fa fl fc fz)).setIfInBounds (6 + i) (.int .i64 (m.heard i % 1073741824)) = msgCells (g8 m ai ni ci os i hf ff fa fl fc fz |> fun g => { g with heard := fun s => if s = i then m.heard i % 1073741824 else g.heard s }) := by
        match i, hi with
        | 0, _ => simp [msgCells]
        | 1, _ => simp [msgCells]
        | 2, _ => simp [msgCells]
        | 3, _ => simp [msgCells]
      have S3 := S2.set hwb (6 + i) _ e6
      have Bz3 := Bz2.set_other (p := ⟨b1, 6 + i, none⟩) (by simp) (.int .i64 (m.heard i % 1073741824))
      have X3 : Ex [b1] wd (wd.setCell ⟨b1, 6 + i, none⟩ (.int .i64 (m.heard i % 1073741824))) := (Ex.refl _ _).setCell (.inl (by simp)) _
      have hfi3 : (wd.setCell ⟨b1, 6 + i, none⟩ (.int .i64 (m.heard i % 1073741824))).cell? ⟨b1, 18 + i, none⟩ = some (.int .i64 (m.firsts i)) := by
        rw [World.cell?_setCell_other _ _ _ _ (by simp <;> omega)]; exact hw
      refine ord_skip (w' := ?_) rfl ?_ ?_ ?_
      rotate_left
      · go_simp
        first | with_reducible rfl | (refine ⟨?_, ?_⟩ <;> with_reducible rfl)
      · intro h; exact hfi3
      go_frame
      have f3 := S3.1.froz
      iterate 1
        refine ord_take (v := ?_) rfl ?_ ?_
        rotate_left
        · intro w' hS
          go_simp
          with_reducible rfl
        go_frame
      clear hh f0
      generalize wd.setCell ⟨b1, 6 + i, none⟩ (.int .i64 (m.heard i % 1073741824)) = w3 at *
      refine ord_skip (w' := ?_) rfl ?_ ?_ ?_
      rotate_left
      · go_simp
        first | with_reducible rfl | (refine ⟨?_, ?_⟩ <;> with_reducible rfl)
      · intro h; simp at h
      go_frame
      refine ord_nil ?_
      have e18 : (msgCells (g8 m ai ni ci os i hf ff fa fl fc fz |> fun g => { g with heard := fun s => if s = i then m.heard i % 1073741824 else g.heard s })).setIfInBounds (18 + i) (.int .i64 (m.firsts i % 1073741824)) = msgCells (g8 m ai ni ci os i hf ff fa fl fc fz |> fun g => { g with heard := fun s => if s = i then m.heard i % 1073741824 else g.heard s, firsts := fun s => if s = i then m.firsts i % 1073741824 else g.firsts s }) := by
        match i, hi with
        | 0, _ => simp [msgCells]
        | 1, _ => simp [msgCells]
        | 2, _ => simp [msgCells]
        | 3, _ => simp [msgCells]
      have S4 := S3.set hwb (18 + i) _ e18
      have Bz4 := Bz3.set_other (p := ⟨b1, 18 + i, none⟩) (by simp) (.int .i64 (m.firsts i % 1073741824))
      have X4 : Ex [b1] w3 (w3.setCell ⟨b1, 18 + i, none⟩ (.int .i64 (m.firsts i % 1073741824))) := (Ex.refl _ _).setCell (.inl (by simp)) _
      generalize w3.setCell ⟨b1, 18 + i, none⟩ (.int .i64 (m.firsts i % 1073741824)) = w4 at *
      have hs4 : w4.cell? ⟨b1, 22 + i, none⟩ = some (.slice (m.sa i) (m.sl i) (m.sc i)) := by
        rw [S4.1.cell]
        match i, hi with
        | 0, _ => rfl
        | 1, _ => rfl
        | 2, _ => rfl
        | 3, _ => rfl
      clear f3 hfi3
      go_wp2_with fail
      refine (inputs15 (M.sl i hi) ((M.sts i hi).ex S4.2) (M.sb i hi)).mono ?_
      rintro z w5 ⟨a5, n5, c5, o5, rfl, hol, hob, N5, hon, X5⟩
      have S5 := S4.go X5
      have Bz5 := Bz4.ex X5 (by simp)
      have f5 := S5.1.froz
      have c5' := S5.1.cell
      have hs5 : w5.cell? ⟨b1, 22 + i, none⟩ = some (.slice (m.sa i) (m.sl i) (m.sc i)) := by rw [X5.cell (p := ⟨b1, _, none⟩) S4.1.lt (by simp)]; exact hs4
      clear hs4 c5'
      go_wp2_with fail
      have e22 : (msgCells (g8 m ai ni ci os i hf ff fa fl fc fz |> fun g => { g with heard := fun s => if s = i then m.heard i % 1073741824 else g.heard s, firsts := fun s => if s = i then m.firsts i % 1073741824 else g.firsts s })).setIfInBounds (22 + i) (.slice a5 n5 c5) = msgCells (g8 m ai ni ci os (i + 1) (fun s => if s = i then m.heard i % 1073741824 else hf s) (fun s => if s = i then m.firsts i % 1073741824 else ff s) (fun s => if s = i then a5 else fa s) (fun s => if s = i then n5 else fl s) (fun s => if s = i then c5 else fc s) (fun s => if s = i then o5 else fz s)) := by
        match i, hi with
        | 0, _ => simp [msgCells]
        | 1, _ => simp [msgCells]
        | 2, _ => simp [msgCells]
        | 3, _ => simp [msgCells]
      have S6 := S5.set hwb (22 + i) _ e22
      have Bz6 := Bz5.set_other (p := ⟨b1, 22 + i, none⟩) (by simp) (.slice a5 n5 c5)
      have X6 : Ex [b1] w5 (w5.setCell ⟨b1, 22 + i, none⟩ (.slice a5 n5 c5)) := (Ex.refl _ _).setCell (.inl (by simp)) _
      generalize w5.setCell ⟨b1, 22 + i, none⟩ (.slice a5 n5 c5) = w6' at *
      have hb10 : ∀ k ∈ [b1], k < w10.heap.size := fun k hk => by simp at hk; omega
      have XX : Ex [b1] wr w6' := ((((Xd.mono (by simp)).trans X3).trans X4).trans (X5.mono (by simp))).trans X6
      have hsx := XX.size
      have hz4 : w10.heap.size ≤ w4.heap.size := by have := Xd.size; have := X3.size; have := X4.size; omega
      have G6 := G.ex XX hb10
      have N6 := N.ex XX hb10
      have N56 := (N5.base hz4).ex X6 hb10
      have hh0 := Int.emod_nonneg (m.heard i) (show (1073741824 : Int) ≠ 0 by omega)
      have hh1 := Int.emod_lt_of_pos (m.heard i) (show (0 : Int) < 1073741824 by omega)
      have hg0 := Int.emod_nonneg (m.firsts i) (show (1073741824 : Int) ≠ 0 by omega)
      have hg1 := Int.emod_lt_of_pos (m.firsts i) (show (0 : Int) < 1073741824 by omega)
      clear f5 hs5 S5 Bz5 S4 Bz4 S3 Bz3 S2 Bz2 S Bz
      go_roundg (gk - 1)
      case measure => omega
      case rel =>
        refine ⟨i + 1, _, _, _, _, _, _, by go_num, by omega, S6, N6, ⟨fun s hs => ?_, fun s hs => ?_, fun s hs => ?_, fun s hs => ?_, fun s hs => ?_, fun s hs => ?_⟩, Bz6, by omega⟩
        all_goals by_cases h : s = i
        · subst h; simp only [if_true]; exact ⟨hh0, hh1⟩
        · simp only [if_neg h]; exact G6.h s (by omega)
        · subst h; simp only [if_true]; exact ⟨hg0, hg1⟩
        · simp only [if_neg h]; exact G6.f s (by omega)
        · subst h; simp only [if_true]; exact hol
        · simp only [if_neg h]; exact G6.l s (by omega)
        · subst h; simp only [if_true]; exact hob
        · simp only [if_neg h]; exact G6.b s (by omega)
        · subst h; simp only [if_true]; exact N56
        · simp only [if_neg h]; exact G6.n s (by omega)
        · subst h; simp only [if_true]; exact hon
        · simp only [if_neg h]; exact G6.z s (by omega)
    · obtain rfl : i = 4 := by omega
      have S9 : St w b1 (g9 m ai ni ci os hf ff fa fl fc fz) wr := ⟨by simpa [msgCells] using S.1, S.2⟩
      clear S hk
      generalize hg9 : g9 m ai ni ci os hf ff fa fl fc fz = g at *
      have Hg9 := Lib.hid hg9
      obtain ⟨ws, rfl⟩ : ∃ x, x = wr := ⟨_, rfl⟩
      have N9 : NewInts w10 ws g.ia g.inputs := by rw [← hg9]; exact N
      have G9 : SeatsG w10 ws 4 g.heard g.firsts g.sa g.sl g.sc g.seats := by rw [← hg9]; exact G
      have P9 : SI ws 400 (.slice none 0 0) (.int .i64 0) ws := ⟨0, [], rfl, rfl, rfl, by simp, World.ownsRow_nil _ _ _ _, Ex.refl _ _⟩
      have hra : g.ra = m.ra ∧ g.rl = m.rl ∧ g.rc = m.rc := by rw [← hg9]; exact ⟨rfl, rfl, rfl⟩
      obtain ⟨hra1, hra2, hra3⟩ := hra
      have Hra := Lib.hid (And.intro hra1 (And.intro hra2 hra3))
      clear N G hg9 hra1 hra2 hra3 hi
      go_wp2_with fail
      go_loopg [4, 5] 400 (fun k vl vi wr => SI ws k vl vi wr)
      case atStart => exact P9
      case round =>
        clear P9
        obtain ⟨i, rs, rfl, hk, hrl, hrg, O, XS⟩ := hrel
        have S := S9.go XS
        have hsS := XS.size
        have c17 : wr.cell? ⟨b1, 17, none⟩ = some (.slice m.ra m.rl m.rc) := by
          rw [S.1.cell]; show some (Value.slice g.ra g.rl g.rc) = _; rw [Hra.out.1, Hra.out.2.1, Hra.out.2.2]
        by_cases hin : i < m.rl ∧ i < 400
        · obtain ⟨hin1, hin2⟩ := hin
          have hin3 : (i : Int) < m.rl := by omega
          obtain ⟨r, hr⟩ : ∃ r, m.stream[i]? = some r := ⟨m.stream[i]'(by rw [M.rl]; exact hin1), by simp⟩
          obtain ⟨rb, ro, hre, hrb, hrr⟩ : ∃ rb ro, m.ra = some ⟨rb, ro, none⟩ ∧ rb < w.heap.size ∧ w.rangeAt rb ro (rcells m.stream) := by
            rcases M.str with h | h
            · rw [h] at hr; simp at hr
            · exact h
          rw [hre] at c17
          have hcr : ∀ t, t < 5 → wr.cell? ⟨rb, ro + (i * 5 + t), none⟩ = r.cells[t]? := fun t ht => by
            have h5 : r.cells[t]? = some (r.cells[t]'(by simpa [Rec.cells] using ht)) := List.getElem?_eq_getElem _
            rw [S.2.cell (p := ⟨rb, _, none⟩) hrb (by simp), h5]
            exact hrr (i * 5 + t) _ ((rcells_at m.stream i t r hr ht).trans h5)
          have r0 : wr.cell? ⟨rb, ro + i * 5, none⟩ = some (.int .i64 r.kind) := hcr 0 (by omega)
          have r1 : wr.cell? ⟨rb, ro + i * 5 + 1, none⟩ = some (.int .i64 r.input) := hcr 1 (by omega)
          have r2 : wr.cell? ⟨rb, ro + i * 5 + 2, none⟩ = some (.int .i64 r.seat) := hcr 2 (by omega)
          have r3 : wr.cell? ⟨rb, ro + i * 5 + 3, none⟩ = some (.int .i64 r.frame) := hcr 3 (by omega)
          have r4 : wr.cell? ⟨rb, ro + i * 5 + 4, none⟩ = some (.int .i64 r.last) := hcr 4 (by omega)
          have Hre := Lib.hid hre
          have hin4 : (i : Int) < 400 := by omega
          clear hcr hr hre hrr hin1
          go_wp2_with fail
          have Br := Blk.new wr #[.int .i64 r.kind, .int .i64 r.input, .int .i64 r.seat, .int .i64 r.frame, .int .i64 r.last] 37
          have Xr : Ex [] wr (wr.alloc (.cells #[.int .i64 r.kind, .int .i64 r.input, .int .i64 r.seat, .int .i64 r.frame, .int .i64 r.last] 37)) := (Ex.refl _ _).alloc _
          generalize wr.alloc (.cells #[.int .i64 r.kind, .int .i64 r.input, .int .i64 r.seat, .int .i64 r.frame, .int .i64 r.last] 37) = wq at *
          have hq0 : wq.drew.cell? ⟨wr.heap.size, 0, none⟩ = some (.int .i64 r.kind) := Br.cell 0
          have hq1 : wq.drew.cell? ⟨wr.heap.size, 1, none⟩ = some (.int .i64 r.input) := Br.cell 1
          have hq2 : wq.drew.cell? ⟨wr.heap.size, 2, none⟩ = some (.int .i64 r.seat) := Br.cell 2
          have hq3 : wq.drew.cell? ⟨wr.heap.size, 3, none⟩ = some (.int .i64 r.frame) := Br.cell 3
          have hq4 : wq.drew.cell? ⟨wr.heap.size, 4, none⟩ = some (.int .i64 r.last) := Br.cell 4
          generalize hgr : wr.heap.size = gr at *
          have HS : ∀ w' : World, (∀ j, j < 5 → w'.cell? ⟨gr, j, none⟩ = wq.drew.cell? ⟨gr, j, none⟩) → (w'.cell? ⟨gr, 0, none⟩ = some (.int .i64 r.kind) ∧ w'.cell? ⟨gr, 1, none⟩ = some (.int .i64 r.input) ∧ w'.cell? ⟨gr, 2, none⟩ = some (.int .i64 r.seat) ∧ w'.cell? ⟨gr, 3, none⟩ = some (.int .i64 r.frame) ∧ w'.cell? ⟨gr, 4, none⟩ = some (.int .i64 r.last)) := fun w' h => ⟨(h 0 (by omega)).trans hq0, (h 1 (by omega)).trans hq1, (h 2 (by omega)).trans hq2, (h 3 (by omega)).trans hq3, (h 4 (by omega)).trans hq4⟩
          have hw := HS _ (fun _ _ => rfl)
          have Hgr := Lib.hid hgr
          clear hgr r0 r1 r2 r3 r4 c17
          refine wp_region_ord (fun w' => (w'.cell? ⟨gr, 0, none⟩ = some (.int .i64 r.kind) ∧ w'.cell? ⟨gr, 1, none⟩ = some (.int .i64 r.input) ∧ w'.cell? ⟨gr, 2, none⟩ = some (.int .i64 r.seat) ∧ w'.cell? ⟨gr, 3, none⟩ = some (.int .i64 r.frame) ∧ w'.cell? ⟨gr, 4, none⟩ = some (.int .i64 r.last))) [] [(0, true), (1, true), (2, true), (5, true), (6, true), (8, true), (9, true), (11, true), (12, true), (14, true), (15, true), (3, false), (4, true), (7, false), (10, false), (13, false), (16, false), (17, true), (18, false), (19, false), (20, true)]
            (by kernel_rfl) (by kernel_rfl) (by kernel_rfl) (by kernel_rfl) rfl (by intro c a d v w h; cases d <;> exact h) hw ?_
          simp only [mkOrd, List.filterMap_cons, List.filterMap_nil, List.getElem?_toArray, List.getElem?_cons_zero, List.getElem?_cons_succ, Option.map_some]
          clear hq0 hq1 hq2 hq3 hq4
          iterate 11
            refine ord_take (v := ?_) rfl ?_ ?_
            rotate_left
            · intro w' hS
              obtain ⟨s0, s1, s2, s3, s4⟩ := hS
              go_simp
              with_reducible rfl
            go_frame
          have kk0 := Int.emod_nonneg r.kind (show (3 : Int) ≠ 0 by omega)
          have kk1 := Int.emod_lt_of_pos r.kind (show (0 : Int) < 3 by omega)
          refine ord_enter rfl (ex_call (vs := [.int .i64 r.kind, .int .i64 3]) rfl Try.func11 rfl (by kernel_rfl) rfl) ?_
          refine (within15 r.kind 3 (by omega) (by omega) _).mono ?_
          rintro e wz ⟨rfl, rfl⟩
          refine ⟨_, rfl, fun _ => hw, ?_⟩
          go_frame
          have wr1 : IntKind.i64.wrap (1 + r.kind % 3) = 1 + r.kind % 3 := IntWalk.i64_in _ (by omega)
          iterate 1
            refine ord_take (v := ?_) rfl ?_ ?_
            rotate_left
            · intro w' hS
              go_simp
              with_reducible rfl
            go_frame
          clear wr1
          refine ord_enter rfl (ex_call (vs := [.int .i64 r.input, .int .i64 11]) rfl Try.func11 rfl (by kernel_rfl) rfl) ?_
          refine (within15 r.input 11 (by omega) (by omega) _).mono ?_
          rintro e wz ⟨rfl, rfl⟩
          refine ⟨_, rfl, fun _ => hw, ?_⟩
          go_frame
          refine ord_enter rfl (ex_call (vs := [.int .i64 r.seat, .int .i64 4]) rfl Try.func11 rfl (by kernel_rfl) rfl) ?_
          refine (within15 r.seat 4 (by omega) (by omega) _).mono ?_
          rintro e wz ⟨rfl, rfl⟩
          refine ⟨_, rfl, fun _ => hw, ?_⟩
          go_frame
          refine ord_enter rfl (ex_call (vs := [.int .i64 r.frame, .int .i64 1073741824]) rfl Try.func11 rfl (by kernel_rfl) rfl) ?_
          refine (within15 r.frame 1073741824 (by omega) (by omega) _).mono ?_
          rintro e wz ⟨rfl, rfl⟩
          refine ⟨_, rfl, fun _ => hw, ?_⟩
          go_frame
          refine ord_enter rfl (ex_call (vs := [.int .i64 r.last, .int .i64 1073741824]) rfl Try.func11 rfl (by kernel_rfl) rfl) ?_
          refine (within15 r.last 1073741824 (by omega) (by omega) _).mono ?_
          rintro e wz ⟨rfl, rfl⟩
          refine ⟨_, rfl, fun _ => hw, ?_⟩
          go_frame
          iterate 1
            refine ord_take (v := ?_) rfl ?_ ?_
            rotate_left
            · intro w' hS
              go_simp
              with_reducible rfl
            go_frame
          obtain ⟨rn, hrn⟩ : ∃ rn : Rec, rn = ⟨1 + r.kind % 3, r.input % 11, r.seat % 4, r.frame % 1073741824, r.last % 1073741824⟩ := ⟨_, rfl⟩
          have hRn : RecG rn := by
            have a0 := Int.emod_nonneg r.input (show (11 : Int) ≠ 0 by omega)
            have a1 := Int.emod_lt_of_pos r.input (show (0 : Int) < 11 by omega)
            have a2 := Int.emod_nonneg r.seat (show (4 : Int) ≠ 0 by omega)
            have a3 := Int.emod_lt_of_pos r.seat (show (0 : Int) < 4 by omega)
            have a4 := Int.emod_nonneg r.frame (show (1073741824 : Int) ≠ 0 by omega)
            have a5 := Int.emod_lt_of_pos r.frame (show (0 : Int) < 1073741824 by omega)
            have a6 := Int.emod_nonneg r.last (show (1073741824 : Int) ≠ 0 by omega)
            have a7 := Int.emod_lt_of_pos r.last (show (0 : Int) < 1073741824 by omega)
            rw [hrn]; unfold RecG; simp only [P30]; omega
          have Xqd : Ex [] wr wq.drew := Xr.drew
          have Oq := ownsRow_ex O Xqd (by simp)
          have hsq : ws.heap.size ≤ wq.drew.heap.size := by have := Xqd.size; have := Hgr.out; omega
          obtain ⟨v9, w9', hap, O9, X9⟩ := own_pushR Oq hsq (by omega) rn
          have hrc : rn.cells.toArray = #[.int .i64 (1 + r.kind % 3), .int .i64 (r.input % 11), .int .i64 (r.seat % 4), .int .i64 (r.frame % 1073741824), .int .i64 (r.last % 1073741824)] := by rw [hrn]; rfl
          rw [hrc] at hap
          have Hap := Lib.hid hap
          have hgrq : gr < wq.drew.heap.size := Br.lt
          have hOl := O.lt
          have Xal : Ex [] wq.drew (wq.drew.alloc (.cells #[.int .i64 (1 + r.kind % 3), .int .i64 (r.input % 11), .int .i64 (r.seat % 4), .int .i64 (r.frame % 1073741824), .int .i64 (r.last % 1073741824)] 37)) := (Ex.refl _ _).alloc _
          have hwa := HS _ (fun j _ => Xal.cell (p := ⟨gr, j, none⟩) hgrq (by simp))
          have hw9 := HS _ (fun j _ => X9.cell (p := ⟨gr, j, none⟩) hgrq (fun h => by have := (hOl gr (by simpa using h)).2; have := Hgr.out; omega))
          clear hap
          refine ord_val (v := ?_) (w' := ?_) rfl ?_ ?_ ?_
          rotate_left
          rotate_left
          · go_simp
            first | with_reducible rfl | (refine ⟨?_, ?_⟩ <;> with_reducible rfl)
          · intro _; exact hwa
          go_frame
          refine ord_val rfl (ex_append2 (v1 := u4) (v2 := .slice (some ⟨wq.drew.heap.size, 0, none⟩) 1 1) rfl (by go_simp) (by go_simp) Hap.out) (fun _ => hw9) ?_
          go_frame
          iterate 1
            refine ord_take (v := ?_) rfl ?_ ?_
            rotate_left
            · intro w' hS
              go_simp
              with_reducible rfl
            go_frame
          refine ord_nil ?_
          clear hwa hw9 hw HS Hap hrc
          go_wp2_with fail
          have X09 : Ex u4.ownBlock.toList wr w9' := (Xqd.mono (by simp)).trans X9
          go_roundg (gk - 1)
          case measure => omega
          case rel =>
            refine ⟨i + 1, rs ++ [rn], by go_num, by omega, by rw [List.length_append, hrl]; rfl, fun y hy => ?_, O9, XS.own X09 (fun k hk => .inr (O.lt k (by simpa using hk)).1)⟩
            rcases List.mem_append.1 hy with h | h
            · exact hrg y h
            · rw [List.mem_singleton.1 h]; exact hRn
        · have c29 : wr.cell? ⟨b1, 29, none⟩ = some (.slice m.da m.dl m.dc) := by
            rw [S.1.cell]; show some (Value.slice g.da g.dl g.dc) = _; rw [← Hg9.out]
          have f29 := S.1.froz
          obtain ⟨la, lc, rfl⟩ := own_shape O
          have Bzw := Bz.ex XS (by simp)
          have e17 : (msgCells g).setIfInBounds 17 (.slice la i lc) = msgCells (g10 g la i lc rs) := by simp [msgCells]
          have SA := S.set hwb 17 _ e17
          have BA := Bzw.set_other (p := ⟨b1, 17, none⟩) (by simp) (.slice la i lc)
          have XA : Ex [b1] wr (wr.setCell ⟨b1, 17, none⟩ (.slice la i lc)) := (Ex.refl _ _).setCell (.inl (by simp)) _
          have hga : g.da = m.da ∧ g.dl = m.dl ∧ g.dc = m.dc ∧ g.data = m.data := by rw [← Hg9.out]; exact ⟨rfl, rfl, rfl, rfl⟩
          have Hga := Lib.hid hga
          clear hga
          by_cases h64 : (m.dl : Int) ≤ 64
          · by_cases hja : (i : Int) < m.rl
            · have hjb : ¬ (i : Int) < 400 := by omega
              clear hin
              obtain ⟨hst, B30, X30⟩ := row_store (P := Try.prog) (ty := 29) (cs := msgCells (g10 g la i lc rs)) BA (by kernel_rfl) rfl (by simp [msgCells, Value.oneCell'])
              obtain ⟨cs, hcs⟩ : ∃ cs, msgCells (g10 g la i lc rs) = cs := ⟨_, rfl⟩
              have hszM : (Try.prog.info? 29).map (·.size) = some cs.size := by rw [← hcs]; kernel_rfl
              have Hcs := Lib.hid hcs
              have BL := SA.1
              rw [hcs] at BL hst B30 X30
              generalize (wr.setCell ⟨b1, 17, none⟩ (.slice la i lc)).setRow (b1 + 1) cs = w99 at *
              clear hcs
              go_wp2_with (first | (refine G_val (o := ⟨some 143, _, _, _, _, _⟩) rfl (exec_load rfl rfl (row_load BL Try.underlying29 rfl hszM)) ?_) | (refine G_skip (o := ⟨none, Op.store 29 _ _, _, _, _, _⟩) rfl (ex_store rfl rfl rfl hst) ?_))
              refine bodyPost_ret (v := .agg cs) (results_cell rfl _ _ _ _ _ _ rfl B30 Try.underlying29 rfl hszM) rfl ?_
              have XF : Ex [] w w99 := SA.2.own X30 (fun k hk => by simp at hk; exact .inr (by omega))
              have XSF : Ex [b1, b1 + 1] wr w99 := (XA.mono (by simp)).trans (X30.mono (by simp))
              have hbb : ∀ k ∈ [b1, b1 + 1], k < w10.heap.size := fun k hk => by simp at hk; rcases hk with rfl | rfl <;> omega
              have hbo : ∀ k, (Value.slice la i lc).ownBlock = some k → k ∉ [b1, b1 + 1] := fun k hk hm => by
                have h1 := (O.lt k hk).1
                have h2 := hbb k hm
                omega
              have O99 := ownsRow_ex O XSF hbo
              have hR : RecsAt w99 la rs := by
                rcases own_at O99 (by rw [rcells_length, hrl]) with h | ⟨q, h4, h5, h6, h7⟩
                · left
                  have := rcells_length rs
                  rw [h] at this
                  exact List.eq_nil_of_length_eq_zero (by simp at this; omega)
                · exact .inr ⟨q, 0, h4, h6, fun j u hu => by rw [Nat.zero_add]; exact (h7 j u hu).1⟩
              have NN := (N9.ex XS (by simp)).ex XSF hbb
              have GG := (G9.ex XS (by simp)).ex XSF hbb
              obtain rfl := Hg9.out
              have F := good_fin M hos1 hos2 hos3 NN GG hrl (by omega) hrg hR (own_nil O99) (M.dat.ex XF (by simp)) (by omega)
              refine ⟨_, by rw [← Hcs.out], fun l wz Xz hl => ?_, F.2, XF⟩
              have hlw : ∀ k ∈ l, k < w10.heap.size := fun k hk => by have := (hl k hk).1; omega
              have hRz := hR.exl Xz (fun b o h hm => by
                have h1 := (O99.lt b (by rw [h]; rfl)).1
                have h2 := hlw b hm
                omega)
              have DZ := BytesAt.exl (M.dat.ex XF (by simp)) Xz (fun k hk => (hl k hk).2)
              exact (good_fin M hos1 hos2 hos3 (NN.ex Xz hlw) (GG.ex Xz hlw) hrl (by omega) hrg hRz (own_nil O99) DZ (by omega)).1
            · clear hin
              obtain ⟨hst, B30, X30⟩ := row_store (P := Try.prog) (ty := 29) (cs := msgCells (g10 g la i lc rs)) BA (by kernel_rfl) rfl (by simp [msgCells, Value.oneCell'])
              obtain ⟨cs, hcs⟩ : ∃ cs, msgCells (g10 g la i lc rs) = cs := ⟨_, rfl⟩
              have hszM : (Try.prog.info? 29).map (·.size) = some cs.size := by rw [← hcs]; kernel_rfl
              have Hcs := Lib.hid hcs
              have BL := SA.1
              rw [hcs] at BL hst B30 X30
              generalize (wr.setCell ⟨b1, 17, none⟩ (.slice la i lc)).setRow (b1 + 1) cs = w99 at *
              clear hcs
              go_wp2_with (first | (refine G_val (o := ⟨some 143, _, _, _, _, _⟩) rfl (exec_load rfl rfl (row_load BL Try.underlying29 rfl hszM)) ?_) | (refine G_skip (o := ⟨none, Op.store 29 _ _, _, _, _, _⟩) rfl (ex_store rfl rfl rfl hst) ?_))
              refine bodyPost_ret (v := .agg cs) (results_cell rfl _ _ _ _ _ _ rfl B30 Try.underlying29 rfl hszM) rfl ?_
              have XF : Ex [] w w99 := SA.2.own X30 (fun k hk => by simp at hk; exact .inr (by omega))
              have XSF : Ex [b1, b1 + 1] wr w99 := (XA.mono (by simp)).trans (X30.mono (by simp))
              have hbb : ∀ k ∈ [b1, b1 + 1], k < w10.heap.size := fun k hk => by simp at hk; rcases hk with rfl | rfl <;> omega
              have hbo : ∀ k, (Value.slice la i lc).ownBlock = some k → k ∉ [b1, b1 + 1] := fun k hk hm => by
                have h1 := (O.lt k hk).1
                have h2 := hbb k hm
                omega
              have O99 := ownsRow_ex O XSF hbo
              have hR : RecsAt w99 la rs := by
                rcases own_at O99 (by rw [rcells_length, hrl]) with h | ⟨q, h4, h5, h6, h7⟩
                · left
                  have := rcells_length rs
                  rw [h] at this
                  exact List.eq_nil_of_length_eq_zero (by simp at this; omega)
                · exact .inr ⟨q, 0, h4, h6, fun j u hu => by rw [Nat.zero_add]; exact (h7 j u hu).1⟩
              have NN := (N9.ex XS (by simp)).ex XSF hbb
              have GG := (G9.ex XS (by simp)).ex XSF hbb
              obtain rfl := Hg9.out
              have F := good_fin M hos1 hos2 hos3 NN GG hrl (by omega) hrg hR (own_nil O99) (M.dat.ex XF (by simp)) (by omega)
              refine ⟨_, by rw [← Hcs.out], fun l wz Xz hl => ?_, F.2, XF⟩
              have hlw : ∀ k ∈ l, k < w10.heap.size := fun k hk => by have := (hl k hk).1; omega
              have hRz := hR.exl Xz (fun b o h hm => by
                have h1 := (O99.lt b (by rw [h]; rfl)).1
                have h2 := hlw b hm
                omega)
              have DZ := BytesAt.exl (M.dat.ex XF (by simp)) Xz (fun k hk => (hl k hk).2)
              exact (good_fin M hos1 hos2 hos3 (NN.ex Xz hlw) (GG.ex Xz hlw) hrl (by omega) hrg hRz (own_nil O99) DZ (by omega)).1
          · have h64' : (64 : Int) < m.dl := by omega
            have hc64 : 64 ≤ m.dc := by omega
            have e29 : (msgCells (g10 g la i lc rs)).setIfInBounds 29 (.slice m.da 64 m.dc) = msgCells (g11 (g10 g la i lc rs)) := by
              simp only [msgCells, ← Hga.out.1, ← Hga.out.2.2.1]; simp
            have SB := SA.set hwb 29 _ e29
            have BB := BA.set_other (p := ⟨b1, 29, none⟩) (by simp) (.slice m.da 64 m.dc)
            have XB : Ex [b1] wr ((wr.setCell ⟨b1, 17, none⟩ (.slice la i lc)).setCell ⟨b1, 29, none⟩ (.slice m.da 64 m.dc)) := XA.setCell (.inl (by simp)) _
            by_cases hja : (i : Int) < m.rl
            · have hjb : ¬ (i : Int) < 400 := by omega
              clear hin
              obtain ⟨hst, B30, X30⟩ := row_store (P := Try.prog) (ty := 29) (cs := msgCells (g11 (g10 g la i lc rs))) BB (by kernel_rfl) rfl (by simp [msgCells, Value.oneCell'])
              obtain ⟨cs, hcs⟩ : ∃ cs, msgCells (g11 (g10 g la i lc rs)) = cs := ⟨_, rfl⟩
              have hszM : (Try.prog.info? 29).map (·.size) = some cs.size := by rw [← hcs]; kernel_rfl
              have Hcs := Lib.hid hcs
              have BL := SB.1
              rw [hcs] at BL hst B30 X30
              generalize ((wr.setCell ⟨b1, 17, none⟩ (.slice la i lc)).setCell ⟨b1, 29, none⟩ (.slice m.da 64 m.dc)).setRow (b1 + 1) cs = w99 at *
              clear hcs
              go_wp2_with (first | (refine G_val (o := ⟨some 143, _, _, _, _, _⟩) rfl (exec_load rfl rfl (row_load BL Try.underlying29 rfl hszM)) ?_) | (refine G_skip (o := ⟨none, Op.store 29 _ _, _, _, _, _⟩) rfl (ex_store rfl rfl rfl hst) ?_))
              refine bodyPost_ret (v := .agg cs) (results_cell rfl _ _ _ _ _ _ rfl B30 Try.underlying29 rfl hszM) rfl ?_
              have XF : Ex [] w w99 := SB.2.own X30 (fun k hk => by simp at hk; exact .inr (by omega))
              have XSF : Ex [b1, b1 + 1] wr w99 := (XB.mono (by simp)).trans (X30.mono (by simp))
              have hbb : ∀ k ∈ [b1, b1 + 1], k < w10.heap.size := fun k hk => by simp at hk; rcases hk with rfl | rfl <;> omega
              have hbo : ∀ k, (Value.slice la i lc).ownBlock = some k → k ∉ [b1, b1 + 1] := fun k hk hm => by
                have h1 := (O.lt k hk).1
                have h2 := hbb k hm
                omega
              have O99 := ownsRow_ex O XSF hbo
              have hR : RecsAt w99 la rs := by
                rcases own_at O99 (by rw [rcells_length, hrl]) with h | ⟨q, h4, h5, h6, h7⟩
                · left
                  have := rcells_length rs
                  rw [h] at this
                  exact List.eq_nil_of_length_eq_zero (by simp at this; omega)
                · exact .inr ⟨q, 0, h4, h6, fun j u hu => by rw [Nat.zero_add]; exact (h7 j u hu).1⟩
              have NN := (N9.ex XS (by simp)).ex XSF hbb
              have GG := (G9.ex XS (by simp)).ex XSF hbb
              obtain rfl := Hg9.out
              have F := good_fin M hos1 hos2 hos3 NN GG hrl (by omega) hrg hR (own_nil O99) (bytes_take (M.dat.ex XF (by simp)) (k := 64) (by omega)) (by omega)
              refine ⟨_, by rw [← Hcs.out], fun l wz Xz hl => ?_, F.2, XF⟩
              have hlw : ∀ k ∈ l, k < w10.heap.size := fun k hk => by have := (hl k hk).1; omega
              have hRz := hR.exl Xz (fun b o h hm => by
                have h1 := (O99.lt b (by rw [h]; rfl)).1
                have h2 := hlw b hm
                omega)
              have DZ := BytesAt.exl (bytes_take (M.dat.ex XF (by simp)) (k := 64) (by omega)) Xz (fun k hk => (hl k hk).2.imp (fun h => by rw [h]; simp) id)
              exact (good_fin M hos1 hos2 hos3 (NN.ex Xz hlw) (GG.ex Xz hlw) hrl (by omega) hrg hRz (own_nil O99) DZ (by omega)).1
            · clear hin
              obtain ⟨hst, B30, X30⟩ := row_store (P := Try.prog) (ty := 29) (cs := msgCells (g11 (g10 g la i lc rs))) BB (by kernel_rfl) rfl (by simp [msgCells, Value.oneCell'])
              obtain ⟨cs, hcs⟩ : ∃ cs, msgCells (g11 (g10 g la i lc rs)) = cs := ⟨_, rfl⟩
              have hszM : (Try.prog.info? 29).map (·.size) = some cs.size := by rw [← hcs]; kernel_rfl
              have Hcs := Lib.hid hcs
              have BL := SB.1
              rw [hcs] at BL hst B30 X30
              generalize ((wr.setCell ⟨b1, 17, none⟩ (.slice la i lc)).setCell ⟨b1, 29, none⟩ (.slice m.da 64 m.dc)).setRow (b1 + 1) cs = w99 at *
              clear hcs
              go_wp2_with (first | (refine G_val (o := ⟨some 143, _, _, _, _, _⟩) rfl (exec_load rfl rfl (row_load BL Try.underlying29 rfl hszM)) ?_) | (refine G_skip (o := ⟨none, Op.store 29 _ _, _, _, _, _⟩) rfl (ex_store rfl rfl rfl hst) ?_))
              refine bodyPost_ret (v := .agg cs) (results_cell rfl _ _ _ _ _ _ rfl B30 Try.underlying29 rfl hszM) rfl ?_
              have XF : Ex [] w w99 := SB.2.own X30 (fun k hk => by simp at hk; exact .inr (by omega))
              have XSF : Ex [b1, b1 + 1] wr w99 := (XB.mono (by simp)).trans (X30.mono (by simp))
              have hbb : ∀ k ∈ [b1, b1 + 1], k < w10.heap.size := fun k hk => by simp at hk; rcases hk with rfl | rfl <;> omega
              have hbo : ∀ k, (Value.slice la i lc).ownBlock = some k → k ∉ [b1, b1 + 1] := fun k hk hm => by
                have h1 := (O.lt k hk).1
                have h2 := hbb k hm
                omega
              have O99 := ownsRow_ex O XSF hbo
              have hR : RecsAt w99 la rs := by
                rcases own_at O99 (by rw [rcells_length, hrl]) with h | ⟨q, h4, h5, h6, h7⟩
                · left
                  have := rcells_length rs
                  rw [h] at this
                  exact List.eq_nil_of_length_eq_zero (by simp at this; omega)
                · exact .inr ⟨q, 0, h4, h6, fun j u hu => by rw [Nat.zero_add]; exact (h7 j u hu).1⟩
              have NN := (N9.ex XS (by simp)).ex XSF hbb
              have GG := (G9.ex XS (by simp)).ex XSF hbb
              obtain rfl := Hg9.out
              have F := good_fin M hos1 hos2 hos3 NN GG hrl (by omega) hrg hR (own_nil O99) (bytes_take (M.dat.ex XF (by simp)) (k := 64) (by omega)) (by omega)
              refine ⟨_, by rw [← Hcs.out], fun l wz Xz hl => ?_, F.2, XF⟩
              have hlw : ∀ k ∈ l, k < w10.heap.size := fun k hk => by have := (hl k hk).1; omega
              have hRz := hR.exl Xz (fun b o h hm => by
                have h1 := (O99.lt b (by rw [h]; rfl)).1
                have h2 := hlw b hm
                omega)
              have DZ := BytesAt.exl (bytes_take (M.dat.ex XF (by simp)) (k := 64) (by omega)) Xz (fun k hk => (hl k hk).2.imp (fun h => by rw [h]; simp) id)
              exact (good_fin M hos1 hos2 hos3 (NN.ex Xz hlw) (GG.ex Xz hlw) hrl (by omega) hrg hRz (own_nil O99) DZ (by omega)).1
end
end Go.Proofs.Ytphmdhbhoakcaaa
