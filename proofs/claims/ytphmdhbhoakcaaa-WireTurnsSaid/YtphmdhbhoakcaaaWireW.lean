/- The writer of package wire: what each call does to it. -/
import Derived.Test.YtphmdhbhoakcaaaKit2
import Derived.Test.YtphmdhbhoakcaaaRows
namespace Go.Proofs.Ytphmdhbhoakcaaa
open Go.RowKit Go.Ad Go.Maps
theorem infoU8 : (Try.prog.info? 5).map (fun i => (i.zero, i.size, i.bytes)) = some (some (.int .u8 0), 1, 1) := by kernel_rfl
/-- A writer: its bytes are a row of the call's own. -/
structure WrAt (w : World) (B wb : Nat) (av : List Nat) (v : Value) (ys : List UInt8) (e : Int) : Prop where
  blk : Blk w wb #[v, .int .i64 e, .int .i64 1] 56
  bas : B ≤ wb
  bav : wb ∉ av
  vav : ∀ k, v.ownBlock = some k → k ∉ av ∧ k ≠ wb
  own : w.ownsRow B 5 1 v ys.length (ys.map bv)
  len : ys.length ≤ 1000000
section
variable {w w' : World} {B wb : Nat} {av : List Nat} {v : Value} {ys : List UInt8} {e : Int}
theorem WrAt.err (D : WrAt w B wb av v ys e) (c : Int) : WrAt (w.setCell ⟨wb, 1, none⟩ (.int .i64 c)) B wb av v ys c ∧ Ex [wb] w (w.setCell ⟨wb, 1, none⟩ (.int .i64 c)) := by
  have X : Ex [wb] w (w.setCell ⟨wb, 1, none⟩ (.int .i64 c)) := (Ex.refl _ _).setCell (.inl (by simp)) _
  exact ⟨⟨D.blk.set 1 _, D.bas, D.bav, D.vav, ownsRow_ex D.own X (fun k hk => by simpa using (D.vav k hk).2), D.len⟩, X⟩
/-- A note of an error: what it becomes. -/
def noted (is : Bool) (e c : Int) : Int := if is = false ∧ e = 0 then c else e
theorem must_any (is : Bool) (c : Int) (D : WrAt w B wb av v ys e) : Calls Try.prog 26 #[ptr wb, .bool is, .int .i64 c] w fun x w' => x = .returned (.tuple #[]) ∧ WrAt w' B wb av v ys (noted is e c) ∧ Ex [wb] w w' := by
  have hc := D.blk.cell
  have hf := D.blk.froz
  cases is
  · by_cases h : e = 0
    · subst h
      go_enter Try.func26, Try.ntmps26
      go_wp2
      go_end0
      exact ⟨rfl, D.err c⟩
    · have h' : (e == 0) = false := by simpa using h
      go_enter Try.func26, Try.ntmps26
      go_wp2
      go_end0
      exact ⟨rfl, by simpa [noted, h] using D, Ex.refl _ _⟩
  · skip
    go_enter Try.func26, Try.ntmps26
    go_wp2
    go_end0
    exact ⟨rfl, by simpa [noted] using D, Ex.refl _ _⟩
theorem failed_any (D : WrAt w B wb av v ys e) : Calls Try.prog 21 #[ptr wb] w fun x w' => x = .returned (.bool (e != 0)) ∧ w = w' := by
  have hc := D.blk.cell
  go_enter Try.func21, Try.ntmps21
  go_wp2
  go_ret
  exact ⟨rfl, rfl⟩
/-- Is a number within bounds? -/
def inB (n f t : Int) : Bool := decide (f ≤ n ∧ n ≤ t)
theorem within_any (n f t : Int) (D : WrAt w B wb av v ys e) : Calls Try.prog 69 #[ptr wb, .int .i64 n, .int .i64 f, .int .i64 t] w fun x w' => x = .returned (.tuple #[]) ∧ WrAt w' B wb av v ys (noted (inB n f t) e 1) ∧ Ex [wb] w w' := by
  have hc := D.blk.cell
  by_cases h1 : f ≤ n
  · by_cases h2 : n ≤ t
    · have hb : inB n f t = true := by simp [inB, h1, h2]
      rw [hb]
      clear hb
      go_enter Try.func69, Try.ntmps69
      go_wp2_with fail
      with_reducible refine (must_any true 1 D).mono ?_
      rintro x w' ⟨rfl, h3⟩
      go_wp2_with fail
      go_end0
      exact ⟨rfl, h3⟩
    · have hb : inB n f t = false := by simp [inB, h2]
      rw [hb]
      clear hb
      go_enter Try.func69, Try.ntmps69
      go_wp2_with fail
      with_reducible refine (must_any false 1 D).mono ?_
      rintro x w' ⟨rfl, h3⟩
      go_wp2_with fail
      go_end0
      exact ⟨rfl, h3⟩
  · have hb : inB n f t = false := by simp [inB, h1]
    rw [hb]
    clear hb
    go_enter Try.func69, Try.ntmps69
    go_wp2_with fail
    with_reducible refine (must_any false 1 D).mono ?_
    rintro x w' ⟨rfl, h3⟩
    go_wp2_with fail
    go_end0
    exact ⟨rfl, h3⟩
/-- A row's block: the old one, or a new one. -/
def Gr (w : World) (v v' : Value) : Prop := v'.ownBlock = v.ownBlock ∨ ∃ y, v'.ownBlock = some y ∧ w.heap.size ≤ y
theorem Gr.refl (w : World) (v : Value) : Gr w v v := .inl rfl
theorem Gr.grow {w1 : World} {v v1 v2 : Value} (h : Gr w v v1) (k : Gr w1 v1 v2) (hs : w.heap.size ≤ w1.heap.size) : Gr w v v2 := by
  rcases k with k | ⟨y, k, hy⟩
  · rcases h with h | ⟨y, h, hy⟩
    · exact .inl (k.trans h)
    · exact .inr ⟨y, k.trans h, hy⟩
  · exact .inr ⟨y, k, Nat.le_trans hs hy⟩
theorem Gr.ex {w1 w2 : World} {v v1 : Value} {wb : Nat} (h : Gr w v v1) (X : Ex (wb :: v.ownBlock.toList) w w1) (Y : Ex (wb :: v1.ownBlock.toList) w1 w2) : Ex (wb :: v.ownBlock.toList) w w2 := X.own Y (fun i hi => by
  rcases List.mem_cons.1 hi with rfl | hi
  · exact .inl (by simp)
  · rcases h with h | ⟨y, h, hy⟩
    · exact .inl (List.mem_cons_of_mem _ (by rw [← h]; exact hi))
    · rw [h] at hi
      simp at hi
      exact .inr (by omega))
/-- Bytes are put behind, and the new row is kept. -/
theorem WrAt.app (D : WrAt w B wb av v ys e) (hB : B ≤ w.heap.size) (hav : ∀ k ∈ av, k < w.heap.size) {w0 : World} (X0 : Ex [] w w0) {a : Option Addr} {len cap : Nat} {xs : List UInt8} (hx : BytesAt w0 a len xs) (hcap : a = none → cap = 0) (hl : ys.length + len ≤ 1000000) :
    ∃ v' w', (Builtin.append_ #[27, 27] 27 #[v, .slice a len cap]).run Try.prog w0 = .ok v' w' ∧ WrAt (w'.setCell ⟨wb, 0, none⟩ v') B wb av v' (ys ++ xs) e ∧ Ex (wb :: v.ownBlock.toList) w (w'.setCell ⟨wb, 0, none⟩ v') ∧
      Gr w v v' ∧ Blk w' wb #[v, .int .i64 e, .int .i64 1] 56 ∧ Ex v.ownBlock.toList w w' := by
  have hs := X0.size
  have hwl := D.blk.lt
  have O0 := ownsRow_ex D.own X0 (by simp)
  obtain ⟨v', w', h1, h2, h3, h4⟩ := append_bytes (P := Try.prog) (ty := 27) Try.underlying27 infoU8 O0 hx hcap (by omega) (by omega)
  have X1 : Ex v.ownBlock.toList w0 w' := Ex.of_own h3 (fun k hk => by simp [hk])
  have X2 : Ex v.ownBlock.toList w w' := (X0.mono (by simp)).trans X1
  have hnw : wb ∉ v.ownBlock.toList := fun h => (D.vav wb (by simpa using h)).2 rfl
  have B2 := D.blk.ex X2 hnw
  have L : Gr w v v' := by
    rcases h4 with h4 | h4
    · exact .inl h4
    · exact .inr ⟨_, h4, hs⟩
  have hv' : ∀ k, v'.ownBlock = some k → k ∉ av ∧ k ≠ wb := fun k hk => by
    rcases L with h | ⟨y, h, hy⟩
    · rw [h] at hk; exact D.vav k hk
    · rw [h] at hk; cases hk
      exact ⟨fun hm => by have := hav _ hm; omega, by omega⟩
  have X3 : Ex [wb] w' (w'.setCell ⟨wb, 0, none⟩ v') := (Ex.refl _ _).setCell (.inl (by simp)) _
  have hlen : (ys ++ xs).length = ys.length + len := by rw [List.length_append, hx.1]
  refine ⟨v', w', h1, ⟨B2.set 0 _, D.bas, D.bav, hv', ?_, by omega⟩, ?_, L, B2, X2⟩
  · rw [hlen]; exact ownsRow_ex h2 X3 (fun k hk => by simpa using (hv' k hk).2)
  · exact (X2.mono (fun k hk => List.mem_cons_of_mem _ hk)).trans (X3.mono (by simp))
theorem bvq (x d : Nat) : Value.int .u8 (IntKind.u8.wrap ((x : Int) / (d : Int))) = bv (UInt8.ofNat (x / d)) := by
  rw [IntKind.wrap_u8]
  simp [bv, UInt8.toNat_ofNat']
theorem bvq1 (x : Nat) : Value.int .u8 (IntKind.u8.wrap (x : Int)) = bv (UInt8.ofNat x) := by
  rw [IntKind.wrap_u8]
  simp [bv, UInt8.toNat_ofNat']
/-- The highest byte first. -/
def be (n : Nat) (x : Nat) : List UInt8 := (List.range n).map fun k => UInt8.ofNat (x / 256 ^ (n - 1 - k))
def RawI (w : World) (B wb : Nat) (av : List Nat) (v : Value) (ys : List UInt8) (e : Int) (n x : Nat) (k : Nat) (vi : Value) (wr : World) : Prop :=
  ∃ v', vi = .int .i64 ((k : Int) - 1) ∧ k ≤ n ∧ WrAt wr B wb av v' (ys ++ (be n x).take (n - k)) e ∧ Ex (wb :: v.ownBlock.toList) w wr ∧ Gr w v v'
theorem be_take (n x k : Nat) (hk : k ≤ n) (h0 : 0 < k) : (be n x).take (n - (k - 1)) = (be n x).take (n - k) ++ [UInt8.ofNat (x / 256 ^ (k - 1))] := by
  have e : n - (k - 1) = (n - k) + 1 := by omega
  rw [e, List.take_add_one]
  congr 1
  rw [be, List.getElem?_map, List.getElem?_range (by omega)]
  simp only [Option.map_some, Option.toList_some]
  congr 4
  omega
theorem be_length (n x : Nat) : (be n x).length = n := by simp [be]
set_option maxRecDepth 100000 in
set_option maxHeartbeats 1600000 in
theorem raw_w {n x : Nat} {pb po : Nat} (D : WrAt w B wb av v ys e) (hB : B ≤ w.heap.size) (hav : ∀ k ∈ av, k < w.heap.size) (hn : n ≤ 4) (hl : ys.length + n ≤ 1000000) (hp : w.cell? ⟨pb, po, none⟩ = some (.int .u64 (x : Int))) (hpa : pb ∈ av) (_hx : x < 2 ^ 64) :
    Calls Try.prog 68 #[ptr wb, .int .i64 (n : Int), ptrAt pb po] w fun z w' => ∃ v', z = .returned (.tuple #[]) ∧ WrAt w' B wb av v' (ys ++ be n x) e ∧ Ex (wb :: v.ownBlock.toList) w w' ∧ Gr w v v' := by
  go_enter Try.func68, Try.ntmps68
  go_wp2_with fail
  go_loopg [6] n (fun k vi wr => RawI w B wb av v ys e n x k vi wr)
  case atStart => exact ⟨v, by go_num, Nat.le_refl _, by simpa using D, Ex.refl _ _, .inl rfl⟩
  case round =>
    obtain ⟨v', rfl, hk, D2, X2, L2⟩ := hrel
    by_cases hk0 : gk = 0
    · subst hk0
      go_wp2_with fail
      go_end0
      exact ⟨v', rfl, by rw [Nat.sub_zero, List.take_of_length_le (by simp [be_length])] at D2; exact D2, X2, L2⟩
    · have hge : (0 : Int) ≤ (gk : Int) - 1 := by omega
      have hbl := D2.len
      have c0 := D2.blk.cell
      have f0 := D2.blk.froz
      have hps := hav _ hpa
      have hp2 : wr.cell? ⟨pb, po, none⟩ = some (.int .u64 (x : Int)) := by
        rw [X2.cell (p := ⟨pb, po, none⟩) hps (by simp only [List.mem_cons, Option.mem_toList, not_or]; exact ⟨fun h => D.bav (by rw [← h]; exact hpa), fun h => (D.vav _ h).1 hpa⟩)]; exact hp
      have hw : (wr.drew.cell? ⟨wb, 0, none⟩ = some v' ∧ wr.drew.cell? ⟨pb, po, none⟩ = some (.int .u64 (x : Int))) := ⟨c0 0, hp2⟩
      go_wp2_with fail
      refine wp_region_ord (fun w' => w'.cell? ⟨wb, 0, none⟩ = some v' ∧ w'.cell? ⟨pb, po, none⟩ = some (.int .u64 (x : Int))) [18] [(0, true), (1, true), (2, true), (3, true), (4, true), (5, true), (6, true), (7, true), (8, true), (9, true), (10, true), (11, true), (12, true), (13, false), (14, false), (15, true), (16, true), (17, true), (18, false)]
        (by kernel_rfl) (by kernel_rfl) (by kernel_rfl) (by kernel_rfl) rfl (by intro c a d v w h; cases d <;> exact h) hw ?_
      simp only [mkOrd, List.filterMap_cons, List.filterMap_nil, List.getElem?_toArray, List.getElem?_cons_zero, List.getElem?_cons_succ, Option.map_some]
      have hk4 : gk = 1 ∨ gk = 2 ∨ gk = 3 ∨ gk = 4 := by omega
      have hw0 : IntKind.i64.wrap 0 = 0 := rfl
      have hw8 : IntKind.i64.wrap 8 = 8 := rfl
      have hw16 : IntKind.i64.wrap 16 = 16 := rfl
      have hw24 : IntKind.i64.wrap 24 = 24 := rfl
      rcases hk4 with rfl | rfl | rfl | rfl
      · skip
        iterate 13
          refine ord_take (v := ?_) rfl ?_ ?_
          rotate_left
          · intro w' hS
            obtain ⟨s0, s1⟩ := hS
            go_simp
            with_reducible rfl
          go_frame
        rw [bvq1]
        have hbt := be_take n x 1 hk (by omega)
        simp only [Nat.reduceSub, Nat.reducePow] at hbt
        try simp only [Nat.div_one] at hbt
        generalize hcc : UInt8.ofNat _ = cc at hbt ⊢
        have X3 : Ex [] wr (wr.drew.alloc (.cells #[bv cc] 5)) := (Ex.refl _ _).drew.alloc _
        have hs3 : w.heap.size ≤ wr.heap.size := X2.size
        have B3 := Blk.new wr.drew #[bv cc] 5
        have hav2 : ∀ k ∈ av, k < wr.heap.size := fun k hk => by have := hav k hk; omega
        obtain ⟨v2, w3, hap, D3, X4, L4, B4, X5⟩ := D2.app (by omega) hav2 X3 (a := some ⟨wr.heap.size, 0, none⟩) (len := 1) (cap := 1) (xs := [cc]) (Blk.bytes (n := 1) (ys := [cc]) B3 rfl) (by simp) (by
          rw [List.length_append, List.length_take, be_length]; omega)
        obtain ⟨xa, xc, rfl⟩ := own_shape D3.own
        generalize (ys ++ List.take (n - 1) (be n x) ++ [cc]).length = m at *
        have hpe : ∀ w'', Ex v'.ownBlock.toList wr w'' → w''.cell? ⟨pb, po, none⟩ = some (.int .u64 (x : Int)) := fun w'' X => by
          rw [X.cell (p := ⟨pb, po, none⟩) (hav2 _ hpa) (fun h => (D2.vav pb (by simpa using h)).1 hpa)]; exact hp2
        have c4 := B4.cell
        have f4 := B4.froz
        refine ord_val (v := ?_) (w' := ?_) rfl ?_ ?_ ?_
        rotate_left
        rotate_left
        · go_simp
          first | with_reducible rfl | (refine ⟨?_, ?_⟩ <;> with_reducible rfl)
        · intro _; exact ⟨(X3.cell (p := ⟨wb, 0, none⟩) D2.blk.lt (by simp)).trans (c0 0), hpe _ (X3.mono (by simp))⟩
        go_frame
        have Hap := Lib.hid hap
        clear hap
        refine ord_val rfl (ex_append2 (v1 := v') (v2 := .slice (some ⟨wr.heap.size, 0, none⟩) 1 1) rfl (by go_simp) (by go_simp) Hap.out) (fun _ => ⟨c4 0, hpe _ X5⟩) ?_
        go_frame
        iterate 3
          refine ord_take (v := ?_) rfl ?_ ?_
          rotate_left
          · intro w' hS
            go_simp
            with_reducible rfl
          go_frame
        clear c0 f0
        refine ord_skip (w' := ?_) rfl ?_ ?_ ?_
        rotate_left
        · go_simp
          first | with_reducible rfl | (refine ⟨?_, ?_⟩ <;> with_reducible rfl)
        · intro h; simp at h
        refine ord_nil ?_
        go_wp2_with fail
        go_roundg (1 - 1)
        case measure => omega
        case rel =>
          refine ⟨_, by go_num, by omega, ?_, L2.ex X2 X4, L2.grow L4 hs3⟩
          have := D3
          rw [List.append_assoc, ← hbt] at this
          exact this
      · skip
        iterate 13
          refine ord_take (v := ?_) rfl ?_ ?_
          rotate_left
          · intro w' hS
            obtain ⟨s0, s1⟩ := hS
            go_simp
            with_reducible rfl
          go_frame
        rw [show (256 : Int) = ((256 : Nat) : Int) from rfl, bvq]
        have hbt := be_take n x 2 hk (by omega)
        simp only [Nat.reduceSub, Nat.reducePow] at hbt
        try simp only [Nat.div_one] at hbt
        generalize hcc : UInt8.ofNat _ = cc at hbt ⊢
        have X3 : Ex [] wr (wr.drew.alloc (.cells #[bv cc] 5)) := (Ex.refl _ _).drew.alloc _
        have hs3 : w.heap.size ≤ wr.heap.size := X2.size
        have B3 := Blk.new wr.drew #[bv cc] 5
        have hav2 : ∀ k ∈ av, k < wr.heap.size := fun k hk => by have := hav k hk; omega
        obtain ⟨v2, w3, hap, D3, X4, L4, B4, X5⟩ := D2.app (by omega) hav2 X3 (a := some ⟨wr.heap.size, 0, none⟩) (len := 1) (cap := 1) (xs := [cc]) (Blk.bytes (n := 1) (ys := [cc]) B3 rfl) (by simp) (by
          rw [List.length_append, List.length_take, be_length]; omega)
        obtain ⟨xa, xc, rfl⟩ := own_shape D3.own
        generalize (ys ++ List.take (n - 2) (be n x) ++ [cc]).length = m at *
        have hpe : ∀ w'', Ex v'.ownBlock.toList wr w'' → w''.cell? ⟨pb, po, none⟩ = some (.int .u64 (x : Int)) := fun w'' X => by
          rw [X.cell (p := ⟨pb, po, none⟩) (hav2 _ hpa) (fun h => (D2.vav pb (by simpa using h)).1 hpa)]; exact hp2
        have c4 := B4.cell
        have f4 := B4.froz
        refine ord_val (v := ?_) (w' := ?_) rfl ?_ ?_ ?_
        rotate_left
        rotate_left
        · go_simp
          first | with_reducible rfl | (refine ⟨?_, ?_⟩ <;> with_reducible rfl)
        · intro _; exact ⟨(X3.cell (p := ⟨wb, 0, none⟩) D2.blk.lt (by simp)).trans (c0 0), hpe _ (X3.mono (by simp))⟩
        go_frame
        have Hap := Lib.hid hap
        clear hap
        refine ord_val rfl (ex_append2 (v1 := v') (v2 := .slice (some ⟨wr.heap.size, 0, none⟩) 1 1) rfl (by go_simp) (by go_simp) Hap.out) (fun _ => ⟨c4 0, hpe _ X5⟩) ?_
        go_frame
        iterate 3
          refine ord_take (v := ?_) rfl ?_ ?_
          rotate_left
          · intro w' hS
            go_simp
            with_reducible rfl
          go_frame
        clear c0 f0
        refine ord_skip (w' := ?_) rfl ?_ ?_ ?_
        rotate_left
        · go_simp
          first | with_reducible rfl | (refine ⟨?_, ?_⟩ <;> with_reducible rfl)
        · intro h; simp at h
        refine ord_nil ?_
        go_wp2_with fail
        go_roundg (2 - 1)
        case measure => omega
        case rel =>
          refine ⟨_, by go_num, by omega, ?_, L2.ex X2 X4, L2.grow L4 hs3⟩
          have := D3
          rw [List.append_assoc, ← hbt] at this
          exact this
      · skip
        iterate 13
          refine ord_take (v := ?_) rfl ?_ ?_
          rotate_left
          · intro w' hS
            obtain ⟨s0, s1⟩ := hS
            go_simp
            with_reducible rfl
          go_frame
        rw [show (65536 : Int) = ((65536 : Nat) : Int) from rfl, bvq]
        have hbt := be_take n x 3 hk (by omega)
        simp only [Nat.reduceSub, Nat.reducePow] at hbt
        try simp only [Nat.div_one] at hbt
        generalize hcc : UInt8.ofNat _ = cc at hbt ⊢
        have X3 : Ex [] wr (wr.drew.alloc (.cells #[bv cc] 5)) := (Ex.refl _ _).drew.alloc _
        have hs3 : w.heap.size ≤ wr.heap.size := X2.size
        have B3 := Blk.new wr.drew #[bv cc] 5
        have hav2 : ∀ k ∈ av, k < wr.heap.size := fun k hk => by have := hav k hk; omega
        obtain ⟨v2, w3, hap, D3, X4, L4, B4, X5⟩ := D2.app (by omega) hav2 X3 (a := some ⟨wr.heap.size, 0, none⟩) (len := 1) (cap := 1) (xs := [cc]) (Blk.bytes (n := 1) (ys := [cc]) B3 rfl) (by simp) (by
          rw [List.length_append, List.length_take, be_length]; omega)
        obtain ⟨xa, xc, rfl⟩ := own_shape D3.own
        generalize (ys ++ List.take (n - 3) (be n x) ++ [cc]).length = m at *
        have hpe : ∀ w'', Ex v'.ownBlock.toList wr w'' → w''.cell? ⟨pb, po, none⟩ = some (.int .u64 (x : Int)) := fun w'' X => by
          rw [X.cell (p := ⟨pb, po, none⟩) (hav2 _ hpa) (fun h => (D2.vav pb (by simpa using h)).1 hpa)]; exact hp2
        have c4 := B4.cell
        have f4 := B4.froz
        refine ord_val (v := ?_) (w' := ?_) rfl ?_ ?_ ?_
        rotate_left
        rotate_left
        · go_simp
          first | with_reducible rfl | (refine ⟨?_, ?_⟩ <;> with_reducible rfl)
        · intro _; exact ⟨(X3.cell (p := ⟨wb, 0, none⟩) D2.blk.lt (by simp)).trans (c0 0), hpe _ (X3.mono (by simp))⟩
        go_frame
        have Hap := Lib.hid hap
        clear hap
        refine ord_val rfl (ex_append2 (v1 := v') (v2 := .slice (some ⟨wr.heap.size, 0, none⟩) 1 1) rfl (by go_simp) (by go_simp) Hap.out) (fun _ => ⟨c4 0, hpe _ X5⟩) ?_
        go_frame
        iterate 3
          refine ord_take (v := ?_) rfl ?_ ?_
          rotate_left
          · intro w' hS
            go_simp
            with_reducible rfl
          go_frame
        clear c0 f0
        refine ord_skip (w' := ?_) rfl ?_ ?_ ?_
        rotate_left
        · go_simp
          first | with_reducible rfl | (refine ⟨?_, ?_⟩ <;> with_reducible rfl)
        · intro h; simp at h
        refine ord_nil ?_
        go_wp2_with fail
        go_roundg (3 - 1)
        case measure => omega
        case rel =>
          refine ⟨_, by go_num, by omega, ?_, L2.ex X2 X4, L2.grow L4 hs3⟩
          have := D3
          rw [List.append_assoc, ← hbt] at this
          exact this
      · skip
        iterate 13
          refine ord_take (v := ?_) rfl ?_ ?_
          rotate_left
          · intro w' hS
            obtain ⟨s0, s1⟩ := hS
            go_simp
            with_reducible rfl
          go_frame
        rw [show (16777216 : Int) = ((16777216 : Nat) : Int) from rfl, bvq]
        have hbt := be_take n x 4 hk (by omega)
        simp only [Nat.reduceSub, Nat.reducePow] at hbt
        try simp only [Nat.div_one] at hbt
        generalize hcc : UInt8.ofNat _ = cc at hbt ⊢
        have X3 : Ex [] wr (wr.drew.alloc (.cells #[bv cc] 5)) := (Ex.refl _ _).drew.alloc _
        have hs3 : w.heap.size ≤ wr.heap.size := X2.size
        have B3 := Blk.new wr.drew #[bv cc] 5
        have hav2 : ∀ k ∈ av, k < wr.heap.size := fun k hk => by have := hav k hk; omega
        obtain ⟨v2, w3, hap, D3, X4, L4, B4, X5⟩ := D2.app (by omega) hav2 X3 (a := some ⟨wr.heap.size, 0, none⟩) (len := 1) (cap := 1) (xs := [cc]) (Blk.bytes (n := 1) (ys := [cc]) B3 rfl) (by simp) (by
          rw [List.length_append, List.length_take, be_length]; omega)
        obtain ⟨xa, xc, rfl⟩ := own_shape D3.own
        generalize (ys ++ List.take (n - 4) (be n x) ++ [cc]).length = m at *
        have hpe : ∀ w'', Ex v'.ownBlock.toList wr w'' → w''.cell? ⟨pb, po, none⟩ = some (.int .u64 (x : Int)) := fun w'' X => by
          rw [X.cell (p := ⟨pb, po, none⟩) (hav2 _ hpa) (fun h => (D2.vav pb (by simpa using h)).1 hpa)]; exact hp2
        have c4 := B4.cell
        have f4 := B4.froz
        refine ord_val (v := ?_) (w' := ?_) rfl ?_ ?_ ?_
        rotate_left
        rotate_left
        · go_simp
          first | with_reducible rfl | (refine ⟨?_, ?_⟩ <;> with_reducible rfl)
        · intro _; exact ⟨(X3.cell (p := ⟨wb, 0, none⟩) D2.blk.lt (by simp)).trans (c0 0), hpe _ (X3.mono (by simp))⟩
        go_frame
        have Hap := Lib.hid hap
        clear hap
        refine ord_val rfl (ex_append2 (v1 := v') (v2 := .slice (some ⟨wr.heap.size, 0, none⟩) 1 1) rfl (by go_simp) (by go_simp) Hap.out) (fun _ => ⟨c4 0, hpe _ X5⟩) ?_
        go_frame
        iterate 3
          refine ord_take (v := ?_) rfl ?_ ?_
          rotate_left
          · intro w' hS
            go_simp
            with_reducible rfl
          go_frame
        clear c0 f0
        refine ord_skip (w' := ?_) rfl ?_ ?_ ?_
        rotate_left
        · go_simp
          first | with_reducible rfl | (refine ⟨?_, ?_⟩ <;> with_reducible rfl)
        · intro h; simp at h
        refine ord_nil ?_
        go_wp2_with fail
        go_roundg (4 - 1)
        case measure => omega
        case rel =>
          refine ⟨_, by go_num, by omega, ?_, L2.ex X2 X4, L2.grow L4 hs3⟩
          have := D3
          rw [List.append_assoc, ← hbt] at this
          exact this
set_option maxRecDepth 100000 in
set_option maxHeartbeats 1600000 in
theorem bytes_w {a : Option Addr} {len cap : Nat} {xs : List UInt8} {pb po : Nat} (n : Int) (D : WrAt w B wb av v ys e) (hB : B ≤ w.heap.size) (hav : ∀ k ∈ av, k < w.heap.size) (hp : w.cell? ⟨pb, po, none⟩ = some (.slice a len cap)) (hpa : pb ∈ av) (hx : BytesAt w a len xs) (hcap : a = none → cap = 0) (hl : ys.length + len ≤ 1000000) :
    Calls Try.prog 67 #[ptr wb, .int .i64 n, ptrAt pb po] w fun z w' => ∃ v', z = .returned (.tuple #[]) ∧ WrAt w' B wb av v' (ys ++ xs) e ∧ Ex (wb :: v.ownBlock.toList) w w' ∧ Gr w v v' := by
  have c0 := D.blk.cell 0
  have X0 : Ex [] w w.drew := (Ex.refl _ _).drew
  obtain ⟨v2, w3, hap, D3, X4, L4, B4, X5⟩ := D.app hB hav X0 (hx.ex X0 (by simp)) hcap hl
  obtain ⟨xa, xc, rfl⟩ := own_shape D3.own
  have hpe : ∀ w'', Ex v.ownBlock.toList w w'' → w''.cell? ⟨pb, po, none⟩ = some (.slice a len cap) := fun w'' X => by
    rw [X.cell (p := ⟨pb, po, none⟩) (hav _ hpa) (fun h => (D.vav pb (by simpa using h)).1 hpa)]; exact hp
  have hS0 : (w.drew.cell? ⟨wb, 0, none⟩ = some v ∧ w.drew.cell? ⟨pb, po, none⟩ = some (.slice a len cap)) := ⟨c0, hp⟩
  generalize (ys ++ xs).length = m at *
  have Hap := Lib.hid hap
  clear hap c0 hx hp
  go_enter Try.func67, Try.ntmps67
  go_wp2_with fail
  refine wp_region_ord (fun w' => w'.cell? ⟨wb, 0, none⟩ = some v ∧ w'.cell? ⟨pb, po, none⟩ = some (.slice a len cap)) [13] [(0, true), (1, true), (2, true), (3, true), (4, true), (5, true), (6, true), (7, true), (8, true), (9, false), (10, true), (11, true), (12, true), (13, false)]
    (by kernel_rfl) (by kernel_rfl) (by kernel_rfl) (by kernel_rfl) rfl (by intro c a d v w h; cases d <;> exact h) hS0 ?_
  simp only [mkOrd, List.filterMap_cons, List.filterMap_nil, List.getElem?_toArray, List.getElem?_cons_zero, List.getElem?_cons_succ, Option.map_some]
  iterate 9
    refine ord_take (v := ?_) rfl ?_ ?_
    rotate_left
    · intro w' hS
      obtain ⟨s0, s1⟩ := hS
      go_simp
      with_reducible rfl
    go_frame
  have c4 := B4.cell
  have f4 := B4.froz
  refine ord_val rfl (ex_append2 (v1 := v) (v2 := .slice a len cap) rfl (by go_simp) (by go_simp) Hap.out) (fun _ => ⟨c4 0, hpe _ X5⟩) ?_
  go_frame
  iterate 3
    refine ord_take (v := ?_) rfl ?_ ?_
    rotate_left
    · intro w' hS
      go_simp
      with_reducible rfl
    go_frame
  refine ord_skip (w' := ?_) rfl ?_ ?_ ?_
  rotate_left
  · go_simp
    first | with_reducible rfl | (refine ⟨?_, ?_⟩ <;> with_reducible rfl)
  · intro h; simp at h
  go_frame
  refine ord_nil ?_
  go_wp2_with fail
  go_end0
  exact ⟨_, rfl, D3, X4, L4⟩
theorem assert_ww (wb : Nat) (w : World) : (Instr.typeAssert (.iface 52 (ptr wb)) 81 52 true).run Try.prog w = .ok (.tuple #[ptr wb, .bool true]) w := by kernel_rfl
theorem WrAt.turn (D : WrAt w B wb av v ys e) {av' l : List Nat} (hx : Ex l w w') (hl : ∀ k ∈ l, k ∈ av ∨ w.heap.size ≤ k) (ha : ∀ k ∈ av', k ∈ av ∨ w.heap.size ≤ k) : WrAt w' B wb av' v ys e := by
  have ho := D.own.lt
  have hb := D.blk.lt
  have hnb : ∀ l : List Nat, (∀ k ∈ l, k ∈ av ∨ w.heap.size ≤ k) → wb ∉ l := fun l hl hm => by
    rcases hl wb hm with h1 | h1
    · exact D.bav h1
    · omega
  have hnv : ∀ l : List Nat, (∀ k ∈ l, k ∈ av ∨ w.heap.size ≤ k) → ∀ k, v.ownBlock = some k → k ∉ l := fun l hl k hk hm => by
    rcases hl k hm with h1 | h1
    · exact (D.vav k hk).1 h1
    · have := (ho k hk).2; omega
  exact ⟨D.blk.ex hx (hnb _ hl), D.bas, hnb _ ha, fun k hk => ⟨hnv _ ha k hk, (D.vav k hk).2⟩, ownsRow_ex D.own hx (hnv _ hl), D.len⟩
theorem inv_raw (wb : Nat) (x y : Value) (w : World) : (invoke (.fn (.method "adit/wire.raw") #[]) (#[.iface 52 (ptr wb)] ++ [x, y].toArray)).run Try.prog w = .ok (.enter 68 #[ptr wb, x, y]) w := by kernel_rfl
theorem inv_bytes (wb : Nat) (x y : Value) (w : World) : (invoke (.fn (.method "adit/wire.bytes") #[]) (#[.iface 52 (ptr wb)] ++ [x, y].toArray)).run Try.prog w = .ok (.enter 67 #[ptr wb, x, y]) w := by kernel_rfl
theorem inv_failed (wb : Nat) (w : World) : (invoke (.fn (.method "adit/wire.failed") #[]) (#[.iface 52 (ptr wb)] ++ [].toArray)).run Try.prog w = .ok (.enter 21 #[ptr wb]) w := by kernel_rfl
theorem inv_within (wb : Nat) (x y z : Value) (w : World) : (invoke (.fn (.method "adit/wire.within") #[]) (#[.iface 52 (ptr wb)] ++ [x, y, z].toArray)).run Try.prog w = .ok (.enter 69 #[ptr wb, x, y, z]) w := by kernel_rfl
theorem u64_of (x : Int) (h0 : 0 ≤ x) (h1 : x < 9223372036854775808) : IntKind.u64.wrap x = x := by rw [IntKind.wrap_u64]; omega
theorem cell_over {pb po : Nat} {u : Value} (D : WrAt w B wb av v ys e) (hav : ∀ k ∈ av, k < w.heap.size) (hpa : pb ∈ av) (hp : w.cell? ⟨pb, po, none⟩ = some u) (X : Ex (wb :: v.ownBlock.toList) w w') : w'.cell? ⟨pb, po, none⟩ = some u := by
  rw [X.cell (p := ⟨pb, po, none⟩) (hav _ hpa) (by
    simp only [List.mem_cons, Option.mem_toList, not_or]
    exact ⟨fun h => D.bav (by rw [← h]; exact hpa), fun h => (D.vav _ h).1 hpa⟩)]
  exact hp
theorem froz_over {pb po : Nat} {u : Bool} (D : WrAt w B wb av v ys e) (hav : ∀ k ∈ av, k < w.heap.size) (hpa : pb ∈ av) (hp : w.frozen? ⟨pb, po, none⟩ = u) (X : Ex (wb :: v.ownBlock.toList) w w') : w'.frozen? ⟨pb, po, none⟩ = u := by
  rw [X.frozen (p := ⟨pb, po, none⟩) (hav _ hpa) (by
    simp only [List.mem_cons, Option.mem_toList, not_or]
    exact ⟨fun h => D.bav (by rw [← h]; exact hpa), fun h => (D.vav _ h).1 hpa⟩)]
  exact hp
end
end Go.Proofs.Ytphmdhbhoakcaaa
