/- wire.record and stream over a writer. -/
import Derived.Test.YtphmdhbhoakcaaaWireP
namespace Go.Proofs.Ytphmdhbhoakcaaa
open Go.RowKit Go.Ad Go.Maps
structure Rec where
  kind : Int
  input : Int
  seat : Int
  frame : Int
  last : Int
def Rec.cells (r : Rec) : List Value := [.int .i64 r.kind, .int .i64 r.input, .int .i64 r.seat, .int .i64 r.frame, .int .i64 r.last]
/-- A record that lies somewhere. -/
structure RecAt (w : World) (b o : Nat) (r : Rec) : Prop where
  c0 : w.cell? ⟨b, o, none⟩ = some (.int .i64 r.kind)
  c1 : w.cell? ⟨b, o + 1, none⟩ = some (.int .i64 r.input)
  c2 : w.cell? ⟨b, o + 2, none⟩ = some (.int .i64 r.seat)
  c3 : w.cell? ⟨b, o + 3, none⟩ = some (.int .i64 r.frame)
  c4 : w.cell? ⟨b, o + 4, none⟩ = some (.int .i64 r.last)
  fz : ∀ j, j < 5 → w.frozen? ⟨b, o + j, none⟩ = false
def recTail (r : Rec) : Bool × List UInt8 :=
  if r.kind = 1 then (inB r.input 0 10, be 1 r.input.toNat)
  else if r.kind = 3 then (inB r.seat 0 3 && nokAll [r.frame, r.last], be 1 r.seat.toNat ++ nenc [r.frame, r.last])
  else if r.kind = 2 then (inB r.seat 0 3 && nokAll [r.frame], be 1 r.seat.toNat ++ nenc [r.frame])
  else (true, [])
def recOk (r : Rec) : Bool := inB r.kind 1 3 && (recTail r).1
def recEnc (r : Rec) : List UInt8 := be 1 r.kind.toNat ++ (recTail r).2
section
variable {w w' : World} {B wb : Nat} {av : List Nat} {v : Value} {ys : List UInt8} {e : Int}
theorem RecAt.over {b o : Nat} {r : Rec} (D : WrAt w B wb av v ys e) (hav : ∀ k ∈ av, k < w.heap.size) (hb : b ∈ av) (R : RecAt w b o r) (X : Ex (wb :: v.ownBlock.toList) w w') : RecAt w' b o r :=
  ⟨cell_over D hav hb R.c0 X, cell_over D hav hb R.c1 X, cell_over D hav hb R.c2 X, cell_over D hav hb R.c3 X, cell_over D hav hb R.c4 X, fun j hj => froz_over D hav hb (R.fz j hj) X⟩
theorem RecAt.ex {b o : Nat} {r : Rec} (R : RecAt w b o r) (hb : b < w.heap.size) (X : Ex [] w w') : RecAt w' b o r :=
  ⟨by rw [X.cell (p := ⟨b, o, none⟩) hb (by simp)]; exact R.c0, by rw [X.cell (p := ⟨b, _, none⟩) hb (by simp)]; exact R.c1, by rw [X.cell (p := ⟨b, _, none⟩) hb (by simp)]; exact R.c2, by rw [X.cell (p := ⟨b, _, none⟩) hb (by simp)]; exact R.c3, by rw [X.cell (p := ⟨b, _, none⟩) hb (by simp)]; exact R.c4, fun j hj => by rw [X.frozen (p := ⟨b, _, none⟩) hb (by simp)]; exact R.fz j hj⟩
theorem WPost.weak {w0 : World} {v0 : Value} {ys0 : List UInt8} {e0 : Int} {ok : Bool} {enc : List UInt8} {m m' : Nat} {z : Ending} (h : WPost w0 B wb av v0 ys0 e0 ok enc m z w) (hm : m ≤ m') : WPost w0 B wb av v0 ys0 e0 ok enc m' z w := by
  obtain ⟨v, ys, hz, h1, h2, h3, h4, h5⟩ := h
  exact ⟨v, ys, hz, h1, h2, by omega, h4, h5⟩
set_option maxRecDepth 100000 in
set_option maxHeartbeats 3200000 in
theorem record_w {b o : Nat} {r : Rec} (D : WrAt w B wb av v ys e) (hB : B ≤ w.heap.size) (hav : ∀ k ∈ av, k < w.heap.size) (hl : ys.length + 10 ≤ 1000000) (hb : b ∈ av) (R : RecAt w b o r) :
    Calls Try.prog 50 #[.iface 52 (ptr wb), ptrAt b o] w (WPost w B wb av v ys e (recOk r) (recEnc r) 10) := by
  go_enter Try.func50, Try.ntmps50
  go_wp2_with fail
  refine (number_p (n := 1) (x := r.kind) (f := 1) (t := 3) D hB hav (by omega) (by omega) R.c0 (by simpa using R.fz 0 (by omega)) hb (by omega) (by omega)).mono ?_
  rintro z w1 hz
  obtain ⟨v1, ys1, rfl, S1⟩ := (WSt.start D).step (ok := true) (enc := []) (m := 0) (by rw [noted_true]; exact hz) (fun _ h => h)
  simp only [Bool.true_and, List.nil_append, Nat.zero_add] at S1
  have R1 := R.over D hav hb S1.ex
  have hs1 := S1.ex.size
  have hl1 := S1.len
  have hav1 : ∀ k ∈ av, k < w1.heap.size := fun k hk => by have := hav k hk; omega
  clear R hz
  have k0 := R1.c0
  by_cases h1 : r.kind = 1
  · rw [h1] at k0
    go_wp2_with fail
    clear k0
    refine (number_p (n := 1) (x := r.input) (f := 0) (t := 10) S1.at' (by omega) hav1 (by omega) (by omega) R1.c1 (R1.fz 1 (by omega)) hb (by omega) (by omega)).mono ?_
    rintro z w2 hz
    obtain ⟨v2, ys2, rfl, S2⟩ := S1.step hz (fun _ h => h)
    have ho : recOk r = (inB r.kind 1 3 && inB r.input 0 10) := by simp [recOk, recTail, h1]
    have hn : recEnc r = be 1 r.kind.toNat ++ be 1 r.input.toNat := by simp [recEnc, recTail, h1]
    have Ho := Lib.hid ho
    have Hn := Lib.hid hn
    clear ho hn h1 hz
    go_wp2_with fail
    go_end0
    rw [Ho.out, Hn.out]
    exact S2.done.weak (by omega)
  · by_cases h3 : r.kind = 3
    · rw [h3] at k0
      clear h1
      go_wp2_with fail
      clear k0
      refine (number_p (n := 1) (x := r.seat) (f := 0) (t := 3) S1.at' (by omega) hav1 (by omega) (by omega) R1.c2 (R1.fz 2 (by omega)) hb (by omega) (by omega)).mono ?_
      rintro z w2 hz
      obtain ⟨v2, ys2, rfl, S2⟩ := S1.step hz (fun _ h => h)
      have R2 := R1.over S1.at' hav1 hb (by obtain ⟨_, _, _, hh⟩ := hz; exact hh.ex)
      have hs2 := S2.ex.size
      have hl2 := S2.len
      have Ho := Lib.hid (show recOk r = (inB r.kind 1 3 && inB r.seat 0 3 && nokAll [r.frame, r.last]) by simp [recOk, recTail, h3, Bool.and_assoc])
      have Hn := Lib.hid (show recEnc r = be 1 r.kind.toNat ++ be 1 r.seat.toNat ++ nenc [r.frame, r.last] by simp [recEnc, recTail, h3])
      clear hz h3
      go_wp2_with fail
      refine wp_region_ord (fun _ => True) [8] [(0, true), (1, true), (2, true), (3, true), (4, true), (5, true), (6, true), (7, false), (8, false)]
        (by kernel_rfl) (by kernel_rfl) (by kernel_rfl) (by kernel_rfl) rfl (by intro c a d v w h; cases d <;> exact h) trivial ?_
      simp only [mkOrd, List.filterMap_cons, List.filterMap_nil, List.getElem?_toArray, List.getElem?_cons_zero, List.getElem?_cons_succ, Option.map_some]
      iterate 7
        refine ord_take (v := ?_) rfl ?_ ?_
        rotate_left
        · intro w' hS
          go_simp
          with_reducible rfl
        go_frame
      refine ord_val (v := ?_) (w' := ?_) rfl ?_ ?_ ?_
      rotate_left
      rotate_left
      · go_simp
        first | with_reducible rfl | (refine ⟨?_, ?_⟩ <;> with_reducible rfl)
      · intro _; exact trivial
      go_frame
      have X3 : Ex [] w2 (w2.drew.alloc (.cells #[ptrAt b (o + 3), ptrAt b (o + 4)] 83)) := (Ex.refl _ _).drew.alloc _
      have B3 := Blk.new w2.drew #[ptrAt b (o + 3), ptrAt b (o + 4)] 83
      have D3 := S2.at'.more X3
      have hav2 : ∀ k ∈ av, k < w2.heap.size := fun k hk => by have := hav k hk; omega
      have hav3 := av_more X3 B3.lt hav2
      have S3 := S2.go X3
      have R3 := R2.ex (hav2 _ hb) X3
      have hs3 := X3.size
      refine ord_enter rfl (ex_call (vs := [.iface 52 (ptr wb), .slice (some ⟨w2.heap.size, 0, none⟩) 2 2]) rfl Try.func40 rfl (by kernel_rfl) rfl) ?_
      refine (plain_p (n := 2) (sc := 2) (xs := [r.frame, r.last]) rfl D3 (by omega) hav3 (by omega) (by simp) (fun i x hx => ?_)).mono ?_
      · match i, hx with
        | 0, hx =>
          simp only [List.getElem?_cons_zero, Option.some.injEq] at hx; subst hx
          exact ⟨b, o + 3, B3.cell 0, by simp [hb], R3.c3, R3.fz 3 (by omega)⟩
        | 1, hx =>
          simp only [List.getElem?_cons_succ, List.getElem?_cons_zero, Option.some.injEq] at hx; subst hx
          exact ⟨b, o + 4, B3.cell 1, by simp [hb], R3.c4, R3.fz 4 (by omega)⟩
      rintro z w4 hz
      obtain ⟨v4, ys4, rfl, S4⟩ := S3.step hz (fun _ h => List.mem_cons_of_mem _ h)
      refine ⟨_, rfl, fun h => by simp at h, ?_⟩
      go_frame
      refine ord_nil ?_
      clear hz
      go_wp2_with fail
      go_end0
      rw [Ho.out, Hn.out]
      exact S4.done
    · by_cases h2 : r.kind = 2
      · rw [h2] at k0
        clear h1 h3
        go_wp2_with fail
        clear k0
        refine (number_p (n := 1) (x := r.seat) (f := 0) (t := 3) S1.at' (by omega) hav1 (by omega) (by omega) R1.c2 (R1.fz 2 (by omega)) hb (by omega) (by omega)).mono ?_
        rintro z w2 hz
        obtain ⟨v2, ys2, rfl, S2⟩ := S1.step hz (fun _ h => h)
        have R2 := R1.over S1.at' hav1 hb (by obtain ⟨_, _, _, hh⟩ := hz; exact hh.ex)
        have hs2 := S2.ex.size
        have hl2 := S2.len
        have Ho := Lib.hid (show recOk r = (inB r.kind 1 3 && inB r.seat 0 3 && nokAll [r.frame]) by simp [recOk, recTail, h2, Bool.and_assoc])
        have Hn := Lib.hid (show recEnc r = be 1 r.kind.toNat ++ be 1 r.seat.toNat ++ nenc [r.frame] by simp [recEnc, recTail, h2])
        clear hz h2
        go_wp2_with fail
        have X3 : Ex [] w2 (w2.alloc (.cells #[ptrAt b (o + 3)] 83)) := (Ex.refl _ _).alloc _
        have B3 := Blk.new w2 #[ptrAt b (o + 3)] 83
        have D3 := S2.at'.more X3
        have hav2 : ∀ k ∈ av, k < w2.heap.size := fun k hk => by have := hav k hk; omega
        have hav3 := av_more X3 B3.lt hav2
        have S3 := S2.go X3
        have R3 := R2.ex (hav2 _ hb) X3
        have hs3 := X3.size
        refine (plain_p (n := 1) (sc := 1) (xs := [r.frame]) rfl D3 (by omega) hav3 (by omega) (by simp) (fun i x hx => ?_)).mono ?_
        · match i, hx with
          | 0, hx =>
            simp only [List.getElem?_cons_zero, Option.some.injEq] at hx; subst hx
            exact ⟨b, o + 3, B3.cell 0, by simp [hb], R3.c3, R3.fz 3 (by omega)⟩
        rintro z w4 hz
        obtain ⟨v4, ys4, rfl, S4⟩ := S3.step hz (fun _ h => List.mem_cons_of_mem _ h)
        clear hz
        go_wp2_with fail
        go_end0
        rw [Ho.out, Hn.out]
        exact S4.done.weak (by omega)
      · have Ho := Lib.hid (show recOk r = (inB r.kind 1 3) by simp [recOk, recTail, h1, h2, h3])
        have Hn := Lib.hid (show recEnc r = be 1 r.kind.toNat by simp [recEnc, recTail, h1, h2, h3])
        have g1 : (r.kind == 1) = false := by simpa using h1
        have g2 : (r.kind == 2) = false := by simpa using h2
        have g3 : (r.kind == 3) = false := by simpa using h3
        clear h1 h2 h3
        go_wp2_with fail
        go_end0
        rw [Ho.out, Hn.out]
        exact S1.done.weak (by omega)
/-- Records that lie somewhere that may be written. -/
def RecsIn (w : World) (av : List Nat) (a : Option Addr) (zs : List Rec) : Prop := zs = [] ∨ ∃ ab ao, a = some ⟨ab, ao, none⟩ ∧ ab ∈ av ∧ ∀ (i : Nat) (x : Rec), zs[i]? = some x → RecAt w ab (ao + i * 5) x
def streamOk (zs : List Rec) : Bool := inB zs.length 0 400 && zs.all recOk
def streamEnc (zs : List Rec) : List UInt8 := be 2 zs.length ++ zs.flatMap recEnc
def StrWI (w0 : World) (B wb : Nat) (av : List Nat) (v0 : Value) (ys0 : List UInt8) (e0 : Int) (zs : List Rec) (k : Nat) (vi : Value) (wr : World) : Prop :=
  ∃ (i : Nat) (v' : Value) (ys' : List UInt8), vi = .int .i64 (i : Int) ∧ i + k = zs.length ∧ WSt w0 B wb av v0 ys0 e0 (inB zs.length 0 400 && (zs.take i).all recOk) (be 2 zs.length ++ (zs.take i).flatMap recEnc) (2 + 10 * i) wr v' ys'
set_option maxRecDepth 100000 in
set_option maxHeartbeats 1600000 in
theorem stream_w {a : Option Addr} {len cap : Nat} {zs : List Rec} {pb po : Nat} (D : WrAt w B wb av v ys e) (hB : B ≤ w.heap.size) (hav : ∀ k ∈ av, k < w.heap.size) (hl : ys.length + 2 + 10 * len ≤ 1000000) (hp : w.cell? ⟨pb, po, none⟩ = some (.slice a len cap)) (hpa : pb ∈ av) (hz : zs.length = len) (hI : RecsIn w av a zs) :
    Calls Try.prog 49 #[.iface 52 (ptr wb), ptrAt pb po] w (WPost w B wb av v ys e (streamOk zs) (streamEnc zs) (2 + 10 * len)) := by
  subst hz
  have HI := Lib.hid hI
  clear hI
  go_enter Try.func49, Try.ntmps49
  go_wp2_with fail
  have X1 : Ex [] w (w.alloc (.cells #[.int .i64 (zs.length : Int)] 3)) := (Ex.refl _ _).alloc _
  have B1 := Blk.new w #[.int .i64 (zs.length : Int)] 3
  have S1 : WSt w B wb av v ys e true [] 0 (w.alloc (.cells #[.int .i64 (zs.length : Int)] 3)) v ys := (WSt.start D).go X1
  have D1 := D.more X1
  have hav1 : ∀ k ∈ w.heap.size :: av, k < (w.alloc (.cells #[.int .i64 (zs.length : Int)] 3)).heap.size := av_more X1 B1.lt hav
  have D1' : WrAt (w.alloc (.cells #[.int .i64 (zs.length : Int)] 3)) B wb (w.heap.size :: av) v ys (noted true e 1) := by rw [noted_true]; exact D1
  have hp1 : (w.alloc (.cells #[.int .i64 (zs.length : Int)] 3)).cell? ⟨pb, po, none⟩ = some (.slice a zs.length cap) := by rw [X1.cell (p := ⟨pb, po, none⟩) (hav _ hpa) (by simp)]; exact hp
  generalize w.alloc (.cells #[.int .i64 (zs.length : Int)] 3) = w1 at *
  have hs1 := X1.size
  have Hp := Lib.hid hp
  clear hp
  refine (number_p (n := 2) (x := (zs.length : Int)) (f := 0) (t := 400) D1' (by omega) hav1 (by omega) (by omega) (B1.cell 0) (B1.froz 0) (by simp) (by omega) (by omega)).mono ?_
  rintro z w2 hz
  obtain ⟨v2, ys2, rfl, S2⟩ := S1.step hz (fun _ h => List.mem_cons_of_mem _ h)
  clear S1 D1' D1 hav1 B1 hp1 hz
  go_wp2_with (refine G_enter (o := ⟨some 15, _, _, _, _, _⟩) rfl (ex_invoke rfl rfl rfl (inv_failed wb _)) ?_)
  refine (failed_any S2.at').mono ?_
  rintro z w3 ⟨rfl, rfl⟩
  refine ⟨_, rfl, ?_⟩
  by_cases he : noted (true && inB zs.length 0 400) e 1 = 0
  · have he1 : (noted (true && inB zs.length 0 400) e 1 != 0) = false := by simpa using he
    obtain ⟨he2, he3⟩ := noted_zero.1 he
    have hzl : zs.length ≤ 400 := by have := he3; simp [inB] at this; omega
    clear he2 he3
    have hp2 := cell_over D hav hpa Hp.out S2.ex
    clear he
    go_wp2_with (refine G_val (o := ⟨some 18, _, _, _, _, _⟩) rfl (ex_assert rfl rfl (assert_wr wb _)) ?_)
    clear hp2
    have S3 : StrWI w B wb av v ys e zs zs.length (.int .i64 0) w2 := ⟨0, v2, ys2, rfl, by omega, by simpa using S2⟩
    go_loopg [30] zs.length (fun k vi wr => StrWI w B wb av v ys e zs k vi wr)
    case atStart => exact S3
    case round =>
      clear S3 S2
      obtain ⟨i, v3, ys3, rfl, hk, S3⟩ := hrel
      have hp3 := cell_over D hav hpa Hp.out S3.ex
      have hs3 := S3.ex.size
      have hl3 := S3.len
      by_cases hi : (i : Int) < zs.length
      · obtain ⟨x, hx⟩ : ∃ x, zs[i]? = some x := ⟨zs[i], by simp⟩
        rcases HI.out with h | ⟨ab, ao, rfl, hab, hR⟩
        · rw [h] at hx; simp at hx
        have r1 := hR i x hx
        have q1 := r1.over D hav hab S3.ex
        have Hx := Lib.hid hx
        have hl0 : zs.length ≤ 400 := hzl
        clear hR r1 hx
        go_wp2_with fail
        refine (record_w (r := x) S3.at' (by omega) (fun k hk => by have := hav k hk; omega) (by omega) hab q1).mono ?_
        rintro z w4 hz
        obtain ⟨v4, ys4, rfl, S4⟩ := S3.step hz (fun _ h => h)
        have Ht := Lib.hid (show zs.take (i + 1) = zs.take i ++ [x] by rw [List.take_add_one, Hx.out]; rfl)
        have Hi := Lib.hid hi
        clear hp3 hz S3 hi
        go_wp2_with (refine G_enter (o := ⟨some 41, _, _, _, _, _⟩) rfl (ex_invoke rfl rfl rfl (inv_failed wb _)) ?_)
        refine (failed_any S4.at').mono ?_
        rintro z w5 ⟨rfl, rfl⟩
        refine ⟨_, rfl, ?_⟩
        by_cases he : noted (inB zs.length 0 400 && (zs.take i).all recOk && recOk x) e 1 = 0
        · have he1 : (noted (inB zs.length 0 400 && (zs.take i).all recOk && recOk x) e 1 != 0) = false := by simpa using he
          clear he
          go_wp2_with fail
          have hi := Hi.out
          go_roundg (gk - 1)
          case measure => omega
          case rel =>
            refine ⟨i + 1, v4, ys4, by go_num, by omega, ?_⟩
            rw [Ht.out]
            simpa [List.all_append, List.flatMap_append, Bool.and_assoc, Nat.mul_add, Nat.add_assoc] using S4
        · have He := Lib.hid he
          have he1 : (noted (inB zs.length 0 400 && (zs.take i).all recOk && recOk x) e 1 != 0) = true := by simpa using he
          clear he
          go_wp2_with fail
          refine bodyPost_ret (v := .tuple #[]) (results_none rfl _ _ _) rfl ?_
          have hi := Hi.out
          have hno : (inB zs.length 0 400 && (zs.take i).all recOk && recOk x) = false ∨ e ≠ 0 := by
            cases hq : (inB zs.length 0 400 && (zs.take i).all recOk && recOk x)
            · exact .inl rfl
            · exact .inr (fun h0 => He.out (noted_zero.2 ⟨h0, hq⟩))
          have hso : streamOk zs = true → (inB zs.length 0 400 && (zs.take i).all recOk && recOk x) = true := fun h => by
            simp only [streamOk, Bool.and_eq_true, List.all_eq_true] at h ⊢
            exact ⟨⟨h.1, fun y hy => h.2 y (List.mem_of_mem_take hy)⟩, h.2 x (List.mem_of_getElem? Hx.out)⟩
          refine ⟨v4, ys4, rfl, ?_, fun h0 h1 => ?_, by have := S4.len; omega, S4.ex, S4.gr⟩
          · have hh : noted (inB zs.length 0 400 && (zs.take i).all recOk && recOk x) e 1 = noted (streamOk zs) e 1 := by
              rcases hno with h | h
              · have hf : streamOk zs = false := by
                  cases hq : streamOk zs
                  · rfl
                  · rw [hso hq] at h; cases h
                rw [h, hf]
              · simp [noted, h]
            rw [← hh]; exact S4.at'
          · rcases hno with h | h
            · rw [hso h1] at h; cases h
            · exact absurd h0 h
      · go_wp2_with fail
        go_end0
        have : zs.take i = zs := List.take_of_length_le (by omega)
        rw [this] at S3
        obtain rfl : i = zs.length := by omega
        exact S3.done
  · have he1 : (noted (true && inB zs.length 0 400) e 1 != 0) = true := by simpa using he
    go_wp2_with fail
    refine bodyPost_ret (v := .tuple #[]) (results_none rfl _ _ _) rfl ?_
    refine ⟨v2, ys2, rfl, ?_, fun h0 h1 => ?_, by have := S2.len; omega, S2.ex, S2.gr⟩
    · have hh : noted (true && inB zs.length 0 400) e 1 = noted (streamOk zs) e 1 := by
        have h3 : ¬ (e = 0 ∧ (true && inB zs.length 0 400) = true) := fun h => he (noted_zero.2 h)
        unfold streamOk noted at *
        by_cases h0 : e = 0
        · cases hb : inB (zs.length : Int) 0 400
          · simp
          · exact absurd ⟨h0, by simp [hb]⟩ h3
        · simp [h0]
      rw [← hh]; exact S2.at'
    · exfalso
      refine he (noted_zero.2 ⟨h0, ?_⟩)
      unfold streamOk at h1
      simp only [Bool.and_eq_true] at h1
      simp [h1.1]
end
end Go.Proofs.Ytphmdhbhoakcaaa
