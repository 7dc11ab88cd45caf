/- Chapter 13's 'sector', and the law DiskStays, walked. -/
import Derived.Test.YtjgkanmhmkmdeaaDiskLaw
namespace Go.Proofs.Ytjgkanmhmkmdeaa
open Go.RowKit Go.Ad Go.Maps
set_option maxHeartbeats 800000 in
theorem sector_same (a : Option Addr) (len cap : Nat) (h : len = 0 ∨ 63 < len) (hm : len ≤ 9223372036854775807) (w : World) :
    Calls Try.prog 16 #[.slice a len cap] w fun e w' => e = .returned (.slice a len cap) ∧ w = w' := by
  by_cases h0 : len = 0
  · subst h0
    go_enter Try.func16, Try.ntmps16
    go_wp2
    go_ret
    exact ⟨rfl, rfl⟩
  · have h1 : 63 < len := by omega
    have h2 : ((len : Int) == 0) = false := by simpa using h0
    clear h
    go_enter Try.func16, Try.ntmps16
    go_wp2
    go_ret
    exact ⟨rfl, rfl⟩
theorem zeros_arr (n : Nat) : ((List.replicate n (0 : UInt8)).map bv).toArray = Array.replicate n (.int .u8 0) := by
  rw [List.map_replicate, List.toArray_replicate]; rfl
def SecI (w : World) (B : Nat) (k : Nat) (vi : Value) (wr : World) : Prop := ∃ (i : Nat) (ys : List UInt8), vi = .int .i64 (i : Int) ∧ i + k = 64 ∧ ys.length = 64 ∧ Blk wr B (ys.map bv).toArray 5 ∧ Ex [] w wr
set_option maxHeartbeats 1600000 in
theorem sector_new (a : Option Addr) (len cap : Nat) (xs : List UInt8) (w : World) (hx : BytesAt w a len xs) (h : 0 < len) (h' : len ≤ 63) :
    Calls Try.prog 16 #[.slice a len cap] w fun e w' => e = .returned (.slice (some ⟨w.heap.size, 0, none⟩) 64 64) ∧
      (∃ ys : List UInt8, ys.length = 64 ∧ Blk w' w.heap.size (ys.map bv).toArray 5) ∧ Ex [] w w' := by
  obtain ⟨hl, hx⟩ := hx
  rcases hx with rfl | ⟨b, o, rfl, hb, hr⟩
  · simp at hl; omega
  have h2 : ((len : Int) == 0) = false := by simp; omega
  have Hl := Lib.hid hl
  have Hr := Lib.hid hr
  clear hl hr
  go_enter Try.func16, Try.ntmps16
  go_wp2_with (refine G_val rfl (ex_make1 rfl rfl rfl Try.underlying31 infoU8 rfl (by omega) (by omega) (by omega)) ?_)
  go_loopg [4] 64 (fun k vi wr => SecI w w.heap.size k vi wr)
  case atStart => exact ⟨0, List.replicate 64 0, rfl, rfl, List.length_replicate, by rw [zeros_arr]; exact Blk.new w (Array.replicate 64 (.int .u8 0)) 5, (Ex.refl [] _).alloc _⟩
  case round =>
    obtain ⟨i, ys, rfl, hk, hy, B, X⟩ := hrel
    have Hk := Lib.hid hk
    have Hy := Lib.hid hy
    clear hk hy
    have hi : i ≤ 64 := by have := Hk.out; omega
    by_cases hlt : i < 64
    · have hm0 : 0 ≤ (i : Int) % (len : Int) := Int.emod_nonneg _ (by omega)
      have hm1 : (i : Int) % (len : Int) < (len : Int) := Int.emod_lt_of_pos _ (by omega)
      have hm2 : i % len < len := Nat.mod_lt _ h
      obtain ⟨x, hxx⟩ : ∃ x, xs[i % len]? = some x := ⟨xs[i % len]'(by rw [Hl.out]; exact hm2), by simp⟩
      have c : wr.cell? ⟨b, o + i % len, none⟩ = some (.int .u8 (x.toNat : Int)) := by
        rw [X.cell (p := ⟨b, o + i % len, none⟩) hb (by simp)]
        exact Hr.out _ _ (by simp [hxx])
      obtain ⟨y, hyy⟩ : ∃ y, ys[i]? = some y := ⟨ys[i]'(by rw [Hy.out]; exact hlt), by simp⟩
      have c2 : wr.cell? ⟨w.heap.size, i, none⟩ = some (.int .u8 (y.toNat : Int)) := by rw [B.cell]; simp [hyy]
      have f2 : wr.frozen? ⟨w.heap.size, i, none⟩ = false := B.froz i
      clear hxx hyy hm2
      go_wp2
      go_roundg (gk - 1)
      case measure => have := Hk.out; omega
      case rel =>
        refine ⟨i + 1, ys.set i x, by go_num, by have := Hk.out; omega, by rw [List.length_set]; exact Hy.out, ?_, X.setCell (.inr (Nat.le_refl _)) _⟩
        have := B.set i (.int .u8 (x.toNat : Int))
        rw [List.map_set]
        simpa using this
    · have : i = 64 := by omega
      subst this
      go_wp2
      go_ret
      exact ⟨rfl, ⟨ys, Hy.out, B⟩, X⟩

/-- A call of a disk as it lies in memory. -/
structure CallD where
  k : Int
  n : Int
  a : Option Addr
  len : Nat
  cap : Nat
  xs : List UInt8
def CallsAt (W : World) (a : Option Addr) (cs : List CallD) : Prop := cs = [] ∨ ∃ b o, a = some ⟨b, o, none⟩ ∧ b < W.heap.size ∧ ∀ i c, cs[i]? = some c →
  W.cell? ⟨b, o + i * 3, none⟩ = some (.int .i64 c.k) ∧ W.cell? ⟨b, o + i * 3 + 1, none⟩ = some (.int .i64 c.n) ∧ W.cell? ⟨b, o + i * 3 + 2, none⟩ = some (.slice c.a c.len c.cap) ∧
  BytesAt W c.a c.len c.xs ∧ c.len ≤ maxLen ∧ (Lit.int .i64 c.n).wf = true

/-- The disk of the law: sector 3 holds these bytes. -/
def StayD (wr : World) (b m : Nat) (j : Nat) (ys : List UInt8) : Prop := ∃ (l wt : Int) (dead : Bool) (f : Value → Option Value), DiskAt wr b m 8 wt l dead f ∧ -1 ≤ l ∧ l ≤ 9223372036854775807 ∧ 0 ≤ wt ∧ wt ≤ j + 1 ∧ f (.int .i64 3) = some (.agg (ys.map bv).toArray)
def StayI (W : World) (b m : Nat) (ys : List UInt8) (xb xo : Nat) (k : Nat) (vi : Value) (wr : World) : Prop :=
  ∃ (i : Nat), vi = .int .i64 (i : Int) ∧ i + k = 60 ∧ StayD wr b m i ys ∧ Ex [] W wr ∧ xb < wr.heap.size ∧ xb ≠ b ∧ wr.rangeAt xb xo (ys.map bv)

set_option maxHeartbeats 400000 in
theorem write_any (b m : Nat) (n s wr l : Int) (dead : Bool) (f : Value → Option Value) (a : Option Addr) (len cap : Nat) (xs : List UInt8) (w : World)
    (D : DiskAt w b m s wr l dead f) (hx : BytesAt w a len xs) (hxb : ∀ c o, 0 < len → a = some ⟨c, o, none⟩ → c ≠ b) (hsm : s ≤ 1024) (hl1 : -1 ≤ l) (hl2 : l ≤ 9223372036854775807) (hwr : 0 ≤ wr) (hwr' : wr < 1000000) :
    Calls Try.prog 12 #[ptr b, .int .i64 n, .slice a len cap] w fun e w' => ∃ er, e = .returned (.int .i64 er) ∧
      (∃ (l' wr' : Int) (dead' : Bool) (f' : Value → Option Value), DiskAt w' b m s wr' l' dead' f' ∧ -1 ≤ l' ∧ l' ≤ 9223372036854775807 ∧ 0 ≤ wr' ∧ wr' ≤ wr + 1 ∧ (∀ k, k ≠ n → f' (.int .i64 k) = f (.int .i64 k))) ∧ Ex [b, m] w w' := by
  cases dead with
  | true =>
    refine (DiskWrite_dead _ D).mono ?_
    rintro e w' ⟨rfl, rfl⟩
    exact ⟨11, rfl, ⟨l, wr, true, f, D, hl1, hl2, hwr, by omega, fun _ _ => rfl⟩, Ex.refl _ _⟩
  | false =>
    by_cases h : n < 0 ∨ s ≤ n ∨ len ≠ 64
    · refine (DiskWrite_arg _ _ _ D h).mono ?_
      rintro e w' ⟨rfl, rfl⟩
      exact ⟨1, rfl, ⟨l, wr, false, f, D, hl1, hl2, hwr, by omega, fun _ _ => rfl⟩, Ex.refl _ _⟩
    · obtain ⟨h1, h2, h3⟩ : 0 ≤ n ∧ n < s ∧ len = 64 := by omega
      subst h3
      by_cases hl : l = 0
      · subst hl
        refine (DiskWrite_cut _ _ D h1 h2).mono ?_
        rintro e w' ⟨rfl, D', X⟩
        exact ⟨11, rfl, ⟨0, wr, true, f, D', by omega, by omega, hwr, by omega, fun _ _ => rfl⟩, X.mono (by simp)⟩
      · obtain ⟨hx1, hx2⟩ := hx
        rcases hx2 with rfl | ⟨c, o, rfl, hc, hr⟩
        · simp at hx1
        refine (DiskWrite_ok c o cap (xs.map bv) (by simpa using hx1) D hr h1 h2 hsm hl hl1 hl2 hwr hwr' (hxb c o (by omega) rfl)).mono ?_
        rintro e w' ⟨rfl, D', X⟩
        refine ⟨0, rfl, ⟨_, wr + 1, false, _, D', by split <;> omega, by split <;> omega, by omega, by omega, fun k hk => upd_other _ _ (by simpa using hk)⟩, X⟩

theorem sector_any (a : Option Addr) (len cap : Nat) (xs : List UInt8) (w : World) (hx : BytesAt w a len xs) (hm : len ≤ 9223372036854775807) :
    Calls Try.prog 16 #[.slice a len cap] w fun e w' => ∃ a' len' cap' ys, e = .returned (.slice a' len' cap') ∧ BytesAt w' a' len' ys ∧ len' ≤ 9223372036854775807 ∧
      ((a' = a ∧ len' = len ∧ cap' = cap) ∨ (a' = some ⟨w.heap.size, 0, none⟩ ∧ len' = 64 ∧ cap' = 64)) ∧ (0 < len → len ≤ 64 → len' = 64) ∧ Ex [] w w' := by
  by_cases h : 0 < len ∧ len ≤ 63
  · refine (sector_new a len cap xs w hx h.1 h.2).mono ?_
    rintro e w' ⟨rfl, ⟨ys, hy, B⟩, X⟩
    exact ⟨_, _, _, ys, rfl, ⟨hy, .inr ⟨_, 0, rfl, B.lt, by simpa using B.range0⟩⟩, by omega, .inr ⟨rfl, rfl, rfl⟩, fun _ _ => rfl, X⟩
  · refine (sector_same a len cap (by omega) hm w).mono ?_
    rintro e w' ⟨rfl, rfl⟩
    exact ⟨_, _, _, xs, rfl, hx, hm, .inl ⟨rfl, rfl, rfl⟩, fun _ _ => by omega, Ex.refl _ _⟩

set_option maxRecDepth 100000 in
set_option maxHeartbeats 3200000 in
theorem diskStays_walk (a : Option Addr) (len cap : Nat) (xs : List UInt8) (ca : Option Addr) (ccap : Nat) (cs : List CallD) (W : World) (hx : BytesAt W a len xs) (hnil : a = none → cap = 0) (hlen : len ≤ 140737488351232)
    (hcs : CallsAt W ca cs) (_hcl : cs.length ≤ 9223372036854775807) :
    Calls Try.prog 4 #[.slice a len cap, .slice ca cs.length ccap] W fun e w' => e = .returned (.bool true) ∧ Ex [] W w' := by
  have Hcs := Lib.hid hcs
  have Hnil := Lib.hid hnil
  clear hcs hnil
  go_enter Try.func4, Try.ntmps4
  go_wp2_with fail
  refine (known13 _).mono ?_
  rintro e w1 ⟨rfl, X1⟩
  go_wp2_with fail
  refine (DiskNew_ok (by omega) (by omega) _).mono ?_
  rintro e w2 ⟨rfl, D2, X2⟩
  have hs1 := X1.size
  go_wp2_with (refine G_append_bytes rfl rfl Try.underlying31 infoU8 rfl rfl (base := w2.heap.size) (n := 1) (ys := [1]) (xs := xs) ?own ?bytes Hnil.out (by omega) ?base ?next)
  case own => exact World.ownsRow_lit w2 #[.int .u8 1] 1 (Nat.le_refl _) (by simp [maxLen]) rfl
  case bytes => exact hx.ex (((X1.trans X2)).alloc _) (by simp)
  case base => simp
  case next =>
    intro v3 w3 O3 G3 L3
    have hd2 := D2.lt
    have X23 : Ex [] w2 (w2.alloc (.cells #[.int .u8 1] 5)) := (Ex.refl [] _).alloc _
    have X3 : Ex [] w2 w3 := X23.own (Ex.of_own (l := [w2.heap.size]) G3 (by simp [Value.ownBlock])) (by simp)
    obtain ⟨g, gc, rfl, hg1, _, B3⟩ := own_bytes (ys := 1 :: xs) O3 (show 0 < 1 + len by omega)
    have D3 := D2.ex X3 (by simp) (by simp)
    have W3 : Ex [] W w3 := (X1.trans X2).trans X3
    clear O3 G3 L3 X23 X1 X2 D2
    go_wp2_with fail
    refine (sector_any _ _ _ _ _ B3 (by omega)).mono ?_
    rintro e w4 ⟨a4, l4, c4, ys, rfl, B4, hl4, H4, H4', X4⟩
    have D4 := D3.ex X4 (by simp) (by simp)
    have W4 := W3.trans X4
    have hs4 := X4.size
    have hs3 := X3.size
    by_cases h64 : l4 = 64
    · subst h64
      obtain ⟨hy, rfl | ⟨xb, xo, rfl, hxb, hxr⟩⟩ := B4
      · simp at hy
      have hne : w2.heap.size ≤ xb := by
        rcases H4 with ⟨h, _⟩ | ⟨h, _⟩
        · cases h; exact hg1
        · cases h; omega
      have Hy := Lib.hid hy
      have Hxr := Lib.hid hxr
      clear H4 H4' B3 D3 hy hxr
      go_wp2_with fail
      refine (DiskWrite_ok xb xo _ (ys.map bv) (by simpa using Hy.out) D4 Hxr.out (by omega) (by omega) (by omega) (by omega) (by omega) (by omega) (by omega) (by omega) (by omega)).mono ?_
      rintro e w5 ⟨rfl, D5, X5⟩
      have W5 := W4.own X5 (by simp; omega)
      have hr5 : w5.rangeAt xb xo (ys.map bv) := rangeAt_ex Hxr.out X5 hxb (by simp; omega)
      go_wp2_with fail
      have hxb5 : xb < w5.heap.size := Nat.lt_of_lt_of_le hxb X5.size
      have hxne : xb ≠ w1.heap.size + 1 := by omega
      have hxne2 : w1.heap.size < xb := by omega
      have hB : W.heap.size ≤ w1.heap.size := hs1
      clear D4 X4 X5 X3 Hxr W3 W4 hxb hd2 hs3 hs4
      go_loopg [8] 60 (fun k vi wr => StayI W (w1.heap.size + 1) w1.heap.size ys xb xo k vi wr)
      case atStart => exact ⟨0, rfl, rfl, ⟨-1, 1, false, _, D5, by omega, by omega, by omega, by omega, upd_same _ _ _⟩, W5, hxb5, hxne, hr5⟩
      case round =>
        obtain ⟨i, rfl, hk, D, X, hx1, hx2, hr⟩ := hrel
        have Hk := Lib.hid hk
        have Hr := Lib.hid hr
        have HD := Lib.hid D
        clear hk hr D D5 W5 hr5
        by_cases hin : i < cs.length ∧ i < 60
        · obtain ⟨hin1, hin2⟩ := hin
          rcases Hcs.out with h | ⟨cb, co, rfl, hcb, hcc⟩
          · rw [h] at hin1; simp at hin1
          obtain ⟨c, hc⟩ : ∃ c, cs[i]? = some c := ⟨cs[i], by simp⟩
          obtain ⟨q0, q1, q2, qB, qm, qw⟩ := hcc i c hc
          have hcx := fun o => X.cell (p := ⟨cb, o, none⟩) hcb (by simp)
          have r0 := (hcx _).trans q0
          have r1 := (hcx _).trans q1
          have r2 := (hcx _).trans q2
          have hin3 : (i : Int) < cs.length := by omega
          clear hc hcc hcx q0 q1 q2 hin1
          obtain ⟨ck, cn, ca, cl, ccp, cxs⟩ := c
          simp only at r0 r1 r2 qB qm qw
          by_cases hk2 : ck = 2 ∧ cn ≠ 3
          · obtain ⟨hk2, hn3⟩ := hk2
            subst hk2
            have hn3' : (cn != 3) = true := by simpa using hn3
            clear hn3
            go_wp2
            have X6 : Ex [] wr (wr.alloc (.cells #[.int .i64 2, .int .i64 cn, .slice ca cl ccp] 37)) := (Ex.refl [] _).alloc _
            have B6 := Blk.new wr #[.int .i64 2, .int .i64 cn, .slice ca cl ccp] 37
            generalize wr.alloc (.cells #[.int .i64 2, .int .i64 cn, .slice ca cl ccp] 37) = w6 at *
            replace X6 := X6.drew
            replace B6 := B6.drew
            refine wp_region_ord (fun w' => w'.cell? ⟨wr.heap.size, 1, none⟩ = some (.int .i64 cn) ∧ w'.cell? ⟨wr.heap.size, 2, none⟩ = some (.slice ca cl ccp)) [] [(0, true), (1, true), (2, true), (3, true), (4, true), (5, false), (6, false)]
              (by kernel_rfl) (by kernel_rfl) (by kernel_rfl) (by kernel_rfl) rfl (by intro c a d v w h; cases d <;> exact h) ⟨B6.cell 1, B6.cell 2⟩ ?_
            simp only [mkOrd, List.filterMap_cons, List.filterMap_nil, List.getElem?_toArray, List.getElem?_cons_zero, List.getElem?_cons_succ, Option.map_some]
            generalize w6.drew = w7 at *
            iterate 5
              refine ord_take (v := ?_) rfl ?_ ?_
              rotate_left
              · intro w' hS
                obtain ⟨s1, s2⟩ := hS
                go_simp
                with_reducible rfl
              go_frame
            refine ord_enter rfl (ex_call (vs := [.slice ca cl ccp]) rfl Try.func16 rfl (by kernel_rfl) rfl) ?_
            obtain ⟨l, wt, dead, f, D, hl1, hl2, hw1, hw2, hf⟩ := HD.out
            have Hf := Lib.hid hf
            clear hf
            have hwb := D.lt
            have D6 := D.ex X6 (by simp) (by simp)
            have BB6 := qB.ex (X.trans X6) (by simp)
            have hs6 := X6.size
            with_reducible refine (sector_any ca cl ccp cxs _ BB6 (by unfold maxLen at qm; exact qm)).mono ?_
            rintro e w7' ⟨a7, l7, c7, y7, rfl, B7, _, H7, _, X7⟩
            have C7 := B6.ex X7 (by simp)
            have D7 := D6.ex X7 (by simp) (by simp)
            refine ⟨_, rfl, fun _ => ⟨C7.cell 1, C7.cell 2⟩, ?_⟩
            go_frame
            refine ord_enter rfl (ex_call (vs := [ptr (w1.heap.size + 1), .int .i64 cn, .slice a7 l7 c7]) rfl Try.func12 rfl (by kernel_rfl) rfl) ?_
            with_reducible refine (write_any (w1.heap.size + 1) w1.heap.size cn 8 wt l dead f a7 l7 c7 y7 w7' D7 B7 ?_ (by omega) hl1 hl2 hw1 (by omega)).mono ?_
            · intro c o hpos hc
              rcases H7 with ⟨h, hl7, _⟩ | ⟨h, _⟩
              · rw [hc] at h
                obtain ⟨hq1, hq⟩ := qB
                rcases hq with rfl | ⟨_, _, hq, hq2, _⟩
                · simp at hq1; omega
                · rw [hq] at h; cases h; omega
              · rw [hc] at h; cases h; simp; omega
            rintro e w8 ⟨er, rfl, ⟨l8, wt8, dead8, f8, D8, g1, g2, g3, g4, g5⟩, X8⟩
            have C8 := C7.ex X8 (by simp; omega)
            refine ⟨_, rfl, fun _ => ⟨C8.cell 1, C8.cell 2⟩, ?_⟩
            go_frame
            refine ord_nil ?_
            have hxb8 := Nat.lt_of_lt_of_le hx1 (Nat.le_trans hs6 (Nat.le_trans X7.size X8.size))
            have hr8 := rangeAt_ex (rangeAt_ex (rangeAt_ex Hr.out X6 hx1 (by simp)) X7 (Nat.lt_of_lt_of_le hx1 hs6) (by simp)) X8 (Nat.lt_of_lt_of_le hx1 (Nat.le_trans hs6 X7.size)) (by simp; omega)
            have hcell8 := C8.cell
            clear D D6 D7 C7 B6 BB6 B7 H7
            go_wp2
            go_roundg (gk - 1)
            case measure => have := Hk.out; omega
            case rel =>
              have hg5 := g5 3 (by simpa using Ne.symm (by simpa using hn3'))
              exact ⟨i + 1, by go_num, by have := Hk.out; omega, ⟨l8, wt8, dead8, f8, D8, g1, g2, g3, by omega, by rw [hg5]; exact Hf.out⟩, ((X.trans X6).trans X7).own X8 (by simp; omega), hxb8, hx2, hr8⟩
          · by_cases hk3 : ck = 3
            · subst hk3
              have hcn : -9223372036854775808 ≤ cn ∧ cn ≤ 9223372036854775807 := by simpa [Lit.wf, IntKind.min, IntKind.max, IntKind.signed, IntKind.bits] using qw
              clear hk2
              go_wp2_with fail
              have X6 : Ex [] wr (wr.alloc (.cells #[.int .i64 3, .int .i64 cn, .slice ca cl ccp] 37)) := (Ex.refl [] _).alloc _
              have B6 := Blk.new wr #[.int .i64 3, .int .i64 cn, .slice ca cl ccp] 37
              generalize wr.alloc (.cells #[.int .i64 3, .int .i64 cn, .slice ca cl ccp] 37) = w6 at *
              have hs6 := X6.size
              obtain ⟨l, wt, dead, f, D, hl1, hl2, hw1, hw2, hf⟩ := HD.out
              have Hf := Lib.hid hf
              clear hf
              have hwb := D.lt
              have D6 := D.ex X6 (by simp) (by simp)
              have hr6 := rangeAt_ex Hr.out X6 hx1 (by simp)
              have hc6 := B6.cell
              with_reducible refine (DiskCut_any D6).mono ?_
              rintro e w8 ⟨rfl, D8, X8⟩
              have hr8 := rangeAt_ex hr6 X8 (Nat.lt_of_lt_of_le hx1 hs6) (by simp; omega)
              have hc8 := (B6.ex X8 (by simp; omega)).cell
              have hs8 := X8.size
              clear hc6 D D6
              go_wp2_with fail
              go_roundg (gk - 1)
              case measure => have := Hk.out; omega
              case rel => exact ⟨i + 1, by go_num, by have := Hk.out; omega, ⟨max cn (-1), wt, dead, f, D8, by omega, by omega, hw1, by omega, Hf.out⟩, (X.trans X6).own X8 (by simp; omega), by omega, hx2, hr8⟩
            by_cases hk4 : ck = 4
            · subst hk4
              clear hk2 hk3
              go_wp2_with fail
              have X6 : Ex [] wr (wr.alloc (.cells #[.int .i64 4, .int .i64 cn, .slice ca cl ccp] 37)) := (Ex.refl [] _).alloc _
              have B6 := Blk.new wr #[.int .i64 4, .int .i64 cn, .slice ca cl ccp] 37
              generalize wr.alloc (.cells #[.int .i64 4, .int .i64 cn, .slice ca cl ccp] 37) = w6 at *
              have hs6 := X6.size
              obtain ⟨l, wt, dead, f, D, hl1, hl2, hw1, hw2, hf⟩ := HD.out
              have Hf := Lib.hid hf
              clear hf
              have hwb := D.lt
              have D6 := D.ex X6 (by simp) (by simp)
              have hr6 := rangeAt_ex Hr.out X6 hx1 (by simp)
              have hc6 := B6.cell
              with_reducible refine (DiskStart_any D6).mono ?_
              rintro e w8 ⟨rfl, D8, X8⟩
              have hr8 := rangeAt_ex hr6 X8 (Nat.lt_of_lt_of_le hx1 hs6) (by simp; omega)
              have hs8 := X8.size
              clear hc6 D D6
              go_wp2_with fail
              go_roundg (gk - 1)
              case measure => have := Hk.out; omega
              case rel => exact ⟨i + 1, by go_num, by have := Hk.out; omega, ⟨-1, wt, false, f, D8, by omega, by omega, hw1, by omega, Hf.out⟩, (X.trans X6).own X8 (by simp; omega), by omega, hx2, hr8⟩
            by_cases hk5 : ck = 2
            · subst hk5
              obtain rfl : cn = 3 := by simpa using hk2
              clear hk2 hk3 hk4
              go_wp2_with fail
              have X6 : Ex [] wr (wr.alloc (.cells #[.int .i64 2, .int .i64 3, .slice ca cl ccp] 37)) := (Ex.refl [] _).alloc _
              have B6 := Blk.new wr #[.int .i64 2, .int .i64 3, .slice ca cl ccp] 37
              generalize wr.alloc (.cells #[.int .i64 2, .int .i64 3, .slice ca cl ccp] 37) = w6 at *
              have hs6 := X6.size
              obtain ⟨l, wt, dead, f, D, hl1, hl2, hw1, hw2, hf⟩ := HD.out
              have Hf := Lib.hid hf
              clear hf
              have hwb := D.lt
              have D6 := D.ex X6 (by simp) (by simp)
              have hr6 := rangeAt_ex Hr.out X6 hx1 (by simp)
              have hc6 := B6.cell
              clear D hc6
              go_roundg (gk - 1)
              case measure => have := Hk.out; omega
              case rel => exact ⟨i + 1, by go_num, by have := Hk.out; omega, ⟨l, wt, dead, f, D6, by omega, by omega, hw1, by omega, Hf.out⟩, X.trans X6, by omega, hx2, hr6⟩
            · have e2 : (ck == 2) = false := by simpa using hk5
              have e3 : (ck == 3) = false := by simpa using hk3
              have e4 : (ck == 4) = false := by simpa using hk4
              clear hk2 hk3 hk4 hk5
              go_wp2_with fail
              have X6 : Ex [] wr (wr.alloc (.cells #[.int .i64 ck, .int .i64 cn, .slice ca cl ccp] 37)) := (Ex.refl [] _).alloc _
              have B6 := Blk.new wr #[.int .i64 ck, .int .i64 cn, .slice ca cl ccp] 37
              generalize wr.alloc (.cells #[.int .i64 ck, .int .i64 cn, .slice ca cl ccp] 37) = w6 at *
              have hs6 := X6.size
              obtain ⟨l, wt, dead, f, D, hl1, hl2, hw1, hw2, hf⟩ := HD.out
              have Hf := Lib.hid hf
              clear hf
              have hwb := D.lt
              have D6 := D.ex X6 (by simp) (by simp)
              have hr6 := rangeAt_ex Hr.out X6 hx1 (by simp)
              have hc6 := B6.cell
              clear D hc6
              go_roundg (gk - 1)
              case measure => have := Hk.out; omega
              case rel => exact ⟨i + 1, by go_num, by have := Hk.out; omega, ⟨l, wt, dead, f, D6, by omega, by omega, hw1, by omega, Hf.out⟩, X.trans X6, by omega, hx2, hr6⟩
        · have hnot : ¬ (i : Int) < cs.length ∨ (i : Int) < cs.length ∧ ¬ (i : Int) < 60 := by omega
          clear hin
          obtain ⟨l, wt, dead, f, D, hl1, hl2, hw1, hw2, hf⟩ := HD.out
          have Hf := Lib.hid hf
          clear hf
          rcases hnot with hnot | ⟨hnot, hnot2⟩
          all_goals
            go_wp2_with fail
            refine (DiskStart_any D).mono ?_
            rintro e w6 ⟨rfl, D6, X6⟩
            go_wp2_with fail
            refine (DiskRead_ok D6 (by omega) (by omega) (by omega) (ys.map bv).toArray (by simpa using Hy.out) (by rw [Hf.out]; rfl) (all_bv ys)).mono ?_
            rintro e w7 ⟨rfl, rfl⟩
            have r6 := rangeAt_ex Hr.out X6 hx1 (by simp; omega)
            have X7 : Ex [] w6 (w6.alloc (.cells (ys.map bv).toArray 71)) := (Ex.refl [] _).alloc _
            have B7 := (Blk.new w6 (ys.map bv).toArray 71).bytes Hy.out
            have B8 : BytesAt (w6.alloc (.cells (ys.map bv).toArray 71)) (some ⟨xb, xo, none⟩) 64 ys := ⟨Hy.out, .inr ⟨xb, xo, rfl, Nat.lt_of_lt_of_le hx1 (Nat.le_trans X6.size X7.size), rangeAt_ex r6 X7 (Nat.lt_of_lt_of_le hx1 X6.size) (by simp)⟩⟩
            generalize (w6.alloc (.cells (ys.map bv).toArray 71)) = w7 at *
            go_wp2_with (first | (refine G_val rfl (ex_convert rfl rfl (run_bytes_string Try.underlying31 Try.underlying5 Try.underlying9 B7)) ?_) | (refine G_val rfl (ex_convert rfl rfl (run_bytes_string Try.underlying31 Try.underlying5 Try.underlying9 B8)) ?_))
            go_ret
            exact ⟨by simp, (X.own X6 (by simp; omega)).trans X7⟩
    · clear H4 H4' B3 D3
      have hne : ((l4 : Int) != 64) = true := by rw [bne_iff_ne]; omega
      go_wp2_with fail
      go_ret
      exact ⟨rfl, W4⟩

theorem cellsCall : Try.prog.cellsOf 37 = 3 := by kernel_rfl
/-- The calls that came in, as they lie in memory. -/
theorem calls_of {H : Type} {enc : TypeId × Value → H} {W : World} {base : Nat} {sp : Nat → Bool} {held : Bool} {fuel : Nat} {a : Option Addr} {len cap : Nat} {x : DataW H × List MemPlace}
    (h : DataW.trod enc Try.prog W base sp held fuel 34 [.slice a len cap] = some x) : ∃ cs : List CallD, cs.length = len ∧ CallsAt W a cs := by
  rcases slice_cells Try.underlying34 cellsCall (by omega) h with rfl | ⟨b, o, f', rfl, hb, hc⟩
  · exact ⟨[], rfl, .inl rfl⟩
  · have hk : ∀ i, i < len → ∃ c : CallD, W.cell? ⟨b, o + i * 3, none⟩ = some (.int .i64 c.k) ∧ W.cell? ⟨b, o + i * 3 + 1, none⟩ = some (.int .i64 c.n) ∧ W.cell? ⟨b, o + i * 3 + 2, none⟩ = some (.slice c.a c.len c.cap) ∧
        BytesAt W c.a c.len c.xs ∧ c.len ≤ maxLen ∧ (Lit.int .i64 c.n).wf = true := fun i hi => by
      obtain ⟨cs, y, hl, hcell, ht⟩ := hc i hi
      obtain ⟨xs, m, _, _, _, hxl, hf⟩ := DataW.trod_struct Try.underlying37 ht
      match cs, hl with
      | [v0, v1, v2], _ =>
        have g0 := hf 0 _ rfl
        have g1 := hf 1 _ rfl
        have g2 := hf 2 _ rfl
        match xs, hxl with
        | [y0, y1, y2], _ =>
          have c3 : Try.prog.cellsOf 3 = 1 := by kernel_rfl
          have c31 : Try.prog.cellsOf 31 = 1 := by kernel_rfl
          simp [c3, c31] at g0 g1 g2
          obtain ⟨k, hk1, _, _⟩ := DataW.trod_int Try.underlying3 g0
          obtain ⟨n, hn1, _, hnw⟩ := DataW.trod_int Try.underlying3 g1
          simp only [List.cons.injEq, and_true] at hk1 hn1
          subst hk1
          subst hn1
          obtain ⟨a, l, c, rfl⟩ := slice_shape Try.underlying31 g2
          obtain ⟨bs, hm, hB, _⟩ := bytes_of Try.underlying31 (by kernel_rfl) Try.underlying5 g2
          exact ⟨⟨k, n, a, l, c, bs⟩, by simpa using hcell 0 (by omega), by simpa using hcell 1 (by omega), by simpa using hcell 2 (by omega), hB, hm, hnw⟩
    obtain ⟨f, hf⟩ : ∃ f : Nat → CallD, ∀ i, i < len → W.cell? ⟨b, o + i * 3, none⟩ = some (.int .i64 (f i).k) ∧ W.cell? ⟨b, o + i * 3 + 1, none⟩ = some (.int .i64 (f i).n) ∧ W.cell? ⟨b, o + i * 3 + 2, none⟩ = some (.slice (f i).a (f i).len (f i).cap) ∧
        BytesAt W (f i).a (f i).len (f i).xs ∧ (f i).len ≤ maxLen ∧ (Lit.int .i64 (f i).n).wf = true :=
      ⟨fun i => if hi : i < len then Classical.choose (hk i hi) else ⟨0, 0, none, 0, 0, []⟩, fun i hi => by
        have := Classical.choose_spec (hk i hi)
        simp only [hi, dif_pos]
        exact this⟩
    refine ⟨(List.range len).map f, by simp, .inr ⟨b, o, rfl, hb, fun i c hc => ?_⟩⟩
    have hi : i < len := by have := (List.getElem?_eq_some_iff.1 hc).1; simpa using this
    simp [hi] at hc
    subst hc
    exact hf i hi
end Go.Proofs.Ytjgkanmhmkmdeaa
