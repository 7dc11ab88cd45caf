/- The reader: down. -/
import Derived.Test.YtphmdhbhoakcaaaR5
namespace Go.Proofs.Ytphmdhbhoakcaaa
open Go.RowKit Go.Ad Go.Maps
set_option linter.unusedVariables false
set_option linter.unusedSimpArgs false
/-! ### KDown -/
def downH (bs : List UInt8) (c : List Value) (k : Nat) (e : Int) : List Value × Nat × Int :=
  let r := rdNum bs 1 1 7 k e
  let s := rdNum bs 1 0 4 r.2.1 r.2.2
  rdNums bs [15, 16] ((c.set 13 (.int .i64 r.1)).set 14 (.int .i64 (if s.1 = 4 then -1 else s.1))) s.2.1 s.2.2
abbrev n4 (bs : List UInt8) (p : Nat × Int) : Int × Nat × Int := rdNum bs 4 0 1073741823 p.1 p.2
def seatK (bs : List UInt8) (p : Nat × Int) : Nat → Nat × Int
  | 0 => p
  | i + 1 => (rdRow bs (n4 bs (seatK bs p i)).2.1 (n4 bs (seatK bs p i)).2.2).2
def rowF (bs : List UInt8) (p : Nat × Int) (i : Nat) : Option (List Int) := (rdRow bs (n4 bs (seatK bs p i)).2.1 (n4 bs (seatK bs p i)).2.2).1
def seatC (bs : List UInt8) (p : Nat × Int) (us : Nat → Value) : Nat → List Value → List Value
  | 0, c => c
  | i + 1, c => ((seatC bs p us i c).set (18 + i) (.int .i64 (n4 bs (seatK bs p i)).1)).set (22 + i) (us i)
theorem seatC_congr {bs : List UInt8} {p : Nat × Int} {us vs : Nat → Value} : ∀ (i : Nat) {c : List Value}, (∀ s, s < i → us s = vs s) → seatC bs p us i c = seatC bs p vs i c
  | 0, _, _ => rfl
  | i + 1, c, h => by rw [seatC, seatC, seatC_congr i (fun s hs => h s (by omega)), h i (by omega)]
theorem seatC_get {bs : List UInt8} {p : Nat × Int} {us : Nat → Value} {j : Nat} {v : Value} : ∀ (i : Nat) {c : List Value}, (∀ s, s < i → j ≠ 18 + s ∧ j ≠ 22 + s) → c[j]? = some v → (seatC bs p us i c)[j]? = some v
  | 0, _, _, h => h
  | i + 1, c, hn, h => by
    obtain ⟨h1, h2⟩ := hn i (by omega)
    rw [seatC, List.getElem?_set_ne (by omega), List.getElem?_set_ne (by omega)]
    exact seatC_get i (fun s hs => hn s (by omega)) h
section
variable {W : World} {b : Nat} {a a' : Option Addr} {n c k : Nat} {e : Int} {bs : List UInt8} {y : Bk} {j : Nat} {u0 : Value}
/-- What the reader did of a KDown's fields. -/
def DownP (bs : List UInt8) (c : List Value) (k : Nat) (e : Int) (b : Nat) (a : Option Addr) (n cp : Nat) (y : Bk) (L : List Bk) : Prop :=
  ∃ x u us bl, Rds b a n cp (n4 bs (seatK bs (rdStream bs (downH bs c k e).2.1 (downH bs c k e).2.2).2 4)).2.1 (n4 bs (seatK bs (rdStream bs (downH bs c k e).2.1 (downH bs c k e).2.2).2 4)).2.2 x ∧
    L = x :: { y with c := (seatC bs (rdStream bs (downH bs c k e).2.1 (downH bs c k e).2.2).2 us 4 ((downH bs c k e).1.set 17 u)).set 26 (.int .i64 (n4 bs (seatK bs (rdStream bs (downH bs c k e).2.1 (downH bs c k e).2.2).2 4)).1) } :: bl ∧
    InStr u bl (rdStream bs (downH bs c k e).2.1 (downH bs c k e).2.2).1 ∧ ∀ s, s < 4 → InRow (us s) bl (rowF bs (rdStream bs (downH bs c k e).2.1 (downH bs c k e).2.2).2 s)
set_option maxRecDepth 100000 in
theorem down_d (hk : RdAt a n c k a') (hx : (rd b a' n c k e).holds W) (hy : y.holds W) (hne : b ≠ y.b) (hs : Src W [b, y.b] a n c bs) (h14 : y.c[14]? = some (.int .i64 0)) (hI : ∀ i, i ∈ [13, 15, 16, 18, 19, 20, 21, 26] → IntAt y.c i) (hN : ∀ i, i ∈ [17, 22, 23, 24, 25] → y.c[i]? = some (.slice none 0 0)) :
    Does Try.prog 43 [.iface 67 (ptr b), ptr y.b] W [b, y.b] (fun v L => v = .tuple #[] ∧ DownP bs y.c k e b a n c y L) := by
  obtain ⟨yb, yt, yk, ycap, yc⟩ := y
  simp only at hne hs h14 hI hN ⊢
  unfold DownP
  dsimp only
  refine enter Try.func43 rfl rfl rfl (Has.starts (xs := [rd b a' n c k e, ⟨yb, yt, yk, ycap, yc⟩]) (by simp; exact ⟨hx, hy⟩) (by simpa using hne)) ?_
  obtain ⟨q13, hq13⟩ := hI 13 (by decide)
  refine c_seq ?_
  -- wire.go:191
  refine c_reg ?_
  refine s_y (Y_mv) rfl rfl ?_
  refine s_y (Y_mv) rfl rfl ?_
  refine s_y ((by first | exact Y_nil rfl | exact Y_nilF rfl | exact Y_nilM rfl (by assumption) | exact Y_nilM rfl (by intro w k; kernel_rfl))) rfl rfl ?_
  refine s_y (Y_fa 13 rfl Try.underlying29 rfl sz3 rfl) rfl rfl ?_
  refine s_cm [rd b a' n c k e, ⟨yb, yt, yk, ycap, yc⟩] (En_call (fun _ => rfl) Try.func47 rfl (by kernel_rfl) rfl) (by repeat (first | exact Sels.nil | apply Sels.cons (by repeat (first | exact Sel.head | apply Sel.tail)))) (fun w hH => number_d (m := 1) (y := ⟨yb, yt, yk, ycap, yc⟩) (by omega) (by omega) hk (hH.at' (by repeat (first | exact List.Mem.head _ | assumption | apply List.Mem.tail | apply List.mem_append_right))) (hH.at' (by repeat (first | exact List.Mem.head _ | assumption | apply List.Mem.tail | apply List.mem_append_right))) hne (hs.call2 (rd b a' n c k e) ⟨yb, yt, yk, ycap, yc⟩ hH (by repeat (first | exact Sels.nil | apply Sels.cons (by repeat (first | exact Sel.head | apply Sel.tail))))) hq13) rfl rfl ?_
  rintro _ _ ⟨rfl, _, ⟨a2, rfl, hk2⟩, rfl⟩
  have hR : downH bs yc k e = downH bs yc k e := rfl
  conv at hR => rhs; unfold downH
  generalize rdNum bs 1 1 7 k e = r at *
  obtain ⟨z1, k1, e1⟩ := r
  simp only at hk2 hR ⊢
  replace h14 : (yc.set 13 (.int .i64 z1))[14]? = some (.int .i64 0) := by rw [List.getElem?_set_ne (by omega)]; exact h14
  have hI1 : ∀ i, i ∈ [15, 16, 18, 19, 20, 21, 26] → IntAt (yc.set 13 (.int .i64 z1)) i := fun i hi => (hI i (List.Mem.tail _ hi)).set _
  have hN1 : ∀ i, i ∈ [17, 22, 23, 24, 25] → (yc.set 13 (.int .i64 z1))[i]? = some (.slice none 0 0) := fun i hi => by
    rw [List.getElem?_set_ne (by simp at hi; omega)]; exact hN i hi
  clear hI hN hq13
  generalize yc.set 13 (.int .i64 z1) = C1 at *
  have hl14 : 14 < C1.length := (List.getElem?_eq_some_iff.1 h14).1
  refine s_nil ?_
  refine q_then ?_
  refine c_seq ?_
  refine c_seq ?_
  -- wire.go:192
  refine c_reg ?_
  refine s_y (Y_mv) rfl rfl ?_
  refine s_y ((by first | exact Y_nil rfl | exact Y_nilF rfl | exact Y_nilM rfl (by assumption) | exact Y_nilM rfl (by intro w k; kernel_rfl))) rfl rfl ?_
  refine s_y (Y_fa 14 rfl Try.underlying29 rfl sz3 rfl) rfl rfl ?_
  refine s_y (Y_load rfl one3 (by repeat (first | exact List.Mem.head _ | assumption | apply List.Mem.tail | apply List.mem_append_right)) h14) rfl rfl ?_
  refine s_y (Y_eql rfl rfl) rfl rfl ?_
  refine s_nil ?_
  refine q_then ?_
  refine c_F rfl rfl ?_
  refine c_seq ?_
  -- wire.go:194
  refine c_reg ?_
  refine s_y (Y_mv) rfl rfl ?_
  refine s_y ((by first | exact Y_nil rfl | exact Y_nilF rfl | exact Y_nilM rfl (by assumption) | exact Y_nilM rfl (by intro w k; kernel_rfl))) rfl rfl ?_
  refine s_y (Y_fa 14 rfl Try.underlying29 rfl sz3 rfl) rfl rfl ?_
  refine s_y (Y_load rfl one3 (by repeat (first | exact List.Mem.head _ | assumption | apply List.Mem.tail | apply List.mem_append_right)) h14) rfl rfl ?_
  refine s_y (Y_eql rfl rfl) rfl rfl ?_
  refine s_nil ?_
  refine q_then ?_
  refine c_F rfl rfl ?_
  refine c_skip ?_
  refine q_then ?_
  refine c_seq ?_
  -- wire.go:197
  refine c_reg ?_
  refine s_y (Y_mv) rfl rfl ?_
  refine s_y (Y_mv) rfl rfl ?_
  refine s_y ((by first | exact Y_nil rfl | exact Y_nilF rfl | exact Y_nilM rfl (by assumption) | exact Y_nilM rfl (by intro w k; kernel_rfl))) rfl rfl ?_
  refine s_y (Y_fa 14 rfl Try.underlying29 rfl sz3 rfl) rfl rfl ?_
  refine s_cm [rd b a2 n c k1 e1, ⟨yb, yt, yk, ycap, C1⟩] (En_call (fun _ => rfl) Try.func47 rfl (by kernel_rfl) rfl) (by repeat (first | exact Sels.nil | apply Sels.cons (by repeat (first | exact Sel.head | apply Sel.tail)))) (fun w hH => number_d (m := 1) (y := ⟨yb, yt, yk, ycap, C1⟩) (by omega) (by omega) hk2 (hH.at' (by repeat (first | exact List.Mem.head _ | assumption | apply List.Mem.tail | apply List.mem_append_right))) (hH.at' (by repeat (first | exact List.Mem.head _ | assumption | apply List.Mem.tail | apply List.mem_append_right))) hne (hs.call2 (rd b a2 n c k1 e1) ⟨yb, yt, yk, ycap, C1⟩ hH (by repeat (first | exact Sels.nil | apply Sels.cons (by repeat (first | exact Sel.head | apply Sel.tail))))) h14) rfl rfl ?_
  rintro _ _ ⟨rfl, _, ⟨a3, rfl, hk3⟩, rfl⟩
  generalize rdNum bs 1 0 4 k1 e1 = r at *
  obtain ⟨z2, k2, e2⟩ := r
  simp only at hk3 hR ⊢
  refine s_nil ?_
  refine q_then ?_
  refine c_seq ?_
  refine c_seq ?_
  -- wire.go:198
  refine c_reg ?_
  refine s_y (Y_mv) rfl rfl ?_
  refine s_y ((by first | exact Y_nil rfl | exact Y_nilF rfl | exact Y_nilM rfl (by assumption) | exact Y_nilM rfl (by intro w k; kernel_rfl))) rfl rfl ?_
  refine s_y (Y_fa 14 rfl Try.underlying29 rfl sz3 rfl) rfl rfl ?_
  refine s_y (Y_load rfl one3 (by repeat (first | exact List.Mem.head _ | assumption | apply List.Mem.tail | apply List.mem_append_right)) (List.getElem?_set_self hl14)) rfl rfl ?_
  refine s_y (Y_eql rfl rfl) rfl rfl ?_
  refine s_nil ?_
  refine q_then ?_
  have hI2 : ∀ z : Int, ∀ i, i ∈ [15, 16, 18, 19, 20, 21, 26] → IntAt (C1.set 14 (.int .i64 z)) i := fun z i hi => (hI1 i hi).set _
  have hN2 : ∀ z : Int, ∀ i, i ∈ [17, 22, 23, 24, 25] → (C1.set 14 (.int .i64 z))[i]? = some (.slice none 0 0) := fun z i hi => by
    rw [List.getElem?_set_ne (by simp at hi; omega)]; exact hN1 i hi
  refine c_cond' rfl (fun h => ?_) (fun h => ?_)
  · -- wire.go:199
    refine c_reg ?_
    refine s_y (Y_mv) rfl rfl ?_
    refine s_y ((by first | exact Y_nil rfl | exact Y_nilF rfl | exact Y_nilM rfl (by assumption) | exact Y_nilM rfl (by intro w k; kernel_rfl))) rfl rfl ?_
    refine s_y (Y_fa 14 rfl Try.underlying29 rfl sz3 rfl) rfl rfl ?_
    refine s_s (S_stC rfl sz3 (by rfl) (by repeat (first | exact Upd.head | apply Upd.tail)) (List.set_set _) (by simp [hl14])) rfl ?_
    refine s_nil ?_
    rw [if_pos h] at hR
    replace hI2 := hI2 (-1)
    replace hN2 := hN2 (-1)
    generalize C1.set 14 (.int .i64 (-1)) = C2 at *
    refine q_then ?_
    refine c_seq ?_
    -- wire.go:201
    refine c_rord [8] [(0, true), (1, true), (2, true), (3, true), (4, true), (5, true), (6, true), (7, false), (8, false)] (by kernel_rfl) (by kernel_rfl) (by kernel_rfl) (by kernel_rfl) rfl (by intro c a d v w h; cases d <;> exact h) rfl ?_
    simp only [mkOrd, List.filterMap_cons, List.filterMap_nil, List.getElem?_toArray, List.getElem?_cons_zero, List.getElem?_cons_succ, Option.map_some]
    refine o_y (Y_mv) rfl rfl ?_
    refine o_y (Y_mv) rfl rfl ?_
    refine o_y ((by first | exact Y_nil rfl | exact Y_nilF rfl | exact Y_nilM rfl (by assumption) | exact Y_nilM rfl (by intro w k; kernel_rfl))) rfl rfl ?_
    refine o_y (Y_fa 15 rfl Try.underlying29 rfl sz3 rfl) rfl rfl ?_
    refine o_y (Y_mv) rfl rfl ?_
    refine o_y ((by first | exact Y_nil rfl | exact Y_nilF rfl | exact Y_nilM rfl (by assumption) | exact Y_nilM rfl (by intro w k; kernel_rfl))) rfl rfl ?_
    refine o_y (Y_fa 16 rfl Try.underlying29 rfl sz3 rfl) rfl rfl ?_
    refine o_n (N_bs (xs := [.tmp 42, .tmp 45]) (by repeat (first | exact Gv.nil | apply Gv.const | apply Gv.tmp (by repeat (first | exact Gt.here | apply Gt.there (by rfl) | exact Gt.base (by rfl))))) rfl Try.underlying88 inf83 rfl (by omega) (by omega) (by first | simp [Value.oneCell'] | (intro v hv; simp at hv; subst hv; rfl))) (fun _ => (by first | exact keep_no rfl | exact keep_sub (by repeat (first | exact List.Sublist.refl _ | exact List.nil_sublist _ | apply List.Sublist.cons_cons | apply List.Sublist.cons)))) rfl rfl (fun b46 _ => ?_)
    refine o_cm [rd b a3 n c k2 e2, ⟨yb, yt, yk, ycap, C2⟩] (En_call (fun _ => rfl) Try.func40 rfl (by kernel_rfl) rfl) (by repeat (first | exact Sels.nil | apply Sels.cons (by repeat (first | exact Sel.head | apply Sel.tail)))) (fun w hH => plain_d (y := ⟨yb, yt, yk, ycap, C2⟩) (js := [15, 16]) hk3 (hH.at' (by repeat (first | exact List.Mem.head _ | assumption | apply List.Mem.tail | apply List.mem_append_right))) (hH.at' (by repeat (first | exact List.Mem.head _ | assumption | apply List.Mem.tail | apply List.mem_append_right))) hne (hs.call2 (rd b a3 n c k2 e2) ⟨yb, yt, yk, ycap, C2⟩ hH (by repeat (first | exact Sels.nil | apply Sels.cons (by repeat (first | exact Sel.head | apply Sel.tail))))) rfl (by omega) (hH.at' (by repeat (first | exact List.Mem.head _ | assumption | apply List.Mem.tail | apply List.mem_append_right))).ro (by simp; exact ⟨ne2 ⟨b46, 83, 1, 2, [ptrAt yb 15, ptrAt yb 16]⟩ (rd b a3 n c k2 e2) hH (by repeat (first | exact Sels.nil | apply Sels.cons (by repeat (first | exact Sel.head | apply Sel.tail)))), ne2 ⟨b46, 83, 1, 2, [ptrAt yb 15, ptrAt yb 16]⟩ ⟨yb, yt, yk, ycap, C2⟩ hH (by repeat (first | exact Sels.nil | apply Sels.cons (by repeat (first | exact Sel.head | apply Sel.tail))))⟩) (by simp; exact ⟨hI2 15 (by decide), hI2 16 (by decide)⟩)) (fun _ _ h => by obtain ⟨rfl, _, ⟨a4, rfl, hk4⟩, rfl⟩ := h; exact (by first | exact keep_no rfl | exact keep_sub (by repeat (first | exact List.Sublist.refl _ | exact List.nil_sublist _ | apply List.Sublist.cons_cons | apply List.Sublist.cons)))) rfl rfl ?_
    rintro _ _ ⟨rfl, _, ⟨a4, rfl, hk4⟩, rfl⟩
    have hI3 : ∀ i, i ∈ [18, 19, 20, 21, 26] → IntAt (rdNums bs [15, 16] C2 k2 e2).1 i := fun i hi => rdNums_int _ (hI2 i (by simp at hi ⊢; omega))
    have hN3 : ∀ i, i ∈ [17, 22, 23, 24, 25] → (rdNums bs [15, 16] C2 k2 e2).1[i]? = some (.slice none 0 0) := fun i hi => rdNums_at _ (by simp at hi ⊢; omega) (hN2 i hi)
    clear hI2 hN2
    generalize rdNums bs [15, 16] C2 k2 e2 = r at *
    obtain ⟨C3, k3, e3⟩ := r
    simp only at hk4 hI3 hN3 ⊢
    rw [hR]
    dsimp only
    refine o_nil ?_
    refine q_then ?_
    refine c_seq ?_
    -- wire.go:202
    refine c_reg ?_
    refine s_y (Y_mv) rfl rfl ?_
    refine s_y (Y_mv) rfl rfl ?_
    refine s_y ((by first | exact Y_nil rfl | exact Y_nilF rfl | exact Y_nilM rfl (by assumption) | exact Y_nilM rfl (by intro w k; kernel_rfl))) rfl rfl ?_
    refine s_y (Y_fa 17 rfl Try.underlying29 rfl sz25 rfl) rfl rfl ?_
    refine s_cm [rd b a4 n c k3 e3, ⟨yb, yt, yk, ycap, C3⟩] (En_call (fun _ => rfl) Try.func49 rfl (by kernel_rfl) rfl) (by repeat (first | exact Sels.nil | apply Sels.cons (by repeat (first | exact Sel.head | apply Sel.tail)))) (fun w hH => stream_d' (y := ⟨yb, yt, yk, ycap, C3⟩) hk4 (hH.at' (by repeat (first | exact List.Mem.head _ | assumption | apply List.Mem.tail | apply List.mem_append_right))) (hH.at' (by repeat (first | exact List.Mem.head _ | assumption | apply List.Mem.tail | apply List.mem_append_right))) hne (hs.call2 (rd b a4 n c k3 e3) ⟨yb, yt, yk, ycap, C3⟩ hH (by repeat (first | exact Sels.nil | apply Sels.cons (by repeat (first | exact Sel.head | apply Sel.tail))))) (hN3 17 (by decide))) rfl rfl ?_
    rintro _ _ ⟨rfl, _, u, bl2, ⟨a5, rfl, hk5⟩, rfl, hstr⟩
    generalize rdStream bs k3 e3 = r at *
    obtain ⟨sr, p⟩ := r
    simp only at hk5 hstr ⊢
    have hI4 : ∀ i, i ∈ [18, 19, 20, 21, 26] → IntAt (C3.set 17 u) i := fun i hi => by
      obtain ⟨q, hq⟩ := hI3 i hi
      exact ⟨q, by rw [List.getElem?_set_ne (by simp at hi; omega)]; exact hq⟩
    have hN4 : ∀ i, i ∈ [22, 23, 24, 25] → (C3.set 17 u)[i]? = some (.slice none 0 0) := fun i hi => by
      rw [List.getElem?_set_ne (by simp at hi; omega)]; exact hN3 i (by simp at hi ⊢; omega)
    clear hI3 hN3
    generalize hC4 : C3.set 17 u = C4 at *
    refine s_nil ?_
    refine q_then ?_
    refine c_seq ?_
    refine c_seq ?_
    -- wire.go:203
    refine c_reg ?_
    refine s_y (Y_mvC) rfl rfl ?_
    refine s_nil ?_
    refine q_then ?_
    refine c_block ?_
    refine c_loop [4, 53, 54, 55, 56, 57, 58, 59, 60, 61, 62, 63, 64, 65, 66, 67, 68, 69, 70, 71] (fun n2 (p2 : Nat × Option Addr × (Nat → Value) × List Bk) => p2.1 + n2 = 4 ∧ RdAt a n c (seatK bs p p2.1).1 p2.2.1 ∧ InStr u p2.2.2.2 sr ∧ ∀ s, s < p2.1 → InRow (p2.2.2.1 s) p2.2.2.2 (rowF bs p s)) (fun p2 => [(53, .int .i64 (p2.1 : Int))])
      (fun p2 => rd b p2.2.1 n c (seatK bs p p2.1).1 (seatK bs p p2.1).2 :: ⟨yb, yt, yk, ycap, seatC bs p p2.2.2.1 p2.1 C4⟩ :: p2.2.2.2) 4 (0, a5, (fun _ => .slice none 0 0), bl2) ⟨by omega, hk5, hstr, fun s hs => absurd hs (by omega)⟩ ⟨rfl, trivial⟩ (fun w h => h.sub (List.sublist_append_left _ _)) (fun _ => rfl) ?_
    rintro n2 ⟨i, a6, us, bl⟩ jj ⟨hi, hk6, hst, hrows⟩ K hK
    simp only at hi hk6 hst hrows ⊢
    refine c_seq ?_
    -- wire.go:203
    refine c_reg ?_
    refine s_y (Y_lss rfl rfl) rfl rfl ?_
    refine s_nil ?_
    refine q_then ?_
    refine c_seq ?_
    refine c_cond' rfl (fun h => ?_) (fun h => ?_)
    · have hi4 : i < 4 := by omega
      have hIi : IntAt (seatC bs p us i C4) (0 + 18 + i * 1) := by
        obtain ⟨q, hq⟩ := hI4 (18 + i) (by simp; omega)
        rw [show 0 + 18 + i * 1 = 18 + i by omega]
        exact ⟨q, seatC_get i (fun s hs => by omega) hq⟩
      have hNi : (seatC bs p us i C4)[0 + 22 + i * 1]? = some (.slice none 0 0) := by
        rw [show 0 + 22 + i * 1 = 22 + i by omega]
        exact seatC_get i (fun s hs => by omega) (hN4 (22 + i) (by simp; omega))
      have hKS : seatK bs p (i + 1) = (rdRow bs (n4 bs (seatK bs p i)).2.1 (n4 bs (seatK bs p i)).2.2).2 := rfl
      have hFS : rowF bs p i = (rdRow bs (n4 bs (seatK bs p i)).2.1 (n4 bs (seatK bs p i)).2.2).1 := rfl
      have hCS : ∀ vs : Nat → Value, (∀ s, s < i → vs s = us s) → seatC bs p vs (i + 1) C4 = ((seatC bs p us i C4).set (18 + i) (.int .i64 (n4 bs (seatK bs p i)).1)).set (22 + i) (vs i) := fun vs hv => by rw [seatC, seatC_congr i hv]
      generalize seatK bs p i = q at *
      obtain ⟨k6, e6⟩ := q
      simp only at hk6 hKS hFS hCS ⊢
      generalize seatC bs p us i C4 = C5 at *
      refine c_skip ?_
      refine q_then ?_
      refine c_seq ?_
      refine c_block ?_
      refine c_seq ?_
      -- wire.go:203
      refine c_reg ?_
      refine s_y (Y_mv) rfl rfl ?_
      refine s_y (Y_as) rfl rfl ?_
      refine s_nil ?_
      refine q_then ?_
      refine c_seq ?_
      -- wire.go:204
      refine c_reg ?_
      refine s_y (Y_mv) rfl rfl ?_
      refine s_y (Y_mv) rfl rfl ?_
      refine s_y (Y_mv) rfl rfl ?_
      refine s_y ((by first | exact Y_nil rfl | exact Y_nilF rfl | exact Y_nilM rfl (by assumption) | exact Y_nilM rfl (by intro w k; kernel_rfl))) rfl rfl ?_
      refine s_y (Y_fa 18 rfl Try.underlying29 rfl sz23 rfl) rfl rfl ?_
      refine s_y (Y_iaA rfl rfl Try.underlying23 sz3 rfl (by omega)) rfl rfl ?_
      refine s_n (N_bs (xs := [.tmp 61]) (by repeat (first | exact Gv.nil | apply Gv.const | apply Gv.tmp (by repeat (first | exact Gt.here | apply Gt.there (by rfl) | exact Gt.base (by rfl))))) rfl Try.underlying88 inf83 rfl (by omega) (by omega) (by first | simp [Value.oneCell'] | (intro v hv; simp at hv; subst hv; rfl))) rfl rfl (fun b62 _ => ?_)
      refine s_cm [rd b a6 n c k6 e6, ⟨yb, yt, yk, ycap, C5⟩] (En_call (fun _ => rfl) Try.func40 rfl (by kernel_rfl) rfl) (by repeat (first | exact Sels.nil | apply Sels.cons (by repeat (first | exact Sel.head | apply Sel.tail)))) (fun w hH => plain_d (y := ⟨yb, yt, yk, ycap, C5⟩) (js := [0 + 18 + i * 1]) hk6 (hH.at' (by repeat (first | exact List.Mem.head _ | assumption | apply List.Mem.tail | apply List.mem_append_right))) (hH.at' (by repeat (first | exact List.Mem.head _ | assumption | apply List.Mem.tail | apply List.mem_append_right))) hne (hs.call2 (rd b a6 n c k6 e6) ⟨yb, yt, yk, ycap, C5⟩ hH (by repeat (first | exact Sels.nil | apply Sels.cons (by repeat (first | exact Sel.head | apply Sel.tail))))) rfl (by omega) (hH.at' (by repeat (first | exact List.Mem.head _ | assumption | apply List.Mem.tail | apply List.mem_append_right))).ro (by simp; exact ⟨ne2 ⟨b62, 83, 1, 1, [ptrAt yb (0 + 18 + i * 1)]⟩ (rd b a6 n c k6 e6) hH (by repeat (first | exact Sels.nil | apply Sels.cons (by repeat (first | exact Sel.head | apply Sel.tail)))), ne2 ⟨b62, 83, 1, 1, [ptrAt yb (0 + 18 + i * 1)]⟩ ⟨yb, yt, yk, ycap, C5⟩ hH (by repeat (first | exact Sels.nil | apply Sels.cons (by repeat (first | exact Sel.head | apply Sel.tail))))⟩) (by simpa using hIi)) rfl rfl ?_
      rintro _ _ ⟨rfl, _, ⟨a7, rfl, hk7⟩, rfl⟩
      rw [rdNums_one] at hk7 ⊢
      simp only [n4] at hk7 hKS hFS hCS ⊢
      have h22 : (C5.set (0 + 18 + i * 1) (.int .i64 (rdNum bs 4 0 1073741823 k6 e6).1))[0 + 22 + i * 1]? = some (.slice none 0 0) := by rw [List.getElem?_set_ne (by omega)]; exact hNi
      generalize rdNum bs 4 0 1073741823 k6 e6 = r at *
      obtain ⟨z7, k7, e7⟩ := r
      simp only at hk7 hKS hFS hCS h22 ⊢
      refine s_nil ?_
      refine q_then ?_
      -- wire.go:205
      refine c_reg ?_
      refine s_y (Y_mv) rfl rfl ?_
      refine s_y (Y_mv) rfl rfl ?_
      refine s_y (Y_mv) rfl rfl ?_
      refine s_y ((by first | exact Y_nil rfl | exact Y_nilF rfl | exact Y_nilM rfl (by assumption) | exact Y_nilM rfl (by intro w k; kernel_rfl))) rfl rfl ?_
      refine s_y (Y_fa 22 rfl Try.underlying29 rfl sz26 rfl) rfl rfl ?_
      refine s_y (Y_iaA rfl rfl Try.underlying26 sz24 rfl (by omega)) rfl rfl ?_
      refine s_cm [rd b a7 n c k7 e7, ⟨yb, yt, yk, ycap, C5.set (0 + 18 + i * 1) (.int .i64 z7)⟩] (En_call (fun _ => rfl) Try.func48 rfl (by kernel_rfl) rfl) (by repeat (first | exact Sels.nil | apply Sels.cons (by repeat (first | exact Sel.head | apply Sel.tail)))) (fun w hH => row_d' (y := ⟨yb, yt, yk, ycap, C5.set (0 + 18 + i * 1) (.int .i64 z7)⟩) hk7 (hH.at' (by repeat (first | exact List.Mem.head _ | assumption | apply List.Mem.tail | apply List.mem_append_right))) (hH.at' (by repeat (first | exact List.Mem.head _ | assumption | apply List.Mem.tail | apply List.mem_append_right))) hne (hs.call2 (rd b a7 n c k7 e7) ⟨yb, yt, yk, ycap, C5.set (0 + 18 + i * 1) (.int .i64 z7)⟩ hH (by repeat (first | exact Sels.nil | apply Sels.cons (by repeat (first | exact Sel.head | apply Sel.tail))))) h22) rfl rfl ?_
      rintro _ _ ⟨rfl, _, v, bl3, ⟨a8, rfl, hk8⟩, rfl, hrow⟩
      refine s_nil ?_
      refine q_bn ?_
      refine q_then ?_
      -- wire.go:203
      refine c_reg ?_
      refine s_y ((by first | exact Y_add rfl rfl (by omega) | exact Y_addw rfl rfl)) rfl rfl ?_
      refine s_y (Y_mv) rfl rfl ?_
      refine s_nil ?_
      refine hK (n2 - 1) (i + 1, a8, (fun s => if s = i then v else us s), bl3 ++ (⟨b62, 83, 1, 1, [ptrAt yb (0 + 18 + i * 1)]⟩ :: bl)) _ _ (by omega) ⟨by simp only; omega, by simp only; rw [hKS]; exact hk8, hst.mono (fun x hx => List.mem_append_right _ (List.Mem.tail _ hx)), fun s hs => ?_⟩ ⟨rfl, trivial⟩ rfl (fun w h => ?_)
      · simp only at hs ⊢
        by_cases hsi : s = i
        · subst hsi
          rw [if_pos rfl, hFS]
          exact hrow.mono (fun x hx => List.mem_append_left _ hx)
        · rw [if_neg hsi]
          exact (hrows s (by omega)).mono (fun x hx => List.mem_append_right _ (List.Mem.tail _ hx))
      · dsimp only
        rw [hKS, hCS _ (fun s hs => if_neg (by omega)), if_pos rfl, ← show 0 + 18 + i * 1 = 18 + i by omega, ← show 0 + 22 + i * 1 = 22 + i by omega]
        exact h
    · obtain rfl : i = 4 := by omega
      refine c_exit ?_
      repeat with_reducible refine q_te ?_
      refine q_exit ?_
      refine q_then ?_
      have hIi : IntAt (seatC bs p us 4 C4) 26 := by
        obtain ⟨q, hq⟩ := hI4 26 (by decide)
        exact ⟨q, seatC_get 4 (fun s hs => by omega) hq⟩
      generalize seatK bs p 4 = q at *
      obtain ⟨k6, e6⟩ := q
      simp only at hk6 ⊢
      generalize hC5 : seatC bs p us 4 C4 = C5 at *
      -- wire.go:207
      refine c_reg ?_
      refine s_y (Y_mv) rfl rfl ?_
      refine s_y (Y_mv) rfl rfl ?_
      refine s_y ((by first | exact Y_nil rfl | exact Y_nilF rfl | exact Y_nilM rfl (by assumption) | exact Y_nilM rfl (by intro w k; kernel_rfl))) rfl rfl ?_
      refine s_y (Y_fa 26 rfl Try.underlying29 rfl sz3 rfl) rfl rfl ?_
      refine s_n (N_bs (xs := [.tmp 75]) (by repeat (first | exact Gv.nil | apply Gv.const | apply Gv.tmp (by repeat (first | exact Gt.here | apply Gt.there (by rfl) | exact Gt.base (by rfl))))) rfl Try.underlying88 inf83 rfl (by omega) (by omega) (by first | simp [Value.oneCell'] | (intro v hv; simp at hv; subst hv; rfl))) rfl rfl (fun b76 _ => ?_)
      refine s_cm [rd b a6 n c k6 e6, ⟨yb, yt, yk, ycap, C5⟩] (En_call (fun _ => rfl) Try.func40 rfl (by kernel_rfl) rfl) (by repeat (first | exact Sels.nil | apply Sels.cons (by repeat (first | exact Sel.head | apply Sel.tail)))) (fun w hH => plain_d (y := ⟨yb, yt, yk, ycap, C5⟩) (js := [26]) hk6 (hH.at' (by repeat (first | exact List.Mem.head _ | assumption | apply List.Mem.tail | apply List.mem_append_right))) (hH.at' (by repeat (first | exact List.Mem.head _ | assumption | apply List.Mem.tail | apply List.mem_append_right))) hne (hs.call2 (rd b a6 n c k6 e6) ⟨yb, yt, yk, ycap, C5⟩ hH (by repeat (first | exact Sels.nil | apply Sels.cons (by repeat (first | exact Sel.head | apply Sel.tail))))) rfl (by omega) (hH.at' (by repeat (first | exact List.Mem.head _ | assumption | apply List.Mem.tail | apply List.mem_append_right))).ro (by simp; exact ⟨ne2 ⟨b76, 83, 1, 1, [ptrAt yb 26]⟩ (rd b a6 n c k6 e6) hH (by repeat (first | exact Sels.nil | apply Sels.cons (by repeat (first | exact Sel.head | apply Sel.tail)))), ne2 ⟨b76, 83, 1, 1, [ptrAt yb 26]⟩ ⟨yb, yt, yk, ycap, C5⟩ hH (by repeat (first | exact Sels.nil | apply Sels.cons (by repeat (first | exact Sel.head | apply Sel.tail))))⟩) (by simp; exact hIi)) rfl rfl ?_
      rintro _ _ ⟨rfl, _, ⟨a7, rfl, hk7⟩, rfl⟩
      rw [rdNums_one] at hk7 ⊢
      refine s_nil ?_
      refine q_end0 rfl (L' := _) (List.Sublist.refl _) ⟨rfl, _, u, us, _, ⟨a7, rfl, hk7⟩, by rw [hC4, hC5]; rfl, hst.mono (fun x hx => List.Mem.tail _ hx), fun s hs => (hrows s hs).mono (fun x hx => List.Mem.tail _ hx)⟩
  · refine c_skip ?_
    rw [if_neg h] at hR
    replace hI2 := hI2 z2
    replace hN2 := hN2 z2
    generalize C1.set 14 (.int .i64 z2) = C2 at *
    refine q_then ?_
    refine c_seq ?_
    -- wire.go:201
    refine c_rord [8] [(0, true), (1, true), (2, true), (3, true), (4, true), (5, true), (6, true), (7, false), (8, false)] (by kernel_rfl) (by kernel_rfl) (by kernel_rfl) (by kernel_rfl) rfl (by intro c a d v w h; cases d <;> exact h) rfl ?_
    simp only [mkOrd, List.filterMap_cons, List.filterMap_nil, List.getElem?_toArray, List.getElem?_cons_zero, List.getElem?_cons_succ, Option.map_some]
    refine o_y (Y_mv) rfl rfl ?_
    refine o_y (Y_mv) rfl rfl ?_
    refine o_y ((by first | exact Y_nil rfl | exact Y_nilF rfl | exact Y_nilM rfl (by assumption) | exact Y_nilM rfl (by intro w k; kernel_rfl))) rfl rfl ?_
    refine o_y (Y_fa 15 rfl Try.underlying29 rfl sz3 rfl) rfl rfl ?_
    refine o_y (Y_mv) rfl rfl ?_
    refine o_y ((by first | exact Y_nil rfl | exact Y_nilF rfl | exact Y_nilM rfl (by assumption) | exact Y_nilM rfl (by intro w k; kernel_rfl))) rfl rfl ?_
    refine o_y (Y_fa 16 rfl Try.underlying29 rfl sz3 rfl) rfl rfl ?_
    refine o_n (N_bs (xs := [.tmp 42, .tmp 45]) (by repeat (first | exact Gv.nil | apply Gv.const | apply Gv.tmp (by repeat (first | exact Gt.here | apply Gt.there (by rfl) | exact Gt.base (by rfl))))) rfl Try.underlying88 inf83 rfl (by omega) (by omega) (by first | simp [Value.oneCell'] | (intro v hv; simp at hv; subst hv; rfl))) (fun _ => (by first | exact keep_no rfl | exact keep_sub (by repeat (first | exact List.Sublist.refl _ | exact List.nil_sublist _ | apply List.Sublist.cons_cons | apply List.Sublist.cons)))) rfl rfl (fun b46 _ => ?_)
    refine o_cm [rd b a3 n c k2 e2, ⟨yb, yt, yk, ycap, C2⟩] (En_call (fun _ => rfl) Try.func40 rfl (by kernel_rfl) rfl) (by repeat (first | exact Sels.nil | apply Sels.cons (by repeat (first | exact Sel.head | apply Sel.tail)))) (fun w hH => plain_d (y := ⟨yb, yt, yk, ycap, C2⟩) (js := [15, 16]) hk3 (hH.at' (by repeat (first | exact List.Mem.head _ | assumption | apply List.Mem.tail | apply List.mem_append_right))) (hH.at' (by repeat (first | exact List.Mem.head _ | assumption | apply List.Mem.tail | apply List.mem_append_right))) hne (hs.call2 (rd b a3 n c k2 e2) ⟨yb, yt, yk, ycap, C2⟩ hH (by repeat (first | exact Sels.nil | apply Sels.cons (by repeat (first | exact Sel.head | apply Sel.tail))))) rfl (by omega) (hH.at' (by repeat (first | exact List.Mem.head _ | assumption | apply List.Mem.tail | apply List.mem_append_right))).ro (by simp; exact ⟨ne2 ⟨b46, 83, 1, 2, [ptrAt yb 15, ptrAt yb 16]⟩ (rd b a3 n c k2 e2) hH (by repeat (first | exact Sels.nil | apply Sels.cons (by repeat (first | exact Sel.head | apply Sel.tail)))), ne2 ⟨b46, 83, 1, 2, [ptrAt yb 15, ptrAt yb 16]⟩ ⟨yb, yt, yk, ycap, C2⟩ hH (by repeat (first | exact Sels.nil | apply Sels.cons (by repeat (first | exact Sel.head | apply Sel.tail))))⟩) (by simp; exact ⟨hI2 15 (by decide), hI2 16 (by decide)⟩)) (fun _ _ h => by obtain ⟨rfl, _, ⟨a4, rfl, hk4⟩, rfl⟩ := h; exact (by first | exact keep_no rfl | exact keep_sub (by repeat (first | exact List.Sublist.refl _ | exact List.nil_sublist _ | apply List.Sublist.cons_cons | apply List.Sublist.cons)))) rfl rfl ?_
    rintro _ _ ⟨rfl, _, ⟨a4, rfl, hk4⟩, rfl⟩
    have hI3 : ∀ i, i ∈ [18, 19, 20, 21, 26] → IntAt (rdNums bs [15, 16] C2 k2 e2).1 i := fun i hi => rdNums_int _ (hI2 i (by simp at hi ⊢; omega))
    have hN3 : ∀ i, i ∈ [17, 22, 23, 24, 25] → (rdNums bs [15, 16] C2 k2 e2).1[i]? = some (.slice none 0 0) := fun i hi => rdNums_at _ (by simp at hi ⊢; omega) (hN2 i hi)
    clear hI2 hN2
    generalize rdNums bs [15, 16] C2 k2 e2 = r at *
    obtain ⟨C3, k3, e3⟩ := r
    simp only at hk4 hI3 hN3 ⊢
    rw [hR]
    dsimp only
    refine o_nil ?_
    refine q_then ?_
    refine c_seq ?_
    -- wire.go:202
    refine c_reg ?_
    refine s_y (Y_mv) rfl rfl ?_
    refine s_y (Y_mv) rfl rfl ?_
    refine s_y ((by first | exact Y_nil rfl | exact Y_nilF rfl | exact Y_nilM rfl (by assumption) | exact Y_nilM rfl (by intro w k; kernel_rfl))) rfl rfl ?_
    refine s_y (Y_fa 17 rfl Try.underlying29 rfl sz25 rfl) rfl rfl ?_
    refine s_cm [rd b a4 n c k3 e3, ⟨yb, yt, yk, ycap, C3⟩] (En_call (fun _ => rfl) Try.func49 rfl (by kernel_rfl) rfl) (by repeat (first | exact Sels.nil | apply Sels.cons (by repeat (first | exact Sel.head | apply Sel.tail)))) (fun w hH => stream_d' (y := ⟨yb, yt, yk, ycap, C3⟩) hk4 (hH.at' (by repeat (first | exact List.Mem.head _ | assumption | apply List.Mem.tail | apply List.mem_append_right))) (hH.at' (by repeat (first | exact List.Mem.head _ | assumption | apply List.Mem.tail | apply List.mem_append_right))) hne (hs.call2 (rd b a4 n c k3 e3) ⟨yb, yt, yk, ycap, C3⟩ hH (by repeat (first | exact Sels.nil | apply Sels.cons (by repeat (first | exact Sel.head | apply Sel.tail))))) (hN3 17 (by decide))) rfl rfl ?_
    rintro _ _ ⟨rfl, _, u, bl2, ⟨a5, rfl, hk5⟩, rfl, hstr⟩
    generalize rdStream bs k3 e3 = r at *
    obtain ⟨sr, p⟩ := r
    simp only at hk5 hstr ⊢
    have hI4 : ∀ i, i ∈ [18, 19, 20, 21, 26] → IntAt (C3.set 17 u) i := fun i hi => by
      obtain ⟨q, hq⟩ := hI3 i hi
      exact ⟨q, by rw [List.getElem?_set_ne (by simp at hi; omega)]; exact hq⟩
    have hN4 : ∀ i, i ∈ [22, 23, 24, 25] → (C3.set 17 u)[i]? = some (.slice none 0 0) := fun i hi => by
      rw [List.getElem?_set_ne (by simp at hi; omega)]; exact hN3 i (by simp at hi ⊢; omega)
    clear hI3 hN3
    generalize hC4 : C3.set 17 u = C4 at *
    refine s_nil ?_
    refine q_then ?_
    refine c_seq ?_
    refine c_seq ?_
    -- wire.go:203
    refine c_reg ?_
    refine s_y (Y_mvC) rfl rfl ?_
    refine s_nil ?_
    refine q_then ?_
    refine c_block ?_
    refine c_loop [4, 53, 54, 55, 56, 57, 58, 59, 60, 61, 62, 63, 64, 65, 66, 67, 68, 69, 70, 71] (fun n2 (p2 : Nat × Option Addr × (Nat → Value) × List Bk) => p2.1 + n2 = 4 ∧ RdAt a n c (seatK bs p p2.1).1 p2.2.1 ∧ InStr u p2.2.2.2 sr ∧ ∀ s, s < p2.1 → InRow (p2.2.2.1 s) p2.2.2.2 (rowF bs p s)) (fun p2 => [(53, .int .i64 (p2.1 : Int))])
      (fun p2 => rd b p2.2.1 n c (seatK bs p p2.1).1 (seatK bs p p2.1).2 :: ⟨yb, yt, yk, ycap, seatC bs p p2.2.2.1 p2.1 C4⟩ :: p2.2.2.2) 4 (0, a5, (fun _ => .slice none 0 0), bl2) ⟨by omega, hk5, hstr, fun s hs => absurd hs (by omega)⟩ ⟨rfl, trivial⟩ (fun w h => h.sub (List.sublist_append_left _ _)) (fun _ => rfl) ?_
    rintro n2 ⟨i, a6, us, bl⟩ jj ⟨hi, hk6, hst, hrows⟩ K hK
    simp only at hi hk6 hst hrows ⊢
    refine c_seq ?_
    -- wire.go:203
    refine c_reg ?_
    refine s_y (Y_lss rfl rfl) rfl rfl ?_
    refine s_nil ?_
    refine q_then ?_
    refine c_seq ?_
    refine c_cond' rfl (fun h => ?_) (fun h => ?_)
    · have hi4 : i < 4 := by omega
      have hIi : IntAt (seatC bs p us i C4) (0 + 18 + i * 1) := by
        obtain ⟨q, hq⟩ := hI4 (18 + i) (by simp; omega)
        rw [show 0 + 18 + i * 1 = 18 + i by omega]
        exact ⟨q, seatC_get i (fun s hs => by omega) hq⟩
      have hNi : (seatC bs p us i C4)[0 + 22 + i * 1]? = some (.slice none 0 0) := by
        rw [show 0 + 22 + i * 1 = 22 + i by omega]
        exact seatC_get i (fun s hs => by omega) (hN4 (22 + i) (by simp; omega))
      have hKS : seatK bs p (i + 1) = (rdRow bs (n4 bs (seatK bs p i)).2.1 (n4 bs (seatK bs p i)).2.2).2 := rfl
      have hFS : rowF bs p i = (rdRow bs (n4 bs (seatK bs p i)).2.1 (n4 bs (seatK bs p i)).2.2).1 := rfl
      have hCS : ∀ vs : Nat → Value, (∀ s, s < i → vs s = us s) → seatC bs p vs (i + 1) C4 = ((seatC bs p us i C4).set (18 + i) (.int .i64 (n4 bs (seatK bs p i)).1)).set (22 + i) (vs i) := fun vs hv => by rw [seatC, seatC_congr i hv]
      generalize seatK bs p i = q at *
      obtain ⟨k6, e6⟩ := q
      simp only at hk6 hKS hFS hCS ⊢
      generalize seatC bs p us i C4 = C5 at *
      refine c_skip ?_
      refine q_then ?_
      refine c_seq ?_
      refine c_block ?_
      refine c_seq ?_
      -- wire.go:203
      refine c_reg ?_
      refine s_y (Y_mv) rfl rfl ?_
      refine s_y (Y_as) rfl rfl ?_
      refine s_nil ?_
      refine q_then ?_
      refine c_seq ?_
      -- wire.go:204
      refine c_reg ?_
      refine s_y (Y_mv) rfl rfl ?_
      refine s_y (Y_mv) rfl rfl ?_
      refine s_y (Y_mv) rfl rfl ?_
      refine s_y ((by first | exact Y_nil rfl | exact Y_nilF rfl | exact Y_nilM rfl (by assumption) | exact Y_nilM rfl (by intro w k; kernel_rfl))) rfl rfl ?_
      refine s_y (Y_fa 18 rfl Try.underlying29 rfl sz23 rfl) rfl rfl ?_
      refine s_y (Y_iaA rfl rfl Try.underlying23 sz3 rfl (by omega)) rfl rfl ?_
      refine s_n (N_bs (xs := [.tmp 61]) (by repeat (first | exact Gv.nil | apply Gv.const | apply Gv.tmp (by repeat (first | exact Gt.here | apply Gt.there (by rfl) | exact Gt.base (by rfl))))) rfl Try.underlying88 inf83 rfl (by omega) (by omega) (by first | simp [Value.oneCell'] | (intro v hv; simp at hv; subst hv; rfl))) rfl rfl (fun b62 _ => ?_)
      refine s_cm [rd b a6 n c k6 e6, ⟨yb, yt, yk, ycap, C5⟩] (En_call (fun _ => rfl) Try.func40 rfl (by kernel_rfl) rfl) (by repeat (first | exact Sels.nil | apply Sels.cons (by repeat (first | exact Sel.head | apply Sel.tail)))) (fun w hH => plain_d (y := ⟨yb, yt, yk, ycap, C5⟩) (js := [0 + 18 + i * 1]) hk6 (hH.at' (by repeat (first | exact List.Mem.head _ | assumption | apply List.Mem.tail | apply List.mem_append_right))) (hH.at' (by repeat (first | exact List.Mem.head _ | assumption | apply List.Mem.tail | apply List.mem_append_right))) hne (hs.call2 (rd b a6 n c k6 e6) ⟨yb, yt, yk, ycap, C5⟩ hH (by repeat (first | exact Sels.nil | apply Sels.cons (by repeat (first | exact Sel.head | apply Sel.tail))))) rfl (by omega) (hH.at' (by repeat (first | exact List.Mem.head _ | assumption | apply List.Mem.tail | apply List.mem_append_right))).ro (by simp; exact ⟨ne2 ⟨b62, 83, 1, 1, [ptrAt yb (0 + 18 + i * 1)]⟩ (rd b a6 n c k6 e6) hH (by repeat (first | exact Sels.nil | apply Sels.cons (by repeat (first | exact Sel.head | apply Sel.tail)))), ne2 ⟨b62, 83, 1, 1, [ptrAt yb (0 + 18 + i * 1)]⟩ ⟨yb, yt, yk, ycap, C5⟩ hH (by repeat (first | exact Sels.nil | apply Sels.cons (by repeat (first | exact Sel.head | apply Sel.tail))))⟩) (by simpa using hIi)) rfl rfl ?_
      rintro _ _ ⟨rfl, _, ⟨a7, rfl, hk7⟩, rfl⟩
      rw [rdNums_one] at hk7 ⊢
      simp only [n4] at hk7 hKS hFS hCS ⊢
      have h22 : (C5.set (0 + 18 + i * 1) (.int .i64 (rdNum bs 4 0 1073741823 k6 e6).1))[0 + 22 + i * 1]? = some (.slice none 0 0) := by rw [List.getElem?_set_ne (by omega)]; exact hNi
      generalize rdNum bs 4 0 1073741823 k6 e6 = r at *
      obtain ⟨z7, k7, e7⟩ := r
      simp only at hk7 hKS hFS hCS h22 ⊢
      refine s_nil ?_
      refine q_then ?_
      -- wire.go:205
      refine c_reg ?_
      refine s_y (Y_mv) rfl rfl ?_
      refine s_y (Y_mv) rfl rfl ?_
      refine s_y (Y_mv) rfl rfl ?_
      refine s_y ((by first | exact Y_nil rfl | exact Y_nilF rfl | exact Y_nilM rfl (by assumption) | exact Y_nilM rfl (by intro w k; kernel_rfl))) rfl rfl ?_
      refine s_y (Y_fa 22 rfl Try.underlying29 rfl sz26 rfl) rfl rfl ?_
      refine s_y (Y_iaA rfl rfl Try.underlying26 sz24 rfl (by omega)) rfl rfl ?_
      refine s_cm [rd b a7 n c k7 e7, ⟨yb, yt, yk, ycap, C5.set (0 + 18 + i * 1) (.int .i64 z7)⟩] (En_call (fun _ => rfl) Try.func48 rfl (by kernel_rfl) rfl) (by repeat (first | exact Sels.nil | apply Sels.cons (by repeat (first | exact Sel.head | apply Sel.tail)))) (fun w hH => row_d' (y := ⟨yb, yt, yk, ycap, C5.set (0 + 18 + i * 1) (.int .i64 z7)⟩) hk7 (hH.at' (by repeat (first | exact List.Mem.head _ | assumption | apply List.Mem.tail | apply List.mem_append_right))) (hH.at' (by repeat (first | exact List.Mem.head _ | assumption | apply List.Mem.tail | apply List.mem_append_right))) hne (hs.call2 (rd b a7 n c k7 e7) ⟨yb, yt, yk, ycap, C5.set (0 + 18 + i * 1) (.int .i64 z7)⟩ hH (by repeat (first | exact Sels.nil | apply Sels.cons (by repeat (first | exact Sel.head | apply Sel.tail))))) h22) rfl rfl ?_
      rintro _ _ ⟨rfl, _, v, bl3, ⟨a8, rfl, hk8⟩, rfl, hrow⟩
      refine s_nil ?_
      refine q_bn ?_
      refine q_then ?_
      -- wire.go:203
      refine c_reg ?_
      refine s_y ((by first | exact Y_add rfl rfl (by omega) | exact Y_addw rfl rfl)) rfl rfl ?_
      refine s_y (Y_mv) rfl rfl ?_
      refine s_nil ?_
      refine hK (n2 - 1) (i + 1, a8, (fun s => if s = i then v else us s), bl3 ++ (⟨b62, 83, 1, 1, [ptrAt yb (0 + 18 + i * 1)]⟩ :: bl)) _ _ (by omega) ⟨by simp only; omega, by simp only; rw [hKS]; exact hk8, hst.mono (fun x hx => List.mem_append_right _ (List.Mem.tail _ hx)), fun s hs => ?_⟩ ⟨rfl, trivial⟩ rfl (fun w h => ?_)
      · simp only at hs ⊢
        by_cases hsi : s = i
        · subst hsi
          rw [if_pos rfl, hFS]
          exact hrow.mono (fun x hx => List.mem_append_left _ hx)
        · rw [if_neg hsi]
          exact (hrows s (by omega)).mono (fun x hx => List.mem_append_right _ (List.Mem.tail _ hx))
      · dsimp only
        rw [hKS, hCS _ (fun s hs => if_neg (by omega)), if_pos rfl, ← show 0 + 18 + i * 1 = 18 + i by omega, ← show 0 + 22 + i * 1 = 22 + i by omega]
        exact h
    · obtain rfl : i = 4 := by omega
      refine c_exit ?_
      repeat with_reducible refine q_te ?_
      refine q_exit ?_
      refine q_then ?_
      have hIi : IntAt (seatC bs p us 4 C4) 26 := by
        obtain ⟨q, hq⟩ := hI4 26 (by decide)
        exact ⟨q, seatC_get 4 (fun s hs => by omega) hq⟩
      generalize seatK bs p 4 = q at *
      obtain ⟨k6, e6⟩ := q
      simp only at hk6 ⊢
      generalize hC5 : seatC bs p us 4 C4 = C5 at *
      -- wire.go:207
      refine c_reg ?_
      refine s_y (Y_mv) rfl rfl ?_
      refine s_y (Y_mv) rfl rfl ?_
      refine s_y ((by first | exact Y_nil rfl | exact Y_nilF rfl | exact Y_nilM rfl (by assumption) | exact Y_nilM rfl (by intro w k; kernel_rfl))) rfl rfl ?_
      refine s_y (Y_fa 26 rfl Try.underlying29 rfl sz3 rfl) rfl rfl ?_
      refine s_n (N_bs (xs := [.tmp 75]) (by repeat (first | exact Gv.nil | apply Gv.const | apply Gv.tmp (by repeat (first | exact Gt.here | apply Gt.there (by rfl) | exact Gt.base (by rfl))))) rfl Try.underlying88 inf83 rfl (by omega) (by omega) (by first | simp [Value.oneCell'] | (intro v hv; simp at hv; subst hv; rfl))) rfl rfl (fun b76 _ => ?_)
      refine s_cm [rd b a6 n c k6 e6, ⟨yb, yt, yk, ycap, C5⟩] (En_call (fun _ => rfl) Try.func40 rfl (by kernel_rfl) rfl) (by repeat (first | exact Sels.nil | apply Sels.cons (by repeat (first | exact Sel.head | apply Sel.tail)))) (fun w hH => plain_d (y := ⟨yb, yt, yk, ycap, C5⟩) (js := [26]) hk6 (hH.at' (by repeat (first | exact List.Mem.head _ | assumption | apply List.Mem.tail | apply List.mem_append_right))) (hH.at' (by repeat (first | exact List.Mem.head _ | assumption | apply List.Mem.tail | apply List.mem_append_right))) hne (hs.call2 (rd b a6 n c k6 e6) ⟨yb, yt, yk, ycap, C5⟩ hH (by repeat (first | exact Sels.nil | apply Sels.cons (by repeat (first | exact Sel.head | apply Sel.tail))))) rfl (by omega) (hH.at' (by repeat (first | exact List.Mem.head _ | assumption | apply List.Mem.tail | apply List.mem_append_right))).ro (by simp; exact ⟨ne2 ⟨b76, 83, 1, 1, [ptrAt yb 26]⟩ (rd b a6 n c k6 e6) hH (by repeat (first | exact Sels.nil | apply Sels.cons (by repeat (first | exact Sel.head | apply Sel.tail)))), ne2 ⟨b76, 83, 1, 1, [ptrAt yb 26]⟩ ⟨yb, yt, yk, ycap, C5⟩ hH (by repeat (first | exact Sels.nil | apply Sels.cons (by repeat (first | exact Sel.head | apply Sel.tail))))⟩) (by simp; exact hIi)) rfl rfl ?_
      rintro _ _ ⟨rfl, _, ⟨a7, rfl, hk7⟩, rfl⟩
      rw [rdNums_one] at hk7 ⊢
      refine s_nil ?_
      refine q_end0 rfl (L' := _) (List.Sublist.refl _) ⟨rfl, _, u, us, _, ⟨a7, rfl, hk7⟩, by rw [hC4, hC5]; rfl, hst.mono (fun x hx => List.Mem.tail _ hx), fun s hs => (hrows s hs).mono (fun x hx => List.Mem.tail _ hx)⟩
end
end Go.Proofs.Ytphmdhbhoakcaaa
