/- The reader: fields, Parse. -/
import Derived.Test.YtphmdhbhoakcaaaR6
namespace Go.Proofs.Ytphmdhbhoakcaaa
open Go.RowKit Go.Ad Go.Maps
set_option linter.unusedVariables false
set_option linter.unusedSimpArgs false
section
variable {W : World} {b : Nat} {a a' : Option Addr} {n c k : Nat} {e : Int} {bs : List UInt8} {y : Bk} {j : Nat} {u0 : Value}
/-- A message of a kind that holds nothing else. -/
abbrev zc (kd : Int) : List Value := [.int .i64 kd, .int .i64 0, .int .i64 0, .bool false, .int .u32 0, .int .i64 0, .int .i64 0, .int .i64 0, .int .i64 0, .int .i64 0, .int .i64 0, .int .i64 0, .slice none 0 0, .int .i64 0, .int .i64 0, .int .i64 0, .int .i64 0, .slice none 0 0, .int .i64 0, .int .i64 0, .int .i64 0, .int .i64 0, .slice none 0 0, .slice none 0 0, .slice none 0 0, .slice none 0 0, .int .i64 0, .int .i64 0, .int .i64 0, .slice none 0 0]
theorem zc_int (kd : Int) : ∀ i, i ∈ [0, 1, 2, 5, 6, 7, 8, 9, 10, 11, 13, 14, 15, 16, 18, 19, 20, 21, 26, 27, 28] → IntAt (zc kd) i := by
  intro i hi
  simp only [List.mem_cons, List.not_mem_nil, or_false] at hi
  rcases hi with rfl | rfl | rfl | rfl | rfl | rfl | rfl | rfl | rfl | rfl | rfl | rfl | rfl | rfl | rfl | rfl | rfl | rfl | rfl | rfl | rfl <;> exact ⟨_, rfl⟩
theorem zc_nil (kd : Int) : ∀ i, i ∈ [12, 17, 22, 23, 24, 25, 29] → (zc kd)[i]? = some (.slice none 0 0) := by
  intro i hi
  simp only [List.mem_cons, List.not_mem_nil, or_false] at hi
  rcases hi with rfl | rfl | rfl | rfl | rfl | rfl | rfl <;> rfl
inductive FldP (bs : List UInt8) (k : Nat) (e : Int) : Int → List Value → Nat × Int → List Bk → Prop
  | join {bl : List Bk} : FldP bs k e 1 ((rdNums bs [2] (zc 1) k e).1.set 3 (.bool (decide ((rdNum bs 1 0 1 (rdNums bs [2] (zc 1) k e).2.1 (rdNums bs [2] (zc 1) k e).2.2).1 = 1)))) (rdNum bs 1 0 1 (rdNums bs [2] (zc 1) k e).2.1 (rdNums bs [2] (zc 1) k e).2.2).2 bl
  | up {C : List Value} {p : Nat × Int} {bl : List Bk} {u : Value} (h : rdNums bs [1, 2] (zc 2) k e = (C, p)) (hr : InRow u bl (rdRow bs (upR bs C p.1 p.2).2.1 (upR bs C p.1 p.2).2.2).1) : FldP bs k e 2 ((upR bs C p.1 p.2).1.set 12 u) (rdRow bs (upR bs C p.1 p.2).2.1 (upR bs C p.1 p.2).2.2).2 bl
  | down {C H : List Value} {p q : Nat × Int} {bl : List Bk} {sr : Option (Nat × List Value)} {t : Nat × Int} {u : Value} {us : Nat → Value} (h : rdNums bs [1, 2] (zc 3) k e = (C, p)) (h2 : downH bs C p.1 p.2 = (H, q)) (h3 : rdStream bs q.1 q.2 = (sr, t)) (hs : InStr u bl sr) (hr : ∀ s, s < 4 → InRow (us s) bl (rowF bs t s)) :
      FldP bs k e 3 ((seatC bs t us 4 (H.set 17 u)).set 26 (.int .i64 (n4 bs (seatK bs t 4)).1)) (n4 bs (seatK bs t 4)).2 bl
  | chunk {C H : List Value} {p : Nat × Int} {q : Int × Nat × Int} {bl : List Bk} {u : Value} (h : rdNums bs [1, 2] (zc 4) k e = (C, p)) (h2 : chunkR bs C p.1 p.2 = (H, q)) (hd : InDat u bl (chunkB bs q).1) : FldP bs k e 4 (H.set 29 u) (chunkB bs q).2 bl
theorem InDat.mono {v : Value} {bl bl' : List Bk} {l : List UInt8} (h : InDat v bl l) (hs : ∀ x ∈ bl, x ∈ bl') : InDat v bl' l := by
  rcases h with hd | ⟨g, cap, h1, h2, h3⟩
  · exact .inl hd
  · exact .inr ⟨g, cap, h1, hs _ h2, h3⟩
theorem FldP.mono {kd : Int} {c : List Value} {p : Nat × Int} {bl bl' : List Bk} (h : FldP bs k e kd c p bl) (hs : ∀ x ∈ bl, x ∈ bl') : FldP bs k e kd c p bl' := by
  cases h with
  | join => exact .join
  | up h hr => exact .up h (hr.mono hs)
  | down h h2 h3 h4 hr => exact .down h h2 h3 (h4.mono hs) (fun s h => (hr s h).mono hs)
  | chunk h h2 hd => exact .chunk h h2 (hd.mono hs)
set_option maxRecDepth 100000 in
theorem fields_d {kd : Int} {yb yt yk ycap : Nat} (h1 : 1 ≤ kd) (h4 : kd ≤ 4) (hk : RdAt a n c k a') (hx : (rd b a' n c k e).holds W) (hy : (⟨yb, yt, yk, ycap, zc kd⟩ : Bk).holds W) (hne : b ≠ yb) (hs : Src W [b, yb] a n c bs) :
    Does Try.prog 20 [.iface 67 (ptr b), ptr yb] W [b, yb] (fun v L => v = .tuple #[] ∧ ∃ x c' p bl, Rds b a n c p.1 p.2 x ∧ L = x :: ⟨yb, yt, yk, ycap, c'⟩ :: bl ∧ FldP bs k e kd c' p bl) := by
  refine enter Try.func20 rfl rfl rfl (Has.starts (xs := [rd b a' n c k e, ⟨yb, yt, yk, ycap, zc kd⟩]) (by simp; exact ⟨hx, hy⟩) (by simpa using hne)) ?_
  refine c_seq ?_
  refine c_seq ?_
  -- wire.go:240
  refine c_reg ?_
  refine s_y (Y_mv) rfl rfl ?_
  refine s_y ((by first | exact Y_nil rfl | exact Y_nilF rfl | exact Y_nilM rfl (by assumption) | exact Y_nilM rfl (by intro w k; kernel_rfl))) rfl rfl ?_
  refine s_y (Y_fa 0 rfl Try.underlying29 rfl sz3 rfl) rfl rfl ?_
  refine s_y ((by first | exact Y_load rfl one3 (by repeat (first | exact List.Mem.head _ | assumption | apply List.Mem.tail | apply List.mem_append_right)) (by rfl) | exact Y_load rfl one3 (by repeat (first | exact List.Mem.head _ | assumption | apply List.Mem.tail | apply List.mem_append_right)) (by assumption) | exact Y_loadR rfl one3 (by assumption) rfl (by assumption))) rfl rfl ?_
  refine s_nil ?_
  refine q_then ?_
  refine c_block ?_
  refine c_seq ?_
  refine c_block ?_
  refine c_block ?_
  refine c_block ?_
  refine c_seq ?_
  refine c_block ?_
  refine c_seq ?_
  refine c_seq ?_
  refine c_seq ?_
  -- wire.go:241
  refine c_reg ?_
  refine s_y (Y_eql rfl rfl) rfl rfl ?_
  refine s_y (Y_as) rfl rfl ?_
  refine s_nil ?_
  refine q_then ?_
  obtain rfl | rfl | rfl | rfl : kd = 1 ∨ kd = 2 ∨ kd = 3 ∨ kd = 4 := by omega
  · refine c_T rfl rfl ?_
    refine c_exit ?_
    repeat with_reducible refine q_te ?_
    refine q_exit ?_
    refine q_then ?_
    refine c_seq ?_
    refine c_seq ?_
    -- wire.go:242
    refine c_reg ?_
    refine s_y (Y_mv) rfl rfl ?_
    refine s_y (Y_mv) rfl rfl ?_
    refine s_y ((by first | exact Y_nil rfl | exact Y_nilF rfl | exact Y_nilM rfl (by assumption) | exact Y_nilM rfl (by intro w k; kernel_rfl))) rfl rfl ?_
    refine s_y (Y_fa 2 rfl Try.underlying29 rfl sz3 rfl) rfl rfl ?_
    refine s_n (N_bs (xs := [.tmp 17]) (by repeat (first | exact Gv.nil | apply Gv.const | apply Gv.tmp (by repeat (first | exact Gt.here | apply Gt.there (by rfl) | exact Gt.base (by rfl))))) rfl Try.underlying88 inf83 rfl (by omega) (by omega) (by first | simp [Value.oneCell'] | (intro v hv; simp at hv; subst hv; rfl))) rfl rfl (fun b18 _ => ?_)
    refine s_cm [rd b a' n c k e, ⟨yb, yt, yk, ycap, (zc 1)⟩] (En_call (fun _ => rfl) Try.func40 rfl (by kernel_rfl) rfl) (by repeat (first | exact Sels.nil | apply Sels.cons (by repeat (first | exact Sel.head | apply Sel.tail)))) (fun w hH => plain_d (y := ⟨yb, yt, yk, ycap, (zc 1)⟩) (js := [2]) hk (hH.at' (by repeat (first | exact List.Mem.head _ | assumption | apply List.Mem.tail | apply List.mem_append_right))) (hH.at' (by repeat (first | exact List.Mem.head _ | assumption | apply List.Mem.tail | apply List.mem_append_right))) hne (hs.call2 (rd b a' n c k e) ⟨yb, yt, yk, ycap, (zc 1)⟩ hH (by repeat (first | exact Sels.nil | apply Sels.cons (by repeat (first | exact Sel.head | apply Sel.tail))))) rfl (by omega) (hH.at' (by repeat (first | exact List.Mem.head _ | assumption | apply List.Mem.tail | apply List.mem_append_right))).ro (by simp; exact ⟨ne2 ⟨b18, 83, 1, 1, [ptrAt yb 2]⟩ (rd b a' n c k e) hH (by repeat (first | exact Sels.nil | apply Sels.cons (by repeat (first | exact Sel.head | apply Sel.tail)))), ne2 ⟨b18, 83, 1, 1, [ptrAt yb 2]⟩ ⟨yb, yt, yk, ycap, (zc 1)⟩ hH (by repeat (first | exact Sels.nil | apply Sels.cons (by repeat (first | exact Sel.head | apply Sel.tail))))⟩) (by simp; exact ⟨0, rfl⟩)) rfl rfl ?_
    rintro _ _ ⟨rfl, _, ⟨a2, rfl, hk2⟩, rfl⟩
    have hN3 : (rdNums bs [2] (zc 1) k e).1[3]? = some (.bool false) := rdNums_at _ (by decide) rfl
    have hF := FldP.join (bs := bs) (k := k) (e := e) (bl := [⟨b18, 83, 1, 1, [ptrAt yb 2]⟩])
    generalize rdNums bs [2] (zc 1) k e = r at *
    obtain ⟨C1, k1, e1⟩ := r
    simp only at hk2 hN3 hF ⊢
    refine s_nil ?_
    refine q_then ?_
    refine c_seq ?_
    -- wire.go:243
    refine c_reg ?_
    refine s_y (Y_mv) rfl rfl ?_
    refine s_y (Y_mv) rfl rfl ?_
    refine s_y ((by first | exact Y_nil rfl | exact Y_nilF rfl | exact Y_nilM rfl (by assumption) | exact Y_nilM rfl (by intro w k; kernel_rfl))) rfl rfl ?_
    refine s_y (Y_fa 3 rfl Try.underlying29 rfl sz4 rfl) rfl rfl ?_
    refine s_cm [rd b a2 n c k1 e1, ⟨yb, yt, yk, ycap, C1⟩] (En_call (fun _ => rfl) Try.func41 rfl (by kernel_rfl) rfl) (by repeat (first | exact Sels.nil | apply Sels.cons (by repeat (first | exact Sel.head | apply Sel.tail)))) (fun w hH => truth_d (y := ⟨yb, yt, yk, ycap, C1⟩) hk2 (hH.at' (by repeat (first | exact List.Mem.head _ | assumption | apply List.Mem.tail | apply List.mem_append_right))) (hH.at' (by repeat (first | exact List.Mem.head _ | assumption | apply List.Mem.tail | apply List.mem_append_right))) hne (hs.call2 (rd b a2 n c k1 e1) ⟨yb, yt, yk, ycap, C1⟩ hH (by repeat (first | exact Sels.nil | apply Sels.cons (by repeat (first | exact Sel.head | apply Sel.tail))))) hN3) rfl rfl ?_
    rintro _ _ ⟨rfl, _, ⟨a3, rfl, hk3⟩, rfl⟩
    refine s_nil ?_
    refine q_then ?_
    refine c_ret ?_
    refine q_ret0 rfl (L' := _) (List.Sublist.refl _) ⟨rfl, _, _, _, _, ⟨a3, rfl, hk3⟩, rfl, hF⟩
  · refine c_F rfl rfl ?_
    refine c_skip ?_
    refine q_then ?_
    refine c_seq ?_
    refine c_seq ?_
    -- wire.go:245
    refine c_reg ?_
    refine s_y (Y_eql rfl rfl) rfl rfl ?_
    refine s_y (Y_as) rfl rfl ?_
    refine s_nil ?_
    refine q_then ?_
    refine c_T rfl rfl ?_
    refine c_exit ?_
    repeat with_reducible refine q_te ?_
    refine q_past rfl ?_
    repeat with_reducible refine q_te ?_
    refine q_exit ?_
    refine q_bn ?_
    refine q_bn ?_
    refine q_then ?_
    refine c_seq ?_
    -- wire.go:250
    refine c_rord [8] [(0, true), (1, true), (2, true), (3, true), (4, true), (5, true), (6, true), (7, false), (8, false)] (by kernel_rfl) (by kernel_rfl) (by kernel_rfl) (by kernel_rfl) rfl (by intro c a d v w h; cases d <;> exact h) rfl ?_
    simp only [mkOrd, List.filterMap_cons, List.filterMap_nil, List.getElem?_toArray, List.getElem?_cons_zero, List.getElem?_cons_succ, Option.map_some]
    refine o_y (Y_mv) rfl rfl ?_
    refine o_y (Y_mv) rfl rfl ?_
    refine o_y ((by first | exact Y_nil rfl | exact Y_nilF rfl | exact Y_nilM rfl (by assumption) | exact Y_nilM rfl (by intro w k; kernel_rfl))) rfl rfl ?_
    refine o_y (Y_fa 1 rfl Try.underlying29 rfl sz3 rfl) rfl rfl ?_
    refine o_y (Y_mv) rfl rfl ?_
    refine o_y ((by first | exact Y_nil rfl | exact Y_nilF rfl | exact Y_nilM rfl (by assumption) | exact Y_nilM rfl (by intro w k; kernel_rfl))) rfl rfl ?_
    refine o_y (Y_fa 2 rfl Try.underlying29 rfl sz3 rfl) rfl rfl ?_
    refine o_n (N_bs (xs := [.tmp 28, .tmp 31]) (by repeat (first | exact Gv.nil | apply Gv.const | apply Gv.tmp (by repeat (first | exact Gt.here | apply Gt.there (by rfl) | exact Gt.base (by rfl))))) rfl Try.underlying88 inf83 rfl (by omega) (by omega) (by first | simp [Value.oneCell'] | (intro v hv; simp at hv; subst hv; rfl))) (fun _ => (by first | exact keep_no rfl | exact keep_sub (by repeat (first | exact List.Sublist.refl _ | exact List.nil_sublist _ | apply List.Sublist.cons_cons | apply List.Sublist.cons)))) rfl rfl (fun b32 _ => ?_)
    refine o_cm [rd b a' n c k e, ⟨yb, yt, yk, ycap, (zc (2))⟩] (En_call (fun _ => rfl) Try.func40 rfl (by kernel_rfl) rfl) (by repeat (first | exact Sels.nil | apply Sels.cons (by repeat (first | exact Sel.head | apply Sel.tail)))) (fun w hH => plain_d (y := ⟨yb, yt, yk, ycap, (zc (2))⟩) (js := [1, 2]) hk (hH.at' (by repeat (first | exact List.Mem.head _ | assumption | apply List.Mem.tail | apply List.mem_append_right))) (hH.at' (by repeat (first | exact List.Mem.head _ | assumption | apply List.Mem.tail | apply List.mem_append_right))) hne (hs.call2 (rd b a' n c k e) ⟨yb, yt, yk, ycap, (zc (2))⟩ hH (by repeat (first | exact Sels.nil | apply Sels.cons (by repeat (first | exact Sel.head | apply Sel.tail))))) rfl (by omega) (hH.at' (by repeat (first | exact List.Mem.head _ | assumption | apply List.Mem.tail | apply List.mem_append_right))).ro (by simp; exact ⟨ne2 ⟨b32, 83, 1, 2, [ptrAt yb 1, ptrAt yb 2]⟩ (rd b a' n c k e) hH (by repeat (first | exact Sels.nil | apply Sels.cons (by repeat (first | exact Sel.head | apply Sel.tail)))), ne2 ⟨b32, 83, 1, 2, [ptrAt yb 1, ptrAt yb 2]⟩ ⟨yb, yt, yk, ycap, (zc (2))⟩ hH (by repeat (first | exact Sels.nil | apply Sels.cons (by repeat (first | exact Sel.head | apply Sel.tail))))⟩) (by simp; exact ⟨⟨0, rfl⟩, ⟨0, rfl⟩⟩)) (fun _ _ h => by obtain ⟨rfl, _, ⟨a2, rfl, hk2⟩, rfl⟩ := h; exact (by first | exact keep_no rfl | exact keep_sub (by repeat (first | exact List.Sublist.refl _ | exact List.nil_sublist _ | apply List.Sublist.cons_cons | apply List.Sublist.cons)))) rfl rfl ?_
    rintro _ _ ⟨rfl, _, ⟨a2, rfl, hk2⟩, rfl⟩
    have hI2 : ∀ i, IntAt (zc 2) i → IntAt (rdNums bs [1, 2] (zc 2) k e).1 i := fun i hi => rdNums_int _ hi
    have hN2 : ∀ i v, i ∉ [1, 2] → (zc 2)[i]? = some v → (rdNums bs [1, 2] (zc 2) k e).1[i]? = some v := fun i v hi hv => rdNums_at _ hi hv
    have hk0 : (rdNums bs [1, 2] (zc 2) k e).1[0]? = some (.int .i64 2) := hN2 0 _ (by decide) rfl
    generalize hr1 : rdNums bs [1, 2] (zc 2) k e = r at *
    obtain ⟨C1, k1, e1⟩ := r
    simp only at hk2 hI2 hN2 hk0 ⊢
    refine o_nil ?_
    refine q_then ?_
    refine c_exit ?_
    repeat with_reducible refine q_te ?_
    refine q_exit ?_
    refine q_then ?_
    refine c_seq ?_
    -- wire.go:252
    refine c_reg ?_
    refine s_y (Y_mv) rfl rfl ?_
    refine s_y ((by first | exact Y_nil rfl | exact Y_nilF rfl | exact Y_nilM rfl (by assumption) | exact Y_nilM rfl (by intro w k; kernel_rfl))) rfl rfl ?_
    refine s_y (Y_fa 0 rfl Try.underlying29 rfl sz3 rfl) rfl rfl ?_
    refine s_y (Y_load rfl one3 (by repeat (first | exact List.Mem.head _ | assumption | apply List.Mem.tail | apply List.mem_append_right)) hk0) rfl rfl ?_
    refine s_nil ?_
    refine q_then ?_
    refine c_block ?_
    refine c_seq ?_
    -- wire.go:253
    refine c_reg ?_
    refine s_y (Y_eql rfl rfl) rfl rfl ?_
    refine s_y (Y_as) rfl rfl ?_
    refine s_nil ?_
    refine q_then ?_
    refine c_T rfl rfl ?_
    -- wire.go:254
    refine c_reg ?_
    refine s_y (Y_mv) rfl rfl ?_
    refine s_y (Y_mv) rfl rfl ?_
    refine s_cm [rd b a2 n c k1 e1, ⟨yb, yt, yk, ycap, C1⟩] (En_call (fun _ => rfl) Try.func42 rfl (by kernel_rfl) rfl) (by repeat (first | exact Sels.nil | apply Sels.cons (by repeat (first | exact Sel.head | apply Sel.tail)))) (fun w hH => up_d (y := ⟨yb, yt, yk, ycap, C1⟩) hk2 (hH.at' (by repeat (first | exact List.Mem.head _ | assumption | apply List.Mem.tail | apply List.mem_append_right))) (hH.at' (by repeat (first | exact List.Mem.head _ | assumption | apply List.Mem.tail | apply List.mem_append_right))) hne (hs.call2 (rd b a2 n c k1 e1) ⟨yb, yt, yk, ycap, C1⟩ hH (by repeat (first | exact Sels.nil | apply Sels.cons (by repeat (first | exact Sel.head | apply Sel.tail))))) (hN2 4 _ (by decide) rfl) (fun i h5 h12 => hI2 i (zc_int 2 i (by simp; omega))) (hN2 12 _ (by decide) rfl)) rfl rfl ?_
    rintro _ _ ⟨rfl, _, u, bl2, ⟨a3, rfl, hk3⟩, rfl, hrow⟩
    refine s_nil ?_
    refine q_bn ?_
    refine q_end0 rfl (L' := _) (List.Sublist.refl _) ⟨rfl, _, _, _, _, ⟨a3, rfl, hk3⟩, rfl, .up hr1 (hrow.mono (fun x hx => List.mem_append_left _ hx))⟩
  · refine c_F rfl rfl ?_
    refine c_skip ?_
    refine q_then ?_
    refine c_seq ?_
    refine c_seq ?_
    -- wire.go:245
    refine c_reg ?_
    refine s_y (Y_eql rfl rfl) rfl rfl ?_
    refine s_y (Y_as) rfl rfl ?_
    refine s_nil ?_
    refine q_then ?_
    refine c_F rfl rfl ?_
    refine c_skip ?_
    refine q_then ?_
    refine c_seq ?_
    -- wire.go:247
    refine c_reg ?_
    refine s_y (Y_eql rfl rfl) rfl rfl ?_
    refine s_y (Y_as) rfl rfl ?_
    refine s_nil ?_
    refine q_then ?_
    refine c_T rfl rfl ?_
    refine c_exit ?_
    repeat with_reducible refine q_te ?_
    refine q_past rfl ?_
    repeat with_reducible refine q_te ?_
    refine q_past rfl ?_
    repeat with_reducible refine q_te ?_
    refine q_exit ?_
    refine q_bn ?_
    refine q_then ?_
    refine c_seq ?_
    -- wire.go:250
    refine c_rord [8] [(0, true), (1, true), (2, true), (3, true), (4, true), (5, true), (6, true), (7, false), (8, false)] (by kernel_rfl) (by kernel_rfl) (by kernel_rfl) (by kernel_rfl) rfl (by intro c a d v w h; cases d <;> exact h) rfl ?_
    simp only [mkOrd, List.filterMap_cons, List.filterMap_nil, List.getElem?_toArray, List.getElem?_cons_zero, List.getElem?_cons_succ, Option.map_some]
    refine o_y (Y_mv) rfl rfl ?_
    refine o_y (Y_mv) rfl rfl ?_
    refine o_y ((by first | exact Y_nil rfl | exact Y_nilF rfl | exact Y_nilM rfl (by assumption) | exact Y_nilM rfl (by intro w k; kernel_rfl))) rfl rfl ?_
    refine o_y (Y_fa 1 rfl Try.underlying29 rfl sz3 rfl) rfl rfl ?_
    refine o_y (Y_mv) rfl rfl ?_
    refine o_y ((by first | exact Y_nil rfl | exact Y_nilF rfl | exact Y_nilM rfl (by assumption) | exact Y_nilM rfl (by intro w k; kernel_rfl))) rfl rfl ?_
    refine o_y (Y_fa 2 rfl Try.underlying29 rfl sz3 rfl) rfl rfl ?_
    refine o_n (N_bs (xs := [.tmp 28, .tmp 31]) (by repeat (first | exact Gv.nil | apply Gv.const | apply Gv.tmp (by repeat (first | exact Gt.here | apply Gt.there (by rfl) | exact Gt.base (by rfl))))) rfl Try.underlying88 inf83 rfl (by omega) (by omega) (by first | simp [Value.oneCell'] | (intro v hv; simp at hv; subst hv; rfl))) (fun _ => (by first | exact keep_no rfl | exact keep_sub (by repeat (first | exact List.Sublist.refl _ | exact List.nil_sublist _ | apply List.Sublist.cons_cons | apply List.Sublist.cons)))) rfl rfl (fun b32 _ => ?_)
    refine o_cm [rd b a' n c k e, ⟨yb, yt, yk, ycap, (zc (3))⟩] (En_call (fun _ => rfl) Try.func40 rfl (by kernel_rfl) rfl) (by repeat (first | exact Sels.nil | apply Sels.cons (by repeat (first | exact Sel.head | apply Sel.tail)))) (fun w hH => plain_d (y := ⟨yb, yt, yk, ycap, (zc (3))⟩) (js := [1, 2]) hk (hH.at' (by repeat (first | exact List.Mem.head _ | assumption | apply List.Mem.tail | apply List.mem_append_right))) (hH.at' (by repeat (first | exact List.Mem.head _ | assumption | apply List.Mem.tail | apply List.mem_append_right))) hne (hs.call2 (rd b a' n c k e) ⟨yb, yt, yk, ycap, (zc (3))⟩ hH (by repeat (first | exact Sels.nil | apply Sels.cons (by repeat (first | exact Sel.head | apply Sel.tail))))) rfl (by omega) (hH.at' (by repeat (first | exact List.Mem.head _ | assumption | apply List.Mem.tail | apply List.mem_append_right))).ro (by simp; exact ⟨ne2 ⟨b32, 83, 1, 2, [ptrAt yb 1, ptrAt yb 2]⟩ (rd b a' n c k e) hH (by repeat (first | exact Sels.nil | apply Sels.cons (by repeat (first | exact Sel.head | apply Sel.tail)))), ne2 ⟨b32, 83, 1, 2, [ptrAt yb 1, ptrAt yb 2]⟩ ⟨yb, yt, yk, ycap, (zc (3))⟩ hH (by repeat (first | exact Sels.nil | apply Sels.cons (by repeat (first | exact Sel.head | apply Sel.tail))))⟩) (by simp; exact ⟨⟨0, rfl⟩, ⟨0, rfl⟩⟩)) (fun _ _ h => by obtain ⟨rfl, _, ⟨a2, rfl, hk2⟩, rfl⟩ := h; exact (by first | exact keep_no rfl | exact keep_sub (by repeat (first | exact List.Sublist.refl _ | exact List.nil_sublist _ | apply List.Sublist.cons_cons | apply List.Sublist.cons)))) rfl rfl ?_
    rintro _ _ ⟨rfl, _, ⟨a2, rfl, hk2⟩, rfl⟩
    have hI2 : ∀ i, IntAt (zc 3) i → IntAt (rdNums bs [1, 2] (zc 3) k e).1 i := fun i hi => rdNums_int _ hi
    have hN2 : ∀ i v, i ∉ [1, 2] → (zc 3)[i]? = some v → (rdNums bs [1, 2] (zc 3) k e).1[i]? = some v := fun i v hi hv => rdNums_at _ hi hv
    have hk0 : (rdNums bs [1, 2] (zc 3) k e).1[0]? = some (.int .i64 3) := hN2 0 _ (by decide) rfl
    generalize hr1 : rdNums bs [1, 2] (zc 3) k e = r at *
    obtain ⟨C1, k1, e1⟩ := r
    simp only at hk2 hI2 hN2 hk0 ⊢
    refine o_nil ?_
    refine q_then ?_
    refine c_exit ?_
    repeat with_reducible refine q_te ?_
    refine q_exit ?_
    refine q_then ?_
    refine c_seq ?_
    -- wire.go:252
    refine c_reg ?_
    refine s_y (Y_mv) rfl rfl ?_
    refine s_y ((by first | exact Y_nil rfl | exact Y_nilF rfl | exact Y_nilM rfl (by assumption) | exact Y_nilM rfl (by intro w k; kernel_rfl))) rfl rfl ?_
    refine s_y (Y_fa 0 rfl Try.underlying29 rfl sz3 rfl) rfl rfl ?_
    refine s_y (Y_load rfl one3 (by repeat (first | exact List.Mem.head _ | assumption | apply List.Mem.tail | apply List.mem_append_right)) hk0) rfl rfl ?_
    refine s_nil ?_
    refine q_then ?_
    refine c_block ?_
    refine c_seq ?_
    -- wire.go:253
    refine c_reg ?_
    refine s_y (Y_eql rfl rfl) rfl rfl ?_
    refine s_y (Y_as) rfl rfl ?_
    refine s_nil ?_
    refine q_then ?_
    refine c_F rfl rfl ?_
    refine c_seq ?_
    -- wire.go:255
    refine c_reg ?_
    refine s_y (Y_eql rfl rfl) rfl rfl ?_
    refine s_y (Y_as) rfl rfl ?_
    refine s_nil ?_
    refine q_then ?_
    refine c_T rfl rfl ?_
    -- wire.go:256
    refine c_reg ?_
    refine s_y (Y_mv) rfl rfl ?_
    refine s_y (Y_mv) rfl rfl ?_
    refine s_cm [rd b a2 n c k1 e1, ⟨yb, yt, yk, ycap, C1⟩] (En_call (fun _ => rfl) Try.func43 rfl (by kernel_rfl) rfl) (by repeat (first | exact Sels.nil | apply Sels.cons (by repeat (first | exact Sel.head | apply Sel.tail)))) (fun w hH => down_d (y := ⟨yb, yt, yk, ycap, C1⟩) hk2 (hH.at' (by repeat (first | exact List.Mem.head _ | assumption | apply List.Mem.tail | apply List.mem_append_right))) (hH.at' (by repeat (first | exact List.Mem.head _ | assumption | apply List.Mem.tail | apply List.mem_append_right))) hne (hs.call2 (rd b a2 n c k1 e1) ⟨yb, yt, yk, ycap, C1⟩ hH (by repeat (first | exact Sels.nil | apply Sels.cons (by repeat (first | exact Sel.head | apply Sel.tail))))) (hN2 14 _ (by decide) rfl) (fun i hi => hI2 i (zc_int 3 i (by simp at hi ⊢; omega))) (fun i hi => hN2 i _ (by simp at hi ⊢; omega) (zc_nil 3 i (by simp at hi ⊢; omega)))) rfl rfl ?_
    rintro _ _ ⟨rfl, _, u, us, bl2, ⟨a3, rfl, hk3⟩, rfl, hstr, hrows⟩
    refine s_nil ?_
    refine q_bn ?_
    refine q_end0 rfl (L' := _) (List.Sublist.refl _) ⟨rfl, _, _, _, _, ⟨a3, rfl, hk3⟩, rfl, .down hr1 rfl rfl (hstr.mono (fun x hx => List.mem_append_left _ hx)) (fun s hs => (hrows s hs).mono (fun x hx => List.mem_append_left _ hx))⟩
  · refine c_F rfl rfl ?_
    refine c_skip ?_
    refine q_then ?_
    refine c_seq ?_
    refine c_seq ?_
    -- wire.go:245
    refine c_reg ?_
    refine s_y (Y_eql rfl rfl) rfl rfl ?_
    refine s_y (Y_as) rfl rfl ?_
    refine s_nil ?_
    refine q_then ?_
    refine c_F rfl rfl ?_
    refine c_skip ?_
    refine q_then ?_
    refine c_seq ?_
    -- wire.go:247
    refine c_reg ?_
    refine s_y (Y_eql rfl rfl) rfl rfl ?_
    refine s_y (Y_as) rfl rfl ?_
    refine s_nil ?_
    refine q_then ?_
    refine c_F rfl rfl ?_
    refine c_skip ?_
    refine q_then ?_
    refine c_exit ?_
    repeat with_reducible refine q_te ?_
    refine q_past rfl ?_
    repeat with_reducible refine q_te ?_
    refine q_past rfl ?_
    repeat with_reducible refine q_te ?_
    refine q_past rfl ?_
    repeat with_reducible refine q_te ?_
    refine q_exit ?_
    refine q_then ?_
    refine c_seq ?_
    -- wire.go:250
    refine c_rord [8] [(0, true), (1, true), (2, true), (3, true), (4, true), (5, true), (6, true), (7, false), (8, false)] (by kernel_rfl) (by kernel_rfl) (by kernel_rfl) (by kernel_rfl) rfl (by intro c a d v w h; cases d <;> exact h) rfl ?_
    simp only [mkOrd, List.filterMap_cons, List.filterMap_nil, List.getElem?_toArray, List.getElem?_cons_zero, List.getElem?_cons_succ, Option.map_some]
    refine o_y (Y_mv) rfl rfl ?_
    refine o_y (Y_mv) rfl rfl ?_
    refine o_y ((by first | exact Y_nil rfl | exact Y_nilF rfl | exact Y_nilM rfl (by assumption) | exact Y_nilM rfl (by intro w k; kernel_rfl))) rfl rfl ?_
    refine o_y (Y_fa 1 rfl Try.underlying29 rfl sz3 rfl) rfl rfl ?_
    refine o_y (Y_mv) rfl rfl ?_
    refine o_y ((by first | exact Y_nil rfl | exact Y_nilF rfl | exact Y_nilM rfl (by assumption) | exact Y_nilM rfl (by intro w k; kernel_rfl))) rfl rfl ?_
    refine o_y (Y_fa 2 rfl Try.underlying29 rfl sz3 rfl) rfl rfl ?_
    refine o_n (N_bs (xs := [.tmp 28, .tmp 31]) (by repeat (first | exact Gv.nil | apply Gv.const | apply Gv.tmp (by repeat (first | exact Gt.here | apply Gt.there (by rfl) | exact Gt.base (by rfl))))) rfl Try.underlying88 inf83 rfl (by omega) (by omega) (by first | simp [Value.oneCell'] | (intro v hv; simp at hv; subst hv; rfl))) (fun _ => (by first | exact keep_no rfl | exact keep_sub (by repeat (first | exact List.Sublist.refl _ | exact List.nil_sublist _ | apply List.Sublist.cons_cons | apply List.Sublist.cons)))) rfl rfl (fun b32 _ => ?_)
    refine o_cm [rd b a' n c k e, ⟨yb, yt, yk, ycap, (zc (4))⟩] (En_call (fun _ => rfl) Try.func40 rfl (by kernel_rfl) rfl) (by repeat (first | exact Sels.nil | apply Sels.cons (by repeat (first | exact Sel.head | apply Sel.tail)))) (fun w hH => plain_d (y := ⟨yb, yt, yk, ycap, (zc (4))⟩) (js := [1, 2]) hk (hH.at' (by repeat (first | exact List.Mem.head _ | assumption | apply List.Mem.tail | apply List.mem_append_right))) (hH.at' (by repeat (first | exact List.Mem.head _ | assumption | apply List.Mem.tail | apply List.mem_append_right))) hne (hs.call2 (rd b a' n c k e) ⟨yb, yt, yk, ycap, (zc (4))⟩ hH (by repeat (first | exact Sels.nil | apply Sels.cons (by repeat (first | exact Sel.head | apply Sel.tail))))) rfl (by omega) (hH.at' (by repeat (first | exact List.Mem.head _ | assumption | apply List.Mem.tail | apply List.mem_append_right))).ro (by simp; exact ⟨ne2 ⟨b32, 83, 1, 2, [ptrAt yb 1, ptrAt yb 2]⟩ (rd b a' n c k e) hH (by repeat (first | exact Sels.nil | apply Sels.cons (by repeat (first | exact Sel.head | apply Sel.tail)))), ne2 ⟨b32, 83, 1, 2, [ptrAt yb 1, ptrAt yb 2]⟩ ⟨yb, yt, yk, ycap, (zc (4))⟩ hH (by repeat (first | exact Sels.nil | apply Sels.cons (by repeat (first | exact Sel.head | apply Sel.tail))))⟩) (by simp; exact ⟨⟨0, rfl⟩, ⟨0, rfl⟩⟩)) (fun _ _ h => by obtain ⟨rfl, _, ⟨a2, rfl, hk2⟩, rfl⟩ := h; exact (by first | exact keep_no rfl | exact keep_sub (by repeat (first | exact List.Sublist.refl _ | exact List.nil_sublist _ | apply List.Sublist.cons_cons | apply List.Sublist.cons)))) rfl rfl ?_
    rintro _ _ ⟨rfl, _, ⟨a2, rfl, hk2⟩, rfl⟩
    have hI2 : ∀ i, IntAt (zc 4) i → IntAt (rdNums bs [1, 2] (zc 4) k e).1 i := fun i hi => rdNums_int _ hi
    have hN2 : ∀ i v, i ∉ [1, 2] → (zc 4)[i]? = some v → (rdNums bs [1, 2] (zc 4) k e).1[i]? = some v := fun i v hi hv => rdNums_at _ hi hv
    have hk0 : (rdNums bs [1, 2] (zc 4) k e).1[0]? = some (.int .i64 4) := hN2 0 _ (by decide) rfl
    generalize hr1 : rdNums bs [1, 2] (zc 4) k e = r at *
    obtain ⟨C1, k1, e1⟩ := r
    simp only at hk2 hI2 hN2 hk0 ⊢
    refine o_nil ?_
    refine q_then ?_
    refine c_exit ?_
    repeat with_reducible refine q_te ?_
    refine q_exit ?_
    refine q_then ?_
    refine c_seq ?_
    -- wire.go:252
    refine c_reg ?_
    refine s_y (Y_mv) rfl rfl ?_
    refine s_y ((by first | exact Y_nil rfl | exact Y_nilF rfl | exact Y_nilM rfl (by assumption) | exact Y_nilM rfl (by intro w k; kernel_rfl))) rfl rfl ?_
    refine s_y (Y_fa 0 rfl Try.underlying29 rfl sz3 rfl) rfl rfl ?_
    refine s_y (Y_load rfl one3 (by repeat (first | exact List.Mem.head _ | assumption | apply List.Mem.tail | apply List.mem_append_right)) hk0) rfl rfl ?_
    refine s_nil ?_
    refine q_then ?_
    refine c_block ?_
    refine c_seq ?_
    -- wire.go:253
    refine c_reg ?_
    refine s_y (Y_eql rfl rfl) rfl rfl ?_
    refine s_y (Y_as) rfl rfl ?_
    refine s_nil ?_
    refine q_then ?_
    refine c_F rfl rfl ?_
    refine c_seq ?_
    -- wire.go:255
    refine c_reg ?_
    refine s_y (Y_eql rfl rfl) rfl rfl ?_
    refine s_y (Y_as) rfl rfl ?_
    refine s_nil ?_
    refine q_then ?_
    refine c_F rfl rfl ?_
    -- wire.go:258
    refine c_reg ?_
    refine s_y (Y_mv) rfl rfl ?_
    refine s_y (Y_mv) rfl rfl ?_
    refine s_cm [rd b a2 n c k1 e1, ⟨yb, yt, yk, ycap, C1⟩] (En_call (fun _ => rfl) Try.func44 rfl (by kernel_rfl) rfl) (by repeat (first | exact Sels.nil | apply Sels.cons (by repeat (first | exact Sel.head | apply Sel.tail)))) (fun w hH => chunk_d (y := ⟨yb, yt, yk, ycap, C1⟩) hk2 (hH.at' (by repeat (first | exact List.Mem.head _ | assumption | apply List.Mem.tail | apply List.mem_append_right))) (hH.at' (by repeat (first | exact List.Mem.head _ | assumption | apply List.Mem.tail | apply List.mem_append_right))) hne (hs.call2 (rd b a2 n c k1 e1) ⟨yb, yt, yk, ycap, C1⟩ hH (by repeat (first | exact Sels.nil | apply Sels.cons (by repeat (first | exact Sel.head | apply Sel.tail))))) (hI2 15 ⟨0, rfl⟩) (hI2 27 ⟨0, rfl⟩) (hI2 28 ⟨0, rfl⟩) (hN2 29 _ (by decide) rfl)) rfl rfl ?_
    rintro _ _ ⟨rfl, _, u, bl2, ⟨a3, rfl, hk3⟩, rfl, hdat⟩
    refine s_nil ?_
    refine q_bn ?_
    refine q_end0 rfl (L' := _) (List.Sublist.refl _) ⟨rfl, _, _, _, _, ⟨a3, rfl, hk3⟩, rfl, .chunk hr1 rfl (hdat.mono (fun x hx => List.mem_append_left _ hx))⟩
end
end Go.Proofs.Ytphmdhbhoakcaaa
