/- The reader: truth, record, row. -/
import Derived.Test.YtphmdhbhoakcaaaR2
namespace Go.Proofs.Ytphmdhbhoakcaaa
open Go.RowKit Go.Ad Go.Maps
set_option linter.unusedVariables false
set_option linter.unusedSimpArgs false
section
variable {W : World} {b : Nat} {a a' : Option Addr} {n c k : Nat} {e : Int} {bs : List UInt8} {y : Bk} {j : Nat} {u0 : Value}
abbrev intB (b : Nat) (v : Int) : Bk := ⟨b, 3, 1, 1, [.int .i64 v]⟩
set_option maxRecDepth 100000 in
theorem truth_d (hk : RdAt a n c k a') (hx : (rd b a' n c k e).holds W) (hy : y.holds W) (hne : b ≠ y.b) (hs : Src W [b, y.b] a n c bs) (hj : y.c[j]? = some (.bool false)) :
    Does Try.prog 41 [.iface 67 (ptr b), ptrAt y.b j] W [b, y.b] (fun v L => v = .tuple #[] ∧ ∃ x, Rds b a n c (rdNum bs 1 0 1 k e).2.1 (rdNum bs 1 0 1 k e).2.2 x ∧ L = [x, { y with c := y.c.set j (.bool (decide ((rdNum bs 1 0 1 k e).1 = 1))) }]) := by
  obtain ⟨yb, yt, yk, ycap, yc⟩ := y
  simp only at hne hs hj ⊢
  have hjl : j < yc.length := (List.getElem?_eq_some_iff.1 hj).1
  refine enter Try.func41 rfl rfl rfl (Has.starts (xs := [rd b a' n c k e, ⟨yb, yt, yk, ycap, yc⟩]) (by simp; exact ⟨hx, hy⟩) (by simpa using hne)) ?_
  refine c_seq ?_
  refine c_reg ?_
  refine s_n (N_alloc (z := .int .i64 0) (cs := [.int .i64 0]) zv3 rfl) rfl rfl (fun b4 _ => ?_)
  refine s_s (S_stC rfl sz3 (by rfl) (by repeat (first | exact Upd.head | apply Upd.tail)) (by first | (simp only [Nat.zero_add, Nat.reduceAdd, List.set_cons_succ, List.set_cons_zero]; rfl) | rfl) (by first | (simp; done) | omega)) rfl ?_
  refine s_nil ?_
  refine q_then ?_
  refine c_seq ?_
  refine c_seq ?_
  refine c_reg ?_
  refine s_y (Y_mv) rfl rfl ?_
  refine s_y ((by first | exact Y_nil rfl | exact Y_nilF rfl | exact Y_nilM rfl (by assumption) | exact Y_nilM rfl (by intro w k; kernel_rfl))) rfl rfl ?_
  refine s_y ((by first | exact Y_load rfl one4 (by repeat (first | exact List.Mem.head _ | assumption | apply List.Mem.tail | apply List.mem_append_right)) (by rfl) | exact Y_load rfl one4 (by repeat (first | exact List.Mem.head _ | assumption | apply List.Mem.tail | apply List.mem_append_right)) (by assumption) | exact Y_loadR rfl one4 (by assumption) rfl (by assumption))) rfl rfl ?_
  refine s_nil ?_
  refine q_then ?_
  refine c_F rfl rfl ?_
  refine c_skip ?_
  refine q_then ?_
  refine c_seq ?_
  refine c_reg ?_
  refine s_y (Y_mv) rfl rfl ?_
  refine s_cm [rd b a' n c k e, intB b4 0] (En_call (fun _ => rfl) Try.func47 rfl (by kernel_rfl) rfl) (by repeat (first | exact Sels.nil | apply Sels.cons (by repeat (first | exact Sel.head | apply Sel.tail)))) (fun w hH => number_d (m := 1) (y := intB b4 0) (by omega) (by omega) hk (hH.at' (by repeat (first | exact List.Mem.head _ | assumption | apply List.Mem.tail | apply List.mem_append_right))) (hH.at' (by repeat (first | exact List.Mem.head _ | assumption | apply List.Mem.tail | apply List.mem_append_right))) (ne2 (rd b a' n c k e) (intB b4 0) hH (by repeat (first | exact Sels.nil | apply Sels.cons (by repeat (first | exact Sel.head | apply Sel.tail))))) (hs.call2 (rd b a' n c k e) (intB b4 0) hH (by repeat (first | exact Sels.nil | apply Sels.cons (by repeat (first | exact Sel.head | apply Sel.tail))))) rfl) rfl rfl ?_
  rintro _ _ ⟨rfl, _, ⟨a2, rfl, hk2⟩, rfl⟩
  refine s_nil ?_
  refine q_then ?_
  refine c_reg ?_
  refine s_y (Y_mv) rfl rfl ?_
  refine s_y ((by first | exact Y_load rfl one3 (by repeat (first | exact List.Mem.head _ | assumption | apply List.Mem.tail | apply List.mem_append_right)) (by rfl) | exact Y_load rfl one3 (by repeat (first | exact List.Mem.head _ | assumption | apply List.Mem.tail | apply List.mem_append_right)) (by assumption) | exact Y_loadR rfl one3 (by assumption) rfl (by assumption))) rfl rfl ?_
  refine s_y (Y_eql rfl rfl) rfl rfl ?_
  refine s_y ((by first | exact Y_nil rfl | exact Y_nilF rfl | exact Y_nilM rfl (by assumption) | exact Y_nilM rfl (by intro w k; kernel_rfl))) rfl rfl ?_
  refine s_s (S_st rfl (by repeat (first | exact Gt.here | apply Gt.there (by rfl) | exact Gt.base (by rfl))) sz4 (by rfl) (by repeat (first | exact Upd.head | apply Upd.tail)) rfl (by simp [hjl])) rfl ?_
  refine s_nil ?_
  refine q_end0 rfl (L' := [rd b a2 n c (rdNum bs 1 0 1 k e).2.1 (rdNum bs 1 0 1 k e).2.2, ⟨yb, yt, yk, ycap, yc.set j (.bool (decide ((rdNum bs 1 0 1 k e).1 = 1)))⟩]) (by repeat (first | exact List.Sublist.refl _ | exact List.nil_sublist _ | apply List.Sublist.cons_cons | apply List.Sublist.cons)) ⟨rfl, _, ⟨a2, rfl, hk2⟩, rfl⟩
/-! ### Records -/
def recR (bs : List UInt8) (c : List Value) (o k : Nat) (e : Int) : List Value × Nat × Int :=
  let r := rdNum bs 1 1 3 k e
  let c1 := c.set (o + 0) (.int .i64 r.1)
  if r.1 = 1 then
    let q := rdNum bs 1 0 10 r.2.1 r.2.2
    (c1.set (o + 1) (.int .i64 q.1), q.2)
  else if r.1 = 3 then
    let q := rdNum bs 1 0 3 r.2.1 r.2.2
    rdNums bs [o + 3, o + 4] (c1.set (o + 2) (.int .i64 q.1)) q.2.1 q.2.2
  else if r.1 = 2 then
    let q := rdNum bs 1 0 3 r.2.1 r.2.2
    rdNums bs [o + 3] (c1.set (o + 2) (.int .i64 q.1)) q.2.1 q.2.2
  else (c1, r.2)
set_option maxRecDepth 100000 in
theorem record_d {o : Nat} (hk : RdAt a n c k a') (hx : (rd b a' n c k e).holds W) (hy : y.holds W) (hne : b ≠ y.b) (hs : Src W [b, y.b] a n c bs) (hj : ∀ i, i < 5 → IntAt y.c (o + i)) :
    Does Try.prog 50 [.iface 67 (ptr b), ptrAt y.b o] W [b, y.b] (fun v L => v = .tuple #[] ∧ ∃ x, Rds b a n c (recR bs y.c o k e).2.1 (recR bs y.c o k e).2.2 x ∧ L = [x, { y with c := (recR bs y.c o k e).1 }]) := by
  obtain ⟨yb, yt, yk, ycap, yc⟩ := y
  simp only at hne hs hj ⊢
  obtain ⟨k0, hk0⟩ := hj 0 (by omega)
  have hol : o + 0 < yc.length := (List.getElem?_eq_some_iff.1 hk0).1
  refine enter Try.func50 rfl rfl rfl (Has.starts (xs := [rd b a' n c k e, ⟨yb, yt, yk, ycap, yc⟩]) (by simp; exact ⟨hx, hy⟩) (by simpa using hne)) ?_
  refine c_seq ?_
  refine c_reg ?_
  refine s_y (Y_mv) rfl rfl ?_
  refine s_y (Y_mv) rfl rfl ?_
  refine s_y ((by first | exact Y_nil rfl | exact Y_nilF rfl | exact Y_nilM rfl (by assumption) | exact Y_nilM rfl (by intro w k; kernel_rfl))) rfl rfl ?_
  refine s_y (Y_fa 0 rfl Try.underlying37 rfl sz3 rfl) rfl rfl ?_
  refine s_cm [rd b a' n c k e, ⟨yb, yt, yk, ycap, yc⟩] (En_call (fun _ => rfl) Try.func47 rfl (by kernel_rfl) rfl) (by repeat (first | exact Sels.nil | apply Sels.cons (by repeat (first | exact Sel.head | apply Sel.tail)))) (fun w hH => number_d (m := 1) (y := ⟨yb, yt, yk, ycap, yc⟩) (by omega) (by omega) hk (hH.at' (by repeat (first | exact List.Mem.head _ | assumption | apply List.Mem.tail | apply List.mem_append_right))) (hH.at' (by repeat (first | exact List.Mem.head _ | assumption | apply List.Mem.tail | apply List.mem_append_right))) hne (hs.call2 (rd b a' n c k e) ⟨yb, yt, yk, ycap, yc⟩ hH (by repeat (first | exact Sels.nil | apply Sels.cons (by repeat (first | exact Sel.head | apply Sel.tail))))) hk0) rfl rfl ?_
  rintro _ _ ⟨rfl, _, ⟨a2, rfl, hk2⟩, rfl⟩
  refine s_nil ?_
  refine q_then ?_
  refine c_seq ?_
  refine c_reg ?_
  refine s_y (Y_mv) rfl rfl ?_
  refine s_y ((by first | exact Y_nil rfl | exact Y_nilF rfl | exact Y_nilM rfl (by assumption) | exact Y_nilM rfl (by intro w k; kernel_rfl))) rfl rfl ?_
  refine s_y (Y_fa 0 rfl Try.underlying37 rfl sz3 rfl) rfl rfl ?_
  refine s_y (Y_load rfl one3 (by repeat (first | exact List.Mem.head _ | assumption | apply List.Mem.tail | apply List.mem_append_right)) (List.getElem?_set_self hol)) rfl rfl ?_
  have hR : recR bs yc o k e = recR bs yc o k e := rfl
  conv at hR => rhs; unfold recR
  generalize rdNum bs 1 1 3 k e = r at *
  obtain ⟨z1, k1, e1⟩ := r
  simp only at hk2 hR
  have hi1 := (hj 1 (by omega)).set (j := o + 0) z1
  have hi2 := (hj 2 (by omega)).set (j := o + 0) z1
  have hi3 := (hj 3 (by omega)).set (j := o + 0) z1
  have hi4 := (hj 4 (by omega)).set (j := o + 0) z1
  refine s_nil ?_
  refine q_then ?_
  refine c_block ?_
  refine c_seq ?_
  refine c_reg ?_
  refine s_y (Y_eql rfl rfl) rfl rfl ?_
  refine s_y (Y_as) rfl rfl ?_
  refine s_nil ?_
  refine q_then ?_
  refine c_cond' rfl (fun h1 => ?_) (fun h1 => ?_)
  · obtain ⟨q0, hq0⟩ := hi1
    rw [if_pos h1] at hR
    refine c_reg ?_
    refine s_y (Y_mv) rfl rfl ?_
    refine s_y (Y_mv) rfl rfl ?_
    refine s_y ((by first | exact Y_nil rfl | exact Y_nilF rfl | exact Y_nilM rfl (by assumption) | exact Y_nilM rfl (by intro w k; kernel_rfl))) rfl rfl ?_
    refine s_y (Y_fa 1 rfl Try.underlying37 rfl sz3 rfl) rfl rfl ?_
    refine s_cm [rd b a2 n c k1 e1, ⟨yb, yt, yk, ycap, (yc.set (o+0) (.int .i64 z1))⟩] (En_call (fun _ => rfl) Try.func47 rfl (by kernel_rfl) rfl) (by repeat (first | exact Sels.nil | apply Sels.cons (by repeat (first | exact Sel.head | apply Sel.tail)))) (fun w hH => number_d (m := 1) (y := ⟨yb, yt, yk, ycap, (yc.set (o+0) (.int .i64 z1))⟩) (by omega) (by omega) hk2 (hH.at' (by repeat (first | exact List.Mem.head _ | assumption | apply List.Mem.tail | apply List.mem_append_right))) (hH.at' (by repeat (first | exact List.Mem.head _ | assumption | apply List.Mem.tail | apply List.mem_append_right))) hne (hs.call2 (rd b a2 n c k1 e1) ⟨yb, yt, yk, ycap, (yc.set (o+0) (.int .i64 z1))⟩ hH (by repeat (first | exact Sels.nil | apply Sels.cons (by repeat (first | exact Sel.head | apply Sel.tail))))) hq0) rfl rfl ?_
    rintro _ _ ⟨rfl, _, ⟨a3, rfl, hk3⟩, rfl⟩
    refine s_nil ?_
    refine q_bn ?_
    rw [hR]
    refine q_end0 rfl (L' := _) (by repeat (first | exact List.Sublist.refl _ | exact List.nil_sublist _ | apply List.Sublist.cons_cons | apply List.Sublist.cons)) ⟨rfl, _, ⟨a3, rfl, hk3⟩, rfl⟩
  · rw [if_neg h1] at hR
    refine c_seq ?_
    refine c_reg ?_
    refine s_y (Y_eql rfl rfl) rfl rfl ?_
    refine s_y (Y_as) rfl rfl ?_
    refine s_nil ?_
    refine q_then ?_
    refine c_cond' rfl (fun h3 => ?_) (fun h3 => ?_)
    · obtain ⟨q0, hq0⟩ := hi2
      rw [if_pos h3] at hR
      refine c_seq ?_
      refine c_reg ?_
      refine s_y (Y_mv) rfl rfl ?_
      refine s_y (Y_mv) rfl rfl ?_
      refine s_y ((by first | exact Y_nil rfl | exact Y_nilF rfl | exact Y_nilM rfl (by assumption) | exact Y_nilM rfl (by intro w k; kernel_rfl))) rfl rfl ?_
      refine s_y (Y_fa 2 rfl Try.underlying37 rfl sz3 rfl) rfl rfl ?_
      refine s_cm [rd b a2 n c k1 e1, ⟨yb, yt, yk, ycap, (yc.set (o+0) (.int .i64 z1))⟩] (En_call (fun _ => rfl) Try.func47 rfl (by kernel_rfl) rfl) (by repeat (first | exact Sels.nil | apply Sels.cons (by repeat (first | exact Sel.head | apply Sel.tail)))) (fun w hH => number_d (m := 1) (y := ⟨yb, yt, yk, ycap, (yc.set (o+0) (.int .i64 z1))⟩) (by omega) (by omega) hk2 (hH.at' (by repeat (first | exact List.Mem.head _ | assumption | apply List.Mem.tail | apply List.mem_append_right))) (hH.at' (by repeat (first | exact List.Mem.head _ | assumption | apply List.Mem.tail | apply List.mem_append_right))) hne (hs.call2 (rd b a2 n c k1 e1) ⟨yb, yt, yk, ycap, (yc.set (o+0) (.int .i64 z1))⟩ hH (by repeat (first | exact Sels.nil | apply Sels.cons (by repeat (first | exact Sel.head | apply Sel.tail))))) hq0) rfl rfl ?_
      rintro _ _ ⟨rfl, _, ⟨a3, rfl, hk3⟩, rfl⟩
      generalize rdNum bs 1 0 3 k1 e1 = r at *
      obtain ⟨z2, k2, e2⟩ := r
      simp only at hk3 hR
      refine s_nil ?_
      refine q_then ?_
      refine c_rord [8] [(0, true), (1, true), (2, true), (3, true), (4, true), (5, true), (6, true), (7, false), (8, false)] (by kernel_rfl) (by kernel_rfl) (by kernel_rfl) (by kernel_rfl) rfl (by intro c a d v w h; cases d <;> exact h) rfl ?_
      simp only [mkOrd, List.filterMap_cons, List.filterMap_nil, List.getElem?_toArray, List.getElem?_cons_zero, List.getElem?_cons_succ, Option.map_some]
      refine o_y (Y_mv) rfl rfl ?_
      refine o_y (Y_mv) rfl rfl ?_
      refine o_y ((by first | exact Y_nil rfl | exact Y_nilF rfl | exact Y_nilM rfl (by assumption) | exact Y_nilM rfl (by intro w k; kernel_rfl))) rfl rfl ?_
      refine o_y (Y_fa 3 rfl Try.underlying37 rfl sz3 rfl) rfl rfl ?_
      refine o_y (Y_mv) rfl rfl ?_
      refine o_y ((by first | exact Y_nil rfl | exact Y_nilF rfl | exact Y_nilM rfl (by assumption) | exact Y_nilM rfl (by intro w k; kernel_rfl))) rfl rfl ?_
      refine o_y (Y_fa 4 rfl Try.underlying37 rfl sz3 rfl) rfl rfl ?_
      refine o_n (N_bs (xs := [.tmp 30, .tmp 33]) (by repeat (first | exact Gv.nil | apply Gv.const | apply Gv.tmp (by repeat (first | exact Gt.here | apply Gt.there (by rfl) | exact Gt.base (by rfl))))) rfl Try.underlying88 inf83 rfl (by omega) (by omega) (by first | simp [Value.oneCell'] | (intro v hv; simp at hv; subst hv; rfl))) (fun _ => (by first | exact keep_no rfl | exact keep_sub (by repeat (first | exact List.Sublist.refl _ | exact List.nil_sublist _ | apply List.Sublist.cons_cons | apply List.Sublist.cons)))) rfl rfl (fun b34 _ => ?_)
      refine o_cm [rd b a3 n c k2 e2, ⟨yb, yt, yk, ycap, ((yc.set (o+0) (.int .i64 z1)).set (o+2) (.int .i64 z2))⟩] (En_call (fun _ => rfl) Try.func40 rfl (by kernel_rfl) rfl) (by repeat (first | exact Sels.nil | apply Sels.cons (by repeat (first | exact Sel.head | apply Sel.tail)))) (fun w hH => plain_d (y := ⟨yb, yt, yk, ycap, ((yc.set (o+0) (.int .i64 z1)).set (o+2) (.int .i64 z2))⟩) (js := [o+3, o+4]) hk3 (hH.at' (by repeat (first | exact List.Mem.head _ | assumption | apply List.Mem.tail | apply List.mem_append_right))) (hH.at' (by repeat (first | exact List.Mem.head _ | assumption | apply List.Mem.tail | apply List.mem_append_right))) hne (hs.call2 (rd b a3 n c k2 e2) ⟨yb, yt, yk, ycap, ((yc.set (o+0) (.int .i64 z1)).set (o+2) (.int .i64 z2))⟩ hH (by repeat (first | exact Sels.nil | apply Sels.cons (by repeat (first | exact Sel.head | apply Sel.tail))))) rfl (by omega) (hH.at' (by repeat (first | exact List.Mem.head _ | assumption | apply List.Mem.tail | apply List.mem_append_right))).ro (by simp; exact ⟨ne2 ⟨b34, 83, 1, 2, [ptrAt yb (o+3), ptrAt yb (o+4)]⟩ (rd b a3 n c k2 e2) hH (by repeat (first | exact Sels.nil | apply Sels.cons (by repeat (first | exact Sel.head | apply Sel.tail)))), ne2 ⟨b34, 83, 1, 2, [ptrAt yb (o+3), ptrAt yb (o+4)]⟩ ⟨yb, yt, yk, ycap, ((yc.set (o+0) (.int .i64 z1)).set (o+2) (.int .i64 z2))⟩ hH (by repeat (first | exact Sels.nil | apply Sels.cons (by repeat (first | exact Sel.head | apply Sel.tail))))⟩) (by simp; exact ⟨hi3.set _, hi4.set _⟩)) (fun _ _ h => by obtain ⟨rfl, _, ⟨a4, rfl, hk4⟩, rfl⟩ := h; exact (by first | exact keep_no rfl | exact keep_sub (by repeat (first | exact List.Sublist.refl _ | exact List.nil_sublist _ | apply List.Sublist.cons_cons | apply List.Sublist.cons)))) rfl rfl ?_
      rintro _ _ ⟨rfl, _, ⟨a4, rfl, hk4⟩, rfl⟩
      refine o_nil ?_
      refine q_bn ?_
      rw [hR]
      refine q_end0 rfl (L' := _) (by repeat (first | exact List.Sublist.refl _ | exact List.nil_sublist _ | apply List.Sublist.cons_cons | apply List.Sublist.cons)) ⟨rfl, _, ⟨a4, rfl, hk4⟩, rfl⟩
    · rw [if_neg h3] at hR
      refine c_seq ?_
      refine c_reg ?_
      refine s_y (Y_eql rfl rfl) rfl rfl ?_
      refine s_y (Y_as) rfl rfl ?_
      refine s_nil ?_
      refine q_then ?_
      refine c_cond' rfl (fun h2 => ?_) (fun h2 => ?_)
      · obtain ⟨q0, hq0⟩ := hi2
        rw [if_pos h2] at hR
        refine c_seq ?_
        refine c_reg ?_
        refine s_y (Y_mv) rfl rfl ?_
        refine s_y (Y_mv) rfl rfl ?_
        refine s_y ((by first | exact Y_nil rfl | exact Y_nilF rfl | exact Y_nilM rfl (by assumption) | exact Y_nilM rfl (by intro w k; kernel_rfl))) rfl rfl ?_
        refine s_y (Y_fa 2 rfl Try.underlying37 rfl sz3 rfl) rfl rfl ?_
        refine s_cm [rd b a2 n c k1 e1, ⟨yb, yt, yk, ycap, (yc.set (o+0) (.int .i64 z1))⟩] (En_call (fun _ => rfl) Try.func47 rfl (by kernel_rfl) rfl) (by repeat (first | exact Sels.nil | apply Sels.cons (by repeat (first | exact Sel.head | apply Sel.tail)))) (fun w hH => number_d (m := 1) (y := ⟨yb, yt, yk, ycap, (yc.set (o+0) (.int .i64 z1))⟩) (by omega) (by omega) hk2 (hH.at' (by repeat (first | exact List.Mem.head _ | assumption | apply List.Mem.tail | apply List.mem_append_right))) (hH.at' (by repeat (first | exact List.Mem.head _ | assumption | apply List.Mem.tail | apply List.mem_append_right))) hne (hs.call2 (rd b a2 n c k1 e1) ⟨yb, yt, yk, ycap, (yc.set (o+0) (.int .i64 z1))⟩ hH (by repeat (first | exact Sels.nil | apply Sels.cons (by repeat (first | exact Sel.head | apply Sel.tail))))) hq0) rfl rfl ?_
        rintro _ _ ⟨rfl, _, ⟨a3, rfl, hk3⟩, rfl⟩
        generalize rdNum bs 1 0 3 k1 e1 = r at *
        obtain ⟨z2, k2, e2⟩ := r
        simp only at hk3 hR
        refine s_nil ?_
        refine q_then ?_
        refine c_reg ?_
        refine s_y (Y_mv) rfl rfl ?_
        refine s_y (Y_mv) rfl rfl ?_
        refine s_y ((by first | exact Y_nil rfl | exact Y_nilF rfl | exact Y_nilM rfl (by assumption) | exact Y_nilM rfl (by intro w k; kernel_rfl))) rfl rfl ?_
        refine s_y (Y_fa 3 rfl Try.underlying37 rfl sz3 rfl) rfl rfl ?_
        refine s_n (N_bs (xs := [.tmp 46]) (by repeat (first | exact Gv.nil | apply Gv.const | apply Gv.tmp (by repeat (first | exact Gt.here | apply Gt.there (by rfl) | exact Gt.base (by rfl))))) rfl Try.underlying88 inf83 rfl (by omega) (by omega) (by first | simp [Value.oneCell'] | (intro v hv; simp at hv; subst hv; rfl))) rfl rfl (fun b47 _ => ?_)
        refine s_cm [rd b a3 n c k2 e2, ⟨yb, yt, yk, ycap, ((yc.set (o+0) (.int .i64 z1)).set (o+2) (.int .i64 z2))⟩] (En_call (fun _ => rfl) Try.func40 rfl (by kernel_rfl) rfl) (by repeat (first | exact Sels.nil | apply Sels.cons (by repeat (first | exact Sel.head | apply Sel.tail)))) (fun w hH => plain_d (y := ⟨yb, yt, yk, ycap, ((yc.set (o+0) (.int .i64 z1)).set (o+2) (.int .i64 z2))⟩) (js := [o+3]) hk3 (hH.at' (by repeat (first | exact List.Mem.head _ | assumption | apply List.Mem.tail | apply List.mem_append_right))) (hH.at' (by repeat (first | exact List.Mem.head _ | assumption | apply List.Mem.tail | apply List.mem_append_right))) hne (hs.call2 (rd b a3 n c k2 e2) ⟨yb, yt, yk, ycap, ((yc.set (o+0) (.int .i64 z1)).set (o+2) (.int .i64 z2))⟩ hH (by repeat (first | exact Sels.nil | apply Sels.cons (by repeat (first | exact Sel.head | apply Sel.tail))))) rfl (by omega) (hH.at' (by repeat (first | exact List.Mem.head _ | assumption | apply List.Mem.tail | apply List.mem_append_right))).ro (by simp; exact ⟨ne2 ⟨b47, 83, 1, 1, [ptrAt yb (o+3)]⟩ (rd b a3 n c k2 e2) hH (by repeat (first | exact Sels.nil | apply Sels.cons (by repeat (first | exact Sel.head | apply Sel.tail)))), ne2 ⟨b47, 83, 1, 1, [ptrAt yb (o+3)]⟩ ⟨yb, yt, yk, ycap, ((yc.set (o+0) (.int .i64 z1)).set (o+2) (.int .i64 z2))⟩ hH (by repeat (first | exact Sels.nil | apply Sels.cons (by repeat (first | exact Sel.head | apply Sel.tail))))⟩) (by simp; exact hi3.set _)) rfl rfl ?_
        rintro _ _ ⟨rfl, _, ⟨a4, rfl, hk4⟩, rfl⟩
        refine s_nil ?_
        refine q_bn ?_
        rw [hR]
        refine q_end0 rfl (L' := _) (by repeat (first | exact List.Sublist.refl _ | exact List.nil_sublist _ | apply List.Sublist.cons_cons | apply List.Sublist.cons)) ⟨rfl, _, ⟨a4, rfl, hk4⟩, rfl⟩
      · rw [if_neg h2] at hR
        refine c_skip ?_
        refine q_bn ?_
        rw [hR]
        refine q_end0 rfl (L' := _) (by repeat (first | exact List.Sublist.refl _ | exact List.nil_sublist _ | apply List.Sublist.cons_cons | apply List.Sublist.cons)) ⟨rfl, _, ⟨a2, rfl, hk2⟩, rfl⟩
end
end Go.Proofs.Ytphmdhbhoakcaaa
