/- The reader of aditref15: record, row. -/
import Derived.Test.YtphmdhbhoakcaaaT2
namespace Go.Proofs.Ytphmdhbhoakcaaa
open Go.RowKit Go.Ad Go.Maps
set_option linter.unusedVariables false
set_option linter.unusedSimpArgs false
section
variable {W : World} {b : Nat} {a : Option Addr} {n c k : Nat} {e : Int} {bs : List UInt8}
theorem rdNum_le {m : Nat} {f t : Int} (hk : k ≤ bs.length) : (rdNum bs m f t k e).2.1 ≤ bs.length := rdRaw_le hk
theorem kind_bad (h : (rdNum bs 1 1 3 k e).2.2 ≠ 0) : ¬ (1 ≤ (rdNum bs 1 1 3 k e).1 ∧ (rdNum bs 1 1 3 k e).1 ≤ 3) := by
  intro h2
  have hb : inB (rdNum bs 1 1 3 k e).1 1 3 = true := by simp [inB]; exact h2
  have h3 : (rdRaw bs 1 k e).2.2 ≠ 0 := by
    intro h4
    apply h
    have : (rdNum bs 1 1 3 k e).2.2 = noted (inB (rdNum bs 1 1 3 k e).1 1 3) (rdRaw bs 1 k e).2.2 9 := rfl
    rw [this, hb, h4]; rfl
  have h5 : (rdRaw bs 1 k e).1 = 0 := by
    unfold rdRaw at h3 ⊢
    split
    · rename_i he
      rw [if_pos he] at h3
      split
      · rename_i hk
        rw [if_pos hk] at h3
        exact absurd rfl h3
      · rfl
    · rfl
  have h6 : (rdNum bs 1 1 3 k e).1 = ((rdRaw bs 1 k e).1 : Int) := rfl
  rw [h6, h5] at h2
  simp at h2
set_option maxRecDepth 100000 in
theorem inrec_d (hx : (ib b a n c k e).holds W) (hs : Src W [b] a n c bs) (hk : k ≤ n) : Does Try.prog 32 [ptr b] W [b] (fun v L => v = .agg (recX bs k e).1.cells.toArray ∧ L = [ib b a n c (recX bs k e).2.1 (recX bs k e).2.2]) := by
  have hlen := hs.len
  have hR : recX bs k e = recX bs k e := rfl
  conv at hR => rhs; unfold recX; unfold Rd.pair
  simp only [num, n4X] at hR
  refine enter Try.func32 rfl rfl rfl (Has.start1 hx) ?_
  refine c_seq ?_
  -- ref.go:203
  refine c_reg ?_
  refine s_n (N_alloc (z := .agg #[.int .i64 0, .int .i64 0, .int .i64 0, .int .i64 0, .int .i64 0]) (cs := [.int .i64 0, .int .i64 0, .int .i64 0, .int .i64 0, .int .i64 0]) zv37 rfl) rfl rfl (fun b2 _ => ?_)
  refine s_nil ?_
  refine q_then ?_
  refine c_seq ?_
  -- ref.go:204
  refine c_reg ?_
  refine s_y (Y_mv) rfl rfl ?_
  refine s_cm [ib b a n c k e] (En_call (fun _ => rfl) Try.func29 rfl (by kernel_rfl) rfl) (by repeat (first | exact Sels.nil | apply Sels.cons (by repeat (first | exact Sel.head | apply Sel.tail)))) (fun w hH => insmall_d 1 3 (hH.at' (by repeat (first | exact List.Mem.head _ | assumption | apply List.Mem.tail | apply List.mem_append_right))) (hs.call1 (R := []) (ib b a n c k e) hH (by repeat (first | exact List.Mem.head _ | assumption | apply List.Mem.tail | apply List.mem_append_right))) (by omega)) rfl rfl ?_
  rintro _ _ ⟨rfl, rfl⟩
  have hkb := kind_bad (bs := bs) (k := k) (e := e)
  have hle := rdNum_le (bs := bs) (m := 1) (f := 1) (t := 3) (k := k) (e := e) (by omega)
  generalize rdNum bs 1 1 3 k e = r at *
  obtain ⟨z, k1, e1⟩ := r
  simp only at hR hkb hle ⊢
  refine s_y (Y_build (cs := [.int .i64 z, .int .i64 0, .int .i64 0, .int .i64 0, .int .i64 0]) (by repeat (first | exact Gp.nil | apply Gp.const | apply Gp.tmp (by repeat (first | exact Gt.here | apply Gt.there (by rfl) | exact Gt.base (by rfl))))) (bld37 _ _ (by first | rfl | (simp; rfl)))) rfl rfl ?_
  refine s_n (N_alloc (z := .agg #[.int .i64 0, .int .i64 0, .int .i64 0, .int .i64 0, .int .i64 0]) (cs := [.int .i64 0, .int .i64 0, .int .i64 0, .int .i64 0, .int .i64 0]) zv37 rfl) rfl rfl (fun b3 _ => ?_)
  refine s_s ((by first | exact S_storeA rfl rfl sz37 (by first | rfl | assumption) (by first | rfl | assumption) (by repeat (first | exact Upd.head | apply Upd.tail)) (by first | rfl | assumption) | exact S_storeN rfl rfl sz37 (by rfl) (by first | rfl | assumption) (by repeat (first | exact Upd.head | apply Upd.tail)) (by simp only [setAll, List.set_cons_zero, List.set_cons_succ, Nat.zero_add, Nat.reduceAdd]; rfl) (by first | rfl | assumption))) rfl ?_
  refine s_nil ?_
  refine q_then ?_
  refine c_seq ?_
  refine c_seq ?_
  -- ref.go:205
  refine c_reg ?_
  refine s_y (Y_mv) rfl rfl ?_
  refine s_y ((by first | exact Y_nil rfl | exact Y_nilF rfl | exact Y_nilM rfl (by assumption) | exact Y_nilM rfl (by intro w k; kernel_rfl))) rfl rfl ?_
  refine s_y (Y_fa 2 rfl Try.underlying72 rfl sz3 rfl) rfl rfl ?_
  refine s_y ((by first | exact Y_load rfl one3 (by repeat (first | exact List.Mem.head _ | assumption | apply List.Mem.tail | apply List.mem_append_right)) (by rfl) | exact Y_load rfl one3 (by repeat (first | exact List.Mem.head _ | assumption | apply List.Mem.tail | apply List.mem_append_right)) (by assumption) | exact Y_loadR rfl one3 (by assumption) rfl (by assumption))) rfl rfl ?_
  refine s_y (Y_neq rfl rfl) rfl rfl ?_
  refine s_nil ?_
  refine q_then ?_
  refine c_cond' rfl (fun h => ?_) (fun h => ?_)
  · have hz := hkb h
    rw [if_neg (by omega), if_neg (by omega), if_neg (by omega)] at hR
    refine c_seq ?_
    -- ref.go:206
    refine c_reg ?_
    refine s_y ((by first | exact Y_loadAll rfl many37 (by repeat (first | exact List.Mem.head _ | assumption | apply List.Mem.tail | apply List.mem_append_right)) (by rfl) | exact Y_loadN rfl many37 (by repeat (first | exact List.Mem.head _ | assumption | apply List.Mem.tail | apply List.mem_append_right)) ‹_› ‹_› | exact Y_loadNR rfl many37 ‹_› rfl)) rfl rfl ?_
    refine s_s ((by first | exact S_storeA rfl rfl sz37 (by first | rfl | assumption) (by first | rfl | assumption) (by repeat (first | exact Upd.head | apply Upd.tail)) (by first | rfl | assumption) | exact S_storeN rfl rfl sz37 (by rfl) (by first | rfl | assumption) (by repeat (first | exact Upd.head | apply Upd.tail)) (by simp only [setAll, List.set_cons_zero, List.set_cons_succ, Nat.zero_add, Nat.reduceAdd]; rfl) (by first | rfl | assumption))) rfl ?_
    refine s_nil ?_
    refine q_then ?_
    refine c_ret ?_
    rw [hR]
    refine q_ret1c rfl rfl many37 (by repeat (first | exact List.Mem.head _ | assumption | apply List.Mem.tail | apply List.mem_append_right)) rfl (L' := [ib b a n c k1 e1]) (by repeat (first | exact List.Sublist.refl _ | exact List.nil_sublist _ | apply List.Sublist.cons_cons | apply List.Sublist.cons)) ⟨rfl, rfl⟩
  · obtain rfl : e1 = 0 := by omega
    refine c_skip ?_
    refine q_then ?_
    refine c_seq ?_
    refine c_seq ?_
    -- ref.go:208
    refine c_reg ?_
    refine s_y (Y_fa 0 rfl Try.underlying37 rfl sz3 rfl) rfl rfl ?_
    refine s_y ((by first | exact Y_load rfl one3 (by repeat (first | exact List.Mem.head _ | assumption | apply List.Mem.tail | apply List.mem_append_right)) (by rfl) | exact Y_load rfl one3 (by repeat (first | exact List.Mem.head _ | assumption | apply List.Mem.tail | apply List.mem_append_right)) (by assumption) | exact Y_loadR rfl one3 (by assumption) rfl (by assumption))) rfl rfl ?_
    refine s_nil ?_
    refine q_then ?_
    refine c_block ?_
    refine c_seq ?_
    -- ref.go:209
    refine c_reg ?_
    refine s_y (Y_eql rfl rfl) rfl rfl ?_
    refine s_y (Y_as) rfl rfl ?_
    refine s_nil ?_
    refine q_then ?_
    refine c_cond' rfl (fun h1 => ?_) (fun h1 => ?_)
    · rw [if_pos h1] at hR
      -- ref.go:210
      refine c_reg ?_
      refine s_y (Y_mv) rfl rfl ?_
      refine s_cm [ib b a n c k1 0] (En_call (fun _ => rfl) Try.func29 rfl (by kernel_rfl) rfl) (by repeat (first | exact Sels.nil | apply Sels.cons (by repeat (first | exact Sel.head | apply Sel.tail)))) (fun w hH => insmall_d 0 10 (hH.at' (by repeat (first | exact List.Mem.head _ | assumption | apply List.Mem.tail | apply List.mem_append_right))) (hs.call1 (R := []) (ib b a n c k1 0) hH (by repeat (first | exact List.Mem.head _ | assumption | apply List.Mem.tail | apply List.mem_append_right))) (by omega)) rfl rfl ?_
      rintro _ _ ⟨rfl, rfl⟩
      generalize rdNum bs 1 0 10 k1 0 = r at *
      obtain ⟨z2, k2, e2⟩ := r
      simp only at hR ⊢
      refine s_y (Y_fa 1 rfl Try.underlying37 rfl sz3 rfl) rfl rfl ?_
      refine s_s (S_st rfl (by repeat (first | exact Gt.here | apply Gt.there (by rfl) | exact Gt.base (by rfl))) sz3 (by rfl) (by repeat (first | exact Upd.head | apply Upd.tail)) (by first | (simp only [Nat.zero_add, Nat.reduceAdd, List.set_cons_succ, List.set_cons_zero]; rfl) | rfl) (by first | (simp; done) | omega)) rfl ?_
      refine s_nil ?_
      refine q_bn ?_
      refine q_then ?_
      refine c_seq ?_
      refine c_reg ?_
      refine s_y ((by first | exact Y_loadAll rfl many37 (by repeat (first | exact List.Mem.head _ | assumption | apply List.Mem.tail | apply List.mem_append_right)) (by rfl) | exact Y_loadN rfl many37 (by repeat (first | exact List.Mem.head _ | assumption | apply List.Mem.tail | apply List.mem_append_right)) ‹_› ‹_› | exact Y_loadNR rfl many37 ‹_› rfl)) rfl rfl ?_
      refine s_s ((by first | exact S_storeA rfl rfl sz37 (by first | rfl | assumption) (by first | rfl | assumption) (by repeat (first | exact Upd.head | apply Upd.tail)) (by first | rfl | assumption) | exact S_storeN rfl rfl sz37 (by rfl) (by first | rfl | assumption) (by repeat (first | exact Upd.head | apply Upd.tail)) (by simp only [setAll, List.set_cons_zero, List.set_cons_succ, Nat.zero_add, Nat.reduceAdd]; rfl) (by first | rfl | assumption))) rfl ?_
      refine s_nil ?_
      refine q_then ?_
      refine c_ret ?_
      rw [hR]
      refine q_ret1c rfl rfl many37 (by repeat (first | exact List.Mem.head _ | assumption | apply List.Mem.tail | apply List.mem_append_right)) rfl (L' := [ib b a n c k2 e2]) (by repeat (first | exact List.Sublist.refl _ | exact List.nil_sublist _ | apply List.Sublist.cons_cons | apply List.Sublist.cons)) ⟨rfl, rfl⟩
    · rw [if_neg h1] at hR
      refine c_seq ?_
      -- ref.go:211
      refine c_reg ?_
      refine s_y (Y_eql rfl rfl) rfl rfl ?_
      refine s_y (Y_as) rfl rfl ?_
      refine s_nil ?_
      refine q_then ?_
      refine c_cond' rfl (fun h2 => ?_) (fun h2 => ?_)
      · rw [if_neg (by omega), if_pos h2] at hR
        refine c_seq ?_
        -- ref.go:212
        refine c_reg ?_
        refine s_y (Y_mv) rfl rfl ?_
        refine s_cm [ib b a n c k1 0] (En_call (fun _ => rfl) Try.func29 rfl (by kernel_rfl) rfl) (by repeat (first | exact Sels.nil | apply Sels.cons (by repeat (first | exact Sel.head | apply Sel.tail)))) (fun w hH => insmall_d 0 3 (hH.at' (by repeat (first | exact List.Mem.head _ | assumption | apply List.Mem.tail | apply List.mem_append_right))) (hs.call1 (R := []) (ib b a n c k1 0) hH (by repeat (first | exact List.Mem.head _ | assumption | apply List.Mem.tail | apply List.mem_append_right))) (by omega)) rfl rfl ?_
        rintro _ _ ⟨rfl, rfl⟩
        have hle2 := rdNum_le (bs := bs) (m := 1) (f := 0) (t := 3) (k := k1) (e := 0) (by omega)
        generalize rdNum bs 1 0 3 k1 0 = r at *
        obtain ⟨z2, k2, e2⟩ := r
        simp only at hR hle2 ⊢
        refine s_y (Y_fa 2 rfl Try.underlying37 rfl sz3 rfl) rfl rfl ?_
        refine s_s (S_st rfl (by repeat (first | exact Gt.here | apply Gt.there (by rfl) | exact Gt.base (by rfl))) sz3 (by rfl) (by repeat (first | exact Upd.head | apply Upd.tail)) (by first | (simp only [Nat.zero_add, Nat.reduceAdd, List.set_cons_succ, List.set_cons_zero]; rfl) | rfl) (by first | (simp; done) | omega)) rfl ?_
        refine s_nil ?_
        refine q_then ?_
        -- ref.go:213
        refine c_reg ?_
        refine s_y (Y_mv) rfl rfl ?_
        refine s_cm [ib b a n c k2 e2] (En_call (fun _ => rfl) Try.func28 rfl (by kernel_rfl) rfl) (by repeat (first | exact Sels.nil | apply Sels.cons (by repeat (first | exact Sel.head | apply Sel.tail)))) (fun w hH => innum_d (hH.at' (by repeat (first | exact List.Mem.head _ | assumption | apply List.Mem.tail | apply List.mem_append_right))) (hs.call1 (R := []) (ib b a n c k2 e2) hH (by repeat (first | exact List.Mem.head _ | assumption | apply List.Mem.tail | apply List.mem_append_right))) (by omega)) rfl rfl ?_
        rintro _ _ ⟨rfl, rfl⟩
        generalize rdNum bs 4 0 1073741823 k2 e2 = r at *
        obtain ⟨z3, k3, e3⟩ := r
        simp only at hR ⊢
        refine s_y (Y_fa 3 rfl Try.underlying37 rfl sz3 rfl) rfl rfl ?_
        refine s_s (S_st rfl (by repeat (first | exact Gt.here | apply Gt.there (by rfl) | exact Gt.base (by rfl))) sz3 (by rfl) (by repeat (first | exact Upd.head | apply Upd.tail)) (by first | (simp only [Nat.zero_add, Nat.reduceAdd, List.set_cons_succ, List.set_cons_zero]; rfl) | rfl) (by first | (simp; done) | omega)) rfl ?_
        refine s_nil ?_
        refine q_bn ?_
        refine q_then ?_
        refine c_seq ?_
        refine c_reg ?_
        refine s_y ((by first | exact Y_loadAll rfl many37 (by repeat (first | exact List.Mem.head _ | assumption | apply List.Mem.tail | apply List.mem_append_right)) (by rfl) | exact Y_loadN rfl many37 (by repeat (first | exact List.Mem.head _ | assumption | apply List.Mem.tail | apply List.mem_append_right)) ‹_› ‹_› | exact Y_loadNR rfl many37 ‹_› rfl)) rfl rfl ?_
        refine s_s ((by first | exact S_storeA rfl rfl sz37 (by first | rfl | assumption) (by first | rfl | assumption) (by repeat (first | exact Upd.head | apply Upd.tail)) (by first | rfl | assumption) | exact S_storeN rfl rfl sz37 (by rfl) (by first | rfl | assumption) (by repeat (first | exact Upd.head | apply Upd.tail)) (by simp only [setAll, List.set_cons_zero, List.set_cons_succ, Nat.zero_add, Nat.reduceAdd]; rfl) (by first | rfl | assumption))) rfl ?_
        refine s_nil ?_
        refine q_then ?_
        refine c_ret ?_
        rw [hR]
        refine q_ret1c rfl rfl many37 (by repeat (first | exact List.Mem.head _ | assumption | apply List.Mem.tail | apply List.mem_append_right)) rfl (L' := [ib b a n c k3 e3]) (by repeat (first | exact List.Sublist.refl _ | exact List.nil_sublist _ | apply List.Sublist.cons_cons | apply List.Sublist.cons)) ⟨rfl, rfl⟩
      · refine c_seq ?_
        -- ref.go:214
        refine c_reg ?_
        refine s_y (Y_eql rfl rfl) rfl rfl ?_
        refine s_y (Y_as) rfl rfl ?_
        refine s_nil ?_
        refine q_then ?_
        refine c_cond' rfl (fun h3 => ?_) (fun h3 => ?_)
        · rw [if_pos h3] at hR
          refine c_seq ?_
          -- ref.go:215
          refine c_reg ?_
          refine s_y (Y_mv) rfl rfl ?_
          refine s_cm [ib b a n c k1 0] (En_call (fun _ => rfl) Try.func29 rfl (by kernel_rfl) rfl) (by repeat (first | exact Sels.nil | apply Sels.cons (by repeat (first | exact Sel.head | apply Sel.tail)))) (fun w hH => insmall_d 0 3 (hH.at' (by repeat (first | exact List.Mem.head _ | assumption | apply List.Mem.tail | apply List.mem_append_right))) (hs.call1 (R := []) (ib b a n c k1 0) hH (by repeat (first | exact List.Mem.head _ | assumption | apply List.Mem.tail | apply List.mem_append_right))) (by omega)) rfl rfl ?_
          rintro _ _ ⟨rfl, rfl⟩
          have hle2 := rdNum_le (bs := bs) (m := 1) (f := 0) (t := 3) (k := k1) (e := 0) (by omega)
          generalize rdNum bs 1 0 3 k1 0 = r at *
          obtain ⟨z2, k2, e2⟩ := r
          simp only at hR hle2 ⊢
          refine s_y (Y_fa 2 rfl Try.underlying37 rfl sz3 rfl) rfl rfl ?_
          refine s_s (S_st rfl (by repeat (first | exact Gt.here | apply Gt.there (by rfl) | exact Gt.base (by rfl))) sz3 (by rfl) (by repeat (first | exact Upd.head | apply Upd.tail)) (by first | (simp only [Nat.zero_add, Nat.reduceAdd, List.set_cons_succ, List.set_cons_zero]; rfl) | rfl) (by first | (simp; done) | omega)) rfl ?_
          refine s_nil ?_
          refine q_then ?_
          refine c_seq ?_
          -- ref.go:216
          refine c_reg ?_
          refine s_y (Y_mv) rfl rfl ?_
          refine s_cm [ib b a n c k2 e2] (En_call (fun _ => rfl) Try.func28 rfl (by kernel_rfl) rfl) (by repeat (first | exact Sels.nil | apply Sels.cons (by repeat (first | exact Sel.head | apply Sel.tail)))) (fun w hH => innum_d (hH.at' (by repeat (first | exact List.Mem.head _ | assumption | apply List.Mem.tail | apply List.mem_append_right))) (hs.call1 (R := []) (ib b a n c k2 e2) hH (by repeat (first | exact List.Mem.head _ | assumption | apply List.Mem.tail | apply List.mem_append_right))) (by omega)) rfl rfl ?_
          rintro _ _ ⟨rfl, rfl⟩
          have hle3 := rdNum_le (bs := bs) (m := 4) (f := 0) (t := 1073741823) (k := k2) (e := e2) (by omega)
          generalize rdNum bs 4 0 1073741823 k2 e2 = r at *
          obtain ⟨z3, k3, e3⟩ := r
          simp only at hR hle3 ⊢
          refine s_y (Y_fa 3 rfl Try.underlying37 rfl sz3 rfl) rfl rfl ?_
          refine s_s (S_st rfl (by repeat (first | exact Gt.here | apply Gt.there (by rfl) | exact Gt.base (by rfl))) sz3 (by rfl) (by repeat (first | exact Upd.head | apply Upd.tail)) (by first | (simp only [Nat.zero_add, Nat.reduceAdd, List.set_cons_succ, List.set_cons_zero]; rfl) | rfl) (by first | (simp; done) | omega)) rfl ?_
          refine s_nil ?_
          refine q_then ?_
          -- ref.go:217
          refine c_reg ?_
          refine s_y (Y_mv) rfl rfl ?_
          refine s_cm [ib b a n c k3 e3] (En_call (fun _ => rfl) Try.func28 rfl (by kernel_rfl) rfl) (by repeat (first | exact Sels.nil | apply Sels.cons (by repeat (first | exact Sel.head | apply Sel.tail)))) (fun w hH => innum_d (hH.at' (by repeat (first | exact List.Mem.head _ | assumption | apply List.Mem.tail | apply List.mem_append_right))) (hs.call1 (R := []) (ib b a n c k3 e3) hH (by repeat (first | exact List.Mem.head _ | assumption | apply List.Mem.tail | apply List.mem_append_right))) (by omega)) rfl rfl ?_
          rintro _ _ ⟨rfl, rfl⟩
          generalize rdNum bs 4 0 1073741823 k3 e3 = r at *
          obtain ⟨z4, k4, e4⟩ := r
          simp only at hR ⊢
          refine s_y (Y_fa 4 rfl Try.underlying37 rfl sz3 rfl) rfl rfl ?_
          refine s_s (S_st rfl (by repeat (first | exact Gt.here | apply Gt.there (by rfl) | exact Gt.base (by rfl))) sz3 (by rfl) (by repeat (first | exact Upd.head | apply Upd.tail)) (by first | (simp only [Nat.zero_add, Nat.reduceAdd, List.set_cons_succ, List.set_cons_zero]; rfl) | rfl) (by first | (simp; done) | omega)) rfl ?_
          refine s_nil ?_
          refine q_bn ?_
          refine q_then ?_
          refine c_seq ?_
          refine c_reg ?_
          refine s_y ((by first | exact Y_loadAll rfl many37 (by repeat (first | exact List.Mem.head _ | assumption | apply List.Mem.tail | apply List.mem_append_right)) (by rfl) | exact Y_loadN rfl many37 (by repeat (first | exact List.Mem.head _ | assumption | apply List.Mem.tail | apply List.mem_append_right)) ‹_› ‹_› | exact Y_loadNR rfl many37 ‹_› rfl)) rfl rfl ?_
          refine s_s ((by first | exact S_storeA rfl rfl sz37 (by first | rfl | assumption) (by first | rfl | assumption) (by repeat (first | exact Upd.head | apply Upd.tail)) (by first | rfl | assumption) | exact S_storeN rfl rfl sz37 (by rfl) (by first | rfl | assumption) (by repeat (first | exact Upd.head | apply Upd.tail)) (by simp only [setAll, List.set_cons_zero, List.set_cons_succ, Nat.zero_add, Nat.reduceAdd]; rfl) (by first | rfl | assumption))) rfl ?_
          refine s_nil ?_
          refine q_then ?_
          refine c_ret ?_
          rw [hR]
          refine q_ret1c rfl rfl many37 (by repeat (first | exact List.Mem.head _ | assumption | apply List.Mem.tail | apply List.mem_append_right)) rfl (L' := [ib b a n c k4 e4]) (by repeat (first | exact List.Sublist.refl _ | exact List.nil_sublist _ | apply List.Sublist.cons_cons | apply List.Sublist.cons)) ⟨rfl, rfl⟩
        · rw [if_neg h3, if_neg h2] at hR
          refine c_skip ?_
          refine q_bn ?_
          refine q_then ?_
          refine c_seq ?_
          refine c_reg ?_
          refine s_y ((by first | exact Y_loadAll rfl many37 (by repeat (first | exact List.Mem.head _ | assumption | apply List.Mem.tail | apply List.mem_append_right)) (by rfl) | exact Y_loadN rfl many37 (by repeat (first | exact List.Mem.head _ | assumption | apply List.Mem.tail | apply List.mem_append_right)) ‹_› ‹_› | exact Y_loadNR rfl many37 ‹_› rfl)) rfl rfl ?_
          refine s_s ((by first | exact S_storeA rfl rfl sz37 (by first | rfl | assumption) (by first | rfl | assumption) (by repeat (first | exact Upd.head | apply Upd.tail)) (by first | rfl | assumption) | exact S_storeN rfl rfl sz37 (by rfl) (by first | rfl | assumption) (by repeat (first | exact Upd.head | apply Upd.tail)) (by simp only [setAll, List.set_cons_zero, List.set_cons_succ, Nat.zero_add, Nat.reduceAdd]; rfl) (by first | rfl | assumption))) rfl ?_
          refine s_nil ?_
          refine q_then ?_
          refine c_ret ?_
          rw [hR]
          refine q_ret1c rfl rfl many37 (by repeat (first | exact List.Mem.head _ | assumption | apply List.Mem.tail | apply List.mem_append_right)) rfl (L' := [ib b a n c k1 0]) (by repeat (first | exact List.Sublist.refl _ | exact List.nil_sublist _ | apply List.Sublist.cons_cons | apply List.Sublist.cons)) ⟨rfl, rfl⟩
/-! ### Until something is wrong -/
def stopX {α : Type} (X : Rd α) : Nat → Rd (List α)
  | 0 => fun k e => ([], k, e)
  | i + 1 => fun k e => if (stopX X i k e).2.2 = 0 then ((stopX X i k e).1 ++ [(X (stopX X i k e).2.1 0).1], (X (stopX X i k e).2.1 0).2) else stopX X i k e
theorem stopX_stop {α : Type} {X : Rd α} {i : Nat} (h : (stopX X i k e).2.2 ≠ 0) : ∀ d, stopX X (i + d) k e = stopX X i k e
  | 0 => rfl
  | d + 1 => by
    have := stopX_stop h d
    rw [← Nat.add_assoc]
    simp only [stopX, this, if_neg h]
theorem stopX_bad {α : Type} {X : Rd α} (h : e ≠ 0) (i : Nat) : stopX X i k e = ([], k, e) := by
  have := stopX_stop (X := X) (i := 0) (k := k) (e := e) h i
  rw [Nat.zero_add] at this
  exact this
theorem stopX_len {α : Type} {X : Rd α} : ∀ i, (stopX X i k e).1.length ≤ i ∧ ((stopX X i k e).2.2 = 0 → (stopX X i k e).1.length = i)
  | 0 => ⟨Nat.le_refl _, fun _ => rfl⟩
  | i + 1 => by
    obtain ⟨h1, h2⟩ := stopX_len (X := X) i
    simp only [stopX]
    split
    · rename_i h
      simp only [List.length_append, List.length_singleton]
      exact ⟨by omega, fun _ => by rw [h2 h]⟩
    · rename_i h
      exact ⟨by omega, fun h3 => absurd h3 h⟩
theorem stopX_le {α : Type} {X : Rd α} (hX : ∀ {k e}, k ≤ bs.length → (X k e).2.1 ≤ bs.length) (hk : k ≤ bs.length) : ∀ i, (stopX X i k e).2.1 ≤ bs.length
  | 0 => hk
  | i + 1 => by
    simp only [stopX]
    split
    · exact hX (stopX_le hX hk i)
    · exact stopX_le hX hk i
theorem recsX_stop (i : Nat) : recsX bs i = stopX (recX bs) i := by
  funext k e
  induction i with
  | zero => rfl
  | succ i ih => simp only [recsX, stopX, ih]
theorem num_stay {m : Nat} {f t : Int} (h : e ≠ 0) : (rdNum bs m f t k e).2 = (k, e) := by
  simp [rdNum, rdRaw, h, noted]
theorem stopX_ints : ∀ i, (stopX (num bs 1 0 10) i k e).2 = (rdInts bs i k e).2 ∧ ((stopX (num bs 1 0 10) i k e).2.2 = 0 → (stopX (num bs 1 0 10) i k e).1 = (rdInts bs i k e).1)
  | 0 => ⟨rfl, fun _ => rfl⟩
  | i + 1 => by
    obtain ⟨h1, h2⟩ := stopX_ints i
    simp only [stopX, rdInts]
    rw [← h1]
    split
    · rename_i h
      rw [← h2 h, h]
      exact ⟨rfl, fun _ => rfl⟩
    · rename_i h
      refine ⟨?_, fun h3 => absurd h3 h⟩
      rw [num_stay h]
theorem num255 : rdNum bs 1 0 255 k e = (((rdRaw bs 1 k e).1 : Int), (rdRaw bs 1 k e).2) := by
  have h := rdRaw1_lt (bs := bs) (k := k) (e := e)
  have : inB ((rdRaw bs 1 k e).1 : Int) 0 255 = true := by simp [inB]; omega
  simp [rdNum, this, noted]
def rowS (bs : List UInt8) : Rd (List Int) := fun k e => stopX (num bs 1 0 10) (rdRaw bs 1 k e).1 (rdRaw bs 1 k e).2.1 (rdRaw bs 1 k e).2.2
theorem rowS_X : (rowS bs k e).2 = (rowX bs k e).2 ∧ ((rowX bs k e).2.2 = 0 → (rowS bs k e).1 = (rowX bs k e).1) := by
  unfold rowS rowX
  rw [num255]
  simp only [Int.toNat_natCast]
  generalize rdRaw bs 1 k e = r
  obtain ⟨z, k1, e1⟩ := r
  simp only
  by_cases h : e1 = 0
  · subst h
    rw [if_pos rfl]
    obtain ⟨h1, h2⟩ := stopX_ints (bs := bs) (k := k1) (e := 0) z
    exact ⟨h1, fun h3 => h2 (by rw [h1]; exact h3)⟩
  · rw [if_neg h, stopX_bad h]
    exact ⟨rfl, fun h3 => absurd h3 h⟩
set_option maxRecDepth 100000 in
theorem inrow_d (hx : (ib b a n c k e).holds W) (hs : Src W [b] a n c bs) (hk : k ≤ n) : Does Try.prog 31 [ptr b] W [b] (fun v L => ∃ B, Row 3 1 v (rowS bs k e).1.length ((rowS bs k e).1.map (Value.int .i64)) B ∧ L = ib b a n c (rowS bs k e).2.1 (rowS bs k e).2.2 :: B) := by
  have hlen := hs.len
  refine enter Try.func31 rfl rfl rfl (Has.start1 hx) ?_
  refine c_seq ?_
  -- ref.go:194
  refine c_reg ?_
  refine s_y (Y_asC) rfl rfl ?_
  refine s_nil ?_
  refine q_then ?_
  refine c_seq ?_
  -- ref.go:195
  refine c_reg ?_
  refine s_y (Y_mv) rfl rfl ?_
  refine s_cm [ib b a n c k e] (En_call (fun _ => rfl) Try.func27 rfl (by kernel_rfl) rfl) (by repeat (first | exact Sels.nil | apply Sels.cons (by repeat (first | exact Sel.head | apply Sel.tail)))) (fun w hH => byte_d (hH.at' (by repeat (first | exact List.Mem.head _ | assumption | apply List.Mem.tail | apply List.mem_append_right))) (hs.call1 (R := []) (ib b a n c k e) hH (by repeat (first | exact List.Mem.head _ | assumption | apply List.Mem.tail | apply List.mem_append_right))) hk) rfl rfl ?_
  rintro _ _ ⟨rfl, rfl⟩
  have hR : rowS bs k e = stopX (num bs 1 0 10) (rdRaw bs 1 k e).1 (rdRaw bs 1 k e).2.1 (rdRaw bs 1 k e).2.2 := rfl
  have hle := rdRaw_le (bs := bs) (m := 1) (k := k) (e := e) (by omega)
  have hlt := rdRaw1_lt (bs := bs) (k := k) (e := e)
  generalize rdRaw bs 1 k e = r at *
  obtain ⟨m, k1, e1⟩ := r
  simp only at hR hle hlt ⊢
  have hsl : ∀ i, (stopX (num bs 1 0 10) i k1 e1).2.1 ≤ bs.length := fun i => stopX_le (fun h => rdNum_le h) hle i
  rw [hR]
  refine s_y (Y_as) rfl rfl ?_
  refine s_nil ?_
  refine q_then ?_
  refine c_seq ?_
  -- ref.go:196
  refine c_reg ?_
  refine s_y (Y_asC) rfl rfl ?_
  refine s_nil ?_
  refine q_then ?_
  refine c_seq ?_
  refine c_seq ?_
  -- ref.go:197
  refine c_reg ?_
  refine s_y (Y_asC) rfl rfl ?_
  refine s_nil ?_
  refine q_then ?_
  refine c_block ?_
  refine c_loop [4, 5, 8, 9, 10, 11, 12, 13, 14, 15, 16, 17, 18, 19, 20, 21, 22, 23, 24] (fun n2 (y : Nat × Value × List Bk) => y.1 + n2 = m ∧ Row 3 1 y.2.1 (stopX (num bs 1 0 10) y.1 k1 e1).1.length ((stopX (num bs 1 0 10) y.1 k1 e1).1.map (Value.int .i64)) y.2.2) (fun y => [(4, y.2.1), (5, .int .i64 (y.1 : Int))]) (fun y => ib b a n c (stopX (num bs 1 0 10) y.1 k1 e1).2.1 (stopX (num bs 1 0 10) y.1 k1 e1).2.2 :: y.2.2) m (0, .slice none 0 0, []) ⟨by omega, .nil⟩ ⟨rfl, rfl, trivial⟩ (fun _ h => h) (fun _ => rfl) ?_
  rintro n2 ⟨i, u, B⟩ j ⟨hi, hB⟩ K hK
  have hS : stopX (num bs 1 0 10) (i + 1) k1 e1 = if (stopX (num bs 1 0 10) i k1 e1).2.2 = 0 then ((stopX (num bs 1 0 10) i k1 e1).1 ++ [(num bs 1 0 10 (stopX (num bs 1 0 10) i k1 e1).2.1 0).1], (num bs 1 0 10 (stopX (num bs 1 0 10) i k1 e1).2.1 0).2) else stopX (num bs 1 0 10) i k1 e1 := rfl
  have hstop := stopX_stop (X := num bs 1 0 10) (i := i) (k := k1) (e := e1)
  have hil := (stopX_len (X := num bs 1 0 10) (k := k1) (e := e1) i).1
  have hq := hsl i
  have hgo : i < m → (stopX (num bs 1 0 10) i k1 e1).2.2 ≠ 0 → stopX (num bs 1 0 10) m k1 e1 = stopX (num bs 1 0 10) i k1 e1 := fun h1 h2 => by
    have := hstop h2 (m - i)
    rwa [show i + (m - i) = m by omega] at this
  simp only at hB hi ⊢
  refine c_seq ?_
  refine c_seq ?_
  -- ref.go:197 GUARDS (op, want): [(3, True)] slots [11]
  refine c_reg ?_
  refine s_y (Y_mv) rfl rfl ?_
  refine s_y (Y_mv) rfl rfl ?_
  refine s_y (Y_lss rfl rfl) rfl rfl ?_
  refine s_y (Y_mv) rfl rfl ?_
  by_cases him : i < m
  · refine s_known (d := 11) rfl (decide_eq_true (by omega)) ?_
    first | refine s_y (Y_mv) rfl rfl ?_ | refine s_pass rfl rfl ?_
    first | refine s_y ((by first | exact Y_nil rfl | exact Y_nilF rfl | exact Y_nilM rfl (by assumption) | exact Y_nilM rfl (by intro w k; kernel_rfl))) rfl rfl ?_ | refine s_pass rfl rfl ?_
    first | refine s_y (Y_fa 2 rfl Try.underlying72 rfl sz3 rfl) rfl rfl ?_ | refine s_pass rfl rfl ?_
    first | refine s_y ((by first | exact Y_load rfl one3 (by repeat (first | exact List.Mem.head _ | assumption | apply List.Mem.tail | apply List.mem_append_right)) (by rfl) | exact Y_load rfl one3 (by repeat (first | exact List.Mem.head _ | assumption | apply List.Mem.tail | apply List.mem_append_right)) (by assumption) | exact Y_loadR rfl one3 (by assumption) rfl (by assumption))) rfl rfl ?_ | refine s_pass rfl rfl ?_
    first | refine s_y (Y_eql rfl rfl) rfl rfl ?_ | refine s_pass rfl rfl ?_
    refine s_y (Y_pk rfl (Gx.tmp (by repeat (first | exact Gt.here | apply Gt.there (by rfl) | exact Gt.base (by rfl)))) Gx.const) rfl rfl ?_
    refine s_nil ?_
    refine q_then ?_
    generalize hq1 : stopX (num bs 1 0 10) i k1 e1 = q at *
    obtain ⟨zs, k2, e2⟩ := q
    simp only at hB hS hgo hil hq ⊢
    by_cases he2 : e2 = 0
    · subst he2
      rw [if_pos rfl] at hS
      refine c_T (t := true) (by rfl) rfl ?_
      refine c_skip ?_
      refine q_then ?_
      refine c_seq ?_
      refine c_block ?_
      -- ref.go:198
      refine c_reg ?_
      refine s_y (Y_mv) rfl rfl ?_
      refine s_y (Y_mv) rfl rfl ?_
      refine s_cm [ib b a n c k2 0] (En_call (fun _ => rfl) Try.func29 rfl (by kernel_rfl) rfl) (by repeat (first | exact Sels.nil | apply Sels.cons (by repeat (first | exact Sel.head | apply Sel.tail)))) (fun w hH => insmall_d 0 10 (hH.at' (by repeat (first | exact List.Mem.head _ | assumption | apply List.Mem.tail | apply List.mem_append_right))) (hs.call1 (R := []) (ib b a n c k2 0) hH (by repeat (first | exact List.Mem.head _ | assumption | apply List.Mem.tail | apply List.mem_append_right))) (by omega)) rfl rfl ?_
      rintro _ _ ⟨rfl, rfl⟩
      refine s_n (N_bs (xs := [.tmp 22]) (by repeat (first | exact Gv.nil | apply Gv.const | apply Gv.tmp (by repeat (first | exact Gt.here | apply Gt.there (by rfl) | exact Gt.base (by rfl))))) rfl Try.underlying24 inf3 rfl (by omega) (by omega) (by first | simp [Value.oneCell'] | (intro v hv; simp at hv; subst hv; rfl))) rfl rfl (fun b23 _ => ?_)
      refine s_n (N_appR (bytes := 8) hB (List.perm_append_comm (l₁ := B) (l₂ := [_, _])) rfl rfl Try.underlying24 inf3 rfl (by omega) (src (by repeat (first | exact List.Mem.head _ | assumption | apply List.Mem.tail | apply List.mem_append_right))) (by rfl) (by simp [Value.oneCell']) (by omega) (by omega) (by omega)) rfl rfl (fun ⟨g24, cp24⟩ hc24 => ?_)
      refine s_y (Y_as) rfl rfl ?_
      refine s_nil ?_
      refine q_bn ?_
      refine q_then ?_
      -- ref.go:197
      refine c_reg ?_
      refine s_y (Y_mv) rfl rfl ?_
      refine s_y ((by first | exact Y_add rfl rfl (by omega) | exact Y_addw rfl rfl)) rfl rfl ?_
      refine s_y (Y_as) rfl rfl ?_
      refine s_nil ?_
      have hrow : Row 3 1 (.slice (some ⟨g24, 0, none⟩) (zs.length + 1) cp24) (zs ++ [(num bs 1 0 10 k2 0).1]).length ((zs ++ [(num bs 1 0 10 k2 0).1]).map (Value.int .i64)) [⟨g24, 3, 1, cp24, zs.map (Value.int .i64) ++ [.int .i64 (num bs 1 0 10 k2 0).1]⟩] := by
        rw [List.length_append, List.map_append]
        exact .some hc24 (by simp)
      refine hK (n2 - 1) (i + 1, .slice (some ⟨g24, 0, none⟩) (zs.length + 1) cp24, [⟨g24, 3, 1, cp24, zs.map (Value.int .i64) ++ [.int .i64 (num bs 1 0 10 k2 0).1]⟩]) _ _ (by omega) ⟨by simp only; omega, by rw [hS]; exact hrow⟩ ⟨rfl, rfl, trivial⟩ rfl (fun w h => ?_)
      dsimp only
      rw [hS]
      exact (h.sub (L' := [_, _]) (by repeat (first | exact List.Sublist.refl _ | exact List.nil_sublist _ | apply List.Sublist.cons_cons | apply List.Sublist.cons))).swap
    · have hm := hgo him he2
      rw [hm]
      refine c_F (t := decide (e2 = 0)) (by rfl) (decide_eq_false he2) ?_
      refine c_exit ?_
      repeat with_reducible refine q_te ?_
      refine q_exit ?_
      refine q_then ?_
      refine c_seq ?_
      refine c_reg ?_
      refine s_y (Y_mv) rfl rfl ?_
      refine s_y (Y_as) rfl rfl ?_
      refine s_nil ?_
      refine q_then ?_
      refine c_ret ?_
      refine q_ret1 rfl rfl (L' := _) (List.Sublist.refl _) ⟨B, hB, rfl⟩
  · obtain rfl : i = m := by omega
    refine s_known (d := 11) rfl (decide_eq_false (by omega)) ?_
    first | refine s_y (Y_mv) rfl rfl ?_ | refine s_pass rfl rfl ?_
    first | refine s_y ((by first | exact Y_nil rfl | exact Y_nilF rfl | exact Y_nilM rfl (by assumption) | exact Y_nilM rfl (by intro w k; kernel_rfl))) rfl rfl ?_ | refine s_pass rfl rfl ?_
    first | refine s_y (Y_fa 2 rfl Try.underlying72 rfl sz3 rfl) rfl rfl ?_ | refine s_pass rfl rfl ?_
    first | refine s_y ((by first | exact Y_load rfl one3 (by repeat (first | exact List.Mem.head _ | assumption | apply List.Mem.tail | apply List.mem_append_right)) (by rfl) | exact Y_load rfl one3 (by repeat (first | exact List.Mem.head _ | assumption | apply List.Mem.tail | apply List.mem_append_right)) (by assumption) | exact Y_loadR rfl one3 (by assumption) rfl (by assumption))) rfl rfl ?_ | refine s_pass rfl rfl ?_
    first | refine s_y (Y_eql rfl rfl) rfl rfl ?_ | refine s_pass rfl rfl ?_
    refine s_y (Y_pk rfl (Gx.tmp (by repeat (first | exact Gt.here | apply Gt.there (by rfl) | exact Gt.base (by rfl)))) Gx.const) rfl rfl ?_
    refine s_nil ?_
    refine q_then ?_
    refine c_F rfl rfl ?_
    refine c_exit ?_
    repeat with_reducible refine q_te ?_
    refine q_exit ?_
    refine q_then ?_
    refine c_seq ?_
    refine c_reg ?_
    refine s_y (Y_mv) rfl rfl ?_
    refine s_y (Y_as) rfl rfl ?_
    refine s_nil ?_
    refine q_then ?_
    refine c_ret ?_
    refine q_ret1 rfl rfl (L' := _) (List.Sublist.refl _) ⟨B, hB, rfl⟩
end
end Go.Proofs.Ytphmdhbhoakcaaa
