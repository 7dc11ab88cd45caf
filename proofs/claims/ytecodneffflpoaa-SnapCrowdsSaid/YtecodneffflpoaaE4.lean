/- Worlds are checked and written: the document's, walked. -/
import Derived.Test.YtecodneffflpoaaE3
namespace Go.Proofs.Ytecodneffflpoaa
open Go.RowKit Go.Ad Go.Maps
set_option linter.unusedVariables false
set_option linter.unusedSimpArgs false
section
variable {W : World}
set_option maxRecDepth 100000 in
theorem rgoods_d {d : Wd} {s : Ws} (hw : WAt W d s) : Does Try.prog 29 [.agg (wv d s).toArray] W [] (fun v L => v = .bool (goodsM d) ∧ L = []) := by
  have hcap := hw.i.cap
  refine enter Try.func29 rfl rfl rfl (Has.start _) ?_
  refine c_seq ?_
  -- ref.go:159 R0
  refine c_reg ?_
  refine s_n (N_box (cs := wv d s) rfl) rfl rfl (fun b1 _ => ?_)
  refine s_y (Y_asC) rfl rfl ?_
  refine s_nil ?_
  refine q_then ?_
  refine c_seq ?_
  refine c_seq ?_
  -- ref.go:160 R1
  refine c_reg ?_
  refine s_y (Y_fa 6 rfl Try.underlying29 rfl sz23 rfl) rfl rfl ?_
  refine s_y ((by first | exact Y_load rfl one23 mm_ (by rfl) | exact Y_loadR rfl one23 hr rfl rfl | exact Y_loadR rfl one23 hr2 rfl rfl | exact Y_load rfl one23 mm_ (eget he rfl) | exact Y_load rfl one23 mm_ (iget hx rfl) | exact Y_load rfl one23 mm_ (by assumption) | exact Y_loadR rfl one23 (by assumption) rfl (by assumption))) rfl rfl ?_
  refine s_y (Y_len rfl rfl Try.underlying23) rfl rfl ?_
  refine s_y (Y_neq rfl rfl) rfl rfl ?_
  refine s_nil ?_
  refine q_then ?_
  first | refine c_cond' rfl (fun hc1 => ?_) (fun hc1 => ?_) | refine c_cond rfl (fun hc1 => ?_) (fun hc1 => ?_)
  · skip
    try simp only [nrm_] at hc1
    refine c_seq ?_
    -- ref.go:161 R2
    refine c_reg ?_
    refine s_y (Y_asC) rfl rfl ?_
    refine s_nil ?_
    refine q_then ?_
    refine c_ret ?_
    refine q_retG1 rfl gt_ (L' := _) sl_ (⟨by unfold goodsM; rw [decide_eq_false (by omega)]; rfl, rfl⟩)
  · skip
    try simp only [nrm_] at hc1
    refine c_skip ?_
    refine q_then ?_
    refine c_seq ?_
    refine c_seq ?_
    -- ref.go:163 R3
    have hlen : d.items.length = 40 := by omega
    refine c_reg ?_
    refine s_y (Y_asC) rfl rfl ?_
    refine s_nil ?_
    refine q_then ?_
    refine c_block ?_
    refine c_loop [2, 3, 4, 5, 6, 11, 12, 13, 14, 15, 16, 17, 18, 19, 20, 21, 22, 23, 24, 25, 26, 27, 28, 29, 30, 31, 32, 33, 34, 35, 36, 37, 38, 39, 40, 41, 42, 43, 44, 45, 46, 47, 48, 49, 50, 51, 52, 53, 54, 55, 56, 57, 58, 59, 60, 61, 62, 63, 64, 65, 66, 67, 68, 69, 70, 71, 72, 73] (fun m i => i + m = 40 ∧ itemsM d.cells d.items (d.items.drop i) i = itemsM d.cells d.items d.items 0) (fun i => [(3, iv i)]) (fun _ => [wB b1 (wv d s)]) (40) (0) (⟨rfl, rfl⟩) (by repeat (first | exact trivial | refine ⟨rfl, ?_⟩)) (fun _ h => h.sub sl_) (fun _ => rfl) ?_
    rintro m i j ⟨hi, hf⟩ K hK
    refine c_seq ?_
    refine c_seq ?_
    -- ref.go:163 R4
    refine c_reg ?_
    refine s_y (Y_mv) rfl rfl ?_
    refine s_y (Y_fa 6 rfl Try.underlying29 rfl sz23 rfl) rfl rfl ?_
    refine s_y ((by first | exact Y_load rfl one23 mm_ (by rfl) | exact Y_loadR rfl one23 hr rfl rfl | exact Y_loadR rfl one23 hr2 rfl rfl | exact Y_load rfl one23 mm_ (eget he rfl) | exact Y_load rfl one23 mm_ (iget hx rfl) | exact Y_load rfl one23 mm_ (by assumption) | exact Y_loadR rfl one23 (by assumption) rfl (by assumption))) rfl rfl ?_
    refine s_y (Y_len rfl rfl Try.underlying23) rfl rfl ?_
    refine s_y (Y_lss rfl rfl) rfl rfl ?_
    refine s_nil ?_
    refine q_then ?_
    first | refine c_cond' rfl (fun hc4 => ?_) (fun hc4 => ?_) | refine c_cond rfl (fun hc4 => ?_) (fun hc4 => ?_)
    · skip
      try simp only [nrm_] at hc4
      refine c_skip ?_
      refine q_then ?_
      refine c_seq ?_
      refine c_block ?_
      refine c_seq ?_
      -- ref.go:164 R6
      obtain ⟨x, hx⟩ := take_lt (show i < d.items.length by omega)
      have hr := hw.i.at' Itm.len hx
      have hst := items_step (cells := d.cells) hx
      rw [hf] at hst
      refine c_reg ?_
      refine s_y (Y_fa 6 rfl Try.underlying29 rfl sz23 rfl) rfl rfl ?_
      refine s_y ((by first | exact Y_load rfl one23 mm_ (by rfl) | exact Y_loadR rfl one23 hr rfl rfl | exact Y_loadR rfl one23 hr2 rfl rfl | exact Y_load rfl one23 mm_ (eget he rfl) | exact Y_load rfl one23 mm_ (iget hx rfl) | exact Y_load rfl one23 mm_ (by assumption) | exact Y_loadR rfl one23 (by assumption) rfl (by assumption))) rfl rfl ?_
      refine s_y (Y_mv) rfl rfl ?_
      refine s_y (Y_ia rfl rfl Try.underlying23 sz57 rfl (by omega)) rfl rfl ?_
      refine s_y ((by first | exact Y_loadAll rfl many57 mm_ (by rfl) | exact Y_loadN rfl many57 mm_ ‹_› ‹_› | exact Y_loadNR rfl many57 hr rfl | exact Y_loadNR rfl many57 hr2 rfl | exact Y_loadNR rfl many57 ‹_› rfl)) rfl rfl ?_
      refine s_n (N_alloc (z := .agg #[.int .i64 0, .int .i64 0, .int .i64 0, .int .i64 0]) (cs := [.int .i64 0, .int .i64 0, .int .i64 0, .int .i64 0]) zv57 rfl) rfl rfl (fun b4 _ => ?_)
      refine s_s (S_storeA (vs := x.cells) rfl rfl sz57 (by rfl) (by rfl) (by repeat (first | exact Upd.head | apply Upd.tail)) (by rfl)) rfl ?_
      refine s_nil ?_
      refine q_then ?_
      refine c_seq ?_
      refine c_seq ?_
      -- ref.go:165 R7
      refine c_reg ?_
      refine s_y ((by first | exact Y_loadAll rfl many57 mm_ (by rfl) | exact Y_loadN rfl many57 mm_ ‹_› ‹_› | exact Y_loadNR rfl many57 hr rfl | exact Y_loadNR rfl many57 hr2 rfl | exact Y_loadNR rfl many57 ‹_› rfl)) rfl rfl ?_
      refine s_y (Y_build (cs := [.int .i64 0, .int .i64 0, .int .i64 0, .int .i64 0]) (by repeat (first | exact Gp.nil | apply Gp.const | apply Gp.tmp gt_)) (bld57 _ _ (by first | rfl | (simp; rfl)))) rfl rfl ?_
      refine s_y (Y_eqF (zs := [x.kind, x.whr, x.a, x.b]) (zs' := [0, 0, 0, 0]) rfl rfl flat57 rfl rfl) rfl rfl ?_
      refine s_nil ?_
      refine q_then ?_
      first | refine c_cond' rfl (fun hc7 => ?_) (fun hc7 => ?_) | refine c_cond rfl (fun hc7 => ?_) (fun hc7 => ?_)
      · skip
        try simp only [nrm_] at hc7
        refine c_exit ?_
        repeat with_reducible refine q_te ?_
        refine q_exit ?_
        refine q_then ?_
        -- ref.go:163 R5
        refine c_reg ?_
        refine s_y (Y_mv) rfl rfl ?_
        refine s_y ((by first | exact Y_add rfl rfl (by omega) | exact Y_addw rfl rfl)) rfl rfl ?_
        refine s_y (Y_as) rfl rfl ?_
        refine s_nil ?_
        refine hK (m - 1) (i + 1) _ _ (by omega) ⟨by omega, by rw [hst, isz_iff, if_pos (decide_eq_true hc7)]⟩ ⟨rfl, trivial⟩ rfl (fun _ h => h.sub sl_)
      · skip
        try simp only [nrm_] at hc7
        refine c_skip ?_
        refine q_then ?_
        refine c_seq ?_
        refine c_seq ?_
        -- ref.go:168 R8
        have hz : ¬ x.isZ = true := by rw [isz_iff, decide_eq_true_eq]; exact hc7
        rw [if_neg hz] at hst
        refine c_reg ?_
        refine s_y (Y_fa 0 rfl Try.underlying57 rfl sz3 rfl) rfl rfl ?_
        refine s_y ((by first | exact Y_load rfl one3 mm_ (by rfl) | exact Y_loadR rfl one3 hr rfl rfl | exact Y_loadR rfl one3 hr2 rfl rfl | exact Y_load rfl one3 mm_ (eget he rfl) | exact Y_load rfl one3 mm_ (iget hx rfl) | exact Y_load rfl one3 mm_ (by assumption) | exact Y_loadR rfl one3 (by assumption) rfl (by assumption))) rfl rfl ?_
        refine s_y (Y_lss rfl rfl) rfl rfl ?_
        refine s_y (Y_mv) rfl rfl ?_
        apply s_or 4 [29, 30, 31, 32, 33] 33 (g := 29) rfl rfl
        · intro ht4 hm
          try simp only [nrm_] at ht4
          first | refine s_y (Y_fa 0 rfl Try.underlying57 rfl sz3 rfl) rfl rfl ?_ | refine s_pass rfl rfl ?_
          first | refine s_y ((by first | exact Y_load rfl one3 mm_ (by rfl) | exact Y_loadR rfl one3 hr rfl rfl | exact Y_loadR rfl one3 hr2 rfl rfl | exact Y_load rfl one3 mm_ (eget he rfl) | exact Y_load rfl one3 mm_ (iget hx rfl) | exact Y_load rfl one3 mm_ (by assumption) | exact Y_loadR rfl one3 (by assumption) rfl (by assumption))) rfl rfl ?_ | refine s_pass rfl rfl ?_
          first | refine s_y (Y_gtr rfl rfl) rfl rfl ?_ | refine s_pass rfl rfl ?_
          refine s_y (Y_pk rfl Gx.const (Gx.tmp gt_)) rfl rfl ?_
          first | exact hm _ ⟨rfl, trivial⟩ rfl | exact QL.sub sl_ (hm _ ⟨rfl, trivial⟩ rfl)
        · intro ht4 hm
          iterate 3 refine s_pass rfl rfl ?_
          refine s_y (Y_pk rfl Gx.const (Gx.tmp gt_)) rfl rfl ?_
          exact hm _ ⟨rfl, trivial⟩ rfl
        intro j33
        refine s_y (Y_mv) rfl rfl ?_
        apply s_or 5 [34, 35, 36, 37, 38, 39] 39 (g := 34) rfl rfl
        · intro ht9 hm
          try simp only [nrm_] at ht9
          first | refine s_y ((by first | exact Y_loadAll rfl many29 mm_ (by rfl) | exact Y_loadN rfl many29 mm_ ‹_› ‹_› | exact Y_loadNR rfl many29 hr rfl | exact Y_loadNR rfl many29 hr2 rfl | exact Y_loadNR rfl many29 ‹_› rfl)) rfl rfl ?_ | refine s_pass rfl rfl ?_
          first | refine s_y ((by first | exact Y_loadAll rfl many57 mm_ (by rfl) | exact Y_loadN rfl many57 mm_ ‹_› ‹_› | exact Y_loadNR rfl many57 hr rfl | exact Y_loadNR rfl many57 hr2 rfl | exact Y_loadNR rfl many57 ‹_› rfl)) rfl rfl ?_ | refine s_pass rfl rfl ?_
          refine s_c (En_call (fun _ => rfl) Try.func48 rfl (by kernel_rfl) rfl) (fun w hH => rplaced_d (hw.has hH) x) rfl rfl ?_
          rintro _ _ ⟨rfl, rfl⟩
          first | refine s_y (Y_not rfl) rfl rfl ?_ | refine s_pass rfl rfl ?_
          refine s_y (Y_pk rfl Gx.const (Gx.tmp gt_)) rfl rfl ?_
          first | exact hm _ ⟨rfl, trivial⟩ rfl | exact QL.sub sl_ (hm _ ⟨rfl, trivial⟩ rfl)
        · intro ht9 hm
          iterate 4 refine s_pass rfl rfl ?_
          refine s_y (Y_pk rfl Gx.const (Gx.tmp gt_)) rfl rfl ?_
          exact hm _ ⟨rfl, trivial⟩ rfl
        intro j39
        refine s_nil ?_
        refine q_then ?_
        first | refine c_cond' rfl (fun hc8 => ?_) (fun hc8 => ?_) | refine c_cond rfl (fun hc8 => ?_) (fun hc8 => ?_)
        · skip
          try simp only [nrm_] at hc8
          refine c_seq ?_
          -- ref.go:169 R9
          refine c_reg ?_
          refine s_y (Y_asC) rfl rfl ?_
          refine s_nil ?_
          refine q_then ?_
          refine c_ret ?_
          refine q_retG1 rfl gt_ (L' := _) sl_ (⟨by
              have : (btw x.kind 1 4 && placedM d.cells x) = false := by
                cases hp : placedM d.cells x
                · simp
                · rw [hp] at hc8; simp only [nrm_, reduceCtorEq, or_false] at hc8
                  unfold btw; rw [Bool.and_true, decide_eq_false_iff_not]; omega
              rw [this] at hst
              simp only [Bool.false_and, Bool.false_eq_true, if_false] at hst
              unfold goodsM; rw [hst, Bool.and_false], rfl⟩)
        · skip
          try simp only [nrm_] at hc8
          refine c_skip ?_
          refine q_then ?_
          refine c_seq ?_
          -- ref.go:171 R10
          have hpl : placedM d.cells x = true := by
            cases hp : placedM d.cells x
            · rw [hp] at hc8; simp at hc8
            · rfl
          have hkk : btw x.kind 1 4 = true := by
            rw [hpl] at hc8; simp only [nrm_, reduceCtorEq, or_false] at hc8
            unfold btw; rw [decide_eq_true_eq]; omega
          rw [hpl, hkk, Bool.and_true, Bool.true_and] at hst
          refine c_reg ?_
          refine s_y (Y_asC) rfl rfl ?_
          refine s_nil ?_
          refine q_then ?_
          refine c_block ?_
          refine c_loop [2, 5, 6, 40, 41, 42, 43, 44, 45, 46, 47, 48, 49, 50, 51, 52, 53, 54, 55, 56, 57, 58, 59, 60, 61, 62, 63, 64, 65, 66, 67, 68, 69, 70, 71, 72, 73] (fun m2 k => k + m2 = i ∧ aloneM (d.items.take k) x = true) (fun k => [(5, iv k)]) (fun _ => [⟨b4, 57, 4, 1, x.cells⟩, wB b1 (wv d s)]) (i) (0) (⟨by omega, by rw [List.take_zero]; rfl⟩) (by repeat (first | exact trivial | refine ⟨rfl, ?_⟩)) (fun _ h => h.sub sl_) (fun _ => rfl) ?_
          rintro m2 k j2 ⟨hk, hal⟩ K2 hK2
          refine c_seq ?_
          refine c_seq ?_
          -- ref.go:171 R11
          refine c_reg ?_
          refine s_y (Y_mv) rfl rfl ?_
          refine s_y (Y_mv) rfl rfl ?_
          refine s_y (Y_lss rfl rfl) rfl rfl ?_
          refine s_nil ?_
          refine q_then ?_
          first | refine c_cond' rfl (fun hc11 => ?_) (fun hc11 => ?_) | refine c_cond rfl (fun hc11 => ?_) (fun hc11 => ?_)
          · skip
            try simp only [nrm_] at hc11
            refine c_skip ?_
            refine q_then ?_
            refine c_seq ?_
            refine c_block ?_
            refine c_seq ?_
            -- ref.go:172 R13
            obtain ⟨y, hy⟩ := take_lt (show k < d.items.length by omega)
            have hr2 := hw.i.at' Itm.len hy
            have has := alone_step (x := x) hy
            refine c_reg ?_
            refine s_y (Y_fa 6 rfl Try.underlying29 rfl sz23 rfl) rfl rfl ?_
            refine s_y ((by first | exact Y_load rfl one23 mm_ (by rfl) | exact Y_loadR rfl one23 hr rfl rfl | exact Y_loadR rfl one23 hr2 rfl rfl | exact Y_load rfl one23 mm_ (eget he rfl) | exact Y_load rfl one23 mm_ (iget hx rfl) | exact Y_load rfl one23 mm_ (by assumption) | exact Y_loadR rfl one23 (by assumption) rfl (by assumption))) rfl rfl ?_
            refine s_y (Y_mv) rfl rfl ?_
            refine s_y (Y_ia rfl rfl Try.underlying23 sz57 rfl (by omega)) rfl rfl ?_
            refine s_y (Y_loadNR (vs := y.cells) rfl many57 hr2 rfl) rfl rfl ?_
            refine s_n (N_alloc (z := .agg #[.int .i64 0, .int .i64 0, .int .i64 0, .int .i64 0]) (cs := [.int .i64 0, .int .i64 0, .int .i64 0, .int .i64 0]) zv57 rfl) rfl rfl (fun b6 _ => ?_)
            refine s_s (S_storeA (vs := y.cells) rfl rfl sz57 (by rfl) (by rfl) (by repeat (first | exact Upd.head | apply Upd.tail)) (by rfl)) rfl ?_
            refine s_nil ?_
            refine q_then ?_
            refine c_seq ?_
            -- ref.go:173 R14
            refine c_reg ?_
            refine s_y (Y_fa 1 rfl Try.underlying57 rfl sz3 rfl) rfl rfl ?_
            refine s_y ((by first | exact Y_load rfl one3 mm_ (by rfl) | exact Y_loadR rfl one3 hr rfl rfl | exact Y_loadR rfl one3 hr2 rfl rfl | exact Y_load rfl one3 mm_ (eget he rfl) | exact Y_load rfl one3 mm_ (iget hx rfl) | exact Y_load rfl one3 mm_ (by assumption) | exact Y_loadR rfl one3 (by assumption) rfl (by assumption))) rfl rfl ?_
            refine s_y (Y_fa 1 rfl Try.underlying57 rfl sz3 rfl) rfl rfl ?_
            refine s_y ((by first | exact Y_load rfl one3 mm_ (by rfl) | exact Y_loadR rfl one3 hr rfl rfl | exact Y_loadR rfl one3 hr2 rfl rfl | exact Y_load rfl one3 mm_ (eget he rfl) | exact Y_load rfl one3 mm_ (iget hx rfl) | exact Y_load rfl one3 mm_ (by assumption) | exact Y_loadR rfl one3 (by assumption) rfl (by assumption))) rfl rfl ?_
            refine s_y (Y_eql rfl rfl) rfl rfl ?_
            refine s_y (Y_mv) rfl rfl ?_
            apply s_and 6 [55, 56, 57, 58, 59, 60, 61] 61 (g := 55) rfl rfl
            · intro ht6 hm
              try simp only [nrm_] at ht6
              first | refine s_y (Y_fa 2 rfl Try.underlying57 rfl sz3 rfl) rfl rfl ?_ | refine s_pass rfl rfl ?_
              first | refine s_y ((by first | exact Y_load rfl one3 mm_ (by rfl) | exact Y_loadR rfl one3 hr rfl rfl | exact Y_loadR rfl one3 hr2 rfl rfl | exact Y_load rfl one3 mm_ (eget he rfl) | exact Y_load rfl one3 mm_ (iget hx rfl) | exact Y_load rfl one3 mm_ (by assumption) | exact Y_loadR rfl one3 (by assumption) rfl (by assumption))) rfl rfl ?_ | refine s_pass rfl rfl ?_
              first | refine s_y (Y_fa 2 rfl Try.underlying57 rfl sz3 rfl) rfl rfl ?_ | refine s_pass rfl rfl ?_
              first | refine s_y ((by first | exact Y_load rfl one3 mm_ (by rfl) | exact Y_loadR rfl one3 hr rfl rfl | exact Y_loadR rfl one3 hr2 rfl rfl | exact Y_load rfl one3 mm_ (eget he rfl) | exact Y_load rfl one3 mm_ (iget hx rfl) | exact Y_load rfl one3 mm_ (by assumption) | exact Y_loadR rfl one3 (by assumption) rfl (by assumption))) rfl rfl ?_ | refine s_pass rfl rfl ?_
              first | refine s_y (Y_eql rfl rfl) rfl rfl ?_ | refine s_pass rfl rfl ?_
              refine s_y (Y_pk rfl (Gx.tmp gt_) Gx.const) rfl rfl ?_
              first | exact hm _ ⟨rfl, trivial⟩ rfl | exact QL.sub sl_ (hm _ ⟨rfl, trivial⟩ rfl)
            · intro ht6 hm
              iterate 5 refine s_pass rfl rfl ?_
              refine s_y (Y_pk rfl (Gx.tmp gt_) Gx.const) rfl rfl ?_
              exact hm _ ⟨rfl, trivial⟩ rfl
            intro j61
            refine s_y (Y_mv) rfl rfl ?_
            apply s_and 6 [62, 63, 64, 65, 66, 67, 68] 68 (g := 62) rfl rfl
            · intro ht13 hm
              try simp only [nrm_] at ht13
              first | refine s_y (Y_fa 3 rfl Try.underlying57 rfl sz3 rfl) rfl rfl ?_ | refine s_pass rfl rfl ?_
              first | refine s_y ((by first | exact Y_load rfl one3 mm_ (by rfl) | exact Y_loadR rfl one3 hr rfl rfl | exact Y_loadR rfl one3 hr2 rfl rfl | exact Y_load rfl one3 mm_ (eget he rfl) | exact Y_load rfl one3 mm_ (iget hx rfl) | exact Y_load rfl one3 mm_ (by assumption) | exact Y_loadR rfl one3 (by assumption) rfl (by assumption))) rfl rfl ?_ | refine s_pass rfl rfl ?_
              first | refine s_y (Y_fa 3 rfl Try.underlying57 rfl sz3 rfl) rfl rfl ?_ | refine s_pass rfl rfl ?_
              first | refine s_y ((by first | exact Y_load rfl one3 mm_ (by rfl) | exact Y_loadR rfl one3 hr rfl rfl | exact Y_loadR rfl one3 hr2 rfl rfl | exact Y_load rfl one3 mm_ (eget he rfl) | exact Y_load rfl one3 mm_ (iget hx rfl) | exact Y_load rfl one3 mm_ (by assumption) | exact Y_loadR rfl one3 (by assumption) rfl (by assumption))) rfl rfl ?_ | refine s_pass rfl rfl ?_
              first | refine s_y (Y_eql rfl rfl) rfl rfl ?_ | refine s_pass rfl rfl ?_
              refine s_y (Y_pk rfl (Gx.tmp gt_) Gx.const) rfl rfl ?_
              first | exact hm _ ⟨rfl, trivial⟩ rfl | exact QL.sub sl_ (hm _ ⟨rfl, trivial⟩ rfl)
            · intro ht13 hm
              iterate 5 refine s_pass rfl rfl ?_
              refine s_y (Y_pk rfl (Gx.tmp gt_) Gx.const) rfl rfl ?_
              exact hm _ ⟨rfl, trivial⟩ rfl
            intro j68
            refine s_y (Y_mv) rfl rfl ?_
            apply s_and 4 [69, 70, 71, 72, 73] 73 (g := 69) rfl rfl
            · intro ht20 hm
              try simp only [nrm_] at ht20
              first | refine s_y (Y_fa 1 rfl Try.underlying57 rfl sz3 rfl) rfl rfl ?_ | refine s_pass rfl rfl ?_
              first | refine s_y ((by first | exact Y_load rfl one3 mm_ (by rfl) | exact Y_loadR rfl one3 hr rfl rfl | exact Y_loadR rfl one3 hr2 rfl rfl | exact Y_load rfl one3 mm_ (eget he rfl) | exact Y_load rfl one3 mm_ (iget hx rfl) | exact Y_load rfl one3 mm_ (by assumption) | exact Y_loadR rfl one3 (by assumption) rfl (by assumption))) rfl rfl ?_ | refine s_pass rfl rfl ?_
              first | refine s_y (Y_neq rfl rfl) rfl rfl ?_ | refine s_pass rfl rfl ?_
              refine s_y (Y_pk rfl (Gx.tmp gt_) Gx.const) rfl rfl ?_
              first | exact hm _ ⟨rfl, trivial⟩ rfl | exact QL.sub sl_ (hm _ ⟨rfl, trivial⟩ rfl)
            · intro ht20 hm
              iterate 3 refine s_pass rfl rfl ?_
              refine s_y (Y_pk rfl (Gx.tmp gt_) Gx.const) rfl rfl ?_
              exact hm _ ⟨rfl, trivial⟩ rfl
            intro j73
            refine s_nil ?_
            refine q_then ?_
            first | refine c_cond' rfl (fun hc14 => ?_) (fun hc14 => ?_) | refine c_cond rfl (fun hc14 => ?_) (fun hc14 => ?_)
            · skip
              try simp only [nrm_] at hc14
              refine c_seq ?_
              -- ref.go:174 R15
              refine c_reg ?_
              refine s_y (Y_asC) rfl rfl ?_
              refine s_nil ?_
              refine q_then ?_
              refine c_ret ?_
              refine q_retG1 rfl gt_ (L' := _) sl_ (⟨by
                  rw [alone_no (x := x) (i := i) hy (by omega) (by omega)] at hst
                  unfold goodsM; rw [hst]; simp, rfl⟩)
            · skip
              try simp only [nrm_] at hc14
              refine c_skip ?_
              refine q_bn ?_
              refine q_then ?_
              -- ref.go:171 R12
              refine c_reg ?_
              refine s_y (Y_mv) rfl rfl ?_
              refine s_y ((by first | exact Y_add rfl rfl (by omega) | exact Y_addw rfl rfl)) rfl rfl ?_
              refine s_y (Y_as) rfl rfl ?_
              refine s_nil ?_
              refine hK2 (m2 - 1) (k + 1) _ _ (by omega) ⟨by omega, by rw [has, hal, decide_eq_false (by omega)]; rfl⟩ ⟨rfl, trivial⟩ rfl (fun _ h => h.sub sl_)
          · skip
            try simp only [nrm_] at hc11
            refine c_exit ?_
            repeat with_reducible refine q_te ?_
            refine q_exit ?_
            refine q_bn ?_
            refine q_then ?_
            -- ref.go:163 R5
            refine c_reg ?_
            refine s_y (Y_mv) rfl rfl ?_
            refine s_y ((by first | exact Y_add rfl rfl (by omega) | exact Y_addw rfl rfl)) rfl rfl ?_
            refine s_y (Y_as) rfl rfl ?_
            refine s_nil ?_
            obtain rfl : k = i := by omega
            rw [hal, if_pos rfl] at hst
            refine hK (m - 1) (k + 1) _ _ (by omega) ⟨by omega, hst.symm⟩ ⟨rfl, trivial⟩ rfl (fun _ h => h.sub sl_)
    · skip
      try simp only [nrm_] at hc4
      refine c_exit ?_
      repeat with_reducible refine q_te ?_
      refine q_exit ?_
      refine q_then ?_
      refine c_seq ?_
      -- ref.go:178 R16
      refine c_reg ?_
      refine s_y (Y_asC) rfl rfl ?_
      refine s_nil ?_
      refine q_then ?_
      refine c_ret ?_
      refine q_retG1 rfl gt_ (L' := _) sl_ (⟨by
          rw [List.drop_eq_nil_of_le (by omega)] at hf
          unfold goodsM; rw [← hf, decide_eq_true hlen]; rfl, rfl⟩)
set_option maxRecDepth 100000 in
theorem rcheck_d {d : Wd} {s : Ws} (hw : WAt W d s) : Does Try.prog 9 [.agg (wv d s).toArray] W [] (fun v L => v = iv (checkM d) ∧ L = []) := by
  have hcap := hw.e.cap
  refine enter Try.func9 rfl rfl rfl (Has.start _) ?_
  refine c_seq ?_
  -- ref.go:82 R0
  refine c_reg ?_
  refine s_n (N_box (cs := wv d s) rfl) rfl rfl (fun b1 _ => ?_)
  refine s_y (Y_asC) rfl rfl ?_
  refine s_nil ?_
  refine q_then ?_
  refine c_seq ?_
  -- ref.go:83 R1
  refine c_reg ?_
  refine s_y ((by first | exact Y_loadAll rfl many29 mm_ (by rfl) | exact Y_loadN rfl many29 mm_ ‹_› ‹_› | exact Y_loadNR rfl many29 hr rfl | exact Y_loadNR rfl many29 hr2 rfl | exact Y_loadNR rfl many29 ‹_› rfl)) rfl rfl ?_
  refine s_c (En_call (fun _ => rfl) Try.func27 rfl (by kernel_rfl) rfl) (fun w hH => rhead_d (hw.has hH)) rfl rfl ?_
  rintro _ _ ⟨rfl, rfl⟩
  refine s_y (Y_as) rfl rfl ?_
  refine s_nil ?_
  refine q_then ?_
  refine c_seq ?_
  refine c_seq ?_
  -- ref.go:84 R2
  refine c_reg ?_
  refine s_y (Y_mv) rfl rfl ?_
  refine s_y (Y_neq rfl rfl) rfl rfl ?_
  refine s_nil ?_
  refine q_then ?_
  first | refine c_cond' rfl (fun hc2 => ?_) (fun hc2 => ?_) | refine c_cond rfl (fun hc2 => ?_) (fun hc2 => ?_)
  · skip
    try simp only [nrm_] at hc2
    refine c_seq ?_
    -- ref.go:85 R3
    refine c_reg ?_
    refine s_y (Y_mv) rfl rfl ?_
    refine s_y (Y_as) rfl rfl ?_
    refine s_nil ?_
    refine q_then ?_
    refine c_ret ?_
    refine q_retG1 rfl gt_ (L' := _) sl_ (⟨by unfold checkM; rw [if_pos hc2], rfl⟩)
  · skip
    try simp only [nrm_] at hc2
    refine c_skip ?_
    refine q_then ?_
    refine c_seq ?_
    refine c_seq ?_
    -- ref.go:87 R4
    refine c_reg ?_
    refine s_y (Y_asC) rfl rfl ?_
    refine s_nil ?_
    refine q_then ?_
    refine c_block ?_
    refine c_loop [2, 3, 4, 10, 11, 12, 13, 14, 15, 16, 17, 18, 19, 20, 21, 22] (fun m i => i + m = d.ents.length ∧ entsM d (d.ents.drop i) i = entsM d d.ents 0) (fun i => [(4, iv i)]) (fun _ => [wB b1 (wv d s)]) (d.ents.length) (0) (⟨by omega, rfl⟩) (by repeat (first | exact trivial | refine ⟨rfl, ?_⟩)) (fun _ h => h.sub sl_) (fun _ => rfl) ?_
    rintro m i j ⟨hi, hf⟩ K hK
    have hbig := hw.e.big
    simp only [maxLen] at hbig
    refine c_seq ?_
    refine c_seq ?_
    -- ref.go:87 R5
    refine c_reg ?_
    refine s_y (Y_mv) rfl rfl ?_
    refine s_y (Y_fa 5 rfl Try.underlying29 rfl sz26 rfl) rfl rfl ?_
    refine s_y ((by first | exact Y_load rfl one26 mm_ (by rfl) | exact Y_loadR rfl one26 hr rfl rfl | exact Y_loadR rfl one26 hr2 rfl rfl | exact Y_load rfl one26 mm_ (eget he rfl) | exact Y_load rfl one26 mm_ (iget hx rfl) | exact Y_load rfl one26 mm_ (by assumption) | exact Y_loadR rfl one26 (by assumption) rfl (by assumption))) rfl rfl ?_
    refine s_y (Y_len rfl rfl Try.underlying26) rfl rfl ?_
    refine s_y (Y_lss rfl rfl) rfl rfl ?_
    refine s_nil ?_
    refine q_then ?_
    first | refine c_cond' rfl (fun hc5 => ?_) (fun hc5 => ?_) | refine c_cond rfl (fun hc5 => ?_) (fun hc5 => ?_)
    · skip
      try simp only [nrm_] at hc5
      refine c_skip ?_
      refine q_then ?_
      refine c_seq ?_
      refine c_block ?_
      refine c_seq ?_
      -- ref.go:88 R7
      obtain ⟨e, he⟩ := take_lt (show i < d.ents.length by omega)
      have hst := ents_step he
      rw [hf] at hst
      refine c_reg ?_
      refine s_y ((by first | exact Y_loadAll rfl many29 mm_ (by rfl) | exact Y_loadN rfl many29 mm_ ‹_› ‹_› | exact Y_loadNR rfl many29 hr rfl | exact Y_loadNR rfl many29 hr2 rfl | exact Y_loadNR rfl many29 ‹_› rfl)) rfl rfl ?_
      refine s_y (Y_mv) rfl rfl ?_
      refine s_c (En_call (fun _ => rfl) Try.func28 rfl (by kernel_rfl) rfl) (fun w hH => rent_d (hw.has hH) he) rfl rfl ?_
      rintro _ _ ⟨rfl, rfl⟩
      refine s_y (Y_as) rfl rfl ?_
      refine s_nil ?_
      refine q_then ?_
      refine c_seq ?_
      -- ref.go:89 R8
      refine c_reg ?_
      refine s_y (Y_mv) rfl rfl ?_
      refine s_y (Y_neq rfl rfl) rfl rfl ?_
      refine s_nil ?_
      refine q_then ?_
      first | refine c_cond' rfl (fun hc8 => ?_) (fun hc8 => ?_) | refine c_cond rfl (fun hc8 => ?_) (fun hc8 => ?_)
      · skip
        try simp only [nrm_] at hc8
        refine c_seq ?_
        -- ref.go:90 R9
        refine c_reg ?_
        refine s_y (Y_mv) rfl rfl ?_
        refine s_y (Y_as) rfl rfl ?_
        refine s_nil ?_
        refine q_then ?_
        refine c_ret ?_
        refine q_retG1 rfl gt_ (L' := _) sl_ (⟨by rw [if_pos hc8] at hst; unfold checkM; rw [if_neg (fun h => h hc2), hst, if_pos hc8], rfl⟩)
      · skip
        try simp only [nrm_] at hc8
        refine c_skip ?_
        refine q_bn ?_
        refine q_then ?_
        -- ref.go:87 R6
        refine c_reg ?_
        refine s_y (Y_mv) rfl rfl ?_
        refine s_y ((by first | exact Y_add rfl rfl (by omega) | exact Y_addw rfl rfl)) rfl rfl ?_
        refine s_y (Y_as) rfl rfl ?_
        refine s_nil ?_
        refine hK (m - 1) (i + 1) _ _ (by omega) ⟨by omega, by rw [hst, if_neg (fun h => h hc8)]⟩ ⟨rfl, trivial⟩ rfl (fun _ h => h.sub sl_)
    · skip
      try simp only [nrm_] at hc5
      refine c_exit ?_
      repeat with_reducible refine q_te ?_
      refine q_exit ?_
      refine q_then ?_
      refine c_seq ?_
      refine c_seq ?_
      -- ref.go:93 R10
      rw [List.drop_eq_nil_of_le (by omega)] at hf
      refine c_reg ?_
      refine s_y ((by first | exact Y_loadAll rfl many29 mm_ (by rfl) | exact Y_loadN rfl many29 mm_ ‹_› ‹_› | exact Y_loadNR rfl many29 hr rfl | exact Y_loadNR rfl many29 hr2 rfl | exact Y_loadNR rfl many29 ‹_› rfl)) rfl rfl ?_
      refine s_c (En_call (fun _ => rfl) Try.func29 rfl (by kernel_rfl) rfl) (fun w hH => rgoods_d (hw.has hH)) rfl rfl ?_
      rintro _ _ ⟨rfl, rfl⟩
      refine s_y (Y_not rfl) rfl rfl ?_
      refine s_nil ?_
      refine q_then ?_
      first | refine c_cond' rfl (fun hc10 => ?_) (fun hc10 => ?_) | refine c_cond rfl (fun hc10 => ?_) (fun hc10 => ?_)
      · skip
        try simp only [nrm_] at hc10
        refine c_seq ?_
        -- ref.go:94 R11
        refine c_reg ?_
        refine s_y (Y_asC) rfl rfl ?_
        refine s_nil ?_
        refine q_then ?_
        refine c_ret ?_
        refine q_retG1 rfl gt_ (L' := _) sl_ (⟨by unfold checkM; rw [if_neg (fun h => h hc2), ← hf, if_neg (by simp [entsM]), if_neg (by simpa using hc10)], rfl⟩)
      · skip
        try simp only [nrm_] at hc10
        refine c_skip ?_
        refine q_then ?_
        refine c_seq ?_
        -- ref.go:96 R12
        refine c_reg ?_
        refine s_y (Y_asC) rfl rfl ?_
        refine s_nil ?_
        refine q_then ?_
        refine c_ret ?_
        refine q_retG1 rfl gt_ (L' := _) sl_ (⟨by unfold checkM; rw [if_neg (fun h => h hc2), ← hf, if_neg (by simp [entsM]), if_pos (by simpa using hc10)], rfl⟩)
set_option maxRecDepth 100000 in
theorem rnum_d {v : Value} {B : List Bk} {ys : List UInt8} (hB : Row 5 1 v ys.length (ys.map bv) B) (hbl : ys.length ≤ 100000) (hW : ∀ x ∈ B, x.holds W) {k : Nat} (hk : k ≤ 8) {x : Int} : Does Try.prog 22 [v, iv k, .int .u64 x] W (B.map (·.b)) (fun v' L => Row 5 1 v' (ys ++ beM x k).length ((ys ++ beM x k).map bv) L) := by
  refine enter Try.func22 rfl rfl rfl (Has.starts hW hB.nodup) ?_
  refine c_seq ?_
  -- ref.go:100 R0
  refine c_reg ?_
  refine s_y (Y_asC) rfl rfl ?_
  refine s_nil ?_
  refine q_then ?_
  refine c_seq ?_
  refine c_seq ?_
  -- ref.go:101 R1
  refine c_reg ?_
  refine s_y (Y_mv) rfl rfl ?_
  refine s_y ((by first | exact Y_sub rfl rfl (by omega) | exact Y_subw rfl rfl)) rfl rfl ?_
  refine s_y (Y_as) rfl rfl ?_
  refine s_nil ?_
  refine q_then ?_
  refine c_block ?_
  refine c_loop [0, 7, 10, 11, 12, 13, 14, 15, 16, 17, 18, 19, 20, 21] (fun m (y : Nat × List UInt8 × Value × List Bk) => y.1 = m ∧ y.2.1 ++ beM x m = ys ++ beM x k ∧ m ≤ 8 ∧ y.2.1.length + m = ys.length + k ∧ Row 5 1 y.2.2.1 y.2.1.length (y.2.1.map bv) y.2.2.2) (fun y => [(7, iv ((y.1 : Int) - 1)), (0, y.2.2.1)]) (fun y => y.2.2.2) (k) ((k, ys, v, B)) (⟨rfl, rfl, hk, rfl, hB⟩) (by repeat (first | exact trivial | refine ⟨rfl, ?_⟩)) (fun _ h => h.sub sl_) (fun _ => rfl) ?_
  rintro m ⟨m', zs, v2, B2⟩ j ⟨hm, hz, hm8, hzl, hB2⟩ K hK
  simp only at hm hz hm8 hzl hB2 ⊢
  subst hm
  refine c_seq ?_
  refine c_seq ?_
  -- ref.go:101 R2
  refine c_reg ?_
  refine s_y (Y_mv) rfl rfl ?_
  refine s_y (Y_geq rfl rfl) rfl rfl ?_
  refine s_nil ?_
  refine q_then ?_
  first | refine c_cond' rfl (fun hc2 => ?_) (fun hc2 => ?_) | refine c_cond rfl (fun hc2 => ?_) (fun hc2 => ?_)
  · skip
    try simp only [nrm_] at hc2
    refine c_skip ?_
    refine q_then ?_
    refine c_seq ?_
    refine c_block ?_
    -- ref.go:102 R4
    obtain ⟨q, rfl⟩ : ∃ q, m' = q + 1 := ⟨m' - 1, by omega⟩
    refine c_reg ?_
    refine s_y (Y_mv) rfl rfl ?_
    refine s_y (Y_mv) rfl rfl ?_
    refine s_y (Y_mv) rfl rfl ?_
    refine s_y ((by first | exact Y_mul rfl rfl (by omega) | exact Y_mulw rfl rfl)) rfl rfl ?_
    refine s_y ((Y_shr rfl rfl (by omega)).num (show _ = x.fdiv (2 ^ (8 * q)) by congr 2; show min (8 * (((q + 1 : Nat) : Int) - 1)).toNat 64 = _; omega)) rfl rfl ?_
    refine s_y (Y_cb rfl Try.underlying54 Try.underlying5) rfl rfl ?_
    refine s_n (N_bs (xs := [.tmp 19]) (by repeat (first | exact Gv.nil | apply Gv.const | apply Gv.tmp gt_)) rfl Try.underlying25 inf5 rfl (by omega) (by omega) (by intro v hv; simp at hv; subst hv; rfl)) rfl rfl (fun b20 _ => ?_)
    refine s_n (N_appR (bytes := 1) hB2 (List.perm_append_comm (l₁ := B2) (l₂ := [_])) rfl rfl Try.underlying25 inf5 rfl (by omega) (src (news := [bv (byteM (x.fdiv (2 ^ (8 * q))))]) mm_) (by rfl) (by simp [Value.oneCell']) (by omega) (by omega) (by omega)) rfl rfl (fun ⟨g21, cp21⟩ hc21 => ?_)
    refine s_y (Y_as) rfl rfl ?_
    refine s_nil ?_
    refine q_bn ?_
    refine q_then ?_
    -- ref.go:101 R3
    refine c_reg ?_
    refine s_y (Y_mv) rfl rfl ?_
    refine s_y ((by first | exact Y_sub rfl rfl (by omega) | exact Y_subw rfl rfl)) rfl rfl ?_
    refine s_y (Y_as) rfl rfl ?_
    refine s_nil ?_
    refine hK q (q, zs ++ [byteM (x.fdiv (2 ^ (8 * q)))], .slice (some ⟨g21, 0, none⟩) (zs.length + 1) cp21, [⟨g21, 5, 1, cp21, (zs ++ [byteM (x.fdiv (2 ^ (8 * q)))]).map bv⟩]) _ _ (by omega) ⟨rfl, by rw [beM] at hz; simp only; rw [← hz]; simp, by omega, by simp only [List.length_append, List.length_singleton]; omega, by simp only; rw [List.length_append, List.length_singleton]; exact .some hc21 (by simp)⟩ ⟨by show iv _ = iv _; congr 1; omega, rfl, trivial⟩ rfl (fun w h => ?_)
    show Has W _ [⟨g21, 5, 1, cp21, (zs ++ [byteM (x.fdiv (2 ^ (8 * q)))]).map bv⟩] w
    rw [List.map_append]
    exact h.pick (by repeat (first | exact Sels.nil | apply Sels.cons (by repeat (first | exact Sel.head | apply Sel.tail))))
  · skip
    try simp only [nrm_] at hc2
    refine c_exit ?_
    repeat with_reducible refine q_te ?_
    refine q_exit ?_
    refine q_then ?_
    refine c_seq ?_
    -- ref.go:104 R5
    obtain rfl : m' = 0 := by omega
    rw [beM, List.append_nil] at hz
    subst hz
    refine c_reg ?_
    refine s_y (Y_mv) rfl rfl ?_
    refine s_y (Y_as) rfl rfl ?_
    refine s_nil ?_
    refine q_then ?_
    refine c_ret ?_
    refine q_retG1 rfl gt_ (L' := _) sl_ (hB2)
/-- What Encode gives. -/
def EncP (d : Wd) (v : Value) (L : List Bk) : Prop := (checkM d ≠ 0 ∧ v = .tuple #[.slice none 0 0, iv (checkM d)] ∧ L = []) ∨ (checkM d = 0 ∧ ∃ g cap, v = .tuple #[.slice (some ⟨g, 0, none⟩) (encW d).length cap, iv 0] ∧ L = [cB g cap (encW d)] ∧ (encW d).length ≤ cap)
theorem bsnoc (ys zs : List UInt8) : ys.map bv ++ zs.map bv = (ys ++ zs).map bv := (List.map_append).symm
set_option maxRecDepth 100000 in
set_option maxHeartbeats 1600000 in
theorem renc_d {d : Wd} {s : Ws} (hw : WAt W d s) : Does Try.prog 7 [.agg (wv d s).toArray] W [] (EncP d) := by
  refine enter Try.func7 rfl rfl rfl (Has.start _) ?_
  refine c_seq ?_
  -- ref.go:108 R0
  refine c_reg ?_
  refine s_n (N_box (cs := wv d s) rfl) rfl rfl (fun b1 _ => ?_)
  refine s_y (Y_asC) rfl rfl ?_
  refine s_y (Y_asC) rfl rfl ?_
  refine s_nil ?_
  refine q_then ?_
  refine c_seq ?_
  -- ref.go:109 R1
  refine c_reg ?_
  refine s_y ((by first | exact Y_loadAll rfl many29 mm_ (by rfl) | exact Y_loadN rfl many29 mm_ ‹_› ‹_› | exact Y_loadNR rfl many29 hr rfl | exact Y_loadNR rfl many29 hr2 rfl | exact Y_loadNR rfl many29 ‹_› rfl)) rfl rfl ?_
  refine s_c (En_call (fun _ => rfl) Try.func9 rfl (by kernel_rfl) rfl) (fun w hH => rcheck_d (hw.has hH)) rfl rfl ?_
  rintro _ _ ⟨rfl, rfl⟩
  refine s_y (Y_as) rfl rfl ?_
  refine s_nil ?_
  refine q_then ?_
  refine c_seq ?_
  refine c_seq ?_
  -- ref.go:110 R2
  refine c_reg ?_
  refine s_y (Y_mv) rfl rfl ?_
  refine s_y (Y_neq rfl rfl) rfl rfl ?_
  refine s_nil ?_
  refine q_then ?_
  first | refine c_cond' rfl (fun hc2 => ?_) (fun hc2 => ?_) | refine c_cond rfl (fun hc2 => ?_) (fun hc2 => ?_)
  · skip
    try simp only [nrm_] at hc2
    refine c_seq ?_
    -- ref.go:111 R3
    refine c_reg ?_
    refine s_y (Y_mv) rfl rfl ?_
    refine s_y (Y_asC) rfl rfl ?_
    refine s_y (Y_as) rfl rfl ?_
    refine s_nil ?_
    refine q_then ?_
    refine c_ret ?_
    refine q_retG2 rfl gt_ gt_ (L' := _) sl_ (.inl ⟨hc2, rfl, rfl⟩)
  · skip
    try simp only [nrm_] at hc2
    refine c_skip ?_
    refine q_then ?_
    refine c_seq ?_
    -- ref.go:113 R4
    obtain ⟨hl1, hl2, hl3⟩ := check_sizes hc2
    refine c_rordS (L0 := [wB b1 (wv d s)]) sl_ [] [(0, true), (1, true), (2, true), (4, true), (5, true), (6, true), (3, false), (7, false), (8, true)] (by kernel_rfl) (by kernel_rfl) (by kernel_rfl) (by kernel_rfl) rfl (by intro c a d v w h; cases d <;> exact h) rfl ?_
    simp only [mkOrd, List.filterMap_cons, List.filterMap_nil, List.getElem?_toArray, List.getElem?_cons_zero, List.getElem?_cons_succ, Option.map_some]
    refine o_y (Y_fa 0 rfl Try.underlying29 rfl sz2 rfl) rfl rfl ?_
    refine o_y ((by first | exact Y_load rfl one2 mm_ (by rfl) | exact Y_loadR rfl one2 hr rfl rfl | exact Y_loadR rfl one2 hr2 rfl rfl | exact Y_load rfl one2 mm_ (eget he rfl) | exact Y_load rfl one2 mm_ (iget hx rfl) | exact Y_load rfl one2 mm_ (by assumption) | exact Y_loadR rfl one2 (by assumption) rfl (by assumption))) rfl rfl ?_
    refine o_y (Y_convw rfl Try.underlying2 Try.underlying54) rfl rfl ?_
    refine o_y (Y_fa 1 rfl Try.underlying29 rfl sz3 rfl) rfl rfl ?_
    refine o_y ((by first | exact Y_load rfl one3 mm_ (by rfl) | exact Y_loadR rfl one3 hr rfl rfl | exact Y_loadR rfl one3 hr2 rfl rfl | exact Y_load rfl one3 mm_ (eget he rfl) | exact Y_load rfl one3 mm_ (iget hx rfl) | exact Y_load rfl one3 mm_ (by assumption) | exact Y_loadR rfl one3 (by assumption) rfl (by assumption))) rfl rfl ?_
    refine o_y (Y_convw rfl Try.underlying3 Try.underlying54) rfl rfl ?_
    refine o_c (En_call (fun _ => rfl) Try.func22 rfl (by kernel_rfl) rfl) (fun w hH => rnum_d (k := 8) (ys := []) .nil (by simp) (by simp) (by omega)) (fun _ _ h => by obtain hB1 := h; exact (by first | exact keep_no rfl | (refine keep_sub ?_; (repeat (first | exact List.Sublist.refl _ | exact List.nil_sublist _ | apply List.Sublist.cons_cons | apply List.Sublist.cons)); done) | (refine keep_sub (List.Sublist.trans ?_ (List.sublist_append_right _ _)); (repeat (first | exact List.Sublist.refl _ | exact List.nil_sublist _ | apply List.Sublist.cons_cons | apply List.Sublist.cons)); done))) rfl rfl ?_
    rintro _ _ hB1
    obtain ⟨g1, cp1, rfl, rfl, hcp1⟩ := hB1.some_of (by rw [List.length_append, beM_len]; omega)
    refine o_cm [cB g1 cp1 ([] ++ beM (IntKind.u64.wrap d.seed) 8)] (En_call (fun _ => rfl) Try.func22 rfl (by kernel_rfl) rfl) (by repeat (first | exact Sels.nil | apply Sels.cons (by repeat (first | exact Sel.head | apply Sel.tail)))) (fun w hH => rnum_d (k := 4) hB1 (by rw [List.length_append, beM_len]; simp) (by intro x hx; obtain rfl := List.mem_singleton.1 hx; exact hH.at' mm_) (by omega)) (fun _ _ h => by obtain hB2 := h; exact (by first | exact keep_no rfl | (refine keep_sub ?_; (repeat (first | exact List.Sublist.refl _ | exact List.nil_sublist _ | apply List.Sublist.cons_cons | apply List.Sublist.cons)); done) | (refine keep_sub (List.Sublist.trans ?_ (List.sublist_append_right _ _)); (repeat (first | exact List.Sublist.refl _ | exact List.nil_sublist _ | apply List.Sublist.cons_cons | apply List.Sublist.cons)); done))) rfl rfl ?_
    rintro _ _ hB2
    obtain ⟨g2, cp2, rfl, rfl, hcp2⟩ := hB2.some_of (by rw [List.length_append, beM_len]; omega)
    refine o_y (Y_as) rfl rfl ?_
    refine o_nil ?_
    refine q_then ?_
    refine c_seq ?_
    -- ref.go:114 R5
    have hz1 : ([] ++ beM (IntKind.u64.wrap d.seed) 8 ++ beM (IntKind.u64.wrap d.frame) 4) ++ [byteM d.floor, byteM d.state] = encA d 0 := by simp [encA, headBytes, goldBytes]
    obtain ⟨z1, hz2⟩ : ∃ q_, [] ++ beM (IntKind.u64.wrap d.seed) 8 ++ beM (IntKind.u64.wrap d.frame) 4 = q_ := ⟨_, rfl⟩
    rw [hz2] at hcp2 hz1 ⊢
    have hzl : z1.length = 12 := by rw [← hz2]; simp [beM_len]
    refine c_reg ?_
    refine s_y (Y_mv) rfl rfl ?_
    refine s_y (Y_fa 2 rfl Try.underlying29 rfl sz3 rfl) rfl rfl ?_
    refine s_y ((by first | exact Y_load rfl one3 mm_ (by rfl) | exact Y_loadR rfl one3 hr rfl rfl | exact Y_loadR rfl one3 hr2 rfl rfl | exact Y_load rfl one3 mm_ (eget he rfl) | exact Y_load rfl one3 mm_ (iget hx rfl) | exact Y_load rfl one3 mm_ (by assumption) | exact Y_loadR rfl one3 (by assumption) rfl (by assumption))) rfl rfl ?_
    refine s_y (Y_cb rfl Try.underlying3 Try.underlying5) rfl rfl ?_
    refine s_y (Y_fa 3 rfl Try.underlying29 rfl sz3 rfl) rfl rfl ?_
    refine s_y ((by first | exact Y_load rfl one3 mm_ (by rfl) | exact Y_loadR rfl one3 hr rfl rfl | exact Y_loadR rfl one3 hr2 rfl rfl | exact Y_load rfl one3 mm_ (eget he rfl) | exact Y_load rfl one3 mm_ (iget hx rfl) | exact Y_load rfl one3 mm_ (by assumption) | exact Y_loadR rfl one3 (by assumption) rfl (by assumption))) rfl rfl ?_
    refine s_y (Y_cb rfl Try.underlying3 Try.underlying5) rfl rfl ?_
    refine s_n (N_bs (xs := [.tmp 26, .tmp 29]) (by repeat (first | exact Gv.nil | apply Gv.const | apply Gv.tmp gt_)) rfl Try.underlying25 inf5 rfl (by omega) (by omega) (by first | simp [Value.oneCell'] | (intro v hv; simp at hv; subst hv; rfl))) rfl rfl (fun b30 _ => ?_)
    refine s_n (N_app (cs := z1.map bv) (news := [bv (byteM d.floor), bv (byteM d.state)]) rfl rfl Try.underlying25 inf5 rfl (by omega) (by repeat (first | exact Sel.head | apply Sel.tail)) (by rw [List.length_map]; omega) (by omega) (src mm_) (by rfl) (by intro u hu; simp only [List.mem_cons, List.not_mem_nil, or_false] at hu; rcases hu with rfl | rfl <;> rfl) (by omega) (by omega)) rfl rfl (fun ⟨g31, cp31⟩ hc31 => ?_)
    refine s_y (Y_as) rfl rfl ?_
    refine s_nil ?_
    have e1 : z1.length + 2 = (encA d 0).length := by rw [← hz1]; simp
    have e2 : (⟨g31, 5, 1, cp31, z1.map bv ++ [bv (byteM d.floor), bv (byteM d.state)]⟩ : Bk) = cB g31 cp31 (encA d 0) := by rw [cB, ← hz1, List.map_append]; rfl
    refine QL.pick (L' := [⟨g31, 5, 1, cp31, z1.map bv ++ [bv (byteM d.floor), bv (byteM d.state)]⟩, wB b1 (wv d s)]) (by repeat (first | exact Sels.nil | apply Sels.cons (by repeat (first | exact Sel.head | apply Sel.tail)))) ?_
    rw [e2, e1]
    have hc0 : (encA d 0).length ≤ cp31 := by rw [← e1]; exact hc31
    refine q_then ?_
    refine c_seq ?_
    refine c_seq ?_
    -- ref.go:115 R6
    refine c_reg ?_
    refine s_y (Y_asC) rfl rfl ?_
    refine s_nil ?_
    refine q_then ?_
    refine c_block ?_
    refine c_loop [5, 6, 32, 33, 34, 35, 36, 37, 38, 39, 40, 41, 42] (fun m (y : Nat × Nat × Nat) => y.1 + m = 4 ∧ (encA d y.1).length ≤ y.2.2) (fun y => [(6, iv y.1), (5, .slice (some ⟨y.2.1, 0, none⟩) (encA d y.1).length y.2.2)]) (fun y => [cB y.2.1 y.2.2 (encA d y.1), wB b1 (wv d s)]) (4) ((0, g31, cp31)) (⟨rfl, hc0⟩) (by repeat (first | exact trivial | refine ⟨rfl, ?_⟩)) (fun _ h => h.sub sl_) (fun _ => rfl) ?_
    rintro m ⟨k, g, cp⟩ j ⟨hk, hcp⟩ K hK
    simp only at hk hcp ⊢
    have hel := encA_len d k
    refine c_seq ?_
    refine c_seq ?_
    -- ref.go:115 R7
    refine c_reg ?_
    refine s_y (Y_mv) rfl rfl ?_
    refine s_y (Y_lss rfl rfl) rfl rfl ?_
    refine s_nil ?_
    refine q_then ?_
    first | refine c_cond' rfl (fun hc7 => ?_) (fun hc7 => ?_) | refine c_cond rfl (fun hc7 => ?_) (fun hc7 => ?_)
    · skip
      try simp only [nrm_] at hc7
      refine c_skip ?_
      refine q_then ?_
      refine c_seq ?_
      refine c_block ?_
      -- ref.go:116 R9
      refine c_reg ?_
      refine s_y (Y_mv) rfl rfl ?_
      refine s_y (Y_mv) rfl rfl ?_
      refine s_y (Y_fa 7 rfl Try.underlying29 rfl sz27 rfl) rfl rfl ?_
      refine s_y (Y_iaA rfl rfl Try.underlying27 sz3 rfl (by omega)) rfl rfl ?_
      refine s_y (Y_load (v := iv (d.gold.get k)) rfl one3 mm_ (gold_get (by omega))) rfl rfl ?_
      refine s_y (Y_convw rfl Try.underlying3 Try.underlying54) rfl rfl ?_
      refine s_cm [cB g cp (encA d k)] (En_call (fun _ => rfl) Try.func22 rfl (by kernel_rfl) rfl) (by repeat (first | exact Sels.nil | apply Sels.cons (by repeat (first | exact Sel.head | apply Sel.tail)))) (fun w hH => rnum_d (k := 2) (ys := encA d k) (.some hcp (by rw [List.length_map, Nat.mul_one])) (by omega) (by intro x hx; obtain rfl := List.mem_singleton.1 hx; exact hH.at' mm_) (by omega)) rfl rfl ?_
      rintro _ _ hB3
      rw [← encA_succ] at hB3
      obtain ⟨g3, cp3, rfl, rfl, hcp3⟩ := hB3.some_of (by rw [encA_len]; omega)
      refine s_y (Y_as) rfl rfl ?_
      refine s_nil ?_
      refine q_bn ?_
      refine q_then ?_
      -- ref.go:115 R8
      refine c_reg ?_
      refine s_y (Y_mv) rfl rfl ?_
      refine s_y ((by first | exact Y_add rfl rfl (by omega) | exact Y_addw rfl rfl)) rfl rfl ?_
      refine s_y (Y_as) rfl rfl ?_
      refine s_nil ?_
      refine hK (m - 1) (k + 1, g3, cp3) _ _ (by omega) ⟨by simp only; omega, hcp3⟩ ⟨rfl, rfl, trivial⟩ rfl (fun _ h => h.pick (by repeat (first | exact Sels.nil | apply Sels.cons (by repeat (first | exact Sel.head | apply Sel.tail)))))
    · skip
      try simp only [nrm_] at hc7
      refine c_exit ?_
      repeat with_reducible refine q_te ?_
      refine q_exit ?_
      refine q_then ?_
      refine c_seq ?_
      -- ref.go:118 R10
      obtain rfl : k = 4 := by omega
      have hcl := hw.c.len
      refine c_reg ?_
      refine s_y (Y_mv) rfl rfl ?_
      refine s_y (Y_fa 4 rfl Try.underlying29 rfl sz25 rfl) rfl rfl ?_
      refine s_y ((by first | exact Y_load rfl one25 mm_ (by rfl) | exact Y_loadR rfl one25 hr rfl rfl | exact Y_loadR rfl one25 hr2 rfl rfl | exact Y_load rfl one25 mm_ (eget he rfl) | exact Y_load rfl one25 mm_ (iget hx rfl) | exact Y_load rfl one25 mm_ (by assumption) | exact Y_loadR rfl one25 (by assumption) rfl (by assumption))) rfl rfl ?_
      refine s_n (N_app (cs := (encA d 4).map bv) (news := d.cells.map bv) rfl rfl Try.underlying25 inf5 rfl (by omega) (by repeat (first | exact Sel.head | apply Sel.tail)) (by rw [List.length_map]; omega) (by omega) (srcR hw.c.ro) hcl (bvs_one _) (by omega) (by omega)) rfl rfl (fun ⟨g46, cp46⟩ hc46 => ?_)
      refine s_y (Y_as) rfl rfl ?_
      refine s_nil ?_
      have e1 : (encA d 4).length + d.cells.length = (encB d 0).length := by rw [encB_zero, List.length_append]
      rw [bsnoc, ← encB_zero, e1]
      rw [e1] at hc46
      refine q_then ?_
      refine c_seq ?_
      refine c_seq ?_
      -- ref.go:119 R11
      refine c_reg ?_
      refine s_y (Y_asC) rfl rfl ?_
      refine s_nil ?_
      refine q_then ?_
      refine c_block ?_
      refine c_loop [5, 7, 8, 47, 48, 49, 50, 51, 52, 53, 54, 55, 56, 57, 58, 59, 60, 61, 62, 63, 64, 65, 66, 67, 68, 69, 70, 71, 72, 73, 74, 75, 76, 77, 78, 79, 80, 81, 82, 83, 84, 85, 86, 87, 88, 89, 90, 91, 92, 93, 94] (fun m (y : Nat × Nat × Nat) => y.1 + m = d.ents.length ∧ (encB d y.1).length ≤ y.2.2) (fun y => [(7, iv y.1), (5, .slice (some ⟨y.2.1, 0, none⟩) (encB d y.1).length y.2.2)]) (fun y => [cB y.2.1 y.2.2 (encB d y.1), wB b1 (wv d s)]) (d.ents.length) ((0, g46, cp46)) (⟨by simp only; omega, hc46⟩) (by repeat (first | exact trivial | refine ⟨rfl, ?_⟩)) (fun _ h => h.sub sl_) (fun _ => rfl) ?_
      rintro m ⟨i, g, cp⟩ j ⟨hi, hcp⟩ K hK
      simp only at hi hcp ⊢
      have hel := encB_len d i (by omega)
      refine c_seq ?_
      refine c_seq ?_
      -- ref.go:119 R12
      refine c_reg ?_
      refine s_y (Y_mv) rfl rfl ?_
      refine s_y (Y_fa 5 rfl Try.underlying29 rfl sz26 rfl) rfl rfl ?_
      refine s_y ((by first | exact Y_load rfl one26 mm_ (by rfl) | exact Y_loadR rfl one26 hr rfl rfl | exact Y_loadR rfl one26 hr2 rfl rfl | exact Y_load rfl one26 mm_ (eget he rfl) | exact Y_load rfl one26 mm_ (iget hx rfl) | exact Y_load rfl one26 mm_ (by assumption) | exact Y_loadR rfl one26 (by assumption) rfl (by assumption))) rfl rfl ?_
      refine s_y (Y_len rfl rfl Try.underlying26) rfl rfl ?_
      refine s_y (Y_lss rfl rfl) rfl rfl ?_
      refine s_nil ?_
      refine q_then ?_
      first | refine c_cond' rfl (fun hc12 => ?_) (fun hc12 => ?_) | refine c_cond rfl (fun hc12 => ?_) (fun hc12 => ?_)
      · skip
        try simp only [nrm_] at hc12
        refine c_skip ?_
        refine q_then ?_
        refine c_seq ?_
        refine c_block ?_
        refine c_seq ?_
        -- ref.go:120 R14
        obtain ⟨e, he⟩ := take_lt (show i < d.ents.length by omega)
        have hr := hw.e.at' Ent.len he
        have hcap := hw.e.cap
        refine c_reg ?_
        refine s_y (Y_fa 5 rfl Try.underlying29 rfl sz26 rfl) rfl rfl ?_
        refine s_y ((by first | exact Y_load rfl one26 mm_ (by rfl) | exact Y_loadR rfl one26 hr rfl rfl | exact Y_loadR rfl one26 hr2 rfl rfl | exact Y_load rfl one26 mm_ (eget he rfl) | exact Y_load rfl one26 mm_ (iget hx rfl) | exact Y_load rfl one26 mm_ (by assumption) | exact Y_loadR rfl one26 (by assumption) rfl (by assumption))) rfl rfl ?_
        refine s_y (Y_mv) rfl rfl ?_
        refine s_y (Y_ia rfl rfl Try.underlying26 sz48 rfl (by omega)) rfl rfl ?_
        refine s_y ((by first | exact Y_loadAll rfl many48 mm_ (by rfl) | exact Y_loadN rfl many48 mm_ ‹_› ‹_› | exact Y_loadNR rfl many48 hr rfl | exact Y_loadNR rfl many48 hr2 rfl | exact Y_loadNR rfl many48 ‹_› rfl)) rfl rfl ?_
        refine s_n (N_alloc (z := .agg #[.int .i64 0, .int .i64 0, .int .i64 0, .int .i64 0, .int .i64 0, .int .i64 0, .int .i64 0, .int .i64 0, .int .i64 0, .int .i64 0, .int .i64 0]) (cs := [.int .i64 0, .int .i64 0, .int .i64 0, .int .i64 0, .int .i64 0, .int .i64 0, .int .i64 0, .int .i64 0, .int .i64 0, .int .i64 0, .int .i64 0]) zv48 rfl) rfl rfl (fun b8 _ => ?_)
        refine s_s (S_storeA (vs := e.cells) rfl rfl sz48 (by rfl) (by rfl) (by repeat (first | exact Upd.head | apply Upd.tail)) (by rfl)) rfl ?_
        refine s_nil ?_
        refine q_then ?_
        -- ref.go:121 R15
        refine c_reg ?_
        refine s_y (Y_mv) rfl rfl ?_
        refine s_y (Y_fa 0 rfl Try.underlying48 rfl sz3 rfl) rfl rfl ?_
        refine s_y ((by first | exact Y_load rfl one3 mm_ (by rfl) | exact Y_loadR rfl one3 hr rfl rfl | exact Y_loadR rfl one3 hr2 rfl rfl | exact Y_load rfl one3 mm_ (eget he rfl) | exact Y_load rfl one3 mm_ (iget hx rfl) | exact Y_load rfl one3 mm_ (by assumption) | exact Y_loadR rfl one3 (by assumption) rfl (by assumption))) rfl rfl ?_
        refine s_y (Y_cb rfl Try.underlying3 Try.underlying5) rfl rfl ?_
        refine s_y (Y_fa 1 rfl Try.underlying48 rfl sz3 rfl) rfl rfl ?_
        refine s_y ((by first | exact Y_load rfl one3 mm_ (by rfl) | exact Y_loadR rfl one3 hr rfl rfl | exact Y_loadR rfl one3 hr2 rfl rfl | exact Y_load rfl one3 mm_ (eget he rfl) | exact Y_load rfl one3 mm_ (iget hx rfl) | exact Y_load rfl one3 mm_ (by assumption) | exact Y_loadR rfl one3 (by assumption) rfl (by assumption))) rfl rfl ?_
        refine s_y (Y_cb rfl Try.underlying3 Try.underlying5) rfl rfl ?_
        refine s_y (Y_fa 2 rfl Try.underlying48 rfl sz3 rfl) rfl rfl ?_
        refine s_y ((by first | exact Y_load rfl one3 mm_ (by rfl) | exact Y_loadR rfl one3 hr rfl rfl | exact Y_loadR rfl one3 hr2 rfl rfl | exact Y_load rfl one3 mm_ (eget he rfl) | exact Y_load rfl one3 mm_ (iget hx rfl) | exact Y_load rfl one3 mm_ (by assumption) | exact Y_loadR rfl one3 (by assumption) rfl (by assumption))) rfl rfl ?_
        refine s_y (Y_cb rfl Try.underlying3 Try.underlying5) rfl rfl ?_
        refine s_y (Y_fa 3 rfl Try.underlying48 rfl sz3 rfl) rfl rfl ?_
        refine s_y ((by first | exact Y_load rfl one3 mm_ (by rfl) | exact Y_loadR rfl one3 hr rfl rfl | exact Y_loadR rfl one3 hr2 rfl rfl | exact Y_load rfl one3 mm_ (eget he rfl) | exact Y_load rfl one3 mm_ (iget hx rfl) | exact Y_load rfl one3 mm_ (by assumption) | exact Y_loadR rfl one3 (by assumption) rfl (by assumption))) rfl rfl ?_
        refine s_y (Y_cb rfl Try.underlying3 Try.underlying5) rfl rfl ?_
        refine s_y (Y_fa 4 rfl Try.underlying48 rfl sz3 rfl) rfl rfl ?_
        refine s_y ((by first | exact Y_load rfl one3 mm_ (by rfl) | exact Y_loadR rfl one3 hr rfl rfl | exact Y_loadR rfl one3 hr2 rfl rfl | exact Y_load rfl one3 mm_ (eget he rfl) | exact Y_load rfl one3 mm_ (iget hx rfl) | exact Y_load rfl one3 mm_ (by assumption) | exact Y_loadR rfl one3 (by assumption) rfl (by assumption))) rfl rfl ?_
        refine s_y (Y_cb rfl Try.underlying3 Try.underlying5) rfl rfl ?_
        refine s_y (Y_fa 5 rfl Try.underlying48 rfl sz3 rfl) rfl rfl ?_
        refine s_y ((by first | exact Y_load rfl one3 mm_ (by rfl) | exact Y_loadR rfl one3 hr rfl rfl | exact Y_loadR rfl one3 hr2 rfl rfl | exact Y_load rfl one3 mm_ (eget he rfl) | exact Y_load rfl one3 mm_ (iget hx rfl) | exact Y_load rfl one3 mm_ (by assumption) | exact Y_loadR rfl one3 (by assumption) rfl (by assumption))) rfl rfl ?_
        refine s_y (Y_cb rfl Try.underlying3 Try.underlying5) rfl rfl ?_
        refine s_y (Y_fa 6 rfl Try.underlying48 rfl sz3 rfl) rfl rfl ?_
        refine s_y ((by first | exact Y_load rfl one3 mm_ (by rfl) | exact Y_loadR rfl one3 hr rfl rfl | exact Y_loadR rfl one3 hr2 rfl rfl | exact Y_load rfl one3 mm_ (eget he rfl) | exact Y_load rfl one3 mm_ (iget hx rfl) | exact Y_load rfl one3 mm_ (by assumption) | exact Y_loadR rfl one3 (by assumption) rfl (by assumption))) rfl rfl ?_
        refine s_y (Y_cb rfl Try.underlying3 Try.underlying5) rfl rfl ?_
        refine s_y (Y_fa 7 rfl Try.underlying48 rfl sz3 rfl) rfl rfl ?_
        refine s_y ((by first | exact Y_load rfl one3 mm_ (by rfl) | exact Y_loadR rfl one3 hr rfl rfl | exact Y_loadR rfl one3 hr2 rfl rfl | exact Y_load rfl one3 mm_ (eget he rfl) | exact Y_load rfl one3 mm_ (iget hx rfl) | exact Y_load rfl one3 mm_ (by assumption) | exact Y_loadR rfl one3 (by assumption) rfl (by assumption))) rfl rfl ?_
        refine s_y (Y_cb rfl Try.underlying3 Try.underlying5) rfl rfl ?_
        refine s_y (Y_fa 8 rfl Try.underlying48 rfl sz3 rfl) rfl rfl ?_
        refine s_y ((by first | exact Y_load rfl one3 mm_ (by rfl) | exact Y_loadR rfl one3 hr rfl rfl | exact Y_loadR rfl one3 hr2 rfl rfl | exact Y_load rfl one3 mm_ (eget he rfl) | exact Y_load rfl one3 mm_ (iget hx rfl) | exact Y_load rfl one3 mm_ (by assumption) | exact Y_loadR rfl one3 (by assumption) rfl (by assumption))) rfl rfl ?_
        refine s_y (Y_cb rfl Try.underlying3 Try.underlying5) rfl rfl ?_
        refine s_y (Y_fa 9 rfl Try.underlying48 rfl sz3 rfl) rfl rfl ?_
        refine s_y ((by first | exact Y_load rfl one3 mm_ (by rfl) | exact Y_loadR rfl one3 hr rfl rfl | exact Y_loadR rfl one3 hr2 rfl rfl | exact Y_load rfl one3 mm_ (eget he rfl) | exact Y_load rfl one3 mm_ (iget hx rfl) | exact Y_load rfl one3 mm_ (by assumption) | exact Y_loadR rfl one3 (by assumption) rfl (by assumption))) rfl rfl ?_
        refine s_y (Y_cb rfl Try.underlying3 Try.underlying5) rfl rfl ?_
        refine s_y (Y_fa 10 rfl Try.underlying48 rfl sz3 rfl) rfl rfl ?_
        refine s_y ((by first | exact Y_load rfl one3 mm_ (by rfl) | exact Y_loadR rfl one3 hr rfl rfl | exact Y_loadR rfl one3 hr2 rfl rfl | exact Y_load rfl one3 mm_ (eget he rfl) | exact Y_load rfl one3 mm_ (iget hx rfl) | exact Y_load rfl one3 mm_ (by assumption) | exact Y_loadR rfl one3 (by assumption) rfl (by assumption))) rfl rfl ?_
        refine s_y (Y_cb rfl Try.underlying3 Try.underlying5) rfl rfl ?_
        refine s_n (N_bs (xs := [.tmp 62, .tmp 65, .tmp 68, .tmp 71, .tmp 74, .tmp 77, .tmp 80, .tmp 83, .tmp 86, .tmp 89, .tmp 92]) (by repeat (first | exact Gv.nil | apply Gv.const | apply Gv.tmp gt_)) rfl Try.underlying25 inf5 rfl (by omega) (by omega) (by first | simp [Value.oneCell'] | (intro v hv; simp at hv; subst hv; rfl))) rfl rfl (fun b93 _ => ?_)
        refine s_n (N_app (cs := (encB d i).map bv) (news := (eBytes e).map bv) rfl rfl Try.underlying25 inf5 rfl (by omega) (by repeat (first | exact Sel.head | apply Sel.tail)) (by rw [List.length_map]; omega) (by omega) (src mm_) (by rfl) (bvs_one _) (by omega) (by omega)) rfl rfl (fun ⟨g94, cp94⟩ hc94 => ?_)
        refine s_y (Y_as) rfl rfl ?_
        refine s_nil ?_
        refine q_bn ?_
        refine q_then ?_
        -- ref.go:119 R13
        refine c_reg ?_
        refine s_y (Y_mv) rfl rfl ?_
        refine s_y ((by first | exact Y_add rfl rfl (by omega) | exact Y_addw rfl rfl)) rfl rfl ?_
        refine s_y (Y_as) rfl rfl ?_
        refine s_nil ?_
        have e1 : (encB d i).length + 11 = (encB d (i + 1)).length := by rw [encB_succ he, List.length_append]; rfl
        rw [e1] at hc94 ⊢
        rw [bsnoc, ← encB_succ he]
        refine hK (m - 1) (i + 1, g94, cp94) _ _ (by omega) ⟨by simp only; omega, hc94⟩ ⟨rfl, rfl, trivial⟩ rfl (fun _ h => h.pick (by repeat (first | exact Sels.nil | apply Sels.cons (by repeat (first | exact Sel.head | apply Sel.tail)))))
      · skip
        try simp only [nrm_] at hc12
        refine c_exit ?_
        repeat with_reducible refine q_te ?_
        refine q_exit ?_
        refine q_then ?_
        refine c_seq ?_
        refine c_seq ?_
        -- ref.go:123 R16
        obtain rfl : i = d.ents.length := by omega
        rw [← encC_zero] at hcp ⊢
        refine c_reg ?_
        refine s_y (Y_asC) rfl rfl ?_
        refine s_nil ?_
        refine q_then ?_
        refine c_block ?_
        refine c_loop [5, 9, 95, 96, 97, 98, 99, 100, 101, 102, 103, 104, 105, 106, 107, 108, 109, 110, 111, 112, 113, 114, 115, 116, 117, 118, 119, 120, 121, 122, 123, 124, 125, 126, 127, 128, 129, 130, 131, 132] (fun m (y : Nat × Nat × Nat) => y.1 + m = d.items.length ∧ (encC d y.1).length ≤ y.2.2) (fun y => [(9, iv y.1), (5, .slice (some ⟨y.2.1, 0, none⟩) (encC d y.1).length y.2.2)]) (fun y => [cB y.2.1 y.2.2 (encC d y.1), wB b1 (wv d s)]) (d.items.length) ((0, g, cp)) (⟨by simp only; omega, hcp⟩) (by repeat (first | exact trivial | refine ⟨rfl, ?_⟩)) (fun _ h => h.sub sl_) (fun _ => rfl) ?_
        rintro m2 ⟨i2, g2, cp2⟩ j2 ⟨hi2, hcp2⟩ K hK
        simp only at hi2 hcp2 ⊢
        have hel2 := encC_len d i2 (by omega)
        refine c_seq ?_
        refine c_seq ?_
        -- ref.go:123 R17
        refine c_reg ?_
        refine s_y (Y_mv) rfl rfl ?_
        refine s_y (Y_fa 6 rfl Try.underlying29 rfl sz23 rfl) rfl rfl ?_
        refine s_y ((by first | exact Y_load rfl one23 mm_ (by rfl) | exact Y_loadR rfl one23 hr rfl rfl | exact Y_loadR rfl one23 hr2 rfl rfl | exact Y_load rfl one23 mm_ (eget he rfl) | exact Y_load rfl one23 mm_ (iget hx rfl) | exact Y_load rfl one23 mm_ (by assumption) | exact Y_loadR rfl one23 (by assumption) rfl (by assumption))) rfl rfl ?_
        refine s_y (Y_len rfl rfl Try.underlying23) rfl rfl ?_
        refine s_y (Y_lss rfl rfl) rfl rfl ?_
        refine s_nil ?_
        refine q_then ?_
        first | refine c_cond' rfl (fun hc17 => ?_) (fun hc17 => ?_) | refine c_cond rfl (fun hc17 => ?_) (fun hc17 => ?_)
        · skip
          try simp only [nrm_] at hc17
          refine c_skip ?_
          refine q_then ?_
          refine c_seq ?_
          refine c_block ?_
          -- ref.go:124 R19
          obtain ⟨x, hx⟩ := take_lt (show i2 < d.items.length by omega)
          have hr := hw.i.at' Itm.len hx
          have hcap := hw.i.cap
          refine c_rordS (L0 := [wB b1 (wv d s)]) sl_ [] [(0, true), (1, true), (2, true), (3, true), (4, true), (5, true), (6, true), (7, true), (8, true), (9, true), (10, true), (11, true), (12, true), (13, true), (14, true), (15, true), (16, true), (17, true), (18, true), (19, true), (20, true), (21, true), (22, true), (23, true), (24, true), (25, true), (26, true), (27, true), (28, true), (29, false), (30, false), (31, true)] (by kernel_rfl) (by kernel_rfl) (by kernel_rfl) (by kernel_rfl) rfl (by intro c a d v w h; cases d <;> exact h) rfl ?_
          simp only [mkOrd, List.filterMap_cons, List.filterMap_nil, List.getElem?_toArray, List.getElem?_cons_zero, List.getElem?_cons_succ, Option.map_some]
          refine o_y (Y_mv) rfl rfl ?_
          refine o_y (Y_fa 6 rfl Try.underlying29 rfl sz23 rfl) rfl rfl ?_
          refine o_y ((by first | exact Y_load rfl one23 mm_ (by rfl) | exact Y_loadR rfl one23 hr rfl rfl | exact Y_loadR rfl one23 hr2 rfl rfl | exact Y_load rfl one23 mm_ (eget he rfl) | exact Y_load rfl one23 mm_ (iget hx rfl) | exact Y_load rfl one23 mm_ (by assumption) | exact Y_loadR rfl one23 (by assumption) rfl (by assumption))) rfl rfl ?_
          refine o_y (Y_mv) rfl rfl ?_
          refine o_y (Y_ia rfl rfl Try.underlying23 sz57 rfl (by omega)) rfl rfl ?_
          refine o_y (Y_fa 0 rfl Try.underlying57 rfl sz3 rfl) rfl rfl ?_
          refine o_y ((by first | exact Y_load rfl one3 mm_ (by rfl) | exact Y_loadR rfl one3 hr rfl rfl | exact Y_loadR rfl one3 hr2 rfl rfl | exact Y_load rfl one3 mm_ (eget he rfl) | exact Y_load rfl one3 mm_ (iget hx rfl) | exact Y_load rfl one3 mm_ (by assumption) | exact Y_loadR rfl one3 (by assumption) rfl (by assumption))) rfl rfl ?_
          refine o_y (Y_cb rfl Try.underlying3 Try.underlying5) rfl rfl ?_
          refine o_y (Y_fa 6 rfl Try.underlying29 rfl sz23 rfl) rfl rfl ?_
          refine o_y ((by first | exact Y_load rfl one23 mm_ (by rfl) | exact Y_loadR rfl one23 hr rfl rfl | exact Y_loadR rfl one23 hr2 rfl rfl | exact Y_load rfl one23 mm_ (eget he rfl) | exact Y_load rfl one23 mm_ (iget hx rfl) | exact Y_load rfl one23 mm_ (by assumption) | exact Y_loadR rfl one23 (by assumption) rfl (by assumption))) rfl rfl ?_
          refine o_y (Y_mv) rfl rfl ?_
          refine o_y (Y_ia rfl rfl Try.underlying23 sz57 rfl (by omega)) rfl rfl ?_
          refine o_y (Y_fa 1 rfl Try.underlying57 rfl sz3 rfl) rfl rfl ?_
          refine o_y ((by first | exact Y_load rfl one3 mm_ (by rfl) | exact Y_loadR rfl one3 hr rfl rfl | exact Y_loadR rfl one3 hr2 rfl rfl | exact Y_load rfl one3 mm_ (eget he rfl) | exact Y_load rfl one3 mm_ (iget hx rfl) | exact Y_load rfl one3 mm_ (by assumption) | exact Y_loadR rfl one3 (by assumption) rfl (by assumption))) rfl rfl ?_
          refine o_y (Y_cb rfl Try.underlying3 Try.underlying5) rfl rfl ?_
          refine o_y (Y_fa 6 rfl Try.underlying29 rfl sz23 rfl) rfl rfl ?_
          refine o_y ((by first | exact Y_load rfl one23 mm_ (by rfl) | exact Y_loadR rfl one23 hr rfl rfl | exact Y_loadR rfl one23 hr2 rfl rfl | exact Y_load rfl one23 mm_ (eget he rfl) | exact Y_load rfl one23 mm_ (iget hx rfl) | exact Y_load rfl one23 mm_ (by assumption) | exact Y_loadR rfl one23 (by assumption) rfl (by assumption))) rfl rfl ?_
          refine o_y (Y_mv) rfl rfl ?_
          refine o_y (Y_ia rfl rfl Try.underlying23 sz57 rfl (by omega)) rfl rfl ?_
          refine o_y (Y_fa 2 rfl Try.underlying57 rfl sz3 rfl) rfl rfl ?_
          refine o_y ((by first | exact Y_load rfl one3 mm_ (by rfl) | exact Y_loadR rfl one3 hr rfl rfl | exact Y_loadR rfl one3 hr2 rfl rfl | exact Y_load rfl one3 mm_ (eget he rfl) | exact Y_load rfl one3 mm_ (iget hx rfl) | exact Y_load rfl one3 mm_ (by assumption) | exact Y_loadR rfl one3 (by assumption) rfl (by assumption))) rfl rfl ?_
          refine o_y (Y_cb rfl Try.underlying3 Try.underlying5) rfl rfl ?_
          refine o_y (Y_fa 6 rfl Try.underlying29 rfl sz23 rfl) rfl rfl ?_
          refine o_y ((by first | exact Y_load rfl one23 mm_ (by rfl) | exact Y_loadR rfl one23 hr rfl rfl | exact Y_loadR rfl one23 hr2 rfl rfl | exact Y_load rfl one23 mm_ (eget he rfl) | exact Y_load rfl one23 mm_ (iget hx rfl) | exact Y_load rfl one23 mm_ (by assumption) | exact Y_loadR rfl one23 (by assumption) rfl (by assumption))) rfl rfl ?_
          refine o_y (Y_mv) rfl rfl ?_
          refine o_y (Y_ia rfl rfl Try.underlying23 sz57 rfl (by omega)) rfl rfl ?_
          refine o_y (Y_fa 3 rfl Try.underlying57 rfl sz3 rfl) rfl rfl ?_
          refine o_y ((by first | exact Y_load rfl one3 mm_ (by rfl) | exact Y_loadR rfl one3 hr rfl rfl | exact Y_loadR rfl one3 hr2 rfl rfl | exact Y_load rfl one3 mm_ (eget he rfl) | exact Y_load rfl one3 mm_ (iget hx rfl) | exact Y_load rfl one3 mm_ (by assumption) | exact Y_loadR rfl one3 (by assumption) rfl (by assumption))) rfl rfl ?_
          refine o_y (Y_cb rfl Try.underlying3 Try.underlying5) rfl rfl ?_
          refine o_n (N_bs (xs := [.tmp 109, .tmp 116, .tmp 123, .tmp 130]) (by repeat (first | exact Gv.nil | apply Gv.const | apply Gv.tmp gt_)) rfl Try.underlying25 inf5 rfl (by omega) (by omega) (by first | simp [Value.oneCell'] | (intro v hv; simp at hv; subst hv; rfl))) (fun _ => (by first | exact keep_no rfl | (refine keep_sub ?_; (repeat (first | exact List.Sublist.refl _ | exact List.nil_sublist _ | apply List.Sublist.cons_cons | apply List.Sublist.cons)); done) | (refine keep_sub (List.Sublist.trans ?_ (List.sublist_append_right _ _)); (repeat (first | exact List.Sublist.refl _ | exact List.nil_sublist _ | apply List.Sublist.cons_cons | apply List.Sublist.cons)); done))) rfl rfl (fun b131 _ => ?_)
          refine o_n (N_app (cs := (encC d i2).map bv) (news := (iBytes x).map bv) rfl rfl Try.underlying25 inf5 rfl (by omega) (by repeat (first | exact Sel.head | apply Sel.tail)) (by rw [List.length_map]; omega) (by omega) (src mm_) (by rfl) (bvs_one _) (by omega) (by omega)) (fun _ => (by first | exact keep_no rfl | (refine keep_sub ?_; (repeat (first | exact List.Sublist.refl _ | exact List.nil_sublist _ | apply List.Sublist.cons_cons | apply List.Sublist.cons)); done) | (refine keep_sub (List.Sublist.trans ?_ (List.sublist_append_right _ _)); (repeat (first | exact List.Sublist.refl _ | exact List.nil_sublist _ | apply List.Sublist.cons_cons | apply List.Sublist.cons)); done))) rfl rfl (fun ⟨g132, cp132⟩ hc132 => ?_)
          refine o_y (Y_as) rfl rfl ?_
          refine o_nil ?_
          refine q_bn ?_
          refine q_then ?_
          -- ref.go:123 R18
          refine c_reg ?_
          refine s_y (Y_mv) rfl rfl ?_
          refine s_y ((by first | exact Y_add rfl rfl (by omega) | exact Y_addw rfl rfl)) rfl rfl ?_
          refine s_y (Y_as) rfl rfl ?_
          refine s_nil ?_
          have e1 : (encC d i2).length + 4 = (encC d (i2 + 1)).length := by rw [encC_succ hx, List.length_append]; rfl
          rw [e1] at hc132 ⊢
          rw [bsnoc, ← encC_succ hx]
          refine hK (m2 - 1) (i2 + 1, g132, cp132) _ _ (by omega) ⟨by simp only; omega, hc132⟩ ⟨rfl, rfl, trivial⟩ rfl (fun _ h => h.pick (by repeat (first | exact Sels.nil | apply Sels.cons (by repeat (first | exact Sel.head | apply Sel.tail)))))
        · skip
          try simp only [nrm_] at hc17
          refine c_exit ?_
          repeat with_reducible refine q_te ?_
          refine q_exit ?_
          refine q_then ?_
          refine c_seq ?_
          -- ref.go:126 R20
          obtain rfl : i2 = d.items.length := by omega
          rw [encC_all] at hcp2 ⊢
          refine c_reg ?_
          refine s_y (Y_mv) rfl rfl ?_
          refine s_y (Y_as) rfl rfl ?_
          refine s_y (Y_asC) rfl rfl ?_
          refine s_nil ?_
          refine q_then ?_
          refine c_ret ?_
          refine q_retG2 rfl gt_ gt_ (L' := _) sl_ (.inr ⟨hc2, g2, cp2, rfl, rfl, hcp2⟩)
end
end Go.Proofs.Ytecodneffflpoaa
