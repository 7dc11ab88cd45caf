/- Worlds are checked: the document's, walked. -/
import Derived.Test.YtecodneffflpoaaE1
namespace Go.Proofs.Ytecodneffflpoaa
open Go.RowKit Go.Ad Go.Maps
set_option linter.unusedVariables false
set_option linter.unusedSimpArgs false
section
variable {W : World}
def Itm.ok (x : Itm) : Prop := -9223372036854775808 ≤ x.b ∧ x.b ≤ 9223372036854775807
set_option maxRecDepth 100000 in
theorem rplaced_d {d : Wd} {s : Ws} (hw : WAt W d s) (x : Itm) : Does Try.prog 48 [.agg (wv d s).toArray, .agg x.cells.toArray] W [] (fun v L => v = .bool (placedM d.cells x) ∧ L = []) := by
  refine enter Try.func48 rfl rfl rfl (Has.start _) ?_
  refine c_seq ?_
  -- ref.go:144 R0
  refine c_reg ?_
  refine s_n (N_box (cs := wv d s) rfl) rfl rfl (fun b2 _ => ?_)
  refine s_n (N_box (cs := x.cells) rfl) rfl rfl (fun b3 _ => ?_)
  refine s_y (Y_asC) rfl rfl ?_
  refine s_nil ?_
  refine q_then ?_
  refine c_seq ?_
  refine c_seq ?_
  -- ref.go:145 R1
  refine c_reg ?_
  refine s_y (Y_fa 1 rfl Try.underlying57 rfl sz3 rfl) rfl rfl ?_
  refine s_y ((by first | exact Y_load rfl one3 mm_ (by rfl) | exact Y_loadR rfl one3 hr rfl rfl | exact Y_loadR rfl one3 hr2 rfl rfl | exact Y_load rfl one3 mm_ (eget he rfl) | exact Y_load rfl one3 mm_ (iget hx rfl) | exact Y_load rfl one3 mm_ (by assumption) | exact Y_loadR rfl one3 (by assumption) rfl (by assumption))) rfl rfl ?_
  refine s_nil ?_
  refine q_then ?_
  refine c_block ?_
  refine c_seq ?_
  -- ref.go:146 R2
  refine c_reg ?_
  refine s_y (Y_eql rfl rfl) rfl rfl ?_
  refine s_y (Y_as) rfl rfl ?_
  refine s_nil ?_
  refine q_then ?_
  first | refine c_cond' rfl (fun hc2 => ?_) (fun hc2 => ?_) | refine c_cond rfl (fun hc2 => ?_) (fun hc2 => ?_)
  · skip
    try simp only [nrm_] at hc2
    refine c_seq ?_
    -- ref.go:147 R3
    refine c_reg ?_
    refine s_y (Y_fa 2 rfl Try.underlying57 rfl sz3 rfl) rfl rfl ?_
    refine s_y ((by first | exact Y_load rfl one3 mm_ (by rfl) | exact Y_loadR rfl one3 hr rfl rfl | exact Y_loadR rfl one3 hr2 rfl rfl | exact Y_load rfl one3 mm_ (eget he rfl) | exact Y_load rfl one3 mm_ (iget hx rfl) | exact Y_load rfl one3 mm_ (by assumption) | exact Y_loadR rfl one3 (by assumption) rfl (by assumption))) rfl rfl ?_
    refine s_y (Y_fa 3 rfl Try.underlying57 rfl sz3 rfl) rfl rfl ?_
    refine s_y ((by first | exact Y_load rfl one3 mm_ (by rfl) | exact Y_loadR rfl one3 hr rfl rfl | exact Y_loadR rfl one3 hr2 rfl rfl | exact Y_load rfl one3 mm_ (eget he rfl) | exact Y_load rfl one3 mm_ (iget hx rfl) | exact Y_load rfl one3 mm_ (by assumption) | exact Y_loadR rfl one3 (by assumption) rfl (by assumption))) rfl rfl ?_
    refine s_c (En_call (fun _ => rfl) Try.func64 rfl (by kernel_rfl) rfl) (fun w hH => rin_d) rfl rfl ?_
    rintro _ _ ⟨rfl, rfl⟩
    refine s_y (Y_mv) rfl rfl ?_
    apply s_and 9 [14, 15, 16, 17, 18, 19, 20, 21, 22, 23] 23 (g := 14) rfl rfl
    · intro ht6 hm
      try simp only [nrm_] at ht6
      first | refine s_y (Y_fa 4 rfl Try.underlying29 rfl sz25 rfl) rfl rfl ?_ | refine s_pass rfl rfl ?_
      first | refine s_y ((by first | exact Y_load rfl one25 mm_ (by rfl) | exact Y_loadR rfl one25 hr rfl rfl | exact Y_loadR rfl one25 hr2 rfl rfl | exact Y_load rfl one25 mm_ (eget he rfl) | exact Y_load rfl one25 mm_ (iget hx rfl) | exact Y_load rfl one25 mm_ (by assumption) | exact Y_loadR rfl one25 (by assumption) rfl (by assumption))) rfl rfl ?_ | refine s_pass rfl rfl ?_
      first | refine s_y (Y_fa 2 rfl Try.underlying57 rfl sz3 rfl) rfl rfl ?_ | refine s_pass rfl rfl ?_
      first | refine s_y ((by first | exact Y_load rfl one3 mm_ (by rfl) | exact Y_loadR rfl one3 hr rfl rfl | exact Y_loadR rfl one3 hr2 rfl rfl | exact Y_load rfl one3 mm_ (eget he rfl) | exact Y_load rfl one3 mm_ (iget hx rfl) | exact Y_load rfl one3 mm_ (by assumption) | exact Y_loadR rfl one3 (by assumption) rfl (by assumption))) rfl rfl ?_ | refine s_pass rfl rfl ?_
      first | refine s_y (Y_fa 3 rfl Try.underlying57 rfl sz3 rfl) rfl rfl ?_ | refine s_pass rfl rfl ?_
      first | refine s_y ((by first | exact Y_load rfl one3 mm_ (by rfl) | exact Y_loadR rfl one3 hr rfl rfl | exact Y_loadR rfl one3 hr2 rfl rfl | exact Y_load rfl one3 mm_ (eget he rfl) | exact Y_load rfl one3 mm_ (iget hx rfl) | exact Y_load rfl one3 mm_ (by assumption) | exact Y_loadR rfl one3 (by assumption) rfl (by assumption))) rfl rfl ?_ | refine s_pass rfl rfl ?_
      refine s_c (En_call (fun _ => rfl) Try.func47 rfl (by kernel_rfl) rfl) (fun w hH => rat_d (hw.c.has hH)) rfl rfl ?_
      rintro _ _ ⟨rfl, rfl⟩
      refine s_c (En_call (fun _ => rfl) Try.func15 rfl (by kernel_rfl) rfl) (fun w hH => rwalk_d) rfl rfl ?_
      rintro _ _ ⟨rfl, rfl⟩
      refine s_y (Y_pk rfl (Gx.tmp gt_) Gx.const) rfl rfl ?_
      first | exact hm _ ⟨rfl, trivial⟩ rfl | exact QL.sub sl_ (hm _ ⟨rfl, trivial⟩ rfl)
    · intro ht6 hm
      iterate 8 refine s_pass rfl rfl ?_
      refine s_y (Y_pk rfl (Gx.tmp gt_) Gx.const) rfl rfl ?_
      exact hm _ ⟨rfl, trivial⟩ rfl
    intro j23
    refine s_y (Y_as) rfl rfl ?_
    refine s_nil ?_
    refine q_then ?_
    refine c_ret ?_
    refine q_retG1 rfl gt_ (L' := _) sl_ (⟨by
        congr 1; unfold placedM; rw [if_pos hc2]
        have : inM x.a x.b = false → atM d.cells x.a x.b = 0 := fun h => by unfold atM; rw [if_neg]; rw [h]; simp
        cases h : inM x.a x.b
        · rw [this h]; rfl
        · simp, rfl⟩)
  · skip
    try simp only [nrm_] at hc2
    refine c_seq ?_
    -- ref.go:148 R4
    refine c_reg ?_
    refine s_y (Y_eql rfl rfl) rfl rfl ?_
    refine s_y (Y_as) rfl rfl ?_
    refine s_nil ?_
    refine q_then ?_
    first | refine c_cond' rfl (fun hc4 => ?_) (fun hc4 => ?_) | refine c_cond rfl (fun hc4 => ?_) (fun hc4 => ?_)
    · skip
      try simp only [nrm_] at hc4
      refine c_seq ?_
      -- ref.go:149 R5
      refine c_reg ?_
      refine s_y (Y_fa 2 rfl Try.underlying57 rfl sz3 rfl) rfl rfl ?_
      refine s_y ((by first | exact Y_load rfl one3 mm_ (by rfl) | exact Y_loadR rfl one3 hr rfl rfl | exact Y_loadR rfl one3 hr2 rfl rfl | exact Y_load rfl one3 mm_ (eget he rfl) | exact Y_load rfl one3 mm_ (iget hx rfl) | exact Y_load rfl one3 mm_ (by assumption) | exact Y_loadR rfl one3 (by assumption) rfl (by assumption))) rfl rfl ?_
      refine s_y (Y_geq rfl rfl) rfl rfl ?_
      refine s_y (Y_mv) rfl rfl ?_
      apply s_and 4 [29, 30, 31, 32, 33] 33 (g := 29) rfl rfl
      · intro ht4 hm
        try simp only [nrm_] at ht4
        first | refine s_y (Y_fa 2 rfl Try.underlying57 rfl sz3 rfl) rfl rfl ?_ | refine s_pass rfl rfl ?_
        first | refine s_y ((by first | exact Y_load rfl one3 mm_ (by rfl) | exact Y_loadR rfl one3 hr rfl rfl | exact Y_loadR rfl one3 hr2 rfl rfl | exact Y_load rfl one3 mm_ (eget he rfl) | exact Y_load rfl one3 mm_ (iget hx rfl) | exact Y_load rfl one3 mm_ (by assumption) | exact Y_loadR rfl one3 (by assumption) rfl (by assumption))) rfl rfl ?_ | refine s_pass rfl rfl ?_
        first | refine s_y (Y_lss rfl rfl) rfl rfl ?_ | refine s_pass rfl rfl ?_
        refine s_y (Y_pk rfl (Gx.tmp gt_) Gx.const) rfl rfl ?_
        first | exact hm _ ⟨rfl, trivial⟩ rfl | exact QL.sub sl_ (hm _ ⟨rfl, trivial⟩ rfl)
      · intro ht4 hm
        iterate 3 refine s_pass rfl rfl ?_
        refine s_y (Y_pk rfl (Gx.tmp gt_) Gx.const) rfl rfl ?_
        exact hm _ ⟨rfl, trivial⟩ rfl
      intro j33
      refine s_y (Y_mv) rfl rfl ?_
      apply s_and 4 [34, 35, 36, 37, 38] 38 (g := 34) rfl rfl
      · intro ht9 hm
        try simp only [nrm_] at ht9
        first | refine s_y (Y_fa 3 rfl Try.underlying57 rfl sz3 rfl) rfl rfl ?_ | refine s_pass rfl rfl ?_
        first | refine s_y ((by first | exact Y_load rfl one3 mm_ (by rfl) | exact Y_loadR rfl one3 hr rfl rfl | exact Y_loadR rfl one3 hr2 rfl rfl | exact Y_load rfl one3 mm_ (eget he rfl) | exact Y_load rfl one3 mm_ (iget hx rfl) | exact Y_load rfl one3 mm_ (by assumption) | exact Y_loadR rfl one3 (by assumption) rfl (by assumption))) rfl rfl ?_ | refine s_pass rfl rfl ?_
        first | refine s_y (Y_geq rfl rfl) rfl rfl ?_ | refine s_pass rfl rfl ?_
        refine s_y (Y_pk rfl (Gx.tmp gt_) Gx.const) rfl rfl ?_
        first | exact hm _ ⟨rfl, trivial⟩ rfl | exact QL.sub sl_ (hm _ ⟨rfl, trivial⟩ rfl)
      · intro ht9 hm
        iterate 3 refine s_pass rfl rfl ?_
        refine s_y (Y_pk rfl (Gx.tmp gt_) Gx.const) rfl rfl ?_
        exact hm _ ⟨rfl, trivial⟩ rfl
      intro j38
      refine s_y (Y_mv) rfl rfl ?_
      apply s_and 4 [39, 40, 41, 42, 43] 43 (g := 39) rfl rfl
      · intro ht14 hm
        try simp only [nrm_] at ht14
        first | refine s_y (Y_fa 3 rfl Try.underlying57 rfl sz3 rfl) rfl rfl ?_ | refine s_pass rfl rfl ?_
        first | refine s_y ((by first | exact Y_load rfl one3 mm_ (by rfl) | exact Y_loadR rfl one3 hr rfl rfl | exact Y_loadR rfl one3 hr2 rfl rfl | exact Y_load rfl one3 mm_ (eget he rfl) | exact Y_load rfl one3 mm_ (iget hx rfl) | exact Y_load rfl one3 mm_ (by assumption) | exact Y_loadR rfl one3 (by assumption) rfl (by assumption))) rfl rfl ?_ | refine s_pass rfl rfl ?_
        first | refine s_y (Y_lss rfl rfl) rfl rfl ?_ | refine s_pass rfl rfl ?_
        refine s_y (Y_pk rfl (Gx.tmp gt_) Gx.const) rfl rfl ?_
        first | exact hm _ ⟨rfl, trivial⟩ rfl | exact QL.sub sl_ (hm _ ⟨rfl, trivial⟩ rfl)
      · intro ht14 hm
        iterate 3 refine s_pass rfl rfl ?_
        refine s_y (Y_pk rfl (Gx.tmp gt_) Gx.const) rfl rfl ?_
        exact hm _ ⟨rfl, trivial⟩ rfl
      intro j43
      refine s_y (Y_mv) rfl rfl ?_
      apply s_and 4 [44, 45, 46, 47, 48] 48 (g := 44) rfl rfl
      · intro ht19 hm
        try simp only [nrm_] at ht19
        first | refine s_y (Y_fa 0 rfl Try.underlying57 rfl sz3 rfl) rfl rfl ?_ | refine s_pass rfl rfl ?_
        first | refine s_y ((by first | exact Y_load rfl one3 mm_ (by rfl) | exact Y_loadR rfl one3 hr rfl rfl | exact Y_loadR rfl one3 hr2 rfl rfl | exact Y_load rfl one3 mm_ (eget he rfl) | exact Y_load rfl one3 mm_ (iget hx rfl) | exact Y_load rfl one3 mm_ (by assumption) | exact Y_loadR rfl one3 (by assumption) rfl (by assumption))) rfl rfl ?_ | refine s_pass rfl rfl ?_
        first | refine s_y (Y_neq rfl rfl) rfl rfl ?_ | refine s_pass rfl rfl ?_
        refine s_y (Y_pk rfl (Gx.tmp gt_) Gx.const) rfl rfl ?_
        first | exact hm _ ⟨rfl, trivial⟩ rfl | exact QL.sub sl_ (hm _ ⟨rfl, trivial⟩ rfl)
      · intro ht19 hm
        iterate 3 refine s_pass rfl rfl ?_
        refine s_y (Y_pk rfl (Gx.tmp gt_) Gx.const) rfl rfl ?_
        exact hm _ ⟨rfl, trivial⟩ rfl
      intro j48
      refine s_y (Y_as) rfl rfl ?_
      refine s_nil ?_
      refine q_then ?_
      refine c_ret ?_
      refine q_retG1 rfl gt_ (L' := _) sl_ (⟨by congr 1; unfold placedM; rw [if_neg hc2, if_pos hc4]; unfold btw; rw [Bool.eq_iff_iff]; simp only [nrm_]; omega, rfl⟩)
    · skip
      try simp only [nrm_] at hc4
      refine c_seq ?_
      -- ref.go:150 R6
      refine c_reg ?_
      refine s_y (Y_eql rfl rfl) rfl rfl ?_
      refine s_y (Y_as) rfl rfl ?_
      refine s_nil ?_
      refine q_then ?_
      first | refine c_cond' rfl (fun hc6 => ?_) (fun hc6 => ?_) | refine c_cond rfl (fun hc6 => ?_) (fun hc6 => ?_)
      · skip
        try simp only [nrm_] at hc6
        refine c_seq ?_
        -- ref.go:151 R7
        refine c_reg ?_
        refine s_y (Y_fa 2 rfl Try.underlying57 rfl sz3 rfl) rfl rfl ?_
        refine s_y ((by first | exact Y_load rfl one3 mm_ (by rfl) | exact Y_loadR rfl one3 hr rfl rfl | exact Y_loadR rfl one3 hr2 rfl rfl | exact Y_load rfl one3 mm_ (eget he rfl) | exact Y_load rfl one3 mm_ (iget hx rfl) | exact Y_load rfl one3 mm_ (by assumption) | exact Y_loadR rfl one3 (by assumption) rfl (by assumption))) rfl rfl ?_
        refine s_y (Y_geq rfl rfl) rfl rfl ?_
        refine s_y (Y_mv) rfl rfl ?_
        apply s_and 4 [54, 55, 56, 57, 58] 58 (g := 54) rfl rfl
        · intro ht4 hm
          try simp only [nrm_] at ht4
          first | refine s_y (Y_fa 2 rfl Try.underlying57 rfl sz3 rfl) rfl rfl ?_ | refine s_pass rfl rfl ?_
          first | refine s_y ((by first | exact Y_load rfl one3 mm_ (by rfl) | exact Y_loadR rfl one3 hr rfl rfl | exact Y_loadR rfl one3 hr2 rfl rfl | exact Y_load rfl one3 mm_ (eget he rfl) | exact Y_load rfl one3 mm_ (iget hx rfl) | exact Y_load rfl one3 mm_ (by assumption) | exact Y_loadR rfl one3 (by assumption) rfl (by assumption))) rfl rfl ?_ | refine s_pass rfl rfl ?_
          first | refine s_y (Y_lss rfl rfl) rfl rfl ?_ | refine s_pass rfl rfl ?_
          refine s_y (Y_pk rfl (Gx.tmp gt_) Gx.const) rfl rfl ?_
          first | exact hm _ ⟨rfl, trivial⟩ rfl | exact QL.sub sl_ (hm _ ⟨rfl, trivial⟩ rfl)
        · intro ht4 hm
          iterate 3 refine s_pass rfl rfl ?_
          refine s_y (Y_pk rfl (Gx.tmp gt_) Gx.const) rfl rfl ?_
          exact hm _ ⟨rfl, trivial⟩ rfl
        intro j58
        refine s_y (Y_mv) rfl rfl ?_
        apply s_and 19 [59, 60, 61, 62, 63, 64, 65, 66, 67, 68, 69, 70, 71, 72, 73, 74, 75, 76, 77, 78] 78 (g := 59) rfl rfl
        · intro ht9 hm
          try simp only [nrm_] at ht9
          first | refine s_y (Y_fa 0 rfl Try.underlying57 rfl sz3 rfl) rfl rfl ?_ | refine s_pass rfl rfl ?_
          first | refine s_y ((by first | exact Y_load rfl one3 mm_ (by rfl) | exact Y_loadR rfl one3 hr rfl rfl | exact Y_loadR rfl one3 hr2 rfl rfl | exact Y_load rfl one3 mm_ (eget he rfl) | exact Y_load rfl one3 mm_ (iget hx rfl) | exact Y_load rfl one3 mm_ (by assumption) | exact Y_loadR rfl one3 (by assumption) rfl (by assumption))) rfl rfl ?_ | refine s_pass rfl rfl ?_
          first | refine s_y (Y_eql rfl rfl) rfl rfl ?_ | refine s_pass rfl rfl ?_
          first | refine s_y (Y_mv) rfl rfl ?_ | refine s_pass rfl rfl ?_
          apply s_and 4 [63, 64, 65, 66, 67] 67 (g := 63) rfl rfl
          · intro ht13 hm
            try simp only [nrm_] at ht13
            first | refine s_y (Y_fa 3 rfl Try.underlying57 rfl sz3 rfl) rfl rfl ?_ | refine s_pass rfl rfl ?_
            first | refine s_y ((by first | exact Y_load rfl one3 mm_ (by rfl) | exact Y_loadR rfl one3 hr rfl rfl | exact Y_loadR rfl one3 hr2 rfl rfl | exact Y_load rfl one3 mm_ (eget he rfl) | exact Y_load rfl one3 mm_ (iget hx rfl) | exact Y_load rfl one3 mm_ (by assumption) | exact Y_loadR rfl one3 (by assumption) rfl (by assumption))) rfl rfl ?_ | refine s_pass rfl rfl ?_
            first | refine s_y (Y_eql rfl rfl) rfl rfl ?_ | refine s_pass rfl rfl ?_
            first | refine s_y (Y_pk rfl (Gx.tmp gt_) Gx.const) rfl rfl ?_ | refine s_pass rfl rfl ?_
            first | exact hm _ ⟨rfl, trivial⟩ rfl | exact QL.sub sl_ (hm _ ⟨rfl, trivial⟩ rfl)
          · intro ht13 hm
            iterate 3 refine s_pass rfl rfl ?_
            first | refine s_y (Y_pk rfl (Gx.tmp gt_) Gx.const) rfl rfl ?_ | refine s_pass rfl rfl ?_
            exact hm _ ⟨rfl, trivial⟩ rfl
          intro j67
          first | refine s_y (Y_mv) rfl rfl ?_ | refine s_pass rfl rfl ?_
          apply s_or 9 [68, 69, 70, 71, 72, 73, 74, 75, 76, 77] 77 (g := 68) rfl rfl
          · intro ht18 hm
            try simp only [nrm_] at ht18
            first | refine s_y (Y_fa 0 rfl Try.underlying57 rfl sz3 rfl) rfl rfl ?_ | refine s_pass rfl rfl ?_
            first | refine s_y ((by first | exact Y_load rfl one3 mm_ (by rfl) | exact Y_loadR rfl one3 hr rfl rfl | exact Y_loadR rfl one3 hr2 rfl rfl | exact Y_load rfl one3 mm_ (eget he rfl) | exact Y_load rfl one3 mm_ (iget hx rfl) | exact Y_load rfl one3 mm_ (by assumption) | exact Y_loadR rfl one3 (by assumption) rfl (by assumption))) rfl rfl ?_ | refine s_pass rfl rfl ?_
            first | refine s_y (Y_eql rfl rfl) rfl rfl ?_ | refine s_pass rfl rfl ?_
            first | refine s_y (Y_mv) rfl rfl ?_ | refine s_pass rfl rfl ?_
            apply s_and 4 [72, 73, 74, 75, 76] 76 (g := 72) rfl rfl
            · intro ht22 hm
              try simp only [nrm_] at ht22
              first | refine s_y (Y_fa 3 rfl Try.underlying57 rfl sz3 rfl) rfl rfl ?_ | refine s_pass rfl rfl ?_
              first | refine s_y ((by first | exact Y_load rfl one3 mm_ (by rfl) | exact Y_loadR rfl one3 hr rfl rfl | exact Y_loadR rfl one3 hr2 rfl rfl | exact Y_load rfl one3 mm_ (eget he rfl) | exact Y_load rfl one3 mm_ (iget hx rfl) | exact Y_load rfl one3 mm_ (by assumption) | exact Y_loadR rfl one3 (by assumption) rfl (by assumption))) rfl rfl ?_ | refine s_pass rfl rfl ?_
              first | refine s_y (Y_eql rfl rfl) rfl rfl ?_ | refine s_pass rfl rfl ?_
              first | refine s_y (Y_pk rfl (Gx.tmp gt_) Gx.const) rfl rfl ?_ | refine s_pass rfl rfl ?_
              first | exact hm _ ⟨rfl, trivial⟩ rfl | exact QL.sub sl_ (hm _ ⟨rfl, trivial⟩ rfl)
            · intro ht22 hm
              iterate 3 refine s_pass rfl rfl ?_
              first | refine s_y (Y_pk rfl (Gx.tmp gt_) Gx.const) rfl rfl ?_ | refine s_pass rfl rfl ?_
              exact hm _ ⟨rfl, trivial⟩ rfl
            intro j76
            first | refine s_y (Y_pk rfl Gx.const (Gx.tmp gt_)) rfl rfl ?_ | refine s_pass rfl rfl ?_
            first | exact hm _ ⟨rfl, trivial⟩ rfl | exact QL.sub sl_ (hm _ ⟨rfl, trivial⟩ rfl)
          · intro ht18 hm
            iterate 8 refine s_pass rfl rfl ?_
            first | refine s_y (Y_pk rfl Gx.const (Gx.tmp gt_)) rfl rfl ?_ | refine s_pass rfl rfl ?_
            exact hm _ ⟨rfl, trivial⟩ rfl
          intro j77
          refine s_y (Y_pk rfl (Gx.tmp gt_) Gx.const) rfl rfl ?_
          first | exact hm _ ⟨rfl, trivial⟩ rfl | exact QL.sub sl_ (hm _ ⟨rfl, trivial⟩ rfl)
        · intro ht9 hm
          iterate 18 refine s_pass rfl rfl ?_
          refine s_y (Y_pk rfl (Gx.tmp gt_) Gx.const) rfl rfl ?_
          exact hm _ ⟨rfl, trivial⟩ rfl
        intro j78
        refine s_y (Y_as) rfl rfl ?_
        refine s_nil ?_
        refine q_then ?_
        refine c_ret ?_
        refine q_retG1 rfl gt_ (L' := _) sl_ (⟨by congr 1; unfold placedM; rw [if_neg hc2, if_neg hc4, if_pos hc6]; unfold btw; rw [Bool.eq_iff_iff]; simp only [nrm_]; omega, rfl⟩)
      · skip
        try simp only [nrm_] at hc6
        refine c_seq ?_
        -- ref.go:152 R8
        refine c_reg ?_
        refine s_y (Y_eql rfl rfl) rfl rfl ?_
        refine s_y (Y_as) rfl rfl ?_
        refine s_nil ?_
        refine q_then ?_
        first | refine c_cond' rfl (fun hc8 => ?_) (fun hc8 => ?_) | refine c_cond rfl (fun hc8 => ?_) (fun hc8 => ?_)
        · skip
          try simp only [nrm_] at hc8
          refine c_seq ?_
          -- ref.go:153 R9
          refine c_reg ?_
          refine s_y (Y_fa 2 rfl Try.underlying57 rfl sz3 rfl) rfl rfl ?_
          refine s_y ((by first | exact Y_load rfl one3 mm_ (by rfl) | exact Y_loadR rfl one3 hr rfl rfl | exact Y_loadR rfl one3 hr2 rfl rfl | exact Y_load rfl one3 mm_ (eget he rfl) | exact Y_load rfl one3 mm_ (iget hx rfl) | exact Y_load rfl one3 mm_ (by assumption) | exact Y_loadR rfl one3 (by assumption) rfl (by assumption))) rfl rfl ?_
          refine s_y (Y_geq rfl rfl) rfl rfl ?_
          refine s_y (Y_mv) rfl rfl ?_
          apply s_and 4 [84, 85, 86, 87, 88] 88 (g := 84) rfl rfl
          · intro ht4 hm
            try simp only [nrm_] at ht4
            first | refine s_y (Y_fa 2 rfl Try.underlying57 rfl sz3 rfl) rfl rfl ?_ | refine s_pass rfl rfl ?_
            first | refine s_y ((by first | exact Y_load rfl one3 mm_ (by rfl) | exact Y_loadR rfl one3 hr rfl rfl | exact Y_loadR rfl one3 hr2 rfl rfl | exact Y_load rfl one3 mm_ (eget he rfl) | exact Y_load rfl one3 mm_ (iget hx rfl) | exact Y_load rfl one3 mm_ (by assumption) | exact Y_loadR rfl one3 (by assumption) rfl (by assumption))) rfl rfl ?_ | refine s_pass rfl rfl ?_
            first | refine s_y (Y_lss rfl rfl) rfl rfl ?_ | refine s_pass rfl rfl ?_
            refine s_y (Y_pk rfl (Gx.tmp gt_) Gx.const) rfl rfl ?_
            first | exact hm _ ⟨rfl, trivial⟩ rfl | exact QL.sub sl_ (hm _ ⟨rfl, trivial⟩ rfl)
          · intro ht4 hm
            iterate 3 refine s_pass rfl rfl ?_
            refine s_y (Y_pk rfl (Gx.tmp gt_) Gx.const) rfl rfl ?_
            exact hm _ ⟨rfl, trivial⟩ rfl
          intro j88
          refine s_y (Y_mv) rfl rfl ?_
          apply s_and 4 [89, 90, 91, 92, 93] 93 (g := 89) rfl rfl
          · intro ht9 hm
            try simp only [nrm_] at ht9
            first | refine s_y (Y_fa 3 rfl Try.underlying57 rfl sz3 rfl) rfl rfl ?_ | refine s_pass rfl rfl ?_
            first | refine s_y ((by first | exact Y_load rfl one3 mm_ (by rfl) | exact Y_loadR rfl one3 hr rfl rfl | exact Y_loadR rfl one3 hr2 rfl rfl | exact Y_load rfl one3 mm_ (eget he rfl) | exact Y_load rfl one3 mm_ (iget hx rfl) | exact Y_load rfl one3 mm_ (by assumption) | exact Y_loadR rfl one3 (by assumption) rfl (by assumption))) rfl rfl ?_ | refine s_pass rfl rfl ?_
            first | refine s_y (Y_eql rfl rfl) rfl rfl ?_ | refine s_pass rfl rfl ?_
            refine s_y (Y_pk rfl (Gx.tmp gt_) Gx.const) rfl rfl ?_
            first | exact hm _ ⟨rfl, trivial⟩ rfl | exact QL.sub sl_ (hm _ ⟨rfl, trivial⟩ rfl)
          · intro ht9 hm
            iterate 3 refine s_pass rfl rfl ?_
            refine s_y (Y_pk rfl (Gx.tmp gt_) Gx.const) rfl rfl ?_
            exact hm _ ⟨rfl, trivial⟩ rfl
          intro j93
          refine s_y (Y_mv) rfl rfl ?_
          apply s_and 4 [94, 95, 96, 97, 98] 98 (g := 94) rfl rfl
          · intro ht14 hm
            try simp only [nrm_] at ht14
            first | refine s_y (Y_fa 0 rfl Try.underlying57 rfl sz3 rfl) rfl rfl ?_ | refine s_pass rfl rfl ?_
            first | refine s_y ((by first | exact Y_load rfl one3 mm_ (by rfl) | exact Y_loadR rfl one3 hr rfl rfl | exact Y_loadR rfl one3 hr2 rfl rfl | exact Y_load rfl one3 mm_ (eget he rfl) | exact Y_load rfl one3 mm_ (iget hx rfl) | exact Y_load rfl one3 mm_ (by assumption) | exact Y_loadR rfl one3 (by assumption) rfl (by assumption))) rfl rfl ?_ | refine s_pass rfl rfl ?_
            first | refine s_y (Y_neq rfl rfl) rfl rfl ?_ | refine s_pass rfl rfl ?_
            refine s_y (Y_pk rfl (Gx.tmp gt_) Gx.const) rfl rfl ?_
            first | exact hm _ ⟨rfl, trivial⟩ rfl | exact QL.sub sl_ (hm _ ⟨rfl, trivial⟩ rfl)
          · intro ht14 hm
            iterate 3 refine s_pass rfl rfl ?_
            refine s_y (Y_pk rfl (Gx.tmp gt_) Gx.const) rfl rfl ?_
            exact hm _ ⟨rfl, trivial⟩ rfl
          intro j98
          refine s_y (Y_as) rfl rfl ?_
          refine s_nil ?_
          refine q_then ?_
          refine c_ret ?_
          refine q_retG1 rfl gt_ (L' := _) sl_ (⟨by congr 1; unfold placedM; rw [if_neg hc2, if_neg hc4, if_neg hc6, if_pos hc8]; unfold btw; rw [Bool.eq_iff_iff]; simp only [nrm_]; omega, rfl⟩)
        · skip
          try simp only [nrm_] at hc8
          refine c_skip ?_
          refine q_bn ?_
          refine q_then ?_
          refine c_seq ?_
          -- ref.go:155 R10
          refine c_reg ?_
          refine s_y (Y_asC) rfl rfl ?_
          refine s_nil ?_
          refine q_then ?_
          refine c_ret ?_
          refine q_retG1 rfl gt_ (L' := _) sl_ (⟨by unfold placedM; rw [if_neg hc2, if_neg hc4, if_neg hc6, if_neg hc8], rfl⟩)
set_option maxRecDepth 100000 in
theorem pmay_d {d : Wd} {s : Ws} (hw : WAt W d s) (x : Itm) (hx : Itm.ok x) : Does Try.prog 46 [.agg (wv d s).toArray, .agg x.cells.toArray] W [] (fun v L => v = .bool (btw x.kind 1 4 && placedM d.cells x) ∧ L = []) := by
  obtain ⟨hx1, hx2⟩ := hx
  refine enter Try.func46 rfl rfl rfl (Has.start _) ?_
  refine c_seq ?_
  -- goods.go:175 R0
  refine c_reg ?_
  refine s_n (N_box (cs := wv d s) rfl) rfl rfl (fun b2 _ => ?_)
  refine s_n (N_box (cs := x.cells) rfl) rfl rfl (fun b3 _ => ?_)
  refine s_y (Y_asC) rfl rfl ?_
  refine s_nil ?_
  refine q_then ?_
  refine c_seq ?_
  -- goods.go:176 R1
  refine c_reg ?_
  refine s_y (Y_fa 0 rfl Try.underlying57 rfl sz3 rfl) rfl rfl ?_
  refine s_y ((by first | exact Y_load rfl one3 mm_ (by rfl) | exact Y_loadR rfl one3 hr rfl rfl | exact Y_loadR rfl one3 hr2 rfl rfl | exact Y_load rfl one3 mm_ (eget he rfl) | exact Y_load rfl one3 mm_ (iget hx rfl) | exact Y_load rfl one3 mm_ (by assumption) | exact Y_loadR rfl one3 (by assumption) rfl (by assumption))) rfl rfl ?_
  refine s_y (Y_geq rfl rfl) rfl rfl ?_
  refine s_y (Y_mv) rfl rfl ?_
  apply s_and 4 [9, 10, 11, 12, 13] 13 (g := 9) rfl rfl
  · intro ht4 hm
    try simp only [nrm_] at ht4
    first | refine s_y (Y_fa 0 rfl Try.underlying57 rfl sz3 rfl) rfl rfl ?_ | refine s_pass rfl rfl ?_
    first | refine s_y ((by first | exact Y_load rfl one3 mm_ (by rfl) | exact Y_loadR rfl one3 hr rfl rfl | exact Y_loadR rfl one3 hr2 rfl rfl | exact Y_load rfl one3 mm_ (eget he rfl) | exact Y_load rfl one3 mm_ (iget hx rfl) | exact Y_load rfl one3 mm_ (by assumption) | exact Y_loadR rfl one3 (by assumption) rfl (by assumption))) rfl rfl ?_ | refine s_pass rfl rfl ?_
    first | refine s_y (Y_leq rfl rfl) rfl rfl ?_ | refine s_pass rfl rfl ?_
    refine s_y (Y_pk rfl (Gx.tmp gt_) Gx.const) rfl rfl ?_
    first | exact hm _ ⟨rfl, trivial⟩ rfl | exact QL.sub sl_ (hm _ ⟨rfl, trivial⟩ rfl)
  · intro ht4 hm
    iterate 3 refine s_pass rfl rfl ?_
    refine s_y (Y_pk rfl (Gx.tmp gt_) Gx.const) rfl rfl ?_
    exact hm _ ⟨rfl, trivial⟩ rfl
  intro j13
  refine s_y (Y_as) rfl rfl ?_
  refine s_nil ?_
  refine q_then ?_
  refine c_seq ?_
  refine c_seq ?_
  -- goods.go:177 R2
  refine c_reg ?_
  refine s_y (Y_fa 1 rfl Try.underlying57 rfl sz3 rfl) rfl rfl ?_
  refine s_y ((by first | exact Y_load rfl one3 mm_ (by rfl) | exact Y_loadR rfl one3 hr rfl rfl | exact Y_loadR rfl one3 hr2 rfl rfl | exact Y_load rfl one3 mm_ (eget he rfl) | exact Y_load rfl one3 mm_ (iget hx rfl) | exact Y_load rfl one3 mm_ (by assumption) | exact Y_loadR rfl one3 (by assumption) rfl (by assumption))) rfl rfl ?_
  refine s_nil ?_
  refine q_then ?_
  refine c_block ?_
  refine c_seq ?_
  refine c_block ?_
  refine c_seq ?_
  refine c_block ?_
  refine c_seq ?_
  refine c_block ?_
  refine c_seq ?_
  refine c_block ?_
  refine c_seq ?_
  refine c_seq ?_
  refine c_seq ?_
  -- goods.go:178 R3
  refine c_reg ?_
  refine s_y (Y_eql rfl rfl) rfl rfl ?_
  refine s_y (Y_as) rfl rfl ?_
  refine s_nil ?_
  refine q_then ?_
  first | refine c_cond' rfl (fun hc3 => ?_) (fun hc3 => ?_) | refine c_cond rfl (fun hc3 => ?_) (fun hc3 => ?_)
  · skip
    try simp only [nrm_] at hc3
    refine c_exit ?_
    repeat with_reducible refine q_te ?_
    refine q_exit ?_
    refine q_then ?_
    refine c_seq ?_
    refine c_seq ?_
    -- goods.go:179 R7
    refine c_reg ?_
    refine s_y (Y_mv) rfl rfl ?_
    refine s_y (Y_mv) rfl rfl ?_
    apply s_or 4 [25, 26, 27, 28, 29] 29 (g := 25) rfl rfl
    · intro ht2 hm
      try simp only [nrm_] at ht2
      first | refine s_y (Y_fa 0 rfl Try.underlying57 rfl sz3 rfl) rfl rfl ?_ | refine s_pass rfl rfl ?_
      first | refine s_y ((by first | exact Y_load rfl one3 mm_ (by rfl) | exact Y_loadR rfl one3 hr rfl rfl | exact Y_loadR rfl one3 hr2 rfl rfl | exact Y_load rfl one3 mm_ (eget he rfl) | exact Y_load rfl one3 mm_ (iget hx rfl) | exact Y_load rfl one3 mm_ (by assumption) | exact Y_loadR rfl one3 (by assumption) rfl (by assumption))) rfl rfl ?_ | refine s_pass rfl rfl ?_
      first | refine s_y (Y_eql rfl rfl) rfl rfl ?_ | refine s_pass rfl rfl ?_
      refine s_y (Y_pk rfl Gx.const (Gx.tmp gt_)) rfl rfl ?_
      first | exact hm _ ⟨rfl, trivial⟩ rfl | exact QL.sub sl_ (hm _ ⟨rfl, trivial⟩ rfl)
    · intro ht2 hm
      iterate 3 refine s_pass rfl rfl ?_
      refine s_y (Y_pk rfl Gx.const (Gx.tmp gt_)) rfl rfl ?_
      exact hm _ ⟨rfl, trivial⟩ rfl
    intro j29
    refine s_y (Y_mv) rfl rfl ?_
    apply s_and 9 [30, 31, 32, 33, 34, 35, 36, 37, 38, 39] 39 (g := 30) rfl rfl
    · intro ht7 hm
      try simp only [nrm_] at ht7
      first | refine s_y (Y_fa 4 rfl Try.underlying29 rfl sz25 rfl) rfl rfl ?_ | refine s_pass rfl rfl ?_
      first | refine s_y ((by first | exact Y_load rfl one25 mm_ (by rfl) | exact Y_loadR rfl one25 hr rfl rfl | exact Y_loadR rfl one25 hr2 rfl rfl | exact Y_load rfl one25 mm_ (eget he rfl) | exact Y_load rfl one25 mm_ (iget hx rfl) | exact Y_load rfl one25 mm_ (by assumption) | exact Y_loadR rfl one25 (by assumption) rfl (by assumption))) rfl rfl ?_ | refine s_pass rfl rfl ?_
      first | refine s_y (Y_fa 2 rfl Try.underlying57 rfl sz3 rfl) rfl rfl ?_ | refine s_pass rfl rfl ?_
      first | refine s_y ((by first | exact Y_load rfl one3 mm_ (by rfl) | exact Y_loadR rfl one3 hr rfl rfl | exact Y_loadR rfl one3 hr2 rfl rfl | exact Y_load rfl one3 mm_ (eget he rfl) | exact Y_load rfl one3 mm_ (iget hx rfl) | exact Y_load rfl one3 mm_ (by assumption) | exact Y_loadR rfl one3 (by assumption) rfl (by assumption))) rfl rfl ?_ | refine s_pass rfl rfl ?_
      first | refine s_y (Y_fa 3 rfl Try.underlying57 rfl sz3 rfl) rfl rfl ?_ | refine s_pass rfl rfl ?_
      first | refine s_y ((by first | exact Y_load rfl one3 mm_ (by rfl) | exact Y_loadR rfl one3 hr rfl rfl | exact Y_loadR rfl one3 hr2 rfl rfl | exact Y_load rfl one3 mm_ (eget he rfl) | exact Y_load rfl one3 mm_ (iget hx rfl) | exact Y_load rfl one3 mm_ (by assumption) | exact Y_loadR rfl one3 (by assumption) rfl (by assumption))) rfl rfl ?_ | refine s_pass rfl rfl ?_
      refine s_c (En_call (fun _ => rfl) Try.func42 rfl (by kernel_rfl) rfl) (fun w hH => pgat_d (hw.c.has hH)) rfl rfl ?_
      rintro _ _ ⟨rfl, rfl⟩
      refine s_c (En_call (fun _ => rfl) Try.func41 rfl (by kernel_rfl) rfl) (fun w hH => pwalk_d) rfl rfl ?_
      rintro _ _ ⟨rfl, rfl⟩
      refine s_y (Y_pk rfl (Gx.tmp gt_) Gx.const) rfl rfl ?_
      first | exact hm _ ⟨rfl, trivial⟩ rfl | exact QL.sub sl_ (hm _ ⟨rfl, trivial⟩ rfl)
    · intro ht7 hm
      iterate 8 refine s_pass rfl rfl ?_
      refine s_y (Y_pk rfl (Gx.tmp gt_) Gx.const) rfl rfl ?_
      exact hm _ ⟨rfl, trivial⟩ rfl
    intro j39
    refine s_y (Y_as) rfl rfl ?_
    refine s_nil ?_
    refine q_then ?_
    refine c_ret ?_
    refine q_retG1 rfl gt_ (L' := _) sl_ (⟨by
        congr 1; unfold placedM btw; rw [if_pos hc3]
        cases walkM (atM d.cells x.a x.b)
        · simp
        · rw [Bool.eq_iff_iff]; simp only [nrm_, Bool.and_true, and_true]; omega, rfl⟩)
  · skip
    try simp only [nrm_] at hc3
    refine c_skip ?_
    refine q_then ?_
    refine c_seq ?_
    refine c_seq ?_
    -- goods.go:180 R4
    refine c_reg ?_
    refine s_y (Y_eql rfl rfl) rfl rfl ?_
    refine s_y (Y_as) rfl rfl ?_
    refine s_nil ?_
    refine q_then ?_
    first | refine c_cond' rfl (fun hc4 => ?_) (fun hc4 => ?_) | refine c_cond rfl (fun hc4 => ?_) (fun hc4 => ?_)
    · skip
      try simp only [nrm_] at hc4
      refine c_exit ?_
      repeat with_reducible refine q_te ?_
      refine q_past rfl ?_
      repeat with_reducible refine q_te ?_
      refine q_exit ?_
      refine q_then ?_
      refine c_seq ?_
      refine c_seq ?_
      -- goods.go:181 R8
      refine c_reg ?_
      refine s_y (Y_mv) rfl rfl ?_
      refine s_y (Y_mv) rfl rfl ?_
      apply s_and 4 [41, 42, 43, 44, 45] 45 (g := 41) rfl rfl
      · intro ht2 hm
        try simp only [nrm_] at ht2
        first | refine s_y (Y_fa 2 rfl Try.underlying57 rfl sz3 rfl) rfl rfl ?_ | refine s_pass rfl rfl ?_
        first | refine s_y ((by first | exact Y_load rfl one3 mm_ (by rfl) | exact Y_loadR rfl one3 hr rfl rfl | exact Y_loadR rfl one3 hr2 rfl rfl | exact Y_load rfl one3 mm_ (eget he rfl) | exact Y_load rfl one3 mm_ (iget hx rfl) | exact Y_load rfl one3 mm_ (by assumption) | exact Y_loadR rfl one3 (by assumption) rfl (by assumption))) rfl rfl ?_ | refine s_pass rfl rfl ?_
        first | refine s_y (Y_geq rfl rfl) rfl rfl ?_ | refine s_pass rfl rfl ?_
        refine s_y (Y_pk rfl (Gx.tmp gt_) Gx.const) rfl rfl ?_
        first | exact hm _ ⟨rfl, trivial⟩ rfl | exact QL.sub sl_ (hm _ ⟨rfl, trivial⟩ rfl)
      · intro ht2 hm
        iterate 3 refine s_pass rfl rfl ?_
        refine s_y (Y_pk rfl (Gx.tmp gt_) Gx.const) rfl rfl ?_
        exact hm _ ⟨rfl, trivial⟩ rfl
      intro j45
      refine s_y (Y_mv) rfl rfl ?_
      apply s_and 4 [46, 47, 48, 49, 50] 50 (g := 46) rfl rfl
      · intro ht7 hm
        try simp only [nrm_] at ht7
        first | refine s_y (Y_fa 2 rfl Try.underlying57 rfl sz3 rfl) rfl rfl ?_ | refine s_pass rfl rfl ?_
        first | refine s_y ((by first | exact Y_load rfl one3 mm_ (by rfl) | exact Y_loadR rfl one3 hr rfl rfl | exact Y_loadR rfl one3 hr2 rfl rfl | exact Y_load rfl one3 mm_ (eget he rfl) | exact Y_load rfl one3 mm_ (iget hx rfl) | exact Y_load rfl one3 mm_ (by assumption) | exact Y_loadR rfl one3 (by assumption) rfl (by assumption))) rfl rfl ?_ | refine s_pass rfl rfl ?_
        first | refine s_y (Y_lss rfl rfl) rfl rfl ?_ | refine s_pass rfl rfl ?_
        refine s_y (Y_pk rfl (Gx.tmp gt_) Gx.const) rfl rfl ?_
        first | exact hm _ ⟨rfl, trivial⟩ rfl | exact QL.sub sl_ (hm _ ⟨rfl, trivial⟩ rfl)
      · intro ht7 hm
        iterate 3 refine s_pass rfl rfl ?_
        refine s_y (Y_pk rfl (Gx.tmp gt_) Gx.const) rfl rfl ?_
        exact hm _ ⟨rfl, trivial⟩ rfl
      intro j50
      refine s_y (Y_mv) rfl rfl ?_
      apply s_and 4 [51, 52, 53, 54, 55] 55 (g := 51) rfl rfl
      · intro ht12 hm
        try simp only [nrm_] at ht12
        first | refine s_y (Y_fa 3 rfl Try.underlying57 rfl sz3 rfl) rfl rfl ?_ | refine s_pass rfl rfl ?_
        first | refine s_y ((by first | exact Y_load rfl one3 mm_ (by rfl) | exact Y_loadR rfl one3 hr rfl rfl | exact Y_loadR rfl one3 hr2 rfl rfl | exact Y_load rfl one3 mm_ (eget he rfl) | exact Y_load rfl one3 mm_ (iget hx rfl) | exact Y_load rfl one3 mm_ (by assumption) | exact Y_loadR rfl one3 (by assumption) rfl (by assumption))) rfl rfl ?_ | refine s_pass rfl rfl ?_
        first | refine s_y (Y_eql rfl rfl) rfl rfl ?_ | refine s_pass rfl rfl ?_
        refine s_y (Y_pk rfl (Gx.tmp gt_) Gx.const) rfl rfl ?_
        first | exact hm _ ⟨rfl, trivial⟩ rfl | exact QL.sub sl_ (hm _ ⟨rfl, trivial⟩ rfl)
      · intro ht12 hm
        iterate 3 refine s_pass rfl rfl ?_
        refine s_y (Y_pk rfl (Gx.tmp gt_) Gx.const) rfl rfl ?_
        exact hm _ ⟨rfl, trivial⟩ rfl
      intro j55
      refine s_y (Y_as) rfl rfl ?_
      refine s_nil ?_
      refine q_then ?_
      refine c_ret ?_
      refine q_retG1 rfl gt_ (L' := _) sl_ (⟨by congr 1; unfold placedM; rw [if_neg (by omega), if_neg (by omega), if_neg (by omega), if_pos (by omega)]; unfold btw; rw [Bool.eq_iff_iff]; simp only [nrm_]; omega, rfl⟩)
    · skip
      try simp only [nrm_] at hc4
      refine c_skip ?_
      refine q_then ?_
      refine c_seq ?_
      refine c_seq ?_
      -- goods.go:182 R5
      refine c_reg ?_
      refine s_y (Y_eql rfl rfl) rfl rfl ?_
      refine s_y (Y_as) rfl rfl ?_
      refine s_nil ?_
      refine q_then ?_
      first | refine c_cond' rfl (fun hc5 => ?_) (fun hc5 => ?_) | refine c_cond rfl (fun hc5 => ?_) (fun hc5 => ?_)
      · skip
        try simp only [nrm_] at hc5
        refine c_exit ?_
        repeat with_reducible refine q_te ?_
        refine q_past rfl ?_
        repeat with_reducible refine q_te ?_
        refine q_past rfl ?_
        repeat with_reducible refine q_te ?_
        refine q_exit ?_
        refine q_then ?_
        -- goods.go:183 R9
        refine c_reg ?_
        refine s_y (Y_mv) rfl rfl ?_
        refine s_y (Y_mv) rfl rfl ?_
        apply s_and 4 [57, 58, 59, 60, 61] 61 (g := 57) rfl rfl
        · intro ht2 hm
          try simp only [nrm_] at ht2
          first | refine s_y (Y_fa 3 rfl Try.underlying57 rfl sz3 rfl) rfl rfl ?_ | refine s_pass rfl rfl ?_
          first | refine s_y ((by first | exact Y_load rfl one3 mm_ (by rfl) | exact Y_loadR rfl one3 hr rfl rfl | exact Y_loadR rfl one3 hr2 rfl rfl | exact Y_load rfl one3 mm_ (eget he rfl) | exact Y_load rfl one3 mm_ (iget hx rfl) | exact Y_load rfl one3 mm_ (by assumption) | exact Y_loadR rfl one3 (by assumption) rfl (by assumption))) rfl rfl ?_ | refine s_pass rfl rfl ?_
          first | refine s_y (Y_geq rfl rfl) rfl rfl ?_ | refine s_pass rfl rfl ?_
          refine s_y (Y_pk rfl (Gx.tmp gt_) Gx.const) rfl rfl ?_
          first | exact hm _ ⟨rfl, trivial⟩ rfl | exact QL.sub sl_ (hm _ ⟨rfl, trivial⟩ rfl)
        · intro ht2 hm
          iterate 3 refine s_pass rfl rfl ?_
          refine s_y (Y_pk rfl (Gx.tmp gt_) Gx.const) rfl rfl ?_
          exact hm _ ⟨rfl, trivial⟩ rfl
        intro j61
        refine s_y (Y_mv) rfl rfl ?_
        apply s_and 4 [62, 63, 64, 65, 66] 66 (g := 62) rfl rfl
        · intro ht7 hm
          try simp only [nrm_] at ht7
          first | refine s_y (Y_fa 3 rfl Try.underlying57 rfl sz3 rfl) rfl rfl ?_ | refine s_pass rfl rfl ?_
          first | refine s_y ((by first | exact Y_load rfl one3 mm_ (by rfl) | exact Y_loadR rfl one3 hr rfl rfl | exact Y_loadR rfl one3 hr2 rfl rfl | exact Y_load rfl one3 mm_ (eget he rfl) | exact Y_load rfl one3 mm_ (iget hx rfl) | exact Y_load rfl one3 mm_ (by assumption) | exact Y_loadR rfl one3 (by assumption) rfl (by assumption))) rfl rfl ?_ | refine s_pass rfl rfl ?_
          first | refine s_y (Y_lss rfl rfl) rfl rfl ?_ | refine s_pass rfl rfl ?_
          refine s_y (Y_pk rfl (Gx.tmp gt_) Gx.const) rfl rfl ?_
          first | exact hm _ ⟨rfl, trivial⟩ rfl | exact QL.sub sl_ (hm _ ⟨rfl, trivial⟩ rfl)
        · intro ht7 hm
          iterate 3 refine s_pass rfl rfl ?_
          refine s_y (Y_pk rfl (Gx.tmp gt_) Gx.const) rfl rfl ?_
          exact hm _ ⟨rfl, trivial⟩ rfl
        intro j66
        refine s_y (Y_as) rfl rfl ?_
        refine s_nil ?_
        refine q_bn ?_
        refine q_then ?_
        refine c_seq ?_
        refine c_seq ?_
        -- goods.go:186 R10
        refine c_reg ?_
        refine s_y (Y_mv) rfl rfl ?_
        refine s_y (Y_mv) rfl rfl ?_
        apply s_and 4 [68, 69, 70, 71, 72] 72 (g := 68) rfl rfl
        · intro ht2 hm
          try simp only [nrm_] at ht2
          first | refine s_y (Y_fa 2 rfl Try.underlying57 rfl sz3 rfl) rfl rfl ?_ | refine s_pass rfl rfl ?_
          first | refine s_y ((by first | exact Y_load rfl one3 mm_ (by rfl) | exact Y_loadR rfl one3 hr rfl rfl | exact Y_loadR rfl one3 hr2 rfl rfl | exact Y_load rfl one3 mm_ (eget he rfl) | exact Y_load rfl one3 mm_ (iget hx rfl) | exact Y_load rfl one3 mm_ (by assumption) | exact Y_loadR rfl one3 (by assumption) rfl (by assumption))) rfl rfl ?_ | refine s_pass rfl rfl ?_
          first | refine s_y (Y_geq rfl rfl) rfl rfl ?_ | refine s_pass rfl rfl ?_
          refine s_y (Y_pk rfl (Gx.tmp gt_) Gx.const) rfl rfl ?_
          first | exact hm _ ⟨rfl, trivial⟩ rfl | exact QL.sub sl_ (hm _ ⟨rfl, trivial⟩ rfl)
        · intro ht2 hm
          iterate 3 refine s_pass rfl rfl ?_
          refine s_y (Y_pk rfl (Gx.tmp gt_) Gx.const) rfl rfl ?_
          exact hm _ ⟨rfl, trivial⟩ rfl
        intro j72
        refine s_y (Y_mv) rfl rfl ?_
        apply s_and 4 [73, 74, 75, 76, 77] 77 (g := 73) rfl rfl
        · intro ht7 hm
          try simp only [nrm_] at ht7
          first | refine s_y (Y_fa 2 rfl Try.underlying57 rfl sz3 rfl) rfl rfl ?_ | refine s_pass rfl rfl ?_
          first | refine s_y ((by first | exact Y_load rfl one3 mm_ (by rfl) | exact Y_loadR rfl one3 hr rfl rfl | exact Y_loadR rfl one3 hr2 rfl rfl | exact Y_load rfl one3 mm_ (eget he rfl) | exact Y_load rfl one3 mm_ (iget hx rfl) | exact Y_load rfl one3 mm_ (by assumption) | exact Y_loadR rfl one3 (by assumption) rfl (by assumption))) rfl rfl ?_ | refine s_pass rfl rfl ?_
          first | refine s_y (Y_lss rfl rfl) rfl rfl ?_ | refine s_pass rfl rfl ?_
          refine s_y (Y_pk rfl (Gx.tmp gt_) Gx.const) rfl rfl ?_
          first | exact hm _ ⟨rfl, trivial⟩ rfl | exact QL.sub sl_ (hm _ ⟨rfl, trivial⟩ rfl)
        · intro ht7 hm
          iterate 3 refine s_pass rfl rfl ?_
          refine s_y (Y_pk rfl (Gx.tmp gt_) Gx.const) rfl rfl ?_
          exact hm _ ⟨rfl, trivial⟩ rfl
        intro j77
        refine s_y (Y_as) rfl rfl ?_
        refine s_nil ?_
        refine q_then ?_
        refine c_seq ?_
        -- goods.go:187 R11
        refine c_reg ?_
        refine s_y (Y_mv) rfl rfl ?_
        refine s_y (Y_mv) rfl rfl ?_
        apply s_and 17 [79, 80, 81, 82, 83, 84, 85, 86, 87, 88, 89, 90, 91, 92, 93, 94, 95, 96] 96 (g := 79) rfl rfl
        · intro ht2 hm
          try simp only [nrm_] at ht2
          first | refine s_y (Y_fa 1 rfl Try.underlying57 rfl sz3 rfl) rfl rfl ?_ | refine s_pass rfl rfl ?_
          first | refine s_y ((by first | exact Y_load rfl one3 mm_ (by rfl) | exact Y_loadR rfl one3 hr rfl rfl | exact Y_loadR rfl one3 hr2 rfl rfl | exact Y_load rfl one3 mm_ (eget he rfl) | exact Y_load rfl one3 mm_ (iget hx rfl) | exact Y_load rfl one3 mm_ (by assumption) | exact Y_loadR rfl one3 (by assumption) rfl (by assumption))) rfl rfl ?_ | refine s_pass rfl rfl ?_
          first | refine s_y (Y_eql rfl rfl) rfl rfl ?_ | refine s_pass rfl rfl ?_
          first | refine s_y (Y_mv) rfl rfl ?_ | refine s_pass rfl rfl ?_
          apply s_or 12 [83, 84, 85, 86, 87, 88, 89, 90, 91, 92, 93, 94, 95] 95 (g := 83) rfl rfl
          · intro ht6 hm
            try simp only [nrm_] at ht6
            first | refine s_y (Y_fa 0 rfl Try.underlying57 rfl sz3 rfl) rfl rfl ?_ | refine s_pass rfl rfl ?_
            first | refine s_y ((by first | exact Y_load rfl one3 mm_ (by rfl) | exact Y_loadR rfl one3 hr rfl rfl | exact Y_loadR rfl one3 hr2 rfl rfl | exact Y_load rfl one3 mm_ (eget he rfl) | exact Y_load rfl one3 mm_ (iget hx rfl) | exact Y_load rfl one3 mm_ (by assumption) | exact Y_loadR rfl one3 (by assumption) rfl (by assumption))) rfl rfl ?_ | refine s_pass rfl rfl ?_
            first | refine s_y (Y_fa 3 rfl Try.underlying57 rfl sz3 rfl) rfl rfl ?_ | refine s_pass rfl rfl ?_
            first | refine s_y ((by first | exact Y_load rfl one3 mm_ (by rfl) | exact Y_loadR rfl one3 hr rfl rfl | exact Y_loadR rfl one3 hr2 rfl rfl | exact Y_load rfl one3 mm_ (eget he rfl) | exact Y_load rfl one3 mm_ (iget hx rfl) | exact Y_load rfl one3 mm_ (by assumption) | exact Y_loadR rfl one3 (by assumption) rfl (by assumption))) rfl rfl ?_ | refine s_pass rfl rfl ?_
            first | refine s_y ((by first | exact Y_add rfl rfl (by omega) | exact Y_addw rfl rfl)) rfl rfl ?_ | refine s_pass rfl rfl ?_
            first | refine s_y (Y_eql rfl rfl) rfl rfl ?_ | refine s_pass rfl rfl ?_
            first | refine s_y (Y_mv) rfl rfl ?_ | refine s_pass rfl rfl ?_
            apply s_and 4 [90, 91, 92, 93, 94] 94 (g := 90) rfl rfl
            · intro ht13 hm
              try simp only [nrm_] at ht13
              first | refine s_y (Y_fa 3 rfl Try.underlying57 rfl sz3 rfl) rfl rfl ?_ | refine s_pass rfl rfl ?_
              first | refine s_y ((by first | exact Y_load rfl one3 mm_ (by rfl) | exact Y_loadR rfl one3 hr rfl rfl | exact Y_loadR rfl one3 hr2 rfl rfl | exact Y_load rfl one3 mm_ (eget he rfl) | exact Y_load rfl one3 mm_ (iget hx rfl) | exact Y_load rfl one3 mm_ (by assumption) | exact Y_loadR rfl one3 (by assumption) rfl (by assumption))) rfl rfl ?_ | refine s_pass rfl rfl ?_
              first | refine s_y (Y_geq rfl rfl) rfl rfl ?_ | refine s_pass rfl rfl ?_
              first | refine s_y (Y_pk rfl (Gx.tmp gt_) Gx.const) rfl rfl ?_ | refine s_pass rfl rfl ?_
              first | exact hm _ ⟨rfl, trivial⟩ rfl | exact QL.sub sl_ (hm _ ⟨rfl, trivial⟩ rfl)
            · intro ht13 hm
              iterate 3 refine s_pass rfl rfl ?_
              first | refine s_y (Y_pk rfl (Gx.tmp gt_) Gx.const) rfl rfl ?_ | refine s_pass rfl rfl ?_
              exact hm _ ⟨rfl, trivial⟩ rfl
            intro j94
            first | refine s_y (Y_pk rfl Gx.const (Gx.tmp gt_)) rfl rfl ?_ | refine s_pass rfl rfl ?_
            first | exact hm _ ⟨rfl, trivial⟩ rfl | exact QL.sub sl_ (hm _ ⟨rfl, trivial⟩ rfl)
          · intro ht6 hm
            iterate 11 refine s_pass rfl rfl ?_
            first | refine s_y (Y_pk rfl Gx.const (Gx.tmp gt_)) rfl rfl ?_ | refine s_pass rfl rfl ?_
            exact hm _ ⟨rfl, trivial⟩ rfl
          intro j95
          refine s_y (Y_pk rfl (Gx.tmp gt_) Gx.const) rfl rfl ?_
          first | exact hm _ ⟨rfl, trivial⟩ rfl | exact QL.sub sl_ (hm _ ⟨rfl, trivial⟩ rfl)
        · intro ht2 hm
          iterate 16 refine s_pass rfl rfl ?_
          refine s_y (Y_pk rfl (Gx.tmp gt_) Gx.const) rfl rfl ?_
          exact hm _ ⟨rfl, trivial⟩ rfl
        intro j96
        refine s_y (Y_as) rfl rfl ?_
        refine s_nil ?_
        refine q_then ?_
        refine c_ret ?_
        refine q_retG1 rfl gt_ (L' := _) sl_ (⟨by congr 1; unfold placedM; rw [if_neg (by omega), if_pos (by omega)]; unfold btw; rw [Bool.eq_iff_iff]; simp only [nrm_, IntKind.wrap_i64]; omega, rfl⟩)
      · skip
        try simp only [nrm_] at hc5
        refine c_skip ?_
        refine q_then ?_
        refine c_seq ?_
        -- goods.go:185 R6
        refine c_reg ?_
        refine s_y (Y_eql rfl rfl) rfl rfl ?_
        refine s_y (Y_as) rfl rfl ?_
        refine s_nil ?_
        refine q_then ?_
        first | refine c_cond' rfl (fun hc6 => ?_) (fun hc6 => ?_) | refine c_cond rfl (fun hc6 => ?_) (fun hc6 => ?_)
        · skip
          try simp only [nrm_] at hc6
          refine c_exit ?_
          repeat with_reducible refine q_te ?_
          refine q_past rfl ?_
          repeat with_reducible refine q_te ?_
          refine q_past rfl ?_
          repeat with_reducible refine q_te ?_
          refine q_past rfl ?_
          repeat with_reducible refine q_te ?_
          refine q_exit ?_
          refine q_then ?_
          refine c_seq ?_
          refine c_seq ?_
          -- goods.go:186 R10
          refine c_reg ?_
          refine s_y (Y_mv) rfl rfl ?_
          refine s_y (Y_mv) rfl rfl ?_
          apply s_and 4 [68, 69, 70, 71, 72] 72 (g := 68) rfl rfl
          · intro ht2 hm
            try simp only [nrm_] at ht2
            first | refine s_y (Y_fa 2 rfl Try.underlying57 rfl sz3 rfl) rfl rfl ?_ | refine s_pass rfl rfl ?_
            first | refine s_y ((by first | exact Y_load rfl one3 mm_ (by rfl) | exact Y_loadR rfl one3 hr rfl rfl | exact Y_loadR rfl one3 hr2 rfl rfl | exact Y_load rfl one3 mm_ (eget he rfl) | exact Y_load rfl one3 mm_ (iget hx rfl) | exact Y_load rfl one3 mm_ (by assumption) | exact Y_loadR rfl one3 (by assumption) rfl (by assumption))) rfl rfl ?_ | refine s_pass rfl rfl ?_
            first | refine s_y (Y_geq rfl rfl) rfl rfl ?_ | refine s_pass rfl rfl ?_
            refine s_y (Y_pk rfl (Gx.tmp gt_) Gx.const) rfl rfl ?_
            first | exact hm _ ⟨rfl, trivial⟩ rfl | exact QL.sub sl_ (hm _ ⟨rfl, trivial⟩ rfl)
          · intro ht2 hm
            iterate 3 refine s_pass rfl rfl ?_
            refine s_y (Y_pk rfl (Gx.tmp gt_) Gx.const) rfl rfl ?_
            exact hm _ ⟨rfl, trivial⟩ rfl
          intro j72
          refine s_y (Y_mv) rfl rfl ?_
          apply s_and 4 [73, 74, 75, 76, 77] 77 (g := 73) rfl rfl
          · intro ht7 hm
            try simp only [nrm_] at ht7
            first | refine s_y (Y_fa 2 rfl Try.underlying57 rfl sz3 rfl) rfl rfl ?_ | refine s_pass rfl rfl ?_
            first | refine s_y ((by first | exact Y_load rfl one3 mm_ (by rfl) | exact Y_loadR rfl one3 hr rfl rfl | exact Y_loadR rfl one3 hr2 rfl rfl | exact Y_load rfl one3 mm_ (eget he rfl) | exact Y_load rfl one3 mm_ (iget hx rfl) | exact Y_load rfl one3 mm_ (by assumption) | exact Y_loadR rfl one3 (by assumption) rfl (by assumption))) rfl rfl ?_ | refine s_pass rfl rfl ?_
            first | refine s_y (Y_lss rfl rfl) rfl rfl ?_ | refine s_pass rfl rfl ?_
            refine s_y (Y_pk rfl (Gx.tmp gt_) Gx.const) rfl rfl ?_
            first | exact hm _ ⟨rfl, trivial⟩ rfl | exact QL.sub sl_ (hm _ ⟨rfl, trivial⟩ rfl)
          · intro ht7 hm
            iterate 3 refine s_pass rfl rfl ?_
            refine s_y (Y_pk rfl (Gx.tmp gt_) Gx.const) rfl rfl ?_
            exact hm _ ⟨rfl, trivial⟩ rfl
          intro j77
          refine s_y (Y_as) rfl rfl ?_
          refine s_nil ?_
          refine q_then ?_
          refine c_seq ?_
          -- goods.go:187 R11
          refine c_reg ?_
          refine s_y (Y_mv) rfl rfl ?_
          refine s_y (Y_mv) rfl rfl ?_
          apply s_and 17 [79, 80, 81, 82, 83, 84, 85, 86, 87, 88, 89, 90, 91, 92, 93, 94, 95, 96] 96 (g := 79) rfl rfl
          · intro ht2 hm
            try simp only [nrm_] at ht2
            first | refine s_y (Y_fa 1 rfl Try.underlying57 rfl sz3 rfl) rfl rfl ?_ | refine s_pass rfl rfl ?_
            first | refine s_y ((by first | exact Y_load rfl one3 mm_ (by rfl) | exact Y_loadR rfl one3 hr rfl rfl | exact Y_loadR rfl one3 hr2 rfl rfl | exact Y_load rfl one3 mm_ (eget he rfl) | exact Y_load rfl one3 mm_ (iget hx rfl) | exact Y_load rfl one3 mm_ (by assumption) | exact Y_loadR rfl one3 (by assumption) rfl (by assumption))) rfl rfl ?_ | refine s_pass rfl rfl ?_
            first | refine s_y (Y_eql rfl rfl) rfl rfl ?_ | refine s_pass rfl rfl ?_
            first | refine s_y (Y_mv) rfl rfl ?_ | refine s_pass rfl rfl ?_
            apply s_or 12 [83, 84, 85, 86, 87, 88, 89, 90, 91, 92, 93, 94, 95] 95 (g := 83) rfl rfl
            · intro ht6 hm
              try simp only [nrm_] at ht6
              first | refine s_y (Y_fa 0 rfl Try.underlying57 rfl sz3 rfl) rfl rfl ?_ | refine s_pass rfl rfl ?_
              first | refine s_y ((by first | exact Y_load rfl one3 mm_ (by rfl) | exact Y_loadR rfl one3 hr rfl rfl | exact Y_loadR rfl one3 hr2 rfl rfl | exact Y_load rfl one3 mm_ (eget he rfl) | exact Y_load rfl one3 mm_ (iget hx rfl) | exact Y_load rfl one3 mm_ (by assumption) | exact Y_loadR rfl one3 (by assumption) rfl (by assumption))) rfl rfl ?_ | refine s_pass rfl rfl ?_
              first | refine s_y (Y_fa 3 rfl Try.underlying57 rfl sz3 rfl) rfl rfl ?_ | refine s_pass rfl rfl ?_
              first | refine s_y ((by first | exact Y_load rfl one3 mm_ (by rfl) | exact Y_loadR rfl one3 hr rfl rfl | exact Y_loadR rfl one3 hr2 rfl rfl | exact Y_load rfl one3 mm_ (eget he rfl) | exact Y_load rfl one3 mm_ (iget hx rfl) | exact Y_load rfl one3 mm_ (by assumption) | exact Y_loadR rfl one3 (by assumption) rfl (by assumption))) rfl rfl ?_ | refine s_pass rfl rfl ?_
              first | refine s_y ((by first | exact Y_add rfl rfl (by omega) | exact Y_addw rfl rfl)) rfl rfl ?_ | refine s_pass rfl rfl ?_
              first | refine s_y (Y_eql rfl rfl) rfl rfl ?_ | refine s_pass rfl rfl ?_
              first | refine s_y (Y_mv) rfl rfl ?_ | refine s_pass rfl rfl ?_
              apply s_and 4 [90, 91, 92, 93, 94] 94 (g := 90) rfl rfl
              · intro ht13 hm
                try simp only [nrm_] at ht13
                first | refine s_y (Y_fa 3 rfl Try.underlying57 rfl sz3 rfl) rfl rfl ?_ | refine s_pass rfl rfl ?_
                first | refine s_y ((by first | exact Y_load rfl one3 mm_ (by rfl) | exact Y_loadR rfl one3 hr rfl rfl | exact Y_loadR rfl one3 hr2 rfl rfl | exact Y_load rfl one3 mm_ (eget he rfl) | exact Y_load rfl one3 mm_ (iget hx rfl) | exact Y_load rfl one3 mm_ (by assumption) | exact Y_loadR rfl one3 (by assumption) rfl (by assumption))) rfl rfl ?_ | refine s_pass rfl rfl ?_
                first | refine s_y (Y_geq rfl rfl) rfl rfl ?_ | refine s_pass rfl rfl ?_
                first | refine s_y (Y_pk rfl (Gx.tmp gt_) Gx.const) rfl rfl ?_ | refine s_pass rfl rfl ?_
                first | exact hm _ ⟨rfl, trivial⟩ rfl | exact QL.sub sl_ (hm _ ⟨rfl, trivial⟩ rfl)
              · intro ht13 hm
                iterate 3 refine s_pass rfl rfl ?_
                first | refine s_y (Y_pk rfl (Gx.tmp gt_) Gx.const) rfl rfl ?_ | refine s_pass rfl rfl ?_
                exact hm _ ⟨rfl, trivial⟩ rfl
              intro j94
              first | refine s_y (Y_pk rfl Gx.const (Gx.tmp gt_)) rfl rfl ?_ | refine s_pass rfl rfl ?_
              first | exact hm _ ⟨rfl, trivial⟩ rfl | exact QL.sub sl_ (hm _ ⟨rfl, trivial⟩ rfl)
            · intro ht6 hm
              iterate 11 refine s_pass rfl rfl ?_
              first | refine s_y (Y_pk rfl Gx.const (Gx.tmp gt_)) rfl rfl ?_ | refine s_pass rfl rfl ?_
              exact hm _ ⟨rfl, trivial⟩ rfl
            intro j95
            refine s_y (Y_pk rfl (Gx.tmp gt_) Gx.const) rfl rfl ?_
            first | exact hm _ ⟨rfl, trivial⟩ rfl | exact QL.sub sl_ (hm _ ⟨rfl, trivial⟩ rfl)
          · intro ht2 hm
            iterate 16 refine s_pass rfl rfl ?_
            refine s_y (Y_pk rfl (Gx.tmp gt_) Gx.const) rfl rfl ?_
            exact hm _ ⟨rfl, trivial⟩ rfl
          intro j96
          refine s_y (Y_as) rfl rfl ?_
          refine s_nil ?_
          refine q_then ?_
          refine c_ret ?_
          refine q_retG1 rfl gt_ (L' := _) sl_ (⟨by congr 1; unfold placedM; rw [if_neg (by omega), if_neg (by omega), if_pos (by omega)]; unfold btw; rw [Bool.eq_iff_iff]; simp only [nrm_, IntKind.wrap_i64]; omega, rfl⟩)
        · skip
          try simp only [nrm_] at hc6
          refine c_skip ?_
          refine q_then ?_
          refine c_exit ?_
          repeat with_reducible refine q_te ?_
          refine q_past rfl ?_
          repeat with_reducible refine q_te ?_
          refine q_past rfl ?_
          repeat with_reducible refine q_te ?_
          refine q_past rfl ?_
          repeat with_reducible refine q_te ?_
          refine q_past rfl ?_
          repeat with_reducible refine q_te ?_
          refine q_exit ?_
          refine q_then ?_
          refine c_seq ?_
          -- goods.go:189 R12
          refine c_reg ?_
          refine s_y (Y_asC) rfl rfl ?_
          refine s_nil ?_
          refine q_then ?_
          refine c_ret ?_
          refine q_retG1 rfl gt_ (L' := _) sl_ (⟨by congr 1; unfold placedM; rw [if_neg (by omega), if_neg (by omega), if_neg (by omega), if_neg (by omega)]; simp, rfl⟩)
set_option maxRecDepth 100000 in
theorem pstats_d {k : Int} : Does Try.prog 40 [iv k] W [] (fun v L => v = .agg (statsM k).cells.toArray ∧ L = []) := by
  refine enter Try.func40 rfl rfl rfl (Has.start _) ?_
  refine c_seq ?_
  -- ents.go:14 R0
  refine c_reg ?_
  refine s_n (N_alloc (z := .agg #[.int .i64 0, .int .i64 0, .int .i64 0, .int .i64 0, .int .i64 0, .int .i64 0, .int .i64 0, .int .i64 0, .int .i64 0, .int .i64 0, .int .i64 0]) (cs := [.int .i64 0, .int .i64 0, .int .i64 0, .int .i64 0, .int .i64 0, .int .i64 0, .int .i64 0, .int .i64 0, .int .i64 0, .int .i64 0, .int .i64 0]) zv48 rfl) rfl rfl (fun b2 _ => ?_)
  refine s_nil ?_
  refine q_then ?_
  refine c_seq ?_
  -- ents.go:15 R1
  refine c_reg ?_
  refine s_y (Y_mv) rfl rfl ?_
  refine s_y (Y_build (cs := [_, .int .i64 0, .int .i64 0, .int .i64 0, .int .i64 0, .int .i64 0, .int .i64 0, .int .i64 0, .int .i64 0, .int .i64 0, .int .i64 0]) (by repeat (first | exact Gp.nil | apply Gp.const | apply Gp.tmp gt_)) (bld48 _ _ (by first | rfl | (simp; rfl)))) rfl rfl ?_
  refine s_n (N_alloc (z := .agg #[.int .i64 0, .int .i64 0, .int .i64 0, .int .i64 0, .int .i64 0, .int .i64 0, .int .i64 0, .int .i64 0, .int .i64 0, .int .i64 0, .int .i64 0]) (cs := [.int .i64 0, .int .i64 0, .int .i64 0, .int .i64 0, .int .i64 0, .int .i64 0, .int .i64 0, .int .i64 0, .int .i64 0, .int .i64 0, .int .i64 0]) zv48 rfl) rfl rfl (fun b3 _ => ?_)
  refine s_s ((by first | exact S_storeA rfl rfl sz48 (by first | rfl | assumption) (by first | rfl | assumption) (by repeat (first | exact Upd.head | apply Upd.tail)) (by first | rfl | assumption) | exact S_storeN rfl rfl sz48 (by rfl) (by first | rfl | assumption) (by repeat (first | exact Upd.head | apply Upd.tail)) (by simp only [setAll, List.set_cons_zero, List.set_cons_succ, Nat.zero_add, Nat.reduceAdd]; rfl) (by first | rfl | assumption))) rfl ?_
  refine s_nil ?_
  refine q_then ?_
  refine c_seq ?_
  refine c_seq ?_
  -- ents.go:16 R2
  refine c_reg ?_
  refine s_y (Y_mv) rfl rfl ?_
  refine s_nil ?_
  refine q_then ?_
  refine c_block ?_
  refine c_seq ?_
  -- ents.go:17 R4
  refine c_reg ?_
  refine s_y (Y_eql rfl rfl) rfl rfl ?_
  refine s_y (Y_as) rfl rfl ?_
  refine s_nil ?_
  refine q_then ?_
  first | refine c_cond' rfl (fun hc4 => ?_) (fun hc4 => ?_) | refine c_cond rfl (fun hc4 => ?_) (fun hc4 => ?_)
  · skip
    try simp only [nrm_] at hc4
    -- ents.go:18 R5
    refine c_reg ?_
    refine s_y (Y_fa 5 rfl Try.underlying48 rfl sz3 rfl) rfl rfl ?_
    refine s_s (S_stC rfl sz3 (by rfl) (by repeat (first | exact Upd.head | apply Upd.tail)) (by first | (simp only [Nat.zero_add, Nat.reduceAdd, List.set_cons_succ, List.set_cons_zero]; rfl) | rfl) (by first | (simp; done) | omega)) rfl ?_
    refine s_y (Y_fa 7 rfl Try.underlying48 rfl sz3 rfl) rfl rfl ?_
    refine s_s (S_stC rfl sz3 (by rfl) (by repeat (first | exact Upd.head | apply Upd.tail)) (by first | (simp only [Nat.zero_add, Nat.reduceAdd, List.set_cons_succ, List.set_cons_zero]; rfl) | rfl) (by first | (simp; done) | omega)) rfl ?_
    refine s_y (Y_fa 8 rfl Try.underlying48 rfl sz3 rfl) rfl rfl ?_
    refine s_s (S_stC rfl sz3 (by rfl) (by repeat (first | exact Upd.head | apply Upd.tail)) (by first | (simp only [Nat.zero_add, Nat.reduceAdd, List.set_cons_succ, List.set_cons_zero]; rfl) | rfl) (by first | (simp; done) | omega)) rfl ?_
    refine s_nil ?_
    refine q_bn ?_
    refine q_then ?_
    refine c_seq ?_
    -- ents.go:28 R12
    refine c_reg ?_
    refine s_y (Y_fa 5 rfl Try.underlying48 rfl sz3 rfl) rfl rfl ?_
    refine s_y ((by first | exact Y_load rfl one3 mm_ (by rfl) | exact Y_loadR rfl one3 hr rfl rfl | exact Y_loadR rfl one3 hr2 rfl rfl | exact Y_load rfl one3 mm_ (eget he rfl) | exact Y_load rfl one3 mm_ (iget hx rfl) | exact Y_load rfl one3 mm_ (by assumption) | exact Y_loadR rfl one3 (by assumption) rfl (by assumption))) rfl rfl ?_
    refine s_y (Y_fa 6 rfl Try.underlying48 rfl sz3 rfl) rfl rfl ?_
    refine s_s (S_st rfl gt_ sz3 (by rfl) (by repeat (first | exact Upd.head | apply Upd.tail)) (by first | (simp only [Nat.zero_add, Nat.reduceAdd, List.set_cons_succ, List.set_cons_zero]; rfl) | rfl) (by first | (simp; done) | omega)) rfl ?_
    refine s_nil ?_
    refine q_then ?_
    refine c_seq ?_
    -- ents.go:29 R13
    refine c_reg ?_
    refine s_y ((by first | exact Y_loadAll rfl many48 mm_ (by rfl) | exact Y_loadN rfl many48 mm_ ‹_› ‹_› | exact Y_loadNR rfl many48 hr rfl | exact Y_loadNR rfl many48 hr2 rfl | exact Y_loadNR rfl many48 ‹_› rfl)) rfl rfl ?_
    refine s_s ((by first | exact S_storeA rfl rfl sz48 (by first | rfl | assumption) (by first | rfl | assumption) (by repeat (first | exact Upd.head | apply Upd.tail)) (by first | rfl | assumption) | exact S_storeN rfl rfl sz48 (by rfl) (by first | rfl | assumption) (by repeat (first | exact Upd.head | apply Upd.tail)) (by simp only [setAll, List.set_cons_zero, List.set_cons_succ, Nat.zero_add, Nat.reduceAdd]; rfl) (by first | rfl | assumption))) rfl ?_
    refine s_nil ?_
    refine q_then ?_
    refine c_ret ?_
    refine q_ret1c rfl rfl many48 mm_ (by rfl) (L' := _) sl_ (⟨by first | (obtain rfl : k = 1 := by omega); rfl | (obtain rfl : k = 2 := by omega); rfl | (obtain rfl : k = 3 := by omega); rfl | (obtain rfl : k = 4 := by omega); rfl, rfl⟩)
  · skip
    try simp only [nrm_] at hc4
    refine c_seq ?_
    -- ents.go:19 R6
    refine c_reg ?_
    refine s_y (Y_eql rfl rfl) rfl rfl ?_
    refine s_y (Y_as) rfl rfl ?_
    refine s_nil ?_
    refine q_then ?_
    first | refine c_cond' rfl (fun hc6 => ?_) (fun hc6 => ?_) | refine c_cond rfl (fun hc6 => ?_) (fun hc6 => ?_)
    · skip
      try simp only [nrm_] at hc6
      -- ents.go:20 R7
      refine c_reg ?_
      refine s_y (Y_fa 5 rfl Try.underlying48 rfl sz3 rfl) rfl rfl ?_
      refine s_s (S_stC rfl sz3 (by rfl) (by repeat (first | exact Upd.head | apply Upd.tail)) (by first | (simp only [Nat.zero_add, Nat.reduceAdd, List.set_cons_succ, List.set_cons_zero]; rfl) | rfl) (by first | (simp; done) | omega)) rfl ?_
      refine s_y (Y_fa 7 rfl Try.underlying48 rfl sz3 rfl) rfl rfl ?_
      refine s_s (S_stC rfl sz3 (by rfl) (by repeat (first | exact Upd.head | apply Upd.tail)) (by first | (simp only [Nat.zero_add, Nat.reduceAdd, List.set_cons_succ, List.set_cons_zero]; rfl) | rfl) (by first | (simp; done) | omega)) rfl ?_
      refine s_nil ?_
      refine q_bn ?_
      refine q_then ?_
      refine c_seq ?_
      -- ents.go:28 R12
      refine c_reg ?_
      refine s_y (Y_fa 5 rfl Try.underlying48 rfl sz3 rfl) rfl rfl ?_
      refine s_y ((by first | exact Y_load rfl one3 mm_ (by rfl) | exact Y_loadR rfl one3 hr rfl rfl | exact Y_loadR rfl one3 hr2 rfl rfl | exact Y_load rfl one3 mm_ (eget he rfl) | exact Y_load rfl one3 mm_ (iget hx rfl) | exact Y_load rfl one3 mm_ (by assumption) | exact Y_loadR rfl one3 (by assumption) rfl (by assumption))) rfl rfl ?_
      refine s_y (Y_fa 6 rfl Try.underlying48 rfl sz3 rfl) rfl rfl ?_
      refine s_s (S_st rfl gt_ sz3 (by rfl) (by repeat (first | exact Upd.head | apply Upd.tail)) (by first | (simp only [Nat.zero_add, Nat.reduceAdd, List.set_cons_succ, List.set_cons_zero]; rfl) | rfl) (by first | (simp; done) | omega)) rfl ?_
      refine s_nil ?_
      refine q_then ?_
      refine c_seq ?_
      -- ents.go:29 R13
      refine c_reg ?_
      refine s_y ((by first | exact Y_loadAll rfl many48 mm_ (by rfl) | exact Y_loadN rfl many48 mm_ ‹_› ‹_› | exact Y_loadNR rfl many48 hr rfl | exact Y_loadNR rfl many48 hr2 rfl | exact Y_loadNR rfl many48 ‹_› rfl)) rfl rfl ?_
      refine s_s ((by first | exact S_storeA rfl rfl sz48 (by first | rfl | assumption) (by first | rfl | assumption) (by repeat (first | exact Upd.head | apply Upd.tail)) (by first | rfl | assumption) | exact S_storeN rfl rfl sz48 (by rfl) (by first | rfl | assumption) (by repeat (first | exact Upd.head | apply Upd.tail)) (by simp only [setAll, List.set_cons_zero, List.set_cons_succ, Nat.zero_add, Nat.reduceAdd]; rfl) (by first | rfl | assumption))) rfl ?_
      refine s_nil ?_
      refine q_then ?_
      refine c_ret ?_
      refine q_ret1c rfl rfl many48 mm_ (by rfl) (L' := _) sl_ (⟨by first | (obtain rfl : k = 1 := by omega); rfl | (obtain rfl : k = 2 := by omega); rfl | (obtain rfl : k = 3 := by omega); rfl | (obtain rfl : k = 4 := by omega); rfl, rfl⟩)
    · skip
      try simp only [nrm_] at hc6
      refine c_seq ?_
      -- ents.go:21 R8
      refine c_reg ?_
      refine s_y (Y_eql rfl rfl) rfl rfl ?_
      refine s_y (Y_as) rfl rfl ?_
      refine s_nil ?_
      refine q_then ?_
      first | refine c_cond' rfl (fun hc8 => ?_) (fun hc8 => ?_) | refine c_cond rfl (fun hc8 => ?_) (fun hc8 => ?_)
      · skip
        try simp only [nrm_] at hc8
        -- ents.go:22 R9
        refine c_reg ?_
        refine s_y (Y_fa 5 rfl Try.underlying48 rfl sz3 rfl) rfl rfl ?_
        refine s_s (S_stC rfl sz3 (by rfl) (by repeat (first | exact Upd.head | apply Upd.tail)) (by first | (simp only [Nat.zero_add, Nat.reduceAdd, List.set_cons_succ, List.set_cons_zero]; rfl) | rfl) (by first | (simp; done) | omega)) rfl ?_
        refine s_y (Y_fa 7 rfl Try.underlying48 rfl sz3 rfl) rfl rfl ?_
        refine s_s (S_stC rfl sz3 (by rfl) (by repeat (first | exact Upd.head | apply Upd.tail)) (by first | (simp only [Nat.zero_add, Nat.reduceAdd, List.set_cons_succ, List.set_cons_zero]; rfl) | rfl) (by first | (simp; done) | omega)) rfl ?_
        refine s_y (Y_fa 8 rfl Try.underlying48 rfl sz3 rfl) rfl rfl ?_
        refine s_s (S_stC rfl sz3 (by rfl) (by repeat (first | exact Upd.head | apply Upd.tail)) (by first | (simp only [Nat.zero_add, Nat.reduceAdd, List.set_cons_succ, List.set_cons_zero]; rfl) | rfl) (by first | (simp; done) | omega)) rfl ?_
        refine s_nil ?_
        refine q_bn ?_
        refine q_then ?_
        refine c_seq ?_
        -- ents.go:28 R12
        refine c_reg ?_
        refine s_y (Y_fa 5 rfl Try.underlying48 rfl sz3 rfl) rfl rfl ?_
        refine s_y ((by first | exact Y_load rfl one3 mm_ (by rfl) | exact Y_loadR rfl one3 hr rfl rfl | exact Y_loadR rfl one3 hr2 rfl rfl | exact Y_load rfl one3 mm_ (eget he rfl) | exact Y_load rfl one3 mm_ (iget hx rfl) | exact Y_load rfl one3 mm_ (by assumption) | exact Y_loadR rfl one3 (by assumption) rfl (by assumption))) rfl rfl ?_
        refine s_y (Y_fa 6 rfl Try.underlying48 rfl sz3 rfl) rfl rfl ?_
        refine s_s (S_st rfl gt_ sz3 (by rfl) (by repeat (first | exact Upd.head | apply Upd.tail)) (by first | (simp only [Nat.zero_add, Nat.reduceAdd, List.set_cons_succ, List.set_cons_zero]; rfl) | rfl) (by first | (simp; done) | omega)) rfl ?_
        refine s_nil ?_
        refine q_then ?_
        refine c_seq ?_
        -- ents.go:29 R13
        refine c_reg ?_
        refine s_y ((by first | exact Y_loadAll rfl many48 mm_ (by rfl) | exact Y_loadN rfl many48 mm_ ‹_› ‹_› | exact Y_loadNR rfl many48 hr rfl | exact Y_loadNR rfl many48 hr2 rfl | exact Y_loadNR rfl many48 ‹_› rfl)) rfl rfl ?_
        refine s_s ((by first | exact S_storeA rfl rfl sz48 (by first | rfl | assumption) (by first | rfl | assumption) (by repeat (first | exact Upd.head | apply Upd.tail)) (by first | rfl | assumption) | exact S_storeN rfl rfl sz48 (by rfl) (by first | rfl | assumption) (by repeat (first | exact Upd.head | apply Upd.tail)) (by simp only [setAll, List.set_cons_zero, List.set_cons_succ, Nat.zero_add, Nat.reduceAdd]; rfl) (by first | rfl | assumption))) rfl ?_
        refine s_nil ?_
        refine q_then ?_
        refine c_ret ?_
        refine q_ret1c rfl rfl many48 mm_ (by rfl) (L' := _) sl_ (⟨by first | (obtain rfl : k = 1 := by omega); rfl | (obtain rfl : k = 2 := by omega); rfl | (obtain rfl : k = 3 := by omega); rfl | (obtain rfl : k = 4 := by omega); rfl, rfl⟩)
      · skip
        try simp only [nrm_] at hc8
        refine c_seq ?_
        -- ents.go:23 R10
        refine c_reg ?_
        refine s_y (Y_eql rfl rfl) rfl rfl ?_
        refine s_y (Y_as) rfl rfl ?_
        refine s_nil ?_
        refine q_then ?_
        first | refine c_cond' rfl (fun hc10 => ?_) (fun hc10 => ?_) | refine c_cond rfl (fun hc10 => ?_) (fun hc10 => ?_)
        · skip
          try simp only [nrm_] at hc10
          -- ents.go:24 R11
          refine c_reg ?_
          refine s_y (Y_fa 5 rfl Try.underlying48 rfl sz3 rfl) rfl rfl ?_
          refine s_s (S_stC rfl sz3 (by rfl) (by repeat (first | exact Upd.head | apply Upd.tail)) (by first | (simp only [Nat.zero_add, Nat.reduceAdd, List.set_cons_succ, List.set_cons_zero]; rfl) | rfl) (by first | (simp; done) | omega)) rfl ?_
          refine s_y (Y_fa 7 rfl Try.underlying48 rfl sz3 rfl) rfl rfl ?_
          refine s_s (S_stC rfl sz3 (by rfl) (by repeat (first | exact Upd.head | apply Upd.tail)) (by first | (simp only [Nat.zero_add, Nat.reduceAdd, List.set_cons_succ, List.set_cons_zero]; rfl) | rfl) (by first | (simp; done) | omega)) rfl ?_
          refine s_nil ?_
          refine q_bn ?_
          refine q_then ?_
          refine c_seq ?_
          -- ents.go:28 R12
          refine c_reg ?_
          refine s_y (Y_fa 5 rfl Try.underlying48 rfl sz3 rfl) rfl rfl ?_
          refine s_y ((by first | exact Y_load rfl one3 mm_ (by rfl) | exact Y_loadR rfl one3 hr rfl rfl | exact Y_loadR rfl one3 hr2 rfl rfl | exact Y_load rfl one3 mm_ (eget he rfl) | exact Y_load rfl one3 mm_ (iget hx rfl) | exact Y_load rfl one3 mm_ (by assumption) | exact Y_loadR rfl one3 (by assumption) rfl (by assumption))) rfl rfl ?_
          refine s_y (Y_fa 6 rfl Try.underlying48 rfl sz3 rfl) rfl rfl ?_
          refine s_s (S_st rfl gt_ sz3 (by rfl) (by repeat (first | exact Upd.head | apply Upd.tail)) (by first | (simp only [Nat.zero_add, Nat.reduceAdd, List.set_cons_succ, List.set_cons_zero]; rfl) | rfl) (by first | (simp; done) | omega)) rfl ?_
          refine s_nil ?_
          refine q_then ?_
          refine c_seq ?_
          -- ents.go:29 R13
          refine c_reg ?_
          refine s_y ((by first | exact Y_loadAll rfl many48 mm_ (by rfl) | exact Y_loadN rfl many48 mm_ ‹_› ‹_› | exact Y_loadNR rfl many48 hr rfl | exact Y_loadNR rfl many48 hr2 rfl | exact Y_loadNR rfl many48 ‹_› rfl)) rfl rfl ?_
          refine s_s ((by first | exact S_storeA rfl rfl sz48 (by first | rfl | assumption) (by first | rfl | assumption) (by repeat (first | exact Upd.head | apply Upd.tail)) (by first | rfl | assumption) | exact S_storeN rfl rfl sz48 (by rfl) (by first | rfl | assumption) (by repeat (first | exact Upd.head | apply Upd.tail)) (by simp only [setAll, List.set_cons_zero, List.set_cons_succ, Nat.zero_add, Nat.reduceAdd]; rfl) (by first | rfl | assumption))) rfl ?_
          refine s_nil ?_
          refine q_then ?_
          refine c_ret ?_
          refine q_ret1c rfl rfl many48 mm_ (by rfl) (L' := _) sl_ (⟨by first | (obtain rfl : k = 1 := by omega); rfl | (obtain rfl : k = 2 := by omega); rfl | (obtain rfl : k = 3 := by omega); rfl | (obtain rfl : k = 4 := by omega); rfl, rfl⟩)
        · skip
          try simp only [nrm_] at hc10
          refine c_seq ?_
          -- ents.go:26 R3
          refine c_reg ?_
          refine s_y (Y_build (cs := [.int .i64 0, .int .i64 0, .int .i64 0, .int .i64 0, .int .i64 0, .int .i64 0, .int .i64 0, .int .i64 0, .int .i64 0, .int .i64 0, .int .i64 0]) (by repeat (first | exact Gp.nil | apply Gp.const | apply Gp.tmp gt_)) (bld48 _ _ (by first | rfl | (simp; rfl)))) rfl rfl ?_
          refine s_s ((by first | exact S_storeA rfl rfl sz48 (by first | rfl | assumption) (by first | rfl | assumption) (by repeat (first | exact Upd.head | apply Upd.tail)) (by first | rfl | assumption) | exact S_storeN rfl rfl sz48 (by rfl) (by first | rfl | assumption) (by repeat (first | exact Upd.head | apply Upd.tail)) (by simp only [setAll, List.set_cons_zero, List.set_cons_succ, Nat.zero_add, Nat.reduceAdd]; rfl) (by first | rfl | assumption))) rfl ?_
          refine s_nil ?_
          refine q_then ?_
          refine c_ret ?_
          refine q_ret1c rfl rfl many48 mm_ (by rfl) (L' := _) sl_ (⟨by rw [show statsM k = Ent.zero by unfold statsM; rw [if_neg (by omega), if_neg (by omega), if_neg (by omega), if_neg (by omega)]]; rfl, rfl⟩)
end
end Go.Proofs.Ytecodneffflpoaa
