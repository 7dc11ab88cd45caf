/- The document's dice and cells, walked. -/
import Derived.Test.YtecodneffflpoaaG3
namespace Go.Proofs.Ytecodneffflpoaa
open Go.RowKit Go.Ad Go.Maps
set_option linter.unusedVariables false
set_option linter.unusedSimpArgs false
section
variable {W : World}
set_option maxRecDepth 100000 in
theorem rm_d (x : Int) : Does Try.prog 76 [.int .u64 x] W [] (fun v L => v = .int .u64 (mM x) ∧ L = []) := by
  refine enter Try.func76 rfl rfl rfl (Has.start _) ?_
  refine c_seq ?_
  -- ref.go:7 R0
  refine c_reg ?_
  refine s_y (Y_asC) rfl rfl ?_
  refine s_nil ?_
  refine q_then ?_
  refine c_seq ?_
  -- ref.go:8 R1
  refine c_reg ?_
  refine s_y (Y_mv) rfl rfl ?_
  refine s_y (Y_mv) rfl rfl ?_
  refine s_y (Y_shr rfl rfl (by omega)) rfl rfl ?_
  refine s_y (Y_xr rfl rfl) rfl rfl ?_
  refine s_y (Y_mulw rfl rfl) rfl rfl ?_
  refine s_y (Y_as) rfl rfl ?_
  refine s_nil ?_
  refine q_then ?_
  refine c_seq ?_
  -- ref.go:9 R2
  refine c_reg ?_
  refine s_y (Y_mv) rfl rfl ?_
  refine s_y (Y_mv) rfl rfl ?_
  refine s_y (Y_shr rfl rfl (by omega)) rfl rfl ?_
  refine s_y (Y_xr rfl rfl) rfl rfl ?_
  refine s_y (Y_mulw rfl rfl) rfl rfl ?_
  refine s_y (Y_as) rfl rfl ?_
  refine s_nil ?_
  refine q_then ?_
  refine c_seq ?_
  -- ref.go:10 R3
  refine c_reg ?_
  refine s_y (Y_mv) rfl rfl ?_
  refine s_y (Y_mv) rfl rfl ?_
  refine s_y (Y_shr rfl rfl (by omega)) rfl rfl ?_
  refine s_y (Y_xr rfl rfl) rfl rfl ?_
  refine s_y (Y_as) rfl rfl ?_
  refine s_nil ?_
  refine q_then ?_
  refine c_ret ?_
  refine q_retG1 rfl gt_ (L' := _) sl_ (⟨rfl, rfl⟩)
set_option maxRecDepth 100000 in
theorem rmix_d {seed : Int} {b o n c : Nat} {l : List Int} (hs : SlB W b o n c 1 (l.map iv)) : Does Try.prog 73 [iv seed, .slice (some ⟨b, o, none⟩) n c] W [] (fun v L => v = .int .u64 (mixM seed l) ∧ L = []) := by
  have hn : l.length = n := by have := hs.len; simpa using this
  have hb := hs.cap
  have hg := hs.big
  simp only [maxLen] at hg
  refine enter Try.func73 rfl rfl rfl (Has.start _) ?_
  refine c_seq ?_
  -- ref.go:14 R0
  refine c_reg ?_
  refine s_y (Y_asC) rfl rfl ?_
  refine s_nil ?_
  refine q_then ?_
  refine c_seq ?_
  -- ref.go:15 R1
  refine c_reg ?_
  refine s_y (Y_mv) rfl rfl ?_
  refine s_y ((by first | exact Y_conv rfl Try.underlying2 Try.underlying54 (by first | exact i64_u8 _ | exact u64_u8 _ | exact i64_id (by omega) | exact u64_id (by omega) | exact u8_id (by omega) | exact u32_id (by omega)) | exact Y_convw rfl Try.underlying2 Try.underlying54)) rfl rfl ?_
  refine s_y (Y_addw rfl rfl) rfl rfl ?_
  refine s_c (En_call (fun _ => rfl) Try.func76 rfl (by kernel_rfl) rfl) (fun w hH => rm_d _) rfl rfl ?_
  rintro _ _ ⟨rfl, rfl⟩
  refine s_y (Y_as) rfl rfl ?_
  refine s_nil ?_
  refine q_then ?_
  refine c_seq ?_
  refine c_seq ?_
  -- ref.go:16 R2
  refine c_reg ?_
  refine s_y (Y_asC) rfl rfl ?_
  refine s_nil ?_
  refine q_then ?_
  refine c_block ?_
  refine c_loop [5, 6, 11, 12, 13, 14, 15, 16, 17, 18, 19, 20, 21, 22, 23, 24, 25] (fun m (y : Nat × Int) => y.1 + m = n ∧ (l.drop y.1).foldl mixS y.2 = mixM seed l) (fun y => [(5, .int .u64 y.2), (6, iv y.1)]) (fun _ => []) (n) ((0, mM (IntKind.u64.wrap (IntKind.u64.wrap seed + 11400714819323198485)))) (⟨by omega, (mixM_eq seed l).symm⟩) (by repeat (first | exact trivial | refine ⟨rfl, ?_⟩)) (fun _ h => h.sub sl_) (fun _ => rfl) ?_
  rintro m ⟨i, x⟩ j ⟨hi, hf⟩ K hK
  simp only at hi hf ⊢
  refine c_seq ?_
  refine c_seq ?_
  -- ref.go:16 R3
  refine c_reg ?_
  refine s_y (Y_mv) rfl rfl ?_
  refine s_y (Y_mv) rfl rfl ?_
  refine s_y (Y_len rfl rfl Try.underlying22) rfl rfl ?_
  refine s_y (Y_lss rfl rfl) rfl rfl ?_
  refine s_nil ?_
  refine q_then ?_
  first | refine c_cond' rfl (fun hc3 => ?_) (fun hc3 => ?_) | refine c_cond rfl (fun hc3 => ?_) (fun hc3 => ?_)
  · skip
    try simp only [nrm_] at hc3
    refine c_skip ?_
    refine q_then ?_
    refine c_seq ?_
    refine c_block ?_
    -- ref.go:17 R5
    obtain ⟨z, hz⟩ := take_lt (show i < l.length by omega)
    rw [List.drop_eq_getElem_cons (show i < l.length by omega), List.foldl_cons] at hf
    obtain rfl : l[i]'(by omega) = z := (List.getElem?_eq_some_iff.1 hz).2
    refine c_reg ?_
    refine s_y (Y_mv) rfl rfl ?_
    refine s_y (Y_mv) rfl rfl ?_
    refine s_y (Y_mv) rfl rfl ?_
    refine s_y (Y_ia1 rfl rfl Try.underlying22 sz3 rfl (by omega)) rfl rfl ?_
    refine s_y (Y_loadR (i := i) rfl one3 hs.ro rfl (by rw [List.getElem?_map, hz]; rfl)) rfl rfl ?_
    refine s_y ((by first | exact Y_conv rfl Try.underlying3 Try.underlying54 (by first | exact i64_u8 _ | exact u64_u8 _ | exact i64_id (by omega) | exact u64_id (by omega) | exact u8_id (by omega) | exact u32_id (by omega)) | exact Y_convw rfl Try.underlying3 Try.underlying54)) rfl rfl ?_
    refine s_y (Y_xr rfl rfl) rfl rfl ?_
    refine s_y (Y_addw rfl rfl) rfl rfl ?_
    refine s_c (En_call (fun _ => rfl) Try.func76 rfl (by kernel_rfl) rfl) (fun w hH => rm_d _) rfl rfl ?_
    rintro _ _ ⟨rfl, rfl⟩
    refine s_y (Y_as) rfl rfl ?_
    refine s_nil ?_
    refine q_bn ?_
    refine q_then ?_
    -- ref.go:16 R4
    refine c_reg ?_
    refine s_y (Y_mv) rfl rfl ?_
    refine s_y ((by first | exact Y_add rfl rfl (by omega) | exact Y_addw rfl rfl)) rfl rfl ?_
    refine s_y (Y_as) rfl rfl ?_
    refine s_nil ?_
    refine hK (m - 1) (i + 1, _) _ _ (by omega) ⟨by simp only; omega, hf⟩ ⟨rfl, rfl, trivial⟩ rfl (fun _ h => h)
  · skip
    try simp only [nrm_] at hc3
    refine c_exit ?_
    repeat with_reducible refine q_te ?_
    refine q_exit ?_
    refine q_then ?_
    refine c_seq ?_
    -- ref.go:19 R6
    refine c_reg ?_
    refine s_y (Y_mv) rfl rfl ?_
    refine s_y (Y_as) rfl rfl ?_
    refine s_nil ?_
    refine q_then ?_
    refine c_ret ?_
    refine q_retG1 rfl gt_ (L' := _) sl_ (⟨by rw [← hf, List.drop_eq_nil_of_le (by omega)]; rfl, rfl⟩)
set_option maxRecDepth 100000 in
theorem rdie_d {m seed : Int} (hm : 1 ≤ m ∧ m ≤ 4611686018427387904) {b o n c : Nat} {l : List Int} (hs : SlB W b o n c 1 (l.map iv)) : Does Try.prog 65 [iv m, iv seed, .slice (some ⟨b, o, none⟩) n c] W [] (fun v L => v = iv (dieM m seed l) ∧ L = []) := by
  have hx := mixM_rng seed l
  have hd := dieM_rng (n := m) (by omega) seed l
  have hu : IntKind.u64.wrap m = m := u64_id (by omega)
  refine enter Try.func65 rfl rfl rfl (Has.start _) ?_
  refine c_seq ?_
  -- ref.go:23 R0
  refine c_reg ?_
  refine s_y (Y_asC) rfl rfl ?_
  refine s_nil ?_
  refine q_then ?_
  refine c_seq ?_
  refine c_seq ?_
  -- ref.go:24 R1
  refine c_reg ?_
  refine s_y (Y_mv) rfl rfl ?_
  refine s_y (Y_lss rfl rfl) rfl rfl ?_
  refine s_nil ?_
  refine q_then ?_
  refine c_F rfl ((decide_eq_false (by omega))) ?_
  refine c_skip ?_
  refine q_then ?_
  refine c_seq ?_
  -- ref.go:27 R3
  refine c_reg ?_
  refine s_y (Y_mv) rfl rfl ?_
  refine s_y (Y_mv) rfl rfl ?_
  refine s_c (En_call (fun _ => rfl) Try.func73 rfl (by kernel_rfl) rfl) (fun w hH => rmix_d (hs.has hH)) rfl rfl ?_
  rintro _ _ ⟨rfl, rfl⟩
  refine s_y (Y_mv) rfl rfl ?_
  refine s_y ((by first | exact Y_conv rfl Try.underlying3 Try.underlying54 (by first | exact i64_u8 _ | exact u64_u8 _ | exact i64_id (by omega) | exact u64_id (by omega) | exact u8_id (by omega) | exact u32_id (by omega)) | exact Y_convw rfl Try.underlying3 Try.underlying54)) rfl rfl ?_
  refine s_y (Y_rem rfl rfl (by omega)) rfl rfl ?_
  refine s_y (Y_conv rfl Try.underlying54 Try.underlying3 (i64_id (by unfold dieM at hd; omega))) rfl rfl ?_
  refine s_y (Y_as) rfl rfl ?_
  refine s_nil ?_
  refine q_then ?_
  refine c_ret ?_
  refine q_retG1 rfl gt_ (L' := _) sl_ (⟨rfl, rfl⟩)
set_option maxRecDepth 100000 in
theorem rd_d {seed floor a b m : Int} (hm : 1 ≤ m ∧ m ≤ 4611686018427387904) : Does Try.prog 49 [iv seed, iv floor, iv a, iv b, iv m] W [] (fun v L => v = iv (gd seed floor a b m) ∧ L = []) := by
  refine enter Try.func49 rfl rfl rfl (Has.start _) ?_
  refine c_seq ?_
  -- ref.go:113 R0
  refine c_reg ?_
  refine s_y (Y_asC) rfl rfl ?_
  refine s_nil ?_
  refine q_then ?_
  refine c_seq ?_
  -- ref.go:113 R1
  refine c_reg ?_
  refine s_y (Y_mv) rfl rfl ?_
  refine s_y (Y_mv) rfl rfl ?_
  refine s_y (Y_mv) rfl rfl ?_
  refine s_y (Y_mv) rfl rfl ?_
  refine s_y (Y_mv) rfl rfl ?_
  refine s_n (N_bs (xs := [.tmp 13, .tmp 14, .tmp 15]) (by repeat (first | exact Gv.nil | apply Gv.const | apply Gv.tmp gt_)) rfl Try.underlying22 inf3 rfl (by omega) (by omega) (by first | simp [Value.oneCell'] | (intro v hv; simp at hv; subst hv; rfl))) rfl rfl (fun b16 _ => ?_)
  refine s_c (En_call (fun _ => rfl) Try.func65 rfl (by kernel_rfl) rfl) (fun w hH => rdie_d (l := [floor, a, b]) hm ((hH.at' (x := ⟨b16, 3, 1, 3, [iv floor, iv a, iv b]⟩) mm_).sl rfl (Nat.le_refl _))) rfl rfl ?_
  rintro _ _ ⟨rfl, rfl⟩
  refine s_y (Y_as) rfl rfl ?_
  refine s_nil ?_
  refine q_then ?_
  refine c_ret ?_
  refine q_retG1 rfl gt_ (L' := _) sl_ (⟨rfl, rfl⟩)
set_option maxRecDepth 100000 in
theorem rin_d {x y : Int} : Does Try.prog 64 [iv x, iv y] W [] (fun v L => v = .bool (inM x y) ∧ L = []) := by
  refine enter Try.func64 rfl rfl rfl (Has.start _) ?_
  refine c_seq ?_
  -- ref.go:12 R0
  refine c_reg ?_
  refine s_y (Y_asC) rfl rfl ?_
  refine s_nil ?_
  refine q_then ?_
  refine c_seq ?_
  -- ref.go:12 R1
  refine c_reg ?_
  refine s_y (Y_mv) rfl rfl ?_
  refine s_y (Y_geq rfl rfl) rfl rfl ?_
  refine s_y (Y_mv) rfl rfl ?_
  apply s_and 3 [7, 8, 9, 10] 10 (g := 7) rfl rfl
  · intro ht3 hm
    try simp only [nrm_] at ht3
    first | refine s_y (Y_mv) rfl rfl ?_ | refine s_pass rfl rfl ?_
    first | refine s_y (Y_lss rfl rfl) rfl rfl ?_ | refine s_pass rfl rfl ?_
    refine s_y (Y_pk rfl (Gx.tmp gt_) Gx.const) rfl rfl ?_
    first | exact hm _ ⟨rfl, trivial⟩ rfl | exact QL.sub sl_ (hm _ ⟨rfl, trivial⟩ rfl)
  · intro ht3 hm
    iterate 2 refine s_pass rfl rfl ?_
    refine s_y (Y_pk rfl (Gx.tmp gt_) Gx.const) rfl rfl ?_
    exact hm _ ⟨rfl, trivial⟩ rfl
  intro j10
  refine s_y (Y_mv) rfl rfl ?_
  apply s_and 3 [11, 12, 13, 14] 14 (g := 11) rfl rfl
  · intro ht7 hm
    try simp only [nrm_] at ht7
    first | refine s_y (Y_mv) rfl rfl ?_ | refine s_pass rfl rfl ?_
    first | refine s_y (Y_geq rfl rfl) rfl rfl ?_ | refine s_pass rfl rfl ?_
    refine s_y (Y_pk rfl (Gx.tmp gt_) Gx.const) rfl rfl ?_
    first | exact hm _ ⟨rfl, trivial⟩ rfl | exact QL.sub sl_ (hm _ ⟨rfl, trivial⟩ rfl)
  · intro ht7 hm
    iterate 2 refine s_pass rfl rfl ?_
    refine s_y (Y_pk rfl (Gx.tmp gt_) Gx.const) rfl rfl ?_
    exact hm _ ⟨rfl, trivial⟩ rfl
  intro j14
  refine s_y (Y_mv) rfl rfl ?_
  apply s_and 3 [15, 16, 17, 18] 18 (g := 15) rfl rfl
  · intro ht11 hm
    try simp only [nrm_] at ht11
    first | refine s_y (Y_mv) rfl rfl ?_ | refine s_pass rfl rfl ?_
    first | refine s_y (Y_lss rfl rfl) rfl rfl ?_ | refine s_pass rfl rfl ?_
    refine s_y (Y_pk rfl (Gx.tmp gt_) Gx.const) rfl rfl ?_
    first | exact hm _ ⟨rfl, trivial⟩ rfl | exact QL.sub sl_ (hm _ ⟨rfl, trivial⟩ rfl)
  · intro ht11 hm
    iterate 2 refine s_pass rfl rfl ?_
    refine s_y (Y_pk rfl (Gx.tmp gt_) Gx.const) rfl rfl ?_
    exact hm _ ⟨rfl, trivial⟩ rfl
  intro j18
  refine s_y (Y_as) rfl rfl ?_
  refine s_nil ?_
  refine q_then ?_
  refine c_ret ?_
  refine q_retG1 rfl gt_ (L' := _) sl_ (⟨by congr 1; simp only [inM]; rw [Bool.eq_iff_iff]; (first | (simp only [nrm_]; done) | (simp only [nrm_]; omega)), rfl⟩)
set_option maxRecDepth 100000 in
theorem rwalk_d {k : Int} : Does Try.prog 15 [iv k] W [] (fun v L => v = .bool (walkM k) ∧ L = []) := by
  refine enter Try.func15 rfl rfl rfl (Has.start _) ?_
  refine c_seq ?_
  -- ref.go:23 R0
  refine c_reg ?_
  refine s_y (Y_asC) rfl rfl ?_
  refine s_nil ?_
  refine q_then ?_
  refine c_seq ?_
  -- ref.go:23 R1
  refine c_reg ?_
  refine s_y (Y_mv) rfl rfl ?_
  refine s_y (Y_geq rfl rfl) rfl rfl ?_
  refine s_y (Y_mv) rfl rfl ?_
  apply s_and 3 [5, 6, 7, 8] 8 (g := 5) rfl rfl
  · intro ht3 hm
    try simp only [nrm_] at ht3
    first | refine s_y (Y_mv) rfl rfl ?_ | refine s_pass rfl rfl ?_
    first | refine s_y (Y_leq rfl rfl) rfl rfl ?_ | refine s_pass rfl rfl ?_
    refine s_y (Y_pk rfl (Gx.tmp gt_) Gx.const) rfl rfl ?_
    first | exact hm _ ⟨rfl, trivial⟩ rfl | exact QL.sub sl_ (hm _ ⟨rfl, trivial⟩ rfl)
  · intro ht3 hm
    iterate 2 refine s_pass rfl rfl ?_
    refine s_y (Y_pk rfl (Gx.tmp gt_) Gx.const) rfl rfl ?_
    exact hm _ ⟨rfl, trivial⟩ rfl
  intro j8
  refine s_y (Y_as) rfl rfl ?_
  refine s_nil ?_
  refine q_then ?_
  refine c_ret ?_
  refine q_retG1 rfl gt_ (L' := _) sl_ (⟨by congr 1; simp only [walkM]; rw [Bool.eq_iff_iff]; (first | (simp only [nrm_]; done) | (simp only [nrm_]; omega)), rfl⟩)
set_option maxRecDepth 100000 in
theorem rat_d {b o n c : Nat} {l : List UInt8} (hs : SlB W b o n c 1 (l.map bv)) {x y : Int} : Does Try.prog 47 [.slice (some ⟨b, o, none⟩) n c, iv x, iv y] W [] (fun v L => v = iv (atM l x y) ∧ L = []) := by
  have hn : l.length = n := by have := hs.len; simpa using this
  refine enter Try.func47 rfl rfl rfl (Has.start _) ?_
  refine c_seq ?_
  -- ref.go:15 R0
  refine c_reg ?_
  refine s_y (Y_asC) rfl rfl ?_
  refine s_nil ?_
  refine q_then ?_
  refine c_seq ?_
  refine c_seq ?_
  -- ref.go:16 R1
  refine c_reg ?_
  refine s_y (Y_mv) rfl rfl ?_
  refine s_y (Y_mv) rfl rfl ?_
  refine s_c (En_call (fun _ => rfl) Try.func64 rfl (by kernel_rfl) rfl) (fun w hH => rin_d) rfl rfl ?_
  rintro _ _ ⟨rfl, rfl⟩
  refine s_y (Y_not rfl) rfl rfl ?_
  refine s_y (Y_mv) rfl rfl ?_
  apply s_or 8 [11, 12, 13, 14, 15, 16, 17, 18, 19] 19 (g := 11) rfl rfl
  · intro ht5 hm
    try simp only [nrm_] at ht5
    first | refine s_y (Y_mv) rfl rfl ?_ | refine s_pass rfl rfl ?_
    first | refine s_y (Y_mul rfl rfl (by simp only [inM, decide_eq_true_eq] at ht5; omega)) rfl rfl ?_ | refine s_pass rfl rfl ?_
    first | refine s_y (Y_mv) rfl rfl ?_ | refine s_pass rfl rfl ?_
    first | refine s_y (Y_add rfl rfl (by simp only [inM, decide_eq_true_eq] at ht5; omega)) rfl rfl ?_ | refine s_pass rfl rfl ?_
    first | refine s_y (Y_mv) rfl rfl ?_ | refine s_pass rfl rfl ?_
    first | refine s_y (Y_len rfl rfl Try.underlying25) rfl rfl ?_ | refine s_pass rfl rfl ?_
    first | refine s_y (Y_geq rfl rfl) rfl rfl ?_ | refine s_pass rfl rfl ?_
    refine s_y (Y_pk rfl Gx.const (Gx.tmp gt_)) rfl rfl ?_
    first | exact hm _ ⟨rfl, trivial⟩ rfl | exact QL.sub sl_ (hm _ ⟨rfl, trivial⟩ rfl)
  · intro ht5 hm
    iterate 7 refine s_pass rfl rfl ?_
    refine s_y (Y_pk rfl Gx.const (Gx.tmp gt_)) rfl rfl ?_
    exact hm _ ⟨rfl, trivial⟩ rfl
  intro j19
  refine s_nil ?_
  refine q_then ?_
  first | refine c_cond' rfl (fun hc1 => ?_) (fun hc1 => ?_) | refine c_cond rfl (fun hc1 => ?_) (fun hc1 => ?_)
  · skip
    try simp only [nrm_] at hc1
    refine c_seq ?_
    -- ref.go:17 R2
    refine c_reg ?_
    refine s_y (Y_asC) rfl rfl ?_
    refine s_nil ?_
    refine q_then ?_
    refine c_ret ?_
    refine q_retG1 rfl gt_ (L' := _) sl_ (⟨by
        simp only [atM]
        rw [if_neg]
        rintro ⟨h1, h2⟩
        rcases hc1 with h | h
        · rw [h1] at h; cases h
        · omega, rfl⟩)
  · skip
    try simp only [nrm_] at hc1
    refine c_skip ?_
    refine q_then ?_
    refine c_seq ?_
    -- ref.go:19 R3
    obtain ⟨h1, h2⟩ := hc1
    have h3 := h1
    simp only [inM, decide_eq_true_eq] at h3
    obtain ⟨k, hk⟩ : ∃ k : Nat, (k : Int) = y * 24 + x := ⟨(y * 24 + x).toNat, by omega⟩
    obtain ⟨u, hu⟩ := take_lt (show k < l.length by omega)
    have hv : atM l x y = u.toNat := by
      simp only [atM]
      rw [if_pos ⟨h1, by omega⟩, ← hk, Int.toNat_natCast, byteAt_of hu]
    refine c_reg ?_
    refine s_y (Y_mv) rfl rfl ?_
    refine s_y (Y_mv) rfl rfl ?_
    refine s_y ((by first | exact Y_mul rfl rfl (by omega) | exact Y_mulw rfl rfl)) rfl rfl ?_
    refine s_y (Y_mv) rfl rfl ?_
    refine s_y ((Y_add rfl rfl (by omega)).num hk.symm) rfl rfl ?_
    refine s_y (Y_ia1 rfl rfl Try.underlying25 sz5 rfl (by omega)) rfl rfl ?_
    refine s_y (Y_loadR (i := k) rfl one5 hs.ro rfl (by rw [List.getElem?_map, hu]; rfl)) rfl rfl ?_
    refine s_y ((by first | exact Y_conv rfl Try.underlying5 Try.underlying3 (by first | exact i64_u8 _ | exact u64_u8 _ | exact i64_id (by omega) | exact u64_id (by omega) | exact u8_id (by omega) | exact u32_id (by omega)) | exact Y_convw rfl Try.underlying5 Try.underlying3)) rfl rfl ?_
    refine s_y (Y_as) rfl rfl ?_
    refine s_nil ?_
    refine q_then ?_
    refine c_ret ?_
    refine q_retG1 rfl gt_ (L' := _) sl_ (⟨by rw [hv], rfl⟩)
end
end Go.Proofs.Ytecodneffflpoaa
