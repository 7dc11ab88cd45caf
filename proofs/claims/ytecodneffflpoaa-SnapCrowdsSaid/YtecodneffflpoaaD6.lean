/- A cell is picked: the document's, walked. -/
import Derived.Test.YtecodneffflpoaaD5
namespace Go.Proofs.Ytecodneffflpoaa
open Go.RowKit Go.Ad Go.Maps
set_option linter.unusedVariables false
set_option linter.unusedSimpArgs false
theorem byte_get {cells : List UInt8} {i : Nat} (h : i < cells.length) : (cells.map bv)[i]? = some (.int .u8 (byteAt cells i)) := by
  rw [List.getElem?_map, List.getElem?_eq_getElem h, byteAt_of (List.getElem?_eq_getElem h)]; rfl
theorem int_get {f : List Int} {i : Nat} (h : i < f.length) : (f.map iv)[i]? = some (iv (getI f i)) := by
  rw [List.getElem?_map, get_getI h]; rfl
theorem free_succ (cells : List UInt8) (f : List Int) (far : Int) (used : List Bool) (i : Nat) : freeM cells f far used (i + 1) = if byteAt cells i = 1 ∧ getI f i ≥ far ∧ used.getD i false = false then freeM cells f far used i ++ [i] else freeM cells f far used i := by
  unfold freeM
  rw [List.range_succ, List.filter_append]
  by_cases h : byteAt cells i = 1 ∧ getI f i ≥ far ∧ used.getD i false = false
  · rw [if_pos h]
    obtain ⟨h1, h2, h3⟩ := h
    rw [List.filter_cons, if_pos (by rw [h3]; simp [h1, h2]), List.filter_nil]
  · rw [if_neg h, List.filter_cons, if_neg, List.filter_nil, List.append_nil]
    simp only [nrm_]
    rintro ⟨⟨h1, h2⟩, h3⟩
    exact h ⟨h1, h2, h3⟩
theorem free_len (cells : List UInt8) (f : List Int) (far : Int) (used : List Bool) (i : Nat) : (freeM cells f far used i).length ≤ i := by
  unfold freeM
  exact Nat.le_trans (List.length_filter_le _ _) (by rw [List.length_range]; omega)
theorem free_mem {cells : List UInt8} {f : List Int} {far : Int} {used : List Bool} {n i : Nat} (h : i ∈ freeM cells f far used n) : i < n ∧ byteAt cells i = 1 ∧ getI f i ≥ far ∧ used.getD i false = false := by
  unfold freeM at h
  simp only [List.mem_filter, List.mem_range, nrm_] at h
  exact ⟨h.1, h.2.1.1, h.2.1.2, h.2.2⟩
section
variable {W : World}
set_option maxRecDepth 100000 in
theorem rpick_d {cb co cc fb fo fc ub uo uc : Nat} {cells : List UInt8} {f : List Int} {used : List Bool} (hs : SlB W cb co 384 cc 1 (cells.map bv)) (hf : SlB W fb fo 384 fc 1 (f.map iv)) (hu : SlB W ub uo 384 uc 1 (used.map Value.bool)) {far seed floor a : Int} :
    Does Try.prog 53 [.slice (some ⟨cb, co, none⟩) 384 cc, .slice (some ⟨fb, fo, none⟩) 384 fc, iv far, .slice (some ⟨ub, uo, none⟩) 384 uc, iv seed, iv floor, iv a] W [] (fun v L => v = iv (pickM cells f far used seed floor a) ∧ L = []) := by
  have hcl : cells.length = 384 := by have := hs.len; simpa using this
  have hfl : f.length = 384 := by have := hf.len; simpa using this
  have hul : used.length = 384 := by have := hu.len; simpa using this
  refine enter Try.func53 rfl rfl rfl (Has.start _) ?_
  refine c_seq ?_
  -- ref.go:116 R0
  refine c_reg ?_
  refine s_y (Y_asC) rfl rfl ?_
  refine s_nil ?_
  refine q_then ?_
  refine c_seq ?_
  -- ref.go:117 R1
  refine c_reg ?_
  refine s_y (Y_asC) rfl rfl ?_
  refine s_nil ?_
  refine q_then ?_
  refine c_seq ?_
  refine c_seq ?_
  -- ref.go:118 R2
  refine c_reg ?_
  refine s_y (Y_asC) rfl rfl ?_
  refine s_nil ?_
  refine q_then ?_
  refine c_block ?_
  refine c_loop [15, 16, 17, 18, 19, 20, 21, 22, 23, 24, 25, 26, 27, 28, 29, 30, 31, 32, 33, 34, 35, 36, 37, 38, 39, 40, 41, 42, 43, 44] (fun m (y : Nat × List Nat × Value × List Bk) => y.1 + m = 384 ∧ y.2.1 = freeM cells f far used y.1 ∧ Row 3 1 y.2.2.1 y.2.1.length (y.2.1.map ci) y.2.2.2) (fun y => [(16, iv y.1), (15, y.2.2.1)]) (fun y => y.2.2.2) (384) ((0, [], .slice none 0 0, [])) (⟨by omega, rfl, .nil⟩) (by repeat (first | exact trivial | refine ⟨rfl, ?_⟩)) (fun _ h => h.sub sl_) (fun _ => rfl) ?_
  rintro m ⟨k, row, v, B⟩ j ⟨hk, hr0, hB⟩ K hK
  simp only at hk hr0 hB ⊢
  have hrl := free_len cells f far used k
  rw [← hr0] at hrl
  refine c_seq ?_
  refine c_seq ?_
  -- ref.go:118 R3
  refine c_reg ?_
  refine s_y (Y_mv) rfl rfl ?_
  refine s_y (Y_lss rfl rfl) rfl rfl ?_
  refine s_nil ?_
  refine q_then ?_
  first | refine c_cond' rfl (fun hc3 => ?_) (fun hc3 => ?_) | refine c_cond rfl (fun hc3 => ?_) (fun hc3 => ?_)
  · skip
    try simp only [nrm_] at hc3
    refine c_skip ?_
    refine q_then ?_
    refine c_seq ?_
    refine c_block ?_
    refine c_seq ?_
    -- ref.go:119 R5
    refine c_reg ?_
    refine s_y (Y_mv) rfl rfl ?_
    refine s_y (Y_mv) rfl rfl ?_
    refine s_y (Y_ia1 rfl rfl Try.underlying25 sz5 rfl (by omega)) rfl rfl ?_
    refine s_y (Y_loadR (i := k) rfl one5 hs.ro rfl (byte_get (by omega))) rfl rfl ?_
    refine s_y (Y_eql rfl rfl) rfl rfl ?_
    refine s_y (Y_mv) rfl rfl ?_
    apply s_and 7 [26, 27, 28, 29, 30, 31, 32, 33] 33 (g := 26) rfl rfl
    · intro ht6 hm
      try simp only [nrm_] at ht6
      first | refine s_y (Y_mv) rfl rfl ?_ | refine s_pass rfl rfl ?_
      first | refine s_y (Y_mv) rfl rfl ?_ | refine s_pass rfl rfl ?_
      first | refine s_y (Y_ia1 rfl rfl Try.underlying22 sz3 rfl (by omega)) rfl rfl ?_ | refine s_pass rfl rfl ?_
      first | refine s_y (Y_loadR (i := k) rfl one3 hf.ro rfl (int_get (by omega))) rfl rfl ?_ | refine s_pass rfl rfl ?_
      first | refine s_y (Y_mv) rfl rfl ?_ | refine s_pass rfl rfl ?_
      first | refine s_y (Y_geq rfl rfl) rfl rfl ?_ | refine s_pass rfl rfl ?_
      refine s_y (Y_pk rfl (Gx.tmp gt_) Gx.const) rfl rfl ?_
      first | exact hm _ ⟨rfl, trivial⟩ rfl | exact QL.sub sl_ (hm _ ⟨rfl, trivial⟩ rfl)
    · intro ht6 hm
      iterate 6 refine s_pass rfl rfl ?_
      refine s_y (Y_pk rfl (Gx.tmp gt_) Gx.const) rfl rfl ?_
      exact hm _ ⟨rfl, trivial⟩ rfl
    intro j33
    refine s_y (Y_mv) rfl rfl ?_
    apply s_and 6 [34, 35, 36, 37, 38, 39, 40] 40 (g := 34) rfl rfl
    · intro ht14 hm
      try simp only [nrm_] at ht14
      first | refine s_y (Y_mv) rfl rfl ?_ | refine s_pass rfl rfl ?_
      first | refine s_y (Y_mv) rfl rfl ?_ | refine s_pass rfl rfl ?_
      first | refine s_y (Y_ia1 rfl rfl Try.underlying88 sz4 rfl (by omega)) rfl rfl ?_ | refine s_pass rfl rfl ?_
      first | refine s_y (Y_loadR (i := k) rfl one4 hu.ro rfl (bools_get (by omega))) rfl rfl ?_ | refine s_pass rfl rfl ?_
      first | refine s_y (Y_not rfl) rfl rfl ?_ | refine s_pass rfl rfl ?_
      refine s_y (Y_pk rfl (Gx.tmp gt_) Gx.const) rfl rfl ?_
      first | exact hm _ ⟨rfl, trivial⟩ rfl | exact QL.sub sl_ (hm _ ⟨rfl, trivial⟩ rfl)
    · intro ht14 hm
      iterate 5 refine s_pass rfl rfl ?_
      refine s_y (Y_pk rfl (Gx.tmp gt_) Gx.const) rfl rfl ?_
      exact hm _ ⟨rfl, trivial⟩ rfl
    intro j40
    refine s_nil ?_
    refine q_then ?_
    first | refine c_cond' rfl (fun hc5 => ?_) (fun hc5 => ?_) | refine c_cond rfl (fun hc5 => ?_) (fun hc5 => ?_)
    · skip
      try simp only [nrm_] at hc5
      -- ref.go:120 R6
      refine c_reg ?_
      refine s_y (Y_mv) rfl rfl ?_
      refine s_y (Y_mv) rfl rfl ?_
      refine s_n (N_bs (xs := [.tmp 42]) (by repeat (first | exact Gv.nil | apply Gv.const | apply Gv.tmp gt_)) rfl Try.underlying22 inf3 rfl (by omega) (by omega) (by first | simp [Value.oneCell'] | (intro v hv; simp at hv; subst hv; rfl))) rfl rfl (fun b43 _ => ?_)
      refine s_n (N_appR (bytes := 8) hB (List.perm_append_comm (l₁ := B) (l₂ := [_])) rfl rfl Try.underlying22 inf3 rfl (by omega) (src mm_) (by rfl) (by simp [Value.oneCell']) (by omega) (by omega) (by omega)) rfl rfl (fun ⟨g44, cp44⟩ hc44 => ?_)
      refine s_y (Y_as) rfl rfl ?_
      refine s_nil ?_
      refine q_bn ?_
      refine q_then ?_
      -- ref.go:118 R4
      refine c_reg ?_
      refine s_y (Y_mv) rfl rfl ?_
      refine s_y ((by first | exact Y_add rfl rfl (by omega) | exact Y_addw rfl rfl)) rfl rfl ?_
      refine s_y (Y_as) rfl rfl ?_
      refine s_nil ?_
      refine hK (m - 1) (k + 1, row ++ [k], .slice (some ⟨g44, 0, none⟩) (row.length + 1) cp44, [⟨g44, 3, 1, cp44, (row ++ [k]).map ci⟩]) _ _ (by omega) ⟨by simp only; omega, by rw [free_succ, if_pos ⟨hc5.1.1, hc5.1.2, hc5.2⟩, ← hr0], by simp only; rw [List.length_append, List.length_singleton]; exact .some hc44 (by simp)⟩ ⟨rfl, rfl, trivial⟩ rfl (fun w h => ?_)
      show Has W [] [⟨g44, 3, 1, cp44, (row ++ [k]).map ci⟩] w
      rw [List.map_append]
      exact h.pick (by repeat (first | exact Sels.nil | apply Sels.cons (by repeat (first | exact Sel.head | apply Sel.tail))))
    · skip
      try simp only [nrm_] at hc5
      refine c_skip ?_
      refine q_bn ?_
      refine q_then ?_
      -- ref.go:118 R4
      refine c_reg ?_
      refine s_y (Y_mv) rfl rfl ?_
      refine s_y ((by first | exact Y_add rfl rfl (by omega) | exact Y_addw rfl rfl)) rfl rfl ?_
      refine s_y (Y_as) rfl rfl ?_
      refine s_nil ?_
      refine hK (m - 1) (k + 1, row, v, B) _ _ (by omega) ⟨by simp only; omega, by rw [free_succ, if_neg]; exact hr0; rintro ⟨h1, h2, h3⟩; rcases hc5 with (h | h) | h <;> first | omega | (rw [h3] at h; cases h), hB⟩ ⟨rfl, rfl, trivial⟩ rfl (fun _ h => h)
  · skip
    try simp only [nrm_] at hc3
    refine c_exit ?_
    repeat with_reducible refine q_te ?_
    refine q_exit ?_
    refine q_then ?_
    refine c_seq ?_
    refine c_seq ?_
    -- ref.go:123 R7
    obtain rfl : k = 384 := by omega
    refine c_reg ?_
    refine s_y (Y_mv) rfl rfl ?_
    refine s_y (Y_lenR hB rfl rfl Try.underlying22) rfl rfl ?_
    refine s_y (Y_eql rfl rfl) rfl rfl ?_
    refine s_nil ?_
    refine q_then ?_
    first | refine c_cond' rfl (fun hc7 => ?_) (fun hc7 => ?_) | refine c_cond rfl (fun hc7 => ?_) (fun hc7 => ?_)
    · skip
      try simp only [nrm_] at hc7
      refine c_seq ?_
      -- ref.go:124 R8
      refine c_reg ?_
      refine s_y (Y_asC) rfl rfl ?_
      refine s_nil ?_
      refine q_then ?_
      refine c_ret ?_
      refine q_retG1 rfl gt_ (L' := _) sl_ (⟨by unfold pickM; rw [← hr0, List.eq_nil_of_length_eq_zero (show row.length = 0 by omega)], rfl⟩)
    · skip
      try simp only [nrm_] at hc7
      refine c_skip ?_
      refine q_then ?_
      refine c_seq ?_
      -- ref.go:126 R9
      have hlen : 0 < row.length := by omega
      have hgd := gd_rng (n := (row.length : Int)) (by omega) seed floor a 0
      obtain ⟨q, hq⟩ : ∃ q : Nat, (q : Int) = gd seed floor a 0 row.length := ⟨(gd seed floor a 0 row.length).toNat, by omega⟩
      obtain ⟨z, hz⟩ := take_lt (show q < row.length by omega)
      have hpk : pickM cells f far used seed floor a = (z : Int) := by
        unfold pickM
        rw [← hr0]
        cases hrow : row with
        | nil => rw [hrow] at hlen; simp at hlen
        | cons x r =>
          simp only
          rw [← hrow, ← hq, Int.toNat_natCast, List.getD_eq_getElem?_getD, hz]; rfl
      obtain ⟨g, cp, rfl, rfl, hgc⟩ := hB.some_of hlen
      refine c_reg ?_
      refine s_y (Y_mv) rfl rfl ?_
      refine s_y (Y_mv) rfl rfl ?_
      refine s_y (Y_mv) rfl rfl ?_
      refine s_y (Y_mv) rfl rfl ?_
      refine s_y (Y_mv) rfl rfl ?_
      refine s_y (Y_lenR hB rfl rfl Try.underlying22) rfl rfl ?_
      refine s_c (En_call (fun _ => rfl) Try.func49 rfl (by kernel_rfl) rfl) (fun w hH => rd_d (by omega)) rfl rfl ?_
      rintro _ _ ⟨rfl, rfl⟩
      refine s_y (Y_ia1 (n := q) rfl rfl Try.underlying22 sz3 hq.symm (by omega)) rfl rfl ?_
      refine s_y (Y_load (v := ci z) rfl one3 mm_ (by rw [Nat.zero_add, List.getElem?_map, hz]; rfl)) rfl rfl ?_
      refine s_y (Y_as) rfl rfl ?_
      refine s_nil ?_
      refine q_then ?_
      refine c_ret ?_
      refine q_retG1 rfl gt_ (L' := _) sl_ (⟨by rw [hpk], rfl⟩)
end
end Go.Proofs.Ytecodneffflpoaa
