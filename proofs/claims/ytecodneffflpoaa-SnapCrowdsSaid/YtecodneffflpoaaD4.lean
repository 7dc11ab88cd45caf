/- Digging, picking: the document's floors, walked. -/
import Derived.Test.YtecodneffflpoaaD3
namespace Go.Proofs.Ytecodneffflpoaa
open Go.RowKit Go.Ad Go.Maps
set_option linter.unusedVariables false
set_option linter.unusedSimpArgs false
abbrev cB (b cap : Nat) (cells : List UInt8) : Bk := ⟨b, 5, 1, cap, cells.map bv⟩
theorem bv_set (cells : List UInt8) (k : Nat) (x : UInt8) : (cells.map bv).set k (bv x) = (cells.set k x).map bv := by rw [List.map_set]
section
variable {W : World}
set_option maxRecDepth 100000 in
theorem rtoward_d {a b : Int} (ha : -1000 ≤ a ∧ a ≤ 1000) : Does Try.prog 51 [iv a, iv b] W [] (fun v L => v = iv (towardM a b) ∧ L = []) := by
  refine enter Try.func51 rfl rfl rfl (Has.start _) ?_
  refine c_seq ?_
  -- ref.go:32 R0
  refine c_reg ?_
  refine s_y (Y_asC) rfl rfl ?_
  refine s_nil ?_
  refine q_then ?_
  refine c_seq ?_
  refine c_seq ?_
  -- ref.go:33 R1
  refine c_reg ?_
  refine s_y (Y_mv) rfl rfl ?_
  refine s_y (Y_mv) rfl rfl ?_
  refine s_y (Y_lss rfl rfl) rfl rfl ?_
  refine s_nil ?_
  refine q_then ?_
  first | refine c_cond' rfl (fun hc1 => ?_) (fun hc1 => ?_) | refine c_cond rfl (fun hc1 => ?_) (fun hc1 => ?_)
  · skip
    try simp only [nrm_] at hc1
    refine c_seq ?_
    -- ref.go:34 R2
    refine c_reg ?_
    refine s_y (Y_mv) rfl rfl ?_
    refine s_y ((by first | exact Y_add rfl rfl (by omega) | exact Y_addw rfl rfl)) rfl rfl ?_
    refine s_y (Y_as) rfl rfl ?_
    refine s_nil ?_
    refine q_then ?_
    refine c_ret ?_
    refine q_retG1 rfl gt_ (L' := _) sl_ (⟨by rw [towardM, if_pos hc1], rfl⟩)
  · skip
    try simp only [nrm_] at hc1
    refine c_skip ?_
    refine q_then ?_
    refine c_seq ?_
    -- ref.go:36 R3
    refine c_reg ?_
    refine s_y (Y_mv) rfl rfl ?_
    refine s_y ((by first | exact Y_sub rfl rfl (by omega) | exact Y_subw rfl rfl)) rfl rfl ?_
    refine s_y (Y_as) rfl rfl ?_
    refine s_nil ?_
    refine q_then ?_
    refine c_ret ?_
    refine q_retG1 rfl gt_ (L' := _) sl_ (⟨by rw [towardM, if_neg hc1], rfl⟩)
set_option maxRecDepth 100000 in
theorem rdig_d {b cap : Nat} {cells : List UInt8} {x y : Int} {door : Bool} (hx : (cB b cap cells).holds W) (hl : cells.length = 384) (hc : 384 ≤ cap) (hxy : 0 ≤ x ∧ x < 24 ∧ 0 ≤ y ∧ y < 16) : Does Try.prog 50 [.slice (some ⟨b, 0, none⟩) 384 cap, iv x, iv y, .bool door] W [b] (fun v L => v = .bool (digM cells x y door).2 ∧ L = [cB b cap (digM cells x y door).1]) := by
  obtain ⟨k, hk⟩ : ∃ k : Nat, (k : Int) = y * 24 + x := ⟨(y * 24 + x).toNat, by omega⟩
  obtain ⟨u, hu⟩ := take_lt (show k < cells.length by omega)
  have hkt : (y * 24 + x).toNat = k := by omega
  have hb : byteAt cells (y * 24 + x).toNat = u.toNat := by rw [hkt, byteAt_of hu]
  have hkl : 0 + k < (List.map bv cells).length := by simp; omega
  have hv : (List.map bv cells)[0 + k]? = some (bv u) := by rw [Nat.zero_add, List.getElem?_map, hu]; rfl
  refine enter Try.func50 rfl rfl rfl (Has.start1 hx) ?_
  refine c_seq ?_
  -- ref.go:19 R0
  refine c_reg ?_
  refine s_y (Y_asC) rfl rfl ?_
  refine s_nil ?_
  refine q_then ?_
  refine c_seq ?_
  -- ref.go:20 R1
  refine c_reg ?_
  refine s_y (Y_mv) rfl rfl ?_
  refine s_y ((by first | exact Y_mul rfl rfl (by omega) | exact Y_mulw rfl rfl)) rfl rfl ?_
  refine s_y (Y_mv) rfl rfl ?_
  refine s_y ((Y_add rfl rfl (by omega)).num hk.symm) rfl rfl ?_
  refine s_y (Y_as) rfl rfl ?_
  refine s_nil ?_
  refine q_then ?_
  refine c_seq ?_
  refine c_seq ?_
  -- ref.go:21 R2
  refine c_reg ?_
  refine s_y (Y_mv) rfl rfl ?_
  refine s_y (Y_mv) rfl rfl ?_
  refine s_y (Y_ia1 rfl rfl Try.underlying25 sz5 rfl (by omega)) rfl rfl ?_
  refine s_y (Y_load (v := bv u) rfl one5 mm_ hv) rfl rfl ?_
  refine s_y (Y_neq rfl rfl) rfl rfl ?_
  refine s_nil ?_
  refine q_then ?_
  first | refine c_cond' rfl (fun hc2 => ?_) (fun hc2 => ?_) | refine c_cond rfl (fun hc2 => ?_) (fun hc2 => ?_)
  · skip
    try simp only [nrm_] at hc2
    refine c_seq ?_
    -- ref.go:22 R3
    refine c_reg ?_
    refine s_y (Y_mv) rfl rfl ?_
    refine s_y (Y_as) rfl rfl ?_
    refine s_nil ?_
    refine q_then ?_
    refine c_ret ?_
    refine q_retG1 rfl gt_ (L' := _) sl_ (⟨by unfold digM; rw [if_pos (by rw [hb]; exact hc2)], by unfold digM; rw [if_pos (by rw [hb]; exact hc2)]⟩)
  · skip
    try simp only [nrm_] at hc2
    refine c_skip ?_
    refine q_then ?_
    refine c_seq ?_
    -- ref.go:24 R4
    refine c_reg ?_
    refine s_y (Y_mv) rfl rfl ?_
    refine s_y (Y_mv) rfl rfl ?_
    refine s_y (Y_ia1 rfl rfl Try.underlying25 sz5 rfl (by omega)) rfl rfl ?_
    refine s_s (S_stC (cs' := (cells.set k 1).map bv) rfl sz5 (by rfl) (by repeat (first | exact Upd.head | apply Upd.tail)) (by rw [Nat.zero_add]; exact bv_set cells k 1) (by omega)) rfl ?_
    refine s_nil ?_
    refine q_then ?_
    refine c_seq ?_
    refine c_seq ?_
    -- ref.go:25 R5
    refine c_reg ?_
    refine s_y (Y_mv) rfl rfl ?_
    refine s_y (Y_not rfl) rfl rfl ?_
    refine s_nil ?_
    refine q_then ?_
    refine c_cond (t := (!door)) rfl (fun hd => ?_) (fun hd => ?_)
    · skip
      try simp only [nrm_] at hd
      -- ref.go:26 R6
      refine c_reg ?_
      refine s_y (Y_mv) rfl rfl ?_
      refine s_y (Y_mv) rfl rfl ?_
      refine s_y (Y_ia1 rfl rfl Try.underlying25 sz5 rfl (by omega)) rfl rfl ?_
      refine s_s (S_stC (cs' := (cells.set k 2).map bv) rfl sz5 (by rfl) (by repeat (first | exact Upd.head | apply Upd.tail)) (by rw [Nat.zero_add, show Value.int IntKind.u8 2 = bv 2 from rfl, bv_set, List.set_set]) (by simp; omega)) rfl ?_
      refine s_nil ?_
      refine q_then ?_
      refine c_seq ?_
      -- ref.go:28 R7
      refine c_reg ?_
      refine s_y (Y_asC) rfl rfl ?_
      refine s_nil ?_
      refine q_then ?_
      refine c_ret ?_
      refine q_retG1 rfl gt_ (L' := _) sl_ (⟨by unfold digM; rw [if_neg (by rw [hb]; simpa using hc2)], by unfold digM; rw [if_neg (by rw [hb]; simpa using hc2), hkt]; simp [hd]⟩)
    · skip
      try simp only [nrm_] at hd
      refine c_skip ?_
      refine q_then ?_
      refine c_seq ?_
      -- ref.go:28 R7
      refine c_reg ?_
      refine s_y (Y_asC) rfl rfl ?_
      refine s_nil ?_
      refine q_then ?_
      refine c_ret ?_
      refine q_retG1 rfl gt_ (L' := _) sl_ (⟨by unfold digM; rw [if_neg (by rw [hb]; simpa using hc2)], by unfold digM; rw [if_neg (by rw [hb]; simpa using hc2), hkt]; simp [hd]⟩)
end
end Go.Proofs.Ytecodneffflpoaa
