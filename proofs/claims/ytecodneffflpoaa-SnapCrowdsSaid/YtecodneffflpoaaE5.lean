/- Worlds are written: the program's, walked. -/
import Derived.Test.YtecodneffflpoaaE4
import Derived.Test.YtecodneffflpoaaG5
namespace Go.Proofs.Ytecodneffflpoaa
open Go.RowKit Go.Ad Go.Maps
set_option linter.unusedVariables false
set_option linter.unusedSimpArgs false
section
variable {W : World}
set_option maxRecDepth 100000 in
theorem pnum_d {v : Value} {B : List Bk} {ys : List UInt8} (hB : Row 5 1 v ys.length (ys.map bv) B) (hbl : ys.length ≤ 100000) (hW : ∀ x ∈ B, x.holds W) {k : Nat} (hk : k ≤ 8) {x : Int} : Does Try.prog 20 [v, iv k, .int .u64 x] W (B.map (·.b)) (fun v' L => Row 5 1 v' (ys ++ beM x k).length ((ys ++ beM x k).map bv) L) := by
  refine enter Try.func20 rfl rfl rfl (Has.starts hW hB.nodup) ?_
  refine c_seq ?_
  -- snap.go:84 R0
  refine c_reg ?_
  refine s_y (Y_asC) rfl rfl ?_
  refine s_nil ?_
  refine q_then ?_
  refine c_seq ?_
  refine c_seq ?_
  -- snap.go:85 R1
  refine c_reg ?_
  refine s_y (Y_mv) rfl rfl ?_
  refine s_y ((by first | exact Y_sub rfl rfl (by omega) | exact Y_subw rfl rfl)) rfl rfl ?_
  refine s_y (Y_as) rfl rfl ?_
  refine s_nil ?_
  refine q_then ?_
  refine c_block ?_
  refine c_loop [0, 7, 10, 11, 12, 13, 14, 15, 16, 17, 18, 19, 20, 21] (fun m (y : Nat × List UInt8 × Value × List Bk) => y.1 = m ∧ y.2.1 ++ beM x m = ys ++ beM x k ∧ m ≤ 8 ∧ y.2.1.length + m = ys.length + k ∧ Row 5 1 y.2.2.1 y.2.1.length (y.2.1.map bv) y.2.2.2) (fun y => [(7, iv ((y.1 : Int) - 1)), (0, y.2.2.1)]) (fun y => y.2.2.2) (k) ((k, ys, v, B)) (⟨rfl, rfl, hk, rfl, hB⟩) (by repeat (first | exact trivial | refine ⟨rfl, ?_⟩)) (fun _ h => h.sub sl_) (fun _ => rfl) ?_
  rintro m ⟨m', zs, v2, B2⟩ j ⟨hm, hz, hm8, hzl, hB2⟩ K hK
  simp only at hm hz hm8 hzl hB2 ⊢
  subst hm
  refine c_seq ?_
  refine c_seq ?_
  -- snap.go:85 R2
  refine c_reg ?_
  refine s_y (Y_mv) rfl rfl ?_
  refine s_y (Y_geq rfl rfl) rfl rfl ?_
  refine s_nil ?_
  refine q_then ?_
  first | refine c_cond' rfl (fun hc2 => ?_) (fun hc2 => ?_) | refine c_cond rfl (fun hc2 => ?_) (fun hc2 => ?_)
  · skip
    try simp only [nrm_] at hc2
    refine c_skip ?_
    refine q_then ?_
    refine c_seq ?_
    refine c_block ?_
    -- snap.go:86 R4
    obtain ⟨q, rfl⟩ : ∃ q, m' = q + 1 := ⟨m' - 1, by omega⟩
    refine c_reg ?_
    refine s_y (Y_mv) rfl rfl ?_
    refine s_y (Y_mv) rfl rfl ?_
    refine s_y (Y_mv) rfl rfl ?_
    refine s_y ((by first | exact Y_mul rfl rfl (by omega) | exact Y_mulw rfl rfl)) rfl rfl ?_
    refine s_y ((Y_shr rfl rfl (by omega)).num (show _ = x.fdiv (2 ^ (8 * q)) by congr 2; show min (8 * (((q + 1 : Nat) : Int) - 1)).toNat 64 = _; omega)) rfl rfl ?_
    refine s_y (Y_cb rfl Try.underlying54 Try.underlying5) rfl rfl ?_
    refine s_n (N_bs (xs := [.tmp 19]) (by repeat (first | exact Gv.nil | apply Gv.const | apply Gv.tmp gt_)) rfl Try.underlying25 inf5 rfl (by omega) (by omega) (by intro v hv; simp at hv; subst hv; rfl)) rfl rfl (fun b20 _ => ?_)
    refine s_n (N_appR (bytes := 1) hB2 (List.perm_append_comm (l₁ := B2) (l₂ := [_])) rfl rfl Try.underlying25 inf5 rfl (by omega) (src (news := [bv (byteM (x.fdiv (2 ^ (8 * q))))]) mm_) (by rfl) (by simp [Value.oneCell']) (by omega) (by omega) (by omega)) rfl rfl (fun ⟨g21, cp21⟩ hc21 => ?_)
    refine s_y (Y_as) rfl rfl ?_
    refine s_nil ?_
    refine q_bn ?_
    refine q_then ?_
    -- snap.go:85 R3
    refine c_reg ?_
    refine s_y (Y_mv) rfl rfl ?_
    refine s_y ((by first | exact Y_sub rfl rfl (by omega) | exact Y_subw rfl rfl)) rfl rfl ?_
    refine s_y (Y_as) rfl rfl ?_
    refine s_nil ?_
    refine hK q (q, zs ++ [byteM (x.fdiv (2 ^ (8 * q)))], .slice (some ⟨g21, 0, none⟩) (zs.length + 1) cp21, [⟨g21, 5, 1, cp21, (zs ++ [byteM (x.fdiv (2 ^ (8 * q)))]).map bv⟩]) _ _ (by omega) ⟨rfl, by rw [beM] at hz; simp only; rw [← hz]; simp, by omega, by simp only [List.length_append, List.length_singleton]; omega, by simp only; rw [List.length_append, List.length_singleton]; exact .some hc21 (by simp)⟩ ⟨by show iv _ = iv _; congr 1; omega, rfl, trivial⟩ rfl (fun w h => ?_)
    show Has W _ [⟨g21, 5, 1, cp21, (zs ++ [byteM (x.fdiv (2 ^ (8 * q)))]).map bv⟩] w
    rw [List.map_append]
    exact h.pick (by repeat (first | exact Sels.nil | apply Sels.cons (by repeat (first | exact Sel.head | apply Sel.tail))))
  · skip
    try simp only [nrm_] at hc2
    refine c_exit ?_
    repeat with_reducible refine q_te ?_
    refine q_exit ?_
    refine q_then ?_
    refine c_seq ?_
    -- snap.go:88 R5
    obtain rfl : m' = 0 := by omega
    rw [beM, List.append_nil] at hz
    subst hz
    refine c_reg ?_
    refine s_y (Y_mv) rfl rfl ?_
    refine s_y (Y_as) rfl rfl ?_
    refine s_nil ?_
    refine q_then ?_
    refine c_ret ?_
    refine q_retG1 rfl gt_ (L' := _) sl_ (hB2)
set_option maxRecDepth 100000 in
theorem psmall_d {v : Value} {B : List Bk} {ys : List UInt8} (hB : Row 5 1 v ys.length (ys.map bv) B) (hbl : ys.length ≤ 100000) (hW : ∀ x ∈ B, x.holds W) {lb lo lc n : Nat} {ns : List Int} (hl : SlB W lb lo n lc 1 (ns.map iv)) (hn : n ≤ 100000) (hlb : lb ∉ B.map (·.b)) : Does Try.prog 21 [v, .slice (some ⟨lb, lo, none⟩) n lc] W (B.map (·.b)) (fun v' L => Row 5 1 v' (ys ++ ns.map byteM).length ((ys ++ ns.map byteM).map bv) L) := by
  obtain rfl : n = ns.length := by have := hl.len; simpa using this.symm
  refine enter Try.func21 rfl rfl rfl (Has.starts hW hB.nodup) ?_
  refine c_seq ?_
  -- snap.go:92 R0
  refine c_reg ?_
  refine s_y (Y_asC) rfl rfl ?_
  refine s_nil ?_
  refine q_then ?_
  refine c_seq ?_
  refine c_seq ?_
  -- snap.go:93 R1
  refine c_reg ?_
  refine s_y (Y_mv) rfl rfl ?_
  refine s_y (Y_len rfl rfl Try.underlying22) rfl rfl ?_
  refine s_y (Y_mvC) rfl rfl ?_
  refine s_nil ?_
  refine q_then ?_
  refine c_block ?_
  refine c_loop [0, 6, 9, 10, 11, 12, 13, 14, 15, 16, 17, 18] (fun m (y : Nat × List UInt8 × Value × List Bk) => y.1 + m = ns.length ∧ y.2.1 = ys ++ (ns.take y.1).map byteM ∧ Row 5 1 y.2.2.1 y.2.1.length (y.2.1.map bv) y.2.2.2) (fun y => [(9, iv y.1), (0, y.2.2.1)]) (fun y => y.2.2.2) (ns.length) ((0, ys, v, B)) (⟨by simp only; omega, by simp, hB⟩) (by repeat (first | exact trivial | refine ⟨rfl, ?_⟩)) (fun _ h => h.sub sl_) (fun _ => rfl) ?_
  rintro m ⟨i, zs, v2, B2⟩ j ⟨hi, hz, hB2⟩ K hK
  simp only at hi hz hB2 ⊢
  have hzl : zs.length = ys.length + i := by rw [hz, List.length_append, List.length_map, List.length_take]; omega
  refine c_seq ?_
  -- snap.go:93 R2
  refine c_reg ?_
  refine s_y (Y_lss rfl rfl) rfl rfl ?_
  refine s_nil ?_
  refine q_then ?_
  refine c_seq ?_
  first | refine c_cond' rfl (fun hc2 => ?_) (fun hc2 => ?_) | refine c_cond rfl (fun hc2 => ?_) (fun hc2 => ?_)
  · skip
    try simp only [nrm_] at hc2
    refine c_skip ?_
    refine q_then ?_
    refine c_seq ?_
    refine c_block ?_
    refine c_seq ?_
    -- snap.go:93 R3
    obtain ⟨q, hq⟩ := take_lt (show i < ns.length by omega)
    refine c_reg ?_
    refine s_y (Y_ia1 rfl rfl Try.underlying22 sz3 rfl (by omega)) rfl rfl ?_
    refine s_y (Y_loadR (v := iv q) (i := i) rfl one3 hl.ro rfl (by rw [List.getElem?_map, hq]; rfl) hlb) rfl rfl ?_
    refine s_y (Y_as) rfl rfl ?_
    refine s_nil ?_
    refine q_then ?_
    -- snap.go:94 R4
    refine c_reg ?_
    refine s_y (Y_mv) rfl rfl ?_
    refine s_y (Y_mv) rfl rfl ?_
    refine s_y (Y_cb rfl Try.underlying3 Try.underlying5) rfl rfl ?_
    refine s_n (N_bs (xs := [.tmp 15]) (by repeat (first | exact Gv.nil | apply Gv.const | apply Gv.tmp gt_)) rfl Try.underlying25 inf5 rfl (by omega) (by omega) (by first | simp [Value.oneCell'] | (intro v hv; simp at hv; subst hv; rfl))) rfl rfl (fun b16 _ => ?_)
    refine s_n (N_appR (bytes := 1) hB2 (List.perm_append_comm (l₁ := B2) (l₂ := [_])) rfl rfl Try.underlying25 inf5 rfl (by omega) (src (news := [bv (byteM q)]) mm_) (by rfl) (by simp [Value.oneCell']) (by omega) (by omega) (by omega)) rfl rfl (fun ⟨g17, cp17⟩ hc17 => ?_)
    refine s_y (Y_as) rfl rfl ?_
    refine s_nil ?_
    refine q_bn ?_
    refine q_then ?_
    -- snap.go:93 R5
    refine c_reg ?_
    refine s_y ((by first | exact Y_add rfl rfl (by omega) | exact Y_addw rfl rfl)) rfl rfl ?_
    refine s_y (Y_mv) rfl rfl ?_
    refine s_nil ?_
    refine hK (m - 1) (i + 1, zs ++ [byteM q], .slice (some ⟨g17, 0, none⟩) (zs.length + 1) cp17, [cB g17 cp17 (zs ++ [byteM q])]) _ _ (by omega) ⟨by simp only; omega, by simp only; rw [hz, List.append_assoc]; congr 1; obtain ⟨hlt, rfl⟩ := List.getElem?_eq_some_iff.1 hq; rw [← List.take_append_getElem hlt, List.map_append]; rfl, by simp only; rw [List.length_append, List.length_singleton]; exact .some hc17 (by simp)⟩ ⟨rfl, rfl, trivial⟩ rfl (fun w h => ?_)
    show Has W _ [⟨g17, 5, 1, cp17, (zs ++ [byteM q]).map bv⟩] w
    rw [List.map_append]
    exact h.pick (by repeat (first | exact Sels.nil | apply Sels.cons (by repeat (first | exact Sel.head | apply Sel.tail))))
  · skip
    try simp only [nrm_] at hc2
    refine c_exit ?_
    repeat with_reducible refine q_te ?_
    refine q_exit ?_
    refine q_then ?_
    refine c_seq ?_
    -- snap.go:96 R6
    obtain rfl : i = ns.length := by omega
    rw [List.take_length] at hz
    subst hz
    refine c_reg ?_
    refine s_y (Y_mv) rfl rfl ?_
    refine s_y (Y_as) rfl rfl ?_
    refine s_nil ?_
    refine q_then ?_
    refine c_ret ?_
    refine q_retG1 rfl gt_ (L' := _) sl_ (hB2)
end
end Go.Proofs.Ytecodneffflpoaa
