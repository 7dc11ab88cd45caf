/- Floors: the document's, walked. -/
import Derived.Test.YtecodneffflpoaaD7a
namespace Go.Proofs.Ytecodneffflpoaa
open Go.RowKit Go.Ad Go.Maps
set_option linter.unusedVariables false
set_option linter.unusedSimpArgs false
section
variable {W : World}
set_option maxRecDepth 100000 in
set_option maxHeartbeats 6400000 in
theorem rmake_d {seed floor : Int} (hfl : 1 ≤ floor ∧ floor ≤ 3) : Does Try.prog 30 [iv seed, iv floor] W [] (LvlP (makeM seed floor)) := by
  have hmid := mid_rng seed floor
  refine enter Try.func30 rfl rfl rfl (Has.start _) ?_
  refine c_seq ?_
  -- ref.go:40 R0
  refine c_reg ?_
  refine s_n (N_alloc (z := .agg #[.slice none 0 0, .slice none 0 0, .slice none 0 0]) (cs := [.slice none 0 0, .slice none 0 0, .slice none 0 0]) zv63 rfl) rfl rfl (fun b4 _ => ?_)
  refine s_nil ?_
  refine q_then ?_
  refine c_seq ?_
  -- ref.go:41 R1
  refine c_reg ?_
  refine s_n (N_make1 (n := 384) rfl rfl Try.underlying25 inf5 rfl rfl (by omega) (by omega)) rfl rfl (fun b34 _ => ?_)
  refine s_y (Y_as) rfl rfl ?_
  refine s_nil ?_
  refine q_then ?_
  refine c_seq ?_
  -- ref.go:42 R2
  refine c_reg ?_
  refine s_n (N_alloc (z := .agg #[.int .i64 0, .int .i64 0, .int .i64 0, .int .i64 0, .int .i64 0, .int .i64 0]) (cs := [.int .i64 0, .int .i64 0, .int .i64 0, .int .i64 0, .int .i64 0, .int .i64 0]) zv84 rfl) rfl rfl (fun b6 _ => ?_)
  refine s_n (N_alloc (z := .agg #[.int .i64 0, .int .i64 0, .int .i64 0, .int .i64 0, .int .i64 0, .int .i64 0]) (cs := [.int .i64 0, .int .i64 0, .int .i64 0, .int .i64 0, .int .i64 0, .int .i64 0]) zv84 rfl) rfl rfl (fun b7 _ => ?_)
  refine s_nil ?_
  refine q_then ?_
  refine c_seq ?_
  refine c_seq ?_
  -- ref.go:43 R3
  refine c_reg ?_
  refine s_y (Y_asC) rfl rfl ?_
  refine s_nil ?_
  refine q_then ?_
  refine c_block ?_
  refine c_loop [8, 9, 10, 11, 12, 13, 14, 35, 36, 37, 38, 39, 40, 41, 42, 43, 44, 45, 46, 47, 48, 49, 50, 51, 52, 53, 54, 55, 56, 57, 58, 59, 60, 61, 62, 63, 64, 65, 66, 67, 68, 69, 70, 71, 72, 73, 74, 75, 76, 77, 78, 79, 80, 81, 82, 83, 84, 85, 86, 87, 88, 89, 90, 91, 92, 93, 94, 95, 96] (fun m i => i + m = 6) (fun i => [(8, iv i)]) (fun i => [cB b34 384 (digRooms seed floor i), aB b6 (fun k => midX seed floor k) i, aB b7 (fun k => midY seed floor k) i, lB b4 lz]) (6) (0) (by omega) (by repeat (first | exact trivial | refine ⟨rfl, ?_⟩)) (fun w h => mk0 h) (fun _ => rfl) ?_
  rintro m i j hi K hK
  refine c_seq ?_
  refine c_seq ?_
  -- ref.go:43 R4
  refine c_reg ?_
  refine s_y (Y_mv) rfl rfl ?_
  refine s_y (Y_lss rfl rfl) rfl rfl ?_
  refine s_nil ?_
  refine q_then ?_
  first | refine c_cond' rfl (fun hc4 => ?_) (fun hc4 => ?_) | refine c_cond rfl (fun hc4 => ?_) (fun hc4 => ?_)
  · skip
    try simp only [nrm_] at hc4
    refine c_skip ?_
    refine q_then ?_
    refine c_seq ?_
    refine c_block ?_
    refine c_seq ?_
    -- ref.go:44 R6
    have hr := room_rng seed floor i
    have hg1 := gd_rng (n := 5) (by omega) seed floor i 0
    have hg2 := gd_rng (n := 4) (by omega) seed floor i 1
    have hg3 := gd_rng (n := 23 - roomW seed floor i) (by omega) seed floor i 2
    have hg4 := gd_rng (n := 15 - roomH seed floor i) (by omega) seed floor i 3
    obtain ⟨k0, rwd, rh, hk0, hrw, hrh⟩ := room_nat seed floor i
    refine c_reg ?_
    refine s_y (Y_mv) rfl rfl ?_
    refine s_y (Y_mv) rfl rfl ?_
    refine s_y (Y_mv) rfl rfl ?_
    refine s_c (En_call (fun _ => rfl) Try.func49 rfl (by kernel_rfl) rfl) (fun w hH => rd_d (by omega)) rfl rfl ?_
    rintro _ _ ⟨rfl, rfl⟩
    refine s_y ((Y_add rfl rfl (by omega)).num (show _ = roomW seed floor i from rfl)) rfl rfl ?_
    refine s_y (Y_mv) rfl rfl ?_
    refine s_y (Y_mv) rfl rfl ?_
    refine s_y (Y_mv) rfl rfl ?_
    refine s_c (En_call (fun _ => rfl) Try.func49 rfl (by kernel_rfl) rfl) (fun w hH => rd_d (by omega)) rfl rfl ?_
    rintro _ _ ⟨rfl, rfl⟩
    refine s_y ((Y_add rfl rfl (by omega)).num (show _ = roomH seed floor i from rfl)) rfl rfl ?_
    refine s_y (Y_as) rfl rfl ?_
    refine s_y (Y_as) rfl rfl ?_
    refine s_nil ?_
    refine q_then ?_
    refine c_seq ?_
    -- ref.go:45 R7
    refine c_reg ?_
    refine s_y (Y_mv) rfl rfl ?_
    refine s_y (Y_mv) rfl rfl ?_
    refine s_y (Y_mv) rfl rfl ?_
    refine s_y (Y_mv) rfl rfl ?_
    refine s_y ((by first | exact Y_sub rfl rfl (by omega) | exact Y_subw rfl rfl)) rfl rfl ?_
    refine s_c (En_call (fun _ => rfl) Try.func49 rfl (by kernel_rfl) rfl) (fun w hH => rd_d (by omega)) rfl rfl ?_
    rintro _ _ ⟨rfl, rfl⟩
    refine s_y ((Y_add rfl rfl (by omega)).num (show _ = roomX seed floor i from rfl)) rfl rfl ?_
    refine s_y (Y_mv) rfl rfl ?_
    refine s_y (Y_mv) rfl rfl ?_
    refine s_y (Y_mv) rfl rfl ?_
    refine s_y (Y_mv) rfl rfl ?_
    refine s_y ((by first | exact Y_sub rfl rfl (by omega) | exact Y_subw rfl rfl)) rfl rfl ?_
    refine s_c (En_call (fun _ => rfl) Try.func49 rfl (by kernel_rfl) rfl) (fun w hH => rd_d (by omega)) rfl rfl ?_
    rintro _ _ ⟨rfl, rfl⟩
    refine s_y ((Y_add rfl rfl (by omega)).num (show _ = roomY seed floor i from rfl)) rfl rfl ?_
    refine s_y (Y_as) rfl rfl ?_
    refine s_y (Y_as) rfl rfl ?_
    refine s_nil ?_
    refine q_then ?_
    refine c_seq ?_
    refine c_seq ?_
    -- ref.go:46 R8
    refine c_reg ?_
    refine s_y (Y_mv) rfl rfl ?_
    refine s_y (Y_as) rfl rfl ?_
    refine s_nil ?_
    refine q_then ?_
    refine c_block ?_
    refine c_loop [13, 14, 64, 65, 66, 67, 68, 69, 70, 71, 72, 73, 74, 75, 76, 77, 78, 79, 80, 81, 82, 83, 84] (fun m2 (y : Nat × Int × List UInt8) => y.1 + m2 = rh ∧ y.2.1 = roomY seed floor i + y.1 ∧ y.2.2.length = 384 ∧ fillRect y.2.2 (k0 + 24 * y.1) rwd m2 = digRooms seed floor (i + 1)) (fun y => [(13, iv y.2.1)]) (fun y => [cB b34 384 y.2.2, aB b6 (fun k => midX seed floor k) i, aB b7 (fun k => midY seed floor k) i, lB b4 lz]) (rh) ((0, roomY seed floor i, digRooms seed floor i)) (⟨by omega, by simp, digRooms_len _ _ _, dig_start hk0 hrw hrh⟩) (by repeat (first | exact trivial | refine ⟨rfl, ?_⟩)) (fun _ h => h.sub sl_) (fun _ => rfl) ?_
    rintro m2 ⟨t, bb, cl⟩ j2 ⟨ht, hbb, hcl, hfill⟩ K2 hK2
    simp only at ht hbb hcl hfill ⊢
    refine c_seq ?_
    refine c_seq ?_
    -- ref.go:46 R9
    refine c_reg ?_
    refine s_y (Y_mv) rfl rfl ?_
    refine s_y (Y_mv) rfl rfl ?_
    refine s_y (Y_mv) rfl rfl ?_
    refine s_y ((by first | exact Y_add rfl rfl (by omega) | exact Y_addw rfl rfl)) rfl rfl ?_
    refine s_y (Y_lss rfl rfl) rfl rfl ?_
    refine s_nil ?_
    refine q_then ?_
    first | refine c_cond' rfl (fun hc9 => ?_) (fun hc9 => ?_) | refine c_cond rfl (fun hc9 => ?_) (fun hc9 => ?_)
    · skip
      try simp only [nrm_] at hc9
      refine c_skip ?_
      refine q_then ?_
      refine c_seq ?_
      refine c_block ?_
      refine c_seq ?_
      -- ref.go:47 R11
      refine c_reg ?_
      refine s_y (Y_mv) rfl rfl ?_
      refine s_y (Y_as) rfl rfl ?_
      refine s_nil ?_
      refine q_then ?_
      refine c_block ?_
      refine c_loop [14, 72, 73, 74, 75, 76, 77, 78, 79, 80, 81, 82, 83, 84] (fun m3 (y : Nat × Int × List UInt8) => y.1 + m3 = rwd ∧ y.2.1 = roomX seed floor i + y.1 ∧ y.2.2.length = 384 ∧ fillRow y.2.2 (k0 + 24 * t + y.1) m3 = fillRow cl (k0 + 24 * t) rwd) (fun y => [(14, iv y.2.1)]) (fun y => [cB b34 384 y.2.2, aB b6 (fun k => midX seed floor k) i, aB b7 (fun k => midY seed floor k) i, lB b4 lz]) (rwd) ((0, roomX seed floor i, cl)) (⟨by omega, by simp, hcl, rfl⟩) (by repeat (first | exact trivial | refine ⟨rfl, ?_⟩)) (fun _ h => h.sub sl_) (fun _ => rfl) ?_
      rintro m3 ⟨u, aa, cm⟩ j3 ⟨hu, haa, hcm, hrow⟩ K2 hK3
      simp only at hu haa hcm hrow ⊢
      refine c_seq ?_
      refine c_seq ?_
      -- ref.go:47 R12
      refine c_reg ?_
      refine s_y (Y_mv) rfl rfl ?_
      refine s_y (Y_mv) rfl rfl ?_
      refine s_y (Y_mv) rfl rfl ?_
      refine s_y ((by first | exact Y_add rfl rfl (by omega) | exact Y_addw rfl rfl)) rfl rfl ?_
      refine s_y (Y_lss rfl rfl) rfl rfl ?_
      refine s_nil ?_
      refine q_then ?_
      first | refine c_cond' rfl (fun hc12 => ?_) (fun hc12 => ?_) | refine c_cond rfl (fun hc12 => ?_) (fun hc12 => ?_)
      · skip
        try simp only [nrm_] at hc12
        refine c_skip ?_
        refine q_then ?_
        refine c_seq ?_
        refine c_block ?_
        -- ref.go:48 R14
        refine c_reg ?_
        refine s_y (Y_mv) rfl rfl ?_
        refine s_y (Y_mv) rfl rfl ?_
        refine s_y (Y_mul rfl rfl (by omega)) rfl rfl ?_
        refine s_y (Y_mv) rfl rfl ?_
        refine s_y ((Y_add rfl rfl (by omega)).num (show bb * 24 + aa = ((k0 + 24 * t + u : Nat) : Int) by omega)) rfl rfl ?_
        refine s_y (Y_ia1 rfl rfl Try.underlying25 sz5 rfl (by omega)) rfl rfl ?_
        refine s_s (S_stC (cs' := (cm.set (k0 + 24 * t + u) 1).map bv) rfl sz5 (by rfl) (by repeat (first | exact Upd.head | apply Upd.tail)) (by rw [Nat.zero_add]; exact bv_set cm _ 1) (by rw [List.length_map]; omega)) rfl ?_
        refine s_nil ?_
        refine q_bn ?_
        refine q_then ?_
        -- ref.go:47 R13
        refine c_reg ?_
        refine s_y (Y_mv) rfl rfl ?_
        refine s_y ((by first | exact Y_add rfl rfl (by omega) | exact Y_addw rfl rfl)) rfl rfl ?_
        refine s_y (Y_as) rfl rfl ?_
        refine s_nil ?_
        obtain ⟨q, rfl⟩ : ∃ q, m3 = q + 1 := ⟨m3 - 1, by omega⟩
        rw [fillRow] at hrow
        refine hK3 q (u + 1, aa + 1, cm.set (k0 + 24 * t + u) 1) _ _ (by omega) ⟨by simp only; omega, by simp only; omega, by simp only [List.length_set]; exact hcm, hrow⟩ ⟨rfl, trivial⟩ rfl (fun _ h => h)
      · skip
        try simp only [nrm_] at hc12
        refine c_exit ?_
        repeat with_reducible refine q_te ?_
        refine q_exit ?_
        refine q_bn ?_
        refine q_then ?_
        -- ref.go:46 R10
        refine c_reg ?_
        refine s_y (Y_mv) rfl rfl ?_
        refine s_y ((by first | exact Y_add rfl rfl (by omega) | exact Y_addw rfl rfl)) rfl rfl ?_
        refine s_y (Y_as) rfl rfl ?_
        refine s_nil ?_
        obtain ⟨q, rfl⟩ : ∃ q, m2 = q + 1 := ⟨m2 - 1, by omega⟩
        obtain rfl : m3 = 0 := by omega
        rw [fillRect, ← hrow, fillRow] at hfill
        refine hK2 q (t + 1, bb + 1, cm) _ _ (by omega) ⟨by simp only; omega, by simp only; omega, hcm, by simp only; rw [show k0 + 24 * (t + 1) = k0 + 24 * t + 24 by omega]; exact hfill⟩ ⟨rfl, trivial⟩ rfl (fun _ h => h)
    · skip
      try simp only [nrm_] at hc9
      refine c_exit ?_
      repeat with_reducible refine q_te ?_
      refine q_exit ?_
      refine q_then ?_
      -- ref.go:51 R15
      obtain rfl : m2 = 0 := by omega
      rw [fillRect] at hfill
      subst hfill
      refine c_reg ?_
      refine s_y (Y_mv) rfl rfl ?_
      refine s_y (Y_mv) rfl rfl ?_
      refine s_y (Y_mv) rfl rfl ?_
      refine s_y (Y_mv) rfl rfl ?_
      refine s_y ((by first | exact Y_quo rfl rfl (by omega) | exact Y_quow rfl rfl (by omega))) rfl rfl ?_
      refine s_y ((Y_add rfl rfl (by omega)).num (show _ = midX seed floor i from rfl)) rfl rfl ?_
      refine s_y (Y_mv) rfl rfl ?_
      refine s_y (Y_mv) rfl rfl ?_
      refine s_y ((by first | exact Y_quo rfl rfl (by omega) | exact Y_quow rfl rfl (by omega))) rfl rfl ?_
      refine s_y ((Y_add rfl rfl (by omega)).num (show _ = midY seed floor i from rfl)) rfl rfl ?_
      refine s_y (Y_iaA rfl rfl Try.underlying84 sz3 rfl (by omega)) rfl rfl ?_
      refine s_s (S_st (cs' := arrM (fun k => midX seed floor k) (i + 1)) rfl gt_ sz3 (by rfl) (by repeat (first | exact Upd.head | apply Upd.tail)) (arr_set (fun k => midX seed floor k) (by omega)) (by show 0 + i * 1 < 6; omega)) rfl ?_
      refine s_y (Y_iaA rfl rfl Try.underlying84 sz3 rfl (by omega)) rfl rfl ?_
      refine s_s (S_st (cs' := arrM (fun k => midY seed floor k) (i + 1)) rfl gt_ sz3 (by rfl) (by repeat (first | exact Upd.head | apply Upd.tail)) (arr_set (fun k => midY seed floor k) (by omega)) (by show 0 + i * 1 < 6; omega)) rfl ?_
      refine s_nil ?_
      refine q_bn ?_
      refine q_then ?_
      -- ref.go:43 R5
      refine c_reg ?_
      refine s_y (Y_mv) rfl rfl ?_
      refine s_y ((by first | exact Y_add rfl rfl (by omega) | exact Y_addw rfl rfl)) rfl rfl ?_
      refine s_y (Y_as) rfl rfl ?_
      refine s_nil ?_
      refine hK (m - 1) (i + 1) _ _ (by omega) (by omega) ⟨rfl, trivial⟩ rfl (fun _ h => h)
  · skip
    try simp only [nrm_] at hc4
    refine c_exit ?_
    repeat with_reducible refine q_te ?_
    refine q_exit ?_
    refine q_then ?_
    refine c_seq ?_
    refine c_seq ?_
    refine QL.forget (tr := [(0, _), (1, _), (4, _), (5, _), (6, _), (7, _)]) 326 (by kernel_rfl) (by repeat (first | exact Gts.nil | apply Gts.cons gt_)) (fun jj => ?_)
    -- ref.go:53 R16
    obtain rfl : i = 6 := by omega
    refine c_reg ?_
    refine s_y (Y_asC) rfl rfl ?_
    refine s_nil ?_
    refine q_then ?_
    refine c_block ?_
    refine c_loop [15, 16, 17, 18, 19, 97, 98, 99, 100, 101, 102, 103, 104, 105, 106, 107, 108, 109, 110, 111, 112, 113, 114, 115, 116, 117, 118, 119, 120, 121, 122, 123, 124, 125, 126, 127, 128, 129, 130, 131, 132, 133, 134, 135, 136, 137, 138, 139, 140, 141, 142, 143, 144, 145, 146, 147, 148, 149, 150, 151, 152, 153, 154, 155, 156, 157, 158, 159, 160, 161, 162, 163] (fun m (y : Nat × Int × List UInt8) => y.1 + m = 5 ∧ y.2.1 = ((y.1 + 1 : Nat) : Int) ∧ y.2.2 = corrsM seed floor (digRooms seed floor 6) y.1) (fun y => [(15, iv y.2.1)]) (fun y => [cB b34 384 y.2.2, aB b6 (fun k => midX seed floor k) 6, aB b7 (fun k => midY seed floor k) 6, lB b4 lz]) (5) ((0, 1, digRooms seed floor 6)) (⟨by omega, rfl, rfl⟩) (by repeat (first | exact trivial | refine ⟨rfl, ?_⟩)) (fun _ h => h.sub sl_) (fun _ => rfl) ?_
    rintro m ⟨t, tt, cl⟩ j ⟨ht, htt, hcl⟩ K hK
    simp only at ht htt hcl ⊢
    subst htt
    have hcll : cl.length = 384 := by rw [hcl, corrsM_len, digRooms_len]
    have hm0 := hmid t
    have hm1 := hmid ((t + 1 : Nat) : Int)
    refine c_seq ?_
    refine c_seq ?_
    -- ref.go:53 R17
    refine c_reg ?_
    refine s_y (Y_mv) rfl rfl ?_
    refine s_y (Y_lss rfl rfl) rfl rfl ?_
    refine s_nil ?_
    refine q_then ?_
    first | refine c_cond' rfl (fun hc17 => ?_) (fun hc17 => ?_) | refine c_cond rfl (fun hc17 => ?_) (fun hc17 => ?_)
    · skip
      try simp only [nrm_] at hc17
      refine c_skip ?_
      refine q_then ?_
      refine c_seq ?_
      refine c_block ?_
      refine c_seq ?_
      -- ref.go:54 R19
      refine c_rord [] [(0, true), (1, true), (2, true), (3, true), (4, true), (5, true), (6, true), (7, true), (8, true), (9, true)] (by kernel_rfl) (by kernel_rfl) (by kernel_rfl) (by kernel_rfl) rfl (by intro c a d v w h; cases d <;> exact h) rfl ?_
      simp only [mkOrd, List.filterMap_cons, List.filterMap_nil, List.getElem?_toArray, List.getElem?_cons_zero, List.getElem?_cons_succ, Option.map_some]
      refine o_y (Y_mv) rfl rfl ?_
      refine o_y ((by first | exact Y_sub rfl rfl (by omega) | exact Y_subw rfl rfl)) rfl rfl ?_
      refine o_y (Y_iaA (n := t) rfl rfl Try.underlying84 sz3 (by omega) (by omega)) rfl rfl ?_
      refine o_y (Y_load (v := iv (midX seed floor t)) rfl one3 mm_ (arr_get (fun k => midX seed floor k) (by omega))) rfl rfl ?_
      refine o_y (Y_mv) rfl rfl ?_
      refine o_y ((by first | exact Y_sub rfl rfl (by omega) | exact Y_subw rfl rfl)) rfl rfl ?_
      refine o_y (Y_iaA (n := t) rfl rfl Try.underlying84 sz3 (by omega) (by omega)) rfl rfl ?_
      refine o_y (Y_load (v := iv (midY seed floor t)) rfl one3 mm_ (arr_get (fun k => midY seed floor k) (by omega))) rfl rfl ?_
      refine o_y (Y_as) rfl rfl ?_
      refine o_y (Y_as) rfl rfl ?_
      refine o_nil ?_
      refine q_then ?_
      refine c_seq ?_
      -- ref.go:55 R20
      refine c_reg ?_
      refine s_y (Y_mv) rfl rfl ?_
      refine s_y (Y_mv) rfl rfl ?_
      refine s_y (Y_mv) rfl rfl ?_
      refine s_cm [cB b34 384 cl] (En_call (fun _ => rfl) Try.func50 rfl (by kernel_rfl) rfl) (by repeat (first | exact Sels.nil | apply Sels.cons (by repeat (first | exact Sel.head | apply Sel.tail)))) (fun w hH => rdig_d (door := false) (hH.at' mm_) hcll (Nat.le_refl _) (by omega)) rfl rfl ?_
      rintro _ _ ⟨rfl, rfl⟩
      refine s_y (Y_as) rfl rfl ?_
      refine s_nil ?_
      refine q_then ?_
      refine c_seq ?_
      -- ref.go:56 R21
      refine c_reg ?_
      refine s_y (Y_mv) rfl rfl ?_
      refine s_y (Y_mv) rfl rfl ?_
      refine s_y (Y_mv) rfl rfl ?_
      refine s_c (En_call (fun _ => rfl) Try.func49 rfl (by kernel_rfl) rfl) (fun w hH => rd_d (by decide)) rfl rfl ?_
      rintro _ _ ⟨rfl, rfl⟩
      refine s_y (Y_eql rfl rfl) rfl rfl ?_
      refine s_y (Y_as) rfl rfl ?_
      refine s_nil ?_
      have hcs := corrs_succ seed floor (digRooms seed floor 6) t
      rw [← hcl] at hcs
      have hgx : (arrM (fun k => midX seed floor k) 6)[0 + (t + 1) * 1]? = some (iv (midX seed floor ((t + 1 : Nat) : Int))) := arr_get (fun k => midX seed floor k) (by omega)
      have hgy : (arrM (fun k => midY seed floor k) 6)[0 + (t + 1) * 1]? = some (iv (midY seed floor ((t + 1 : Nat) : Int))) := arr_get (fun k => midY seed floor k) (by omega)
      obtain ⟨first, hgen1⟩ : ∃ q_, decide (gd seed floor ((t + 1 : Nat) : Int) 4 2 = 0) = q_ := ⟨_, rfl⟩
      rw [hgen1] at hcs ⊢
      obtain ⟨tx, hgen2⟩ : ∃ q_, midX seed floor ((t + 1 : Nat) : Int) = q_ := ⟨_, rfl⟩
      rw [hgen2] at hgx hcs hm1
      obtain ⟨ty, hgen3⟩ : ∃ q_, midY seed floor ((t + 1 : Nat) : Int) = q_ := ⟨_, rfl⟩
      rw [hgen3] at hgy hcs hm1
      refine q_then ?_
      refine c_block ?_
      refine c_loop [16, 17, 18, 118, 119, 120, 121, 122, 123, 124, 125, 126, 127, 128, 129, 130, 131, 132, 133, 134, 135, 136, 137, 138, 139, 140, 141, 142, 143, 144, 145, 146, 147, 148, 149, 150, 151, 152, 153, 154, 155, 156, 157, 158, 159, 160, 161, 162, 163] (fun m2 (y : List UInt8 × Bool × Int × Int) => y.1.length = 384 ∧ (1 ≤ y.2.2.1 ∧ y.2.2.1 ≤ 22 ∧ 1 ≤ y.2.2.2 ∧ y.2.2.2 ≤ 14) ∧ (y.2.2.1 - tx).natAbs + (y.2.2.2 - ty).natAbs < m2 ∧ corrM tx ty first m2 y.1 y.2.1 y.2.2.1 y.2.2.2 = corrsM seed floor (digRooms seed floor 6) (t + 1)) (fun y => [(16, iv y.2.2.1), (17, iv y.2.2.2), (18, .bool y.2.1)]) (fun y => [cB b34 384 y.1, aB b6 (fun k => midX seed floor k) 6, aB b7 (fun k => midY seed floor k) 6, lB b4 lz]) (64) (((digM cl (midX seed floor t) (midY seed floor t) false).1, (digM cl (midX seed floor t) (midY seed floor t) false).2, midX seed floor t, midY seed floor t)) (⟨by rw [digM_len]; exact hcll, hm0, by simp only; omega, hcs.symm⟩) (by repeat (first | exact trivial | refine ⟨rfl, ?_⟩)) (fun _ h => h.sub sl_) (fun _ => rfl) ?_
      rintro m2 ⟨cm, door, x, y⟩ j2 ⟨hcm, hxr, hms, hf⟩ K2 hK2
      simp only at hcm hxr hms hf ⊢
      refine c_seq ?_
      refine c_seq ?_
      -- ref.go:57 R22
      refine c_reg ?_
      refine s_y (Y_mv) rfl rfl ?_
      refine s_y (Y_mv) rfl rfl ?_
      refine s_y (Y_iaA rfl rfl Try.underlying84 sz3 rfl (by omega)) rfl rfl ?_
      refine s_y (Y_load (v := iv tx) rfl one3 mm_ hgx) rfl rfl ?_
      refine s_y (Y_neq rfl rfl) rfl rfl ?_
      refine s_y (Y_mv) rfl rfl ?_
      apply s_or 6 [123, 124, 125, 126, 127, 128, 129] 129 (g := 123) rfl rfl
      · intro ht6 hm
        try simp only [nrm_] at ht6
        first | refine s_y (Y_mv) rfl rfl ?_ | refine s_pass rfl rfl ?_
        first | refine s_y (Y_mv) rfl rfl ?_ | refine s_pass rfl rfl ?_
        first | refine s_y (Y_iaA rfl rfl Try.underlying84 sz3 rfl (by omega)) rfl rfl ?_ | refine s_pass rfl rfl ?_
        first | refine s_y (Y_load (v := iv ty) rfl one3 mm_ hgy) rfl rfl ?_ | refine s_pass rfl rfl ?_
        first | refine s_y (Y_neq rfl rfl) rfl rfl ?_ | refine s_pass rfl rfl ?_
        refine s_y (Y_pk rfl Gx.const (Gx.tmp gt_)) rfl rfl ?_
        first | exact hm _ ⟨rfl, trivial⟩ rfl | exact QL.sub sl_ (hm _ ⟨rfl, trivial⟩ rfl)
      · intro ht6 hm
        iterate 5 refine s_pass rfl rfl ?_
        refine s_y (Y_pk rfl Gx.const (Gx.tmp gt_)) rfl rfl ?_
        exact hm _ ⟨rfl, trivial⟩ rfl
      intro j129
      refine s_nil ?_
      refine q_then ?_
      first | refine c_cond' rfl (fun hc22 => ?_) (fun hc22 => ?_) | refine c_cond rfl (fun hc22 => ?_) (fun hc22 => ?_)
      · skip
        try simp only [nrm_] at hc22
        refine c_skip ?_
        refine q_then ?_
        refine c_block ?_
        refine c_seq ?_
        refine c_seq ?_
        -- ref.go:58 R23
        refine c_reg ?_
        refine s_y (Y_mv) rfl rfl ?_
        refine s_y (Y_mv) rfl rfl ?_
        apply s_and 6 [131, 132, 133, 134, 135, 136, 137] 137 (g := 131) rfl rfl
        · intro ht2 hm
          try simp only [nrm_] at ht2
          first | refine s_y (Y_mv) rfl rfl ?_ | refine s_pass rfl rfl ?_
          first | refine s_y (Y_mv) rfl rfl ?_ | refine s_pass rfl rfl ?_
          first | refine s_y (Y_iaA rfl rfl Try.underlying84 sz3 rfl (by omega)) rfl rfl ?_ | refine s_pass rfl rfl ?_
          first | refine s_y (Y_load (v := iv tx) rfl one3 mm_ hgx) rfl rfl ?_ | refine s_pass rfl rfl ?_
          first | refine s_y (Y_neq rfl rfl) rfl rfl ?_ | refine s_pass rfl rfl ?_
          refine s_y (Y_pk rfl (Gx.tmp gt_) Gx.const) rfl rfl ?_
          first | exact hm _ ⟨rfl, trivial⟩ rfl | exact QL.sub sl_ (hm _ ⟨rfl, trivial⟩ rfl)
        · intro ht2 hm
          iterate 5 refine s_pass rfl rfl ?_
          refine s_y (Y_pk rfl (Gx.tmp gt_) Gx.const) rfl rfl ?_
          exact hm _ ⟨rfl, trivial⟩ rfl
        intro j137
        refine s_y (Y_mv) rfl rfl ?_
        apply s_or 10 [138, 139, 140, 141, 142, 143, 144, 145, 146, 147, 148] 148 (g := 138) rfl rfl
        · intro ht9 hm
          try simp only [nrm_] at ht9
          first | refine s_y (Y_mv) rfl rfl ?_ | refine s_pass rfl rfl ?_
          first | refine s_y (Y_not rfl) rfl rfl ?_ | refine s_pass rfl rfl ?_
          first | refine s_y (Y_mv) rfl rfl ?_ | refine s_pass rfl rfl ?_
          apply s_and 6 [141, 142, 143, 144, 145, 146, 147] 147 (g := 141) rfl rfl
          · intro ht12 hm
            try simp only [nrm_] at ht12
            first | refine s_y (Y_mv) rfl rfl ?_ | refine s_pass rfl rfl ?_
            first | refine s_y (Y_mv) rfl rfl ?_ | refine s_pass rfl rfl ?_
            first | refine s_y (Y_iaA rfl rfl Try.underlying84 sz3 rfl (by omega)) rfl rfl ?_ | refine s_pass rfl rfl ?_
            first | refine s_y (Y_load (v := iv ty) rfl one3 mm_ hgy) rfl rfl ?_ | refine s_pass rfl rfl ?_
            first | refine s_y (Y_eql rfl rfl) rfl rfl ?_ | refine s_pass rfl rfl ?_
            first | refine s_y (Y_pk rfl (Gx.tmp gt_) Gx.const) rfl rfl ?_ | refine s_pass rfl rfl ?_
            first | exact hm _ ⟨rfl, trivial⟩ rfl | exact QL.sub sl_ (hm _ ⟨rfl, trivial⟩ rfl)
          · intro ht12 hm
            iterate 5 refine s_pass rfl rfl ?_
            first | refine s_y (Y_pk rfl (Gx.tmp gt_) Gx.const) rfl rfl ?_ | refine s_pass rfl rfl ?_
            exact hm _ ⟨rfl, trivial⟩ rfl
          intro j147
          refine s_y (Y_pk rfl Gx.const (Gx.tmp gt_)) rfl rfl ?_
          first | exact hm _ ⟨rfl, trivial⟩ rfl | exact QL.sub sl_ (hm _ ⟨rfl, trivial⟩ rfl)
        · intro ht9 hm
          iterate 9 refine s_pass rfl rfl ?_
          refine s_y (Y_pk rfl Gx.const (Gx.tmp gt_)) rfl rfl ?_
          exact hm _ ⟨rfl, trivial⟩ rfl
        intro j148
        refine s_nil ?_
        refine q_then ?_
        first | refine c_cond' rfl (fun hc23 => ?_) (fun hc23 => ?_) | refine c_cond rfl (fun hc23 => ?_) (fun hc23 => ?_)
        · skip
          try simp only [nrm_] at hc23
          -- ref.go:59 R24
          refine c_reg ?_
          refine s_y (Y_mv) rfl rfl ?_
          refine s_y (Y_mv) rfl rfl ?_
          refine s_y (Y_iaA rfl rfl Try.underlying84 sz3 rfl (by omega)) rfl rfl ?_
          refine s_y (Y_load (v := iv tx) rfl one3 mm_ hgx) rfl rfl ?_
          refine s_c (En_call (fun _ => rfl) Try.func51 rfl (by kernel_rfl) rfl) (fun w hH => rtoward_d (by omega)) rfl rfl ?_
          rintro _ _ ⟨rfl, rfl⟩
          refine s_y (Y_as) rfl rfl ?_
          refine s_nil ?_
          refine q_then ?_
          -- ref.go:63 R26
          obtain ⟨q, rfl⟩ : ∃ q, m2 = q + 1 := ⟨m2 - 1, by omega⟩
          have htw := toward_rng (show x ≠ tx by rcases hc23 with h | h; exact h.2; omega)
          rw [corr_x (by omega) hc23] at hf
          have hxy : 0 ≤ towardM x tx ∧ towardM x tx < 24 ∧ 0 ≤ y ∧ y < 16 := by omega
          refine c_reg ?_
          refine s_y (Y_mv) rfl rfl ?_
          refine s_y (Y_mv) rfl rfl ?_
          refine s_y (Y_mv) rfl rfl ?_
          refine s_y (Y_mv) rfl rfl ?_
          refine s_cm [cB b34 384 cm] (En_call (fun _ => rfl) Try.func50 rfl (by kernel_rfl) rfl) (by repeat (first | exact Sels.nil | apply Sels.cons (by repeat (first | exact Sel.head | apply Sel.tail)))) (fun w hH => rdig_d (hH.at' mm_) hcm (Nat.le_refl _) hxy) rfl rfl ?_
          rintro _ _ ⟨rfl, rfl⟩
          refine s_y (Y_as) rfl rfl ?_
          refine s_nil ?_
          refine q_bn ?_
          refine hK2 q ((digM cm (towardM x tx) y door).1, (digM cm (towardM x tx) y door).2, towardM x tx, y) _ _ (by omega) ⟨by rw [digM_len]; exact hcm, by simp only; omega, by simp only; omega, hf⟩ ⟨rfl, rfl, rfl, trivial⟩ rfl (fun _ h => h)
        · skip
          try simp only [nrm_] at hc23
          -- ref.go:61 R25
          refine c_reg ?_
          refine s_y (Y_mv) rfl rfl ?_
          refine s_y (Y_mv) rfl rfl ?_
          refine s_y (Y_iaA rfl rfl Try.underlying84 sz3 rfl (by omega)) rfl rfl ?_
          refine s_y (Y_load (v := iv ty) rfl one3 mm_ hgy) rfl rfl ?_
          refine s_c (En_call (fun _ => rfl) Try.func51 rfl (by kernel_rfl) rfl) (fun w hH => rtoward_d (by omega)) rfl rfl ?_
          rintro _ _ ⟨rfl, rfl⟩
          refine s_y (Y_as) rfl rfl ?_
          refine s_nil ?_
          refine q_then ?_
          -- ref.go:63 R26
          obtain ⟨q, rfl⟩ : ∃ q, m2 = q + 1 := ⟨m2 - 1, by omega⟩
          have hc23' : ¬ ((first = true ∧ x ≠ tx) ∨ (first = false ∧ y = ty)) := by
            rintro (⟨h1, h2⟩ | ⟨h1, h2⟩)
            · rcases hc23 with ⟨h3 | h3, _⟩
              · rw [h1] at h3; cases h3
              · omega
            · rcases hc23 with ⟨_, h3 | h3⟩
              · rw [h1] at h3; cases h3
              · omega
          have hyn : y ≠ ty := by
            cases first with
            | true => rcases hc22 with h | h; exact absurd (.inl ⟨rfl, h⟩) hc23'; exact h
            | false => intro h; exact hc23' (.inr ⟨rfl, h⟩)
          have htw := toward_rng hyn
          rw [corr_y (by omega) hc23'] at hf
          have hxy : 0 ≤ x ∧ x < 24 ∧ 0 ≤ towardM y ty ∧ towardM y ty < 16 := by omega
          refine c_reg ?_
          refine s_y (Y_mv) rfl rfl ?_
          refine s_y (Y_mv) rfl rfl ?_
          refine s_y (Y_mv) rfl rfl ?_
          refine s_y (Y_mv) rfl rfl ?_
          refine s_cm [cB b34 384 cm] (En_call (fun _ => rfl) Try.func50 rfl (by kernel_rfl) rfl) (by repeat (first | exact Sels.nil | apply Sels.cons (by repeat (first | exact Sel.head | apply Sel.tail)))) (fun w hH => rdig_d (hH.at' mm_) hcm (Nat.le_refl _) hxy) rfl rfl ?_
          rintro _ _ ⟨rfl, rfl⟩
          refine s_y (Y_as) rfl rfl ?_
          refine s_nil ?_
          refine q_bn ?_
          refine hK2 q ((digM cm x (towardM y ty) door).1, (digM cm x (towardM y ty) door).2, x, towardM y ty) _ _ (by omega) ⟨by rw [digM_len]; exact hcm, by simp only; omega, by simp only; omega, hf⟩ ⟨rfl, rfl, rfl, trivial⟩ rfl (fun _ h => h)
      · skip
        try simp only [nrm_] at hc22
        refine c_exit ?_
        repeat with_reducible refine q_te ?_
        refine q_exit ?_
        refine q_bn ?_
        refine q_then ?_
        -- ref.go:53 R18
        refine c_reg ?_
        refine s_y (Y_mv) rfl rfl ?_
        refine s_y ((by first | exact Y_add rfl rfl (by omega) | exact Y_addw rfl rfl)) rfl rfl ?_
        refine s_y (Y_as) rfl rfl ?_
        refine s_nil ?_
        rw [corr_end (by omega)] at hf
        refine hK (m - 1) (t + 1, ((t + 2 : Nat) : Int), cm) _ _ (by omega) ⟨by simp only; omega, rfl, hf⟩ ⟨by congr 1, trivial⟩ rfl (fun _ h => h)
    · skip
      try simp only [nrm_] at hc17
      refine c_exit ?_
      repeat with_reducible refine q_te ?_
      refine q_exit ?_
      refine q_then ?_
      refine c_seq ?_
      refine QL.forget (tr := [(0, _), (1, _), (4, _), (5, _), (6, _), (7, _)]) 326 (by kernel_rfl) (by repeat (first | exact Gts.nil | apply Gts.cons gt_)) (fun jj => ?_)
      -- ref.go:66 R27
      obtain rfl : t = 5 := by omega
      obtain ⟨hup, hupl⟩ := up_eq seed floor
      have hmz := hmid 0
      have hbl : cl.length = 384 := by rw [hcl, corrsM_len, digRooms_len]
      have hb : cl.set (upM seed floor) 3 = baseM seed floor := by rw [hcl]; rfl
      refine c_reg ?_
      refine s_y (Y_iaA (n := 0) rfl rfl Try.underlying84 sz3 rfl (by omega)) rfl rfl ?_
      refine s_y (Y_load (v := iv (midY seed floor 0)) rfl one3 mm_ (arr_get (fun k => midY seed floor k) (by omega))) rfl rfl ?_
      refine s_y ((by first | exact Y_mul rfl rfl (by omega) | exact Y_mulw rfl rfl)) rfl rfl ?_
      refine s_y (Y_iaA (n := 0) rfl rfl Try.underlying84 sz3 rfl (by omega)) rfl rfl ?_
      refine s_y (Y_load (v := iv (midX seed floor 0)) rfl one3 mm_ (arr_get (fun k => midX seed floor k) (by omega))) rfl rfl ?_
      refine s_y ((Y_add rfl rfl (by omega)).num hup.symm) rfl rfl ?_
      refine s_y (Y_as) rfl rfl ?_
      refine s_nil ?_
      refine q_then ?_
      refine c_seq ?_
      -- ref.go:67 R28
      refine c_reg ?_
      refine s_y (Y_mv) rfl rfl ?_
      refine s_y (Y_mv) rfl rfl ?_
      refine s_y (Y_ia1 rfl rfl Try.underlying25 sz5 rfl (by omega)) rfl rfl ?_
      refine s_s (S_stC (cs' := (baseM seed floor).map bv) rfl sz5 (by rfl) (by repeat (first | exact Upd.head | apply Upd.tail)) (by rw [Nat.zero_add, ← hb]; exact bv_set cl _ 3) (by rw [List.length_map]; omega)) rfl ?_
      refine s_nil ?_
      refine q_then ?_
      refine c_seq ?_
      -- ref.go:68 R29
      refine c_reg ?_
      refine s_y (Y_mv) rfl rfl ?_
      refine s_y (Y_mv) rfl rfl ?_
      refine s_n (N_bs (xs := [.tmp 174]) (by repeat (first | exact Gv.nil | apply Gv.const | apply Gv.tmp gt_)) rfl Try.underlying22 inf3 rfl (by omega) (by omega) (by first | simp [Value.oneCell'] | (intro v hv; simp at hv; subst hv; rfl))) rfl rfl (fun b175 _ => ?_)
      refine s_c (En_call (fun _ => rfl) Try.func52 rfl (by kernel_rfl) rfl) (fun w hH => rfield_d (ab := none) (nb := 0) (kb := 0) (cells := baseM seed floor) (bl := []) (ts := [((upM seed floor : Nat) : Int)]) ((hH.at' (x := cB b34 384 (baseM seed floor)) mm_).sl (by rw [List.length_map, base_len]) (Nat.le_refl _)) ⟨rfl, Nat.zero_le _, fun h => absurd rfl h⟩ ((hH.at' (x := ⟨b175, 3, 1, 1, [iv ((upM seed floor : Nat) : Int)]⟩) mm_).sl rfl (Nat.le_refl _))) rfl rfl ?_
      rintro _ _ ⟨fb, rfl, rfl⟩
      refine s_y (Y_as) rfl rfl ?_
      refine s_nil ?_
      refine QL.pick (L' := [cB b34 384 (baseM seed floor), fB fb (distM seed floor), lB b4 lz]) (by repeat (first | exact Sels.nil | apply Sels.cons (by repeat (first | exact Sel.head | apply Sel.tail)))) ?_
      have hdl : (distM seed floor).length = 384 := field_len _ _ _
      refine q_then ?_
      refine c_seq ?_
      -- ref.go:69 R30
      refine c_reg ?_
      refine s_y (Y_mv) rfl rfl ?_
      refine s_y (Y_as) rfl rfl ?_
      refine s_nil ?_
      refine q_then ?_
      refine c_seq ?_
      refine c_seq ?_
      -- ref.go:70 R31
      refine c_reg ?_
      refine s_y (Y_asC) rfl rfl ?_
      refine s_nil ?_
      refine q_then ?_
      refine c_block ?_
      refine c_loop [22, 23, 178, 179, 180, 181, 182, 183, 184, 185, 186, 187, 188, 189, 190, 191] (fun m i => i + m = 384) (fun i => [(23, iv i), (22, iv ((farM (distM seed floor) (upM seed floor) i : Nat) : Int))]) (fun _ => [cB b34 384 (baseM seed floor), fB fb (distM seed floor), lB b4 lz]) (384) (0) (by omega) (by repeat (first | exact trivial | refine ⟨rfl, ?_⟩)) (fun _ h => h.sub sl_) (fun _ => rfl) ?_
      rintro m i j hi K hK
      have hfa := far_lt (distM seed floor) hupl i (by omega)
      refine c_seq ?_
      refine c_seq ?_
      -- ref.go:70 R32
      refine c_reg ?_
      refine s_y (Y_mv) rfl rfl ?_
      refine s_y (Y_lss rfl rfl) rfl rfl ?_
      refine s_nil ?_
      refine q_then ?_
      first | refine c_cond' rfl (fun hc32 => ?_) (fun hc32 => ?_) | refine c_cond rfl (fun hc32 => ?_) (fun hc32 => ?_)
      · skip
        try simp only [nrm_] at hc32
        refine c_skip ?_
        refine q_then ?_
        refine c_seq ?_
        refine c_block ?_
        refine c_seq ?_
        -- ref.go:71 R34
        refine c_rord [] [(0, true), (1, true), (2, true), (3, true), (4, true), (5, true), (6, true), (7, true), (8, true)] (by kernel_rfl) (by kernel_rfl) (by kernel_rfl) (by kernel_rfl) rfl (by intro c a d v w h; cases d <;> exact h) rfl ?_
        simp only [mkOrd, List.filterMap_cons, List.filterMap_nil, List.getElem?_toArray, List.getElem?_cons_zero, List.getElem?_cons_succ, Option.map_some]
        refine o_y (Y_mv) rfl rfl ?_
        refine o_y (Y_mv) rfl rfl ?_
        refine o_y (Y_ia1 rfl rfl Try.underlying22 sz3 rfl (by omega)) rfl rfl ?_
        refine o_y (Y_load (v := iv (getI (distM seed floor) i)) rfl one3 mm_ (iv_get (by omega))) rfl rfl ?_
        refine o_y (Y_mv) rfl rfl ?_
        refine o_y (Y_mv) rfl rfl ?_
        refine o_y (Y_ia1 rfl rfl Try.underlying22 sz3 rfl (by omega)) rfl rfl ?_
        refine o_y (Y_load (v := iv (getI (distM seed floor) (farM (distM seed floor) (upM seed floor) i))) rfl one3 mm_ (iv_get (by omega))) rfl rfl ?_
        refine o_y (Y_gtr rfl rfl) rfl rfl ?_
        refine o_nil ?_
        refine q_then ?_
        first | refine c_cond' rfl (fun hc34 => ?_) (fun hc34 => ?_) | refine c_cond rfl (fun hc34 => ?_) (fun hc34 => ?_)
        · skip
          try simp only [nrm_] at hc34
          -- ref.go:72 R35
          refine c_reg ?_
          refine s_y (Y_mv) rfl rfl ?_
          refine s_y (Y_as) rfl rfl ?_
          refine s_nil ?_
          refine q_bn ?_
          refine q_then ?_
          -- ref.go:70 R33
          refine c_reg ?_
          refine s_y (Y_mv) rfl rfl ?_
          refine s_y ((by first | exact Y_add rfl rfl (by omega) | exact Y_addw rfl rfl)) rfl rfl ?_
          refine s_y (Y_as) rfl rfl ?_
          refine s_nil ?_
          refine hK (m - 1) (i + 1) _ _ (by omega) (by omega) ⟨rfl, by rw [farM, if_pos hc34]; rfl, trivial⟩ rfl (fun _ h => h)
        · skip
          try simp only [nrm_] at hc34
          refine c_skip ?_
          refine q_bn ?_
          refine q_then ?_
          -- ref.go:70 R33
          refine c_reg ?_
          refine s_y (Y_mv) rfl rfl ?_
          refine s_y ((by first | exact Y_add rfl rfl (by omega) | exact Y_addw rfl rfl)) rfl rfl ?_
          refine s_y (Y_as) rfl rfl ?_
          refine s_nil ?_
          refine hK (m - 1) (i + 1) _ _ (by omega) (by omega) ⟨rfl, by rw [farM, if_neg hc34]; rfl, trivial⟩ rfl (fun _ h => h)
      · skip
        try simp only [nrm_] at hc32
        refine c_exit ?_
        repeat with_reducible refine q_te ?_
        refine q_exit ?_
        refine q_then ?_
        refine c_seq ?_
        -- ref.go:75 R36
        obtain rfl : i = 384 := by omega
        have hbl := base_len seed floor
        refine c_reg ?_
        refine s_y (Y_mv) rfl rfl ?_
        refine s_y (Y_mv) rfl rfl ?_
        refine s_y (Y_ia1 rfl rfl Try.underlying25 sz5 rfl (by omega)) rfl rfl ?_
        refine s_s (S_stC (cs' := (downM seed floor).map bv) rfl sz5 (by rfl) (by repeat (first | exact Upd.head | apply Upd.tail)) (by rw [Nat.zero_add]; exact bv_set (baseM seed floor) _ 4) (by rw [List.length_map]; omega)) rfl ?_
        refine s_nil ?_
        have hsh : shopAt seed floor = if gd seed floor 6 0 2 = 0 then shopM (downM seed floor) (distM seed floor) ((getI (distM seed floor) (farM (distM seed floor) (upM seed floor) 384)).tdiv 2) 384 else none := rfl
        have hfa := far_lt (distM seed floor) hupl 384 (Nat.le_refl _)
        have hfr := tdiv_rng (field_rng (baseM seed floor) [] [((upM seed floor : Nat) : Int)] hfa)
        have hdnl := down_len seed floor
        have hfr2 : -1 ≤ (getI (distM seed floor) (farM (distM seed floor) (upM seed floor) 384)).tdiv 2 ∧ (getI (distM seed floor) (farM (distM seed floor) (upM seed floor) 384)).tdiv 2 ≤ 384 := hfr
        clear hfr
        obtain ⟨fa, hgen4⟩ : ∃ q_, farM (distM seed floor) (upM seed floor) 384 = q_ := ⟨_, rfl⟩
        rw [hgen4] at hsh hfa hfr2 ⊢
        obtain ⟨f, hdf⟩ : ∃ q_, distM seed floor = q_ := ⟨_, rfl⟩
        rw [hdf] at hsh hfr2 hdl ⊢
        obtain ⟨dn, hdd⟩ : ∃ q_, downM seed floor = q_ := ⟨_, rfl⟩
        rw [hdd] at hsh hdnl ⊢
        refine q_then ?_
        refine c_seq ?_
        refine QL.forget (tr := [(0, _), (1, _), (4, _), (5, _), (21, _), (22, _)]) 326 (by kernel_rfl) (by repeat (first | exact Gts.nil | apply Gts.cons gt_)) (fun jj => ?_)
        -- ref.go:76 R37
        refine c_reg ?_
        refine s_y (Y_asC) rfl rfl ?_
        refine s_nil ?_
        refine q_then ?_
        refine c_seq ?_
        refine c_meetQ (ks := [24, 25, 195, 196, 197, 198, 199, 200, 201, 202, 203, 204, 205, 206, 207, 208, 209, 210, 211, 212, 213, 214, 215, 216, 217, 218, 219, 220, 221, 222, 223, 224, 225, 226]) (tr := fun o : Option Nat => [(24, .bool o.isSome)]) (φ := fun o => o = shopAt seed floor) (G := fun o => [cB b34 384 (shopC dn o), fB fb f, lB b4 lz]) (fun _ => rfl) ?_ ?_
        · rintro o j45 ho
          refine q_then ?_
          refine QL.forget (tr := [(0, _), (1, _), (4, _), (5, _), (21, _), (24, _)]) 326 (by kernel_rfl) (by repeat (first | exact Gts.nil | apply Gts.cons gt_)) (fun jj => ?_)
          exact make_t1 (m := makeM seed floor) hfl (by rw [shopC_len]; exact hdnl) hdl (by rw [ho, ← hdd]; exact (cells_eq seed floor).symm) (by rw [ho, ← hdd, ← hdf]; rfl) (by rw [ho, ← hdd, ← hdf]; rfl) jj
        · intro go
          refine c_seq ?_
          -- ref.go:77 R38
          refine c_reg ?_
          refine s_y (Y_mv) rfl rfl ?_
          refine s_y (Y_mv) rfl rfl ?_
          refine s_c (En_call (fun _ => rfl) Try.func49 rfl (by kernel_rfl) rfl) (fun w hH => rd_d (by decide)) rfl rfl ?_
          rintro _ _ ⟨rfl, rfl⟩
          refine s_y (Y_eql rfl rfl) rfl rfl ?_
          refine s_nil ?_
          refine q_then ?_
          first | refine c_cond' rfl (fun hc38 => ?_) (fun hc38 => ?_) | refine c_cond rfl (fun hc38 => ?_) (fun hc38 => ?_)
          · skip
            try simp only [nrm_] at hc38
            refine c_seq ?_
            -- ref.go:78 R39
            refine c_reg ?_
            refine s_y (Y_asC) rfl rfl ?_
            refine s_nil ?_
            refine q_then ?_
            refine c_block ?_
            refine c_loop [24, 25, 199, 200, 201, 202, 203, 204, 205, 206, 207, 208, 209, 210, 211, 212, 213, 214, 215, 216, 217, 218, 219, 220, 221, 222, 223, 224, 225, 226] (fun m (y : Nat × Option Nat) => y.1 + m = 384 ∧ y.2 = shopM dn f ((getI f fa).tdiv 2) y.1) (fun y => [(25, iv y.1), (24, .bool y.2.isSome)]) (fun y => [cB b34 384 (shopC dn y.2), fB fb f, lB b4 lz]) (384) ((0, none)) (⟨by omega, rfl⟩) (by repeat (first | exact trivial | refine ⟨rfl, ?_⟩)) (fun _ h => h.sub sl_) (fun _ => rfl) ?_
            rintro m ⟨k, o⟩ j ⟨hk, ho⟩ K hK
            simp only at hk ho ⊢
            refine c_seq ?_
            refine c_seq ?_
            -- ref.go:78 R40
            refine c_reg ?_
            refine s_y (Y_mv) rfl rfl ?_
            refine s_y (Y_lss rfl rfl) rfl rfl ?_
            refine s_y (Y_mv) rfl rfl ?_
            apply s_and 3 [201, 202, 203, 204] 204 (g := 201) rfl rfl
            · intro ht3 hm
              try simp only [nrm_] at ht3
              first | refine s_y (Y_mv) rfl rfl ?_ | refine s_pass rfl rfl ?_
              first | refine s_y (Y_not rfl) rfl rfl ?_ | refine s_pass rfl rfl ?_
              refine s_y (Y_pk rfl (Gx.tmp gt_) Gx.const) rfl rfl ?_
              first | exact hm _ ⟨rfl, trivial⟩ rfl | exact QL.sub sl_ (hm _ ⟨rfl, trivial⟩ rfl)
            · intro ht3 hm
              iterate 2 refine s_pass rfl rfl ?_
              refine s_y (Y_pk rfl (Gx.tmp gt_) Gx.const) rfl rfl ?_
              exact hm _ ⟨rfl, trivial⟩ rfl
            intro j204
            refine s_nil ?_
            refine q_then ?_
            first | refine c_cond' rfl (fun hc40 => ?_) (fun hc40 => ?_) | refine c_cond rfl (fun hc40 => ?_) (fun hc40 => ?_)
            · skip
              try simp only [nrm_] at hc40
              refine c_skip ?_
              refine q_then ?_
              refine c_seq ?_
              refine c_block ?_
              refine c_seq ?_
              -- ref.go:79 R42
              obtain rfl : o = none := by
                cases o with
                | none => rfl
                | some q => exact absurd hc40.2 (by simp)
              refine c_rord [] [(0, true), (1, true), (2, true), (3, true), (4, true), (5, true), (6, true), (7, true), (8, true), (9, true), (10, true), (11, true), (12, true), (13, true), (14, true), (15, true), (16, true)] (by kernel_rfl) (by kernel_rfl) (by kernel_rfl) (by kernel_rfl) rfl (by intro c a d v w h; cases d <;> exact h) rfl ?_
              simp only [mkOrd, List.filterMap_cons, List.filterMap_nil, List.getElem?_toArray, List.getElem?_cons_zero, List.getElem?_cons_succ, Option.map_some]
              refine o_y (Y_mv) rfl rfl ?_
              refine o_y (Y_mv) rfl rfl ?_
              refine o_y (Y_ia1 rfl rfl Try.underlying25 sz5 rfl (by omega)) rfl rfl ?_
              refine o_y (Y_load (v := .int .u8 (byteAt dn k)) rfl one5 mm_ (by rw [Nat.zero_add]; exact byte_get (cells := dn) (by omega))) rfl rfl ?_
              refine o_y (Y_eql rfl rfl) rfl rfl ?_
              refine o_y (Y_mv) rfl rfl ?_
              apply o_and 11 [212, 213, 214, 215, 216, 217, 218, 219, 220, 221, 222, 223] 223 (g := 212) rfl rfl
              · intro ht6 hm
                try simp only [nrm_] at ht6
                first | refine o_y (Y_mv) rfl rfl ?_ | refine o_pass rfl rfl ?_
                first | refine o_y (Y_mv) rfl rfl ?_ | refine o_pass rfl rfl ?_
                first | refine o_y (Y_ia1 rfl rfl Try.underlying22 sz3 rfl (by omega)) rfl rfl ?_ | refine o_pass rfl rfl ?_
                first | refine o_y (Y_load (v := iv (getI f k)) rfl one3 mm_ (iv_get (by omega))) rfl rfl ?_ | refine o_pass rfl rfl ?_
                first | refine o_y (Y_mv) rfl rfl ?_ | refine o_pass rfl rfl ?_
                first | refine o_y (Y_mv) rfl rfl ?_ | refine o_pass rfl rfl ?_
                first | refine o_y (Y_ia1 (n := fa) rfl rfl Try.underlying22 sz3 rfl (by omega)) rfl rfl ?_ | refine o_pass rfl rfl ?_
                first | refine o_y (Y_load (v := iv (getI f fa)) rfl one3 mm_ (iv_get (by omega))) rfl rfl ?_ | refine o_pass rfl rfl ?_
                first | refine o_y ((Y_quow rfl rfl (by decide)).num (i64_id (by omega))) rfl rfl ?_ | refine o_pass rfl rfl ?_
                first | refine o_y (Y_eql rfl rfl) rfl rfl ?_ | refine o_pass rfl rfl ?_
                refine o_y (Y_pk rfl (Gx.tmp gt_) Gx.const) rfl rfl ?_
                first | exact hm _ ⟨rfl, trivial⟩ rfl | exact QL.sub sl_ (hm _ ⟨rfl, trivial⟩ rfl)
              · intro ht6 hm
                iterate 10 refine o_pass rfl rfl ?_
                refine o_y (Y_pk rfl (Gx.tmp gt_) Gx.const) rfl rfl ?_
                exact hm _ ⟨rfl, trivial⟩ rfl
              intro j223
              refine o_nil ?_
              refine q_then ?_
              first | refine c_cond' rfl (fun hc42 => ?_) (fun hc42 => ?_) | refine c_cond rfl (fun hc42 => ?_) (fun hc42 => ?_)
              · skip
                try simp only [nrm_] at hc42
                refine c_seq ?_
                -- ref.go:80 R43
                refine c_reg ?_
                refine s_y (Y_mv) rfl rfl ?_
                refine s_y (Y_mv) rfl rfl ?_
                refine s_y (Y_ia1 rfl rfl Try.underlying25 sz5 rfl (by omega)) rfl rfl ?_
                refine s_s (S_stC (cs' := (dn.set k 5).map bv) rfl sz5 (by rfl) (by repeat (first | exact Upd.head | apply Upd.tail)) (by rw [Nat.zero_add]; exact bv_set dn k 5) (by rw [List.length_map]; show 0 + k < dn.length; omega)) rfl ?_
                refine s_nil ?_
                refine q_then ?_
                -- ref.go:81 R44
                refine c_reg ?_
                refine s_y (Y_asC) rfl rfl ?_
                refine s_nil ?_
                refine q_bn ?_
                refine q_then ?_
                -- ref.go:78 R41
                refine c_reg ?_
                refine s_y (Y_mv) rfl rfl ?_
                refine s_y ((by first | exact Y_add rfl rfl (by omega) | exact Y_addw rfl rfl)) rfl rfl ?_
                refine s_y (Y_as) rfl rfl ?_
                refine s_nil ?_
                refine hK (m - 1) (k + 1, some k) _ _ (by omega) ⟨by simp only; omega, by simp only; rw [shopM, ← ho]; simp only; rw [if_pos hc42]⟩ ⟨rfl, rfl, trivial⟩ rfl (fun _ h => h)
              · skip
                try simp only [nrm_] at hc42
                refine c_skip ?_
                refine q_bn ?_
                refine q_then ?_
                -- ref.go:78 R41
                refine c_reg ?_
                refine s_y (Y_mv) rfl rfl ?_
                refine s_y ((by first | exact Y_add rfl rfl (by omega) | exact Y_addw rfl rfl)) rfl rfl ?_
                refine s_y (Y_as) rfl rfl ?_
                refine s_nil ?_
                refine hK (m - 1) (k + 1, none) _ _ (by omega) ⟨by simp only; omega, by simp only; rw [shopM, ← ho]; simp only; rw [if_neg]; rintro ⟨h1, h2⟩; rcases hc42 with h | h <;> omega⟩ ⟨rfl, rfl, trivial⟩ rfl (fun _ h => h)
            · skip
              try simp only [nrm_] at hc40
              refine c_exit ?_
              repeat with_reducible refine q_te ?_
              refine q_exit ?_
              exact go o _ _ (by
                rw [hsh, if_pos hc38]
                cases o with
                | none =>
                  rcases hc40 with h | h
                  · rw [show k = 384 by omega] at ho; exact ho
                  · cases h
                | some q => rw [← shop_stays ho.symm (384 - k), show k + (384 - k) = 384 by omega]) ⟨rfl, trivial⟩ rfl (fun _ h => h)
          · skip
            try simp only [nrm_] at hc38
            refine c_skip ?_
            exact go none _ _ (by rw [hsh, if_neg hc38]) ⟨rfl, trivial⟩ rfl (fun _ h => h)
end
end Go.Proofs.Ytecodneffflpoaa
