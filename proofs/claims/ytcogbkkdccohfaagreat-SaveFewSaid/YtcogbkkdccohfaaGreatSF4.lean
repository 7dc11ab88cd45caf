/- Texts of this claim, laid together: part 4. -/
import Derived.Test.YtcogbkkdccohfaaGreatSF3
set_option linter.unusedVariables false
set_option linter.unusedSimpArgs false
set_option maxHeartbeats 1600000
namespace Go.Ad
open Go.RowKit Go.Maps Go.Proofs.YtcogbkkdccohfaaGreat
def bitB : Nat → Int
  | 0 => 0
  | k + 1 => 2 ^ k
theorem bitB_rng : ∀ k, k ≤ 32 → 0 ≤ bitB k ∧ bitB k ≤ 2147483648 ∧ (k ≠ 0 → 0 < bitB k) := by decide
theorem bitB_half : ∀ k, k ≤ 32 → bitB k / 2 = bitB (k - 1) := by decide
theorem bitB_zero : ∀ k, k ≤ 32 → bitB k ≤ 0 → k = 0 := by decide
theorem rootF_step (n r : Int) : ∀ {k : Nat}, k ≠ 0 → rootF n k r = rootF n (k - 1) (if r + bitB k ≤ 3037000499 ∧ (r + bitB k) * (r + bitB k) ≤ n then r + bitB k else r)
  | 0, h => absurd rfl h
  | k + 1, _ => rfl
theorem sq_rng {z : Int} (h0 : 0 ≤ z) (h : z ≤ 3037000499) : -9223372036854775808 ≤ z * z ∧ z * z ≤ 9223372036854775807 := by
  have h1 := Int.mul_nonneg h0 h0
  have h2 := Int.mul_le_mul h h h0 (by decide)
  omega
theorem abs_sq {z : Int} (h : -1000 ≤ z ∧ z ≤ 1000) : 0 ≤ z * z ∧ z * z ≤ 1000000 := by
  obtain ⟨n, rfl | rfl⟩ := Int.eq_nat_or_neg z
  · have := Nat.mul_le_mul (show n ≤ 1000 by omega) (show n ≤ 1000 by omega)
    omega
  · have := Nat.mul_le_mul (show n ≤ 1000 by omega) (show n ≤ 1000 by omega)
    rw [Int.neg_mul_neg]; omega
theorem tdiv_big {a b m : Int} (hb : 0 < b) (h : -m ≤ a ∧ a ≤ m) : -m ≤ a.tdiv b ∧ a.tdiv b ≤ m := by
  by_cases h0 : 0 ≤ a
  · rw [Int.tdiv_eq_ediv_of_nonneg h0]
    have h1 := Int.ediv_nonneg h0 (show 0 ≤ b by omega)
    have h2 := Int.ediv_le_self b h0
    omega
  · have e1 : a.tdiv b = -((-a) / b) := by
      rw [show a = -(-a) by omega, Int.neg_tdiv, Int.tdiv_eq_ediv_of_nonneg (by omega)]
      rw [show - -(-a) = -a by omega]
    have h1 := Int.ediv_nonneg (show 0 ≤ -a by omega) (show 0 ≤ b by omega)
    have h2 := Int.ediv_le_self b (show 0 ≤ -a by omega)
    omega
theorem ble_e {l : List Ent} {i : Nat} (h : i < l.length) : Nat.ble (0 + i * 11 + 11) (ecells l).length = true := by
  rw [ecells_len]
  exact Nat.ble_eq_true_of_le (by omega)
theorem ble_i {l : List Itm} {i : Nat} (h : i < l.length) : Nat.ble (0 + i * 4 + 4) (icells l).length = true := by
  rw [icells_len]
  exact Nat.ble_eq_true_of_le (by omega)
theorem off_eq {p n : Int} (hn : 0 < n) (hp : -1000000 ≤ p ∧ p ≤ 1000000) (hn2 : n ≤ 1000000) : offM p n = if (2 * p + n).tmod (2 * n) < 0 then (2 * p + n).tdiv (2 * n) - 1 else (2 * p + n).tdiv (2 * n) := by
  unfold offM
  obtain ⟨a, ha⟩ : ∃ a, 2 * p + n = a := ⟨_, rfl⟩
  obtain ⟨b, hb⟩ : ∃ b, 2 * n = b := ⟨_, rfl⟩
  rw [ha, hb]
  have hb0 : 0 < b := by omega
  have h1 := Int.emod_add_mul_ediv a b
  have h2 := Int.emod_nonneg a (show b ≠ 0 by omega)
  have h3 := Int.emod_lt_of_pos a hb0
  have t1 := Int.tmod_add_mul_tdiv a b
  by_cases h0 : 0 ≤ a
  · rw [Int.tmod_eq_emod_of_nonneg h0, Int.tdiv_eq_ediv_of_nonneg h0, if_neg (by omega)]
  · have e1 : a.tdiv b = -((-a) / b) := by
      rw [show a = -(-a) by omega, Int.neg_tdiv, Int.tdiv_eq_ediv_of_nonneg (by omega)]
      rw [show - -(-a) = -a by omega]
    have e2 : a.tmod b = -((-a) % b) := by
      rw [show a = -(-a) by omega, Int.neg_tmod, Int.tmod_eq_emod_of_nonneg (by omega)]
      rw [show - -(-a) = -a by omega]
    have g1 := Int.emod_add_mul_ediv (-a) b
    have g2 := Int.emod_nonneg (-a) (show b ≠ 0 by omega)
    have g3 := Int.emod_lt_of_pos (-a) hb0
    rw [e1, e2]
    obtain ⟨q, hq⟩ : ∃ q, (-a) / b = q := ⟨_, rfl⟩
    obtain ⟨r, hr⟩ : ∃ r, (-a) % b = r := ⟨_, rfl⟩
    rw [hq, hr] at g1
    rw [hr] at g2 g3
    rw [hq, hr]
    split
    · -- r > 0
      have : a = b * (-q - 1) + (b - r) := by rw [Int.mul_sub, Int.mul_neg]; omega
      rw [this, Int.add_comm, Int.add_mul_ediv_left _ _ (by omega), Int.ediv_eq_zero_of_lt (by omega) (by omega)]
      omega
    · have : a = b * (-q) + 0 := by rw [Int.mul_neg]; omega
      rw [this, Int.add_zero, Int.mul_ediv_cancel_left _ (by omega)]
end Go.Ad
namespace Go.Proofs.YtcogbkkdccohfaaGreat
open Go.RowKit Go.Ad Go.Maps
set_option linter.unusedVariables false
set_option linter.unusedSimpArgs false
section
variable {W : World}
set_option maxRecDepth 100000 in
theorem rway_d {k : Int} : Does Tryz.prog 140 [iv k] W [] (fun v L => v = .tuple #[iv (wx k), iv (wy k)] ∧ L = []) := by
  refine enter Tryz.func140 rfl rfl rfl (Has.start _) ?_
  refine c_seq ?_
  refine c_reg ?_
  refine s_y (Y_asC) rfl rfl ?_
  refine s_y (Y_asC) rfl rfl ?_
  refine s_nil ?_
  refine q_then ?_
  refine c_seq ?_
  refine c_seq ?_
  refine c_reg ?_
  refine s_y (Y_mv) rfl rfl ?_
  refine s_nil ?_
  refine q_then ?_
  refine c_block ?_
  refine c_seq ?_
  refine c_reg ?_
  refine s_y (Y_eql rfl rfl) rfl rfl ?_
  refine s_y (Y_as) rfl rfl ?_
  refine s_nil ?_
  refine q_then ?_
  first | refine c_cond' rfl (fun hc2 => ?_) (fun hc2 => ?_) | refine c_cond rfl (fun hc2 => ?_) (fun hc2 => ?_)
  · skip
    try simp only [nrm_] at hc2
    refine c_seq ?_
    refine c_reg ?_
    refine s_y (Y_asC) rfl rfl ?_
    refine s_y (Y_asC) rfl rfl ?_
    refine s_nil ?_
    refine q_then ?_
    refine c_ret ?_
    refine q_retG2 rfl gt_ gt_ (L' := _) sl_ (⟨by subst hc2; rfl, rfl⟩)
  · skip
    try simp only [nrm_] at hc2
    refine c_seq ?_
    refine c_reg ?_
    refine s_y (Y_eql rfl rfl) rfl rfl ?_
    refine s_y (Y_as) rfl rfl ?_
    refine s_nil ?_
    refine q_then ?_
    first | refine c_cond' rfl (fun hc4 => ?_) (fun hc4 => ?_) | refine c_cond rfl (fun hc4 => ?_) (fun hc4 => ?_)
    · skip
      try simp only [nrm_] at hc4
      refine c_seq ?_
      refine c_reg ?_
      refine s_y (Y_asC) rfl rfl ?_
      refine s_y (Y_asC) rfl rfl ?_
      refine s_nil ?_
      refine q_then ?_
      refine c_ret ?_
      refine q_retG2 rfl gt_ gt_ (L' := _) sl_ (⟨by subst hc4; rfl, rfl⟩)
    · skip
      try simp only [nrm_] at hc4
      refine c_seq ?_
      refine c_reg ?_
      refine s_y (Y_eql rfl rfl) rfl rfl ?_
      refine s_y (Y_as) rfl rfl ?_
      refine s_nil ?_
      refine q_then ?_
      first | refine c_cond' rfl (fun hc6 => ?_) (fun hc6 => ?_) | refine c_cond rfl (fun hc6 => ?_) (fun hc6 => ?_)
      · skip
        try simp only [nrm_] at hc6
        refine c_seq ?_
        refine c_reg ?_
        refine s_y (Y_asC) rfl rfl ?_
        refine s_y (Y_asC) rfl rfl ?_
        refine s_nil ?_
        refine q_then ?_
        refine c_ret ?_
        refine q_retG2 rfl gt_ gt_ (L' := _) sl_ (⟨by subst hc6; rfl, rfl⟩)
      · skip
        try simp only [nrm_] at hc6
        refine c_seq ?_
        refine c_reg ?_
        refine s_y (Y_eql rfl rfl) rfl rfl ?_
        refine s_y (Y_as) rfl rfl ?_
        refine s_nil ?_
        refine q_then ?_
        first | refine c_cond' rfl (fun hc8 => ?_) (fun hc8 => ?_) | refine c_cond rfl (fun hc8 => ?_) (fun hc8 => ?_)
        · skip
          try simp only [nrm_] at hc8
          refine c_seq ?_
          refine c_reg ?_
          refine s_y (Y_asC) rfl rfl ?_
          refine s_y (Y_asC) rfl rfl ?_
          refine s_nil ?_
          refine q_then ?_
          refine c_ret ?_
          refine q_retG2 rfl gt_ gt_ (L' := _) sl_ (⟨by subst hc8; rfl, rfl⟩)
        · skip
          try simp only [nrm_] at hc8
          refine c_skip ?_
          refine q_bn ?_
          refine q_then ?_
          refine c_seq ?_
          refine c_reg ?_
          refine s_y (Y_asC) rfl rfl ?_
          refine s_y (Y_asC) rfl rfl ?_
          refine s_nil ?_
          refine q_then ?_
          refine c_ret ?_
          refine q_retG2 rfl gt_ gt_ (L' := _) sl_ (⟨by unfold wx wy; rw [if_neg hc4, if_neg hc8, if_neg hc2, if_neg hc6], rfl⟩)
set_option maxRecDepth 100000 in
theorem rroot_d {n : Int} : Does Tryz.prog 184 [iv n] W [] (fun v L => v = iv (rootM n) ∧ L = []) := by
  refine enter Tryz.func184 rfl rfl rfl (Has.start _) ?_
  refine c_seq ?_
  refine c_reg ?_
  refine s_y (Y_asC) rfl rfl ?_
  refine s_nil ?_
  refine q_then ?_
  refine c_seq ?_
  refine c_reg ?_
  refine s_y (Y_asC) rfl rfl ?_
  refine s_nil ?_
  refine q_then ?_
  refine c_seq ?_
  refine c_seq ?_
  refine c_reg ?_
  refine s_y (Y_asC) rfl rfl ?_
  refine s_nil ?_
  refine q_then ?_
  refine c_block ?_
  refine c_loop [3, 4, 5, 6, 7, 8, 9, 10, 11, 12, 13, 14, 15, 16, 17, 18, 19, 20, 21, 22, 23, 24, 25, 26] (fun m (y : Nat × Int) => y.1 = m ∧ y.1 ≤ 32 ∧ 0 ≤ y.2 ∧ y.2 ≤ 3037000499 ∧ rootF n y.1 y.2 = rootM n) (fun y => [(3, iv y.2), (4, iv (bitB y.1))]) (fun _ => []) (32) ((32, 0)) (⟨rfl, by simp only; omega, by simp only; omega, by simp only; omega, rfl⟩) (by repeat (first | exact trivial | refine ⟨rfl, ?_⟩)) (fun _ h => h.sub sl_) (fun _ => rfl) ?_
  rintro m ⟨k, r⟩ j ⟨rfl, hm, hr0, hr1, hf⟩ K hK
  simp only at hm hr0 hr1 hf ⊢
  obtain ⟨hb0, hb1, hb2⟩ := bitB_rng k hm
  have hbh := bitB_half k hm
  have hbz := bitB_zero k hm
  have hbn : k = 0 → bitB k = 0 := by rintro rfl; rfl
  have hst := rootF_step n r (k := k)
  obtain ⟨b, hbk⟩ : ∃ q_, bitB k = q_ := ⟨_, rfl⟩
  rw [hbk] at hb0 hb1 hb2 hbh hbz hbn hst ⊢
  refine c_seq ?_
  refine c_seq ?_
  refine c_reg ?_
  refine s_y (Y_mv) rfl rfl ?_
  refine s_y (Y_gtr rfl rfl) rfl rfl ?_
  refine s_nil ?_
  refine q_then ?_
  first | refine c_cond' rfl (fun hc3 => ?_) (fun hc3 => ?_) | refine c_cond rfl (fun hc3 => ?_) (fun hc3 => ?_)
  · skip
    try simp only [nrm_] at hc3
    refine c_skip ?_
    refine q_then ?_
    refine c_seq ?_
    refine c_block ?_
    refine c_seq ?_
    refine c_reg ?_
    refine s_y (Y_mv) rfl rfl ?_
    refine s_y (Y_mv) rfl rfl ?_
    refine s_y ad_ rfl rfl ?_
    refine s_y (Y_leq rfl rfl) rfl rfl ?_
    refine s_y (Y_mv) rfl rfl ?_
    apply s_and 10 [13, 14, 15, 16, 17, 18, 19, 20, 21, 22, 23] 23 (g := 13) rfl rfl
    · intro ht5 hm
      try simp only [nrm_] at ht5
      first | refine s_y (Y_mv) rfl rfl ?_ | refine s_pass rfl rfl ?_
      first | refine s_y (Y_mv) rfl rfl ?_ | refine s_pass rfl rfl ?_
      first | refine s_y ad_ rfl rfl ?_ | refine s_pass rfl rfl ?_
      first | refine s_y (Y_mv) rfl rfl ?_ | refine s_pass rfl rfl ?_
      first | refine s_y (Y_mv) rfl rfl ?_ | refine s_pass rfl rfl ?_
      first | refine s_y ad_ rfl rfl ?_ | refine s_pass rfl rfl ?_
      first | refine s_y (Y_mul rfl rfl (sq_rng (by omega) ht5)) rfl rfl ?_ | refine s_pass rfl rfl ?_
      first | refine s_y (Y_mv) rfl rfl ?_ | refine s_pass rfl rfl ?_
      first | refine s_y (Y_leq rfl rfl) rfl rfl ?_ | refine s_pass rfl rfl ?_
      refine s_y (Y_pk rfl (Gx.tmp gt_) Gx.const) rfl rfl ?_
      first | exact hm _ ⟨rfl, trivial⟩ rfl | exact QL.sub sl_ (hm _ ⟨rfl, trivial⟩ rfl)
    · intro ht5 hm
      iterate 9 refine s_pass rfl rfl ?_
      refine s_y (Y_pk rfl (Gx.tmp gt_) Gx.const) rfl rfl ?_
      exact hm _ ⟨rfl, trivial⟩ rfl
    intro j23
    refine s_nil ?_
    refine q_then ?_
    first | refine c_cond' rfl (fun hc5 => ?_) (fun hc5 => ?_) | refine c_cond rfl (fun hc5 => ?_) (fun hc5 => ?_)
    · skip
      try simp only [nrm_] at hc5
      refine c_reg ?_
      refine s_y (Y_mv) rfl rfl ?_
      refine s_y (Y_mv) rfl rfl ?_
      refine s_y ad_ rfl rfl ?_
      refine s_y (Y_as) rfl rfl ?_
      refine s_nil ?_
      refine q_bn ?_
      refine q_then ?_
      refine c_reg ?_
      refine s_y (Y_mv) rfl rfl ?_
      refine s_y ((by first | exact Y_quo rfl rfl (by omega) | exact Y_quow rfl rfl (by omega))) rfl rfl ?_
      refine s_y (Y_as) rfl rfl ?_
      refine s_nil ?_
      refine hK (k - 1) (k - 1, r + b) _ _ (by omega) ⟨rfl, by simp only; omega, by simp only; omega, hc5.1, ?_⟩ ⟨rfl, by rw [← hbh]; rfl, trivial⟩ rfl (fun _ h => h)
      rw [← hf, hst (by omega), if_pos hc5]
    · skip
      try simp only [nrm_] at hc5
      refine c_skip ?_
      refine q_bn ?_
      refine q_then ?_
      refine c_reg ?_
      refine s_y (Y_mv) rfl rfl ?_
      refine s_y ((by first | exact Y_quo rfl rfl (by omega) | exact Y_quow rfl rfl (by omega))) rfl rfl ?_
      refine s_y (Y_as) rfl rfl ?_
      refine s_nil ?_
      refine hK (k - 1) (k - 1, r) _ _ (by omega) ⟨rfl, by simp only; omega, hr0, hr1, ?_⟩ ⟨rfl, by rw [← hbh]; rfl, trivial⟩ rfl (fun _ h => h)
      rw [← hf, hst (by omega), if_neg (fun h => by rcases hc5 with q | q <;> omega)]
  · skip
    try simp only [nrm_] at hc3
    refine c_exit ?_
    repeat with_reducible refine q_te ?_
    refine q_exit ?_
    refine q_then ?_
    refine c_seq ?_
    refine c_reg ?_
    refine s_y (Y_mv) rfl rfl ?_
    refine s_y (Y_as) rfl rfl ?_
    refine s_nil ?_
    refine q_then ?_
    refine c_ret ?_
    refine q_retG1 rfl gt_ (L' := _) sl_ (⟨by rw [← hf, show k = 0 by omega]; rfl, rfl⟩)
set_option maxRecDepth 100000 in
theorem rdist_d {x y : Int} (hx : -1000 ≤ x ∧ x ≤ 1000) (hy : -1000 ≤ y ∧ y ≤ 1000) : Does Tryz.prog 146 [iv x, iv y] W [] (fun v L => v = iv (farD x y) ∧ L = []) := by
  have h1 := abs_sq hx
  have h2 := abs_sq hy
  refine enter Tryz.func146 rfl rfl rfl (Has.start _) ?_
  refine c_seq ?_
  refine c_reg ?_
  refine s_y (Y_asC) rfl rfl ?_
  refine s_nil ?_
  refine q_then ?_
  refine c_seq ?_
  refine c_reg ?_
  refine s_y (Y_mv) rfl rfl ?_
  refine s_y (Y_mv) rfl rfl ?_
  refine s_y mu_ rfl rfl ?_
  refine s_y (Y_mv) rfl rfl ?_
  refine s_y (Y_mv) rfl rfl ?_
  refine s_y mu_ rfl rfl ?_
  refine s_y ad_ rfl rfl ?_
  refine s_y mu_ rfl rfl ?_
  refine s_c (En_call (fun _ => rfl) Tryz.func184 rfl (by kernel_rfl) rfl) (fun w hH => rroot_d) rfl rfl ?_
  rintro _ _ ⟨rfl, rfl⟩
  refine s_y (Y_as) rfl rfl ?_
  refine s_nil ?_
  refine q_then ?_
  refine c_ret ?_
  refine q_retG1 rfl gt_ (L' := _) sl_ (⟨rfl, rfl⟩)
set_option maxRecDepth 100000 in
theorem rfree_d {b o n c : Nat} {l : List Ent} (hs : SlB W b o n c 11 (ecells l)) (h1 : n ≤ 100000) {r : Int} (hr : 0 ≤ r ∧ r < n) : Does Tryz.prog 152 [.slice (some ⟨b, o, none⟩) n c, iv r] W [] (fun v L => ∃ g cap, v = .slice (some ⟨g, 0, none⟩) n cap ∧ n ≤ cap ∧ L = [eB g cap (freeE l r)]) := by
  obtain rfl : n = l.length := by have := hs.len; rw [ecells_len] at this; omega
  have hb := hs.cap
  obtain ⟨i, rfl⟩ : ∃ q : Nat, r = (q : Int) := ⟨r.toNat, by omega⟩
  obtain ⟨e, he⟩ := take_lt (show i < l.length by omega)
  have hre := hs.at' Ent.len he
  have hfe : freeE l (i : Int) = l.set i ⟨0, e.gen, 0, 0, 0, 0, 0, 0, 0, 0, 0⟩ := by rw [freeE, if_pos (by omega), egt_of he, Int.toNat_natCast]
  rw [hfe]
  refine enter Tryz.func152 rfl rfl rfl (Has.start _) ?_
  refine c_seq ?_
  refine c_reg ?_
  refine s_y (Y_asC) rfl rfl ?_
  refine s_nil ?_
  refine q_then ?_
  refine c_seq ?_
  refine c_reg ?_
  refine s_n (N_bs0 rfl Tryz.underlying30 sz93) rfl rfl (fun b6 _ => ?_)
  refine s_y (Y_mv) rfl rfl ?_
  refine s_n (N_appE (news := ecells l) rfl rfl Tryz.underlying30 inf93 rfl (by omega) se_ hs.src hs.len (one_e l) (by omega) (by omega)) rfl rfl (fun ⟨g8, cp8⟩ hc8 => ?_)
  refine s_y (Y_as) rfl rfl ?_
  refine s_nil ?_
  refine q_then ?_
  refine c_seq ?_
  refine c_seq ?_
  refine c_reg ?_
  refine s_y (Y_mv) rfl rfl ?_
  refine s_y (Y_geq rfl rfl) rfl rfl ?_
  refine s_y (Y_mv) rfl rfl ?_
  apply s_and 5 [11, 12, 13, 14, 15, 16] 16 (g := 11) rfl rfl
  · intro ht3 hm
    try simp only [nrm_] at ht3
    first | refine s_y (Y_mv) rfl rfl ?_ | refine s_pass rfl rfl ?_
    first | refine s_y (Y_mv) rfl rfl ?_ | refine s_pass rfl rfl ?_
    first | refine s_y (Y_len rfl rfl Tryz.underlying30) rfl rfl ?_ | refine s_pass rfl rfl ?_
    first | refine s_y (Y_lss rfl rfl) rfl rfl ?_ | refine s_pass rfl rfl ?_
    refine s_y (Y_pk rfl (Gx.tmp gt_) Gx.const) rfl rfl ?_
    first | exact hm _ ⟨rfl, trivial⟩ rfl | exact QL.sub sl_ (hm _ ⟨rfl, trivial⟩ rfl)
  · intro ht3 hm
    iterate 4 refine s_pass rfl rfl ?_
    refine s_y (Y_pk rfl (Gx.tmp gt_) Gx.const) rfl rfl ?_
    exact hm _ ⟨rfl, trivial⟩ rfl
  intro j16
  refine s_nil ?_
  refine q_then ?_
  refine c_T rfl ((by simp; omega)) ?_
  refine c_reg ?_
  refine s_y (Y_mv) rfl rfl ?_
  refine s_y (Y_mv) rfl rfl ?_
  refine s_y (Y_mv) rfl rfl ?_
  refine s_y (Y_mv) rfl rfl ?_
  refine s_y (Y_ia rfl rfl Tryz.underlying30 sz93 rfl (by omega)) rfl rfl ?_
  refine s_y (Y_fa 1 rfl Tryz.underlying93 rfl sz3 rfl) rfl rfl ?_
  refine s_y (Y_loadR (v := iv e.gen) (i := 1) rfl one3 hre rfl rfl) rfl rfl ?_
  refine s_y (Y_build (cs := [.int .i64 0, _, .int .i64 0, .int .i64 0, .int .i64 0, .int .i64 0, .int .i64 0, .int .i64 0, .int .i64 0, .int .i64 0, .int .i64 0]) (by repeat (first | exact Gp.nil | apply Gp.const | apply Gp.tmp gt_)) (bld93 _ _ (by first | rfl | (simp; rfl)))) rfl rfl ?_
  refine s_y (Y_ia rfl rfl Tryz.underlying30 sz93 rfl (by omega)) rfl rfl ?_
  refine s_s (S_storeN (cs' := ecells (l.set i ⟨0, e.gen, 0, 0, 0, 0, 0, 0, 0, 0, 0⟩)) rfl rfl sz93 (by rfl) (by rfl) up_ (eall ⟨0, e.gen, 0, 0, 0, 0, 0, 0, 0, 0, 0⟩ (by omega)) (ble_e (by omega))) rfl ?_
  refine s_nil ?_
  refine q_then ?_
  refine c_seq ?_
  refine c_reg ?_
  refine s_y (Y_mv) rfl rfl ?_
  refine s_y (Y_as) rfl rfl ?_
  refine s_nil ?_
  refine q_then ?_
  refine c_ret ?_
  refine q_retG1 rfl gt_ (L' := _) sl_ (⟨g8, cp8, rfl, by omega, rfl⟩)
set_option maxRecDepth 100000 in
theorem roff_d {p n : Int} (hn : 0 < n) (hp : -1000000 ≤ p ∧ p ≤ 1000000) (hn2 : n ≤ 1000000) : Does Tryz.prog 212 [iv p, iv n] W [] (fun v L => v = iv (offM p n) ∧ L = []) := by
  have he := off_eq hn hp hn2
  have hq := tdiv_big (a := 2 * p + n) (b := 2 * n) (m := 10000000) (by omega) (by omega)
  obtain ⟨q, hqe⟩ : ∃ q, (2 * p + n).tdiv (2 * n) = q := ⟨_, rfl⟩
  obtain ⟨m, hme⟩ : ∃ q, (2 * p + n).tmod (2 * n) = q := ⟨_, rfl⟩
  rw [hqe] at hq he
  rw [hme] at he
  have hm : -10000000 ≤ m ∧ m ≤ 10000000 := by
    have h1 := Int.tmod_lt_of_pos (2 * p + n) (show 0 < 2 * n by omega)
    have h2 := Int.lt_tmod_of_pos (2 * p + n) (show 0 < 2 * n by omega)
    omega
  refine enter Tryz.func212 rfl rfl rfl (Has.start _) ?_
  refine c_seq ?_
  refine c_reg ?_
  refine s_y (Y_asC) rfl rfl ?_
  refine s_nil ?_
  refine q_then ?_
  refine c_seq ?_
  refine c_reg ?_
  refine s_y (Y_mv) rfl rfl ?_
  refine s_y mu_ rfl rfl ?_
  refine s_y (Y_mv) rfl rfl ?_
  refine s_y ad_ rfl rfl ?_
  refine s_y (Y_mv) rfl rfl ?_
  refine s_y mu_ rfl rfl ?_
  refine s_y (Y_as) rfl rfl ?_
  refine s_y (Y_as) rfl rfl ?_
  refine s_nil ?_
  refine q_then ?_
  refine c_seq ?_
  refine c_reg ?_
  refine s_y (Y_mv) rfl rfl ?_
  refine s_y (Y_mv) rfl rfl ?_
  refine s_y ((Y_quow rfl rfl (by omega)).num (m := q) (by rw [hqe]; exact i64_id (by omega))) rfl rfl ?_
  refine s_y (Y_as) rfl rfl ?_
  refine s_nil ?_
  refine q_then ?_
  refine c_seq ?_
  refine c_seq ?_
  refine c_reg ?_
  refine s_y (Y_mv) rfl rfl ?_
  refine s_y (Y_mv) rfl rfl ?_
  refine s_y ((Y_remw rfl rfl (by omega)).num (m := m) hme) rfl rfl ?_
  refine s_y (Y_lss rfl rfl) rfl rfl ?_
  refine s_nil ?_
  refine q_then ?_
  first | refine c_cond' rfl (fun hc3 => ?_) (fun hc3 => ?_) | refine c_cond rfl (fun hc3 => ?_) (fun hc3 => ?_)
  · skip
    try simp only [nrm_] at hc3
    refine c_reg ?_
    refine s_y (Y_mv) rfl rfl ?_
    refine s_y su_ rfl rfl ?_
    refine s_y (Y_as) rfl rfl ?_
    refine s_nil ?_
    refine q_then ?_
    refine c_seq ?_
    refine c_reg ?_
    refine s_y (Y_mv) rfl rfl ?_
    refine s_y (Y_as) rfl rfl ?_
    refine s_nil ?_
    refine q_then ?_
    refine c_ret ?_
    refine q_retG1 rfl gt_ (L' := _) sl_ (⟨by rw [he, if_pos hc3], rfl⟩)
  · skip
    try simp only [nrm_] at hc3
    refine c_skip ?_
    refine q_then ?_
    refine c_seq ?_
    refine c_reg ?_
    refine s_y (Y_mv) rfl rfl ?_
    refine s_y (Y_as) rfl rfl ?_
    refine s_nil ?_
    refine q_then ?_
    refine c_ret ?_
    refine q_retG1 rfl gt_ (L' := _) sl_ (⟨by rw [he, if_neg hc3], rfl⟩)
end
end Go.Proofs.YtcogbkkdccohfaaGreat
namespace Go.Ad
open Go.RowKit Go.Maps Go.Proofs.YtcogbkkdccohfaaGreat
theorem dirM_end {p : Int → Bool} {m : Nat} {d : Int} (h : m = 0) : dirM p m d = 0 := by subst h; rfl
theorem lt_in {x y : Int} (h : inM x y = true) : 0 ≤ x ∧ x < 24 ∧ 0 ≤ y ∧ y < 16 := by simpa only [inM, decide_eq_true_eq] using h
theorem off_rng {k n dx : Int} (hn : 0 < n) (hk : 0 ≤ k ∧ k ≤ n) (hd : -n ≤ dx ∧ dx ≤ n) : (0 ≤ dx → 0 ≤ offM (k * dx) n ∧ offM (k * dx) n ≤ dx) ∧ (dx ≤ 0 → dx ≤ offM (k * dx) n ∧ offM (k * dx) n ≤ 0) := by
  have hle : ∀ {a b : Int}, a ≤ b * (2 * n) + n → a / (2 * n) ≤ b := fun {a b} h => by
    have := Int.ediv_le_ediv (show 0 < 2 * n by omega) h
    have e : (b * (2 * n) + n) / (2 * n) = b := by
      rw [Int.add_comm (b * (2 * n)) n, Int.mul_comm b (2 * n), Int.add_mul_ediv_left _ _ (by omega), Int.ediv_eq_zero_of_lt (by omega) (by omega)]
      omega
    rw [e] at this
    exact this
  have hge : ∀ {a b : Int}, b * (2 * n) ≤ a → b ≤ a / (2 * n) := fun {a b} h => (Int.le_ediv_iff_mul_le (by omega)).2 h
  unfold offM
  refine ⟨fun h0 => ?_, fun h0 => ?_⟩
  · have h1 := Int.mul_le_mul_of_nonneg_right hk.2 h0
    have h2 := Int.mul_nonneg hk.1 h0
    refine ⟨hge (by omega), hle ?_⟩
    rw [show dx * (2 * n) = 2 * (n * dx) by rw [Int.mul_comm dx, Int.mul_assoc]]
    omega
  · have h1 := Int.mul_le_mul_of_nonneg_right hk.2 (show 0 ≤ -dx by omega)
    have h2 := Int.mul_nonneg hk.1 (show 0 ≤ -dx by omega)
    rw [Int.mul_neg, Int.mul_neg] at h1
    rw [Int.mul_neg] at h2
    refine ⟨hge ?_, hle (by omega)⟩
    rw [show dx * (2 * n) = 2 * (n * dx) by rw [Int.mul_comm dx, Int.mul_assoc]]
    omega
theorem maxD_rng {dx dy : Int} : -maxD dx dy ≤ dx ∧ dx ≤ maxD dx dy ∧ -maxD dx dy ≤ dy ∧ dy ≤ maxD dx dy ∧ 0 ≤ maxD dx dy ∧ (-24 ≤ dx → dx ≤ 24 → -24 ≤ dy → dy ≤ 24 → maxD dx dy ≤ 24) := by unfold maxD; omega
theorem mul_small {k d : Int} (hk : 0 ≤ k ∧ k ≤ 24) (hd : -24 ≤ d ∧ d ≤ 24) : -576 ≤ k * d ∧ k * d ≤ 576 := by
  by_cases h0 : 0 ≤ d
  · have h1 := Int.mul_le_mul hk.2 hd.2 h0 (by decide)
    have h2 := Int.mul_nonneg hk.1 h0
    omega
  · have h1 := Int.mul_le_mul hk.2 (show -d ≤ 24 by omega) (by omega) (by decide)
    have h2 := Int.mul_nonneg hk.1 (show 0 ≤ -d by omega)
    rw [Int.mul_neg] at h1 h2
    omega
theorem pt_in {x0 y0 x1 y1 k : Int} (h0 : inM x0 y0 = true) (h1 : inM x1 y1 = true) (hn : 0 < maxD (x1 - x0) (y1 - y0)) (hk : 0 ≤ k ∧ k ≤ maxD (x1 - x0) (y1 - y0)) :
    inM (x0 + offM (k * (x1 - x0)) (maxD (x1 - x0) (y1 - y0))) (y0 + offM (k * (y1 - y0)) (maxD (x1 - x0) (y1 - y0))) = true := by
  have a0 := lt_in h0
  have a1 := lt_in h1
  obtain ⟨m1, m2, m3, m4, m5, _⟩ := maxD_rng (dx := x1 - x0) (dy := y1 - y0)
  have b0 := off_rng hn hk ⟨m1, m2⟩
  have b1 := off_rng hn hk ⟨m3, m4⟩
  rw [inM, decide_eq_true_eq]
  rcases (show 0 ≤ x1 - x0 ∨ x1 - x0 ≤ 0 by omega) with c | c <;> rcases (show 0 ≤ y1 - y0 ∨ y1 - y0 ≤ 0 by omega) with d | d
  · have := b0.1 c; have := b1.1 d; omega
  · have := b0.1 c; have := b1.2 d; omega
  · have := b0.2 c; have := b1.1 d; omega
  · have := b0.2 c; have := b1.2 d; omega
theorem pt_eq (x0 y0 dx dy n k : Int) : ptM x0 y0 dx dy n k = (y0 + offM (k * dy) n) * 24 + (x0 + offM (k * dx) n) := by unfold ptM; omega
theorem kind_at (cells : List UInt8) {z : Int} (h : 0 ≤ z ∧ z < 384) : atM cells (z % 24) (z / 24) = kindM cells z := by
  unfold atM kindM
  have hin : inM (z % 24) (z / 24) = true := by rw [inM, decide_eq_true_eq]; omega
  have he : z / 24 * 24 + z % 24 = z := by omega
  rw [hin, he]
  by_cases hc : z < cells.length
  · rw [if_pos ⟨rfl, hc⟩, if_pos ⟨h.1, hc⟩]
  · rw [if_neg (fun k => hc k.2), if_neg (fun k => hc k.2)]
theorem line_rng {x0 y0 x1 y1 : Int} : ∀ z ∈ lineM x0 y0 x1 y1, 0 ≤ z ∧ z < 384 := by
  intro z hz
  unfold lineM at hz
  split at hz
  · rename_i hc
    have a0 := lt_in hc.1
    split at hz
    · obtain rfl := List.mem_singleton.1 hz; omega
    · rename_i hn
      obtain ⟨k, hk, rfl⟩ := List.mem_map.1 hz
      have hk := List.mem_range.1 hk
      have hp := (maxD_rng (dx := x1 - x0) (dy := y1 - y0)).2.2.2.2.1
      have := lt_in (pt_in hc.1 hc.2 (k := (k : Int)) (by omega) (by omega))
      rw [pt_eq]; omega
  · cases hz
theorem line_len {x0 y0 x1 y1 : Int} : (lineM x0 y0 x1 y1).length ≤ 100 := by
  unfold lineM
  split
  · rename_i hc
    have a0 := lt_in hc.1
    have a1 := lt_in hc.2
    split
    · simp
    · have := (maxD_rng (dx := x1 - x0) (dy := y1 - y0)).2.2.2.2.2 (by omega) (by omega) (by omega) (by omega)
      rw [List.length_map, List.length_range]; omega
  · simp
def inner (l : List Int) (i : Nat) : List Int := (l.drop i).dropLast
theorem inner_step {l : List Int} {i : Nat} {z : Int} (h : l[i]? = some z) (h1 : i + 1 < l.length) : inner l i = z :: inner l (i + 1) := by
  obtain ⟨hi, rfl⟩ := List.getElem?_eq_some_iff.1 h
  unfold inner
  rw [List.drop_eq_getElem_cons hi, List.dropLast_cons_of_ne_nil]
  intro hn
  have := congrArg List.length hn
  rw [List.length_drop, List.length_nil] at this
  omega
theorem inner_end {l : List Int} {i : Nat} (h : l.length ≤ i + 1) : inner l i = [] := by
  unfold inner
  apply List.eq_nil_of_length_eq_zero
  rw [List.length_dropLast, List.length_drop]; omega
end Go.Ad
namespace Go.Proofs.YtcogbkkdccohfaaGreat
open Go.RowKit Go.Ad Go.Maps
set_option linter.unusedVariables false
set_option linter.unusedSimpArgs false
section
variable {W : World}
set_option maxRecDepth 100000 in
theorem rbeside_d {x0 y0 x1 y1 : Int} (hx : -1000 ≤ x0 ∧ x0 ≤ 1000) (hy : -1000 ≤ y0 ∧ y0 ≤ 1000) : Does Tryz.prog 148 [iv x0, iv y0, iv x1, iv y1] W [] (fun v L => v = iv (besideM x0 y0 x1 y1) ∧ L = []) := by
  refine enter Tryz.func148 rfl rfl rfl (Has.start _) ?_
  refine c_seq ?_
  refine c_reg ?_
  refine s_y (Y_asC) rfl rfl ?_
  refine s_nil ?_
  refine q_then ?_
  refine c_seq ?_
  refine c_seq ?_
  refine c_reg ?_
  refine s_y (Y_asC) rfl rfl ?_
  refine s_nil ?_
  refine q_then ?_
  refine c_block ?_
  refine c_loop [8, 9, 10, 11, 12, 13, 14, 15, 16, 17, 18, 19, 20, 21, 22, 23, 24, 25, 26, 27, 28, 29, 30, 31, 32, 33] (fun m (d : Nat) => d + m = 5 ∧ dirM (fun d => decide (x1 = x0 + wx d ∧ y1 = y0 + wy d)) m d = besideM x0 y0 x1 y1) (fun d => [(9, iv d)]) (fun _ => []) (4) (1) (⟨rfl, rfl⟩) (by repeat (first | exact trivial | refine ⟨rfl, ?_⟩)) (fun _ h => h.sub sl_) (fun _ => rfl) ?_
  rintro m d j ⟨hd, hf⟩ K hK
  have hw := way_rng d
  refine c_seq ?_
  refine c_seq ?_
  refine c_reg ?_
  refine s_y (Y_mv) rfl rfl ?_
  refine s_y (Y_leq rfl rfl) rfl rfl ?_
  refine s_nil ?_
  refine q_then ?_
  first | refine c_cond' rfl (fun hc2 => ?_) (fun hc2 => ?_) | refine c_cond rfl (fun hc2 => ?_) (fun hc2 => ?_)
  · skip
    try simp only [nrm_] at hc2
    refine c_skip ?_
    refine q_then ?_
    refine c_seq ?_
    refine c_block ?_
    refine c_seq ?_
    refine c_reg ?_
    refine s_y (Y_mv) rfl rfl ?_
    refine s_c (En_call (fun _ => rfl) Tryz.func140 rfl (by kernel_rfl) rfl) (fun w hH => rway_d) rfl rfl ?_
    rintro _ _ ⟨rfl, rfl⟩
    refine s_y (Y_mv) rfl rfl ?_
    refine s_y (Y_extract rfl rfl) rfl rfl ?_
    refine s_y (Y_extract rfl rfl) rfl rfl ?_
    refine s_y (Y_as) rfl rfl ?_
    refine s_y (Y_as) rfl rfl ?_
    refine s_nil ?_
    refine q_then ?_
    refine c_seq ?_
    refine c_reg ?_
    refine s_y (Y_mv) rfl rfl ?_
    refine s_y (Y_mv) rfl rfl ?_
    refine s_y (Y_mv) rfl rfl ?_
    refine s_y ad_ rfl rfl ?_
    refine s_y (Y_eql rfl rfl) rfl rfl ?_
    refine s_y (Y_mv) rfl rfl ?_
    apply s_and 6 [26, 27, 28, 29, 30, 31, 32] 32 (g := 26) rfl rfl
    · intro ht6 hm
      try simp only [nrm_] at ht6
      first | refine s_y (Y_mv) rfl rfl ?_ | refine s_pass rfl rfl ?_
      first | refine s_y (Y_mv) rfl rfl ?_ | refine s_pass rfl rfl ?_
      first | refine s_y (Y_mv) rfl rfl ?_ | refine s_pass rfl rfl ?_
      first | refine s_y ad_ rfl rfl ?_ | refine s_pass rfl rfl ?_
      first | refine s_y (Y_eql rfl rfl) rfl rfl ?_ | refine s_pass rfl rfl ?_
      refine s_y (Y_pk rfl (Gx.tmp gt_) Gx.const) rfl rfl ?_
      first | exact hm _ ⟨rfl, trivial⟩ rfl | exact QL.sub sl_ (hm _ ⟨rfl, trivial⟩ rfl)
    · intro ht6 hm
      iterate 5 refine s_pass rfl rfl ?_
      refine s_y (Y_pk rfl (Gx.tmp gt_) Gx.const) rfl rfl ?_
      exact hm _ ⟨rfl, trivial⟩ rfl
    intro j32
    refine s_nil ?_
    refine q_then ?_
    first | refine c_cond' rfl (fun hc5 => ?_) (fun hc5 => ?_) | refine c_cond rfl (fun hc5 => ?_) (fun hc5 => ?_)
    · skip
      try simp only [nrm_] at hc5
      refine c_seq ?_
      refine c_reg ?_
      refine s_y (Y_mv) rfl rfl ?_
      refine s_y (Y_as) rfl rfl ?_
      refine s_nil ?_
      refine q_then ?_
      refine c_ret ?_
      refine q_retG1 rfl gt_ (L' := _) sl_ (⟨by rw [← hf, dirM_yes (by omega) (decide_eq_true hc5)], rfl⟩)
    · skip
      try simp only [nrm_] at hc5
      refine c_skip ?_
      refine q_bn ?_
      refine q_then ?_
      refine c_reg ?_
      refine s_y (Y_mv) rfl rfl ?_
      refine s_y ad_ rfl rfl ?_
      refine s_y (Y_as) rfl rfl ?_
      refine s_nil ?_
      refine hK (m - 1) (d + 1) _ _ (by omega) ⟨by omega, by rw [← hf, dirM_no (n := m) (d := (d : Int)) (by omega) (decide_eq_false (by omega))]; rfl⟩ ⟨rfl, trivial⟩ rfl (fun _ h => h)
  · skip
    try simp only [nrm_] at hc2
    refine c_exit ?_
    repeat with_reducible refine q_te ?_
    refine q_exit ?_
    refine q_then ?_
    refine c_seq ?_
    refine c_reg ?_
    refine s_y (Y_asC) rfl rfl ?_
    refine s_nil ?_
    refine q_then ?_
    refine c_ret ?_
    refine q_retG1 rfl gt_ (L' := _) sl_ (⟨by rw [← hf, dirM_end (by omega)], rfl⟩)
abbrev oB (b : Nat) (u : List Bool) : Bk := ⟨b, 4, 1, 384, u.map Value.bool⟩
theorem rep_bool (n : Nat) : (List.replicate n false).map Value.bool = List.replicate n (.bool false) := List.map_replicate
set_option maxRecDepth 100000 in
theorem rblocked_d {b o n c : Nat} {l : List Ent} (hs : SlB W b o n c 11 (ecells l)) (h1 : n ≤ 100000) {x y : Int} : Does Tryz.prog 182 [.slice (some ⟨b, o, none⟩) n c, iv x, iv y] W [] (fun v L => ∃ g, v = .slice (some ⟨g, 0, none⟩) 384 384 ∧ L = [oB g (barsM l x y)]) := by
  obtain rfl : n = l.length := by have := hs.len; rw [ecells_len] at this; omega
  refine enter Tryz.func182 rfl rfl rfl (Has.start _) ?_
  refine c_seq ?_
  refine c_reg ?_
  refine s_y (Y_asC) rfl rfl ?_
  refine s_nil ?_
  refine q_then ?_
  refine c_seq ?_
  refine c_reg ?_
  refine s_n (N_make1 (n := 384) rfl rfl Tryz.underlying181 inf4 rfl rfl (by omega) (by omega)) rfl rfl (fun b9 _ => ?_)
  refine s_y (Y_as) rfl rfl ?_
  refine s_nil ?_
  refine q_then ?_
  refine c_seq ?_
  refine c_seq ?_
  refine c_reg ?_
  refine s_y (Y_asC) rfl rfl ?_
  refine s_nil ?_
  refine q_then ?_
  refine c_block ?_
  refine c_loop [8, 10, 11, 12, 13, 14, 15, 16, 17, 18, 19, 20, 21, 22, 23, 24, 25, 26, 27, 28, 29, 30, 31, 32, 33, 34, 35, 36, 37, 38, 39, 40, 41, 42, 43, 44, 45, 46, 47, 48, 49, 50, 51, 52, 53, 54, 55, 56, 57, 58, 59, 60, 61, 62, 63, 64, 65, 66] (fun m (y2 : Nat × List Bool) => y2.1 + m = l.length ∧ y2.2.length = 384 ∧ (l.drop y2.1).foldl (barOne x y) y2.2 = barsM l x y) (fun y2 => [(8, iv y2.1)]) (fun y2 => [oB b9 y2.2]) (l.length) ((0, List.replicate 384 false)) (⟨by simp only; omega, List.length_replicate, rfl⟩) (by repeat (first | exact trivial | refine ⟨rfl, ?_⟩)) (fun w h => by rw [oB, rep_bool]; exact h) (fun _ => rfl) ?_
  rintro m ⟨i, u⟩ j ⟨hi, hu, hf⟩ K hK
  simp only at hi hu hf ⊢
  refine c_seq ?_
  refine c_seq ?_
  refine c_reg ?_
  refine s_y (Y_mv) rfl rfl ?_
  refine s_y (Y_mv) rfl rfl ?_
  refine s_y (Y_len rfl rfl Tryz.underlying30) rfl rfl ?_
  refine s_y (Y_lss rfl rfl) rfl rfl ?_
  refine s_nil ?_
  refine q_then ?_
  first | refine c_cond' rfl (fun hc3 => ?_) (fun hc3 => ?_) | refine c_cond rfl (fun hc3 => ?_) (fun hc3 => ?_)
  · skip
    try simp only [nrm_] at hc3
    refine c_skip ?_
    refine q_then ?_
    refine c_seq ?_
    refine c_block ?_
    refine c_seq ?_
    obtain ⟨e, he⟩ := take_lt (show i < l.length by omega)
    have hr := hs.at' Ent.len he
    rw [foldl_drop he] at hf
    refine c_rord [] [(0, true), (1, true), (2, true), (3, true), (4, true), (5, true), (6, true), (7, true), (8, true), (9, true), (10, true), (11, true), (12, true), (13, true), (14, true), (15, true), (16, true), (17, false), (18, true), (19, true), (20, true), (21, true), (22, true), (23, true), (24, true), (25, true), (26, true), (27, true), (28, true), (29, true), (30, true), (31, true), (32, true), (33, true), (34, true), (35, true), (36, true)] (by kernel_rfl) (by kernel_rfl) (by kernel_rfl) (by kernel_rfl) rfl (by intro c a d v w h; cases d <;> exact h) rfl ?_
    simp only [mkOrd, List.filterMap_cons, List.filterMap_nil, List.getElem?_toArray, List.getElem?_cons_zero, List.getElem?_cons_succ, Option.map_some]
    refine o_y (Y_mv) rfl rfl ?_
    refine o_y (Y_mv) rfl rfl ?_
    refine o_y (Y_ia rfl rfl Tryz.underlying30 sz93 rfl (by omega)) rfl rfl ?_
    refine o_y (Y_fa 0 rfl Tryz.underlying93 rfl sz3 rfl) rfl rfl ?_
    refine o_y (yl_ one3) rfl rfl ?_
    refine o_y (Y_neq rfl rfl) rfl rfl ?_
    refine o_y (Y_mv) rfl rfl ?_
    apply o_and 12 [22, 23, 24, 25, 26, 27, 28, 29, 30, 31, 32, 33, 34] 34 (g := 22) rfl rfl
    · intro ht7 hm
      try simp only [nrm_] at ht7
      first | refine o_y (Y_mv) rfl rfl ?_ | refine o_pass rfl rfl ?_
      first | refine o_y (Y_mv) rfl rfl ?_ | refine o_pass rfl rfl ?_
      first | refine o_y (Y_ia rfl rfl Tryz.underlying30 sz93 rfl (by omega)) rfl rfl ?_ | refine o_pass rfl rfl ?_
      first | refine o_y (Y_fa 3 rfl Tryz.underlying93 rfl sz3 rfl) rfl rfl ?_ | refine o_pass rfl rfl ?_
      first | refine o_y (yl_ one3) rfl rfl ?_ | refine o_pass rfl rfl ?_
      first | refine o_y (Y_mv) rfl rfl ?_ | refine o_pass rfl rfl ?_
      first | refine o_y (Y_mv) rfl rfl ?_ | refine o_pass rfl rfl ?_
      first | refine o_y (Y_ia rfl rfl Tryz.underlying30 sz93 rfl (by omega)) rfl rfl ?_ | refine o_pass rfl rfl ?_
      first | refine o_y (Y_fa 4 rfl Tryz.underlying93 rfl sz3 rfl) rfl rfl ?_ | refine o_pass rfl rfl ?_
      first | refine o_y (yl_ one3) rfl rfl ?_ | refine o_pass rfl rfl ?_
      refine o_c (En_call (fun _ => rfl) Tryz.func144 rfl (by kernel_rfl) rfl) (fun w hH => rin_d) (fun _ _ h => by obtain ⟨rfl, rfl⟩ := h; exact kp_) rfl rfl ?_
      rintro _ _ ⟨rfl, rfl⟩
      refine o_y (Y_pk rfl (Gx.tmp gt_) Gx.const) rfl rfl ?_
      first | exact hm _ ⟨rfl, trivial⟩ rfl | exact QL.sub sl_ (hm _ ⟨rfl, trivial⟩ rfl)
    · intro ht7 hm
      iterate 10 refine o_pass rfl rfl ?_
      refine o_none kp_ rfl rfl ?_
      refine o_y (Y_pk rfl (Gx.tmp gt_) Gx.const) rfl rfl ?_
      exact hm _ ⟨rfl, trivial⟩ rfl
    intro j34
    refine o_y (Y_mv) rfl rfl ?_
    apply o_and 17 [35, 36, 37, 38, 39, 40, 41, 42, 43, 44, 45, 46, 47, 48, 49, 50, 51, 52] 52 (g := 35) rfl rfl
    · intro ht20 hm
      try simp only [nrm_] at ht20
      first | refine o_y (Y_mv) rfl rfl ?_ | refine o_pass rfl rfl ?_
      first | refine o_y (Y_mv) rfl rfl ?_ | refine o_pass rfl rfl ?_
      first | refine o_y (Y_ia rfl rfl Tryz.underlying30 sz93 rfl (by omega)) rfl rfl ?_ | refine o_pass rfl rfl ?_
      first | refine o_y (Y_fa 3 rfl Tryz.underlying93 rfl sz3 rfl) rfl rfl ?_ | refine o_pass rfl rfl ?_
      first | refine o_y (yl_ one3) rfl rfl ?_ | refine o_pass rfl rfl ?_
      first | refine o_y (Y_mv) rfl rfl ?_ | refine o_pass rfl rfl ?_
      first | refine o_y (Y_neq rfl rfl) rfl rfl ?_ | refine o_pass rfl rfl ?_
      first | refine o_y (Y_mv) rfl rfl ?_ | refine o_pass rfl rfl ?_
      apply o_or 8 [43, 44, 45, 46, 47, 48, 49, 50, 51] 51 (g := 43) rfl rfl
      · intro ht28 hm
        try simp only [nrm_] at ht28
        first | refine o_y (Y_mv) rfl rfl ?_ | refine o_pass rfl rfl ?_
        first | refine o_y (Y_mv) rfl rfl ?_ | refine o_pass rfl rfl ?_
        first | refine o_y (Y_ia rfl rfl Tryz.underlying30 sz93 rfl (by omega)) rfl rfl ?_ | refine o_pass rfl rfl ?_
        first | refine o_y (Y_fa 4 rfl Tryz.underlying93 rfl sz3 rfl) rfl rfl ?_ | refine o_pass rfl rfl ?_
        first | refine o_y (yl_ one3) rfl rfl ?_ | refine o_pass rfl rfl ?_
        first | refine o_y (Y_mv) rfl rfl ?_ | refine o_pass rfl rfl ?_
        first | refine o_y (Y_neq rfl rfl) rfl rfl ?_ | refine o_pass rfl rfl ?_
        first | refine o_y (Y_pk rfl Gx.const (Gx.tmp gt_)) rfl rfl ?_ | refine o_pass rfl rfl ?_
        first | exact hm _ ⟨rfl, trivial⟩ rfl | exact QL.sub sl_ (hm _ ⟨rfl, trivial⟩ rfl)
      · intro ht28 hm
        iterate 7 refine o_pass rfl rfl ?_
        first | refine o_y (Y_pk rfl Gx.const (Gx.tmp gt_)) rfl rfl ?_ | refine o_pass rfl rfl ?_
        exact hm _ ⟨rfl, trivial⟩ rfl
      intro j51
      refine o_y (Y_pk rfl (Gx.tmp gt_) Gx.const) rfl rfl ?_
      first | exact hm _ ⟨rfl, trivial⟩ rfl | exact QL.sub sl_ (hm _ ⟨rfl, trivial⟩ rfl)
    · intro ht20 hm
      iterate 16 refine o_pass rfl rfl ?_
      refine o_y (Y_pk rfl (Gx.tmp gt_) Gx.const) rfl rfl ?_
      exact hm _ ⟨rfl, trivial⟩ rfl
    intro j52
    refine o_nil ?_
    refine q_then ?_
    first | refine c_cond' rfl (fun hc5 => ?_) (fun hc5 => ?_) | refine c_cond rfl (fun hc5 => ?_) (fun hc5 => ?_)
    · skip
      try simp only [nrm_] at hc5
      have hin := lt_in hc5.1.2
      refine c_rord [14] [(0, true), (1, true), (2, true), (3, true), (4, true), (5, true), (6, true), (7, true), (8, true), (9, true), (10, true), (11, true), (12, true), (13, true), (14, false)] (by kernel_rfl) (by kernel_rfl) (by kernel_rfl) (by kernel_rfl) rfl (by intro c a d v w h; cases d <;> exact h) rfl ?_
      simp only [mkOrd, List.filterMap_cons, List.filterMap_nil, List.getElem?_toArray, List.getElem?_cons_zero, List.getElem?_cons_succ, Option.map_some]
      refine o_y (Y_mv) rfl rfl ?_
      refine o_y (Y_mv) rfl rfl ?_
      refine o_y (Y_mv) rfl rfl ?_
      refine o_y (Y_ia rfl rfl Tryz.underlying30 sz93 rfl (by omega)) rfl rfl ?_
      refine o_y (Y_fa 4 rfl Tryz.underlying93 rfl sz3 rfl) rfl rfl ?_
      refine o_y (yl_ one3) rfl rfl ?_
      refine o_y mu_ rfl rfl ?_
      refine o_y (Y_mv) rfl rfl ?_
      refine o_y (Y_mv) rfl rfl ?_
      refine o_y (Y_ia rfl rfl Tryz.underlying30 sz93 rfl (by omega)) rfl rfl ?_
      refine o_y (Y_fa 3 rfl Tryz.underlying93 rfl sz3 rfl) rfl rfl ?_
      refine o_y (yl_ one3) rfl rfl ?_
      refine o_y ad_ rfl rfl ?_
      refine o_y (Y_ia1 (n := (e.y * 24 + e.x).toNat) rfl rfl Tryz.underlying181 sz4 (by omega) (by omega)) rfl rfl ?_
      refine o_s (S_stC (cs' := (u.set (e.y * 24 + e.x).toNat true).map Value.bool) rfl sz4 (by rfl) up_ (by rw [Nat.zero_add]; exact bool_set u _ true) (by rw [List.length_map]; omega)) kp_ rfl ?_
      refine o_nil ?_
      refine q_bn ?_
      refine q_then ?_
      refine c_reg ?_
      refine s_y (Y_mv) rfl rfl ?_
      refine s_y ad_ rfl rfl ?_
      refine s_y (Y_as) rfl rfl ?_
      refine s_nil ?_
      have hb : barOne x y u e = u.set (e.y * 24 + e.x).toNat true := by unfold barOne; rw [if_pos]; exact ⟨hc5.1.1, hc5.1.2, hc5.2⟩
      refine hK (m - 1) (i + 1, u.set (e.y * 24 + e.x).toNat true) _ _ (by omega) ⟨by simp only; omega, by simp only; rw [List.length_set]; exact hu, by simp only; rw [← hb]; exact hf⟩ ⟨rfl, trivial⟩ rfl (fun _ h => h)
    · skip
      try simp only [nrm_] at hc5
      refine c_skip ?_
      refine q_bn ?_
      refine q_then ?_
      refine c_reg ?_
      refine s_y (Y_mv) rfl rfl ?_
      refine s_y ad_ rfl rfl ?_
      refine s_y (Y_as) rfl rfl ?_
      refine s_nil ?_
      have hb : barOne x y u e = u := by
        unfold barOne
        rw [if_neg]
        rintro ⟨q1, q2, q3⟩
        rcases hc5 with (h | h) | h
        · exact q1 h
        · rw [q2] at h; cases h
        · omega
      rw [hb] at hf
      refine hK (m - 1) (i + 1, u) _ _ (by omega) ⟨by simp only; omega, hu, hf⟩ ⟨rfl, trivial⟩ rfl (fun _ h => h)
  · skip
    try simp only [nrm_] at hc3
    refine c_exit ?_
    repeat with_reducible refine q_te ?_
    refine q_exit ?_
    refine q_then ?_
    refine c_seq ?_
    refine c_reg ?_
    refine s_y (Y_mv) rfl rfl ?_
    refine s_y (Y_as) rfl rfl ?_
    refine s_nil ?_
    refine q_then ?_
    refine c_ret ?_
    refine q_retG1 rfl gt_ (L' := _) sl_ (⟨b9, rfl, by rw [← hf, List.drop_eq_nil_of_le (by omega)]; rfl⟩)
end
end Go.Proofs.YtcogbkkdccohfaaGreat
namespace Go.Ad
open Go.RowKit Go.Maps Go.Proofs.YtcogbkkdccohfaaGreat
theorem spotF_step (f : List Int) (l : List Ent) (i : Nat) : spotF f l (i + 1) = if 0 ≤ getI f i ∧ eAt l ((i : Int) % 24) ((i : Int) / 24) < 0 ∧ (spotF f l i < 0 ∨ getI f i < getI f (spotF f l i).toNat) then (i : Int) else spotF f l i := by
  rw [spotF]
  simp only [show ((i % 24 : Nat) : Int) = (i : Int) % 24 by omega, show ((i / 24 : Nat) : Int) = (i : Int) / 24 by omega]
theorem line_no {x0 y0 x1 y1 : Int} (h : ¬ (inM x0 y0 = true ∧ inM x1 y1 = true)) : lineM x0 y0 x1 y1 = [] := by unfold lineM; rw [if_neg h]
theorem line_one {x0 y0 x1 y1 : Int} (h : inM x0 y0 = true ∧ inM x1 y1 = true) (hn : maxD (x1 - x0) (y1 - y0) = 0) : lineM x0 y0 x1 y1 = [y0 * 24 + x0] := by unfold lineM; rw [if_pos h, if_pos hn]
def ptsM (x0 y0 dx dy n : Int) (k : Nat) : List Int := (List.range k).map fun i => ptM x0 y0 dx dy n (i : Nat)
theorem pts_succ (x0 y0 dx dy n : Int) (k : Nat) : ptsM x0 y0 dx dy n (k + 1) = ptsM x0 y0 dx dy n k ++ [ptM x0 y0 dx dy n k] := by unfold ptsM; rw [List.range_succ, List.map_append]; rfl
theorem pts_len (x0 y0 dx dy n : Int) (k : Nat) : (ptsM x0 y0 dx dy n k).length = k := by unfold ptsM; simp
theorem line_more {x0 y0 x1 y1 : Int} (h : inM x0 y0 = true ∧ inM x1 y1 = true) {n : Nat} (hn : maxD (x1 - x0) (y1 - y0) = n) (h0 : n ≠ 0) : lineM x0 y0 x1 y1 = ptsM x0 y0 (x1 - x0) (y1 - y0) n (n + 1) := by
  unfold lineM ptsM
  rw [if_pos h, if_neg (by omega), hn, Int.toNat_natCast]
theorem seesM_eq {cells : List UInt8} {x0 y0 x1 y1 : Int} {ls : List Int} (h : lineM x0 y0 x1 y1 = ls) : seesM cells x0 y0 x1 y1 = (decide (ls ≠ []) && (inner ls 1).all fun k => clearM (kindM cells k)) := by
  unfold seesM seesL inner; rw [h]
theorem ne_nil_len {α : Type} {l : List α} : decide (l ≠ []) = decide (0 < (l.length : Int)) := by
  cases l <;> simp
end Go.Ad
namespace Go.Proofs.YtcogbkkdccohfaaGreat
open Go.RowKit Go.Ad Go.Maps
set_option linter.unusedVariables false
set_option linter.unusedSimpArgs false
section
variable {W : World}
set_option maxRecDepth 100000 in
theorem rclear_d {k : Int} : Does Tryz.prog 186 [iv k] W [] (fun v L => v = .bool (clearM k) ∧ L = []) := by
  refine enter Tryz.func186 rfl rfl rfl (Has.start _) ?_
  refine c_seq ?_
  refine c_reg ?_
  refine s_y (Y_asC) rfl rfl ?_
  refine s_nil ?_
  refine q_then ?_
  refine c_seq ?_
  refine c_reg ?_
  refine s_y (Y_mv) rfl rfl ?_
  refine s_c (En_call (fun _ => rfl) Tryz.func97 rfl (by kernel_rfl) rfl) (fun w hH => rwalk_d) rfl rfl ?_
  rintro _ _ ⟨rfl, rfl⟩
  refine s_y (Y_mv) rfl rfl ?_
  apply s_and 3 [5, 6, 7, 8] 8 (g := 5) rfl rfl
  · intro ht3 hm
    try simp only [nrm_] at ht3
    first | refine s_y (Y_mv) rfl rfl ?_ | refine s_pass rfl rfl ?_
    first | refine s_y (Y_neq rfl rfl) rfl rfl ?_ | refine s_pass rfl rfl ?_
    refine s_y (Y_pk rfl (Gx.tmp gt_) Gx.const) rfl rfl ?_
    first | exact hm _ ⟨rfl, trivial⟩ rfl | exact QL.sub sl_ (hm _ ⟨rfl, trivial⟩ rfl)
  · intro ht3 hm
    iterate 2 refine s_pass rfl rfl ?_
    refine s_y (Y_pk rfl (Gx.tmp gt_) Gx.const) rfl rfl ?_
    exact hm _ ⟨rfl, trivial⟩ rfl
  intro j8
  refine s_y (Y_as) rfl rfl ?_
  refine s_nil ?_
  refine q_then ?_
  refine c_ret ?_
  refine q_retG1 rfl gt_ (L' := _) sl_ (⟨by unfold clearM; cases walkM k <;> simp, rfl⟩)
def LineP (ls : List Int) (v : Value) (L : List Bk) : Prop := Row 3 1 v ls.length (ls.map iv) L
set_option maxRecDepth 100000 in
theorem rline_d {x0 y0 x1 y1 : Int} : Does Tryz.prog 185 [iv x0, iv y0, iv x1, iv y1] W [] (LineP (lineM x0 y0 x1 y1)) := by
  refine enter Tryz.func185 rfl rfl rfl (Has.start _) ?_
  refine c_seq ?_
  refine c_reg ?_
  refine s_y (Y_asC) rfl rfl ?_
  refine s_nil ?_
  refine q_then ?_
  refine c_seq ?_
  refine c_seq ?_
  refine c_reg ?_
  refine s_y (Y_mv) rfl rfl ?_
  refine s_y (Y_mv) rfl rfl ?_
  refine s_c (En_call (fun _ => rfl) Tryz.func144 rfl (by kernel_rfl) rfl) (fun w hH => rin_d) rfl rfl ?_
  rintro _ _ ⟨rfl, rfl⟩
  refine s_y (Y_not rfl) rfl rfl ?_
  refine s_y (Y_mv) rfl rfl ?_
  apply s_or 5 [18, 19, 20, 21, 22, 23] 23 (g := 18) rfl rfl
  · intro ht5 hm
    try simp only [nrm_] at ht5
    first | refine s_y (Y_mv) rfl rfl ?_ | refine s_pass rfl rfl ?_
    first | refine s_y (Y_mv) rfl rfl ?_ | refine s_pass rfl rfl ?_
    refine s_c (En_call (fun _ => rfl) Tryz.func144 rfl (by kernel_rfl) rfl) (fun w hH => rin_d) rfl rfl ?_
    rintro _ _ ⟨rfl, rfl⟩
    first | refine s_y (Y_not rfl) rfl rfl ?_ | refine s_pass rfl rfl ?_
    refine s_y (Y_pk rfl Gx.const (Gx.tmp gt_)) rfl rfl ?_
    first | exact hm _ ⟨rfl, trivial⟩ rfl | exact QL.sub sl_ (hm _ ⟨rfl, trivial⟩ rfl)
  · intro ht5 hm
    iterate 4 refine s_pass rfl rfl ?_
    refine s_y (Y_pk rfl Gx.const (Gx.tmp gt_)) rfl rfl ?_
    exact hm _ ⟨rfl, trivial⟩ rfl
  intro j23
  refine s_nil ?_
  refine q_then ?_
  first | refine c_cond' rfl (fun hc1 => ?_) (fun hc1 => ?_) | refine c_cond rfl (fun hc1 => ?_) (fun hc1 => ?_)
  · skip
    try simp only [nrm_] at hc1
    refine c_seq ?_
    refine c_reg ?_
    refine s_y (Y_asC) rfl rfl ?_
    refine s_nil ?_
    refine q_then ?_
    refine c_ret ?_
    refine q_retG1 rfl gt_ (L' := _) sl_ (by rw [line_no (by rcases hc1 with h | h <;> simp [h])]; exact .nil)
  · skip
    try simp only [nrm_] at hc1
    refine c_skip ?_
    refine q_then ?_
    refine c_seq ?_
    have hin : inM x0 y0 = true ∧ inM x1 y1 = true := hc1
    have a0 := lt_in hin.1
    have a1 := lt_in hin.2
    obtain ⟨m1, m2, m3, m4, m5, m6⟩ := maxD_rng (dx := x1 - x0) (dy := y1 - y0)
    have m7 := m6 (by omega) (by omega) (by omega) (by omega)
    obtain ⟨N, hN⟩ : ∃ q : Nat, maxD (x1 - x0) (y1 - y0) = q := ⟨(maxD (x1 - x0) (y1 - y0)).toNat, by omega⟩
    rw [hN] at m1 m2 m3 m4 m7
    clear m5 m6
    refine c_reg ?_
    refine s_y (Y_mv) rfl rfl ?_
    refine s_y (Y_mv) rfl rfl ?_
    refine s_y su_ rfl rfl ?_
    refine s_y (Y_mv) rfl rfl ?_
    refine s_y (Y_mv) rfl rfl ?_
    refine s_y su_ rfl rfl ?_
    refine s_y (Y_as) rfl rfl ?_
    refine s_y (Y_as) rfl rfl ?_
    refine s_nil ?_
    refine q_then ?_
    refine c_seq ?_
    refine c_reg ?_
    refine s_y (Y_mv) rfl rfl ?_
    refine s_y (Y_mv) rfl rfl ?_
    refine s_y su_ rfl rfl ?_
    refine s_y (Y_max rfl rfl) rfl rfl ?_
    refine s_y (Y_mv) rfl rfl ?_
    refine s_y (Y_mv) rfl rfl ?_
    refine s_y su_ rfl rfl ?_
    refine s_y (Y_max rfl rfl) rfl rfl ?_
    refine s_y ((Y_max rfl rfl).num (show _ = (N : Int) from hN)) rfl rfl ?_
    refine s_y (Y_as) rfl rfl ?_
    refine s_nil ?_
    refine q_then ?_
    refine c_seq ?_
    refine c_seq ?_
    refine c_reg ?_
    refine s_y (Y_mv) rfl rfl ?_
    refine s_y (Y_eql rfl rfl) rfl rfl ?_
    refine s_nil ?_
    refine q_then ?_
    first | refine c_cond' rfl (fun hc5 => ?_) (fun hc5 => ?_) | refine c_cond rfl (fun hc5 => ?_) (fun hc5 => ?_)
    · skip
      try simp only [nrm_] at hc5
      refine c_seq ?_
      refine c_reg ?_
      refine s_y (Y_mv) rfl rfl ?_
      refine s_y mu_ rfl rfl ?_
      refine s_y (Y_mv) rfl rfl ?_
      refine s_y ad_ rfl rfl ?_
      refine s_n (N_bs (xs := [.tmp 44]) (by repeat (first | exact Gv.nil | apply Gv.const | apply Gv.tmp gt_)) rfl Tryz.underlying23 inf3 rfl (by omega) (by omega) (by first | simp [Value.oneCell'] | (intro v hv; simp at hv; subst hv; rfl))) rfl rfl (fun b45 _ => ?_)
      refine s_y (Y_as) rfl rfl ?_
      refine s_nil ?_
      refine q_then ?_
      refine c_ret ?_
      refine q_retG1 rfl gt_ (L' := _) sl_ (by rw [line_one hin (by omega)]; exact .some (Nat.le_refl _) rfl)
    · skip
      try simp only [nrm_] at hc5
      refine c_skip ?_
      refine q_then ?_
      refine c_seq ?_
      have h0 : N ≠ 0 := by omega
      have hln := line_more hin hN h0
      obtain ⟨dx, hdx⟩ : ∃ q, x1 - x0 = q := ⟨_, rfl⟩
      obtain ⟨dy, hdy⟩ : ∃ q, y1 - y0 = q := ⟨_, rfl⟩
      rw [hdx, hdy] at hln
      rw [hdx] at m1 m2
      rw [hdy] at m3 m4
      rw [hdx, hdy]
      refine c_reg ?_
      refine s_y (Y_asC) rfl rfl ?_
      refine s_nil ?_
      refine q_then ?_
      refine c_seq ?_
      refine c_seq ?_
      refine c_reg ?_
      refine s_y (Y_asC) rfl rfl ?_
      refine s_nil ?_
      refine q_then ?_
      refine c_block ?_
      refine c_loop [12, 13, 46, 47, 48, 49, 50, 51, 52, 53, 54, 55, 56, 57, 58, 59, 60, 61, 62, 63, 64, 65, 66, 67, 68, 69] (fun m (y : Nat × List Int × Value × List Bk) => y.1 + m = N + 1 ∧ y.2.1 = ptsM x0 y0 dx dy N y.1 ∧ Row 3 1 y.2.2.1 y.2.1.length (y.2.1.map iv) y.2.2.2) (fun y => [(13, iv y.1), (12, y.2.2.1)]) (fun y => y.2.2.2) (N + 1) ((0, [], .slice none 0 0, [])) (⟨by simp only; omega, rfl, .nil⟩) (by repeat (first | exact trivial | refine ⟨rfl, ?_⟩)) (fun _ h => h.sub sl_) (fun _ => rfl) ?_
      rintro m ⟨k, row, v, B⟩ j ⟨hk, hr0, hB⟩ K hK
      simp only at hk hr0 hB ⊢
      refine c_seq ?_
      refine c_seq ?_
      refine c_reg ?_
      refine s_y (Y_mv) rfl rfl ?_
      refine s_y (Y_mv) rfl rfl ?_
      refine s_y (Y_leq rfl rfl) rfl rfl ?_
      refine s_nil ?_
      refine q_then ?_
      first | refine c_cond' rfl (fun hc9 => ?_) (fun hc9 => ?_) | refine c_cond rfl (fun hc9 => ?_) (fun hc9 => ?_)
      · skip
        try simp only [nrm_] at hc9
        refine c_skip ?_
        refine q_then ?_
        refine c_seq ?_
        refine c_block ?_
        have hrl : row.length ≤ 30 := by rw [hr0, pts_len]; omega
        have q1 := mul_small (k := k) (d := dx) (by omega) (by omega)
        have q2 := mul_small (k := k) (d := dy) (by omega) (by omega)
        obtain ⟨o1, o2⟩ := off_rng (k := k) (n := N) (dx := dx) (by omega) (by omega) ⟨m1, m2⟩
        obtain ⟨o3, o4⟩ := off_rng (k := k) (n := N) (dx := dy) (by omega) (by omega) ⟨m3, m4⟩
        have b1 : -24 ≤ offM (k * dx) N ∧ offM (k * dx) N ≤ 24 := by rcases (show 0 ≤ dx ∨ dx ≤ 0 by omega) with h | h; have := o1 h; omega; have := o2 h; omega
        have b2 : -24 ≤ offM (k * dy) N ∧ offM (k * dy) N ≤ 24 := by rcases (show 0 ≤ dy ∨ dy ≤ 0 by omega) with h | h; have := o3 h; omega; have := o4 h; omega
        clear o1 o2 o3 o4
        refine c_reg ?_
        refine s_y (Y_mv) rfl rfl ?_
        refine s_y (Y_mv) rfl rfl ?_
        refine s_y (Y_mv) rfl rfl ?_
        refine s_y (Y_mv) rfl rfl ?_
        refine s_y mu_ rfl rfl ?_
        refine s_y (Y_mv) rfl rfl ?_
        refine s_c (En_call (fun _ => rfl) Tryz.func212 rfl (by kernel_rfl) rfl) (fun w hH => roff_d (by omega) (by omega) (by omega)) rfl rfl ?_
        rintro _ _ ⟨rfl, rfl⟩
        refine s_y ad_ rfl rfl ?_
        refine s_y mu_ rfl rfl ?_
        refine s_y (Y_mv) rfl rfl ?_
        refine s_y ad_ rfl rfl ?_
        refine s_y (Y_mv) rfl rfl ?_
        refine s_y (Y_mv) rfl rfl ?_
        refine s_y mu_ rfl rfl ?_
        refine s_y (Y_mv) rfl rfl ?_
        refine s_c (En_call (fun _ => rfl) Tryz.func212 rfl (by kernel_rfl) rfl) (fun w hH => roff_d (by omega) (by omega) (by omega)) rfl rfl ?_
        rintro _ _ ⟨rfl, rfl⟩
        refine s_y ad_ rfl rfl ?_
        refine s_n (N_bs (xs := [.tmp 67]) (by repeat (first | exact Gv.nil | apply Gv.const | apply Gv.tmp gt_)) rfl Tryz.underlying23 inf3 rfl (by omega) (by omega) (by first | simp [Value.oneCell'] | (intro v hv; simp at hv; subst hv; rfl))) rfl rfl (fun b68 _ => ?_)
        refine s_n (N_appR (bytes := 8) hB (List.perm_append_comm (l₁ := B) (l₂ := [_])) rfl rfl Tryz.underlying23 inf3 rfl (by omega) (src mm_) (by rfl) (by simp [Value.oneCell']) (by omega) (by omega) (by omega)) rfl rfl (fun ⟨g69, cp69⟩ hc69 => ?_)
        refine s_y (Y_as) rfl rfl ?_
        refine s_nil ?_
        refine q_bn ?_
        refine q_then ?_
        refine c_reg ?_
        refine s_y (Y_mv) rfl rfl ?_
        refine s_y ad_ rfl rfl ?_
        refine s_y (Y_as) rfl rfl ?_
        refine s_nil ?_
        refine hK (m - 1) (k + 1, row ++ [ptM x0 y0 dx dy N k], .slice (some ⟨g69, 0, none⟩) (row.length + 1) cp69, [⟨g69, 3, 1, cp69, (row ++ [ptM x0 y0 dx dy N k]).map iv⟩]) _ _ (by omega) ⟨by simp only; omega, by simp only; rw [pts_succ, hr0], by simp only; rw [List.length_append, List.length_singleton]; exact .some hc69 (by simp)⟩ ⟨rfl, rfl, trivial⟩ rfl (fun w h => ?_)
        rw [List.map_append]
        exact h.pick ss_
      · skip
        try simp only [nrm_] at hc9
        refine c_exit ?_
        repeat with_reducible refine q_te ?_
        refine q_exit ?_
        refine q_then ?_
        refine c_seq ?_
        refine c_reg ?_
        refine s_y (Y_mv) rfl rfl ?_
        refine s_y (Y_as) rfl rfl ?_
        refine s_nil ?_
        refine q_then ?_
        refine c_ret ?_
        refine q_retG1 rfl gt_ (L' := _) sl_ (by rw [hln, ← show k = N + 1 by omega, ← hr0]; exact hB)
set_option maxRecDepth 100000 in
theorem rsees_d {b o n c : Nat} {cells : List UInt8} (hs : SlB W b o n c 1 (cells.map bv)) {x0 y0 x1 y1 : Int} : Does Tryz.prog 147 [.slice (some ⟨b, o, none⟩) n c, iv x0, iv y0, iv x1, iv y1] W [] (fun v L => v = .bool (seesM cells x0 y0 x1 y1) ∧ L = []) := by
  have hrng := line_rng (x0 := x0) (y0 := y0) (x1 := x1) (y1 := y1)
  have hlen := line_len (x0 := x0) (y0 := y0) (x1 := x1) (y1 := y1)
  obtain ⟨ls, hls⟩ : ∃ q, lineM x0 y0 x1 y1 = q := ⟨_, rfl⟩
  have hse := seesM_eq (cells := cells) hls
  rw [hse]
  rw [hls] at hrng hlen
  refine enter Tryz.func147 rfl rfl rfl (Has.start _) ?_
  refine c_seq ?_
  refine c_reg ?_
  refine s_y (Y_asC) rfl rfl ?_
  refine s_nil ?_
  refine q_then ?_
  refine c_seq ?_
  refine c_reg ?_
  refine s_y (Y_mv) rfl rfl ?_
  refine s_y (Y_mv) rfl rfl ?_
  refine s_y (Y_mv) rfl rfl ?_
  refine s_y (Y_mv) rfl rfl ?_
  refine s_c (En_call (fun _ => rfl) Tryz.func185 rfl (by kernel_rfl) rfl) (fun w hH => rline_d) rfl rfl ?_
  rintro _ _ hB
  rename_i v0 B
  rw [hls] at hB
  have hB : Row 3 1 v0 ls.length (ls.map iv) B := hB
  refine QL.conv (L' := B) (fun w h => h.sub (by simp)) ?_
  refine s_y (Y_as) rfl rfl ?_
  refine s_nil ?_
  refine q_then ?_
  refine c_seq ?_
  refine c_seq ?_
  refine c_reg ?_
  refine s_y (Y_asC) rfl rfl ?_
  refine s_nil ?_
  refine q_then ?_
  refine c_block ?_
  refine c_loop [10, 12, 18, 19, 20, 21, 22, 23, 24, 25, 26, 27, 28, 29, 30, 31, 32, 33, 34, 35, 36, 37, 38] (fun m (i : Nat) => 1 ≤ i ∧ i + m = ls.length + 1 ∧ ((inner ls i).all fun k => clearM (kindM cells k)) = ((inner ls 1).all fun k => clearM (kindM cells k))) (fun i => [(12, iv i)]) (fun _ => B) (ls.length) (1) (⟨by omega, by omega, rfl⟩) (by repeat (first | exact trivial | refine ⟨rfl, ?_⟩)) (fun _ h => h.sub sl_) (fun _ => rfl) ?_
  rintro m i j ⟨hi1, hi, hf⟩ K hK
  refine c_seq ?_
  refine c_seq ?_
  refine c_reg ?_
  refine s_y (Y_mv) rfl rfl ?_
  refine s_y ad_ rfl rfl ?_
  refine s_y (Y_mv) rfl rfl ?_
  refine s_y (Y_lenR hB rfl rfl Tryz.underlying23) rfl rfl ?_
  refine s_y (Y_lss rfl rfl) rfl rfl ?_
  refine s_nil ?_
  refine q_then ?_
  first | refine c_cond' rfl (fun hc3 => ?_) (fun hc3 => ?_) | refine c_cond rfl (fun hc3 => ?_) (fun hc3 => ?_)
  · skip
    try simp only [nrm_] at hc3
    refine c_skip ?_
    refine q_then ?_
    refine c_seq ?_
    refine c_block ?_
    refine c_seq ?_
    obtain ⟨z, hz⟩ := take_lt (show i < ls.length by omega)
    obtain ⟨g, cap, rfl, rfl, hcap⟩ := hB.some_of (by omega)
    have hzr := hrng z (List.mem_of_getElem? hz)
    rw [inner_step hz (by omega), List.all_cons] at hf
    have hka := kind_at cells hzr
    refine c_rord [] [(0, true), (1, true), (2, true), (3, true), (4, true), (5, true), (6, true), (7, true), (8, true), (9, true), (10, true), (11, false), (12, false), (13, true)] (by kernel_rfl) (by kernel_rfl) (by kernel_rfl) (by kernel_rfl) rfl (by intro c a d v w h; cases d <;> exact h) rfl ?_
    simp only [mkOrd, List.filterMap_cons, List.filterMap_nil, List.getElem?_toArray, List.getElem?_cons_zero, List.getElem?_cons_succ, Option.map_some]
    refine o_y (Y_mv) rfl rfl ?_
    refine o_y (Y_mv) rfl rfl ?_
    refine o_y (Y_mv) rfl rfl ?_
    refine o_y (Y_ia1 rfl rfl Tryz.underlying23 sz3 rfl (by omega)) rfl rfl ?_
    refine o_y (Y_load (v := iv z) rfl one3 mm_ (by rw [Nat.zero_add, List.getElem?_map, hz]; rfl)) rfl rfl ?_
    refine o_y ((by first | exact Y_rem rfl rfl (by omega) | exact Y_remw rfl rfl (by omega))) rfl rfl ?_
    refine o_y (Y_mv) rfl rfl ?_
    refine o_y (Y_mv) rfl rfl ?_
    refine o_y (Y_ia1 rfl rfl Tryz.underlying23 sz3 rfl (by omega)) rfl rfl ?_
    refine o_y (Y_load (v := iv z) rfl one3 mm_ (by rw [Nat.zero_add, List.getElem?_map, hz]; rfl)) rfl rfl ?_
    refine o_y ((by first | exact Y_quo rfl rfl (by omega) | exact Y_quow rfl rfl (by omega))) rfl rfl ?_
    refine o_c (En_call (fun _ => rfl) Tryz.func91 rfl (by kernel_rfl) rfl) (fun w hH => rat_d (hs.has hH)) (fun _ _ h => by obtain ⟨rfl, rfl⟩ := h; exact kp_) rfl rfl ?_
    rintro _ _ ⟨rfl, rfl⟩
    rw [hka]
    refine o_c (En_call (fun _ => rfl) Tryz.func186 rfl (by kernel_rfl) rfl) (fun w hH => rclear_d) (fun _ _ h => by obtain ⟨rfl, rfl⟩ := h; exact kp_) rfl rfl ?_
    rintro _ _ ⟨rfl, rfl⟩
    refine o_y (Y_not rfl) rfl rfl ?_
    refine o_nil ?_
    refine q_then ?_
    first | refine c_cond' rfl (fun hc5 => ?_) (fun hc5 => ?_) | refine c_cond rfl (fun hc5 => ?_) (fun hc5 => ?_)
    · skip
      try simp only [nrm_] at hc5
      refine c_seq ?_
      refine c_reg ?_
      refine s_y (Y_asC) rfl rfl ?_
      refine s_nil ?_
      refine q_then ?_
      refine c_ret ?_
      refine q_retG1 rfl gt_ (L' := _) sl_ (⟨by rw [← hf, hc5]; simp, rfl⟩)
    · skip
      try simp only [nrm_] at hc5
      refine c_skip ?_
      refine q_bn ?_
      refine q_then ?_
      refine c_reg ?_
      refine s_y (Y_mv) rfl rfl ?_
      refine s_y ad_ rfl rfl ?_
      refine s_y (Y_as) rfl rfl ?_
      refine s_nil ?_
      rw [hc5, Bool.true_and] at hf
      refine hK (m - 1) (i + 1) _ _ (by omega) ⟨by omega, by omega, hf⟩ ⟨rfl, trivial⟩ rfl (fun _ h => h)
  · skip
    try simp only [nrm_] at hc3
    refine c_exit ?_
    repeat with_reducible refine q_te ?_
    refine q_exit ?_
    refine q_then ?_
    refine c_seq ?_
    refine c_reg ?_
    refine s_y (Y_mv) rfl rfl ?_
    refine s_y (Y_lenR hB rfl rfl Tryz.underlying23) rfl rfl ?_
    refine s_y (Y_gtr rfl rfl) rfl rfl ?_
    refine s_y (Y_as) rfl rfl ?_
    refine s_nil ?_
    refine q_then ?_
    refine c_ret ?_
    refine q_retG1 rfl gt_ (L' := _) sl_ (⟨by rw [← hf, inner_end (by omega), ne_nil_len]; simp, rfl⟩)
set_option maxRecDepth 100000 in
theorem rtoward_nav_d {b o n c : Nat} {cells : List UInt8} (hs : SlB W b o n c 1 (cells.map bv)) {eb eo en ec : Nat} {l : List Ent} (he : SlB W eb eo en ec 11 (ecells l)) (hen : en ≤ 100000) {x y : Int} {tb to tn tc : Nat} {ts : List Int} (ht : SlB W tb to tn tc 1 (ts.map iv)) : Does Tryz.prog 142 [.slice (some ⟨b, o, none⟩) n c, .slice (some ⟨eb, eo, none⟩) en ec, iv x, iv y, .slice (some ⟨tb, to, none⟩) tn tc] W [] (fun v L => v = iv (towardsM cells l x y ts) ∧ L = []) := by
  refine enter Tryz.func142 rfl rfl rfl (Has.start _) ?_
  refine c_seq ?_
  refine c_reg ?_
  refine s_y (Y_asC) rfl rfl ?_
  refine s_nil ?_
  refine q_then ?_
  refine c_seq ?_
  refine c_seq ?_
  refine c_reg ?_
  refine s_y (Y_mv) rfl rfl ?_
  refine s_y (Y_mv) rfl rfl ?_
  refine s_c (En_call (fun _ => rfl) Tryz.func144 rfl (by kernel_rfl) rfl) (fun w hH => rin_d) rfl rfl ?_
  rintro _ _ ⟨rfl, rfl⟩
  refine s_y (Y_not rfl) rfl rfl ?_
  refine s_nil ?_
  refine q_then ?_
  first | refine c_cond' rfl (fun hc1 => ?_) (fun hc1 => ?_) | refine c_cond rfl (fun hc1 => ?_) (fun hc1 => ?_)
  · skip
    try simp only [nrm_] at hc1
    refine c_seq ?_
    refine c_reg ?_
    refine s_y (Y_asC) rfl rfl ?_
    refine s_nil ?_
    refine q_then ?_
    refine c_ret ?_
    refine q_retG1 rfl gt_ (L' := _) sl_ (⟨by rw [towardsM, if_pos hc1], rfl⟩)
  · skip
    try simp only [nrm_] at hc1
    refine c_skip ?_
    refine q_then ?_
    refine c_seq ?_
    have hin := lt_in hc1
    have htw : towardsM cells l x y ts = if getI (fieldM cells (barsM l x y) ts) (y * 24 + x).toNat < 1 then 0 else dirM (nextM (fieldM cells (barsM l x y) ts) l x y) 4 1 := by rw [towardsM, if_neg (by rw [hc1]; decide)]
    have hfl := field_len cells (barsM l x y) ts
    have hfr := field_rng cells (barsM l x y) ts (i := (y * 24 + x).toNat) (by omega)
    refine c_reg ?_
    refine s_y (Y_mv) rfl rfl ?_
    refine s_y (Y_mv) rfl rfl ?_
    refine s_y (Y_mv) rfl rfl ?_
    refine s_y (Y_mv) rfl rfl ?_
    refine s_c (En_call (fun _ => rfl) Tryz.func182 rfl (by kernel_rfl) rfl) (fun w hH => rblocked_d (he.has hH) hen) rfl rfl ?_
    rintro _ _ ⟨g0, rfl, rfl⟩
    refine s_y (Y_mv) rfl rfl ?_
    refine s_c (En_call (fun _ => rfl) Tryz.func121 rfl (by kernel_rfl) rfl) (fun w hH => rfield_d (hs.has hH) (bl := barsM l x y) ⟨bars_len _ _ _, by omega, fun _ => ⟨_, _, rfl, (hH.at' (x := oB g0 (barsM l x y)) mm_).ro⟩⟩ (ht.has hH)) rfl rfl ?_
    rintro _ _ ⟨fb, rfl, rfl⟩
    obtain ⟨f, hfd⟩ : ∃ q_, fieldM cells (barsM l x y) ts = q_ := ⟨_, rfl⟩
    rw [hfd] at htw hfl hfr ⊢
    rw [htw]
    refine s_y (Y_as) rfl rfl ?_
    refine s_nil ?_
    refine q_then ?_
    refine c_seq ?_
    refine c_reg ?_
    refine s_y (Y_mv) rfl rfl ?_
    refine s_y (Y_mv) rfl rfl ?_
    refine s_y mu_ rfl rfl ?_
    refine s_y (Y_mv) rfl rfl ?_
    refine s_y ad_ rfl rfl ?_
    refine s_y (Y_ia1 (n := (y * 24 + x).toNat) rfl rfl Tryz.underlying23 sz3 (by omega) (by omega)) rfl rfl ?_
    refine s_y (Y_load (v := iv (getI f (y * 24 + x).toNat)) rfl one3 mm_ (iv_get (by omega))) rfl rfl ?_
    refine s_y (Y_as) rfl rfl ?_
    refine s_nil ?_
    refine q_then ?_
    refine c_seq ?_
    refine c_seq ?_
    refine c_reg ?_
    refine s_y (Y_mv) rfl rfl ?_
    refine s_y (Y_lss rfl rfl) rfl rfl ?_
    refine s_nil ?_
    refine q_then ?_
    first | refine c_cond' rfl (fun hc5 => ?_) (fun hc5 => ?_) | refine c_cond rfl (fun hc5 => ?_) (fun hc5 => ?_)
    · skip
      try simp only [nrm_] at hc5
      refine c_seq ?_
      refine c_reg ?_
      refine s_y (Y_asC) rfl rfl ?_
      refine s_nil ?_
      refine q_then ?_
      refine c_ret ?_
      refine q_retG1 rfl gt_ (L' := _) sl_ (⟨by rw [if_pos hc5], rfl⟩)
    · skip
      try simp only [nrm_] at hc5
      refine c_skip ?_
      refine q_then ?_
      refine c_seq ?_
      refine c_seq ?_
      rw [if_neg hc5]
      refine c_reg ?_
      refine s_y (Y_asC) rfl rfl ?_
      refine s_nil ?_
      refine q_then ?_
      refine c_block ?_
      refine c_loop [10, 13, 14, 15, 36, 37, 38, 39, 40, 41, 42, 43, 44, 45, 46, 47, 48, 49, 50, 51, 52, 53, 54, 55, 56, 57, 58, 59, 60, 61, 62, 63, 64, 65, 66, 67, 68, 69, 70, 71, 72, 73, 74, 75, 76, 77, 78, 79] (fun m (d : Nat) => d + m = 5 ∧ dirM (nextM f l x y) m d = dirM (nextM f l x y) 4 1) (fun d => [(13, iv d)]) (fun _ => [fB fb f, oB g0 (barsM l x y)]) (4) (1) (⟨rfl, rfl⟩) (by repeat (first | exact trivial | refine ⟨rfl, ?_⟩)) (fun _ h => h.sub sl_) (fun _ => rfl) ?_
      rintro m d j ⟨hd, hf⟩ K hK
      have hw := way_rng d
      refine c_seq ?_
      refine c_seq ?_
      refine c_reg ?_
      refine s_y (Y_mv) rfl rfl ?_
      refine s_y (Y_leq rfl rfl) rfl rfl ?_
      refine s_nil ?_
      refine q_then ?_
      first | refine c_cond' rfl (fun hc8 => ?_) (fun hc8 => ?_) | refine c_cond rfl (fun hc8 => ?_) (fun hc8 => ?_)
      · skip
        try simp only [nrm_] at hc8
        refine c_skip ?_
        refine q_then ?_
        refine c_seq ?_
        refine c_block ?_
        refine c_seq ?_
        refine c_reg ?_
        refine s_y (Y_mv) rfl rfl ?_
        refine s_c (En_call (fun _ => rfl) Tryz.func140 rfl (by kernel_rfl) rfl) (fun w hH => rway_d) rfl rfl ?_
        rintro _ _ ⟨rfl, rfl⟩
        refine s_y (Y_mv) rfl rfl ?_
        refine s_y (Y_extract rfl rfl) rfl rfl ?_
        refine s_y (Y_extract rfl rfl) rfl rfl ?_
        refine s_y (Y_as) rfl rfl ?_
        refine s_y (Y_as) rfl rfl ?_
        refine s_nil ?_
        refine q_then ?_
        refine c_seq ?_
        refine c_reg ?_
        refine s_y (Y_mv) rfl rfl ?_
        refine s_y (Y_mv) rfl rfl ?_
        refine s_y ad_ rfl rfl ?_
        refine s_y (Y_mv) rfl rfl ?_
        refine s_y (Y_mv) rfl rfl ?_
        refine s_y ad_ rfl rfl ?_
        refine s_c (En_call (fun _ => rfl) Tryz.func144 rfl (by kernel_rfl) rfl) (fun w hH => rin_d) rfl rfl ?_
        rintro _ _ ⟨rfl, rfl⟩
        refine s_y (Y_mv) rfl rfl ?_
        apply s_and 15 [52, 53, 54, 55, 56, 57, 58, 59, 60, 61, 62, 63, 64, 65, 66, 67] 67 (g := 52) rfl rfl
        · intro ht8 hm
          try simp only [nrm_] at ht8
          first | refine s_y (Y_mv) rfl rfl ?_ | refine s_pass rfl rfl ?_
          first | refine s_y (Y_mv) rfl rfl ?_ | refine s_pass rfl rfl ?_
          first | refine s_y (Y_mv) rfl rfl ?_ | refine s_pass rfl rfl ?_
          first | refine s_y ad_ rfl rfl ?_ | refine s_pass rfl rfl ?_
          first | refine s_y mu_ rfl rfl ?_ | refine s_pass rfl rfl ?_
          first | refine s_y (Y_mv) rfl rfl ?_ | refine s_pass rfl rfl ?_
          first | refine s_y ad_ rfl rfl ?_ | refine s_pass rfl rfl ?_
          first | refine s_y (Y_mv) rfl rfl ?_ | refine s_pass rfl rfl ?_
          first | refine s_y ad_ rfl rfl ?_ | refine s_pass rfl rfl ?_
          have hin2 := lt_in ht8
          first | refine s_y (Y_ia1 (n := ((y + wy d) * 24 + (x + wx d)).toNat) rfl rfl Tryz.underlying23 sz3 (by omega) (by omega)) rfl rfl ?_ | refine s_pass rfl rfl ?_
          first | refine s_y (Y_load (v := iv (getI f ((y + wy d) * 24 + (x + wx d)).toNat)) rfl one3 mm_ (iv_get (by omega))) rfl rfl ?_ | refine s_pass rfl rfl ?_
          first | refine s_y (Y_mv) rfl rfl ?_ | refine s_pass rfl rfl ?_
          first | refine s_y su_ rfl rfl ?_ | refine s_pass rfl rfl ?_
          first | refine s_y (Y_eql rfl rfl) rfl rfl ?_ | refine s_pass rfl rfl ?_
          refine s_y (Y_pk rfl (Gx.tmp gt_) Gx.const) rfl rfl ?_
          first | exact hm _ ⟨rfl, trivial⟩ rfl | exact QL.sub sl_ (hm _ ⟨rfl, trivial⟩ rfl)
        · intro ht8 hm
          iterate 14 refine s_pass rfl rfl ?_
          refine s_y (Y_pk rfl (Gx.tmp gt_) Gx.const) rfl rfl ?_
          exact hm _ ⟨rfl, trivial⟩ rfl
        intro j67
        refine s_y (Y_mv) rfl rfl ?_
        apply s_and 10 [68, 69, 70, 71, 72, 73, 74, 75, 76, 77, 78] 78 (g := 68) rfl rfl
        · intro ht24 hm
          try simp only [nrm_] at ht24
          first | refine s_y (Y_mv) rfl rfl ?_ | refine s_pass rfl rfl ?_
          first | refine s_y (Y_mv) rfl rfl ?_ | refine s_pass rfl rfl ?_
          first | refine s_y (Y_mv) rfl rfl ?_ | refine s_pass rfl rfl ?_
          first | refine s_y ad_ rfl rfl ?_ | refine s_pass rfl rfl ?_
          first | refine s_y (Y_mv) rfl rfl ?_ | refine s_pass rfl rfl ?_
          first | refine s_y (Y_mv) rfl rfl ?_ | refine s_pass rfl rfl ?_
          first | refine s_y ad_ rfl rfl ?_ | refine s_pass rfl rfl ?_
          refine s_c (En_call (fun _ => rfl) Tryz.func73 rfl (by kernel_rfl) rfl) (fun w hH => reat_d (he.has hH)) rfl rfl ?_
          rintro _ _ ⟨rfl, rfl⟩
          first | refine s_y (Y_lss rfl rfl) rfl rfl ?_ | refine s_pass rfl rfl ?_
          refine s_y (Y_pk rfl (Gx.tmp gt_) Gx.const) rfl rfl ?_
          first | exact hm _ ⟨rfl, trivial⟩ rfl | exact QL.sub sl_ (hm _ ⟨rfl, trivial⟩ rfl)
        · intro ht24 hm
          iterate 9 refine s_pass rfl rfl ?_
          refine s_y (Y_pk rfl (Gx.tmp gt_) Gx.const) rfl rfl ?_
          exact hm _ ⟨rfl, trivial⟩ rfl
        intro j78
        refine s_nil ?_
        refine q_then ?_
        first | refine c_cond' rfl (fun hc11 => ?_) (fun hc11 => ?_) | refine c_cond rfl (fun hc11 => ?_) (fun hc11 => ?_)
        · skip
          try simp only [nrm_] at hc11
          refine c_seq ?_
          refine c_reg ?_
          refine s_y (Y_mv) rfl rfl ?_
          refine s_y (Y_as) rfl rfl ?_
          refine s_nil ?_
          refine q_then ?_
          refine c_ret ?_
          refine q_retG1 rfl gt_ (L' := _) sl_ (⟨by rw [← hf, dirM_yes (by omega) (by unfold nextM; simp only [Bool.and_eq_true, decide_eq_true_eq]; exact hc11)], rfl⟩)
        · skip
          try simp only [nrm_] at hc11
          refine c_skip ?_
          refine q_bn ?_
          refine q_then ?_
          refine c_reg ?_
          refine s_y (Y_mv) rfl rfl ?_
          refine s_y ad_ rfl rfl ?_
          refine s_y (Y_as) rfl rfl ?_
          refine s_nil ?_
          have hn : nextM f l x y d = false := by
            rw [← Bool.not_eq_true]
            unfold nextM
            simp only [Bool.and_eq_true, decide_eq_true_eq]
            rintro ⟨⟨q1, q2⟩, q3⟩
            rcases hc11 with (h | h) | h
            · rw [q1] at h; cases h
            · exact h q2
            · exact h q3
          refine hK (m - 1) (d + 1) _ _ (by omega) ⟨by omega, by rw [← hf, dirM_no (n := m) (d := (d : Int)) (by omega) hn]; rfl⟩ ⟨rfl, trivial⟩ rfl (fun _ h => h)
      · skip
        try simp only [nrm_] at hc8
        refine c_exit ?_
        repeat with_reducible refine q_te ?_
        refine q_exit ?_
        refine q_then ?_
        refine c_seq ?_
        refine c_reg ?_
        refine s_y (Y_asC) rfl rfl ?_
        refine s_nil ?_
        refine q_then ?_
        refine c_ret ?_
        refine q_retG1 rfl gt_ (L' := _) sl_ (⟨by rw [← hf, dirM_end (by omega)], rfl⟩)
set_option maxRecDepth 100000 in
theorem rspot_d {b o n c : Nat} {cells : List UInt8} (hs : SlB W b o n c 1 (cells.map bv)) {eb eo en ec : Nat} {l : List Ent} (he : SlB W eb eo en ec 11 (ecells l)) {x y : Int} : Does Tryz.prog 138 [.slice (some ⟨b, o, none⟩) n c, .slice (some ⟨eb, eo, none⟩) en ec, iv x, iv y] W [] (fun v L => v = iv (spotM cells l x y) ∧ L = []) := by
  refine enter Tryz.func138 rfl rfl rfl (Has.start _) ?_
  refine c_seq ?_
  refine c_reg ?_
  refine s_y (Y_asC) rfl rfl ?_
  refine s_nil ?_
  refine q_then ?_
  refine c_seq ?_
  refine c_seq ?_
  refine c_reg ?_
  refine s_y (Y_mv) rfl rfl ?_
  refine s_y (Y_mv) rfl rfl ?_
  refine s_c (En_call (fun _ => rfl) Tryz.func144 rfl (by kernel_rfl) rfl) (fun w hH => rin_d) rfl rfl ?_
  rintro _ _ ⟨rfl, rfl⟩
  refine s_y (Y_not rfl) rfl rfl ?_
  refine s_nil ?_
  refine q_then ?_
  first | refine c_cond' rfl (fun hc1 => ?_) (fun hc1 => ?_) | refine c_cond rfl (fun hc1 => ?_) (fun hc1 => ?_)
  · skip
    try simp only [nrm_] at hc1
    refine c_seq ?_
    refine c_reg ?_
    refine s_y (Y_asC) rfl rfl ?_
    refine s_nil ?_
    refine q_then ?_
    refine c_ret ?_
    refine q_retG1 rfl gt_ (L' := _) sl_ (⟨by rw [spotM, if_pos hc1], rfl⟩)
  · skip
    try simp only [nrm_] at hc1
    refine c_skip ?_
    refine q_then ?_
    refine c_seq ?_
    have hin := lt_in hc1
    have hsp : spotM cells l x y = spotF (fieldM cells [] [y * 24 + x]) l 384 := by rw [spotM, if_neg (by rw [hc1]; decide)]
    have hfl := field_len cells [] [y * 24 + x]
    refine c_reg ?_
    refine s_y (Y_mv) rfl rfl ?_
    refine s_y (Y_mv) rfl rfl ?_
    refine s_y mu_ rfl rfl ?_
    refine s_y (Y_mv) rfl rfl ?_
    refine s_y ad_ rfl rfl ?_
    refine s_n (N_bs (xs := [.tmp 20]) (by repeat (first | exact Gv.nil | apply Gv.const | apply Gv.tmp gt_)) rfl Tryz.underlying23 inf3 rfl (by omega) (by omega) (by first | simp [Value.oneCell'] | (intro v hv; simp at hv; subst hv; rfl))) rfl rfl (fun b21 _ => ?_)
    refine s_c (En_call (fun _ => rfl) Tryz.func121 rfl (by kernel_rfl) rfl) (fun w hH => rfield_d (hs.has hH) (bl := []) (ab := none) (nb := 0) (kb := 0) ⟨rfl, by omega, fun h => absurd rfl h⟩ (ts := [y * 24 + x]) ((hH.at' (x := ⟨b21, 3, 1, 1, [iv (y * 24 + x)]⟩) mm_).sl rfl (by omega))) rfl rfl ?_
    rintro _ _ ⟨fb, rfl, rfl⟩
    obtain ⟨f, hfd⟩ : ∃ q_, fieldM cells [] [y * 24 + x] = q_ := ⟨_, rfl⟩
    rw [hfd] at hsp hfl ⊢
    rw [hsp]
    refine s_y (Y_as) rfl rfl ?_
    refine s_nil ?_
    refine q_then ?_
    refine c_seq ?_
    refine c_reg ?_
    refine s_y (Y_asC) rfl rfl ?_
    refine s_nil ?_
    refine q_then ?_
    refine c_seq ?_
    refine c_seq ?_
    refine c_reg ?_
    refine s_y (Y_asC) rfl rfl ?_
    refine s_nil ?_
    refine q_then ?_
    refine c_block ?_
    refine c_loop [10, 11, 23, 24, 25, 26, 27, 28, 29, 30, 31, 32, 33, 34, 35, 36, 37, 38, 39, 40, 41, 42, 43, 44, 45, 46, 47, 48, 49, 50, 51, 52, 53, 54, 55, 56] (fun m (y : Nat × Int) => y.1 + m = 384 ∧ y.2 = spotF f l y.1) (fun y => [(11, iv y.1), (10, iv y.2)]) (fun _ => [fB fb f]) (384) ((0, -1)) (⟨rfl, rfl⟩) (by repeat (first | exact trivial | refine ⟨rfl, ?_⟩)) (fun _ h => h.sub sl_) (fun _ => rfl) ?_
    rintro m ⟨i, a⟩ j ⟨hi, ha⟩ K hK
    simp only at hi ha ⊢
    have har := spotF_rng f l i
    rw [← ha] at har
    have hst := spotF_step f l i
    rw [← ha] at hst
    refine c_seq ?_
    refine c_seq ?_
    refine c_reg ?_
    refine s_y (Y_mv) rfl rfl ?_
    refine s_y (Y_lss rfl rfl) rfl rfl ?_
    refine s_nil ?_
    refine q_then ?_
    first | refine c_cond' rfl (fun hc6 => ?_) (fun hc6 => ?_) | refine c_cond rfl (fun hc6 => ?_) (fun hc6 => ?_)
    · skip
      try simp only [nrm_] at hc6
      refine c_skip ?_
      refine q_then ?_
      refine c_seq ?_
      refine c_block ?_
      refine c_seq ?_
      refine c_rord [] [(0, true), (1, true), (2, true), (3, true), (4, true), (5, true), (6, true), (7, true), (8, true), (9, true), (10, true), (11, false), (12, true), (13, true), (14, true), (15, true), (16, true), (17, true), (18, true), (19, true), (20, true), (21, true), (22, true), (23, true), (24, true), (25, true), (26, true), (27, true), (28, true)] (by kernel_rfl) (by kernel_rfl) (by kernel_rfl) (by kernel_rfl) rfl (by intro c a d v w h; cases d <;> exact h) rfl ?_
      simp only [mkOrd, List.filterMap_cons, List.filterMap_nil, List.getElem?_toArray, List.getElem?_cons_zero, List.getElem?_cons_succ, Option.map_some]
      refine o_y (Y_mv) rfl rfl ?_
      refine o_y (Y_mv) rfl rfl ?_
      refine o_y (Y_ia1 rfl rfl Tryz.underlying23 sz3 rfl (by omega)) rfl rfl ?_
      refine o_y (Y_load (v := iv (getI f i)) rfl one3 mm_ (iv_get (by omega))) rfl rfl ?_
      refine o_y (Y_geq rfl rfl) rfl rfl ?_
      refine o_y (Y_mv) rfl rfl ?_
      apply o_and 8 [32, 33, 34, 35, 36, 37, 38, 39, 40] 40 (g := 32) rfl rfl
      · intro ht6 hm
        try simp only [nrm_] at ht6
        first | refine o_y (Y_mv) rfl rfl ?_ | refine o_pass rfl rfl ?_
        first | refine o_y (Y_mv) rfl rfl ?_ | refine o_pass rfl rfl ?_
        first | refine o_y ((by first | exact Y_rem rfl rfl (by omega) | exact Y_remw rfl rfl (by omega))) rfl rfl ?_ | refine o_pass rfl rfl ?_
        first | refine o_y (Y_mv) rfl rfl ?_ | refine o_pass rfl rfl ?_
        first | refine o_y ((by first | exact Y_quo rfl rfl (by omega) | exact Y_quow rfl rfl (by omega))) rfl rfl ?_ | refine o_pass rfl rfl ?_
        refine o_c (En_call (fun _ => rfl) Tryz.func73 rfl (by kernel_rfl) rfl) (fun w hH => reat_d (he.has hH)) (fun _ _ h => by obtain ⟨rfl, rfl⟩ := h; exact kp_) rfl rfl ?_
        rintro _ _ ⟨rfl, rfl⟩
        first | refine o_y (Y_lss rfl rfl) rfl rfl ?_ | refine o_pass rfl rfl ?_
        refine o_y (Y_pk rfl (Gx.tmp gt_) Gx.const) rfl rfl ?_
        first | exact hm _ ⟨rfl, trivial⟩ rfl | exact QL.sub sl_ (hm _ ⟨rfl, trivial⟩ rfl)
      · intro ht6 hm
        iterate 5 refine o_pass rfl rfl ?_
        refine o_none kp_ rfl rfl ?_
        iterate 1 refine o_pass rfl rfl ?_
        refine o_y (Y_pk rfl (Gx.tmp gt_) Gx.const) rfl rfl ?_
        exact hm _ ⟨rfl, trivial⟩ rfl
      intro j40
      refine o_y (Y_mv) rfl rfl ?_
      apply o_and 14 [41, 42, 43, 44, 45, 46, 47, 48, 49, 50, 51, 52, 53, 54, 55] 55 (g := 41) rfl rfl
      · intro ht15 hm
        try simp only [nrm_] at ht15
        first | refine o_y (Y_mv) rfl rfl ?_ | refine o_pass rfl rfl ?_
        first | refine o_y (Y_lss rfl rfl) rfl rfl ?_ | refine o_pass rfl rfl ?_
        first | refine o_y (Y_mv) rfl rfl ?_ | refine o_pass rfl rfl ?_
        apply o_or 10 [44, 45, 46, 47, 48, 49, 50, 51, 52, 53, 54] 54 (g := 44) rfl rfl
        · intro ht18 hm
          try simp only [nrm_] at ht18
          first | refine o_y (Y_mv) rfl rfl ?_ | refine o_pass rfl rfl ?_
          first | refine o_y (Y_mv) rfl rfl ?_ | refine o_pass rfl rfl ?_
          first | refine o_y (Y_ia1 rfl rfl Tryz.underlying23 sz3 rfl (by omega)) rfl rfl ?_ | refine o_pass rfl rfl ?_
          first | refine o_y (Y_load (v := iv (getI f i)) rfl one3 mm_ (iv_get (by omega))) rfl rfl ?_ | refine o_pass rfl rfl ?_
          first | refine o_y (Y_mv) rfl rfl ?_ | refine o_pass rfl rfl ?_
          first | refine o_y (Y_mv) rfl rfl ?_ | refine o_pass rfl rfl ?_
          first | refine o_y (Y_ia1 (n := a.toNat) rfl rfl Tryz.underlying23 sz3 (by omega) (by omega)) rfl rfl ?_ | refine o_pass rfl rfl ?_
          first | refine o_y (Y_load (v := iv (getI f a.toNat)) rfl one3 mm_ (iv_get (by omega))) rfl rfl ?_ | refine o_pass rfl rfl ?_
          first | refine o_y (Y_lss rfl rfl) rfl rfl ?_ | refine o_pass rfl rfl ?_
          first | refine o_y (Y_pk rfl Gx.const (Gx.tmp gt_)) rfl rfl ?_ | refine o_pass rfl rfl ?_
          first | exact hm _ ⟨rfl, trivial⟩ rfl | exact QL.sub sl_ (hm _ ⟨rfl, trivial⟩ rfl)
        · intro ht18 hm
          iterate 9 refine o_pass rfl rfl ?_
          first | refine o_y (Y_pk rfl Gx.const (Gx.tmp gt_)) rfl rfl ?_ | refine o_pass rfl rfl ?_
          exact hm _ ⟨rfl, trivial⟩ rfl
        intro j54
        refine o_y (Y_pk rfl (Gx.tmp gt_) Gx.const) rfl rfl ?_
        first | exact hm _ ⟨rfl, trivial⟩ rfl | exact QL.sub sl_ (hm _ ⟨rfl, trivial⟩ rfl)
      · intro ht15 hm
        iterate 13 refine o_pass rfl rfl ?_
        refine o_y (Y_pk rfl (Gx.tmp gt_) Gx.const) rfl rfl ?_
        exact hm _ ⟨rfl, trivial⟩ rfl
      intro j55
      refine o_nil ?_
      refine q_then ?_
      first | refine c_cond' rfl (fun hc8 => ?_) (fun hc8 => ?_) | refine c_cond rfl (fun hc8 => ?_) (fun hc8 => ?_)
      · skip
        try simp only [nrm_] at hc8
        refine c_reg ?_
        refine s_y (Y_mv) rfl rfl ?_
        refine s_y (Y_as) rfl rfl ?_
        refine s_nil ?_
        refine q_bn ?_
        refine q_then ?_
        refine c_reg ?_
        refine s_y (Y_mv) rfl rfl ?_
        refine s_y ad_ rfl rfl ?_
        refine s_y (Y_as) rfl rfl ?_
        refine s_nil ?_
        refine hK (m - 1) (i + 1, (i : Int)) _ _ (by omega) ⟨by simp only; omega, ?_⟩ ⟨rfl, rfl, trivial⟩ rfl (fun _ h => h)
        simp only; rw [hst, if_pos]
        omega
      · skip
        try simp only [nrm_] at hc8
        refine c_skip ?_
        refine q_bn ?_
        refine q_then ?_
        refine c_reg ?_
        refine s_y (Y_mv) rfl rfl ?_
        refine s_y ad_ rfl rfl ?_
        refine s_y (Y_as) rfl rfl ?_
        refine s_nil ?_
        refine hK (m - 1) (i + 1, a) _ _ (by omega) ⟨by simp only; omega, ?_⟩ ⟨rfl, rfl, trivial⟩ rfl (fun _ h => h)
        simp only; rw [hst, if_neg]
        rintro ⟨q1, q2, q3⟩
        omega
    · skip
      try simp only [nrm_] at hc6
      refine c_exit ?_
      repeat with_reducible refine q_te ?_
      refine q_exit ?_
      refine q_then ?_
      refine c_seq ?_
      refine c_reg ?_
      refine s_y (Y_mv) rfl rfl ?_
      refine s_y (Y_as) rfl rfl ?_
      refine s_nil ?_
      refine q_then ?_
      refine c_ret ?_
      refine q_retG1 rfl gt_ (L' := _) sl_ (⟨by rw [ha, show i = 384 by omega], rfl⟩)
end
end Go.Proofs.YtcogbkkdccohfaaGreat
namespace Go.Ad
open Go.RowKit Go.Maps Go.Proofs.YtcogbkkdccohfaaGreat
def mapI {α : Type} (f : α → α) (l : List α) (i : Nat) : List α := (l.take i).map f ++ l.drop i
theorem mapI_zero {α : Type} (f : α → α) (l : List α) : mapI f l 0 = l := by simp [mapI]
theorem mapI_all {α : Type} (f : α → α) (l : List α) {i : Nat} (h : l.length ≤ i) : mapI f l i = l.map f := by simp [mapI, List.take_of_length_le h, List.drop_eq_nil_of_le h]
theorem mapI_len {α : Type} (f : α → α) (l : List α) (i : Nat) : (mapI f l i).length = l.length := by simp [mapI]; omega
theorem mapI_get {α : Type} {f : α → α} {l : List α} {i : Nat} {a : α} (h : l[i]? = some a) : (mapI f l i)[i]? = some a := by
  have hi := (List.getElem?_eq_some_iff.1 h).1
  unfold mapI
  rw [List.getElem?_append_right (by simp; omega)]
  simp only [List.length_map, List.length_take, Nat.min_eq_left (Nat.le_of_lt hi), Nat.sub_self]
  rw [List.getElem?_drop, Nat.add_zero]; exact h
theorem mapI_succ {α : Type} {f : α → α} {l : List α} {i : Nat} {a : α} (h : l[i]? = some a) : mapI f l (i + 1) = (mapI f l i).set i (f a) := by
  obtain ⟨hi, rfl⟩ := List.getElem?_eq_some_iff.1 h
  unfold mapI
  rw [List.set_append_right _ _ (by simp; omega)]
  simp only [List.length_map, List.length_take, Nat.min_eq_left (Nat.le_of_lt hi), Nat.sub_self]
  rw [← List.take_append_getElem hi, List.map_append, List.append_assoc]
  have e : (l.drop i).set 0 (f l[i]) = f l[i] :: l.drop (i + 1) := by rw [List.drop_eq_getElem_cons hi]; rfl
  rw [e]
  simp
theorem mapI_same {α : Type} {f : α → α} {l : List α} {i : Nat} {a : α} (h : l[i]? = some a) (hf : f a = a) : mapI f l (i + 1) = mapI f l i := by
  rw [mapI_succ h, hf]
  obtain ⟨hi, he⟩ := List.getElem?_eq_some_iff.1 (mapI_get (f := f) h)
  rw [← he, List.set_getElem_self]
theorem iget_of {l : List Itm} {r : Int} (h : 0 ≤ r) (hl : r < l.length) : l[r.toNat]? = some (igt l r) := by
  unfold igt
  rw [if_pos h, List.getD_eq_getElem?_getD, List.getElem?_eq_getElem (by omega)]; rfl
theorem iIn_rng (l : List Itm) (w a b : Int) : iIn l w a b < 0 ∨ (0 ≤ iIn l w a b ∧ iIn l w a b < l.length) := by
  rcases fnd_lt (p := fun x : Itm => decide (x.whr = w ∧ x.a = a ∧ x.b = b)) l 0 with h | ⟨j, x, h1, h2, _⟩
  · exact .inl h
  · have := (List.getElem?_eq_some_iff.1 h2).1
    have e : iIn l w a b = ((0 + j : Nat) : Int) := h1
    omega
theorem iset2 {l : List Itm} {i j : Nat} {v : Value} (x x' : Itm) (h : i < l.length) (hc : x.cells.set j v = x'.cells) (hj : Nat.blt j 4 = true) : (icells (l.set i x)).set (0 + i * 4 + j) v = icells (l.set i x') := by
  rw [iset (r := l.set i x) (i := i) (x := x) x' (by rw [List.getElem?_set, if_pos rfl, if_pos h]) hc hj, List.set_set]
theorem eset2 {l : List Ent} {i j : Nat} {v : Value} (x x' : Ent) (h : i < l.length) (hc : x.cells.set j v = x'.cells) (hj : Nat.blt j 11 = true) : (ecells (l.set i x)).set (0 + i * 11 + j) v = ecells (l.set i x') := by
  rw [eset (l := l.set i x) (i := i) (e := x) x' (by rw [List.getElem?_set, if_pos rfl, if_pos h]) hc hj, List.set_set]
theorem set_get {α : Type} {l : List α} {i : Nat} {a : α} (h : i < l.length) : (l.set i a)[i]? = some a := by rw [List.getElem?_set, if_pos rfl, if_pos h]
theorem lt_of_get {α : Type} {l : List α} {i : Nat} {a : α} (h : l[i]? = some a) : i < l.length := (List.getElem?_eq_some_iff.1 h).1
abbrev wL (d : Wd) (s : Ws) : List Value := [iv d.seed, iv d.frame, iv d.floor, iv d.state, .slice (some ⟨s.cb, s.co, none⟩) 384 s.cc, .slice (some ⟨s.eb, s.eo, none⟩) 32 s.ec, .slice (some ⟨s.ib, s.io, none⟩) 40 s.ic, iv d.gold.a, iv d.gold.b, iv d.gold.c, iv d.gold.d]
structure WL (W : World) (d : Wd) (s : Ws) : Prop where
  c : SlB W s.cb s.co 384 s.cc 1 (d.cells.map bv)
  e : SlB W s.eb s.eo 32 s.ec 11 (ecells d.ents)
  i : SlB W s.ib s.io 40 s.ic 4 (icells d.items)
theorem WL.has {W w : World} {L : List Bk} {d : Wd} {s : Ws} (h : WL W d s) (hH : Has W [] L w) : WL w d s := ⟨h.c.has hH, h.e.has hH, h.i.has hH⟩
theorem WL.sz {W : World} {d : Wd} {s : Ws} (h : WL W d s) : d.cells.length = 384 ∧ d.ents.length = 32 ∧ d.items.length = 40 := by
  have h1 := h.c.len
  have h2 := h.e.len
  have h3 := h.i.len
  rw [ecells_len] at h2
  rw [icells_len] at h3
  rw [List.length_map] at h1
  omega
theorem wL_gold {d : Wd} {s : Ws} {k : Nat} (h : k < 4) : (wL d s)[0 + 7 + k * 1]? = some (iv (d.gold.get k)) := by
  rcases k with _ | _ | _ | _ | k <;> first | rfl | omega
theorem wL_put {d : Wd} {s : Ws} {k : Nat} {v : Int} (h : k < 4) : (wL d s).set (0 + 7 + k * 1) (iv v) = wL { d with gold := d.gold.set v k } s := by
  rcases k with _ | _ | _ | _ | k <;> first | rfl | omega
end Go.Ad
namespace Go.Proofs.YtcogbkkdccohfaaGreat
open Go.RowKit Go.Ad Go.Maps
set_option linter.unusedVariables false
set_option linter.unusedSimpArgs false
def WN (d : Wd) (v : Value) (L : List Bk) : Prop := ∃ cb cc eb ec ib ic, v = .agg (wL d ⟨cb, 0, cc, eb, 0, ec, ib, 0, ic⟩).toArray ∧ L = [cB cb cc d.cells, eB eb ec d.ents, iB ib ic d.items] ∧ 384 ≤ cc ∧ 32 ≤ ec ∧ 40 ≤ ic
theorem iSl {W0 w : World} {M : List Nat} {L : List Bk} {b c n : Nat} {l : List Itm} (hH : Has W0 M L w) (hm : iB b c l ∈ L) (hl : l.length = n) (hc : n ≤ c) : SlB w b 0 n c 4 (icells l) := (hH.at' hm).sl (by rw [icells_len, hl]) hc
theorem eSl {W0 w : World} {M : List Nat} {L : List Bk} {b c n : Nat} {l : List Ent} (hH : Has W0 M L w) (hm : eB b c l ∈ L) (hl : l.length = n) (hc : n ≤ c) : SlB w b 0 n c 11 (ecells l) := (hH.at' hm).sl (by rw [ecells_len, hl]) hc
theorem cSl {W0 w : World} {M : List Nat} {L : List Bk} {b c n : Nat} {l : List UInt8} (hH : Has W0 M L w) (hm : cB b c l ∈ L) (hl : l.length = n) (hc : n ≤ c) : SlB w b 0 n c 1 (l.map bv) := (hH.at' hm).sl (by rw [List.length_map, hl, Nat.mul_one]) hc
theorem wl_of {W0 w : World} {M : List Nat} {L : List Bk} {cb cc eb ec ib ic : Nat} {d : Wd} (hH : Has W0 M L w) (hs : d.cells.length = 384 ∧ d.ents.length = 32 ∧ d.items.length = 40) (h1 : cB cb cc d.cells ∈ L) (h2 : eB eb ec d.ents ∈ L) (h3 : iB ib ic d.items ∈ L) (l1 : 384 ≤ cc) (l2 : 32 ≤ ec) (l3 : 40 ≤ ic) : WL w d ⟨cb, 0, cc, eb, 0, ec, ib, 0, ic⟩ :=
  ⟨cSl hH h1 hs.1 l1, eSl hH h2 hs.2.1 l2, iSl hH h3 hs.2.2 l3⟩
theorem q_retW {P : Program} {W : World} {M : List Nat} {ov : Ov} {base : List Value} {L R : List Bk} {fn : Func} {p b cb cc eb ec ib ic : Nat} {d : Wd} (hr : fn.results = #[.cell p 34]) (hp : ov.get base p = .pointer (some ⟨b, 0, none⟩)) (ht : CelN P 34 11)
    (hs : Sels [wB b (wL d ⟨cb, 0, cc, eb, 0, ec, ib, 0, ic⟩), cB cb cc d.cells, eB eb ec d.ents, iB ib ic d.items] L R) (l1 : 384 ≤ cc) (l2 : 32 ≤ ec) (l3 : 40 ≤ ic) : QL W M (bodyPost P fn (fun e w' => ∃ v L, e = .returned v ∧ Has W M L w' ∧ WN d v L) .ret) ov base L :=
  QL.pick hs (q_ret1c hr hp ht (List.Mem.head _) rfl (List.Sublist.cons _ (List.Sublist.refl _)) ⟨cb, cc, eb, ec, ib, ic, rfl, rfl, l1, l2, l3⟩)
section
variable {W : World}
set_option maxRecDepth 100000 in
theorem rtwin_d {d : Wd} {s : Ws} (hw : WL W d s) : Does Tryz.prog 51 [.agg (wL d s).toArray] W [] (WN d) := by
  obtain ⟨z1, z2, z3⟩ := hw.sz
  refine enter Tryz.func51 rfl rfl rfl (Has.start _) ?_
  refine c_seq ?_
  refine c_reg ?_
  refine s_n (N_box (cs := wL d s) rfl) rfl rfl (fun b1 _ => ?_)
  refine s_n (N_alloc (z := .agg #[.int .i64 0, .int .i64 0, .int .i64 0, .int .i64 0, .slice none 0 0, .slice none 0 0, .slice none 0 0, .int .i64 0, .int .i64 0, .int .i64 0, .int .i64 0]) (cs := [.int .i64 0, .int .i64 0, .int .i64 0, .int .i64 0, .slice none 0 0, .slice none 0 0, .slice none 0 0, .int .i64 0, .int .i64 0, .int .i64 0, .int .i64 0]) zv34 rfl) rfl rfl (fun b2 _ => ?_)
  refine s_nil ?_
  refine q_then ?_
  refine c_seq ?_
  refine c_reg ?_
  refine s_n (N_bs0 rfl Tryz.underlying24 sz5) rfl rfl (fun b3 _ => ?_)
  refine s_y (Y_fa 4 rfl Tryz.underlying34 rfl sz24 rfl) rfl rfl ?_
  refine s_y (yl_ one24) rfl rfl ?_
  refine s_n (N_appE (m := 384) (news := d.cells.map bv) rfl rfl Tryz.underlying24 inf5 rfl (by omega) se_ hw.c.src hw.c.len (bvs_one _) (by omega) (by omega)) rfl rfl (fun ⟨g6, cp6⟩ hc6 => ?_)
  refine s_y (Y_fa 4 rfl Tryz.underlying34 rfl sz24 rfl) rfl rfl ?_
  refine s_s (S_st rfl gt_ sz24 (by rfl) up_ (by first | (simp only [Nat.zero_add, Nat.reduceAdd, List.set_cons_succ, List.set_cons_zero]; rfl) | rfl) (by first | (simp; done) | omega)) rfl ?_
  refine s_nil ?_
  refine q_then ?_
  refine c_seq ?_
  refine c_reg ?_
  refine s_n (N_bs0 rfl Tryz.underlying30 sz93) rfl rfl (fun b8 _ => ?_)
  refine s_y (Y_fa 5 rfl Tryz.underlying34 rfl sz30 rfl) rfl rfl ?_
  refine s_y (yl_ one30) rfl rfl ?_
  refine s_n (N_appE (m := 32) (news := ecells d.ents) rfl rfl Tryz.underlying30 inf93 rfl (by omega) se_ hw.e.src hw.e.len (one_e _) (by omega) (by omega)) rfl rfl (fun ⟨g11, cp11⟩ hc11 => ?_)
  refine s_y (Y_fa 5 rfl Tryz.underlying34 rfl sz30 rfl) rfl rfl ?_
  refine s_s (S_st rfl gt_ sz30 (by rfl) up_ (by first | (simp only [Nat.zero_add, Nat.reduceAdd, List.set_cons_succ, List.set_cons_zero]; rfl) | rfl) (by first | (simp; done) | omega)) rfl ?_
  refine s_nil ?_
  refine q_then ?_
  refine c_seq ?_
  refine c_reg ?_
  refine s_n (N_bs0 rfl Tryz.underlying31 sz98) rfl rfl (fun b13 _ => ?_)
  refine s_y (Y_fa 6 rfl Tryz.underlying34 rfl sz31 rfl) rfl rfl ?_
  refine s_y (yl_ one31) rfl rfl ?_
  refine s_n (N_appE (m := 40) (news := icells d.items) rfl rfl Tryz.underlying31 inf98 rfl (by omega) se_ hw.i.src hw.i.len (one_i _) (by omega) (by omega)) rfl rfl (fun ⟨g16, cp16⟩ hc16 => ?_)
  refine s_y (Y_fa 6 rfl Tryz.underlying34 rfl sz31 rfl) rfl rfl ?_
  refine s_s (S_st rfl gt_ sz31 (by rfl) up_ (by first | (simp only [Nat.zero_add, Nat.reduceAdd, List.set_cons_succ, List.set_cons_zero]; rfl) | rfl) (by first | (simp; done) | omega)) rfl ?_
  refine s_nil ?_
  refine q_then ?_
  refine c_seq ?_
  refine c_reg ?_
  refine s_y (ya_ many34) rfl rfl ?_
  refine s_s (S_storeA (vs := wL d ⟨g6, 0, cp6, g11, 0, cp11, g16, 0, cp16⟩) rfl rfl sz34 (by rfl) (by rfl) up_ (by rfl)) rfl ?_
  refine s_nil ?_
  refine q_then ?_
  refine c_ret ?_
  refine q_retW rfl rfl many34 ss_ hc6 hc11 hc16
set_option maxRecDepth 100000 in
theorem rslot_d {b o n c : Nat} {l : List Itm} (hs : SlB W b o n c 4 (icells l)) {s : Int} : Does Tryz.prog 141 [.slice (some ⟨b, o, none⟩) n c, iv s] W [] (fun v L => v = iv (slotM l s) ∧ L = []) := by
  refine enter Tryz.func141 rfl rfl rfl (Has.start _) ?_
  refine c_seq ?_
  refine c_reg ?_
  refine s_y (Y_asC) rfl rfl ?_
  refine s_nil ?_
  refine q_then ?_
  refine c_seq ?_
  refine c_seq ?_
  refine c_reg ?_
  refine s_y (Y_asC) rfl rfl ?_
  refine s_nil ?_
  refine q_then ?_
  refine c_block ?_
  refine c_loop [4, 5, 6, 7, 8, 9, 10, 11, 12, 13, 14, 15] (fun m (i : Nat) => i + m = 4 ∧ slotF l s m i = slotM l s) (fun i => [(5, iv i)]) (fun _ => []) (4) (0) (⟨rfl, rfl⟩) (by repeat (first | exact trivial | refine ⟨rfl, ?_⟩)) (fun _ h => h.sub sl_) (fun _ => rfl) ?_
  rintro m i j ⟨hi, hf⟩ K hK
  refine c_seq ?_
  refine c_seq ?_
  refine c_reg ?_
  refine s_y (Y_mv) rfl rfl ?_
  refine s_y (Y_lss rfl rfl) rfl rfl ?_
  refine s_nil ?_
  refine q_then ?_
  first | refine c_cond' rfl (fun hc2 => ?_) (fun hc2 => ?_) | refine c_cond rfl (fun hc2 => ?_) (fun hc2 => ?_)
  · skip
    try simp only [nrm_] at hc2
    refine c_skip ?_
    refine q_then ?_
    refine c_seq ?_
    refine c_block ?_
    refine c_seq ?_
    refine c_reg ?_
    refine s_y (Y_mv) rfl rfl ?_
    refine s_y (Y_mv) rfl rfl ?_
    refine s_y (Y_mv) rfl rfl ?_
    refine s_c (En_call (fun _ => rfl) Tryz.func103 rfl (by kernel_rfl) rfl) (fun w hH => riin_d (hs.has hH)) rfl rfl ?_
    rintro _ _ ⟨rfl, rfl⟩
    refine s_y (Y_lss rfl rfl) rfl rfl ?_
    refine s_nil ?_
    refine q_then ?_
    first | refine c_cond' rfl (fun hc4 => ?_) (fun hc4 => ?_) | refine c_cond rfl (fun hc4 => ?_) (fun hc4 => ?_)
    · skip
      try simp only [nrm_] at hc4
      refine c_seq ?_
      refine c_reg ?_
      refine s_y (Y_mv) rfl rfl ?_
      refine s_y (Y_as) rfl rfl ?_
      refine s_nil ?_
      refine q_then ?_
      refine c_ret ?_
      refine q_retG1 rfl gt_ (L' := _) sl_ (⟨by rw [← hf]; obtain ⟨q, rfl⟩ : ∃ q, m = q + 1 := ⟨m - 1, by omega⟩; rw [slotF, if_pos hc4], rfl⟩)
    · skip
      try simp only [nrm_] at hc4
      refine c_skip ?_
      refine q_bn ?_
      refine q_then ?_
      refine c_reg ?_
      refine s_y (Y_mv) rfl rfl ?_
      refine s_y ad_ rfl rfl ?_
      refine s_y (Y_as) rfl rfl ?_
      refine s_nil ?_
      refine hK (m - 1) (i + 1) _ _ (by omega) ⟨by omega, ?_⟩ ⟨rfl, trivial⟩ rfl (fun _ h => h)
      rw [← hf]; obtain ⟨q, rfl⟩ : ∃ q, m = q + 1 := ⟨m - 1, by omega⟩
      rw [slotF, if_neg hc4]; rfl
  · skip
    try simp only [nrm_] at hc2
    refine c_exit ?_
    repeat with_reducible refine q_te ?_
    refine q_exit ?_
    refine q_then ?_
    refine c_seq ?_
    refine c_reg ?_
    refine s_y (Y_asC) rfl rfl ?_
    refine s_nil ?_
    refine q_then ?_
    refine c_ret ?_
    refine q_retG1 rfl gt_ (L' := _) sl_ (⟨by rw [← hf, show m = 0 by omega]; rfl, rfl⟩)
set_option maxRecDepth 100000 in
theorem rhas_d {b o n c : Nat} {l : List Itm} (hs : SlB W b o n c 4 (icells l)) {s f t : Int} : Does Tryz.prog 145 [.slice (some ⟨b, o, none⟩) n c, iv s, iv f, iv t] W [] (fun v L => v = iv (hasM l s f t) ∧ L = []) := by
  obtain rfl : n = l.length := by have := hs.len; rw [icells_len] at this; omega
  refine enter Tryz.func145 rfl rfl rfl (Has.start _) ?_
  refine c_seq ?_
  refine c_reg ?_
  refine s_y (Y_asC) rfl rfl ?_
  refine s_nil ?_
  refine q_then ?_
  refine c_seq ?_
  refine c_seq ?_
  refine c_reg ?_
  refine s_y (Y_asC) rfl rfl ?_
  refine s_nil ?_
  refine q_then ?_
  refine c_block ?_
  refine c_loop [8, 9, 10, 11, 12, 13, 14, 15, 16, 17, 18, 19, 20, 21, 22, 23, 24, 25, 26, 27, 28, 29, 30, 31, 32, 33, 34, 35, 36, 37, 38, 39] (fun m (i : Nat) => i + m = 4 ∧ hasF l s f t m i = hasM l s f t) (fun i => [(9, iv i)]) (fun _ => []) (4) (0) (⟨rfl, rfl⟩) (by repeat (first | exact trivial | refine ⟨rfl, ?_⟩)) (fun _ h => h.sub sl_) (fun _ => rfl) ?_
  rintro m i j ⟨hi, hf⟩ K hK
  refine c_seq ?_
  refine c_seq ?_
  refine c_reg ?_
  refine s_y (Y_mv) rfl rfl ?_
  refine s_y (Y_lss rfl rfl) rfl rfl ?_
  refine s_nil ?_
  refine q_then ?_
  first | refine c_cond' rfl (fun hc2 => ?_) (fun hc2 => ?_) | refine c_cond rfl (fun hc2 => ?_) (fun hc2 => ?_)
  · skip
    try simp only [nrm_] at hc2
    refine c_skip ?_
    refine q_then ?_
    refine c_seq ?_
    refine c_block ?_
    refine c_seq ?_
    refine c_reg ?_
    refine s_y (Y_mv) rfl rfl ?_
    refine s_y (Y_mv) rfl rfl ?_
    refine s_y (Y_mv) rfl rfl ?_
    refine s_c (En_call (fun _ => rfl) Tryz.func103 rfl (by kernel_rfl) rfl) (fun w hH => riin_d (hs.has hH)) rfl rfl ?_
    rintro _ _ ⟨rfl, rfl⟩
    refine s_y (Y_as) rfl rfl ?_
    refine s_nil ?_
    have hr := iIn_rng l 2 s i
    obtain ⟨r, hr0⟩ : ∃ q_, iIn l 2 s i = q_ := ⟨_, rfl⟩
    rw [hr0] at hr ⊢
    refine q_then ?_
    refine c_seq ?_
    refine c_reg ?_
    refine s_y (Y_mv) rfl rfl ?_
    refine s_y (Y_geq rfl rfl) rfl rfl ?_
    refine s_y (Y_mv) rfl rfl ?_
    apply s_and 8 [21, 22, 23, 24, 25, 26, 27, 28, 29] 29 (g := 21) rfl rfl
    · intro ht3 hm
      try simp only [nrm_] at ht3
      first | refine s_y (Y_mv) rfl rfl ?_ | refine s_pass rfl rfl ?_
      first | refine s_y (Y_mv) rfl rfl ?_ | refine s_pass rfl rfl ?_
      first | refine s_y (Y_ia (n := r.toNat) rfl rfl Tryz.underlying31 sz98 (by omega) (by omega)) rfl rfl ?_ | refine s_pass rfl rfl ?_
      first | refine s_y (Y_fa 0 rfl Tryz.underlying98 rfl sz3 rfl) rfl rfl ?_ | refine s_pass rfl rfl ?_
      first | refine s_y (Y_loadR (v := iv (igt l r).kind) (i := 0) rfl one3 (hs.at' Itm.len (iget_of (by omega) (by omega))) rfl rfl) rfl rfl ?_ | refine s_pass rfl rfl ?_
      first | refine s_y (Y_mv) rfl rfl ?_ | refine s_pass rfl rfl ?_
      first | refine s_y (Y_geq rfl rfl) rfl rfl ?_ | refine s_pass rfl rfl ?_
      refine s_y (Y_pk rfl (Gx.tmp gt_) Gx.const) rfl rfl ?_
      first | exact hm _ ⟨rfl, trivial⟩ rfl | exact QL.sub sl_ (hm _ ⟨rfl, trivial⟩ rfl)
    · intro ht3 hm
      iterate 7 refine s_pass rfl rfl ?_
      refine s_y (Y_pk rfl (Gx.tmp gt_) Gx.const) rfl rfl ?_
      exact hm _ ⟨rfl, trivial⟩ rfl
    intro j29
    refine s_y (Y_mv) rfl rfl ?_
    apply s_and 8 [30, 31, 32, 33, 34, 35, 36, 37, 38] 38 (g := 30) rfl rfl
    · intro ht12 hm
      try simp only [nrm_] at ht12
      first | refine s_y (Y_mv) rfl rfl ?_ | refine s_pass rfl rfl ?_
      first | refine s_y (Y_mv) rfl rfl ?_ | refine s_pass rfl rfl ?_
      first | refine s_y (Y_ia (n := r.toNat) rfl rfl Tryz.underlying31 sz98 (by omega) (by omega)) rfl rfl ?_ | refine s_pass rfl rfl ?_
      first | refine s_y (Y_fa 0 rfl Tryz.underlying98 rfl sz3 rfl) rfl rfl ?_ | refine s_pass rfl rfl ?_
      first | refine s_y (Y_loadR (v := iv (igt l r).kind) (i := 0) rfl one3 (hs.at' Itm.len (iget_of (by omega) (by omega))) rfl rfl) rfl rfl ?_ | refine s_pass rfl rfl ?_
      first | refine s_y (Y_mv) rfl rfl ?_ | refine s_pass rfl rfl ?_
      first | refine s_y (Y_leq rfl rfl) rfl rfl ?_ | refine s_pass rfl rfl ?_
      refine s_y (Y_pk rfl (Gx.tmp gt_) Gx.const) rfl rfl ?_
      first | exact hm _ ⟨rfl, trivial⟩ rfl | exact QL.sub sl_ (hm _ ⟨rfl, trivial⟩ rfl)
    · intro ht12 hm
      iterate 7 refine s_pass rfl rfl ?_
      refine s_y (Y_pk rfl (Gx.tmp gt_) Gx.const) rfl rfl ?_
      exact hm _ ⟨rfl, trivial⟩ rfl
    intro j38
    refine s_nil ?_
    refine q_then ?_
    first | refine c_cond' rfl (fun hc5 => ?_) (fun hc5 => ?_) | refine c_cond rfl (fun hc5 => ?_) (fun hc5 => ?_)
    · skip
      try simp only [nrm_] at hc5
      refine c_seq ?_
      refine c_reg ?_
      refine s_y (Y_mv) rfl rfl ?_
      refine s_y (Y_as) rfl rfl ?_
      refine s_nil ?_
      refine q_then ?_
      refine c_ret ?_
      refine q_retG1 rfl gt_ (L' := _) sl_ (⟨by rw [← hf]; obtain ⟨q, rfl⟩ : ∃ q, m = q + 1 := ⟨m - 1, by omega⟩; rw [hasF, hr0, if_pos (by omega)], rfl⟩)
    · skip
      try simp only [nrm_] at hc5
      refine c_skip ?_
      refine q_bn ?_
      refine q_then ?_
      refine c_reg ?_
      refine s_y (Y_mv) rfl rfl ?_
      refine s_y ad_ rfl rfl ?_
      refine s_y (Y_as) rfl rfl ?_
      refine s_nil ?_
      refine hK (m - 1) (i + 1) _ _ (by omega) ⟨by omega, ?_⟩ ⟨rfl, trivial⟩ rfl (fun _ h => h)
      rw [← hf]; obtain ⟨q, rfl⟩ : ∃ q, m = q + 1 := ⟨m - 1, by omega⟩
      rw [hasF, hr0, if_neg (by omega)]; rfl
  · skip
    try simp only [nrm_] at hc2
    refine c_exit ?_
    repeat with_reducible refine q_te ?_
    refine q_exit ?_
    refine q_then ?_
    refine c_seq ?_
    refine c_reg ?_
    refine s_y (Y_asC) rfl rfl ?_
    refine s_nil ?_
    refine q_then ?_
    refine c_ret ?_
    refine q_retG1 rfl gt_ (L' := _) sl_ (⟨by rw [← hf, show m = 0 by omega]; rfl, rfl⟩)
set_option maxRecDepth 100000 in
theorem rpotion_d {b o n c : Nat} {l : List Itm} (hs : SlB W b o n c 4 (icells l)) {s : Int} : Does Tryz.prog 139 [.slice (some ⟨b, o, none⟩) n c, iv s] W [] (fun v L => v = iv (hasM l s 1 1) ∧ L = []) := by
  refine enter Tryz.func139 rfl rfl rfl (Has.start _) ?_
  refine c_seq ?_
  refine c_reg ?_
  refine s_y (Y_asC) rfl rfl ?_
  refine s_nil ?_
  refine q_then ?_
  refine c_seq ?_
  refine c_reg ?_
  refine s_y (Y_mv) rfl rfl ?_
  refine s_y (Y_mv) rfl rfl ?_
  refine s_c (En_call (fun _ => rfl) Tryz.func145 rfl (by kernel_rfl) rfl) (fun w hH => rhas_d (hs.has hH)) rfl rfl ?_
  rintro _ _ ⟨rfl, rfl⟩
  refine s_y (Y_as) rfl rfl ?_
  refine s_nil ?_
  refine q_then ?_
  refine c_ret ?_
  refine q_retG1 rfl gt_ (L' := _) sl_ (⟨rfl, rfl⟩)
set_option maxRecDepth 100000 in
theorem rbonus_d {d : Wd} {s : Ws} (hw : WL W d s) {k : Int} : Does Tryz.prog 183 [.agg (wL d s).toArray, iv k] W [] (fun v L => v = .tuple #[iv (bonA d.items k), iv (bonD d.items k)] ∧ L = []) := by
  refine enter Tryz.func183 rfl rfl rfl (Has.start _) ?_
  refine c_seq ?_
  refine c_reg ?_
  refine s_n (N_box (cs := wL d s) rfl) rfl rfl (fun b2 _ => ?_)
  refine s_y (Y_asC) rfl rfl ?_
  refine s_y (Y_asC) rfl rfl ?_
  refine s_nil ?_
  refine q_then ?_
  refine c_seq ?_
  refine c_reg ?_
  refine s_y (Y_asC) rfl rfl ?_
  refine s_y (Y_asC) rfl rfl ?_
  refine s_nil ?_
  refine q_then ?_
  refine c_seq ?_
  refine c_seq ?_
  refine c_reg ?_
  refine s_y (Y_fa 6 rfl Tryz.underlying34 rfl sz31 rfl) rfl rfl ?_
  refine s_y (yl_ one31) rfl rfl ?_
  refine s_y (Y_mv) rfl rfl ?_
  refine s_c (En_call (fun _ => rfl) Tryz.func103 rfl (by kernel_rfl) rfl) (fun w hH => riin_d (hw.i.has hH)) rfl rfl ?_
  rintro _ _ ⟨rfl, rfl⟩
  refine s_y (Y_geq rfl rfl) rfl rfl ?_
  refine s_nil ?_
  refine q_then ?_
  first | refine c_cond' rfl (fun hc2 => ?_) (fun hc2 => ?_) | refine c_cond rfl (fun hc2 => ?_) (fun hc2 => ?_)
  · skip
    try simp only [nrm_] at hc2
    refine c_reg ?_
    refine s_y (Y_asC) rfl rfl ?_
    refine s_nil ?_
    refine q_then ?_
    refine c_seq ?_
    refine c_seq ?_
    refine c_reg ?_
    refine s_y (Y_fa 6 rfl Tryz.underlying34 rfl sz31 rfl) rfl rfl ?_
    refine s_y (yl_ one31) rfl rfl ?_
    refine s_y (Y_mv) rfl rfl ?_
    refine s_c (En_call (fun _ => rfl) Tryz.func103 rfl (by kernel_rfl) rfl) (fun w hH => riin_d (hw.i.has hH)) rfl rfl ?_
    rintro _ _ ⟨rfl, rfl⟩
    refine s_y (Y_geq rfl rfl) rfl rfl ?_
    refine s_nil ?_
    refine q_then ?_
    first | refine c_cond' rfl (fun hc4 => ?_) (fun hc4 => ?_) | refine c_cond rfl (fun hc4 => ?_) (fun hc4 => ?_)
    · skip
      try simp only [nrm_] at hc4
      refine c_reg ?_
      refine s_y (Y_asC) rfl rfl ?_
      refine s_nil ?_
      refine q_then ?_
      refine c_seq ?_
      refine c_reg ?_
      refine s_y (Y_mv) rfl rfl ?_
      refine s_y (Y_mv) rfl rfl ?_
      refine s_y (Y_as) rfl rfl ?_
      refine s_y (Y_as) rfl rfl ?_
      refine s_nil ?_
      refine q_then ?_
      refine c_ret ?_
      refine q_retG2 rfl gt_ gt_ (L' := _) sl_ (⟨by unfold bonA bonD; rw [if_pos (by omega), if_pos (by omega)], rfl⟩)
    · skip
      try simp only [nrm_] at hc4
      refine c_skip ?_
      refine q_then ?_
      refine c_seq ?_
      refine c_reg ?_
      refine s_y (Y_mv) rfl rfl ?_
      refine s_y (Y_mv) rfl rfl ?_
      refine s_y (Y_as) rfl rfl ?_
      refine s_y (Y_as) rfl rfl ?_
      refine s_nil ?_
      refine q_then ?_
      refine c_ret ?_
      refine q_retG2 rfl gt_ gt_ (L' := _) sl_ (⟨by unfold bonA bonD; rw [if_pos (by omega), if_neg (by omega)], rfl⟩)
  · skip
    try simp only [nrm_] at hc2
    refine c_skip ?_
    refine q_then ?_
    refine c_seq ?_
    refine c_seq ?_
    refine c_reg ?_
    refine s_y (Y_fa 6 rfl Tryz.underlying34 rfl sz31 rfl) rfl rfl ?_
    refine s_y (yl_ one31) rfl rfl ?_
    refine s_y (Y_mv) rfl rfl ?_
    refine s_c (En_call (fun _ => rfl) Tryz.func103 rfl (by kernel_rfl) rfl) (fun w hH => riin_d (hw.i.has hH)) rfl rfl ?_
    rintro _ _ ⟨rfl, rfl⟩
    refine s_y (Y_geq rfl rfl) rfl rfl ?_
    refine s_nil ?_
    refine q_then ?_
    first | refine c_cond' rfl (fun hc4 => ?_) (fun hc4 => ?_) | refine c_cond rfl (fun hc4 => ?_) (fun hc4 => ?_)
    · skip
      try simp only [nrm_] at hc4
      refine c_reg ?_
      refine s_y (Y_asC) rfl rfl ?_
      refine s_nil ?_
      refine q_then ?_
      refine c_seq ?_
      refine c_reg ?_
      refine s_y (Y_mv) rfl rfl ?_
      refine s_y (Y_mv) rfl rfl ?_
      refine s_y (Y_as) rfl rfl ?_
      refine s_y (Y_as) rfl rfl ?_
      refine s_nil ?_
      refine q_then ?_
      refine c_ret ?_
      refine q_retG2 rfl gt_ gt_ (L' := _) sl_ (⟨by unfold bonA bonD; rw [if_neg (by omega), if_pos (by omega)], rfl⟩)
    · skip
      try simp only [nrm_] at hc4
      refine c_skip ?_
      refine q_then ?_
      refine c_seq ?_
      refine c_reg ?_
      refine s_y (Y_mv) rfl rfl ?_
      refine s_y (Y_mv) rfl rfl ?_
      refine s_y (Y_as) rfl rfl ?_
      refine s_y (Y_as) rfl rfl ?_
      refine s_nil ?_
      refine q_then ?_
      refine c_ret ?_
      refine q_retG2 rfl gt_ gt_ (L' := _) sl_ (⟨by unfold bonA bonD; rw [if_neg (by omega), if_neg (by omega)], rfl⟩)
set_option maxRecDepth 100000 in
theorem rsweep_d {d : Wd} {s : Ws} (hw : WL W d s) {k : Int} : Does Tryz.prog 188 [.agg (wL d s).toArray, iv k] W [] (WN (sweepM d k)) := by
  obtain ⟨z1, z2, z3⟩ := hw.sz
  refine enter Tryz.func188 rfl rfl rfl (Has.start _) ?_
  refine c_seq ?_
  refine c_reg ?_
  refine s_n (N_box (cs := wL d s) rfl) rfl rfl (fun b2 _ => ?_)
  refine s_n (N_alloc (z := .agg #[.int .i64 0, .int .i64 0, .int .i64 0, .int .i64 0, .slice none 0 0, .slice none 0 0, .slice none 0 0, .int .i64 0, .int .i64 0, .int .i64 0, .int .i64 0]) (cs := [.int .i64 0, .int .i64 0, .int .i64 0, .int .i64 0, .slice none 0 0, .slice none 0 0, .slice none 0 0, .int .i64 0, .int .i64 0, .int .i64 0, .int .i64 0]) zv34 rfl) rfl rfl (fun b4 _ => ?_)
  refine s_nil ?_
  refine q_then ?_
  refine c_seq ?_
  refine c_reg ?_
  refine s_y (ya_ many34) rfl rfl ?_
  refine s_c (En_call (fun _ => rfl) Tryz.func51 rfl (by kernel_rfl) rfl) (fun w hH => rtwin_d (hw.has hH)) rfl rfl ?_
  rintro _ _ ⟨cb, cc, eb, ec, ib, ic, rfl, rfl, l1, l2, l3⟩
  refine s_s (S_storeA (vs := wL d ⟨cb, 0, cc, eb, 0, ec, ib, 0, ic⟩) rfl rfl sz34 (by rfl) (by rfl) up_ (by rfl)) rfl ?_
  refine s_nil ?_
  refine q_then ?_
  refine c_seq ?_
  refine c_seq ?_
  refine c_reg ?_
  refine s_y (Y_asC) rfl rfl ?_
  refine s_nil ?_
  refine q_then ?_
  refine c_block ?_
  refine c_loop [5, 8, 9, 10, 11, 12, 13, 14, 15, 16, 17, 18, 19, 20, 21, 22, 23, 24, 25, 26, 27, 28, 29, 30, 31, 32, 33, 34, 35, 36, 37, 38, 39, 40, 41, 42, 43, 44, 45] (fun m (i : Nat) => i + m = 40) (fun i => [(5, iv i)]) (fun i => [cB cb cc d.cells, eB eb ec d.ents, iB ib ic (mapI (sweepOne k) d.items i), wB b4 wz, wB b2 (wL d ⟨cb, 0, cc, eb, 0, ec, ib, 0, ic⟩)]) (40) (0) (rfl) (by repeat (first | exact trivial | refine ⟨rfl, ?_⟩)) (fun w h => by rw [mapI_zero]; exact h) (fun _ => rfl) ?_
  rintro m i j hi K hK
  refine c_seq ?_
  refine c_seq ?_
  refine c_reg ?_
  refine s_y (Y_mv) rfl rfl ?_
  refine s_y (Y_fa 6 rfl Tryz.underlying34 rfl sz31 rfl) rfl rfl ?_
  refine s_y (yl_ one31) rfl rfl ?_
  refine s_y (Y_len rfl rfl Tryz.underlying31) rfl rfl ?_
  refine s_y (Y_lss rfl rfl) rfl rfl ?_
  refine s_nil ?_
  refine q_then ?_
  first | refine c_cond' rfl (fun hc3 => ?_) (fun hc3 => ?_) | refine c_cond rfl (fun hc3 => ?_) (fun hc3 => ?_)
  · skip
    try simp only [nrm_] at hc3
    refine c_skip ?_
    refine q_then ?_
    refine c_seq ?_
    refine c_block ?_
    refine c_seq ?_
    obtain ⟨x, hx0⟩ := take_lt (show i < d.items.length by omega)
    have hx := mapI_get (f := sweepOne k) hx0
    have hml := mapI_len (sweepOne k) d.items i
    refine c_reg ?_
    refine s_y (Y_fa 6 rfl Tryz.underlying34 rfl sz31 rfl) rfl rfl ?_
    refine s_y (yl_ one31) rfl rfl ?_
    refine s_y (Y_mv) rfl rfl ?_
    refine s_y (Y_ia rfl rfl Tryz.underlying31 sz98 rfl (by omega)) rfl rfl ?_
    refine s_y (Y_fa 1 rfl Tryz.underlying98 rfl sz3 rfl) rfl rfl ?_
    refine s_y (yl_ one3) rfl rfl ?_
    refine s_y (Y_eql rfl rfl) rfl rfl ?_
    refine s_y (Y_mv) rfl rfl ?_
    apply s_or 8 [22, 23, 24, 25, 26, 27, 28, 29, 30] 30 (g := 22) rfl rfl
    · intro ht8 hm
      try simp only [nrm_] at ht8
      first | refine s_y (Y_fa 6 rfl Tryz.underlying34 rfl sz31 rfl) rfl rfl ?_ | refine s_pass rfl rfl ?_
      first | refine s_y (yl_ one31) rfl rfl ?_ | refine s_pass rfl rfl ?_
      first | refine s_y (Y_mv) rfl rfl ?_ | refine s_pass rfl rfl ?_
      first | refine s_y (Y_ia rfl rfl Tryz.underlying31 sz98 rfl (by omega)) rfl rfl ?_ | refine s_pass rfl rfl ?_
      first | refine s_y (Y_fa 1 rfl Tryz.underlying98 rfl sz3 rfl) rfl rfl ?_ | refine s_pass rfl rfl ?_
      first | refine s_y (yl_ one3) rfl rfl ?_ | refine s_pass rfl rfl ?_
      first | refine s_y (Y_eql rfl rfl) rfl rfl ?_ | refine s_pass rfl rfl ?_
      refine s_y (Y_pk rfl Gx.const (Gx.tmp gt_)) rfl rfl ?_
      first | exact hm _ ⟨rfl, trivial⟩ rfl | exact QL.sub sl_ (hm _ ⟨rfl, trivial⟩ rfl)
    · intro ht8 hm
      iterate 7 refine s_pass rfl rfl ?_
      refine s_y (Y_pk rfl Gx.const (Gx.tmp gt_)) rfl rfl ?_
      exact hm _ ⟨rfl, trivial⟩ rfl
    intro j30
    refine s_y (Y_mv) rfl rfl ?_
    apply s_and 9 [31, 32, 33, 34, 35, 36, 37, 38, 39, 40] 40 (g := 31) rfl rfl
    · intro ht17 hm
      try simp only [nrm_] at ht17
      first | refine s_y (Y_fa 6 rfl Tryz.underlying34 rfl sz31 rfl) rfl rfl ?_ | refine s_pass rfl rfl ?_
      first | refine s_y (yl_ one31) rfl rfl ?_ | refine s_pass rfl rfl ?_
      first | refine s_y (Y_mv) rfl rfl ?_ | refine s_pass rfl rfl ?_
      first | refine s_y (Y_ia rfl rfl Tryz.underlying31 sz98 rfl (by omega)) rfl rfl ?_ | refine s_pass rfl rfl ?_
      first | refine s_y (Y_fa 2 rfl Tryz.underlying98 rfl sz3 rfl) rfl rfl ?_ | refine s_pass rfl rfl ?_
      first | refine s_y (yl_ one3) rfl rfl ?_ | refine s_pass rfl rfl ?_
      first | refine s_y (Y_mv) rfl rfl ?_ | refine s_pass rfl rfl ?_
      first | refine s_y (Y_eql rfl rfl) rfl rfl ?_ | refine s_pass rfl rfl ?_
      refine s_y (Y_pk rfl (Gx.tmp gt_) Gx.const) rfl rfl ?_
      first | exact hm _ ⟨rfl, trivial⟩ rfl | exact QL.sub sl_ (hm _ ⟨rfl, trivial⟩ rfl)
    · intro ht17 hm
      iterate 8 refine s_pass rfl rfl ?_
      refine s_y (Y_pk rfl (Gx.tmp gt_) Gx.const) rfl rfl ?_
      exact hm _ ⟨rfl, trivial⟩ rfl
    intro j40
    refine s_nil ?_
    refine q_then ?_
    first | refine c_cond' rfl (fun hc5 => ?_) (fun hc5 => ?_) | refine c_cond rfl (fun hc5 => ?_) (fun hc5 => ?_)
    · skip
      try simp only [nrm_] at hc5
      refine c_reg ?_
      refine s_y (Y_fa 6 rfl Tryz.underlying34 rfl sz31 rfl) rfl rfl ?_
      refine s_y (yl_ one31) rfl rfl ?_
      refine s_y (Y_mv) rfl rfl ?_
      refine s_y (Y_build (cs := [.int .i64 0, .int .i64 0, .int .i64 0, .int .i64 0]) (by repeat (first | exact Gp.nil | apply Gp.const | apply Gp.tmp gt_)) (bld98 _ _ (by first | rfl | (simp; rfl)))) rfl rfl ?_
      refine s_y (Y_ia rfl rfl Tryz.underlying31 sz98 rfl (by omega)) rfl rfl ?_
      refine s_s (S_storeN (cs' := icells ((mapI (sweepOne k) d.items i).set i Itm.zero)) rfl rfl sz98 (by rfl) (by rfl) up_ (iall Itm.zero (by omega)) (ble_i (by omega))) rfl ?_
      refine s_nil ?_
      refine q_bn ?_
      refine q_then ?_
      refine c_reg ?_
      refine s_y (Y_mv) rfl rfl ?_
      refine s_y ad_ rfl rfl ?_
      refine s_y (Y_as) rfl rfl ?_
      refine s_nil ?_
      have hs : sweepOne k x = Itm.zero := by unfold sweepOne; rw [if_pos (by omega)]
      refine hK (m - 1) (i + 1) _ _ (by omega) (by omega) ⟨rfl, trivial⟩ rfl (fun w h => ?_)
      simp only; rw [mapI_succ hx0, hs]; exact h
    · skip
      try simp only [nrm_] at hc5
      refine c_skip ?_
      refine q_bn ?_
      refine q_then ?_
      refine c_reg ?_
      refine s_y (Y_mv) rfl rfl ?_
      refine s_y ad_ rfl rfl ?_
      refine s_y (Y_as) rfl rfl ?_
      refine s_nil ?_
      have hs : sweepOne k x = x := by unfold sweepOne; rw [if_neg (by omega)]
      refine hK (m - 1) (i + 1) _ _ (by omega) (by omega) ⟨rfl, trivial⟩ rfl (fun w h => ?_)
      simp only; rw [mapI_same hx0 hs]; exact h
  · skip
    try simp only [nrm_] at hc3
    refine c_exit ?_
    repeat with_reducible refine q_te ?_
    refine q_exit ?_
    refine q_then ?_
    refine c_seq ?_
    rw [mapI_all (sweepOne k) d.items (show d.items.length ≤ i by omega)]
    refine c_reg ?_
    refine s_y (ya_ many34) rfl rfl ?_
    refine s_s ((sa_ sz34)) rfl ?_
    refine s_nil ?_
    refine q_then ?_
    refine c_ret ?_
    refine q_retW rfl rfl many34 ss_ l1 l2 l3
end
end Go.Proofs.YtcogbkkdccohfaaGreat
namespace Go.Ad
open Go.RowKit Go.Maps Go.Proofs.YtcogbkkdccohfaaGreat
theorem lt_i {l : List Itm} {i j : Nat} (h : i < l.length) (hj : j < 4) : 0 + i * 4 + j < (icells l).length := by rw [icells_len]; omega
theorem lt_e {l : List Ent} {i j : Nat} (h : i < l.length) (hj : j < 11) : 0 + i * 11 + j < (ecells l).length := by rw [ecells_len]; omega
theorem put_nat (g : Four) (k : Nat) (v : Int) : g.put (k : Int) v = g.set v k := by unfold Four.put; rw [Int.toNat_natCast]
theorem at_nat (g : Four) (k : Nat) : g.at (k : Int) = g.get k := by unfold Four.at; rw [Int.toNat_natCast]
theorem shelf_step {l : List Itm} {m : Nat} {k : Int} (hm : m ≠ 0) : shelfF l m k = if 0 ≤ iIn l 4 k 0 then iIn l 4 k 0 else shelfF l (m - 1) (k + 1) := by
  obtain ⟨q, rfl⟩ : ∃ q, m = q + 1 := ⟨m - 1, by omega⟩
  rfl
end Go.Ad
namespace Go.Proofs.YtcogbkkdccohfaaGreat
open Go.RowKit Go.Ad Go.Maps
set_option linter.unusedVariables false
set_option linter.unusedSimpArgs false
section
variable {W : World}
abbrev e1B (b : Nat) (e : Ent) : Bk := ⟨b, 93, 11, 1, e.cells⟩
set_option maxRecDepth 100000 in
set_option maxHeartbeats 6400000 in
theorem rdo_d {d : Wd} {s : Ws} (hw : WL W d s) (hv : VW d) {seat input : Int} : Does Tryz.prog 92 [.agg (wL d s).toArray, iv seat, iv input] W [] (WN (doM d seat input)) := by
  obtain ⟨z1, z2, z3⟩ := hw.sz
  refine enter Tryz.func92 rfl rfl rfl (Has.start _) ?_
  refine c_seq ?_
  refine c_reg ?_
  refine s_n (N_box (cs := wL d s) rfl) rfl rfl (fun b3 _ => ?_)
  refine s_n (N_alloc (z := .agg #[.int .i64 0, .int .i64 0, .int .i64 0, .int .i64 0, .slice none 0 0, .slice none 0 0, .slice none 0 0, .int .i64 0, .int .i64 0, .int .i64 0, .int .i64 0]) (cs := [.int .i64 0, .int .i64 0, .int .i64 0, .int .i64 0, .slice none 0 0, .slice none 0 0, .slice none 0 0, .int .i64 0, .int .i64 0, .int .i64 0, .int .i64 0]) zv34 rfl) rfl rfl (fun b6 _ => ?_)
  refine s_nil ?_
  refine q_then ?_
  refine c_seq ?_
  refine c_reg ?_
  refine s_y (ya_ many34) rfl rfl ?_
  refine s_c (En_call (fun _ => rfl) Tryz.func51 rfl (by kernel_rfl) rfl) (fun w hH => rtwin_d (hw.has hH)) rfl rfl ?_
  rintro _ _ ⟨cb, cc, eb, ec, ib, ic, rfl, rfl, l1, l2, l3⟩
  refine s_s (S_storeA (vs := wL d ⟨cb, 0, cc, eb, 0, ec, ib, 0, ic⟩) rfl rfl sz34 (by rfl) (by rfl) up_ (by rfl)) rfl ?_
  refine s_nil ?_
  refine q_then ?_
  refine c_seq ?_
  refine c_reg ?_
  refine s_y (Y_fa 5 rfl Tryz.underlying34 rfl sz30 rfl) rfl rfl ?_
  refine s_y (yl_ one30) rfl rfl ?_
  refine s_y (Y_mv) rfl rfl ?_
  refine s_c (En_call (fun _ => rfl) Tryz.func54 rfl (by kernel_rfl) rfl) (fun w hH => rhero_d (eSl hH (b := eb) (c := ec) (l := d.ents) mm_ z2 l2)) rfl rfl ?_
  rintro _ _ ⟨rfl, rfl⟩
  refine s_y (Y_as) rfl rfl ?_
  refine s_nil ?_
  refine q_then ?_
  refine c_seq ?_
  refine c_seq ?_
  refine c_reg ?_
  refine s_y (Y_mv) rfl rfl ?_
  refine s_y (Y_lss rfl rfl) rfl rfl ?_
  refine s_y (Y_mv) rfl rfl ?_
  apply s_or 3 [27, 28, 29, 30] 30 (g := 27) rfl rfl
  · intro ht3 hm
    try simp only [nrm_] at ht3
    first | refine s_y (Y_mv) rfl rfl ?_ | refine s_pass rfl rfl ?_
    first | refine s_y (Y_lss rfl rfl) rfl rfl ?_ | refine s_pass rfl rfl ?_
    refine s_y (Y_pk rfl Gx.const (Gx.tmp gt_)) rfl rfl ?_
    first | exact hm _ ⟨rfl, trivial⟩ rfl | exact QL.sub sl_ (hm _ ⟨rfl, trivial⟩ rfl)
  · intro ht3 hm
    iterate 2 refine s_pass rfl rfl ?_
    refine s_y (Y_pk rfl Gx.const (Gx.tmp gt_)) rfl rfl ?_
    exact hm _ ⟨rfl, trivial⟩ rfl
  intro j30
  refine s_y (Y_mv) rfl rfl ?_
  apply s_or 3 [31, 32, 33, 34] 34 (g := 31) rfl rfl
  · intro ht7 hm
    try simp only [nrm_] at ht7
    first | refine s_y (Y_mv) rfl rfl ?_ | refine s_pass rfl rfl ?_
    first | refine s_y (Y_geq rfl rfl) rfl rfl ?_ | refine s_pass rfl rfl ?_
    refine s_y (Y_pk rfl Gx.const (Gx.tmp gt_)) rfl rfl ?_
    first | exact hm _ ⟨rfl, trivial⟩ rfl | exact QL.sub sl_ (hm _ ⟨rfl, trivial⟩ rfl)
  · intro ht7 hm
    iterate 2 refine s_pass rfl rfl ?_
    refine s_y (Y_pk rfl Gx.const (Gx.tmp gt_)) rfl rfl ?_
    exact hm _ ⟨rfl, trivial⟩ rfl
  intro j34
  refine s_nil ?_
  refine q_then ?_
  first | refine c_cond' rfl (fun hc3 => ?_) (fun hc3 => ?_) | refine c_cond rfl (fun hc3 => ?_) (fun hc3 => ?_)
  · skip
    try simp only [nrm_] at hc3
    refine c_seq ?_
    rw [show doM d seat input = d by unfold doM; simp only; rw [if_pos (by omega)]]
    refine c_reg ?_
    refine s_y (ya_ many34) rfl rfl ?_
    refine s_s ((sa_ sz34)) rfl ?_
    refine s_nil ?_
    refine q_then ?_
    refine c_ret ?_
    refine q_retW rfl rfl many34 ss_ l1 l2 l3
  · skip
    try simp only [nrm_] at hc3
    refine c_skip ?_
    refine q_then ?_
    refine c_seq ?_
    obtain ⟨k, rfl⟩ : ∃ q : Nat, seat = (q : Int) := ⟨seat.toNat, by omega⟩
    have hk : k < 4 := by omega
    have hg := hv.gold k
    obtain ⟨r, e, hh, he, hek, hes⟩ := eHero_some (rfl : eHero d.ents k = _) (by omega)
    have hdo : doM d k input = if input = 5 then pickD d k e else if input = 6 then useD d k r e else if input = 7 then wearD d k else if input = 8 then dropD d k e else if input = 10 then buyD d k e else d := by
      unfold doM; simp only; rw [if_neg (by omega), hh, egt_of he]
    have her := hv.ev.rowOf he (by omega)
    have hep := her.hp
    have hest := stats_rng e.kind
    have hemx := her.st.1
    rw [hh]
    have hrl := lt_of_get he
    refine c_reg ?_
    refine s_y (Y_fa 5 rfl Tryz.underlying34 rfl sz30 rfl) rfl rfl ?_
    refine s_y (yl_ one30) rfl rfl ?_
    refine s_y (Y_mv) rfl rfl ?_
    refine s_y (Y_ia (n := r) rfl rfl Tryz.underlying30 sz93 rfl (by omega)) rfl rfl ?_
    refine s_y (Y_loadN (vs := e.cells) rfl many93 mm_ (by rfl) (egetN he)) rfl rfl ?_
    refine s_n (N_alloc (z := .agg #[.int .i64 0, .int .i64 0, .int .i64 0, .int .i64 0, .int .i64 0, .int .i64 0, .int .i64 0, .int .i64 0, .int .i64 0, .int .i64 0, .int .i64 0]) (cs := [.int .i64 0, .int .i64 0, .int .i64 0, .int .i64 0, .int .i64 0, .int .i64 0, .int .i64 0, .int .i64 0, .int .i64 0, .int .i64 0, .int .i64 0]) zv93 rfl) rfl rfl (fun b8 _ => ?_)
    refine s_s (S_storeA (vs := e.cells) rfl rfl sz93 (by rfl) (by rfl) up_ (by rfl)) rfl ?_
    refine s_nil ?_
    refine q_then ?_
    refine c_seq ?_
    refine c_reg ?_
    refine s_y (Y_fa 6 rfl Tryz.underlying34 rfl sz31 rfl) rfl rfl ?_
    refine s_y (yl_ one31) rfl rfl ?_
    refine s_y (Y_as) rfl rfl ?_
    refine s_nil ?_
    refine q_then ?_
    refine c_seq ?_
    refine c_reg ?_
    refine s_y (Y_mv) rfl rfl ?_
    refine s_y (Y_fa 3 rfl Tryz.underlying93 rfl sz3 rfl) rfl rfl ?_
    refine s_y (yl_ one3) rfl rfl ?_
    refine s_y (Y_fa 4 rfl Tryz.underlying93 rfl sz3 rfl) rfl rfl ?_
    refine s_y (yl_ one3) rfl rfl ?_
    refine s_c (En_call (fun _ => rfl) Tryz.func103 rfl (by kernel_rfl) rfl) (fun w hH => riin_d (iSl hH (b := ib) (c := ic) (l := d.items) mm_ z3 l3)) rfl rfl ?_
    rintro _ _ ⟨rfl, rfl⟩
    refine s_y (Y_as) rfl rfl ?_
    refine s_nil ?_
    refine q_then ?_
    refine c_seq ?_
    refine c_reg ?_
    refine s_y (Y_mv) rfl rfl ?_
    refine s_y (Y_mv) rfl rfl ?_
    refine s_c (En_call (fun _ => rfl) Tryz.func141 rfl (by kernel_rfl) rfl) (fun w hH => rslot_d (iSl hH (b := ib) (c := ic) (l := d.items) mm_ z3 l3)) rfl rfl ?_
    rintro _ _ ⟨rfl, rfl⟩
    refine s_y (Y_as) rfl rfl ?_
    refine s_nil ?_
    refine q_then ?_
    have hhr := iIn_rng d.items 1 e.x e.y
    obtain ⟨here, hhe⟩ : ∃ q, iIn d.items 1 e.x e.y = q := ⟨_, rfl⟩
    obtain ⟨free, hfe⟩ : ∃ q, slotM d.items k = q := ⟨_, rfl⟩
    rw [hhe] at hhr
    rw [hhe, hfe]
    refine c_seq ?_
    refine c_meetQ (ks := [12, 13, 14, 15, 16, 17, 18, 52, 53, 54, 55, 56, 57, 58, 59, 60, 61, 62, 63, 64, 65, 66, 67, 68, 69, 70, 71, 72, 73, 74, 75, 76, 77, 78, 79, 80, 81, 82, 83, 84, 85, 86, 87, 88, 89, 90, 91, 92, 93, 94, 95, 96, 97, 98, 99, 100, 101, 102, 103, 104, 105, 106, 107, 108, 109, 110, 111, 112, 113, 114, 115, 116, 117, 118, 119, 120, 121, 122, 123, 124, 125, 126, 127, 128, 129, 130, 131, 132, 133, 134, 135, 136, 137, 138, 139, 140, 141, 142, 143, 144, 145, 146, 147, 148, 149, 150, 151, 152, 153, 154, 155, 156, 157, 158, 159, 160, 161, 162, 163, 164, 165, 166, 167, 168, 169, 170, 171, 172, 173, 174, 175, 176, 177, 178, 179, 180, 181, 182, 183, 184, 185, 186, 187, 188, 189, 190, 191, 192, 193, 194, 195, 196, 197, 198, 199, 200, 201, 202, 203, 204, 205, 206, 207, 208, 209, 210, 211, 212, 213, 214, 215, 216, 217, 218, 219, 220, 221, 222, 223, 224, 225, 226, 227, 228, 229, 230, 231, 232, 233, 234, 235, 236, 237, 238, 239, 240, 241, 242, 243, 244, 245, 246, 247, 248, 249, 250]) (tr := fun _ : Wd => []) (φ := fun y => y = doM d k input) (G := fun y => [wB b3 (wL y ⟨cb, 0, cc, eb, 0, ec, ib, 0, ic⟩), cB cb cc y.cells, eB eb ec y.ents, iB ib ic y.items, wB b6 wz]) (fun _ => rfl) ?_ ?_
    · rintro y j hy
      refine q_then ?_
      refine c_seq ?_
      refine c_reg ?_
      refine s_y (ya_ many34) rfl rfl ?_
      refine s_s ((sa_ sz34)) rfl ?_
      refine s_nil ?_
      refine q_then ?_
      refine c_ret ?_
      rw [← hy]
      refine q_retW rfl rfl many34 ss_ l1 l2 l3
    · intro go
      refine c_seq ?_
      refine c_reg ?_
      refine s_y (Y_mv) rfl rfl ?_
      refine s_nil ?_
      refine q_then ?_
      refine c_block ?_
      refine c_seq ?_
      refine c_reg ?_
      refine s_y (Y_eql rfl rfl) rfl rfl ?_
      refine s_y (Y_as) rfl rfl ?_
      refine s_nil ?_
      refine q_then ?_
      first | refine c_cond' rfl (fun hc10 => ?_) (fun hc10 => ?_) | refine c_cond rfl (fun hc10 => ?_) (fun hc10 => ?_)
      · skip
        try simp only [nrm_] at hc10
        refine c_seq ?_
        refine c_reg ?_
        refine s_y (Y_mv) rfl rfl ?_
        refine s_y (Y_geq rfl rfl) rfl rfl ?_
        refine s_y (Y_mv) rfl rfl ?_
        apply s_and 7 [57, 58, 59, 60, 61, 62, 63, 64] 64 (g := 57) rfl rfl
        · intro ht3 hm
          try simp only [nrm_] at ht3
          first | refine s_y (Y_mv) rfl rfl ?_ | refine s_pass rfl rfl ?_
          first | refine s_y (Y_mv) rfl rfl ?_ | refine s_pass rfl rfl ?_
          first | refine s_y (Y_ia (n := here.toNat) rfl rfl Tryz.underlying31 sz98 (by omega) (by omega)) rfl rfl ?_ | refine s_pass rfl rfl ?_
          first | refine s_y (Y_fa 0 rfl Tryz.underlying98 rfl sz3 rfl) rfl rfl ?_ | refine s_pass rfl rfl ?_
          first | refine s_y (Y_load (v := iv (igt d.items here).kind) rfl one3 mm_ (iget (iget_of (by omega) (by omega)) rfl)) rfl rfl ?_ | refine s_pass rfl rfl ?_
          first | refine s_y (Y_eql rfl rfl) rfl rfl ?_ | refine s_pass rfl rfl ?_
          refine s_y (Y_pk rfl (Gx.tmp gt_) Gx.const) rfl rfl ?_
          first | exact hm _ ⟨rfl, trivial⟩ rfl | exact QL.sub sl_ (hm _ ⟨rfl, trivial⟩ rfl)
        · intro ht3 hm
          iterate 6 refine s_pass rfl rfl ?_
          refine s_y (Y_pk rfl (Gx.tmp gt_) Gx.const) rfl rfl ?_
          exact hm _ ⟨rfl, trivial⟩ rfl
        intro j64
        refine s_nil ?_
        refine q_then ?_
        first | refine c_cond' rfl (fun hc11 => ?_) (fun hc11 => ?_) | refine c_cond rfl (fun hc11 => ?_) (fun hc11 => ?_)
        · skip
          try simp only [nrm_] at hc11
          refine c_seq ?_
          refine c_reg ?_
          refine s_y (Y_mv) rfl rfl ?_
          refine s_y (Y_mv) rfl rfl ?_
          refine s_y (Y_fa 7 rfl Tryz.underlying34 rfl sz32 rfl) rfl rfl ?_
          refine s_y (Y_iaA (n := k) rfl rfl Tryz.underlying32 sz3 rfl hk) rfl rfl ?_
          refine s_y (Y_load (v := iv (d.gold.get k)) rfl one3 mm_ (wL_gold hk)) rfl rfl ?_
          refine s_y ad_ rfl rfl ?_
          refine s_y (Y_min rfl rfl) rfl rfl ?_
          refine s_y (Y_fa 7 rfl Tryz.underlying34 rfl sz32 rfl) rfl rfl ?_
          refine s_y (Y_iaA (n := k) rfl rfl Tryz.underlying32 sz3 rfl hk) rfl rfl ?_
          refine s_s (S_st (cs' := wL { d with gold := d.gold.set (min (d.gold.get k + 5) 999) k } ⟨cb, 0, cc, eb, 0, ec, ib, 0, ic⟩) rfl gt_ sz3 (by rfl) up_ (wL_put hk) (by simp only [List.length_cons, List.length_nil]; omega)) rfl ?_
          refine s_nil ?_
          refine q_then ?_
          refine c_reg ?_
          refine s_y (Y_mv) rfl rfl ?_
          refine s_y (Y_mv) rfl rfl ?_
          refine s_y (Y_build (cs := [.int .i64 0, .int .i64 0, .int .i64 0, .int .i64 0]) (by repeat (first | exact Gp.nil | apply Gp.const | apply Gp.tmp gt_)) (bld98 _ _ (by first | rfl | (simp; rfl)))) rfl rfl ?_
          refine s_y (Y_ia (n := here.toNat) rfl rfl Tryz.underlying31 sz98 (by omega) (by omega)) rfl rfl ?_
          refine s_s (S_storeN (cs' := icells (d.items.set here.toNat Itm.zero)) rfl rfl sz98 (by rfl) (by rfl) up_ (iall Itm.zero (by omega)) (ble_i (by omega))) rfl ?_
          refine s_nil ?_
          refine q_bn ?_
          refine go { d with gold := d.gold.set (min (d.gold.get k + 5) 999) k, items := d.items.set here.toNat Itm.zero } _ _ ?_ trivial rfl (fun w h => h.pick ss_)
          rw [hdo, if_pos hc10]; unfold pickD; simp only; rw [hhe, if_pos hc11, put_nat, at_nat]
        · skip
          try simp only [nrm_] at hc11
          refine c_seq ?_
          refine c_reg ?_
          refine s_y (Y_mv) rfl rfl ?_
          refine s_y (Y_geq rfl rfl) rfl rfl ?_
          refine s_y (Y_mv) rfl rfl ?_
          apply s_and 3 [80, 81, 82, 83] 83 (g := 80) rfl rfl
          · intro ht3 hm
            try simp only [nrm_] at ht3
            first | refine s_y (Y_mv) rfl rfl ?_ | refine s_pass rfl rfl ?_
            first | refine s_y (Y_geq rfl rfl) rfl rfl ?_ | refine s_pass rfl rfl ?_
            refine s_y (Y_pk rfl (Gx.tmp gt_) Gx.const) rfl rfl ?_
            first | exact hm _ ⟨rfl, trivial⟩ rfl | exact QL.sub sl_ (hm _ ⟨rfl, trivial⟩ rfl)
          · intro ht3 hm
            iterate 2 refine s_pass rfl rfl ?_
            refine s_y (Y_pk rfl (Gx.tmp gt_) Gx.const) rfl rfl ?_
            exact hm _ ⟨rfl, trivial⟩ rfl
          intro j83
          refine s_nil ?_
          refine q_then ?_
          first | refine c_cond' rfl (fun hc14 => ?_) (fun hc14 => ?_) | refine c_cond rfl (fun hc14 => ?_) (fun hc14 => ?_)
          · skip
            try simp only [nrm_] at hc14
            obtain ⟨x, hx⟩ : ∃ q, igt d.items here = q := ⟨_, rfl⟩
            have hxg := iget_of (l := d.items) (r := here) (by omega) (by omega)
            rw [hx] at hxg hc11
            refine c_reg ?_
            refine s_y (Y_mv) rfl rfl ?_
            refine s_y (Y_mv) rfl rfl ?_
            refine s_y (Y_mv) rfl rfl ?_
            refine s_y (Y_mv) rfl rfl ?_
            refine s_y (Y_mv) rfl rfl ?_
            refine s_y (Y_mv) rfl rfl ?_
            refine s_y (Y_mv) rfl rfl ?_
            refine s_y (Y_mv) rfl rfl ?_
            refine s_y (Y_ia (n := here.toNat) rfl rfl Tryz.underlying31 sz98 (by omega) (by omega)) rfl rfl ?_
            refine s_y (Y_fa 1 rfl Tryz.underlying98 rfl sz3 rfl) rfl rfl ?_
            refine s_s (S_stC (cs' := icells (d.items.set here.toNat ⟨x.kind, 2, x.a, x.b⟩)) rfl sz3 (by rfl) up_ (iset ⟨x.kind, 2, x.a, x.b⟩ hxg rfl rfl) (lt_i (by omega) (by decide))) rfl ?_
            refine s_y (Y_ia (n := here.toNat) rfl rfl Tryz.underlying31 sz98 (by omega) (by omega)) rfl rfl ?_
            refine s_y (Y_fa 2 rfl Tryz.underlying98 rfl sz3 rfl) rfl rfl ?_
            refine s_s (S_st (cs' := icells (d.items.set here.toNat ⟨x.kind, 2, k, x.b⟩)) rfl gt_ sz3 (by rfl) up_ (iset2 ⟨x.kind, 2, x.a, x.b⟩ ⟨x.kind, 2, k, x.b⟩ (by omega) rfl rfl) (lt_i (by rw [List.length_set]; omega) (by decide))) rfl ?_
            refine s_y (Y_ia (n := here.toNat) rfl rfl Tryz.underlying31 sz98 (by omega) (by omega)) rfl rfl ?_
            refine s_y (Y_fa 3 rfl Tryz.underlying98 rfl sz3 rfl) rfl rfl ?_
            refine s_s (S_st (cs' := icells (d.items.set here.toNat ⟨x.kind, 2, k, free⟩)) rfl gt_ sz3 (by rfl) up_ (iset2 ⟨x.kind, 2, k, x.b⟩ ⟨x.kind, 2, k, free⟩ (by omega) rfl rfl) (lt_i (by rw [List.length_set]; omega) (by decide))) rfl ?_
            refine s_nil ?_
            refine q_bn ?_
            refine go { d with items := d.items.set here.toNat ⟨x.kind, 2, k, free⟩ } _ _ ?_ trivial rfl (fun w h => h.pick ss_)
            rw [hdo, if_pos hc10]; unfold pickD; simp only; rw [hhe, hfe, hx, if_neg (by omega), if_pos hc14]
          · skip
            try simp only [nrm_] at hc14
            refine c_skip ?_
            refine q_bn ?_
            refine go d _ _ ?_ trivial rfl (fun w h => h.pick ss_)
            rw [hdo, if_pos hc10]; unfold pickD; simp only; rw [hhe, hfe, if_neg (by omega), if_neg (by omega)]
      · skip
        try simp only [nrm_] at hc10
        refine c_seq ?_
        refine c_reg ?_
        refine s_y (Y_eql rfl rfl) rfl rfl ?_
        refine s_y (Y_as) rfl rfl ?_
        refine s_nil ?_
        refine q_then ?_
        first | refine c_cond' rfl (fun hc16 => ?_) (fun hc16 => ?_) | refine c_cond rfl (fun hc16 => ?_) (fun hc16 => ?_)
        · skip
          try simp only [nrm_] at hc16
          refine c_seq ?_
          refine c_reg ?_
          refine s_y (Y_mv) rfl rfl ?_
          refine s_y (Y_mv) rfl rfl ?_
          refine s_c (En_call (fun _ => rfl) Tryz.func139 rfl (by kernel_rfl) rfl) (fun w hH => rpotion_d (iSl hH (b := ib) (c := ic) (l := d.items) mm_ z3 l3)) rfl rfl ?_
          rintro _ _ ⟨rfl, rfl⟩
          refine s_y (Y_as) rfl rfl ?_
          refine s_nil ?_
          refine q_then ?_
          refine c_seq ?_
          refine c_reg ?_
          refine s_y (Y_mv) rfl rfl ?_
          refine s_y (Y_geq rfl rfl) rfl rfl ?_
          refine s_nil ?_
          refine q_then ?_
          first | refine c_cond' rfl (fun hc18 => ?_) (fun hc18 => ?_) | refine c_cond rfl (fun hc18 => ?_) (fun hc18 => ?_)
          · skip
            try simp only [nrm_] at hc18
            refine c_seq ?_
            obtain ⟨i, x, hi, hix, hx1, hx2, hx3, hx4, hx5, hx6⟩ := has_some (l := d.items) (s := k) (f := 1) (t := 1) (by omega)
            have hil := lt_of_get hix
            rw [hi] at hc18 ⊢
            refine c_reg ?_
            refine s_y (Y_mv) rfl rfl ?_
            refine s_y (Y_mv) rfl rfl ?_
            refine s_y (Y_build (cs := [.int .i64 0, .int .i64 0, .int .i64 0, .int .i64 0]) (by repeat (first | exact Gp.nil | apply Gp.const | apply Gp.tmp gt_)) (bld98 _ _ (by first | rfl | (simp; rfl)))) rfl rfl ?_
            refine s_y (Y_ia (n := i) rfl rfl Tryz.underlying31 sz98 rfl (by omega)) rfl rfl ?_
            refine s_s (S_storeN (cs' := icells (d.items.set i Itm.zero)) rfl rfl sz98 (by rfl) (by rfl) up_ (iall Itm.zero (by omega)) (ble_i (by omega))) rfl ?_
            refine s_nil ?_
            refine q_then ?_
            refine c_seq ?_
            refine c_reg ?_
            refine s_y (Y_fa 5 rfl Tryz.underlying34 rfl sz30 rfl) rfl rfl ?_
            refine s_y (yl_ one30) rfl rfl ?_
            refine s_y (Y_mv) rfl rfl ?_
            refine s_y (Y_fa 5 rfl Tryz.underlying93 rfl sz3 rfl) rfl rfl ?_
            refine s_y (yl_ one3) rfl rfl ?_
            refine s_y ad_ rfl rfl ?_
            refine s_y (Y_fa 6 rfl Tryz.underlying93 rfl sz3 rfl) rfl rfl ?_
            refine s_y (yl_ one3) rfl rfl ?_
            refine s_y (Y_min rfl rfl) rfl rfl ?_
            refine s_y (Y_ia (n := r) rfl rfl Tryz.underlying30 sz93 rfl (by omega)) rfl rfl ?_
            refine s_y (Y_fa 5 rfl Tryz.underlying93 rfl sz3 rfl) rfl rfl ?_
            refine s_s (S_st (cs' := ecells (d.ents.set r { e with hp := min (e.hp + 6) e.max })) rfl gt_ sz3 (by rfl) up_ (eset { e with hp := min (e.hp + 6) e.max } he rfl rfl) (lt_e hrl (by decide))) rfl ?_
            refine s_nil ?_
            refine q_then ?_
            refine c_reg ?_
            refine s_y (Y_fa 5 rfl Tryz.underlying34 rfl sz30 rfl) rfl rfl ?_
            refine s_y (yl_ one30) rfl rfl ?_
            refine s_y (Y_mv) rfl rfl ?_
            refine s_y (Y_ia (n := r) rfl rfl Tryz.underlying30 sz93 rfl (by omega)) rfl rfl ?_
            refine s_y (Y_fa 9 rfl Tryz.underlying93 rfl sz3 rfl) rfl rfl ?_
            refine s_s (S_stC (cs' := ecells (d.ents.set r { e with hp := min (e.hp + 6) e.max, poison := 0 })) rfl sz3 (by rfl) up_ (eset2 { e with hp := min (e.hp + 6) e.max } { e with hp := min (e.hp + 6) e.max, poison := 0 } hrl rfl rfl) (lt_e (by rw [List.length_set]; exact hrl) (by decide))) rfl ?_
            refine s_nil ?_
            refine q_bn ?_
            refine go { d with items := d.items.set i Itm.zero, ents := d.ents.set r { e with hp := min (e.hp + 6) e.max, poison := 0 } } _ _ ?_ trivial rfl (fun w h => h.pick ss_)
            rw [hdo, if_neg hc10, if_pos hc16]; unfold useD; simp only; rw [hi, if_pos hc18, Int.toNat_natCast, Int.toNat_natCast]
          · skip
            try simp only [nrm_] at hc18
            refine c_skip ?_
            refine q_bn ?_
            refine go d _ _ ?_ trivial rfl (fun w h => h.pick ss_)
            rw [hdo, if_neg hc10, if_pos hc16]; unfold useD; simp only; rw [if_neg hc18]
        · skip
          try simp only [nrm_] at hc16
          refine c_seq ?_
          refine c_reg ?_
          refine s_y (Y_eql rfl rfl) rfl rfl ?_
          refine s_y (Y_as) rfl rfl ?_
          refine s_nil ?_
          refine q_then ?_
          first | refine c_cond' rfl (fun hc22 => ?_) (fun hc22 => ?_) | refine c_cond rfl (fun hc22 => ?_) (fun hc22 => ?_)
          · skip
            try simp only [nrm_] at hc22
            refine c_seq ?_
            refine c_reg ?_
            refine s_y (Y_mv) rfl rfl ?_
            refine s_y (Y_mv) rfl rfl ?_
            refine s_c (En_call (fun _ => rfl) Tryz.func145 rfl (by kernel_rfl) rfl) (fun w hH => rhas_d (iSl hH (b := ib) (c := ic) (l := d.items) mm_ z3 l3)) rfl rfl ?_
            rintro _ _ ⟨rfl, rfl⟩
            refine s_y (Y_as) rfl rfl ?_
            refine s_nil ?_
            refine q_then ?_
            refine c_seq ?_
            refine c_reg ?_
            refine s_y (Y_mv) rfl rfl ?_
            refine s_y (Y_geq rfl rfl) rfl rfl ?_
            refine s_nil ?_
            refine q_then ?_
            first | refine c_cond' rfl (fun hc24 => ?_) (fun hc24 => ?_) | refine c_cond rfl (fun hc24 => ?_) (fun hc24 => ?_)
            · skip
              try simp only [nrm_] at hc24
              refine c_seq ?_
              obtain ⟨i, x, hi, hix, hx1, hx2, hx3, hx4, hx5, hx6⟩ := has_some (l := d.items) (s := k) (f := 2) (t := 3) (show 0 ≤ hasM d.items k 2 3 by omega)
              have hil := lt_of_get hix
              have hi' : hasF d.items k 2 3 4 0 = i := hi
              rw [show hasM d.items k 2 3 = (i : Int) from hi] at hc24 ⊢
              refine c_reg ?_
              refine s_y (Y_mv) rfl rfl ?_
              refine s_y (Y_mv) rfl rfl ?_
              refine s_y (Y_ia (n := i) rfl rfl Tryz.underlying31 sz98 rfl (by omega)) rfl rfl ?_
              refine s_y (Y_fa 0 rfl Tryz.underlying98 rfl sz3 rfl) rfl rfl ?_
              refine s_y (Y_load (v := iv x.kind) rfl one3 mm_ (iget hix rfl)) rfl rfl ?_
              refine s_y su_ rfl rfl ?_
              refine s_y (Y_as) rfl rfl ?_
              refine s_nil ?_
              refine q_then ?_
              refine c_seq ?_
              refine c_reg ?_
              refine s_y (Y_mv) rfl rfl ?_
              refine s_y (Y_mv) rfl rfl ?_
              refine s_y (Y_mv) rfl rfl ?_
              refine s_c (En_call (fun _ => rfl) Tryz.func103 rfl (by kernel_rfl) rfl) (fun w hH => riin_d (iSl hH (b := ib) (c := ic) (l := d.items) mm_ z3 l3)) rfl rfl ?_
              rintro _ _ ⟨rfl, rfl⟩
              refine s_y (Y_as) rfl rfl ?_
              refine s_nil ?_
              have hwd : wearD d k = if 0 ≤ iIn d.items 3 k (x.kind - 2) then { d with items := (d.items.set (iIn d.items 3 k (x.kind - 2)).toNat { igt d.items (iIn d.items 3 k (x.kind - 2)) with whr := 2, b := x.b }).set i { x with whr := 3, b := x.kind - 2 } } else { d with items := d.items.set i { x with whr := 3, b := x.kind - 2 } } := by
                unfold wearD; simp only
                rw [show hasM d.items k 2 3 = (i : Int) from hi, if_pos hc24, igt_of hix, Int.toNat_natCast]
                split <;> rfl
              have hwo : 0 ≤ iIn d.items 3 k (x.kind - 2) → ∃ (j : Nat) (y : Itm), iIn d.items 3 k (x.kind - 2) = (j : Int) ∧ d.items[j]? = some y ∧ y.whr = 3 ∧ j ≠ i := fun h0 => by
                obtain ⟨j, y, k1, k2, k3, k4, k5⟩ := iIn_some rfl h0
                refine ⟨j, y, k1, k2, k3, fun q => ?_⟩
                subst q
                rw [hix] at k2
                obtain rfl : x = y := by simpa using k2
                omega
              obtain ⟨worn, hwe⟩ : ∃ q, iIn d.items 3 k (x.kind - 2) = q := ⟨_, rfl⟩
              rw [hwe] at hwd hwo ⊢
              refine q_then ?_
              refine c_seq ?_
              refine c_seq ?_
              refine c_reg ?_
              refine s_y (Y_mv) rfl rfl ?_
              refine s_y (Y_geq rfl rfl) rfl rfl ?_
              refine s_nil ?_
              refine q_then ?_
              first | refine c_cond' rfl (fun hc27 => ?_) (fun hc27 => ?_) | refine c_cond rfl (fun hc27 => ?_) (fun hc27 => ?_)
              · skip
                try simp only [nrm_] at hc27
                obtain ⟨j, y, k1, k2, k3, k4⟩ := hwo hc27
                have hjl := lt_of_get k2
                subst k1
                rw [if_pos hc27, igt_of k2, Int.toNat_natCast] at hwd
                refine c_reg ?_
                refine s_y (Y_mv) rfl rfl ?_
                refine s_y (Y_mv) rfl rfl ?_
                refine s_y (Y_mv) rfl rfl ?_
                refine s_y (Y_mv) rfl rfl ?_
                refine s_y (Y_mv) rfl rfl ?_
                refine s_y (Y_mv) rfl rfl ?_
                refine s_y (Y_ia (n := i) rfl rfl Tryz.underlying31 sz98 rfl (by omega)) rfl rfl ?_
                refine s_y (Y_fa 3 rfl Tryz.underlying98 rfl sz3 rfl) rfl rfl ?_
                refine s_y (Y_load (v := iv x.b) rfl one3 mm_ (iget hix rfl)) rfl rfl ?_
                refine s_y (Y_ia (n := j) rfl rfl Tryz.underlying31 sz98 rfl (by omega)) rfl rfl ?_
                refine s_y (Y_fa 1 rfl Tryz.underlying98 rfl sz3 rfl) rfl rfl ?_
                refine s_s (S_stC (cs' := icells (d.items.set j ⟨y.kind, 2, y.a, y.b⟩)) rfl sz3 (by rfl) up_ (iset ⟨y.kind, 2, y.a, y.b⟩ k2 rfl rfl) (lt_i hjl (by decide))) rfl ?_
                refine s_y (Y_ia (n := j) rfl rfl Tryz.underlying31 sz98 rfl (by omega)) rfl rfl ?_
                refine s_y (Y_fa 3 rfl Tryz.underlying98 rfl sz3 rfl) rfl rfl ?_
                refine s_s (S_st (cs' := icells (d.items.set j ⟨y.kind, 2, y.a, x.b⟩)) rfl gt_ sz3 (by rfl) up_ (iset2 ⟨y.kind, 2, y.a, y.b⟩ ⟨y.kind, 2, y.a, x.b⟩ hjl rfl rfl) (lt_i (by rw [List.length_set]; exact hjl) (by decide))) rfl ?_
                refine s_nil ?_
                refine q_then ?_
                have hix2 : (d.items.set j ⟨y.kind, 2, y.a, x.b⟩)[i]? = some x := by rw [List.getElem?_set, if_neg k4]; exact hix
                have hil2 := lt_of_get hix2
                refine c_reg ?_
                refine s_y (Y_mv) rfl rfl ?_
                refine s_y (Y_mv) rfl rfl ?_
                refine s_y (Y_mv) rfl rfl ?_
                refine s_y (Y_mv) rfl rfl ?_
                refine s_y (Y_mv) rfl rfl ?_
                refine s_y (Y_ia (n := i) rfl rfl Tryz.underlying31 sz98 rfl (by omega)) rfl rfl ?_
                refine s_y (Y_fa 1 rfl Tryz.underlying98 rfl sz3 rfl) rfl rfl ?_
                refine s_s (S_stC (cs' := icells ((d.items.set j ⟨y.kind, 2, y.a, x.b⟩).set i ⟨x.kind, 3, x.a, x.b⟩)) rfl sz3 (by rfl) up_ (iset ⟨x.kind, 3, x.a, x.b⟩ hix2 rfl rfl) (lt_i hil2 (by decide))) rfl ?_
                refine s_y (Y_ia (n := i) rfl rfl Tryz.underlying31 sz98 rfl (by omega)) rfl rfl ?_
                refine s_y (Y_fa 3 rfl Tryz.underlying98 rfl sz3 rfl) rfl rfl ?_
                refine s_s (S_st (cs' := icells ((d.items.set j ⟨y.kind, 2, y.a, x.b⟩).set i ⟨x.kind, 3, x.a, x.kind - 2⟩)) rfl gt_ sz3 (by rfl) up_ (iset2 ⟨x.kind, 3, x.a, x.b⟩ ⟨x.kind, 3, x.a, x.kind - 2⟩ hil2 rfl rfl) (lt_i (by rw [List.length_set]; exact hil2) (by decide))) rfl ?_
                refine s_nil ?_
                refine q_bn ?_
                refine go { d with items := (d.items.set j ⟨y.kind, 2, y.a, x.b⟩).set i ⟨x.kind, 3, x.a, x.kind - 2⟩ } _ _ ?_ trivial rfl (fun w h => h.pick ss_)
                rw [hdo, if_neg hc10, if_neg hc16, if_pos hc22, hwd]
              · skip
                try simp only [nrm_] at hc27
                refine c_skip ?_
                refine q_then ?_
                refine c_reg ?_
                refine s_y (Y_mv) rfl rfl ?_
                refine s_y (Y_mv) rfl rfl ?_
                refine s_y (Y_mv) rfl rfl ?_
                refine s_y (Y_mv) rfl rfl ?_
                refine s_y (Y_mv) rfl rfl ?_
                refine s_y (Y_ia (n := i) rfl rfl Tryz.underlying31 sz98 rfl (by omega)) rfl rfl ?_
                refine s_y (Y_fa 1 rfl Tryz.underlying98 rfl sz3 rfl) rfl rfl ?_
                refine s_s (S_stC (cs' := icells (d.items.set i ⟨x.kind, 3, x.a, x.b⟩)) rfl sz3 (by rfl) up_ (iset ⟨x.kind, 3, x.a, x.b⟩ hix rfl rfl) (lt_i hil (by decide))) rfl ?_
                refine s_y (Y_ia (n := i) rfl rfl Tryz.underlying31 sz98 rfl (by omega)) rfl rfl ?_
                refine s_y (Y_fa 3 rfl Tryz.underlying98 rfl sz3 rfl) rfl rfl ?_
                refine s_s (S_st (cs' := icells (d.items.set i ⟨x.kind, 3, x.a, x.kind - 2⟩)) rfl gt_ sz3 (by rfl) up_ (iset2 ⟨x.kind, 3, x.a, x.b⟩ ⟨x.kind, 3, x.a, x.kind - 2⟩ hil rfl rfl) (lt_i (by rw [List.length_set]; exact hil) (by decide))) rfl ?_
                refine s_nil ?_
                refine q_bn ?_
                refine go { d with items := d.items.set i ⟨x.kind, 3, x.a, x.kind - 2⟩ } _ _ ?_ trivial rfl (fun w h => h.pick ss_)
                rw [hdo, if_neg hc10, if_neg hc16, if_pos hc22, hwd, if_neg hc27]
            · skip
              try simp only [nrm_] at hc24
              refine c_skip ?_
              refine q_bn ?_
              refine go d _ _ ?_ trivial rfl (fun w h => h.pick ss_)
              rw [hdo, if_neg hc10, if_neg hc16, if_pos hc22]; unfold wearD; simp only; rw [if_neg hc24]
          · skip
            try simp only [nrm_] at hc22
            refine c_seq ?_
            refine c_reg ?_
            refine s_y (Y_eql rfl rfl) rfl rfl ?_
            refine s_y (Y_as) rfl rfl ?_
            refine s_nil ?_
            refine q_then ?_
            first | refine c_cond' rfl (fun hc30 => ?_) (fun hc30 => ?_) | refine c_cond rfl (fun hc30 => ?_) (fun hc30 => ?_)
            · skip
              try simp only [nrm_] at hc30
              refine c_seq ?_
              refine c_reg ?_
              refine s_y (Y_mv) rfl rfl ?_
              refine s_y (Y_mv) rfl rfl ?_
              refine s_c (En_call (fun _ => rfl) Tryz.func145 rfl (by kernel_rfl) rfl) (fun w hH => rhas_d (iSl hH (b := ib) (c := ic) (l := d.items) mm_ z3 l3)) rfl rfl ?_
              rintro _ _ ⟨rfl, rfl⟩
              refine s_y (Y_as) rfl rfl ?_
              refine s_nil ?_
              refine q_then ?_
              refine c_seq ?_
              refine c_reg ?_
              refine s_y (Y_mv) rfl rfl ?_
              refine s_y (Y_geq rfl rfl) rfl rfl ?_
              refine s_y (Y_mv) rfl rfl ?_
              apply s_and 3 [173, 174, 175, 176] 176 (g := 173) rfl rfl
              · intro ht3 hm
                try simp only [nrm_] at ht3
                first | refine s_y (Y_mv) rfl rfl ?_ | refine s_pass rfl rfl ?_
                first | refine s_y (Y_lss rfl rfl) rfl rfl ?_ | refine s_pass rfl rfl ?_
                refine s_y (Y_pk rfl (Gx.tmp gt_) Gx.const) rfl rfl ?_
                first | exact hm _ ⟨rfl, trivial⟩ rfl | exact QL.sub sl_ (hm _ ⟨rfl, trivial⟩ rfl)
              · intro ht3 hm
                iterate 2 refine s_pass rfl rfl ?_
                refine s_y (Y_pk rfl (Gx.tmp gt_) Gx.const) rfl rfl ?_
                exact hm _ ⟨rfl, trivial⟩ rfl
              intro j176
              refine s_nil ?_
              refine q_then ?_
              first | refine c_cond' rfl (fun hc32 => ?_) (fun hc32 => ?_) | refine c_cond rfl (fun hc32 => ?_) (fun hc32 => ?_)
              · skip
                try simp only [nrm_] at hc32
                obtain ⟨i, x, hi, hix, hx1, hx2, hx3, hx4, hx5, hx6⟩ := has_some (l := d.items) (s := k) (f := 1) (t := 3) (show 0 ≤ hasM d.items k 1 3 by have := hc32.1; exact this)
                have hil := lt_of_get hix
                have hc32' : (0 : Int) ≤ (i : Int) ∧ here < 0 := ⟨by omega, hc32.2⟩
                rw [show hasM d.items k 1 3 = (i : Int) from hi]
                refine c_rordS (L0 := [e1B b8 e]) sl_ [18] [(0, true), (1, true), (2, true), (3, true), (4, true), (5, true), (6, true), (7, true), (8, true), (9, true), (10, true), (11, true), (12, false), (13, true), (14, true), (15, false), (16, true), (17, true), (18, false)] (by kernel_rfl) (by kernel_rfl) (by kernel_rfl) (by kernel_rfl) rfl (by intro c a d v w h; cases d <;> exact h) rfl ?_
                simp only [mkOrd, List.filterMap_cons, List.filterMap_nil, List.getElem?_toArray, List.getElem?_cons_zero, List.getElem?_cons_succ, Option.map_some]
                refine o_y (Y_mv) rfl rfl ?_
                refine o_y (Y_mv) rfl rfl ?_
                refine o_y (Y_mv) rfl rfl ?_
                refine o_y (Y_mv) rfl rfl ?_
                refine o_y (Y_mv) rfl rfl ?_
                refine o_y (Y_mv) rfl rfl ?_
                refine o_y (Y_fa 3 rfl Tryz.underlying93 rfl sz3 rfl) rfl rfl ?_
                refine o_y (yl_ one3) rfl rfl ?_
                refine o_y (Y_fa 4 rfl Tryz.underlying93 rfl sz3 rfl) rfl rfl ?_
                refine o_y (yl_ one3) rfl rfl ?_
                refine o_y (Y_ia (n := i) rfl rfl Tryz.underlying31 sz98 rfl (by omega)) rfl rfl ?_
                refine o_y (Y_fa 1 rfl Tryz.underlying98 rfl sz3 rfl) rfl rfl ?_
                refine o_s (S_stC (cs' := icells (d.items.set i ⟨x.kind, 1, x.a, x.b⟩)) rfl sz3 (by rfl) up_ (iset ⟨x.kind, 1, x.a, x.b⟩ hix rfl rfl) (lt_i hil (by decide))) kp_ rfl ?_
                refine o_y (Y_ia (n := i) rfl rfl Tryz.underlying31 sz98 rfl (by omega)) rfl rfl ?_
                refine o_y (Y_fa 2 rfl Tryz.underlying98 rfl sz3 rfl) rfl rfl ?_
                refine o_s (S_st (cs' := icells (d.items.set i ⟨x.kind, 1, e.x, x.b⟩)) rfl gt_ sz3 (by rfl) up_ (iset2 ⟨x.kind, 1, x.a, x.b⟩ ⟨x.kind, 1, e.x, x.b⟩ hil rfl rfl) (lt_i (by rw [List.length_set]; exact hil) (by decide))) kp_ rfl ?_
                refine o_y (Y_ia (n := i) rfl rfl Tryz.underlying31 sz98 rfl (by omega)) rfl rfl ?_
                refine o_y (Y_fa 3 rfl Tryz.underlying98 rfl sz3 rfl) rfl rfl ?_
                refine o_s (S_st (cs' := icells (d.items.set i ⟨x.kind, 1, e.x, e.y⟩)) rfl gt_ sz3 (by rfl) up_ (iset2 ⟨x.kind, 1, e.x, x.b⟩ ⟨x.kind, 1, e.x, e.y⟩ hil rfl rfl) (lt_i (by rw [List.length_set]; exact hil) (by decide))) kp_ rfl ?_
                refine o_nil ?_
                refine q_bn ?_
                refine go { d with items := d.items.set i ⟨x.kind, 1, e.x, e.y⟩ } _ _ ?_ trivial rfl (fun w h => h.pick ss_)
                rw [hdo, if_neg hc10, if_neg hc16, if_neg hc22, if_pos hc30]; unfold dropD; simp only; rw [hhe, hi, if_pos hc32', igt_of hix, Int.toNat_natCast]
              · skip
                try simp only [nrm_] at hc32
                refine c_skip ?_
                refine q_bn ?_
                refine go d _ _ ?_ trivial rfl (fun w h => h.pick ss_)
                rw [hdo, if_neg hc10, if_neg hc16, if_neg hc22, if_pos hc30]; unfold dropD; simp only; rw [hhe, if_neg (fun h => by rcases hc32 with q | q; exact q h.1; exact q h.2)]
            · skip
              try simp only [nrm_] at hc30
              refine c_seq ?_
              refine c_reg ?_
              refine s_y (Y_eql rfl rfl) rfl rfl ?_
              refine s_y (Y_as) rfl rfl ?_
              refine s_nil ?_
              refine q_then ?_
              first | refine c_cond' rfl (fun hc34 => ?_) (fun hc34 => ?_) | refine c_cond rfl (fun hc34 => ?_) (fun hc34 => ?_)
              · skip
                try simp only [nrm_] at hc34
                refine c_seq ?_
                refine c_reg ?_
                refine s_y (Y_asC) rfl rfl ?_
                refine s_nil ?_
                refine q_then ?_
                refine c_seq ?_
                refine c_seq ?_
                refine c_reg ?_
                refine s_y (Y_asC) rfl rfl ?_
                refine s_nil ?_
                refine q_then ?_
                refine c_block ?_
                refine c_loop [17, 18, 195, 196, 197, 198, 199, 200, 201, 202, 203, 204, 205] (fun m (y : Nat × Int) => y.1 + m = 3 ∧ (y.2 < 0 → shelfF d.items m y.1 = shelfF d.items 3 0) ∧ (0 ≤ y.2 → y.2 = shelfF d.items 3 0)) (fun y => [(18, iv y.1), (17, iv y.2)]) (fun _ => [e1B b8 e, cB cb cc d.cells, eB eb ec d.ents, iB ib ic d.items, wB b6 wz, wB b3 (wL d ⟨cb, 0, cc, eb, 0, ec, ib, 0, ic⟩)]) (3) ((0, -1)) (⟨rfl, fun _ => rfl, fun h => absurd h (by simp only; decide)⟩) (by repeat (first | exact trivial | refine ⟨rfl, ?_⟩)) (fun _ h => h.sub sl_) (fun _ => rfl) ?_
                rintro m ⟨q, i⟩ j ⟨hq, hf1, hf2⟩ K hK
                simp only at hq hf1 hf2 ⊢
                refine c_seq ?_
                refine c_seq ?_
                refine c_reg ?_
                refine s_y (Y_mv) rfl rfl ?_
                refine s_y (Y_lss rfl rfl) rfl rfl ?_
                refine s_y (Y_mv) rfl rfl ?_
                apply s_and 3 [197, 198, 199, 200] 200 (g := 197) rfl rfl
                · intro ht3 hm
                  try simp only [nrm_] at ht3
                  first | refine s_y (Y_mv) rfl rfl ?_ | refine s_pass rfl rfl ?_
                  first | refine s_y (Y_lss rfl rfl) rfl rfl ?_ | refine s_pass rfl rfl ?_
                  refine s_y (Y_pk rfl (Gx.tmp gt_) Gx.const) rfl rfl ?_
                  first | exact hm _ ⟨rfl, trivial⟩ rfl | exact QL.sub sl_ (hm _ ⟨rfl, trivial⟩ rfl)
                · intro ht3 hm
                  iterate 2 refine s_pass rfl rfl ?_
                  refine s_y (Y_pk rfl (Gx.tmp gt_) Gx.const) rfl rfl ?_
                  exact hm _ ⟨rfl, trivial⟩ rfl
                intro j200
                refine s_nil ?_
                refine q_then ?_
                first | refine c_cond' rfl (fun hc37 => ?_) (fun hc37 => ?_) | refine c_cond rfl (fun hc37 => ?_) (fun hc37 => ?_)
                · skip
                  try simp only [nrm_] at hc37
                  refine c_skip ?_
                  refine q_then ?_
                  refine c_seq ?_
                  refine c_block ?_
                  refine c_reg ?_
                  refine s_y (Y_mv) rfl rfl ?_
                  refine s_y (Y_mv) rfl rfl ?_
                  refine s_c (En_call (fun _ => rfl) Tryz.func103 rfl (by kernel_rfl) rfl) (fun w hH => riin_d (iSl hH (b := ib) (c := ic) (l := d.items) mm_ z3 l3)) rfl rfl ?_
                  rintro _ _ ⟨rfl, rfl⟩
                  refine s_y (Y_as) rfl rfl ?_
                  refine s_nil ?_
                  refine q_bn ?_
                  refine q_then ?_
                  refine c_reg ?_
                  refine s_y (Y_mv) rfl rfl ?_
                  refine s_y ad_ rfl rfl ?_
                  refine s_y (Y_as) rfl rfl ?_
                  refine s_nil ?_
                  have hst := shelf_step (l := d.items) (m := m) (k := (q : Int)) (by omega)
                  have hf := hf1 (by omega)
                  rw [hst] at hf
                  refine hK (m - 1) (q + 1, iIn d.items 4 q 0) _ _ (by omega) ⟨by simp only; omega, fun h => ?_, fun h => ?_⟩ ⟨rfl, rfl, trivial⟩ rfl (fun _ h => h)
                  · simp only at h ⊢; rw [if_neg (by omega)] at hf; exact hf
                  · simp only at h ⊢; rw [if_pos h] at hf; exact hf
                · skip
                  try simp only [nrm_] at hc37
                  refine c_exit ?_
                  repeat with_reducible refine q_te ?_
                  refine q_exit ?_
                  refine q_then ?_
                  refine c_seq ?_
                  have hsf : (0 ≤ i ∧ i = shelfF d.items 3 0) ∨ (i < 0 ∧ shelfF d.items 3 0 < 0) := by
                    by_cases h0 : 0 ≤ i
                    · exact .inl ⟨h0, hf2 h0⟩
                    · have := hf1 (by omega)
                      rw [show m = 0 by omega] at this
                      exact .inr ⟨by omega, by rw [← this]; exact Int.negSucc_lt_zero 0⟩
                  refine c_reg ?_
                  refine s_y (Y_fa 4 rfl Tryz.underlying34 rfl sz24 rfl) rfl rfl ?_
                  refine s_y (yl_ one24) rfl rfl ?_
                  refine s_y (Y_fa 3 rfl Tryz.underlying93 rfl sz3 rfl) rfl rfl ?_
                  refine s_y (yl_ one3) rfl rfl ?_
                  refine s_y (Y_fa 4 rfl Tryz.underlying93 rfl sz3 rfl) rfl rfl ?_
                  refine s_y (yl_ one3) rfl rfl ?_
                  refine s_c (En_call (fun _ => rfl) Tryz.func91 rfl (by kernel_rfl) rfl) (fun w hH => rat_d (cSl hH (b := cb) (c := cc) (l := d.cells) mm_ z1 l1)) rfl rfl ?_
                  rintro _ _ ⟨rfl, rfl⟩
                  refine s_y (Y_eql rfl rfl) rfl rfl ?_
                  refine s_y (Y_mv) rfl rfl ?_
                  apply s_and 6 [214, 215, 216, 217, 218, 219, 220] 220 (g := 214) rfl rfl
                  · intro ht9 hm
                    try simp only [nrm_] at ht9
                    first | refine s_y (Y_mv) rfl rfl ?_ | refine s_pass rfl rfl ?_
                    first | refine s_y (Y_fa 7 rfl Tryz.underlying34 rfl sz32 rfl) rfl rfl ?_ | refine s_pass rfl rfl ?_
                    first | refine s_y (Y_iaA (n := k) rfl rfl Tryz.underlying32 sz3 rfl hk) rfl rfl ?_ | refine s_pass rfl rfl ?_
                    first | refine s_y (Y_load (v := iv (d.gold.get k)) rfl one3 mm_ (wL_gold hk)) rfl rfl ?_ | refine s_pass rfl rfl ?_
                    first | refine s_y (Y_geq rfl rfl) rfl rfl ?_ | refine s_pass rfl rfl ?_
                    refine s_y (Y_pk rfl (Gx.tmp gt_) Gx.const) rfl rfl ?_
                    first | exact hm _ ⟨rfl, trivial⟩ rfl | exact QL.sub sl_ (hm _ ⟨rfl, trivial⟩ rfl)
                  · intro ht9 hm
                    iterate 5 refine s_pass rfl rfl ?_
                    refine s_y (Y_pk rfl (Gx.tmp gt_) Gx.const) rfl rfl ?_
                    exact hm _ ⟨rfl, trivial⟩ rfl
                  intro j220
                  refine s_y (Y_mv) rfl rfl ?_
                  apply s_and 3 [221, 222, 223, 224] 224 (g := 221) rfl rfl
                  · intro ht16 hm
                    try simp only [nrm_] at ht16
                    first | refine s_y (Y_mv) rfl rfl ?_ | refine s_pass rfl rfl ?_
                    first | refine s_y (Y_geq rfl rfl) rfl rfl ?_ | refine s_pass rfl rfl ?_
                    refine s_y (Y_pk rfl (Gx.tmp gt_) Gx.const) rfl rfl ?_
                    first | exact hm _ ⟨rfl, trivial⟩ rfl | exact QL.sub sl_ (hm _ ⟨rfl, trivial⟩ rfl)
                  · intro ht16 hm
                    iterate 2 refine s_pass rfl rfl ?_
                    refine s_y (Y_pk rfl (Gx.tmp gt_) Gx.const) rfl rfl ?_
                    exact hm _ ⟨rfl, trivial⟩ rfl
                  intro j224
                  refine s_y (Y_mv) rfl rfl ?_
                  apply s_and 3 [225, 226, 227, 228] 228 (g := 225) rfl rfl
                  · intro ht20 hm
                    try simp only [nrm_] at ht20
                    first | refine s_y (Y_mv) rfl rfl ?_ | refine s_pass rfl rfl ?_
                    first | refine s_y (Y_geq rfl rfl) rfl rfl ?_ | refine s_pass rfl rfl ?_
                    refine s_y (Y_pk rfl (Gx.tmp gt_) Gx.const) rfl rfl ?_
                    first | exact hm _ ⟨rfl, trivial⟩ rfl | exact QL.sub sl_ (hm _ ⟨rfl, trivial⟩ rfl)
                  · intro ht20 hm
                    iterate 2 refine s_pass rfl rfl ?_
                    refine s_y (Y_pk rfl (Gx.tmp gt_) Gx.const) rfl rfl ?_
                    exact hm _ ⟨rfl, trivial⟩ rfl
                  intro j228
                  refine s_nil ?_
                  refine q_then ?_
                  first | refine c_cond' rfl (fun hc40 => ?_) (fun hc40 => ?_) | refine c_cond rfl (fun hc40 => ?_) (fun hc40 => ?_)
                  · skip
                    try simp only [nrm_] at hc40
                    refine c_seq ?_
                    obtain ⟨p, x, hp, hpx, hp4⟩ := (shelfF_some (l := d.items) 3 0 (by omega)).resolve_left (by omega)
                    have hpl := lt_of_get hpx
                    obtain rfl : i = (p : Int) := by omega
                    refine c_reg ?_
                    refine s_y (Y_mv) rfl rfl ?_
                    refine s_y (Y_mv) rfl rfl ?_
                    refine s_y (Y_mv) rfl rfl ?_
                    refine s_y (Y_mv) rfl rfl ?_
                    refine s_y (Y_mv) rfl rfl ?_
                    refine s_y (Y_mv) rfl rfl ?_
                    refine s_y (Y_mv) rfl rfl ?_
                    refine s_y (Y_mv) rfl rfl ?_
                    refine s_y (Y_ia (n := p) rfl rfl Tryz.underlying31 sz98 rfl (by omega)) rfl rfl ?_
                    refine s_y (Y_fa 1 rfl Tryz.underlying98 rfl sz3 rfl) rfl rfl ?_
                    refine s_s (S_stC (cs' := icells (d.items.set p ⟨x.kind, 2, x.a, x.b⟩)) rfl sz3 (by rfl) up_ (iset ⟨x.kind, 2, x.a, x.b⟩ hpx rfl rfl) (lt_i hpl (by decide))) rfl ?_
                    refine s_y (Y_ia (n := p) rfl rfl Tryz.underlying31 sz98 rfl (by omega)) rfl rfl ?_
                    refine s_y (Y_fa 2 rfl Tryz.underlying98 rfl sz3 rfl) rfl rfl ?_
                    refine s_s (S_st (cs' := icells (d.items.set p ⟨x.kind, 2, k, x.b⟩)) rfl gt_ sz3 (by rfl) up_ (iset2 ⟨x.kind, 2, x.a, x.b⟩ ⟨x.kind, 2, k, x.b⟩ hpl rfl rfl) (lt_i (by rw [List.length_set]; exact hpl) (by decide))) rfl ?_
                    refine s_y (Y_ia (n := p) rfl rfl Tryz.underlying31 sz98 rfl (by omega)) rfl rfl ?_
                    refine s_y (Y_fa 3 rfl Tryz.underlying98 rfl sz3 rfl) rfl rfl ?_
                    refine s_s (S_st (cs' := icells (d.items.set p ⟨x.kind, 2, k, free⟩)) rfl gt_ sz3 (by rfl) up_ (iset2 ⟨x.kind, 2, k, x.b⟩ ⟨x.kind, 2, k, free⟩ hpl rfl rfl) (lt_i (by rw [List.length_set]; exact hpl) (by decide))) rfl ?_
                    refine s_nil ?_
                    refine q_then ?_
                    refine c_reg ?_
                    refine s_y (Y_mv) rfl rfl ?_
                    refine s_y (Y_mv) rfl rfl ?_
                    refine s_y (Y_fa 7 rfl Tryz.underlying34 rfl sz32 rfl) rfl rfl ?_
                    refine s_y (Y_iaA (n := k) rfl rfl Tryz.underlying32 sz3 rfl hk) rfl rfl ?_
                    refine s_y (Y_load (v := iv (d.gold.get k)) rfl one3 mm_ (wL_gold hk)) rfl rfl ?_
                    refine s_y su_ rfl rfl ?_
                    refine s_y (Y_fa 7 rfl Tryz.underlying34 rfl sz32 rfl) rfl rfl ?_
                    refine s_y (Y_iaA (n := k) rfl rfl Tryz.underlying32 sz3 rfl hk) rfl rfl ?_
                    refine s_s (S_st (cs' := wL { d with gold := d.gold.set (d.gold.get k - 5) k } ⟨cb, 0, cc, eb, 0, ec, ib, 0, ic⟩) rfl gt_ sz3 (by rfl) up_ (wL_put hk) (by simp only [List.length_cons, List.length_nil]; omega)) rfl ?_
                    refine s_nil ?_
                    refine q_bn ?_
                    refine go { d with items := d.items.set p ⟨x.kind, 2, k, free⟩, gold := d.gold.set (d.gold.get k - 5) k } _ _ ?_ trivial rfl (fun w h => h.pick ss_)
                    rw [hdo, if_neg hc10, if_neg hc16, if_neg hc22, if_neg hc30, if_pos hc34]; unfold buyD; simp only; rw [hfe, hp, at_nat, if_pos (by omega), igt_of hpx, Int.toNat_natCast, put_nat]
                  · skip
                    try simp only [nrm_] at hc40
                    refine c_skip ?_
                    refine q_bn ?_
                    refine go d _ _ ?_ trivial rfl (fun w h => h.pick ss_)
                    rw [hdo, if_neg hc10, if_neg hc16, if_neg hc22, if_neg hc30, if_pos hc34]; unfold buyD; simp only; rw [hfe, at_nat, if_neg (by omega)]
              · skip
                try simp only [nrm_] at hc34
                refine c_skip ?_
                refine q_bn ?_
                refine go d _ _ ?_ trivial rfl (fun w h => h.pick ss_)
                rw [hdo, if_neg hc10, if_neg hc16, if_neg hc22, if_neg hc30, if_neg hc34]
end
end Go.Proofs.YtcogbkkdccohfaaGreat
namespace Go.Ad
open Go.RowKit Go.Maps Go.Proofs.YtcogbkkdccohfaaGreat
theorem eget_of {l : List Ent} {r : Int} (h : 0 ≤ r) (hl : r < l.length) : l[r.toNat]? = some (egt l r) := by
  unfold egt
  rw [if_pos h, List.getD_eq_getElem?_getD, List.getElem?_eq_getElem (by omega)]; rfl
theorem egt_out {l : List Ent} {r : Int} (h : ¬ (0 ≤ r ∧ r < l.length)) : (egt l r).kind = 0 := by
  unfold egt
  split
  · rw [List.getD_eq_getElem?_getD, List.getElem?_eq_none (by omega)]; rfl
  · rfl
theorem set_same {α : Type} {l : List α} {i : Nat} {a : α} (h : l[i]? = some a) : l.set i a = l := by
  obtain ⟨hi, rfl⟩ := List.getElem?_eq_some_iff.1 h
  exact List.set_getElem_self _
theorem stats_low (k : Int) : (statsM k).max ≤ 20 ∧ (statsM k).atk ≤ 5 ∧ 0 ≤ (statsM k).atk ∧ (statsM k).df ≤ 1 ∧ 0 ≤ (statsM k).df := by have := stats_rng k; omega
theorem bon_rng (l : List Itm) (s : Int) : 0 ≤ bonA l s ∧ bonA l s ≤ 3 ∧ 0 ≤ bonD l s ∧ bonD l s ≤ 2 := by
  unfold bonA bonD
  repeat' split
  all_goals omega
end Go.Ad
namespace Go.Proofs.YtcogbkkdccohfaaGreat
open Go.RowKit Go.Ad Go.Maps
set_option linter.unusedVariables false
set_option linter.unusedSimpArgs false
section
variable {W : World}
set_option maxRecDepth 100000 in
theorem rthere_d {d : Wd} {s : Ws} (hw : WL W d s) {k : Int} : Does Tryz.prog 150 [.agg (wL d s).toArray, iv k] W [] (fun v L => v = .bool (decide ((egt d.ents k).kind ≠ 0)) ∧ L = []) := by
  obtain ⟨z1, z2, z3⟩ := hw.sz
  refine enter Tryz.func150 rfl rfl rfl (Has.start _) ?_
  refine c_seq ?_
  refine c_reg ?_
  refine s_n (N_box (cs := wL d s) rfl) rfl rfl (fun b2 _ => ?_)
  refine s_y (Y_asC) rfl rfl ?_
  refine s_nil ?_
  refine q_then ?_
  refine c_seq ?_
  refine c_reg ?_
  refine s_y (Y_mv) rfl rfl ?_
  refine s_y (Y_geq rfl rfl) rfl rfl ?_
  refine s_y (Y_mv) rfl rfl ?_
  apply s_and 6 [7, 8, 9, 10, 11, 12, 13] 13 (g := 7) rfl rfl
  · intro ht3 hm
    try simp only [nrm_] at ht3
    first | refine s_y (Y_mv) rfl rfl ?_ | refine s_pass rfl rfl ?_
    first | refine s_y (Y_fa 5 rfl Tryz.underlying34 rfl sz30 rfl) rfl rfl ?_ | refine s_pass rfl rfl ?_
    first | refine s_y (yl_ one30) rfl rfl ?_ | refine s_pass rfl rfl ?_
    first | refine s_y (Y_len rfl rfl Tryz.underlying30) rfl rfl ?_ | refine s_pass rfl rfl ?_
    first | refine s_y (Y_lss rfl rfl) rfl rfl ?_ | refine s_pass rfl rfl ?_
    refine s_y (Y_pk rfl (Gx.tmp gt_) Gx.const) rfl rfl ?_
    first | exact hm _ ⟨rfl, trivial⟩ rfl | exact QL.sub sl_ (hm _ ⟨rfl, trivial⟩ rfl)
  · intro ht3 hm
    iterate 5 refine s_pass rfl rfl ?_
    refine s_y (Y_pk rfl (Gx.tmp gt_) Gx.const) rfl rfl ?_
    exact hm _ ⟨rfl, trivial⟩ rfl
  intro j13
  refine s_y (Y_mv) rfl rfl ?_
  apply s_and 8 [14, 15, 16, 17, 18, 19, 20, 21, 22] 22 (g := 14) rfl rfl
  · intro ht10 hm
    try simp only [nrm_] at ht10
    first | refine s_y (Y_fa 5 rfl Tryz.underlying34 rfl sz30 rfl) rfl rfl ?_ | refine s_pass rfl rfl ?_
    first | refine s_y (yl_ one30) rfl rfl ?_ | refine s_pass rfl rfl ?_
    first | refine s_y (Y_mv) rfl rfl ?_ | refine s_pass rfl rfl ?_
    first | refine s_y (Y_ia (n := k.toNat) rfl rfl Tryz.underlying30 sz93 (by omega) (by omega)) rfl rfl ?_ | refine s_pass rfl rfl ?_
    first | refine s_y (Y_fa 0 rfl Tryz.underlying93 rfl sz3 rfl) rfl rfl ?_ | refine s_pass rfl rfl ?_
    first | refine s_y (Y_loadR (v := iv (egt d.ents k).kind) (i := 0) rfl one3 (hw.e.at' Ent.len (eget_of (by omega) (by omega))) rfl rfl) rfl rfl ?_ | refine s_pass rfl rfl ?_
    first | refine s_y (Y_neq rfl rfl) rfl rfl ?_ | refine s_pass rfl rfl ?_
    refine s_y (Y_pk rfl (Gx.tmp gt_) Gx.const) rfl rfl ?_
    first | exact hm _ ⟨rfl, trivial⟩ rfl | exact QL.sub sl_ (hm _ ⟨rfl, trivial⟩ rfl)
  · intro ht10 hm
    iterate 7 refine s_pass rfl rfl ?_
    refine s_y (Y_pk rfl (Gx.tmp gt_) Gx.const) rfl rfl ?_
    exact hm _ ⟨rfl, trivial⟩ rfl
  intro j22
  refine s_y (Y_as) rfl rfl ?_
  refine s_nil ?_
  refine q_then ?_
  refine c_ret ?_
  refine q_retG1 rfl gt_ (L' := _) sl_ (⟨by
      congr 1
      rw [Bool.eq_iff_iff]
      simp only [nrm_]
      constructor
      · exact fun h => h.2
      · intro h
        by_cases h0 : 0 ≤ k ∧ k < d.ents.length
        · exact ⟨⟨h0.1, by omega⟩, h⟩
        · exact absurd (egt_out h0) h, rfl⟩)
set_option maxRecDepth 100000 in
theorem rhurt_d {d : Wd} {s : Ws} (hw : WL W d s) (hv : VW d) {r n : Int} : Does Tryz.prog 151 [.agg (wL d s).toArray, iv r, iv n] W [] (WN (hurtM d r n)) := by
  obtain ⟨z1, z2, z3⟩ := hw.sz
  refine enter Tryz.func151 rfl rfl rfl (Has.start _) ?_
  refine c_seq ?_
  refine c_reg ?_
  refine s_n (N_box (cs := wL d s) rfl) rfl rfl (fun b3 _ => ?_)
  refine s_n (N_alloc (z := .agg #[.int .i64 0, .int .i64 0, .int .i64 0, .int .i64 0, .slice none 0 0, .slice none 0 0, .slice none 0 0, .int .i64 0, .int .i64 0, .int .i64 0, .int .i64 0]) (cs := [.int .i64 0, .int .i64 0, .int .i64 0, .int .i64 0, .slice none 0 0, .slice none 0 0, .slice none 0 0, .int .i64 0, .int .i64 0, .int .i64 0, .int .i64 0]) zv34 rfl) rfl rfl (fun b6 _ => ?_)
  refine s_nil ?_
  refine q_then ?_
  refine c_seq ?_
  refine c_reg ?_
  refine s_y (ya_ many34) rfl rfl ?_
  refine s_c (En_call (fun _ => rfl) Tryz.func51 rfl (by kernel_rfl) rfl) (fun w hH => rtwin_d (hw.has hH)) rfl rfl ?_
  rintro _ _ ⟨cb, cc, eb, ec, ib, ic, rfl, rfl, l1, l2, l3⟩
  refine s_s (S_storeA (vs := wL d ⟨cb, 0, cc, eb, 0, ec, ib, 0, ic⟩) rfl rfl sz34 (by rfl) (by rfl) up_ (by rfl)) rfl ?_
  refine s_nil ?_
  refine q_then ?_
  refine c_seq ?_
  refine c_seq ?_
  refine c_reg ?_
  refine s_y (ya_ many34) rfl rfl ?_
  refine s_y (Y_mv) rfl rfl ?_
  refine s_c (En_call (fun _ => rfl) Tryz.func150 rfl (by kernel_rfl) rfl) (fun w hH => rthere_d (wl_of hH ⟨z1, z2, z3⟩ (cb := cb) (cc := cc) (eb := eb) (ec := ec) (ib := ib) (ic := ic) mm_ mm_ mm_ l1 l2 l3)) rfl rfl ?_
  rintro _ _ ⟨rfl, rfl⟩
  refine s_y (Y_not rfl) rfl rfl ?_
  refine s_y (Y_mv) rfl rfl ?_
  apply s_or 3 [14, 15, 16, 17] 17 (g := 14) rfl rfl
  · intro ht5 hm
    try simp only [nrm_] at ht5
    first | refine s_y (Y_mv) rfl rfl ?_ | refine s_pass rfl rfl ?_
    first | refine s_y (Y_lss rfl rfl) rfl rfl ?_ | refine s_pass rfl rfl ?_
    refine s_y (Y_pk rfl Gx.const (Gx.tmp gt_)) rfl rfl ?_
    first | exact hm _ ⟨rfl, trivial⟩ rfl | exact QL.sub sl_ (hm _ ⟨rfl, trivial⟩ rfl)
  · intro ht5 hm
    iterate 2 refine s_pass rfl rfl ?_
    refine s_y (Y_pk rfl Gx.const (Gx.tmp gt_)) rfl rfl ?_
    exact hm _ ⟨rfl, trivial⟩ rfl
  intro j17
  refine s_nil ?_
  refine q_then ?_
  first | refine c_cond' rfl (fun hc2 => ?_) (fun hc2 => ?_) | refine c_cond rfl (fun hc2 => ?_) (fun hc2 => ?_)
  · skip
    try simp only [nrm_] at hc2
    refine c_seq ?_
    rw [show hurtM d r n = d by unfold hurtM; simp only; rw [if_pos (by omega)]]
    refine c_reg ?_
    refine s_y (ya_ many34) rfl rfl ?_
    refine s_s ((sa_ sz34)) rfl ?_
    refine s_nil ?_
    refine q_then ?_
    refine c_ret ?_
    refine q_retW rfl rfl many34 ss_ l1 l2 l3
  · skip
    try simp only [nrm_] at hc2
    refine c_skip ?_
    refine q_then ?_
    refine c_seq ?_
    obtain ⟨i, rfl, he⟩ := egt_some (l := d.ents) (r := r) (by omega)
    obtain ⟨e, hee⟩ : ∃ q, egt d.ents (i : Int) = q := ⟨_, rfl⟩
    have hhu : hurtM d i n = if n < e.hp then { d with ents := d.ents.set i { e with hp := e.hp - n } } else if e.kind = 1 then sweepM { d with ents := freeE d.ents i } e.seat else { d with ents := freeE d.ents i } := by
      unfold hurtM; simp only; rw [if_neg (by omega), hee, Int.toNat_natCast]
    rw [hee] at he hc2
    have hil := lt_of_get he
    have her := hv.ev.rowOf he (by omega)
    have hep := her.hp
    have hst := stats_low e.kind
    have hmx := her.st.1
    refine c_reg ?_
    refine s_y (Y_fa 5 rfl Tryz.underlying34 rfl sz30 rfl) rfl rfl ?_
    refine s_y (yl_ one30) rfl rfl ?_
    refine s_y (Y_mv) rfl rfl ?_
    refine s_y (Y_ia (n := i) rfl rfl Tryz.underlying30 sz93 rfl (by omega)) rfl rfl ?_
    refine s_y (Y_loadN (vs := e.cells) rfl many93 mm_ (by rfl) (egetN he)) rfl rfl ?_
    refine s_n (N_alloc (z := .agg #[.int .i64 0, .int .i64 0, .int .i64 0, .int .i64 0, .int .i64 0, .int .i64 0, .int .i64 0, .int .i64 0, .int .i64 0, .int .i64 0, .int .i64 0]) (cs := [.int .i64 0, .int .i64 0, .int .i64 0, .int .i64 0, .int .i64 0, .int .i64 0, .int .i64 0, .int .i64 0, .int .i64 0, .int .i64 0, .int .i64 0]) zv93 rfl) rfl rfl (fun b7 _ => ?_)
    refine s_s (S_storeA (vs := e.cells) rfl rfl sz93 (by rfl) (by rfl) up_ (by rfl)) rfl ?_
    refine s_nil ?_
    refine q_then ?_
    refine c_seq ?_
    refine c_seq ?_
    refine c_reg ?_
    refine s_y (Y_mv) rfl rfl ?_
    refine s_y (Y_fa 5 rfl Tryz.underlying93 rfl sz3 rfl) rfl rfl ?_
    refine s_y (yl_ one3) rfl rfl ?_
    refine s_y (Y_lss rfl rfl) rfl rfl ?_
    refine s_nil ?_
    refine q_then ?_
    first | refine c_cond' rfl (fun hc5 => ?_) (fun hc5 => ?_) | refine c_cond rfl (fun hc5 => ?_) (fun hc5 => ?_)
    · skip
      try simp only [nrm_] at hc5
      refine c_seq ?_
      refine c_reg ?_
      refine s_y (Y_fa 5 rfl Tryz.underlying34 rfl sz30 rfl) rfl rfl ?_
      refine s_y (yl_ one30) rfl rfl ?_
      refine s_y (Y_mv) rfl rfl ?_
      refine s_y (Y_fa 5 rfl Tryz.underlying93 rfl sz3 rfl) rfl rfl ?_
      refine s_y (yl_ one3) rfl rfl ?_
      refine s_y (Y_mv) rfl rfl ?_
      refine s_y su_ rfl rfl ?_
      refine s_y (Y_ia (n := i) rfl rfl Tryz.underlying30 sz93 rfl (by omega)) rfl rfl ?_
      refine s_y (Y_fa 5 rfl Tryz.underlying93 rfl sz3 rfl) rfl rfl ?_
      refine s_s (S_st (cs' := ecells (d.ents.set i { e with hp := e.hp - n })) rfl gt_ sz3 (by rfl) up_ (eset { e with hp := e.hp - n } he rfl rfl) (lt_e hil (by decide))) rfl ?_
      refine s_nil ?_
      refine q_then ?_
      refine c_seq ?_
      rw [hhu, if_pos hc5]
      refine c_reg ?_
      refine s_y (ya_ many34) rfl rfl ?_
      refine s_s ((sa_ sz34)) rfl ?_
      refine s_nil ?_
      refine q_then ?_
      refine c_ret ?_
      refine q_retW rfl rfl many34 ss_ l1 l2 l3
    · skip
      try simp only [nrm_] at hc5
      refine c_skip ?_
      refine q_then ?_
      refine c_seq ?_
      refine c_reg ?_
      refine s_y (Y_fa 5 rfl Tryz.underlying34 rfl sz30 rfl) rfl rfl ?_
      refine s_y (yl_ one30) rfl rfl ?_
      refine s_y (Y_mv) rfl rfl ?_
      refine s_c (En_call (fun _ => rfl) Tryz.func152 rfl (by kernel_rfl) rfl) (fun w hH => rfree_d (eSl hH (b := eb) (c := ec) (l := d.ents) mm_ z2 l2) (by omega) (by omega)) rfl rfl ?_
      rintro _ _ ⟨fb, fc, rfl, l4, rfl⟩
      refine s_y (Y_fa 5 rfl Tryz.underlying34 rfl sz30 rfl) rfl rfl ?_
      refine s_s (S_st (cs' := wL d ⟨cb, 0, cc, fb, 0, fc, ib, 0, ic⟩) rfl gt_ sz30 (by rfl) up_ (by rfl) (by simp only [List.length_cons, List.length_nil]; omega)) rfl ?_
      refine s_nil ?_
      refine q_then ?_
      refine c_seq ?_
      refine c_seq ?_
      have hfl : (freeE d.ents i).length = 32 := by unfold Go.Ad.freeE; split <;> simp [z2]
      refine c_reg ?_
      refine s_y (Y_fa 0 rfl Tryz.underlying93 rfl sz3 rfl) rfl rfl ?_
      refine s_y (yl_ one3) rfl rfl ?_
      refine s_y (Y_eql rfl rfl) rfl rfl ?_
      refine s_nil ?_
      refine q_then ?_
      first | refine c_cond' rfl (fun hc9 => ?_) (fun hc9 => ?_) | refine c_cond rfl (fun hc9 => ?_) (fun hc9 => ?_)
      · skip
        try simp only [nrm_] at hc9
        refine c_reg ?_
        refine s_y (ya_ many34) rfl rfl ?_
        refine s_y (Y_fa 2 rfl Tryz.underlying93 rfl sz3 rfl) rfl rfl ?_
        refine s_y (yl_ one3) rfl rfl ?_
        refine s_c (En_call (fun _ => rfl) Tryz.func188 rfl (by kernel_rfl) rfl) (fun w hH => rsweep_d (d := { d with ents := freeE d.ents i }) (wl_of hH (d := { d with ents := freeE d.ents i }) (cb := cb) (cc := cc) (eb := fb) (ec := fc) (ib := ib) (ic := ic) ⟨z1, hfl, z3⟩ mm_ mm_ mm_ l1 l4 l3)) rfl rfl ?_
        rintro _ _ ⟨cb2, cc2, eb2, ec2, ib2, ic2, rfl, rfl, m1, m2, m3⟩
        refine s_s (S_storeA (vs := wL d ⟨cb2, 0, cc2, eb2, 0, ec2, ib2, 0, ic2⟩) rfl rfl sz34 (by rfl) (by rfl) up_ (by rfl)) rfl ?_
        refine s_nil ?_
        refine q_then ?_
        refine c_seq ?_
        rw [hhu, if_neg hc5, if_pos hc9]
        refine c_reg ?_
        refine s_y (ya_ many34) rfl rfl ?_
        refine s_s ((sa_ sz34)) rfl ?_
        refine s_nil ?_
        refine q_then ?_
        refine c_ret ?_
        refine q_retW rfl rfl many34 ss_ m1 m2 m3
      · skip
        try simp only [nrm_] at hc9
        refine c_skip ?_
        refine q_then ?_
        refine c_seq ?_
        rw [hhu, if_neg hc5, if_neg hc9]
        refine c_reg ?_
        refine s_y (ya_ many34) rfl rfl ?_
        refine s_s ((sa_ sz34)) rfl ?_
        refine s_nil ?_
        refine q_then ?_
        refine c_ret ?_
        refine q_retW rfl rfl many34 ss_ l1 l4 l3
set_option maxRecDepth 100000 in
set_option maxHeartbeats 1600000 in
theorem rhit_d {d : Wd} {s : Ws} (hw : WL W d s) (hv : VW d) {f t : Int} : Does Tryz.prog 143 [.agg (wL d s).toArray, iv f, iv t] W [] (WN (hitM d f t)) := by
  obtain ⟨z1, z2, z3⟩ := hw.sz
  refine enter Tryz.func143 rfl rfl rfl (Has.start _) ?_
  refine c_seq ?_
  refine c_reg ?_
  refine s_n (N_box (cs := wL d s) rfl) rfl rfl (fun b3 _ => ?_)
  refine s_n (N_alloc (z := .agg #[.int .i64 0, .int .i64 0, .int .i64 0, .int .i64 0, .slice none 0 0, .slice none 0 0, .slice none 0 0, .int .i64 0, .int .i64 0, .int .i64 0, .int .i64 0]) (cs := [.int .i64 0, .int .i64 0, .int .i64 0, .int .i64 0, .slice none 0 0, .slice none 0 0, .slice none 0 0, .int .i64 0, .int .i64 0, .int .i64 0, .int .i64 0]) zv34 rfl) rfl rfl (fun b6 _ => ?_)
  refine s_nil ?_
  refine q_then ?_
  refine c_seq ?_
  refine c_seq ?_
  refine c_reg ?_
  refine s_y (ya_ many34) rfl rfl ?_
  refine s_y (Y_mv) rfl rfl ?_
  refine s_c (En_call (fun _ => rfl) Tryz.func150 rfl (by kernel_rfl) rfl) (fun w hH => rthere_d (hw.has hH)) rfl rfl ?_
  rintro _ _ ⟨rfl, rfl⟩
  refine s_y (Y_not rfl) rfl rfl ?_
  refine s_y (Y_mv) rfl rfl ?_
  apply s_or 5 [19, 20, 21, 22, 23, 24] 24 (g := 19) rfl rfl
  · intro ht5 hm
    try simp only [nrm_] at ht5
    first | refine s_y (ya_ many34) rfl rfl ?_ | refine s_pass rfl rfl ?_
    first | refine s_y (Y_mv) rfl rfl ?_ | refine s_pass rfl rfl ?_
    refine s_c (En_call (fun _ => rfl) Tryz.func150 rfl (by kernel_rfl) rfl) (fun w hH => rthere_d (hw.has hH)) rfl rfl ?_
    rintro _ _ ⟨rfl, rfl⟩
    first | refine s_y (Y_not rfl) rfl rfl ?_ | refine s_pass rfl rfl ?_
    refine s_y (Y_pk rfl Gx.const (Gx.tmp gt_)) rfl rfl ?_
    first | exact hm _ ⟨rfl, trivial⟩ rfl | exact QL.sub sl_ (hm _ ⟨rfl, trivial⟩ rfl)
  · intro ht5 hm
    iterate 4 refine s_pass rfl rfl ?_
    refine s_y (Y_pk rfl Gx.const (Gx.tmp gt_)) rfl rfl ?_
    exact hm _ ⟨rfl, trivial⟩ rfl
  intro j24
  refine s_nil ?_
  refine q_then ?_
  first | refine c_cond' rfl (fun hc1 => ?_) (fun hc1 => ?_) | refine c_cond rfl (fun hc1 => ?_) (fun hc1 => ?_)
  · skip
    try simp only [nrm_] at hc1
    refine c_seq ?_
    refine c_reg ?_
    refine s_y (ya_ many34) rfl rfl ?_
    refine s_c (En_call (fun _ => rfl) Tryz.func51 rfl (by kernel_rfl) rfl) (fun w hH => rtwin_d (hw.has hH)) rfl rfl ?_
    rintro _ _ ⟨cb, cc, eb, ec, ib, ic, rfl, rfl, l1, l2, l3⟩
    refine s_s (S_storeA (vs := wL d ⟨cb, 0, cc, eb, 0, ec, ib, 0, ic⟩) rfl rfl sz34 (by rfl) (by rfl) up_ (by rfl)) rfl ?_
    refine s_nil ?_
    refine q_then ?_
    refine c_ret ?_
    rw [show hitM d f t = d by unfold hitM; rw [if_pos (by omega)]]
    refine q_retW rfl rfl many34 ss_ l1 l2 l3
  · skip
    try simp only [nrm_] at hc1
    refine c_skip ?_
    refine q_then ?_
    obtain ⟨i, rfl, hi⟩ := egt_some (l := d.ents) (r := f) (by omega)
    obtain ⟨k, rfl, hk⟩ := egt_some (l := d.ents) (r := t) (by omega)
    obtain ⟨a, haa⟩ : ∃ q, egt d.ents (i : Int) = q := ⟨_, rfl⟩
    obtain ⟨b, hbb⟩ : ∃ q, egt d.ents (k : Int) = q := ⟨_, rfl⟩
    have hhi : hitM d i k = marksE (hurtM d k (max 1 ((a.atk + if a.kind = 1 then bonA d.items a.seat else 0) - (b.df + if b.kind = 1 then bonD d.items b.seat else 0)) + dieM 3 d.seed [d.frame, i, k, 77])) a.kind i k := by
      unfold hitM blowM; simp only; rw [if_neg (by omega), haa, hbb]
    rw [haa] at hi hc1
    rw [hbb] at hk hc1
    rw [hhi]
    clear hhi
    have hil := lt_of_get hi
    have hkl := lt_of_get hk
    have hia := (hv.ev.rowOf hi (by omega)).st
    have hkb := (hv.ev.rowOf hk (by omega)).st
    have hsa := stats_low a.kind
    have hsb := stats_low b.kind
    have hba := bon_rng d.items a.seat
    have hbd := bon_rng d.items b.seat
    have hra := hw.e.at' Ent.len hi
    have hrb := hw.e.at' Ent.len hk
    refine c_seq ?_
    refine c_meetQ (ks := [7, 8, 27, 28, 29, 30, 31, 32, 33, 34, 35, 36]) (tr := fun y : Nat × Nat => [(7, .pointer (some ⟨y.1, 0, none⟩)), (8, .pointer (some ⟨y.2, 0, none⟩))]) (φ := fun _ => True) (G := fun y => [e1B y.1 a, e1B y.2 b, wB b3 (wL d s), wB b6 wz]) (fun _ => rfl) ?_ ?_
    · rintro ⟨ab, bb⟩ j4 _
      refine q_then ?_
      refine c_seq ?_
      refine c_rord [] [(0, true), (1, true), (2, true), (3, true), (4, true), (5, true)] (by kernel_rfl) (by kernel_rfl) (by kernel_rfl) (by kernel_rfl) rfl (by intro c a d v w h; cases d <;> exact h) rfl ?_
      simp only [mkOrd, List.filterMap_cons, List.filterMap_nil, List.getElem?_toArray, List.getElem?_cons_zero, List.getElem?_cons_succ, Option.map_some]
      refine o_y (Y_fa 7 rfl Tryz.underlying93 rfl sz3 rfl) rfl rfl ?_
      refine o_y (yl_ one3) rfl rfl ?_
      refine o_y (Y_fa 8 rfl Tryz.underlying93 rfl sz3 rfl) rfl rfl ?_
      refine o_y (yl_ one3) rfl rfl ?_
      refine o_y (Y_as) rfl rfl ?_
      refine o_y (Y_as) rfl rfl ?_
      refine o_nil ?_
      refine q_then ?_
      refine c_seq ?_
      refine c_meetQ (ks := [9, 11, 12, 41, 42, 43, 44, 45, 46, 47, 48, 49, 50, 51, 52, 53]) (tr := fun y : Int => [(9, iv y)]) (φ := fun y => y = a.atk + (if a.kind = 1 then bonA d.items a.seat else 0) ∧ 0 ≤ y ∧ y ≤ 8) (G := fun y => [e1B ab a, e1B bb b, wB b3 (wL d s), wB b6 wz]) (fun _ => rfl) ?_ ?_
      · rintro at_ j8 ⟨hat, hat1, hat2⟩
        refine q_then ?_
        refine c_seq ?_
        refine c_meetQ (ks := [10, 13, 14, 54, 55, 56, 57, 58, 59, 60, 61, 62, 63, 64, 65, 66]) (tr := fun y : Int => [(10, iv y)]) (φ := fun y => y = b.df + (if b.kind = 1 then bonD d.items b.seat else 0) ∧ 0 ≤ y ∧ y ≤ 8) (G := fun y => [e1B ab a, e1B bb b, wB b3 (wL d s), wB b6 wz]) (fun _ => rfl) ?_ ?_
        · rintro df j11 ⟨hdf, hdf1, hdf2⟩
          refine q_then ?_
          refine c_seq ?_
          rw [← hat, ← hdf]
          have hd3 := dieM_rng (n := 3) (by decide) d.seed [d.frame, i, k, 77]
          obtain ⟨die, hdie⟩ : ∃ q, dieM 3 d.seed [d.frame, i, k, 77] = q := ⟨_, rfl⟩
          rw [hdie] at hd3 ⊢
          obtain ⟨nn, hnn⟩ : ∃ q, max 1 (at_ - df) + die = q := ⟨_, rfl⟩
          rw [hnn]
          refine c_rordS (L0 := [wB b3 (wL d s)]) sl_ [15, 16] [(0, true), (1, true), (2, true), (3, true), (4, true), (5, true), (6, true), (7, true), (8, true), (9, true), (10, true), (11, true), (12, false), (13, false), (14, true), (15, false), (16, false)] (by kernel_rfl) (by kernel_rfl) (by kernel_rfl) (by kernel_rfl) rfl (by intro c a d v w h; cases d <;> exact h) rfl ?_
          simp only [mkOrd, List.filterMap_cons, List.filterMap_nil, List.getElem?_toArray, List.getElem?_cons_zero, List.getElem?_cons_succ, Option.map_some]
          refine o_y (ya_ many34) rfl rfl ?_
          refine o_y (Y_mv) rfl rfl ?_
          refine o_y (Y_mv) rfl rfl ?_
          refine o_y (Y_mv) rfl rfl ?_
          refine o_y su_ rfl rfl ?_
          refine o_y (Y_max rfl rfl) rfl rfl ?_
          refine o_y (Y_fa 0 rfl Tryz.underlying34 rfl sz2 rfl) rfl rfl ?_
          refine o_y (yl_ one2) rfl rfl ?_
          refine o_y (Y_fa 1 rfl Tryz.underlying34 rfl sz3 rfl) rfl rfl ?_
          refine o_y (yl_ one3) rfl rfl ?_
          refine o_y (Y_mv) rfl rfl ?_
          refine o_y (Y_mv) rfl rfl ?_
          refine o_n (N_bs (xs := [.tmp 76, .tmp 77, .tmp 78, .const (Value.int Go.IntKind.i64 77)]) (by repeat (first | exact Gv.nil | apply Gv.const | apply Gv.tmp gt_)) rfl Tryz.underlying23 inf3 rfl (by omega) (by omega) (by first | simp [Value.oneCell'] | (intro v hv; simp at hv; subst hv; rfl))) (fun _ => kp_) rfl rfl (fun b79 _ => ?_)
          refine o_c (En_call (fun _ => rfl) Tryz.func149 rfl (by kernel_rfl) rfl) (fun w hH => rdie_d (l := [d.frame, i, k, 77]) (by decide) ((hH.at' (x := ⟨b79, 3, 1, 4, [iv d.frame, iv i, iv k, iv 77]⟩) mm_).sl rfl (Nat.le_refl _))) (fun _ _ h => by obtain ⟨rfl, rfl⟩ := h; exact kp_) rfl rfl ?_
          rintro _ _ ⟨rfl, rfl⟩
          rw [hdie]
          refine o_y ((Y_add rfl rfl (by omega)).num hnn) rfl rfl ?_
          refine o_c (En_call (fun _ => rfl) Tryz.func151 rfl (by kernel_rfl) rfl) (fun w hH => rhurt_d (hw.has hH) hv) (fun _ _ h => by obtain ⟨cb, cc, eb, ec, ib, ic, rfl, rfl, l1, l2, l3⟩ := h; exact kp_) rfl rfl ?_
          rintro _ _ ⟨cb, cc, eb, ec, ib, ic, rfl, rfl, l1, l2, l3⟩
          refine o_s (S_storeA (vs := wL (hurtM d k nn) ⟨cb, 0, cc, eb, 0, ec, ib, 0, ic⟩) rfl rfl sz34 (by rfl) (by rfl) up_ (by rfl)) kp_ rfl ?_
          refine o_nil ?_
          have hv1 := hv.hurt k nn
          obtain ⟨w1, hw1⟩ : ∃ q, hurtM d k nn = q := ⟨_, rfl⟩
          rw [hw1] at hv1 ⊢
          obtain ⟨y1, y2, y3⟩ := hv1.sz
          refine q_then ?_
          refine c_seq ?_
          refine c_seq ?_
          refine c_reg ?_
          refine s_y (ya_ many34) rfl rfl ?_
          refine s_y (Y_mv) rfl rfl ?_
          refine s_c (En_call (fun _ => rfl) Tryz.func150 rfl (by kernel_rfl) rfl) (fun w hH => rthere_d (wl_of (d := w1) hH hv1.sz (cb := cb) (cc := cc) (eb := eb) (ec := ec) (ib := ib) (ic := ic) mm_ mm_ mm_ l1 l2 l3)) rfl rfl ?_
          rintro _ _ ⟨rfl, rfl⟩
          refine s_y (Y_not rfl) rfl rfl ?_
          refine s_nil ?_
          refine q_then ?_
          first | refine c_cond' rfl (fun hc12 => ?_) (fun hc12 => ?_) | refine c_cond rfl (fun hc12 => ?_) (fun hc12 => ?_)
          · skip
            try simp only [nrm_] at hc12
            refine c_seq ?_
            refine c_reg ?_
            refine s_y (ya_ many34) rfl rfl ?_
            refine s_s ((sa_ sz34)) rfl ?_
            refine s_nil ?_
            refine q_then ?_
            refine c_ret ?_
            rw [show marksE w1 a.kind i k = w1 by unfold marksE; simp only; rw [if_pos (by omega)]]
            refine q_retW rfl rfl many34 ss_ l1 l2 l3
          · skip
            try simp only [nrm_] at hc12
            refine c_skip ?_
            refine q_then ?_
            refine c_seq ?_
            refine c_seq ?_
            have hme : marksE w1 a.kind i k = if a.kind = 4 then { w1 with ents := w1.ents.set k { egt w1.ents k with poison := min ((egt w1.ents k).poison + 3) 9 } } else if a.kind = 3 ∧ dieM 4 w1.seed [w1.frame, i, k, 78] = 0 then { w1 with ents := w1.ents.set k { egt w1.ents k with stun := min ((egt w1.ents k).stun + 2) 9 } } else w1 := by
              unfold marksE; simp only; rw [if_neg (by omega), Int.toNat_natCast]
            have he1 := eget_of (l := w1.ents) (r := (k : Int)) (by omega) (by omega)
            rw [Int.toNat_natCast] at he1
            obtain ⟨e1, hee⟩ : ∃ q, egt w1.ents (k : Int) = q := ⟨_, rfl⟩
            rw [hee] at he1 hme hc12
            have hea := (hv1.ev.rowOf he1 (by omega)).ail
            have hd4 := dieM_rng (n := 4) (by decide) w1.seed [w1.frame, i, k, 78]
            rw [hme]
            refine c_reg ?_
            refine s_y (Y_fa 0 rfl Tryz.underlying93 rfl sz3 rfl) rfl rfl ?_
            refine s_y (yl_ one3) rfl rfl ?_
            refine s_y (Y_eql rfl rfl) rfl rfl ?_
            refine s_nil ?_
            refine q_then ?_
            first | refine c_cond' rfl (fun hc14 => ?_) (fun hc14 => ?_) | refine c_cond rfl (fun hc14 => ?_) (fun hc14 => ?_)
            · skip
              try simp only [nrm_] at hc14
              refine c_rordS (L0 := [eB eb ec w1.ents, wB b3 (wL w1 ⟨cb, 0, cc, eb, 0, ec, ib, 0, ic⟩)]) sl_ [13] [(0, true), (1, true), (2, true), (3, true), (4, true), (5, true), (6, true), (7, true), (8, true), (9, true), (10, true), (11, true), (12, true), (13, false)] (by kernel_rfl) (by kernel_rfl) (by kernel_rfl) (by kernel_rfl) rfl (by intro c a d v w h; cases d <;> exact h) rfl ?_
              simp only [mkOrd, List.filterMap_cons, List.filterMap_nil, List.getElem?_toArray, List.getElem?_cons_zero, List.getElem?_cons_succ, Option.map_some]
              refine o_y (Y_fa 5 rfl Tryz.underlying34 rfl sz30 rfl) rfl rfl ?_
              refine o_y (yl_ one30) rfl rfl ?_
              refine o_y (Y_mv) rfl rfl ?_
              refine o_y (Y_fa 5 rfl Tryz.underlying34 rfl sz30 rfl) rfl rfl ?_
              refine o_y (yl_ one30) rfl rfl ?_
              refine o_y (Y_mv) rfl rfl ?_
              refine o_y (Y_ia (n := k) rfl rfl Tryz.underlying30 sz93 rfl (by omega)) rfl rfl ?_
              refine o_y (Y_fa 9 rfl Tryz.underlying93 rfl sz3 rfl) rfl rfl ?_
              refine o_y (Y_load (v := iv e1.poison) rfl one3 mm_ (eget he1 rfl)) rfl rfl ?_
              refine o_y ad_ rfl rfl ?_
              refine o_y (Y_min rfl rfl) rfl rfl ?_
              refine o_y (Y_ia (n := k) rfl rfl Tryz.underlying30 sz93 rfl (by omega)) rfl rfl ?_
              refine o_y (Y_fa 9 rfl Tryz.underlying93 rfl sz3 rfl) rfl rfl ?_
              refine o_s (S_st (cs' := ecells (w1.ents.set k { e1 with poison := min (e1.poison + 3) 9 })) rfl gt_ sz3 (by rfl) up_ (eset { e1 with poison := min (e1.poison + 3) 9 } he1 rfl rfl) (lt_e (by omega) (by decide))) kp_ rfl ?_
              refine o_nil ?_
              refine q_then ?_
              refine c_seq ?_
              refine c_seq ?_
              refine c_reg ?_
              refine s_y (Y_fa 0 rfl Tryz.underlying93 rfl sz3 rfl) rfl rfl ?_
              refine s_y (yl_ one3) rfl rfl ?_
              refine s_y (Y_eql rfl rfl) rfl rfl ?_
              refine s_y (Y_mv) rfl rfl ?_
              apply s_and 10 [107, 108, 109, 110, 111, 112, 113, 114, 115, 116, 117] 117 (g := 107) rfl rfl
              · intro ht4 hm
                try simp only [nrm_] at ht4
                first | refine s_y (Y_fa 0 rfl Tryz.underlying34 rfl sz2 rfl) rfl rfl ?_ | refine s_pass rfl rfl ?_
                first | refine s_y (yl_ one2) rfl rfl ?_ | refine s_pass rfl rfl ?_
                first | refine s_y (Y_fa 1 rfl Tryz.underlying34 rfl sz3 rfl) rfl rfl ?_ | refine s_pass rfl rfl ?_
                first | refine s_y (yl_ one3) rfl rfl ?_ | refine s_pass rfl rfl ?_
                first | refine s_y (Y_mv) rfl rfl ?_ | refine s_pass rfl rfl ?_
                first | refine s_y (Y_mv) rfl rfl ?_ | refine s_pass rfl rfl ?_
                first | refine s_n (N_bs (xs := [.tmp 111, .tmp 112, .tmp 113, .const (Value.int Go.IntKind.i64 78)]) (by repeat (first | exact Gv.nil | apply Gv.const | apply Gv.tmp gt_)) rfl Tryz.underlying23 inf3 rfl (by omega) (by omega) (by first | simp [Value.oneCell'] | (intro v hv; simp at hv; subst hv; rfl))) rfl rfl (fun b114 _ => ?_) | refine s_pass rfl rfl ?_
                refine s_c (En_call (fun _ => rfl) Tryz.func149 rfl (by kernel_rfl) rfl) (fun w hH => rdie_d (l := [w1.frame, i, k, 78]) (by decide) ((hH.at' (x := ⟨b114, 3, 1, 4, [iv w1.frame, iv i, iv k, iv 78]⟩) mm_).sl rfl (Nat.le_refl _))) rfl rfl ?_
                rintro _ _ ⟨rfl, rfl⟩
                first | refine s_y (Y_eql rfl rfl) rfl rfl ?_ | refine s_pass rfl rfl ?_
                refine s_y (Y_pk rfl (Gx.tmp gt_) Gx.const) rfl rfl ?_
                first | exact hm _ ⟨rfl, trivial⟩ rfl | exact QL.sub sl_ (hm _ ⟨rfl, trivial⟩ rfl)
              · intro ht4 hm
                iterate 9 refine s_pass rfl rfl ?_
                refine s_y (Y_pk rfl (Gx.tmp gt_) Gx.const) rfl rfl ?_
                exact hm _ ⟨rfl, trivial⟩ rfl
              intro j117
              refine s_nil ?_
              refine q_then ?_
              refine c_F rfl ((by rw [show decide (a.kind = 3) = false by simp; omega]; rfl)) ?_
              refine c_skip ?_
              refine q_then ?_
              refine c_seq ?_
              refine c_reg ?_
              refine s_y (ya_ many34) rfl rfl ?_
              refine s_s ((sa_ sz34)) rfl ?_
              refine s_nil ?_
              refine q_then ?_
              refine c_ret ?_
              rw [if_pos hc14]
              refine q_retW rfl rfl many34 ss_ l1 l2 l3
            · skip
              try simp only [nrm_] at hc14
              refine c_skip ?_
              refine q_then ?_
              refine c_seq ?_
              refine c_seq ?_
              refine c_reg ?_
              refine s_y (Y_fa 0 rfl Tryz.underlying93 rfl sz3 rfl) rfl rfl ?_
              refine s_y (yl_ one3) rfl rfl ?_
              refine s_y (Y_eql rfl rfl) rfl rfl ?_
              refine s_y (Y_mv) rfl rfl ?_
              apply s_and 10 [107, 108, 109, 110, 111, 112, 113, 114, 115, 116, 117] 117 (g := 107) rfl rfl
              · intro ht4 hm
                try simp only [nrm_] at ht4
                first | refine s_y (Y_fa 0 rfl Tryz.underlying34 rfl sz2 rfl) rfl rfl ?_ | refine s_pass rfl rfl ?_
                first | refine s_y (yl_ one2) rfl rfl ?_ | refine s_pass rfl rfl ?_
                first | refine s_y (Y_fa 1 rfl Tryz.underlying34 rfl sz3 rfl) rfl rfl ?_ | refine s_pass rfl rfl ?_
                first | refine s_y (yl_ one3) rfl rfl ?_ | refine s_pass rfl rfl ?_
                first | refine s_y (Y_mv) rfl rfl ?_ | refine s_pass rfl rfl ?_
                first | refine s_y (Y_mv) rfl rfl ?_ | refine s_pass rfl rfl ?_
                first | refine s_n (N_bs (xs := [.tmp 111, .tmp 112, .tmp 113, .const (Value.int Go.IntKind.i64 78)]) (by repeat (first | exact Gv.nil | apply Gv.const | apply Gv.tmp gt_)) rfl Tryz.underlying23 inf3 rfl (by omega) (by omega) (by first | simp [Value.oneCell'] | (intro v hv; simp at hv; subst hv; rfl))) rfl rfl (fun b114 _ => ?_) | refine s_pass rfl rfl ?_
                refine s_c (En_call (fun _ => rfl) Tryz.func149 rfl (by kernel_rfl) rfl) (fun w hH => rdie_d (l := [w1.frame, i, k, 78]) (by decide) ((hH.at' (x := ⟨b114, 3, 1, 4, [iv w1.frame, iv i, iv k, iv 78]⟩) mm_).sl rfl (Nat.le_refl _))) rfl rfl ?_
                rintro _ _ ⟨rfl, rfl⟩
                first | refine s_y (Y_eql rfl rfl) rfl rfl ?_ | refine s_pass rfl rfl ?_
                refine s_y (Y_pk rfl (Gx.tmp gt_) Gx.const) rfl rfl ?_
                first | exact hm _ ⟨rfl, trivial⟩ rfl | exact QL.sub sl_ (hm _ ⟨rfl, trivial⟩ rfl)
              · intro ht4 hm
                iterate 9 refine s_pass rfl rfl ?_
                refine s_y (Y_pk rfl (Gx.tmp gt_) Gx.const) rfl rfl ?_
                exact hm _ ⟨rfl, trivial⟩ rfl
              intro j117
              refine s_nil ?_
              refine q_then ?_
              first | refine c_cond' rfl (fun hc16 => ?_) (fun hc16 => ?_) | refine c_cond rfl (fun hc16 => ?_) (fun hc16 => ?_)
              · skip
                try simp only [nrm_] at hc16
                refine c_rordS (L0 := [eB eb ec w1.ents, wB b3 (wL w1 ⟨cb, 0, cc, eb, 0, ec, ib, 0, ic⟩)]) sl_ [13] [(0, true), (1, true), (2, true), (3, true), (4, true), (5, true), (6, true), (7, true), (8, true), (9, true), (10, true), (11, true), (12, true), (13, false)] (by kernel_rfl) (by kernel_rfl) (by kernel_rfl) (by kernel_rfl) rfl (by intro c a d v w h; cases d <;> exact h) rfl ?_
                simp only [mkOrd, List.filterMap_cons, List.filterMap_nil, List.getElem?_toArray, List.getElem?_cons_zero, List.getElem?_cons_succ, Option.map_some]
                refine o_y (Y_fa 5 rfl Tryz.underlying34 rfl sz30 rfl) rfl rfl ?_
                refine o_y (yl_ one30) rfl rfl ?_
                refine o_y (Y_mv) rfl rfl ?_
                refine o_y (Y_fa 5 rfl Tryz.underlying34 rfl sz30 rfl) rfl rfl ?_
                refine o_y (yl_ one30) rfl rfl ?_
                refine o_y (Y_mv) rfl rfl ?_
                refine o_y (Y_ia (n := k) rfl rfl Tryz.underlying30 sz93 rfl (by omega)) rfl rfl ?_
                refine o_y (Y_fa 10 rfl Tryz.underlying93 rfl sz3 rfl) rfl rfl ?_
                refine o_y (Y_load (v := iv e1.stun) rfl one3 mm_ (eget he1 rfl)) rfl rfl ?_
                refine o_y ad_ rfl rfl ?_
                refine o_y (Y_min rfl rfl) rfl rfl ?_
                refine o_y (Y_ia (n := k) rfl rfl Tryz.underlying30 sz93 rfl (by omega)) rfl rfl ?_
                refine o_y (Y_fa 10 rfl Tryz.underlying93 rfl sz3 rfl) rfl rfl ?_
                refine o_s (S_st (cs' := ecells (w1.ents.set k { e1 with stun := min (e1.stun + 2) 9 })) rfl gt_ sz3 (by rfl) up_ (eset { e1 with stun := min (e1.stun + 2) 9 } he1 rfl rfl) (lt_e (by omega) (by decide))) kp_ rfl ?_
                refine o_nil ?_
                refine q_then ?_
                refine c_seq ?_
                refine c_reg ?_
                refine s_y (ya_ many34) rfl rfl ?_
                refine s_s ((sa_ sz34)) rfl ?_
                refine s_nil ?_
                refine q_then ?_
                refine c_ret ?_
                rw [if_neg hc14, if_pos hc16]
                refine q_retW rfl rfl many34 ss_ l1 l2 l3
              · skip
                try simp only [nrm_] at hc16
                refine c_skip ?_
                refine q_then ?_
                refine c_seq ?_
                refine c_reg ?_
                refine s_y (ya_ many34) rfl rfl ?_
                refine s_s ((sa_ sz34)) rfl ?_
                refine s_nil ?_
                refine q_then ?_
                refine c_ret ?_
                rw [if_neg hc14, if_neg (by omega)]
                refine q_retW rfl rfl many34 ss_ l1 l2 l3
        · intro go
          refine c_seq ?_
          refine c_reg ?_
          refine s_y (Y_fa 0 rfl Tryz.underlying93 rfl sz3 rfl) rfl rfl ?_
          refine s_y (yl_ one3) rfl rfl ?_
          refine s_y (Y_eql rfl rfl) rfl rfl ?_
          refine s_nil ?_
          refine q_then ?_
          first | refine c_cond' rfl (fun hc8 => ?_) (fun hc8 => ?_) | refine c_cond rfl (fun hc8 => ?_) (fun hc8 => ?_)
          · skip
            try simp only [nrm_] at hc8
            refine c_seq ?_
            refine c_reg ?_
            refine s_y (ya_ many34) rfl rfl ?_
            refine s_y (Y_fa 2 rfl Tryz.underlying93 rfl sz3 rfl) rfl rfl ?_
            refine s_y (yl_ one3) rfl rfl ?_
            refine s_c (En_call (fun _ => rfl) Tryz.func183 rfl (by kernel_rfl) rfl) (fun w hH => rbonus_d (hw.has hH)) rfl rfl ?_
            rintro _ _ ⟨rfl, rfl⟩
            refine s_y (Y_mv) rfl rfl ?_
            refine s_y (Y_extract rfl rfl) rfl rfl ?_
            refine s_y (Y_extract rfl rfl) rfl rfl ?_
            refine s_y (Y_as) rfl rfl ?_
            refine s_y (Y_as) rfl rfl ?_
            refine s_nil ?_
            refine q_then ?_
            refine c_reg ?_
            refine s_y (Y_mv) rfl rfl ?_
            refine s_y (Y_mv) rfl rfl ?_
            refine s_y ad_ rfl rfl ?_
            refine s_y (Y_as) rfl rfl ?_
            refine s_nil ?_
            exact go (b.df + bonD d.items b.seat) _ _ ⟨by rw [if_pos hc8], by omega, by omega⟩ ⟨rfl, trivial⟩ rfl (fun w h => h.pick ss_)
          · skip
            try simp only [nrm_] at hc8
            refine c_skip ?_
            exact go b.df _ _ ⟨by rw [if_neg hc8]; omega, by omega, by omega⟩ ⟨rfl, trivial⟩ rfl (fun w h => h.pick ss_)
      · intro go
        refine c_seq ?_
        refine c_reg ?_
        refine s_y (Y_fa 0 rfl Tryz.underlying93 rfl sz3 rfl) rfl rfl ?_
        refine s_y (yl_ one3) rfl rfl ?_
        refine s_y (Y_eql rfl rfl) rfl rfl ?_
        refine s_nil ?_
        refine q_then ?_
        first | refine c_cond' rfl (fun hc5 => ?_) (fun hc5 => ?_) | refine c_cond rfl (fun hc5 => ?_) (fun hc5 => ?_)
        · skip
          try simp only [nrm_] at hc5
          refine c_seq ?_
          refine c_reg ?_
          refine s_y (ya_ many34) rfl rfl ?_
          refine s_y (Y_fa 2 rfl Tryz.underlying93 rfl sz3 rfl) rfl rfl ?_
          refine s_y (yl_ one3) rfl rfl ?_
          refine s_c (En_call (fun _ => rfl) Tryz.func183 rfl (by kernel_rfl) rfl) (fun w hH => rbonus_d (hw.has hH)) rfl rfl ?_
          rintro _ _ ⟨rfl, rfl⟩
          refine s_y (Y_mv) rfl rfl ?_
          refine s_y (Y_extract rfl rfl) rfl rfl ?_
          refine s_y (Y_extract rfl rfl) rfl rfl ?_
          refine s_y (Y_as) rfl rfl ?_
          refine s_y (Y_as) rfl rfl ?_
          refine s_nil ?_
          refine q_then ?_
          refine c_reg ?_
          refine s_y (Y_mv) rfl rfl ?_
          refine s_y (Y_mv) rfl rfl ?_
          refine s_y ad_ rfl rfl ?_
          refine s_y (Y_as) rfl rfl ?_
          refine s_nil ?_
          exact go (a.atk + bonA d.items a.seat) _ _ ⟨by rw [if_pos hc5], by omega, by omega⟩ ⟨rfl, trivial⟩ rfl (fun w h => h.pick ss_)
        · skip
          try simp only [nrm_] at hc5
          refine c_skip ?_
          exact go a.atk _ _ ⟨by rw [if_neg hc5]; omega, by omega, by omega⟩ ⟨rfl, trivial⟩ rfl (fun w h => h.pick ss_)
    · intro go
      refine c_rall (L0 := [wB b3 (wL d s)]) sl_ [13] (.take 0 (.take 1 (.take 2 (.take 3 (.take 4 (.take 5 (.take 6 (.take 7 (.take 8 (.take 9 (.alt 10 (.one 11 (.one 12 (.one 13 .nil))) (.one 11 (.one 10 (.one 12 (.one 13 .nil))))))))))))))) (by kernel_rfl) (by kernel_rfl) (by kernel_rfl) (by kernel_rfl) (by kernel_rfl) (by intro c a d v w h; cases d <;> exact h) rfl ?_
      refine t_y (Y_fa 5 rfl Tryz.underlying34 rfl sz30 rfl) rfl rfl ?_
      refine t_y (yl_ one30) rfl rfl ?_
      refine t_y (Y_mv) rfl rfl ?_
      refine t_y (Y_ia (n := i) rfl rfl Tryz.underlying30 sz93 rfl (by omega)) rfl rfl ?_
      refine t_y (Y_loadNR rfl many93 hra rfl) rfl rfl ?_
      refine t_y (Y_fa 5 rfl Tryz.underlying34 rfl sz30 rfl) rfl rfl ?_
      refine t_y (yl_ one30) rfl rfl ?_
      refine t_y (Y_mv) rfl rfl ?_
      refine t_y (Y_ia (n := k) rfl rfl Tryz.underlying30 sz93 rfl (by omega)) rfl rfl ?_
      refine t_y (Y_loadNR rfl many93 hrb rfl) rfl rfl ?_
      refine t_two ?_ ?_
      · skip
        refine t_n (N_alloc (z := .agg #[.int .i64 0, .int .i64 0, .int .i64 0, .int .i64 0, .int .i64 0, .int .i64 0, .int .i64 0, .int .i64 0, .int .i64 0, .int .i64 0, .int .i64 0]) (cs := [.int .i64 0, .int .i64 0, .int .i64 0, .int .i64 0, .int .i64 0, .int .i64 0, .int .i64 0, .int .i64 0, .int .i64 0, .int .i64 0, .int .i64 0]) zv93 rfl) (fun _ => kp_) rfl rfl (fun b7 _ => ?_)
        refine t_n (N_alloc (z := .agg #[.int .i64 0, .int .i64 0, .int .i64 0, .int .i64 0, .int .i64 0, .int .i64 0, .int .i64 0, .int .i64 0, .int .i64 0, .int .i64 0, .int .i64 0]) (cs := [.int .i64 0, .int .i64 0, .int .i64 0, .int .i64 0, .int .i64 0, .int .i64 0, .int .i64 0, .int .i64 0, .int .i64 0, .int .i64 0, .int .i64 0]) zv93 rfl) (fun _ => kp_) rfl rfl (fun b8 _ => ?_)
        refine t_s (S_storeA (vs := a.cells) rfl rfl sz93 (by rfl) (by rfl) up_ (by rfl)) kp_ rfl ?_
        refine t_s (S_storeA (vs := b.cells) rfl rfl sz93 (by rfl) (by rfl) up_ (by rfl)) kp_ rfl ?_
        refine t_nil ?_
        exact go (b7, b8) _ _ trivial ⟨rfl, rfl, trivial⟩ rfl (fun w h => h.pick ss_)
      refine t_n (N_alloc (z := .agg #[.int .i64 0, .int .i64 0, .int .i64 0, .int .i64 0, .int .i64 0, .int .i64 0, .int .i64 0, .int .i64 0, .int .i64 0, .int .i64 0, .int .i64 0]) (cs := [.int .i64 0, .int .i64 0, .int .i64 0, .int .i64 0, .int .i64 0, .int .i64 0, .int .i64 0, .int .i64 0, .int .i64 0, .int .i64 0, .int .i64 0]) zv93 rfl) (fun _ => kp_) rfl rfl (fun b8 _ => ?_)
      refine t_n (N_alloc (z := .agg #[.int .i64 0, .int .i64 0, .int .i64 0, .int .i64 0, .int .i64 0, .int .i64 0, .int .i64 0, .int .i64 0, .int .i64 0, .int .i64 0, .int .i64 0]) (cs := [.int .i64 0, .int .i64 0, .int .i64 0, .int .i64 0, .int .i64 0, .int .i64 0, .int .i64 0, .int .i64 0, .int .i64 0, .int .i64 0, .int .i64 0]) zv93 rfl) (fun _ => kp_) rfl rfl (fun b7 _ => ?_)
      refine t_s (S_storeA (vs := a.cells) rfl rfl sz93 (by rfl) (by rfl) up_ (by rfl)) kp_ rfl ?_
      refine t_s (S_storeA (vs := b.cells) rfl rfl sz93 (by rfl) (by rfl) up_ (by rfl)) kp_ rfl ?_
      refine t_nil ?_
      exact go (b7, b8) _ _ trivial ⟨rfl, rfl, trivial⟩ rfl (fun w h => h.pick ss_)
theorem VW.ailMid {d : Wd} (h : VW d) {i : Nat} {e e1 : Ent} (he : d.ents[i]? = some e) (hk : e.kind ≠ 0) (h1 : e1 = if 0 < e.stun then { e with stun := e.stun - 1 } else e) (hp : 0 < e.poison) : VW { d with ents := d.ents.set i { e1 with poison := e.poison - 1 } } := by
  have hw := h.ev.rowOf he hk
  have ha := hw.ail
  refine h.ents (by simp) (h.ev.same he ?_ ?_ ?_ ?_)
  · subst h1
    split
    · exact ⟨hw.kind, hw.walk, hw.hp, hw.st, by simp only; omega, hw.gen, hw.seat⟩
    · exact ⟨hw.kind, hw.walk, hw.hp, hw.st, by simp only; omega, hw.gen, hw.seat⟩
  all_goals
    subst h1
    split <;> first | rfl | exact ⟨rfl, rfl⟩
set_option maxRecDepth 100000 in
set_option maxHeartbeats 800000 in
theorem rail_d {d : Wd} {s : Ws} (hw : WL W d s) (hv : VW d) : Does Tryz.prog 94 [.agg (wL d s).toArray] W [] (WN (ailM d)) := by
  obtain ⟨z1, z2, z3⟩ := hw.sz
  refine enter Tryz.func94 rfl rfl rfl (Has.start _) ?_
  refine c_seq ?_
  refine c_reg ?_
  refine s_n (N_box (cs := wL d s) rfl) rfl rfl (fun b1 _ => ?_)
  refine s_n (N_alloc (z := .agg #[.int .i64 0, .int .i64 0, .int .i64 0, .int .i64 0, .slice none 0 0, .slice none 0 0, .slice none 0 0, .int .i64 0, .int .i64 0, .int .i64 0, .int .i64 0]) (cs := [.int .i64 0, .int .i64 0, .int .i64 0, .int .i64 0, .slice none 0 0, .slice none 0 0, .slice none 0 0, .int .i64 0, .int .i64 0, .int .i64 0, .int .i64 0]) zv34 rfl) rfl rfl (fun b2 _ => ?_)
  refine s_nil ?_
  refine q_then ?_
  refine c_seq ?_
  refine c_reg ?_
  refine s_y (ya_ many34) rfl rfl ?_
  refine s_c (En_call (fun _ => rfl) Tryz.func51 rfl (by kernel_rfl) rfl) (fun w hH => rtwin_d (hw.has hH)) rfl rfl ?_
  rintro _ _ ⟨cb, cc, eb, ec, ib, ic, rfl, rfl, l1, l2, l3⟩
  refine s_s (S_storeA (vs := wL d ⟨cb, 0, cc, eb, 0, ec, ib, 0, ic⟩) rfl rfl sz34 (by rfl) (by rfl) up_ (by rfl)) rfl ?_
  refine s_nil ?_
  refine q_then ?_
  refine c_seq ?_
  refine c_seq ?_
  refine c_reg ?_
  refine s_y (Y_asC) rfl rfl ?_
  refine s_nil ?_
  refine q_then ?_
  refine c_block ?_
  refine c_loop [3, 6, 7, 8, 9, 10, 11, 12, 13, 14, 15, 16, 17, 18, 19, 20, 21, 22, 23, 24, 25, 26, 27, 28, 29, 30, 31, 32, 33, 34, 35, 36, 37, 38, 39, 40, 41, 42, 43, 44, 45, 46, 47, 48, 49, 50, 51] (fun m (y : Nat × Wd × Nat × Nat × Nat × Nat × Nat × Nat) => y.1 + m = 32 ∧ y.2.1 = ailF d y.1 ∧ 384 ≤ y.2.2.2.1 ∧ 32 ≤ y.2.2.2.2.2.1 ∧ 40 ≤ y.2.2.2.2.2.2.2) (fun y => [(3, iv y.1)]) (fun y => [cB y.2.2.1 y.2.2.2.1 y.2.1.cells, eB y.2.2.2.2.1 y.2.2.2.2.2.1 y.2.1.ents, iB y.2.2.2.2.2.2.1 y.2.2.2.2.2.2.2 y.2.1.items, wB b2 wz, wB b1 (wL y.2.1 ⟨y.2.2.1, 0, y.2.2.2.1, y.2.2.2.2.1, 0, y.2.2.2.2.2.1, y.2.2.2.2.2.2.1, 0, y.2.2.2.2.2.2.2⟩)]) (32) ((0, d, cb, cc, eb, ec, ib, ic)) (⟨rfl, rfl, l1, l2, l3⟩) (by repeat (first | exact trivial | refine ⟨rfl, ?_⟩)) (fun _ h => h.sub sl_) (fun _ => rfl) ?_
  rintro m ⟨i, u, cb, cc, eb, ec, ib, ic⟩ j ⟨hi, hwi, l1, l2, l3⟩ K hK
  simp only at hi hwi l1 l2 l3 ⊢
  have hv1 : VW u := by rw [hwi]; exact hv.ail i
  obtain ⟨y1, y2, y3⟩ := hv1.sz
  have hst : ailF d (i + 1) = ailOne u i := by rw [hwi]; rfl
  refine c_seq ?_
  refine c_seq ?_
  refine c_reg ?_
  refine s_y (Y_mv) rfl rfl ?_
  refine s_y (Y_fa 5 rfl Tryz.underlying34 rfl sz30 rfl) rfl rfl ?_
  refine s_y (yl_ one30) rfl rfl ?_
  refine s_y (Y_len rfl rfl Tryz.underlying30) rfl rfl ?_
  refine s_y (Y_lss rfl rfl) rfl rfl ?_
  refine s_nil ?_
  refine q_then ?_
  first | refine c_cond' rfl (fun hc3 => ?_) (fun hc3 => ?_) | refine c_cond rfl (fun hc3 => ?_) (fun hc3 => ?_)
  · skip
    try simp only [nrm_] at hc3
    refine c_skip ?_
    refine q_then ?_
    refine c_seq ?_
    refine c_block ?_
    refine c_seq ?_
    refine c_seq ?_
    refine c_reg ?_
    refine s_y (ya_ many34) rfl rfl ?_
    refine s_y (Y_mv) rfl rfl ?_
    refine s_c (En_call (fun _ => rfl) Tryz.func150 rfl (by kernel_rfl) rfl) (fun w hH => rthere_d (wl_of (d := u) hH hv1.sz (cb := cb) (cc := cc) (eb := eb) (ec := ec) (ib := ib) (ic := ic) mm_ mm_ mm_ l1 l2 l3)) rfl rfl ?_
    rintro _ _ ⟨rfl, rfl⟩
    refine s_y (Y_not rfl) rfl rfl ?_
    refine s_nil ?_
    refine q_then ?_
    first | refine c_cond' rfl (fun hc5 => ?_) (fun hc5 => ?_) | refine c_cond rfl (fun hc5 => ?_) (fun hc5 => ?_)
    · skip
      try simp only [nrm_] at hc5
      refine c_exit ?_
      repeat with_reducible refine q_te ?_
      refine q_exit ?_
      refine q_then ?_
      refine c_reg ?_
      refine s_y (Y_mv) rfl rfl ?_
      refine s_y ad_ rfl rfl ?_
      refine s_y (Y_as) rfl rfl ?_
      refine s_nil ?_
      refine hK (m - 1) (i + 1, u, cb, cc, eb, ec, ib, ic) _ _ (by omega) ⟨by simp only; omega, by simp only; rw [hst]; unfold ailOne; simp only; rw [if_pos (by omega)], l1, l2, l3⟩ ⟨rfl, trivial⟩ rfl (fun w h => h.pick ss_)
    · skip
      try simp only [nrm_] at hc5
      refine c_skip ?_
      refine q_then ?_
      have he := eget_of (l := u.ents) (r := (i : Int)) (by omega) (by omega)
      rw [Int.toNat_natCast] at he
      obtain ⟨e, hee⟩ : ∃ q, egt u.ents (i : Int) = q := ⟨_, rfl⟩
      rw [hee] at he hc5
      have hil := lt_of_get he
      have ha := (hv1.ev.rowOf he hc5).ail
      have hao : ailOne u i = if 0 < e.poison then hurtM { u with ents := u.ents.set i { (if 0 < e.stun then { e with stun := e.stun - 1 } else e : Ent) with poison := e.poison - 1 } } i 1 else { u with ents := u.ents.set i (if 0 < e.stun then { e with stun := e.stun - 1 } else e) } := by
        unfold ailOne; simp only; rw [hee, if_neg hc5]
      rw [hao] at hst
      refine c_seq ?_
      refine c_meetQ (ks := [17, 18, 19, 20, 21, 22, 23, 24, 25, 26, 27, 28, 29, 30, 31, 32]) (tr := fun _ : Ent => []) (φ := fun e1 => e1 = (if 0 < e.stun then { e with stun := e.stun - 1 } else e) ∧ e1.poison = e.poison) (G := fun e1 => [cB cb cc u.cells, eB eb ec (u.ents.set i e1), iB ib ic u.items, wB b2 wz, wB b1 (wL u ⟨cb, 0, cc, eb, 0, ec, ib, 0, ic⟩)]) (fun _ => rfl) ?_ ?_
      · rintro e1 j8 ⟨he1, hp1⟩
        refine q_then ?_
        refine c_seq ?_
        rw [← he1] at hst
        have hge := set_get (a := e1) hil
        refine c_reg ?_
        refine s_y (Y_fa 5 rfl Tryz.underlying34 rfl sz30 rfl) rfl rfl ?_
        refine s_y (yl_ one30) rfl rfl ?_
        refine s_y (Y_mv) rfl rfl ?_
        refine s_y (Y_ia (n := i) rfl rfl Tryz.underlying30 sz93 rfl (by omega)) rfl rfl ?_
        refine s_y (Y_fa 9 rfl Tryz.underlying93 rfl sz3 rfl) rfl rfl ?_
        refine s_y (Y_load (v := iv e1.poison) rfl one3 mm_ (eget hge rfl)) rfl rfl ?_
        refine s_y (Y_gtr rfl rfl) rfl rfl ?_
        refine s_nil ?_
        refine q_then ?_
        first | refine c_cond' rfl (fun hc8 => ?_) (fun hc8 => ?_) | refine c_cond rfl (fun hc8 => ?_) (fun hc8 => ?_)
        · skip
          try simp only [nrm_] at hc8
          refine c_seq ?_
          refine c_reg ?_
          refine s_y (Y_fa 5 rfl Tryz.underlying34 rfl sz30 rfl) rfl rfl ?_
          refine s_y (yl_ one30) rfl rfl ?_
          refine s_y (Y_mv) rfl rfl ?_
          refine s_y (Y_ia (n := i) rfl rfl Tryz.underlying30 sz93 rfl (by omega)) rfl rfl ?_
          refine s_y (Y_fa 9 rfl Tryz.underlying93 rfl sz3 rfl) rfl rfl ?_
          refine s_y (Y_load (v := iv e1.poison) rfl one3 mm_ (eget hge rfl)) rfl rfl ?_
          refine s_y su_ rfl rfl ?_
          refine s_y (Y_ia (n := i) rfl rfl Tryz.underlying30 sz93 rfl (by omega)) rfl rfl ?_
          refine s_y (Y_fa 9 rfl Tryz.underlying93 rfl sz3 rfl) rfl rfl ?_
          refine s_s (S_st (cs' := ecells (u.ents.set i { e1 with poison := e.poison - 1 })) rfl gt_ sz3 (by rfl) up_ (eset2 e1 { e1 with poison := e.poison - 1 } hil (by rw [← hp1]; rfl) rfl) (lt_e (by rw [List.length_set]; exact hil) (by decide))) rfl ?_
          refine s_nil ?_
          refine q_then ?_
          have hv2 := hv1.ailMid he hc5 he1 (by omega)
          refine c_reg ?_
          refine s_y (ya_ many34) rfl rfl ?_
          refine s_y (Y_mv) rfl rfl ?_
          refine s_c (En_call (fun _ => rfl) Tryz.func151 rfl (by kernel_rfl) rfl) (fun w hH => rhurt_d (d := { u with ents := u.ents.set i { e1 with poison := e.poison - 1 } }) (wl_of (d := { u with ents := u.ents.set i { e1 with poison := e.poison - 1 } }) hH hv2.sz (cb := cb) (cc := cc) (eb := eb) (ec := ec) (ib := ib) (ic := ic) mm_ mm_ mm_ l1 l2 l3) hv2) rfl rfl ?_
          rintro _ _ ⟨cb2, cc2, eb2, ec2, ib2, ic2, rfl, rfl, m1, m2, m3⟩
          refine s_s (S_storeA (vs := wL (hurtM { u with ents := u.ents.set i { e1 with poison := e.poison - 1 } } i 1) ⟨cb2, 0, cc2, eb2, 0, ec2, ib2, 0, ic2⟩) rfl rfl sz34 (by rfl) (by rfl) up_ (by rfl)) rfl ?_
          refine s_nil ?_
          refine q_bn ?_
          refine q_then ?_
          refine c_reg ?_
          refine s_y (Y_mv) rfl rfl ?_
          refine s_y ad_ rfl rfl ?_
          refine s_y (Y_as) rfl rfl ?_
          refine s_nil ?_
          refine hK (m - 1) (i + 1, hurtM { u with ents := u.ents.set i { e1 with poison := e.poison - 1 } } i 1, cb2, cc2, eb2, ec2, ib2, ic2) _ _ (by omega) ⟨by simp only; omega, by simp only; rw [hst, if_pos (by omega)], m1, m2, m3⟩ ⟨rfl, trivial⟩ rfl (fun w h => h.pick ss_)
        · skip
          try simp only [nrm_] at hc8
          refine c_skip ?_
          refine q_bn ?_
          refine q_then ?_
          refine c_reg ?_
          refine s_y (Y_mv) rfl rfl ?_
          refine s_y ad_ rfl rfl ?_
          refine s_y (Y_as) rfl rfl ?_
          refine s_nil ?_
          refine hK (m - 1) (i + 1, { u with ents := u.ents.set i e1 }, cb, cc, eb, ec, ib, ic) _ _ (by omega) ⟨by simp only; omega, by simp only; rw [hst, if_neg (by omega)], l1, l2, l3⟩ ⟨rfl, trivial⟩ rfl (fun w h => h.pick ss_)
      · intro go
        refine c_seq ?_
        refine c_reg ?_
        refine s_y (Y_fa 5 rfl Tryz.underlying34 rfl sz30 rfl) rfl rfl ?_
        refine s_y (yl_ one30) rfl rfl ?_
        refine s_y (Y_mv) rfl rfl ?_
        refine s_y (Y_ia (n := i) rfl rfl Tryz.underlying30 sz93 rfl (by omega)) rfl rfl ?_
        refine s_y (Y_fa 10 rfl Tryz.underlying93 rfl sz3 rfl) rfl rfl ?_
        refine s_y (yl_ one3) rfl rfl ?_
        refine s_y (Y_gtr rfl rfl) rfl rfl ?_
        refine s_nil ?_
        refine q_then ?_
        first | refine c_cond' rfl (fun hc6 => ?_) (fun hc6 => ?_) | refine c_cond rfl (fun hc6 => ?_) (fun hc6 => ?_)
        · skip
          try simp only [nrm_] at hc6
          refine c_reg ?_
          refine s_y (Y_fa 5 rfl Tryz.underlying34 rfl sz30 rfl) rfl rfl ?_
          refine s_y (yl_ one30) rfl rfl ?_
          refine s_y (Y_mv) rfl rfl ?_
          refine s_y (Y_ia (n := i) rfl rfl Tryz.underlying30 sz93 rfl (by omega)) rfl rfl ?_
          refine s_y (Y_fa 10 rfl Tryz.underlying93 rfl sz3 rfl) rfl rfl ?_
          refine s_y (yl_ one3) rfl rfl ?_
          refine s_y su_ rfl rfl ?_
          refine s_y (Y_ia (n := i) rfl rfl Tryz.underlying30 sz93 rfl (by omega)) rfl rfl ?_
          refine s_y (Y_fa 10 rfl Tryz.underlying93 rfl sz3 rfl) rfl rfl ?_
          refine s_s (S_st (cs' := ecells (u.ents.set i { e with stun := e.stun - 1 })) rfl gt_ sz3 (by rfl) up_ (eset { e with stun := e.stun - 1 } he rfl rfl) (lt_e hil (by decide))) rfl ?_
          refine s_nil ?_
          exact go { e with stun := e.stun - 1 } _ _ ⟨by rw [if_pos hc6], rfl⟩ trivial rfl (fun w h => h.pick ss_)
        · skip
          try simp only [nrm_] at hc6
          refine c_skip ?_
          exact go e _ _ ⟨by rw [if_neg hc6], rfl⟩ trivial rfl (fun w h => by rw [set_same he]; exact h.pick ss_)
  · skip
    try simp only [nrm_] at hc3
    refine c_exit ?_
    repeat with_reducible refine q_te ?_
    refine q_exit ?_
    refine q_then ?_
    refine c_seq ?_
    refine c_reg ?_
    refine s_y (ya_ many34) rfl rfl ?_
    refine s_s ((sa_ sz34)) rfl ?_
    refine s_nil ?_
    refine q_then ?_
    refine c_ret ?_
    rw [show ailM d = u by rw [hwi, show i = 32 by omega]; rfl]
    refine q_retW rfl rfl many34 ss_ l1 l2 l3
end
end Go.Proofs.YtcogbkkdccohfaaGreat
namespace Go.Ad
open Go.RowKit Go.Maps Go.Proofs.YtcogbkkdccohfaaGreat
theorem prey_none {c : List UInt8} {l : List Ent} {e : Ent} {s : Nat} (h : eHero l s < 0) : preyF c l e (s + 1) = preyF c l e s := by
  rw [preyF]; simp only; rw [if_pos h]
theorem prey_some {c : List UInt8} {l : List Ent} {e f : Ent} {s k : Nat} {p : Int × Int} (hk : eHero l s = (k : Int)) (hf : l[k]? = some f) (hp : preyF c l e s = p) : preyF c l e (s + 1) = if farD (f.x - e.x) (f.y - e.y) ≤ 1536 ∧ seesM c e.x e.y f.x f.y = true ∧ (p.2 < 0 ∨ farD (f.x - e.x) (f.y - e.y) < p.1) then (farD (f.x - e.x) (f.y - e.y), (k : Int)) else p := by
  rw [preyF]; simp only; rw [hk, if_neg (by omega), egt_of hf, hp]
theorem ent_in {cells : List UInt8} {e : Ent} (h : ERow cells e) : 0 ≤ e.x ∧ e.x < 24 ∧ 0 ≤ e.y ∧ e.y < 16 := lt_in (at_in h.walk)
theorem eAt_rng (l : List Ent) (x y : Int) : eAt l x y < 0 ∨ (0 ≤ eAt l x y ∧ eAt l x y < l.length) := by
  rcases fnd_lt (p := fun e : Ent => decide (e.kind ≠ 0 ∧ e.x = x ∧ e.y = y)) l 0 with h | ⟨j, x, h1, h2, _⟩
  · exact .inl h
  · have := (List.getElem?_eq_some_iff.1 h2).1
    have e : eAt l _ y = ((0 + j : Nat) : Int) := h1
    omega
end Go.Ad
namespace Go.Proofs.YtcogbkkdccohfaaGreat
open Go.RowKit Go.Ad Go.Maps
set_option linter.unusedVariables false
set_option linter.unusedSimpArgs false
section
variable {W : World}
set_option maxRecDepth 100000 in
set_option maxHeartbeats 1600000 in
theorem rmonster_d {d : Wd} {s : Ws} (hw : WL W d s) (hv : VW d) {i : Nat} (hi : i < 32) : Does Tryz.prog 93 [.agg (wL d s).toArray, iv i] W [] (fun v L => v = iv (monsterM d i) ∧ L = []) := by
  obtain ⟨z1, z2, z3⟩ := hw.sz
  obtain ⟨e, he⟩ := take_lt (show i < d.ents.length by omega)
  have hee := egt_of he
  have hre := hw.e.at' Ent.len he
  refine enter Tryz.func93 rfl rfl rfl (Has.start _) ?_
  refine c_seq ?_
  refine c_reg ?_
  refine s_n (N_box (cs := wL d s) rfl) rfl rfl (fun b2 _ => ?_)
  refine s_y (Y_asC) rfl rfl ?_
  refine s_nil ?_
  refine q_then ?_
  refine c_seq ?_
  refine c_seq ?_
  refine c_reg ?_
  refine s_y (Y_mv) rfl rfl ?_
  refine s_y (Y_lss rfl rfl) rfl rfl ?_
  refine s_y (Y_mv) rfl rfl ?_
  apply s_or 6 [21, 22, 23, 24, 25, 26, 27] 27 (g := 21) rfl rfl
  · intro ht3 hm
    try simp only [nrm_] at ht3
    first | refine s_y (Y_mv) rfl rfl ?_ | refine s_pass rfl rfl ?_
    first | refine s_y (Y_fa 5 rfl Tryz.underlying34 rfl sz30 rfl) rfl rfl ?_ | refine s_pass rfl rfl ?_
    first | refine s_y (yl_ one30) rfl rfl ?_ | refine s_pass rfl rfl ?_
    first | refine s_y (Y_len rfl rfl Tryz.underlying30) rfl rfl ?_ | refine s_pass rfl rfl ?_
    first | refine s_y (Y_geq rfl rfl) rfl rfl ?_ | refine s_pass rfl rfl ?_
    refine s_y (Y_pk rfl Gx.const (Gx.tmp gt_)) rfl rfl ?_
    first | exact hm _ ⟨rfl, trivial⟩ rfl | exact QL.sub sl_ (hm _ ⟨rfl, trivial⟩ rfl)
  · intro ht3 hm
    iterate 5 refine s_pass rfl rfl ?_
    refine s_y (Y_pk rfl Gx.const (Gx.tmp gt_)) rfl rfl ?_
    exact hm _ ⟨rfl, trivial⟩ rfl
  intro j27
  refine s_y (Y_mv) rfl rfl ?_
  apply s_or 8 [28, 29, 30, 31, 32, 33, 34, 35, 36] 36 (g := 28) rfl rfl
  · intro ht10 hm
    try simp only [nrm_] at ht10
    first | refine s_y (Y_fa 5 rfl Tryz.underlying34 rfl sz30 rfl) rfl rfl ?_ | refine s_pass rfl rfl ?_
    first | refine s_y (yl_ one30) rfl rfl ?_ | refine s_pass rfl rfl ?_
    first | refine s_y (Y_mv) rfl rfl ?_ | refine s_pass rfl rfl ?_
    first | refine s_y (Y_ia (n := i) rfl rfl Tryz.underlying30 sz93 rfl (by omega)) rfl rfl ?_ | refine s_pass rfl rfl ?_
    first | refine s_y (Y_fa 0 rfl Tryz.underlying93 rfl sz3 rfl) rfl rfl ?_ | refine s_pass rfl rfl ?_
    first | refine s_y (Y_loadR (v := iv e.kind) (i := 0) rfl one3 hre rfl rfl) rfl rfl ?_ | refine s_pass rfl rfl ?_
    first | refine s_y (Y_eql rfl rfl) rfl rfl ?_ | refine s_pass rfl rfl ?_
    refine s_y (Y_pk rfl Gx.const (Gx.tmp gt_)) rfl rfl ?_
    first | exact hm _ ⟨rfl, trivial⟩ rfl | exact QL.sub sl_ (hm _ ⟨rfl, trivial⟩ rfl)
  · intro ht10 hm
    iterate 7 refine s_pass rfl rfl ?_
    refine s_y (Y_pk rfl Gx.const (Gx.tmp gt_)) rfl rfl ?_
    exact hm _ ⟨rfl, trivial⟩ rfl
  intro j36
  refine s_y (Y_mv) rfl rfl ?_
  apply s_or 8 [37, 38, 39, 40, 41, 42, 43, 44, 45] 45 (g := 37) rfl rfl
  · intro ht19 hm
    try simp only [nrm_] at ht19
    first | refine s_y (Y_fa 5 rfl Tryz.underlying34 rfl sz30 rfl) rfl rfl ?_ | refine s_pass rfl rfl ?_
    first | refine s_y (yl_ one30) rfl rfl ?_ | refine s_pass rfl rfl ?_
    first | refine s_y (Y_mv) rfl rfl ?_ | refine s_pass rfl rfl ?_
    first | refine s_y (Y_ia (n := i) rfl rfl Tryz.underlying30 sz93 rfl (by omega)) rfl rfl ?_ | refine s_pass rfl rfl ?_
    first | refine s_y (Y_fa 0 rfl Tryz.underlying93 rfl sz3 rfl) rfl rfl ?_ | refine s_pass rfl rfl ?_
    first | refine s_y (Y_loadR (v := iv e.kind) (i := 0) rfl one3 hre rfl rfl) rfl rfl ?_ | refine s_pass rfl rfl ?_
    first | refine s_y (Y_eql rfl rfl) rfl rfl ?_ | refine s_pass rfl rfl ?_
    refine s_y (Y_pk rfl Gx.const (Gx.tmp gt_)) rfl rfl ?_
    first | exact hm _ ⟨rfl, trivial⟩ rfl | exact QL.sub sl_ (hm _ ⟨rfl, trivial⟩ rfl)
  · intro ht19 hm
    iterate 7 refine s_pass rfl rfl ?_
    refine s_y (Y_pk rfl Gx.const (Gx.tmp gt_)) rfl rfl ?_
    exact hm _ ⟨rfl, trivial⟩ rfl
  intro j45
  refine s_nil ?_
  refine q_then ?_
  first | refine c_cond' rfl (fun hc1 => ?_) (fun hc1 => ?_) | refine c_cond rfl (fun hc1 => ?_) (fun hc1 => ?_)
  · skip
    try simp only [nrm_] at hc1
    refine c_seq ?_
    refine c_reg ?_
    refine s_y (Y_asC) rfl rfl ?_
    refine s_nil ?_
    refine q_then ?_
    refine c_ret ?_
    refine q_retG1 rfl gt_ (L' := _) sl_ (⟨by unfold monsterM; simp only; rw [hee, if_pos (by omega)], rfl⟩)
  · skip
    try simp only [nrm_] at hc1
    refine c_skip ?_
    refine q_then ?_
    refine c_seq ?_
    have hk : e.kind ≠ 0 ∧ e.kind ≠ 1 := by omega
    have her := hv.ev.rowOf he hk.1
    have hxy := ent_in her
    have hmo : monsterM d i = if 0 ≤ (preyF d.cells d.ents e 4).2 then (if 0 < besideM e.x e.y (egt d.ents (preyF d.cells d.ents e 4).2).x (egt d.ents (preyF d.cells d.ents e 4).2).y then besideM e.x e.y (egt d.ents (preyF d.cells d.ents e 4).2).x (egt d.ents (preyF d.cells d.ents e 4).2).y else towardsM d.cells d.ents e.x e.y [(egt d.ents (preyF d.cells d.ents e 4).2).y * 24 + (egt d.ents (preyF d.cells d.ents e 4).2).x]) else roamM d i := by
      unfold monsterM; simp only; rw [hee, if_neg (by omega)]
    rw [hmo]
    clear hmo hc1
    refine c_reg ?_
    refine s_y (Y_fa 5 rfl Tryz.underlying34 rfl sz30 rfl) rfl rfl ?_
    refine s_y (yl_ one30) rfl rfl ?_
    refine s_y (Y_mv) rfl rfl ?_
    refine s_y (Y_ia (n := i) rfl rfl Tryz.underlying30 sz93 rfl (by omega)) rfl rfl ?_
    refine s_y (Y_loadNR rfl many93 hre rfl) rfl rfl ?_
    refine s_n (N_alloc (z := .agg #[.int .i64 0, .int .i64 0, .int .i64 0, .int .i64 0, .int .i64 0, .int .i64 0, .int .i64 0, .int .i64 0, .int .i64 0, .int .i64 0, .int .i64 0]) (cs := [.int .i64 0, .int .i64 0, .int .i64 0, .int .i64 0, .int .i64 0, .int .i64 0, .int .i64 0, .int .i64 0, .int .i64 0, .int .i64 0, .int .i64 0]) zv93 rfl) rfl rfl (fun b5 _ => ?_)
    refine s_s (S_storeA (vs := e.cells) rfl rfl sz93 (by rfl) (by rfl) up_ (by rfl)) rfl ?_
    refine s_nil ?_
    refine q_then ?_
    refine c_seq ?_
    refine c_reg ?_
    refine s_y (Y_asC) rfl rfl ?_
    refine s_y (Y_asC) rfl rfl ?_
    refine s_nil ?_
    refine q_then ?_
    refine c_seq ?_
    refine c_seq ?_
    refine c_reg ?_
    refine s_y (Y_asC) rfl rfl ?_
    refine s_nil ?_
    refine q_then ?_
    refine c_block ?_
    refine c_loop [6, 7, 8, 9, 10, 11, 12, 51, 52, 53, 54, 55, 56, 57, 58, 59, 60, 61, 62, 63, 64, 65, 66, 67, 68, 69, 70, 71, 72, 73, 74, 75, 76, 77, 78, 79, 80, 81, 82, 83, 84, 85, 86, 87, 88, 89, 90, 91, 92, 93, 94, 95, 96, 97, 98, 99, 100, 101, 102, 103, 104, 105] (fun m (y : Nat × Int × Int) => y.1 + m = 4 ∧ preyF d.cells d.ents e y.1 = (y.2.1, y.2.2) ∧ (0 ≤ y.2.2 → y.2.2 < 32 ∧ (egt d.ents y.2.2).kind = 1)) (fun y => [(8, iv y.1), (6, iv y.2.1), (7, iv y.2.2)]) (fun _ => [e1B b5 e, wB b2 (wL d s)]) (4) ((0, 0, -1)) (⟨rfl, rfl, fun h => absurd h (by simp only; decide)⟩) (by repeat (first | exact trivial | refine ⟨rfl, ?_⟩)) (fun _ h => h.sub sl_) (fun _ => rfl) ?_
    rintro m ⟨q, n, a⟩ j ⟨hq, hp, ha⟩ K hK
    simp only at hq hp ha ⊢
    refine c_seq ?_
    refine c_seq ?_
    refine c_reg ?_
    refine s_y (Y_mv) rfl rfl ?_
    refine s_y (Y_lss rfl rfl) rfl rfl ?_
    refine s_nil ?_
    refine q_then ?_
    first | refine c_cond' rfl (fun hc6 => ?_) (fun hc6 => ?_) | refine c_cond rfl (fun hc6 => ?_) (fun hc6 => ?_)
    · skip
      try simp only [nrm_] at hc6
      refine c_skip ?_
      refine q_then ?_
      refine c_seq ?_
      refine c_block ?_
      refine c_seq ?_
      refine c_reg ?_
      refine s_y (Y_fa 5 rfl Tryz.underlying34 rfl sz30 rfl) rfl rfl ?_
      refine s_y (yl_ one30) rfl rfl ?_
      refine s_y (Y_mv) rfl rfl ?_
      refine s_c (En_call (fun _ => rfl) Tryz.func54 rfl (by kernel_rfl) rfl) (fun w hH => rhero_d (hw.e.has hH)) rfl rfl ?_
      rintro _ _ ⟨rfl, rfl⟩
      refine s_y (Y_as) rfl rfl ?_
      refine s_nil ?_
      refine q_then ?_
      refine c_seq ?_
      refine c_seq ?_
      refine c_reg ?_
      refine s_y (Y_mv) rfl rfl ?_
      refine s_y (Y_lss rfl rfl) rfl rfl ?_
      refine s_nil ?_
      refine q_then ?_
      first | refine c_cond' rfl (fun hc9 => ?_) (fun hc9 => ?_) | refine c_cond rfl (fun hc9 => ?_) (fun hc9 => ?_)
      · skip
        try simp only [nrm_] at hc9
        refine c_exit ?_
        repeat with_reducible refine q_te ?_
        refine q_exit ?_
        refine q_then ?_
        refine c_reg ?_
        refine s_y (Y_mv) rfl rfl ?_
        refine s_y ad_ rfl rfl ?_
        refine s_y (Y_as) rfl rfl ?_
        refine s_nil ?_
        refine hK (m - 1) (q + 1, n, a) _ _ (by omega) ⟨by simp only; omega, by simp only; rw [prey_none hc9]; exact hp, ha⟩ ⟨rfl, rfl, rfl, trivial⟩ rfl (fun w h => h)
      · skip
        try simp only [nrm_] at hc9
        refine c_skip ?_
        refine q_then ?_
        refine c_seq ?_
        obtain ⟨k, f, hk1, hf, hf1, hf2⟩ := eHero_some (rfl : eHero d.ents q = _) (by omega)
        have hfr := ent_in (hv.ev.rowOf hf (by omega))
        have hkl := lt_of_get hf
        have hrf := hw.e.at' Ent.len hf
        have hst := prey_some hk1 hf hp
        rw [hk1]
        refine c_rord [] [(0, true), (1, true), (2, true), (3, true), (4, true), (5, true), (6, true), (7, true), (8, true), (9, true), (10, true), (11, true), (12, true), (13, true)] (by kernel_rfl) (by kernel_rfl) (by kernel_rfl) (by kernel_rfl) rfl (by intro c a d v w h; cases d <;> exact h) rfl ?_
        simp only [mkOrd, List.filterMap_cons, List.filterMap_nil, List.getElem?_toArray, List.getElem?_cons_zero, List.getElem?_cons_succ, Option.map_some]
        refine o_y (Y_fa 5 rfl Tryz.underlying34 rfl sz30 rfl) rfl rfl ?_
        refine o_y (yl_ one30) rfl rfl ?_
        refine o_y (Y_mv) rfl rfl ?_
        refine o_y (Y_ia (n := k) rfl rfl Tryz.underlying30 sz93 rfl (by omega)) rfl rfl ?_
        refine o_y (Y_fa 3 rfl Tryz.underlying93 rfl sz3 rfl) rfl rfl ?_
        refine o_y (Y_loadR (v := iv f.x) (i := 3) rfl one3 hrf rfl rfl) rfl rfl ?_
        refine o_y (Y_fa 5 rfl Tryz.underlying34 rfl sz30 rfl) rfl rfl ?_
        refine o_y (yl_ one30) rfl rfl ?_
        refine o_y (Y_mv) rfl rfl ?_
        refine o_y (Y_ia (n := k) rfl rfl Tryz.underlying30 sz93 rfl (by omega)) rfl rfl ?_
        refine o_y (Y_fa 4 rfl Tryz.underlying93 rfl sz3 rfl) rfl rfl ?_
        refine o_y (Y_loadR (v := iv f.y) (i := 4) rfl one3 hrf rfl rfl) rfl rfl ?_
        refine o_y (Y_as) rfl rfl ?_
        refine o_y (Y_as) rfl rfl ?_
        refine o_nil ?_
        refine q_then ?_
        refine c_seq ?_
        refine c_reg ?_
        refine s_y (Y_mv) rfl rfl ?_
        refine s_y (Y_fa 3 rfl Tryz.underlying93 rfl sz3 rfl) rfl rfl ?_
        refine s_y (yl_ one3) rfl rfl ?_
        refine s_y su_ rfl rfl ?_
        refine s_y (Y_mv) rfl rfl ?_
        refine s_y (Y_fa 4 rfl Tryz.underlying93 rfl sz3 rfl) rfl rfl ?_
        refine s_y (yl_ one3) rfl rfl ?_
        refine s_y su_ rfl rfl ?_
        refine s_c (En_call (fun _ => rfl) Tryz.func146 rfl (by kernel_rfl) rfl) (fun w hH => rdist_d (by omega) (by omega)) rfl rfl ?_
        rintro _ _ ⟨rfl, rfl⟩
        refine s_y (Y_as) rfl rfl ?_
        refine s_nil ?_
        obtain ⟨far, hfar⟩ : ∃ z, farD (f.x - e.x) (f.y - e.y) = z := ⟨_, rfl⟩
        rw [hfar] at hst ⊢
        refine q_then ?_
        refine c_seq ?_
        refine c_reg ?_
        refine s_y (Y_mv) rfl rfl ?_
        refine s_y (Y_leq rfl rfl) rfl rfl ?_
        refine s_y (Y_mv) rfl rfl ?_
        apply s_and 10 [84, 85, 86, 87, 88, 89, 90, 91, 92, 93, 94] 94 (g := 84) rfl rfl
        · intro ht3 hm
          try simp only [nrm_] at ht3
          first | refine s_y (Y_fa 4 rfl Tryz.underlying34 rfl sz24 rfl) rfl rfl ?_ | refine s_pass rfl rfl ?_
          first | refine s_y (yl_ one24) rfl rfl ?_ | refine s_pass rfl rfl ?_
          first | refine s_y (Y_fa 3 rfl Tryz.underlying93 rfl sz3 rfl) rfl rfl ?_ | refine s_pass rfl rfl ?_
          first | refine s_y (yl_ one3) rfl rfl ?_ | refine s_pass rfl rfl ?_
          first | refine s_y (Y_fa 4 rfl Tryz.underlying93 rfl sz3 rfl) rfl rfl ?_ | refine s_pass rfl rfl ?_
          first | refine s_y (yl_ one3) rfl rfl ?_ | refine s_pass rfl rfl ?_
          first | refine s_y (Y_mv) rfl rfl ?_ | refine s_pass rfl rfl ?_
          first | refine s_y (Y_mv) rfl rfl ?_ | refine s_pass rfl rfl ?_
          refine s_c (En_call (fun _ => rfl) Tryz.func147 rfl (by kernel_rfl) rfl) (fun w hH => rsees_d (hw.c.has hH)) rfl rfl ?_
          rintro _ _ ⟨rfl, rfl⟩
          refine s_y (Y_pk rfl (Gx.tmp gt_) Gx.const) rfl rfl ?_
          first | exact hm _ ⟨rfl, trivial⟩ rfl | exact QL.sub sl_ (hm _ ⟨rfl, trivial⟩ rfl)
        · intro ht3 hm
          iterate 9 refine s_pass rfl rfl ?_
          refine s_y (Y_pk rfl (Gx.tmp gt_) Gx.const) rfl rfl ?_
          exact hm _ ⟨rfl, trivial⟩ rfl
        intro j94
        refine s_y (Y_mv) rfl rfl ?_
        apply s_and 8 [95, 96, 97, 98, 99, 100, 101, 102, 103] 103 (g := 95) rfl rfl
        · intro ht14 hm
          try simp only [nrm_] at ht14
          first | refine s_y (Y_mv) rfl rfl ?_ | refine s_pass rfl rfl ?_
          first | refine s_y (Y_lss rfl rfl) rfl rfl ?_ | refine s_pass rfl rfl ?_
          first | refine s_y (Y_mv) rfl rfl ?_ | refine s_pass rfl rfl ?_
          apply s_or 4 [98, 99, 100, 101, 102] 102 (g := 98) rfl rfl
          · intro ht17 hm
            try simp only [nrm_] at ht17
            first | refine s_y (Y_mv) rfl rfl ?_ | refine s_pass rfl rfl ?_
            first | refine s_y (Y_mv) rfl rfl ?_ | refine s_pass rfl rfl ?_
            first | refine s_y (Y_lss rfl rfl) rfl rfl ?_ | refine s_pass rfl rfl ?_
            first | refine s_y (Y_pk rfl Gx.const (Gx.tmp gt_)) rfl rfl ?_ | refine s_pass rfl rfl ?_
            first | exact hm _ ⟨rfl, trivial⟩ rfl | exact QL.sub sl_ (hm _ ⟨rfl, trivial⟩ rfl)
          · intro ht17 hm
            iterate 3 refine s_pass rfl rfl ?_
            first | refine s_y (Y_pk rfl Gx.const (Gx.tmp gt_)) rfl rfl ?_ | refine s_pass rfl rfl ?_
            exact hm _ ⟨rfl, trivial⟩ rfl
          intro j102
          refine s_y (Y_pk rfl (Gx.tmp gt_) Gx.const) rfl rfl ?_
          first | exact hm _ ⟨rfl, trivial⟩ rfl | exact QL.sub sl_ (hm _ ⟨rfl, trivial⟩ rfl)
        · intro ht14 hm
          iterate 7 refine s_pass rfl rfl ?_
          refine s_y (Y_pk rfl (Gx.tmp gt_) Gx.const) rfl rfl ?_
          exact hm _ ⟨rfl, trivial⟩ rfl
        intro j103
        refine s_nil ?_
        refine q_then ?_
        first | refine c_cond' rfl (fun hc12 => ?_) (fun hc12 => ?_) | refine c_cond rfl (fun hc12 => ?_) (fun hc12 => ?_)
        · skip
          try simp only [nrm_] at hc12
          refine c_reg ?_
          refine s_y (Y_mv) rfl rfl ?_
          refine s_y (Y_mv) rfl rfl ?_
          refine s_y (Y_as) rfl rfl ?_
          refine s_y (Y_as) rfl rfl ?_
          refine s_nil ?_
          refine q_bn ?_
          refine q_then ?_
          refine c_reg ?_
          refine s_y (Y_mv) rfl rfl ?_
          refine s_y ad_ rfl rfl ?_
          refine s_y (Y_as) rfl rfl ?_
          refine s_nil ?_
          refine hK (m - 1) (q + 1, far, (k : Int)) _ _ (by omega) ⟨by simp only; omega, by simp only; rw [hst, if_pos ⟨hc12.1.1, hc12.1.2, hc12.2⟩], fun _ => ⟨by simp only; omega, by simp only; rw [egt_of hf]; exact hf1⟩⟩ ⟨rfl, rfl, rfl, trivial⟩ rfl (fun w h => h)
        · skip
          try simp only [nrm_] at hc12
          refine c_skip ?_
          refine q_bn ?_
          refine q_then ?_
          refine c_reg ?_
          refine s_y (Y_mv) rfl rfl ?_
          refine s_y ad_ rfl rfl ?_
          refine s_y (Y_as) rfl rfl ?_
          refine s_nil ?_
          refine hK (m - 1) (q + 1, n, a) _ _ (by omega) ⟨by simp only; omega, ?_, ha⟩ ⟨rfl, rfl, rfl, trivial⟩ rfl (fun w h => h)
          simp only; rw [hst, if_neg]
          rintro ⟨q1, q2, q3⟩
          rcases hc12 with (h | h) | h
          · exact h q1
          · rw [q2] at h; cases h
          · exact h.elim (fun a b => by omega)
    · skip
      try simp only [nrm_] at hc6
      refine c_exit ?_
      repeat with_reducible refine q_te ?_
      refine q_exit ?_
      refine q_then ?_
      refine c_seq ?_
      refine c_seq ?_
      obtain rfl : q = 4 := by omega
      rw [hp]
      simp only
      refine c_reg ?_
      refine s_y (Y_mv) rfl rfl ?_
      refine s_y (Y_geq rfl rfl) rfl rfl ?_
      refine s_nil ?_
      refine q_then ?_
      first | refine c_cond' rfl (fun hc14 => ?_) (fun hc14 => ?_) | refine c_cond rfl (fun hc14 => ?_) (fun hc14 => ?_)
      · skip
        try simp only [nrm_] at hc14
        refine c_seq ?_
        rw [if_pos hc14]
        obtain ⟨hal, hak⟩ := ha hc14
        obtain ⟨k, rfl, hf⟩ := egt_some (l := d.ents) (r := a) (by omega)
        obtain ⟨f, hff⟩ : ∃ z, egt d.ents (k : Int) = z := ⟨_, rfl⟩
        rw [hff] at hf hak ⊢
        have hfr := ent_in (hv.ev.rowOf hf (by omega))
        have hrf := hw.e.at' Ent.len hf
        refine c_rord [] [(0, true), (1, true), (2, true), (3, true), (4, true), (5, true), (6, true), (7, true), (8, true), (9, true), (10, true), (11, true), (12, true), (13, true)] (by kernel_rfl) (by kernel_rfl) (by kernel_rfl) (by kernel_rfl) rfl (by intro c a d v w h; cases d <;> exact h) rfl ?_
        simp only [mkOrd, List.filterMap_cons, List.filterMap_nil, List.getElem?_toArray, List.getElem?_cons_zero, List.getElem?_cons_succ, Option.map_some]
        refine o_y (Y_fa 5 rfl Tryz.underlying34 rfl sz30 rfl) rfl rfl ?_
        refine o_y (yl_ one30) rfl rfl ?_
        refine o_y (Y_mv) rfl rfl ?_
        refine o_y (Y_ia (n := k) rfl rfl Tryz.underlying30 sz93 rfl (by omega)) rfl rfl ?_
        refine o_y (Y_fa 3 rfl Tryz.underlying93 rfl sz3 rfl) rfl rfl ?_
        refine o_y (Y_loadR (v := iv f.x) (i := 3) rfl one3 hrf rfl rfl) rfl rfl ?_
        refine o_y (Y_fa 5 rfl Tryz.underlying34 rfl sz30 rfl) rfl rfl ?_
        refine o_y (yl_ one30) rfl rfl ?_
        refine o_y (Y_mv) rfl rfl ?_
        refine o_y (Y_ia (n := k) rfl rfl Tryz.underlying30 sz93 rfl (by omega)) rfl rfl ?_
        refine o_y (Y_fa 4 rfl Tryz.underlying93 rfl sz3 rfl) rfl rfl ?_
        refine o_y (Y_loadR (v := iv f.y) (i := 4) rfl one3 hrf rfl rfl) rfl rfl ?_
        refine o_y (Y_as) rfl rfl ?_
        refine o_y (Y_as) rfl rfl ?_
        refine o_nil ?_
        refine q_then ?_
        refine c_seq ?_
        refine c_reg ?_
        refine s_y (Y_fa 3 rfl Tryz.underlying93 rfl sz3 rfl) rfl rfl ?_
        refine s_y (yl_ one3) rfl rfl ?_
        refine s_y (Y_fa 4 rfl Tryz.underlying93 rfl sz3 rfl) rfl rfl ?_
        refine s_y (yl_ one3) rfl rfl ?_
        refine s_y (Y_mv) rfl rfl ?_
        refine s_y (Y_mv) rfl rfl ?_
        refine s_c (En_call (fun _ => rfl) Tryz.func148 rfl (by kernel_rfl) rfl) (fun w hH => rbeside_d (by omega) (by omega)) rfl rfl ?_
        rintro _ _ ⟨rfl, rfl⟩
        refine s_y (Y_as) rfl rfl ?_
        refine s_nil ?_
        refine q_then ?_
        refine c_seq ?_
        refine c_seq ?_
        refine c_reg ?_
        refine s_y (Y_mv) rfl rfl ?_
        refine s_y (Y_gtr rfl rfl) rfl rfl ?_
        refine s_nil ?_
        refine q_then ?_
        first | refine c_cond' rfl (fun hc17 => ?_) (fun hc17 => ?_) | refine c_cond rfl (fun hc17 => ?_) (fun hc17 => ?_)
        · skip
          try simp only [nrm_] at hc17
          refine c_seq ?_
          refine c_reg ?_
          refine s_y (Y_mv) rfl rfl ?_
          refine s_y (Y_as) rfl rfl ?_
          refine s_nil ?_
          refine q_then ?_
          refine c_ret ?_
          refine q_retG1 rfl gt_ (L' := _) sl_ (⟨by rw [if_pos (by omega)], rfl⟩)
        · skip
          try simp only [nrm_] at hc17
          refine c_skip ?_
          refine q_then ?_
          refine c_seq ?_
          refine c_reg ?_
          refine s_y (Y_fa 4 rfl Tryz.underlying34 rfl sz24 rfl) rfl rfl ?_
          refine s_y (yl_ one24) rfl rfl ?_
          refine s_y (Y_fa 5 rfl Tryz.underlying34 rfl sz30 rfl) rfl rfl ?_
          refine s_y (yl_ one30) rfl rfl ?_
          refine s_y (Y_fa 3 rfl Tryz.underlying93 rfl sz3 rfl) rfl rfl ?_
          refine s_y (yl_ one3) rfl rfl ?_
          refine s_y (Y_fa 4 rfl Tryz.underlying93 rfl sz3 rfl) rfl rfl ?_
          refine s_y (yl_ one3) rfl rfl ?_
          refine s_y (Y_mv) rfl rfl ?_
          refine s_y mu_ rfl rfl ?_
          refine s_y (Y_mv) rfl rfl ?_
          refine s_y ad_ rfl rfl ?_
          refine s_n (N_bs (xs := [.tmp 141]) (by repeat (first | exact Gv.nil | apply Gv.const | apply Gv.tmp gt_)) rfl Tryz.underlying23 inf3 rfl (by omega) (by omega) (by first | simp [Value.oneCell'] | (intro v hv; simp at hv; subst hv; rfl))) rfl rfl (fun b142 _ => ?_)
          refine s_c (En_call (fun _ => rfl) Tryz.func142 rfl (by kernel_rfl) rfl) (fun w hH => rtoward_nav_d (hw.c.has hH) (hw.e.has hH) (by omega) (ts := [f.y * 24 + f.x]) ((hH.at' (x := ⟨b142, 3, 1, 1, [iv (f.y * 24 + f.x)]⟩) mm_).sl rfl (Nat.le_refl _))) rfl rfl ?_
          rintro _ _ ⟨rfl, rfl⟩
          refine s_y (Y_as) rfl rfl ?_
          refine s_nil ?_
          refine q_then ?_
          refine c_ret ?_
          refine q_retG1 rfl gt_ (L' := _) sl_ (⟨by rw [if_neg (by omega)], rfl⟩)
      · skip
        try simp only [nrm_] at hc14
        refine c_skip ?_
        refine q_then ?_
        refine c_seq ?_
        rw [if_neg hc14]
        have hrm : roamM d i = if 1 ≤ dieM 8 d.seed [d.frame, i, 90] ∧ dieM 8 d.seed [d.frame, i, 90] ≤ 4 ∧ walkM (atM d.cells (e.x + wx (dieM 8 d.seed [d.frame, i, 90])) (e.y + wy (dieM 8 d.seed [d.frame, i, 90]))) = true ∧ eAt d.ents (e.x + wx (dieM 8 d.seed [d.frame, i, 90])) (e.y + wy (dieM 8 d.seed [d.frame, i, 90])) < 0 then dieM 8 d.seed [d.frame, i, 90] else 0 := by
          unfold roamM; simp only; rw [hee]
        rw [hrm]
        clear hrm
        refine c_reg ?_
        refine s_y (Y_fa 0 rfl Tryz.underlying34 rfl sz2 rfl) rfl rfl ?_
        refine s_y (yl_ one2) rfl rfl ?_
        refine s_y (Y_fa 1 rfl Tryz.underlying34 rfl sz3 rfl) rfl rfl ?_
        refine s_y (yl_ one3) rfl rfl ?_
        refine s_y (Y_mv) rfl rfl ?_
        refine s_n (N_bs (xs := [.tmp 147, .tmp 148, .const (Value.int Go.IntKind.i64 90)]) (by repeat (first | exact Gv.nil | apply Gv.const | apply Gv.tmp gt_)) rfl Tryz.underlying23 inf3 rfl (by omega) (by omega) (by first | simp [Value.oneCell'] | (intro v hv; simp at hv; subst hv; rfl))) rfl rfl (fun b149 _ => ?_)
        refine s_c (En_call (fun _ => rfl) Tryz.func149 rfl (by kernel_rfl) rfl) (fun w hH => rdie_d (l := [d.frame, i, 90]) (by decide) ((hH.at' (x := ⟨b149, 3, 1, 3, [iv d.frame, iv i, iv 90]⟩) mm_).sl rfl (Nat.le_refl _))) rfl rfl ?_
        rintro _ _ ⟨rfl, rfl⟩
        refine s_y (Y_as) rfl rfl ?_
        refine s_nil ?_
        obtain ⟨die, hdie⟩ : ∃ z, dieM 8 d.seed [d.frame, i, 90] = z := ⟨_, rfl⟩
        rw [hdie]
        have hwr := way_rng die
        refine q_then ?_
        refine c_seq ?_
        refine c_seq ?_
        refine c_reg ?_
        refine s_y (Y_mv) rfl rfl ?_
        refine s_y (Y_geq rfl rfl) rfl rfl ?_
        refine s_y (Y_mv) rfl rfl ?_
        apply s_and 3 [153, 154, 155, 156] 156 (g := 153) rfl rfl
        · intro ht3 hm
          try simp only [nrm_] at ht3
          first | refine s_y (Y_mv) rfl rfl ?_ | refine s_pass rfl rfl ?_
          first | refine s_y (Y_leq rfl rfl) rfl rfl ?_ | refine s_pass rfl rfl ?_
          refine s_y (Y_pk rfl (Gx.tmp gt_) Gx.const) rfl rfl ?_
          first | exact hm _ ⟨rfl, trivial⟩ rfl | exact QL.sub sl_ (hm _ ⟨rfl, trivial⟩ rfl)
        · intro ht3 hm
          iterate 2 refine s_pass rfl rfl ?_
          refine s_y (Y_pk rfl (Gx.tmp gt_) Gx.const) rfl rfl ?_
          exact hm _ ⟨rfl, trivial⟩ rfl
        intro j156
        refine s_nil ?_
        refine q_then ?_
        first | refine c_cond' rfl (fun hc21 => ?_) (fun hc21 => ?_) | refine c_cond rfl (fun hc21 => ?_) (fun hc21 => ?_)
        · skip
          try simp only [nrm_] at hc21
          refine c_seq ?_
          refine c_reg ?_
          refine s_y (Y_mv) rfl rfl ?_
          refine s_c (En_call (fun _ => rfl) Tryz.func140 rfl (by kernel_rfl) rfl) (fun w hH => rway_d) rfl rfl ?_
          rintro _ _ ⟨rfl, rfl⟩
          refine s_y (Y_mv) rfl rfl ?_
          refine s_y (Y_extract rfl rfl) rfl rfl ?_
          refine s_y (Y_extract rfl rfl) rfl rfl ?_
          refine s_y (Y_as) rfl rfl ?_
          refine s_y (Y_as) rfl rfl ?_
          refine s_nil ?_
          refine q_then ?_
          refine c_seq ?_
          refine c_reg ?_
          refine s_y (Y_fa 4 rfl Tryz.underlying34 rfl sz24 rfl) rfl rfl ?_
          refine s_y (yl_ one24) rfl rfl ?_
          refine s_y (Y_fa 3 rfl Tryz.underlying93 rfl sz3 rfl) rfl rfl ?_
          refine s_y (yl_ one3) rfl rfl ?_
          refine s_y (Y_mv) rfl rfl ?_
          refine s_y ad_ rfl rfl ?_
          refine s_y (Y_fa 4 rfl Tryz.underlying93 rfl sz3 rfl) rfl rfl ?_
          refine s_y (yl_ one3) rfl rfl ?_
          refine s_y (Y_mv) rfl rfl ?_
          refine s_y ad_ rfl rfl ?_
          refine s_c (En_call (fun _ => rfl) Tryz.func91 rfl (by kernel_rfl) rfl) (fun w hH => rat_d (hw.c.has hH)) rfl rfl ?_
          rintro _ _ ⟨rfl, rfl⟩
          refine s_c (En_call (fun _ => rfl) Tryz.func97 rfl (by kernel_rfl) rfl) (fun w hH => rwalk_d) rfl rfl ?_
          rintro _ _ ⟨rfl, rfl⟩
          refine s_y (Y_mv) rfl rfl ?_
          apply s_and 13 [174, 175, 176, 177, 178, 179, 180, 181, 182, 183, 184, 185, 186, 187] 187 (g := 174) rfl rfl
          · intro ht13 hm
            try simp only [nrm_] at ht13
            first | refine s_y (Y_fa 5 rfl Tryz.underlying34 rfl sz30 rfl) rfl rfl ?_ | refine s_pass rfl rfl ?_
            first | refine s_y (yl_ one30) rfl rfl ?_ | refine s_pass rfl rfl ?_
            first | refine s_y (Y_fa 3 rfl Tryz.underlying93 rfl sz3 rfl) rfl rfl ?_ | refine s_pass rfl rfl ?_
            first | refine s_y (yl_ one3) rfl rfl ?_ | refine s_pass rfl rfl ?_
            first | refine s_y (Y_mv) rfl rfl ?_ | refine s_pass rfl rfl ?_
            first | refine s_y ad_ rfl rfl ?_ | refine s_pass rfl rfl ?_
            first | refine s_y (Y_fa 4 rfl Tryz.underlying93 rfl sz3 rfl) rfl rfl ?_ | refine s_pass rfl rfl ?_
            first | refine s_y (yl_ one3) rfl rfl ?_ | refine s_pass rfl rfl ?_
            first | refine s_y (Y_mv) rfl rfl ?_ | refine s_pass rfl rfl ?_
            first | refine s_y ad_ rfl rfl ?_ | refine s_pass rfl rfl ?_
            refine s_c (En_call (fun _ => rfl) Tryz.func73 rfl (by kernel_rfl) rfl) (fun w hH => reat_d (hw.e.has hH)) rfl rfl ?_
            rintro _ _ ⟨rfl, rfl⟩
            first | refine s_y (Y_lss rfl rfl) rfl rfl ?_ | refine s_pass rfl rfl ?_
            refine s_y (Y_pk rfl (Gx.tmp gt_) Gx.const) rfl rfl ?_
            first | exact hm _ ⟨rfl, trivial⟩ rfl | exact QL.sub sl_ (hm _ ⟨rfl, trivial⟩ rfl)
          · intro ht13 hm
            iterate 12 refine s_pass rfl rfl ?_
            refine s_y (Y_pk rfl (Gx.tmp gt_) Gx.const) rfl rfl ?_
            exact hm _ ⟨rfl, trivial⟩ rfl
          intro j187
          refine s_nil ?_
          refine q_then ?_
          first | refine c_cond' rfl (fun hc23 => ?_) (fun hc23 => ?_) | refine c_cond rfl (fun hc23 => ?_) (fun hc23 => ?_)
          · skip
            try simp only [nrm_] at hc23
            refine c_seq ?_
            refine c_reg ?_
            refine s_y (Y_mv) rfl rfl ?_
            refine s_y (Y_as) rfl rfl ?_
            refine s_nil ?_
            refine q_then ?_
            refine c_ret ?_
            refine q_retG1 rfl gt_ (L' := _) sl_ (⟨by rw [if_pos ⟨hc21.1, hc21.2, hc23.1, hc23.2⟩], rfl⟩)
          · skip
            try simp only [nrm_] at hc23
            refine c_skip ?_
            refine q_then ?_
            refine c_seq ?_
            refine c_reg ?_
            refine s_y (Y_asC) rfl rfl ?_
            refine s_nil ?_
            refine q_then ?_
            refine c_ret ?_
            refine q_retG1 rfl gt_ (L' := _) sl_ (⟨by rw [if_neg (by rintro ⟨q1, q2, q3, q4⟩; rcases hc23 with h | h; rw [q3] at h; cases h; exact h q4)], rfl⟩)
        · skip
          try simp only [nrm_] at hc21
          refine c_skip ?_
          refine q_then ?_
          refine c_seq ?_
          refine c_reg ?_
          refine s_y (Y_asC) rfl rfl ?_
          refine s_nil ?_
          refine q_then ?_
          refine c_ret ?_
          refine q_retG1 rfl gt_ (L' := _) sl_ (⟨by rw [if_neg (by rintro ⟨q1, q2, q3, q4⟩; omega)], rfl⟩)
set_option maxRecDepth 100000 in
set_option maxHeartbeats 1600000 in
theorem rrobot_d {d : Wd} {s : Ws} (hw : WL W d s) (hv : VW d) {k : Int} : Does Tryz.prog 89 [.agg (wL d s).toArray, iv k] W [] (fun v L => v = iv (robotM d k) ∧ L = []) := by
  obtain ⟨z1, z2, z3⟩ := hw.sz
  refine enter Tryz.func89 rfl rfl rfl (Has.start _) ?_
  refine c_seq ?_
  refine c_reg ?_
  refine s_n (N_box (cs := wL d s) rfl) rfl rfl (fun b2 _ => ?_)
  refine s_y (Y_asC) rfl rfl ?_
  refine s_nil ?_
  refine q_then ?_
  refine c_seq ?_
  refine c_reg ?_
  refine s_y (Y_fa 5 rfl Tryz.underlying34 rfl sz30 rfl) rfl rfl ?_
  refine s_y (yl_ one30) rfl rfl ?_
  refine s_y (Y_mv) rfl rfl ?_
  refine s_c (En_call (fun _ => rfl) Tryz.func54 rfl (by kernel_rfl) rfl) (fun w hH => rhero_d (hw.e.has hH)) rfl rfl ?_
  rintro _ _ ⟨rfl, rfl⟩
  refine s_y (Y_as) rfl rfl ?_
  refine s_nil ?_
  refine q_then ?_
  refine c_seq ?_
  refine c_seq ?_
  refine c_reg ?_
  refine s_y (Y_mv) rfl rfl ?_
  refine s_y (Y_lss rfl rfl) rfl rfl ?_
  refine s_nil ?_
  refine q_then ?_
  first | refine c_cond' rfl (fun hc2 => ?_) (fun hc2 => ?_) | refine c_cond rfl (fun hc2 => ?_) (fun hc2 => ?_)
  · skip
    try simp only [nrm_] at hc2
    refine c_seq ?_
    refine c_reg ?_
    refine s_y (Y_asC) rfl rfl ?_
    refine s_nil ?_
    refine q_then ?_
    refine c_ret ?_
    refine q_retG1 rfl gt_ (L' := _) sl_ (⟨by unfold robotM; simp only; rw [if_pos hc2], rfl⟩)
  · skip
    try simp only [nrm_] at hc2
    refine c_skip ?_
    refine q_then ?_
    refine c_seq ?_
    obtain ⟨r, e, hr, he, he1, he2⟩ := eHero_some (rfl : eHero d.ents k = _) (by omega)
    have hrl := lt_of_get he
    have her := hv.ev.rowOf he (by omega)
    have hxy := ent_in her
    have hep := her.hp
    have hmx := her.st.1
    have hsl := stats_low e.kind
    have hre := hw.e.at' Ent.len he
    have hro : robotM d k = if e.hp ≤ e.max / 3 ∧ 0 ≤ hasM d.items k 1 1 then 6 else if 0 < dirM (fun d2 => foeAt d.ents (e.x + wx d2) (e.y + wy d2)) 4 1 then dirM (fun d2 => foeAt d.ents (e.x + wx d2) (e.y + wy d2)) 4 1 else if 0 ≤ iIn d.items 1 e.x e.y ∧ ((igt d.items (iIn d.items 1 e.x e.y)).kind = 4 ∨ 0 ≤ slotM d.items k) then 5 else if atM d.cells e.x e.y = 4 then 9 else towardsM d.cells d.ents e.x e.y [findM d.cells 4] := by
      unfold robotM; simp only; rw [if_neg hc2, hr, egt_of he, Int.tdiv_eq_ediv_of_nonneg (by omega)]
    rw [hro, hr]
    clear hro
    refine c_reg ?_
    refine s_y (Y_fa 5 rfl Tryz.underlying34 rfl sz30 rfl) rfl rfl ?_
    refine s_y (yl_ one30) rfl rfl ?_
    refine s_y (Y_mv) rfl rfl ?_
    refine s_y (Y_ia (n := r) rfl rfl Tryz.underlying30 sz93 rfl (by omega)) rfl rfl ?_
    refine s_y (Y_loadNR rfl many93 hre rfl) rfl rfl ?_
    refine s_n (N_alloc (z := .agg #[.int .i64 0, .int .i64 0, .int .i64 0, .int .i64 0, .int .i64 0, .int .i64 0, .int .i64 0, .int .i64 0, .int .i64 0, .int .i64 0, .int .i64 0]) (cs := [.int .i64 0, .int .i64 0, .int .i64 0, .int .i64 0, .int .i64 0, .int .i64 0, .int .i64 0, .int .i64 0, .int .i64 0, .int .i64 0, .int .i64 0]) zv93 rfl) rfl rfl (fun b6 _ => ?_)
    refine s_s (S_storeA (vs := e.cells) rfl rfl sz93 (by rfl) (by rfl) up_ (by rfl)) rfl ?_
    refine s_nil ?_
    refine q_then ?_
    refine c_seq ?_
    refine c_seq ?_
    refine c_reg ?_
    refine s_y (Y_fa 5 rfl Tryz.underlying93 rfl sz3 rfl) rfl rfl ?_
    refine s_y (yl_ one3) rfl rfl ?_
    refine s_y (Y_fa 6 rfl Tryz.underlying93 rfl sz3 rfl) rfl rfl ?_
    refine s_y (yl_ one3) rfl rfl ?_
    refine s_y ((by first | exact Y_quo rfl rfl (by omega) | exact Y_quow rfl rfl (by omega))) rfl rfl ?_
    refine s_y (Y_leq rfl rfl) rfl rfl ?_
    refine s_y (Y_mv) rfl rfl ?_
    apply s_and 6 [29, 30, 31, 32, 33, 34, 35] 35 (g := 29) rfl rfl
    · intro ht7 hm
      try simp only [nrm_] at ht7
      first | refine s_y (Y_fa 6 rfl Tryz.underlying34 rfl sz31 rfl) rfl rfl ?_ | refine s_pass rfl rfl ?_
      first | refine s_y (yl_ one31) rfl rfl ?_ | refine s_pass rfl rfl ?_
      first | refine s_y (Y_mv) rfl rfl ?_ | refine s_pass rfl rfl ?_
      refine s_c (En_call (fun _ => rfl) Tryz.func139 rfl (by kernel_rfl) rfl) (fun w hH => rpotion_d (hw.i.has hH)) rfl rfl ?_
      rintro _ _ ⟨rfl, rfl⟩
      first | refine s_y (Y_geq rfl rfl) rfl rfl ?_ | refine s_pass rfl rfl ?_
      refine s_y (Y_pk rfl (Gx.tmp gt_) Gx.const) rfl rfl ?_
      first | exact hm _ ⟨rfl, trivial⟩ rfl | exact QL.sub sl_ (hm _ ⟨rfl, trivial⟩ rfl)
    · intro ht7 hm
      iterate 5 refine s_pass rfl rfl ?_
      refine s_y (Y_pk rfl (Gx.tmp gt_) Gx.const) rfl rfl ?_
      exact hm _ ⟨rfl, trivial⟩ rfl
    intro j35
    refine s_nil ?_
    refine q_then ?_
    first | refine c_cond' rfl (fun hc5 => ?_) (fun hc5 => ?_) | refine c_cond rfl (fun hc5 => ?_) (fun hc5 => ?_)
    · skip
      try simp only [nrm_] at hc5
      refine c_seq ?_
      refine c_reg ?_
      refine s_y (Y_asC) rfl rfl ?_
      refine s_nil ?_
      refine q_then ?_
      refine c_ret ?_
      refine q_retG1 rfl gt_ (L' := _) sl_ (⟨by rw [if_pos hc5], rfl⟩)
    · skip
      try simp only [nrm_] at hc5
      refine c_skip ?_
      refine q_then ?_
      refine c_seq ?_
      refine c_seq ?_
      rw [if_neg (by omega)]
      refine c_reg ?_
      refine s_y (Y_asC) rfl rfl ?_
      refine s_nil ?_
      refine q_then ?_
      refine c_block ?_
      refine c_loop [4, 7, 8, 9, 10, 36, 37, 38, 39, 40, 41, 42, 43, 44, 45, 46, 47, 48, 49, 50, 51, 52, 53, 54, 55, 56, 57, 58, 59, 60, 61, 62, 63, 64, 65, 66, 67] (fun m (q : Nat) => q + m = 5 ∧ 1 ≤ q ∧ dirM (fun d2 => foeAt d.ents (e.x + wx d2) (e.y + wy d2)) m q = dirM (fun d2 => foeAt d.ents (e.x + wx d2) (e.y + wy d2)) 4 1) (fun q => [(7, iv q)]) (fun _ => [e1B b6 e, wB b2 (wL d s)]) (4) (1) (⟨rfl, by decide, rfl⟩) (by repeat (first | exact trivial | refine ⟨rfl, ?_⟩)) (fun _ h => h.sub sl_) (fun _ => rfl) ?_
      rintro m q j ⟨hq, hq1, hf⟩ K hK
      have hwr := way_rng q
      refine c_seq ?_
      refine c_seq ?_
      refine c_reg ?_
      refine s_y (Y_mv) rfl rfl ?_
      refine s_y (Y_leq rfl rfl) rfl rfl ?_
      refine s_nil ?_
      refine q_then ?_
      first | refine c_cond' rfl (fun hc8 => ?_) (fun hc8 => ?_) | refine c_cond rfl (fun hc8 => ?_) (fun hc8 => ?_)
      · skip
        try simp only [nrm_] at hc8
        refine c_skip ?_
        refine q_then ?_
        refine c_seq ?_
        refine c_block ?_
        refine c_seq ?_
        refine c_reg ?_
        refine s_y (Y_mv) rfl rfl ?_
        refine s_c (En_call (fun _ => rfl) Tryz.func140 rfl (by kernel_rfl) rfl) (fun w hH => rway_d) rfl rfl ?_
        rintro _ _ ⟨rfl, rfl⟩
        refine s_y (Y_mv) rfl rfl ?_
        refine s_y (Y_extract rfl rfl) rfl rfl ?_
        refine s_y (Y_extract rfl rfl) rfl rfl ?_
        refine s_y (Y_as) rfl rfl ?_
        refine s_y (Y_as) rfl rfl ?_
        refine s_nil ?_
        refine q_then ?_
        refine c_seq ?_
        refine c_reg ?_
        refine s_y (Y_fa 5 rfl Tryz.underlying34 rfl sz30 rfl) rfl rfl ?_
        refine s_y (yl_ one30) rfl rfl ?_
        refine s_y (Y_fa 3 rfl Tryz.underlying93 rfl sz3 rfl) rfl rfl ?_
        refine s_y (yl_ one3) rfl rfl ?_
        refine s_y (Y_mv) rfl rfl ?_
        refine s_y ad_ rfl rfl ?_
        refine s_y (Y_fa 4 rfl Tryz.underlying93 rfl sz3 rfl) rfl rfl ?_
        refine s_y (yl_ one3) rfl rfl ?_
        refine s_y (Y_mv) rfl rfl ?_
        refine s_y ad_ rfl rfl ?_
        refine s_c (En_call (fun _ => rfl) Tryz.func73 rfl (by kernel_rfl) rfl) (fun w hH => reat_d (hw.e.has hH)) rfl rfl ?_
        rintro _ _ ⟨rfl, rfl⟩
        refine s_y (Y_as) rfl rfl ?_
        refine s_nil ?_
        have har := eAt_rng d.ents (e.x + wx q) (e.y + wy q)
        have hfo : foeAt d.ents (e.x + wx q) (e.y + wy q) = decide (0 ≤ eAt d.ents (e.x + wx q) (e.y + wy q) ∧ (egt d.ents (eAt d.ents (e.x + wx q) (e.y + wy q))).kind ≠ 1) := rfl
        obtain ⟨a, haa⟩ : ∃ z, eAt d.ents (e.x + wx q) (e.y + wy q) = z := ⟨_, rfl⟩
        rw [haa] at har hfo ⊢
        refine q_then ?_
        refine c_seq ?_
        refine c_reg ?_
        refine s_y (Y_mv) rfl rfl ?_
        refine s_y (Y_geq rfl rfl) rfl rfl ?_
        refine s_y (Y_mv) rfl rfl ?_
        apply s_and 8 [58, 59, 60, 61, 62, 63, 64, 65, 66] 66 (g := 58) rfl rfl
        · intro ht3 hm
          try simp only [nrm_] at ht3
          first | refine s_y (Y_fa 5 rfl Tryz.underlying34 rfl sz30 rfl) rfl rfl ?_ | refine s_pass rfl rfl ?_
          first | refine s_y (yl_ one30) rfl rfl ?_ | refine s_pass rfl rfl ?_
          first | refine s_y (Y_mv) rfl rfl ?_ | refine s_pass rfl rfl ?_
          first | refine s_y (Y_ia (n := a.toNat) rfl rfl Tryz.underlying30 sz93 (by omega) (by omega)) rfl rfl ?_ | refine s_pass rfl rfl ?_
          first | refine s_y (Y_fa 0 rfl Tryz.underlying93 rfl sz3 rfl) rfl rfl ?_ | refine s_pass rfl rfl ?_
          first | refine s_y (Y_loadR (v := iv (egt d.ents a).kind) (i := 0) rfl one3 (hw.e.at' Ent.len (eget_of (by omega) (by omega))) rfl rfl) rfl rfl ?_ | refine s_pass rfl rfl ?_
          first | refine s_y (Y_neq rfl rfl) rfl rfl ?_ | refine s_pass rfl rfl ?_
          refine s_y (Y_pk rfl (Gx.tmp gt_) Gx.const) rfl rfl ?_
          first | exact hm _ ⟨rfl, trivial⟩ rfl | exact QL.sub sl_ (hm _ ⟨rfl, trivial⟩ rfl)
        · intro ht3 hm
          iterate 7 refine s_pass rfl rfl ?_
          refine s_y (Y_pk rfl (Gx.tmp gt_) Gx.const) rfl rfl ?_
          exact hm _ ⟨rfl, trivial⟩ rfl
        intro j66
        refine s_nil ?_
        refine q_then ?_
        first | refine c_cond' rfl (fun hc12 => ?_) (fun hc12 => ?_) | refine c_cond rfl (fun hc12 => ?_) (fun hc12 => ?_)
        · skip
          try simp only [nrm_] at hc12
          refine c_seq ?_
          refine c_reg ?_
          refine s_y (Y_mv) rfl rfl ?_
          refine s_y (Y_as) rfl rfl ?_
          refine s_nil ?_
          refine q_then ?_
          refine c_ret ?_
          refine q_retG1 rfl gt_ (L' := _) sl_ (⟨by rw [← hf, dirM_yes (p := fun d2 => foeAt d.ents (e.x + wx d2) (e.y + wy d2)) (by omega) (show foeAt d.ents (e.x + wx q) (e.y + wy q) = true by rw [hfo]; exact decide_eq_true hc12), if_pos (by omega)], rfl⟩)
        · skip
          try simp only [nrm_] at hc12
          refine c_skip ?_
          refine q_bn ?_
          refine q_then ?_
          refine c_reg ?_
          refine s_y (Y_mv) rfl rfl ?_
          refine s_y ad_ rfl rfl ?_
          refine s_y (Y_as) rfl rfl ?_
          refine s_nil ?_
          refine hK (m - 1) (q + 1) _ _ (by omega) ⟨by omega, by omega, by rw [← hf, dirM_no (p := fun d2 => foeAt d.ents (e.x + wx d2) (e.y + wy d2)) (n := m) (d := (q : Int)) (by omega) (show foeAt d.ents (e.x + wx q) (e.y + wy q) = false by rw [hfo]; exact decide_eq_false (by omega))]; rfl⟩ ⟨rfl, trivial⟩ rfl (fun _ h => h)
      · skip
        try simp only [nrm_] at hc8
        refine c_exit ?_
        repeat with_reducible refine q_te ?_
        refine q_exit ?_
        refine q_then ?_
        refine c_seq ?_
        rw [← hf, dirM_end (by omega), if_neg (by decide)]
        refine c_reg ?_
        refine s_y (Y_fa 6 rfl Tryz.underlying34 rfl sz31 rfl) rfl rfl ?_
        refine s_y (yl_ one31) rfl rfl ?_
        refine s_y (Y_fa 3 rfl Tryz.underlying93 rfl sz3 rfl) rfl rfl ?_
        refine s_y (yl_ one3) rfl rfl ?_
        refine s_y (Y_fa 4 rfl Tryz.underlying93 rfl sz3 rfl) rfl rfl ?_
        refine s_y (yl_ one3) rfl rfl ?_
        refine s_c (En_call (fun _ => rfl) Tryz.func103 rfl (by kernel_rfl) rfl) (fun w hH => riin_d (hw.i.has hH)) rfl rfl ?_
        rintro _ _ ⟨rfl, rfl⟩
        refine s_y (Y_as) rfl rfl ?_
        refine s_nil ?_
        have hir := iIn_rng d.items 1 e.x e.y
        obtain ⟨a, haa⟩ : ∃ z, iIn d.items 1 e.x e.y = z := ⟨_, rfl⟩
        rw [haa] at hir ⊢
        refine q_then ?_
        refine c_seq ?_
        refine c_seq ?_
        refine c_reg ?_
        refine s_y (Y_mv) rfl rfl ?_
        refine s_y (Y_geq rfl rfl) rfl rfl ?_
        refine s_y (Y_mv) rfl rfl ?_
        apply s_and 15 [77, 78, 79, 80, 81, 82, 83, 84, 85, 86, 87, 88, 89, 90, 91, 92] 92 (g := 77) rfl rfl
        · intro ht3 hm
          try simp only [nrm_] at ht3
          first | refine s_y (Y_fa 6 rfl Tryz.underlying34 rfl sz31 rfl) rfl rfl ?_ | refine s_pass rfl rfl ?_
          first | refine s_y (yl_ one31) rfl rfl ?_ | refine s_pass rfl rfl ?_
          first | refine s_y (Y_mv) rfl rfl ?_ | refine s_pass rfl rfl ?_
          first | refine s_y (Y_ia (n := a.toNat) rfl rfl Tryz.underlying31 sz98 (by omega) (by omega)) rfl rfl ?_ | refine s_pass rfl rfl ?_
          first | refine s_y (Y_fa 0 rfl Tryz.underlying98 rfl sz3 rfl) rfl rfl ?_ | refine s_pass rfl rfl ?_
          first | refine s_y (Y_loadR (v := iv (igt d.items a).kind) (i := 0) rfl one3 (hw.i.at' Itm.len (iget_of (by omega) (by omega))) rfl rfl) rfl rfl ?_ | refine s_pass rfl rfl ?_
          first | refine s_y (Y_eql rfl rfl) rfl rfl ?_ | refine s_pass rfl rfl ?_
          first | refine s_y (Y_mv) rfl rfl ?_ | refine s_pass rfl rfl ?_
          apply s_or 6 [85, 86, 87, 88, 89, 90, 91] 91 (g := 85) rfl rfl
          · intro ht11 hm
            try simp only [nrm_] at ht11
            first | refine s_y (Y_fa 6 rfl Tryz.underlying34 rfl sz31 rfl) rfl rfl ?_ | refine s_pass rfl rfl ?_
            first | refine s_y (yl_ one31) rfl rfl ?_ | refine s_pass rfl rfl ?_
            first | refine s_y (Y_mv) rfl rfl ?_ | refine s_pass rfl rfl ?_
            refine s_c (En_call (fun _ => rfl) Tryz.func141 rfl (by kernel_rfl) rfl) (fun w hH => rslot_d (hw.i.has hH)) rfl rfl ?_
            rintro _ _ ⟨rfl, rfl⟩
            first | refine s_y (Y_geq rfl rfl) rfl rfl ?_ | refine s_pass rfl rfl ?_
            first | refine s_y (Y_pk rfl Gx.const (Gx.tmp gt_)) rfl rfl ?_ | refine s_pass rfl rfl ?_
            first | exact hm _ ⟨rfl, trivial⟩ rfl | exact QL.sub sl_ (hm _ ⟨rfl, trivial⟩ rfl)
          · intro ht11 hm
            iterate 5 refine s_pass rfl rfl ?_
            first | refine s_y (Y_pk rfl Gx.const (Gx.tmp gt_)) rfl rfl ?_ | refine s_pass rfl rfl ?_
            exact hm _ ⟨rfl, trivial⟩ rfl
          intro j91
          refine s_y (Y_pk rfl (Gx.tmp gt_) Gx.const) rfl rfl ?_
          first | exact hm _ ⟨rfl, trivial⟩ rfl | exact QL.sub sl_ (hm _ ⟨rfl, trivial⟩ rfl)
        · intro ht3 hm
          iterate 14 refine s_pass rfl rfl ?_
          refine s_y (Y_pk rfl (Gx.tmp gt_) Gx.const) rfl rfl ?_
          exact hm _ ⟨rfl, trivial⟩ rfl
        intro j92
        refine s_nil ?_
        refine q_then ?_
        first | refine c_cond' rfl (fun hc15 => ?_) (fun hc15 => ?_) | refine c_cond rfl (fun hc15 => ?_) (fun hc15 => ?_)
        · skip
          try simp only [nrm_] at hc15
          refine c_seq ?_
          refine c_reg ?_
          refine s_y (Y_asC) rfl rfl ?_
          refine s_nil ?_
          refine q_then ?_
          refine c_ret ?_
          refine q_retG1 rfl gt_ (L' := _) sl_ (⟨by rw [if_pos hc15], rfl⟩)
        · skip
          try simp only [nrm_] at hc15
          refine c_skip ?_
          refine q_then ?_
          refine c_seq ?_
          refine c_seq ?_
          rw [if_neg (by omega)]
          refine c_reg ?_
          refine s_y (Y_fa 4 rfl Tryz.underlying34 rfl sz24 rfl) rfl rfl ?_
          refine s_y (yl_ one24) rfl rfl ?_
          refine s_y (Y_fa 3 rfl Tryz.underlying93 rfl sz3 rfl) rfl rfl ?_
          refine s_y (yl_ one3) rfl rfl ?_
          refine s_y (Y_fa 4 rfl Tryz.underlying93 rfl sz3 rfl) rfl rfl ?_
          refine s_y (yl_ one3) rfl rfl ?_
          refine s_c (En_call (fun _ => rfl) Tryz.func91 rfl (by kernel_rfl) rfl) (fun w hH => rat_d (hw.c.has hH)) rfl rfl ?_
          rintro _ _ ⟨rfl, rfl⟩
          refine s_y (Y_eql rfl rfl) rfl rfl ?_
          refine s_nil ?_
          refine q_then ?_
          first | refine c_cond' rfl (fun hc17 => ?_) (fun hc17 => ?_) | refine c_cond rfl (fun hc17 => ?_) (fun hc17 => ?_)
          · skip
            try simp only [nrm_] at hc17
            refine c_seq ?_
            refine c_reg ?_
            refine s_y (Y_asC) rfl rfl ?_
            refine s_nil ?_
            refine q_then ?_
            refine c_ret ?_
            refine q_retG1 rfl gt_ (L' := _) sl_ (⟨by rw [if_pos hc17], rfl⟩)
          · skip
            try simp only [nrm_] at hc17
            refine c_skip ?_
            refine q_then ?_
            refine c_seq ?_
            rw [if_neg hc17]
            refine c_rordS (L0 := [e1B b6 e, wB b2 (wL d s)]) sl_ [] [(0, true), (1, true), (2, true), (3, true), (4, true), (5, true), (6, true), (7, true), (8, true), (9, true), (10, false), (11, false), (12, false), (13, true)] (by kernel_rfl) (by kernel_rfl) (by kernel_rfl) (by kernel_rfl) rfl (by intro c a d v w h; cases d <;> exact h) rfl ?_
            simp only [mkOrd, List.filterMap_cons, List.filterMap_nil, List.getElem?_toArray, List.getElem?_cons_zero, List.getElem?_cons_succ, Option.map_some]
            refine o_y (Y_fa 4 rfl Tryz.underlying34 rfl sz24 rfl) rfl rfl ?_
            refine o_y (yl_ one24) rfl rfl ?_
            refine o_y (Y_fa 5 rfl Tryz.underlying34 rfl sz30 rfl) rfl rfl ?_
            refine o_y (yl_ one30) rfl rfl ?_
            refine o_y (Y_fa 3 rfl Tryz.underlying93 rfl sz3 rfl) rfl rfl ?_
            refine o_y (yl_ one3) rfl rfl ?_
            refine o_y (Y_fa 4 rfl Tryz.underlying93 rfl sz3 rfl) rfl rfl ?_
            refine o_y (yl_ one3) rfl rfl ?_
            refine o_y (Y_fa 4 rfl Tryz.underlying34 rfl sz24 rfl) rfl rfl ?_
            refine o_y (yl_ one24) rfl rfl ?_
            refine o_c (En_call (fun _ => rfl) Tryz.func55 rfl (by kernel_rfl) rfl) (fun w hH => rfind_d (hw.c.has hH)) (fun _ _ h => by obtain ⟨rfl, rfl⟩ := h; exact kp_) rfl rfl ?_
            rintro _ _ ⟨rfl, rfl⟩
            refine o_n (N_bs (xs := [.tmp 111]) (by repeat (first | exact Gv.nil | apply Gv.const | apply Gv.tmp gt_)) rfl Tryz.underlying23 inf3 rfl (by omega) (by omega) (by first | simp [Value.oneCell'] | (intro v hv; simp at hv; subst hv; rfl))) (fun _ => kp_) rfl rfl (fun b112 _ => ?_)
            refine o_c (En_call (fun _ => rfl) Tryz.func142 rfl (by kernel_rfl) rfl) (fun w hH => rtoward_nav_d (hw.c.has hH) (hw.e.has hH) (by omega) (ts := [findM d.cells 4]) ((hH.at' (x := ⟨b112, 3, 1, 1, [iv (findM d.cells 4)]⟩) mm_).sl rfl (Nat.le_refl _))) (fun _ _ h => by obtain ⟨rfl, rfl⟩ := h; exact kp_) rfl rfl ?_
            rintro _ _ ⟨rfl, rfl⟩
            refine o_y (Y_as) rfl rfl ?_
            refine o_nil ?_
            refine q_then ?_
            refine c_ret ?_
            refine q_retG1 rfl gt_ (L' := _) sl_ (⟨rfl, rfl⟩)
set_option maxRecDepth 100000 in
theorem rherocome_d {d : Wd} {s : Ws} (hw : WL W d s) {e : Ent} : Does Tryz.prog 87 [.agg (wL d s).toArray, .agg e.cells.toArray] W [] (fun v L => v = .tuple #[.agg (heroM d.cells d.ents e).1.cells.toArray, .bool (heroM d.cells d.ents e).2] ∧ L = []) := by
  obtain ⟨z1, z2, z3⟩ := hw.sz
  refine enter Tryz.func87 rfl rfl rfl (Has.start _) ?_
  refine c_seq ?_
  refine c_reg ?_
  refine s_n (N_box (cs := wL d s) rfl) rfl rfl (fun b2 _ => ?_)
  refine s_n (N_box (cs := e.cells) rfl) rfl rfl (fun b3 _ => ?_)
  refine s_n (N_alloc (z := .agg #[.int .i64 0, .int .i64 0, .int .i64 0, .int .i64 0, .int .i64 0, .int .i64 0, .int .i64 0, .int .i64 0, .int .i64 0, .int .i64 0, .int .i64 0]) (cs := [.int .i64 0, .int .i64 0, .int .i64 0, .int .i64 0, .int .i64 0, .int .i64 0, .int .i64 0, .int .i64 0, .int .i64 0, .int .i64 0, .int .i64 0]) zv93 rfl) rfl rfl (fun b4 _ => ?_)
  refine s_y (Y_asC) rfl rfl ?_
  refine s_nil ?_
  refine q_then ?_
  refine c_seq ?_
  refine c_reg ?_
  refine s_y (Y_fa 4 rfl Tryz.underlying34 rfl sz24 rfl) rfl rfl ?_
  refine s_y (yl_ one24) rfl rfl ?_
  refine s_c (En_call (fun _ => rfl) Tryz.func55 rfl (by kernel_rfl) rfl) (fun w hH => rfind_d (hw.c.has hH)) rfl rfl ?_
  rintro _ _ ⟨rfl, rfl⟩
  refine s_y (Y_as) rfl rfl ?_
  refine s_nil ?_
  refine q_then ?_
  refine c_seq ?_
  refine c_seq ?_
  refine c_reg ?_
  refine s_y (Y_mv) rfl rfl ?_
  refine s_y (Y_lss rfl rfl) rfl rfl ?_
  refine s_nil ?_
  refine q_then ?_
  first | refine c_cond' rfl (fun hc2 => ?_) (fun hc2 => ?_) | refine c_cond rfl (fun hc2 => ?_) (fun hc2 => ?_)
  · skip
    try simp only [nrm_] at hc2
    refine c_seq ?_
    refine c_reg ?_
    refine s_y (ya_ many93) rfl rfl ?_
    refine s_s (S_storeA (vs := e.cells) rfl rfl sz93 (by rfl) (by rfl) up_ (by rfl)) rfl ?_
    refine s_y (Y_asC) rfl rfl ?_
    refine s_nil ?_
    refine q_then ?_
    refine c_ret ?_
    have hh : heroM d.cells d.ents e = (e, false) := by unfold heroM; simp only; rw [if_pos hc2]
    rw [hh]
    refine q_ret2c rfl rfl many93 rfl mm_ (by rfl) (L' := []) sl_ ⟨rfl, rfl⟩
  · skip
    try simp only [nrm_] at hc2
    refine c_skip ?_
    refine q_then ?_
    refine c_seq ?_
    obtain ⟨u, hu, hu1, hu2, hu3⟩ := find_at (rfl : findM d.cells 3 = _) (by omega)
    have hh : heroM d.cells d.ents e = if spotM d.cells d.ents ((u : Int) % 24) ((u : Int) / 24) < 0 then (e, false) else ({ e with x := spotM d.cells d.ents ((u : Int) % 24) ((u : Int) / 24) % 24, y := spotM d.cells d.ents ((u : Int) % 24) ((u : Int) / 24) / 24 }, true) := by
      unfold heroM; simp only; rw [hu, if_neg (by omega)]
    rw [hu, hh]
    refine c_reg ?_
    refine s_y (Y_fa 4 rfl Tryz.underlying34 rfl sz24 rfl) rfl rfl ?_
    refine s_y (yl_ one24) rfl rfl ?_
    refine s_y (Y_fa 5 rfl Tryz.underlying34 rfl sz30 rfl) rfl rfl ?_
    refine s_y (yl_ one30) rfl rfl ?_
    refine s_y (Y_mv) rfl rfl ?_
    refine s_y ((by first | exact Y_rem rfl rfl (by omega) | exact Y_remw rfl rfl (by omega))) rfl rfl ?_
    refine s_y (Y_mv) rfl rfl ?_
    refine s_y ((by first | exact Y_quo rfl rfl (by omega) | exact Y_quow rfl rfl (by omega))) rfl rfl ?_
    refine s_c (En_call (fun _ => rfl) Tryz.func138 rfl (by kernel_rfl) rfl) (fun w hH => rspot_d (hw.c.has hH) (hw.e.has hH)) rfl rfl ?_
    rintro _ _ ⟨rfl, rfl⟩
    refine s_y (Y_as) rfl rfl ?_
    refine s_nil ?_
    obtain ⟨a, haa⟩ : ∃ z, spotM d.cells d.ents ((u : Int) % 24) ((u : Int) / 24) = z := ⟨_, rfl⟩
    have hsa := spot_at haa
    rw [haa]
    refine q_then ?_
    refine c_seq ?_
    refine c_seq ?_
    refine c_reg ?_
    refine s_y (Y_mv) rfl rfl ?_
    refine s_y (Y_lss rfl rfl) rfl rfl ?_
    refine s_nil ?_
    refine q_then ?_
    first | refine c_cond' rfl (fun hc5 => ?_) (fun hc5 => ?_) | refine c_cond rfl (fun hc5 => ?_) (fun hc5 => ?_)
    · skip
      try simp only [nrm_] at hc5
      refine c_seq ?_
      refine c_reg ?_
      refine s_y (ya_ many93) rfl rfl ?_
      refine s_s (S_storeA (vs := e.cells) rfl rfl sz93 (by rfl) (by rfl) up_ (by rfl)) rfl ?_
      refine s_y (Y_asC) rfl rfl ?_
      refine s_nil ?_
      refine q_then ?_
      refine c_ret ?_
      rw [if_pos hc5]
      refine q_ret2c rfl rfl many93 rfl mm_ (by rfl) (L' := []) sl_ ⟨rfl, rfl⟩
    · skip
      try simp only [nrm_] at hc5
      refine c_skip ?_
      refine q_then ?_
      refine c_seq ?_
      have hal := (hsa (by omega)).1
      refine c_reg ?_
      refine s_y (Y_mv) rfl rfl ?_
      refine s_y ((by first | exact Y_rem rfl rfl (by omega) | exact Y_remw rfl rfl (by omega))) rfl rfl ?_
      refine s_y (Y_mv) rfl rfl ?_
      refine s_y ((by first | exact Y_quo rfl rfl (by omega) | exact Y_quow rfl rfl (by omega))) rfl rfl ?_
      refine s_y (Y_fa 3 rfl Tryz.underlying93 rfl sz3 rfl) rfl rfl ?_
      refine s_s (S_st (cs' := ({ e with x := a % 24 } : Ent).cells) rfl gt_ sz3 (by rfl) up_ (by rfl) (by rw [Ent.len]; decide)) rfl ?_
      refine s_y (Y_fa 4 rfl Tryz.underlying93 rfl sz3 rfl) rfl rfl ?_
      refine s_s (S_st (cs' := ({ e with x := a % 24, y := a / 24 } : Ent).cells) rfl gt_ sz3 (by rfl) up_ (by rfl) (by rw [Ent.len]; decide)) rfl ?_
      refine s_nil ?_
      refine q_then ?_
      refine c_seq ?_
      refine c_reg ?_
      refine s_y (ya_ many93) rfl rfl ?_
      refine s_s (S_storeA (vs := ({ e with x := a % 24, y := a / 24 } : Ent).cells) rfl rfl sz93 (by rfl) (by rfl) up_ (by rfl)) rfl ?_
      refine s_y (Y_asC) rfl rfl ?_
      refine s_nil ?_
      refine q_then ?_
      refine c_ret ?_
      rw [if_neg hc5]
      refine q_ret2c rfl rfl many93 rfl mm_ (by rfl) (L' := []) sl_ ⟨rfl, rfl⟩
set_option maxRecDepth 100000 in
theorem rsome_d {d : Wd} {s : Ws} (hw : WL W d s) : Does Tryz.prog 85 [.agg (wL d s).toArray] W [] (fun v L => v = .bool (someM d.ents) ∧ L = []) := by
  have hso : someM d.ents = decide (∃ q : Nat, q < 4 ∧ 0 ≤ eHero d.ents q) := by
    rw [Bool.eq_iff_iff]
    unfold someM
    simp only [Bool.or_eq_true, decide_eq_true_eq]
    constructor
    · rintro (((h | h) | h) | h)
      · exact ⟨0, by decide, h⟩
      · exact ⟨1, by decide, h⟩
      · exact ⟨2, by decide, h⟩
      · exact ⟨3, by decide, h⟩
    · rintro ⟨q, h1, h2⟩
      rcases q with _ | _ | _ | _ | q
      · exact .inl (.inl (.inl h2))
      · exact .inl (.inl (.inr h2))
      · exact .inl (.inr h2)
      · exact .inr h2
      · omega
  rw [hso]
  refine enter Tryz.func85 rfl rfl rfl (Has.start _) ?_
  refine c_seq ?_
  refine c_reg ?_
  refine s_n (N_box (cs := wL d s) rfl) rfl rfl (fun b1 _ => ?_)
  refine s_y (Y_asC) rfl rfl ?_
  refine s_nil ?_
  refine q_then ?_
  refine c_seq ?_
  refine c_seq ?_
  refine c_reg ?_
  refine s_y (Y_asC) rfl rfl ?_
  refine s_nil ?_
  refine q_then ?_
  refine c_block ?_
  refine c_loop [2, 3, 4, 5, 6, 7, 8, 9, 10, 11, 12] (fun m (q : Nat) => q + m = 4 ∧ ∀ p : Nat, p < q → ¬ 0 ≤ eHero d.ents p) (fun q => [(3, iv q)]) (fun _ => [wB b1 (wL d s)]) (4) (0) (⟨rfl, fun p hp => by omega⟩) (by repeat (first | exact trivial | refine ⟨rfl, ?_⟩)) (fun _ h => h.sub sl_) (fun _ => rfl) ?_
  rintro m q j ⟨hq, hno⟩ K hK
  refine c_seq ?_
  refine c_seq ?_
  refine c_reg ?_
  refine s_y (Y_mv) rfl rfl ?_
  refine s_y (Y_lss rfl rfl) rfl rfl ?_
  refine s_nil ?_
  refine q_then ?_
  first | refine c_cond' rfl (fun hc2 => ?_) (fun hc2 => ?_) | refine c_cond rfl (fun hc2 => ?_) (fun hc2 => ?_)
  · skip
    try simp only [nrm_] at hc2
    refine c_skip ?_
    refine q_then ?_
    refine c_seq ?_
    refine c_block ?_
    refine c_seq ?_
    refine c_reg ?_
    refine s_y (Y_fa 5 rfl Tryz.underlying34 rfl sz30 rfl) rfl rfl ?_
    refine s_y (yl_ one30) rfl rfl ?_
    refine s_y (Y_mv) rfl rfl ?_
    refine s_c (En_call (fun _ => rfl) Tryz.func54 rfl (by kernel_rfl) rfl) (fun w hH => rhero_d (hw.e.has hH)) rfl rfl ?_
    rintro _ _ ⟨rfl, rfl⟩
    refine s_y (Y_geq rfl rfl) rfl rfl ?_
    refine s_nil ?_
    refine q_then ?_
    first | refine c_cond' rfl (fun hc4 => ?_) (fun hc4 => ?_) | refine c_cond rfl (fun hc4 => ?_) (fun hc4 => ?_)
    · skip
      try simp only [nrm_] at hc4
      refine c_seq ?_
      refine c_reg ?_
      refine s_y (Y_asC) rfl rfl ?_
      refine s_nil ?_
      refine q_then ?_
      refine c_ret ?_
      refine q_retG1 rfl gt_ (L' := _) sl_ (⟨by rw [decide_eq_true (show ∃ q : Nat, q < 4 ∧ 0 ≤ eHero d.ents q from ⟨q, by omega, hc4⟩)], rfl⟩)
    · skip
      try simp only [nrm_] at hc4
      refine c_skip ?_
      refine q_bn ?_
      refine q_then ?_
      refine c_reg ?_
      refine s_y (Y_mv) rfl rfl ?_
      refine s_y ad_ rfl rfl ?_
      refine s_y (Y_as) rfl rfl ?_
      refine s_nil ?_
      refine hK (m - 1) (q + 1) _ _ (by omega) ⟨by omega, fun p hp => ?_⟩ ⟨rfl, trivial⟩ rfl (fun _ h => h)
      by_cases h : p = q
      · subst h; exact hc4
      · exact hno p (by omega)
  · skip
    try simp only [nrm_] at hc2
    refine c_exit ?_
    repeat with_reducible refine q_te ?_
    refine q_exit ?_
    refine q_then ?_
    refine c_seq ?_
    refine c_reg ?_
    refine s_y (Y_asC) rfl rfl ?_
    refine s_nil ?_
    refine q_then ?_
    refine c_ret ?_
    refine q_retG1 rfl gt_ (L' := _) sl_ (⟨by rw [decide_eq_false (fun ⟨p, h1, h2⟩ => hno p (by omega) h2)], rfl⟩)
def ActP (d : Wd) (s : Ws) (d' : Wd) (v : Value) (L : List Bk) : Prop := (v = .agg (wL d s).toArray ∧ L = [] ∧ d' = d) ∨ WN d' v L
set_option maxRecDepth 100000 in
set_option maxHeartbeats 800000 in
theorem ract_d {d : Wd} {s : Ws} (hw : WL W d s) (hv : VW d) {r : Nat} {e : Ent} (he : d.ents[r]? = some e) (hk : e.kind ≠ 0) {k : Int} {foe : Bool} : Does Tryz.prog 90 [.agg (wL d s).toArray, iv r, iv k, .bool foe] W [] (ActP d s (actM d r k foe)) := by
  obtain ⟨z1, z2, z3⟩ := hw.sz
  have hrl := lt_of_get he
  have hxy := ent_in (hv.ev.rowOf he hk)
  have hwr := way_rng k
  have hre := hw.e.at' Ent.len he
  have hac : actM d r k foe = if wx k = 0 ∧ wy k = 0 then d else if 0 ≤ eAt d.ents (e.x + wx k) (e.y + wy k) then (if decide ((egt d.ents (eAt d.ents (e.x + wx k) (e.y + wy k))).kind = 1) = foe then hitM d r (eAt d.ents (e.x + wx k) (e.y + wy k)) else d) else if walkM (atM d.cells (e.x + wx k) (e.y + wy k)) = true then { d with ents := d.ents.set r { e with x := e.x + wx k, y := e.y + wy k } } else d := by
    unfold actM; simp only; rw [egt_of he, Int.toNat_natCast]
  rw [hac]
  clear hac
  refine enter Tryz.func90 rfl rfl rfl (Has.start _) ?_
  refine c_seq ?_
  refine c_reg ?_
  refine s_n (N_box (cs := wL d s) rfl) rfl rfl (fun b4 _ => ?_)
  refine s_n (N_alloc (z := .agg #[.int .i64 0, .int .i64 0, .int .i64 0, .int .i64 0, .slice none 0 0, .slice none 0 0, .slice none 0 0, .int .i64 0, .int .i64 0, .int .i64 0, .int .i64 0]) (cs := [.int .i64 0, .int .i64 0, .int .i64 0, .int .i64 0, .slice none 0 0, .slice none 0 0, .slice none 0 0, .int .i64 0, .int .i64 0, .int .i64 0, .int .i64 0]) zv34 rfl) rfl rfl (fun b8 _ => ?_)
  refine s_nil ?_
  refine q_then ?_
  refine c_seq ?_
  refine c_reg ?_
  refine s_y (Y_mv) rfl rfl ?_
  refine s_c (En_call (fun _ => rfl) Tryz.func140 rfl (by kernel_rfl) rfl) (fun w hH => rway_d) rfl rfl ?_
  rintro _ _ ⟨rfl, rfl⟩
  refine s_y (Y_mv) rfl rfl ?_
  refine s_y (Y_extract rfl rfl) rfl rfl ?_
  refine s_y (Y_extract rfl rfl) rfl rfl ?_
  refine s_y (Y_as) rfl rfl ?_
  refine s_y (Y_as) rfl rfl ?_
  refine s_nil ?_
  refine q_then ?_
  refine c_seq ?_
  refine c_seq ?_
  refine c_reg ?_
  refine s_y (Y_mv) rfl rfl ?_
  refine s_y (Y_eql rfl rfl) rfl rfl ?_
  refine s_y (Y_mv) rfl rfl ?_
  apply s_and 3 [21, 22, 23, 24] 24 (g := 21) rfl rfl
  · intro ht3 hm
    try simp only [nrm_] at ht3
    first | refine s_y (Y_mv) rfl rfl ?_ | refine s_pass rfl rfl ?_
    first | refine s_y (Y_eql rfl rfl) rfl rfl ?_ | refine s_pass rfl rfl ?_
    refine s_y (Y_pk rfl (Gx.tmp gt_) Gx.const) rfl rfl ?_
    first | exact hm _ ⟨rfl, trivial⟩ rfl | exact QL.sub sl_ (hm _ ⟨rfl, trivial⟩ rfl)
  · intro ht3 hm
    iterate 2 refine s_pass rfl rfl ?_
    refine s_y (Y_pk rfl (Gx.tmp gt_) Gx.const) rfl rfl ?_
    exact hm _ ⟨rfl, trivial⟩ rfl
  intro j24
  refine s_nil ?_
  refine q_then ?_
  first | refine c_cond' rfl (fun hc2 => ?_) (fun hc2 => ?_) | refine c_cond rfl (fun hc2 => ?_) (fun hc2 => ?_)
  · skip
    try simp only [nrm_] at hc2
    refine c_seq ?_
    refine c_reg ?_
    refine s_y (ya_ many34) rfl rfl ?_
    refine s_s (S_storeA (vs := wL d s) rfl rfl sz34 (by rfl) (by rfl) up_ (by rfl)) rfl ?_
    refine s_nil ?_
    refine q_then ?_
    refine c_ret ?_
    rw [if_pos hc2]
    refine q_ret1c rfl rfl many34 mm_ (by rfl) (L' := []) sl_ (.inl ⟨rfl, rfl, rfl⟩)
  · skip
    try simp only [nrm_] at hc2
    refine c_skip ?_
    refine q_then ?_
    refine c_seq ?_
    rw [if_neg (by omega)]
    refine c_rord [] [(0, true), (1, true), (2, true), (3, true), (4, true), (5, true), (6, true), (7, true), (8, true), (9, true), (10, true), (11, true), (12, true), (13, true), (14, true), (15, true), (16, true), (17, true)] (by kernel_rfl) (by kernel_rfl) (by kernel_rfl) (by kernel_rfl) rfl (by intro c a d v w h; cases d <;> exact h) rfl ?_
    simp only [mkOrd, List.filterMap_cons, List.filterMap_nil, List.getElem?_toArray, List.getElem?_cons_zero, List.getElem?_cons_succ, Option.map_some]
    refine o_y (Y_fa 5 rfl Tryz.underlying34 rfl sz30 rfl) rfl rfl ?_
    refine o_y (yl_ one30) rfl rfl ?_
    refine o_y (Y_mv) rfl rfl ?_
    refine o_y (Y_ia (n := r) rfl rfl Tryz.underlying30 sz93 rfl (by omega)) rfl rfl ?_
    refine o_y (Y_fa 3 rfl Tryz.underlying93 rfl sz3 rfl) rfl rfl ?_
    refine o_y (Y_loadR (v := iv e.x) (i := 3) rfl one3 hre rfl rfl) rfl rfl ?_
    refine o_y (Y_mv) rfl rfl ?_
    refine o_y ad_ rfl rfl ?_
    refine o_y (Y_fa 5 rfl Tryz.underlying34 rfl sz30 rfl) rfl rfl ?_
    refine o_y (yl_ one30) rfl rfl ?_
    refine o_y (Y_mv) rfl rfl ?_
    refine o_y (Y_ia (n := r) rfl rfl Tryz.underlying30 sz93 rfl (by omega)) rfl rfl ?_
    refine o_y (Y_fa 4 rfl Tryz.underlying93 rfl sz3 rfl) rfl rfl ?_
    refine o_y (Y_loadR (v := iv e.y) (i := 4) rfl one3 hre rfl rfl) rfl rfl ?_
    refine o_y (Y_mv) rfl rfl ?_
    refine o_y ad_ rfl rfl ?_
    refine o_y (Y_as) rfl rfl ?_
    refine o_y (Y_as) rfl rfl ?_
    refine o_nil ?_
    refine q_then ?_
    refine c_seq ?_
    refine c_reg ?_
    refine s_y (Y_fa 5 rfl Tryz.underlying34 rfl sz30 rfl) rfl rfl ?_
    refine s_y (yl_ one30) rfl rfl ?_
    refine s_y (Y_mv) rfl rfl ?_
    refine s_y (Y_mv) rfl rfl ?_
    refine s_c (En_call (fun _ => rfl) Tryz.func73 rfl (by kernel_rfl) rfl) (fun w hH => reat_d (hw.e.has hH)) rfl rfl ?_
    rintro _ _ ⟨rfl, rfl⟩
    refine s_y (Y_as) rfl rfl ?_
    refine s_nil ?_
    have har := eAt_rng d.ents (e.x + wx k) (e.y + wy k)
    obtain ⟨a, haa⟩ : ∃ z, eAt d.ents (e.x + wx k) (e.y + wy k) = z := ⟨_, rfl⟩
    rw [haa] at har ⊢
    refine q_then ?_
    refine c_seq ?_
    refine c_seq ?_
    refine c_reg ?_
    refine s_y (Y_mv) rfl rfl ?_
    refine s_y (Y_geq rfl rfl) rfl rfl ?_
    refine s_nil ?_
    refine q_then ?_
    first | refine c_cond' rfl (fun hc6 => ?_) (fun hc6 => ?_) | refine c_cond rfl (fun hc6 => ?_) (fun hc6 => ?_)
    · skip
      try simp only [nrm_] at hc6
      refine c_seq ?_
      refine c_seq ?_
      rw [if_pos hc6]
      refine c_reg ?_
      refine s_y (Y_fa 5 rfl Tryz.underlying34 rfl sz30 rfl) rfl rfl ?_
      refine s_y (yl_ one30) rfl rfl ?_
      refine s_y (Y_mv) rfl rfl ?_
      refine s_y (Y_ia (n := a.toNat) rfl rfl Tryz.underlying30 sz93 (by omega) (by omega)) rfl rfl ?_
      refine s_y (Y_fa 0 rfl Tryz.underlying93 rfl sz3 rfl) rfl rfl ?_
      refine s_y (Y_loadR (v := iv (egt d.ents a).kind) (i := 0) rfl one3 (hw.e.at' Ent.len (eget_of (by omega) (by omega))) rfl rfl) rfl rfl ?_
      refine s_y (Y_eql rfl rfl) rfl rfl ?_
      refine s_y (Y_mv) rfl rfl ?_
      refine s_y (Y_eqB rfl rfl Tryz.underlying4) rfl rfl ?_
      refine s_nil ?_
      refine q_then ?_
      first | refine c_cond' rfl (fun hc7 => ?_) (fun hc7 => ?_) | refine c_cond rfl (fun hc7 => ?_) (fun hc7 => ?_)
      · skip
        try simp only [nrm_] at hc7
        refine c_reg ?_
        refine s_y (ya_ many34) rfl rfl ?_
        refine s_y (Y_mv) rfl rfl ?_
        refine s_y (Y_mv) rfl rfl ?_
        refine s_c (En_call (fun _ => rfl) Tryz.func143 rfl (by kernel_rfl) rfl) (fun w hH => rhit_d (hw.has hH) hv) rfl rfl ?_
        rintro _ _ ⟨cb, cc, eb, ec, ib, ic, rfl, rfl, l1, l2, l3⟩
        refine s_s (S_storeA (vs := wL (hitM d r a) ⟨cb, 0, cc, eb, 0, ec, ib, 0, ic⟩) rfl rfl sz34 (by rfl) (by rfl) up_ (by rfl)) rfl ?_
        refine s_nil ?_
        refine q_then ?_
        refine c_seq ?_
        refine c_reg ?_
        refine s_y (ya_ many34) rfl rfl ?_
        refine s_s (S_storeA (vs := wL (hitM d r a) ⟨cb, 0, cc, eb, 0, ec, ib, 0, ic⟩) rfl rfl sz34 (by rfl) (by rfl) up_ (by rfl)) rfl ?_
        refine s_nil ?_
        refine q_then ?_
        refine c_ret ?_
        rw [if_pos (by simpa using hc7)]
        refine QL.pick (L' := [wB b8 (wL (hitM d r a) ⟨cb, 0, cc, eb, 0, ec, ib, 0, ic⟩), cB cb cc (hitM d r a).cells, eB eb ec (hitM d r a).ents, iB ib ic (hitM d r a).items]) ss_ ?_
        refine q_ret1c rfl rfl many34 (List.Mem.head _) rfl (List.Sublist.cons _ (List.Sublist.refl _)) (.inr ⟨cb, cc, eb, ec, ib, ic, rfl, rfl, l1, l2, l3⟩)
      · skip
        try simp only [nrm_] at hc7
        refine c_skip ?_
        refine q_then ?_
        refine c_seq ?_
        refine c_reg ?_
        refine s_y (ya_ many34) rfl rfl ?_
        refine s_s (S_storeA (vs := wL d s) rfl rfl sz34 (by rfl) (by rfl) up_ (by rfl)) rfl ?_
        refine s_nil ?_
        refine q_then ?_
        refine c_ret ?_
        rw [if_neg (by simpa using hc7)]
        refine q_ret1c rfl rfl many34 mm_ (by rfl) (L' := []) sl_ (.inl ⟨rfl, rfl, rfl⟩)
    · skip
      try simp only [nrm_] at hc6
      refine c_skip ?_
      refine q_then ?_
      refine c_seq ?_
      refine c_seq ?_
      rw [if_neg hc6]
      refine c_reg ?_
      refine s_y (Y_fa 4 rfl Tryz.underlying34 rfl sz24 rfl) rfl rfl ?_
      refine s_y (yl_ one24) rfl rfl ?_
      refine s_y (Y_mv) rfl rfl ?_
      refine s_y (Y_mv) rfl rfl ?_
      refine s_c (En_call (fun _ => rfl) Tryz.func91 rfl (by kernel_rfl) rfl) (fun w hH => rat_d (hw.c.has hH)) rfl rfl ?_
      rintro _ _ ⟨rfl, rfl⟩
      refine s_c (En_call (fun _ => rfl) Tryz.func97 rfl (by kernel_rfl) rfl) (fun w hH => rwalk_d) rfl rfl ?_
      rintro _ _ ⟨rfl, rfl⟩
      refine s_nil ?_
      refine q_then ?_
      refine c_cond (t := (walkM (atM d.cells (e.x + wx k) (e.y + wy k)))) rfl (fun hc10 => ?_) (fun hc10 => ?_)
      · skip
        try simp only [nrm_] at hc10
        refine c_seq ?_
        refine c_reg ?_
        refine s_y (ya_ many34) rfl rfl ?_
        refine s_c (En_call (fun _ => rfl) Tryz.func51 rfl (by kernel_rfl) rfl) (fun w hH => rtwin_d (hw.has hH)) rfl rfl ?_
        rintro _ _ ⟨cb, cc, eb, ec, ib, ic, rfl, rfl, l1, l2, l3⟩
        refine s_s (S_storeA (vs := wL d ⟨cb, 0, cc, eb, 0, ec, ib, 0, ic⟩) rfl rfl sz34 (by rfl) (by rfl) up_ (by rfl)) rfl ?_
        refine s_nil ?_
        refine q_then ?_
        refine c_rordS (L0 := [wB b4 (wL d ⟨cb, 0, cc, eb, 0, ec, ib, 0, ic⟩)]) sl_ [13] [(0, true), (1, true), (2, true), (3, true), (4, true), (5, true), (6, true), (7, true), (8, true), (9, true), (10, false), (11, true), (12, true), (13, false)] (by kernel_rfl) (by kernel_rfl) (by kernel_rfl) (by kernel_rfl) rfl (by intro c a d v w h; cases d <;> exact h) rfl ?_
        simp only [mkOrd, List.filterMap_cons, List.filterMap_nil, List.getElem?_toArray, List.getElem?_cons_zero, List.getElem?_cons_succ, Option.map_some]
        refine o_y (Y_fa 5 rfl Tryz.underlying34 rfl sz30 rfl) rfl rfl ?_
        refine o_y (yl_ one30) rfl rfl ?_
        refine o_y (Y_mv) rfl rfl ?_
        refine o_y (Y_fa 5 rfl Tryz.underlying34 rfl sz30 rfl) rfl rfl ?_
        refine o_y (yl_ one30) rfl rfl ?_
        refine o_y (Y_mv) rfl rfl ?_
        refine o_y (Y_mv) rfl rfl ?_
        refine o_y (Y_mv) rfl rfl ?_
        refine o_y (Y_ia (n := r) rfl rfl Tryz.underlying30 sz93 rfl (by omega)) rfl rfl ?_
        refine o_y (Y_fa 3 rfl Tryz.underlying93 rfl sz3 rfl) rfl rfl ?_
        refine o_s (S_st (cs' := ecells (d.ents.set r { e with x := e.x + wx k })) rfl gt_ sz3 (by rfl) up_ (eset { e with x := e.x + wx k } he rfl rfl) (lt_e hrl (by decide))) kp_ rfl ?_
        refine o_y (Y_ia (n := r) rfl rfl Tryz.underlying30 sz93 rfl (by omega)) rfl rfl ?_
        refine o_y (Y_fa 4 rfl Tryz.underlying93 rfl sz3 rfl) rfl rfl ?_
        refine o_s (S_st (cs' := ecells (d.ents.set r { e with x := e.x + wx k, y := e.y + wy k })) rfl gt_ sz3 (by rfl) up_ (eset2 { e with x := e.x + wx k } { e with x := e.x + wx k, y := e.y + wy k } hrl rfl rfl) (lt_e (by rw [List.length_set]; exact hrl) (by decide))) kp_ rfl ?_
        refine o_nil ?_
        refine q_then ?_
        refine c_seq ?_
        refine c_reg ?_
        refine s_y (ya_ many34) rfl rfl ?_
        refine s_s (S_storeA (vs := wL d ⟨cb, 0, cc, eb, 0, ec, ib, 0, ic⟩) rfl rfl sz34 (by rfl) (by rfl) up_ (by rfl)) rfl ?_
        refine s_nil ?_
        refine q_then ?_
        refine c_ret ?_
        rw [if_pos hc10]
        refine QL.pick (L' := [wB b8 (wL d ⟨cb, 0, cc, eb, 0, ec, ib, 0, ic⟩), cB cb cc d.cells, eB eb ec (d.ents.set r { e with x := e.x + wx k, y := e.y + wy k }), iB ib ic d.items]) ss_ ?_
        refine q_ret1c rfl rfl many34 (List.Mem.head _) rfl (List.Sublist.cons _ (List.Sublist.refl _)) (.inr ⟨cb, cc, eb, ec, ib, ic, rfl, rfl, l1, l2, l3⟩)
      · skip
        try simp only [nrm_] at hc10
        refine c_skip ?_
        refine q_then ?_
        refine c_seq ?_
        refine c_reg ?_
        refine s_y (ya_ many34) rfl rfl ?_
        refine s_s (S_storeA (vs := wL d s) rfl rfl sz34 (by rfl) (by rfl) up_ (by rfl)) rfl ?_
        refine s_nil ?_
        refine q_then ?_
        refine c_ret ?_
        rw [if_neg (by rw [hc10]; decide)]
        refine q_ret1c rfl rfl many34 mm_ (by rfl) (L' := []) sl_ (.inl ⟨rfl, rfl, rfl⟩)
end
end Go.Proofs.YtcogbkkdccohfaaGreat
