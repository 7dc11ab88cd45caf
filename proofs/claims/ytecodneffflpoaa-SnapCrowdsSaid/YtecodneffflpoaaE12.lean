/- The law's own worlds, walked: what they are does not matter, only that they are some. -/
import Derived.Test.YtecodneffflpoaaE11
namespace Go.Ad
theorem tmod_cases (a : Int) {n : Int} (hn : 0 < n) : (a.tmod n < 0 ∧ a.tmod n + n = a % n) ∨ (0 ≤ a.tmod n ∧ a.tmod n = a % n) := by
  have h1 := Int.emod_nonneg a (show n ≠ 0 by omega)
  have h2 := Int.emod_lt_of_pos a hn
  rw [Int.tmod_eq_emod]
  split
  · right; omega
  · rename_i h
    have h3 : a % n ≠ 0 := fun h4 => h (.inr (Int.dvd_of_emod_eq_zero h4))
    left; omega
theorem Does.sub {P : Program} {f : FuncId} {args : List Value} {W : World} {M : List Nat} {Post Post' : Value → List Bk → Prop} (h : Does P f args W M Post) (hp : ∀ v L, Post v L → ∃ L2, List.Sublist L2 L ∧ Post' v L2) : Does P f args W M Post' :=
  Calls.mono h fun _ _ ⟨v, L, h1, h2, h3⟩ => by
    obtain ⟨L2, h4, h5⟩ := hp v L h3
    exact ⟨v, L2, h1, h2.sub h4, h5⟩
def openM (cells : List UInt8) (i : Nat) : List Nat := (List.range i).filter fun k => walkM (byteAt cells k)
theorem open_succ (cells : List UInt8) (i : Nat) : openM cells (i + 1) = if walkM (byteAt cells i) = true then openM cells i ++ [i] else openM cells i := by
  unfold openM
  rw [List.range_succ, List.filter_append]
  cases h : walkM (byteAt cells i)
  · rw [List.filter_cons, if_neg (by rw [h]; simp), List.filter_nil, List.append_nil, if_neg (by simp)]
  · rw [List.filter_cons, if_pos h, List.filter_nil, if_pos rfl]
theorem open_len (cells : List UInt8) (i : Nat) : (openM cells i).length ≤ i := by
  unfold openM
  exact Nat.le_trans (List.length_filter_le _ _) (by rw [List.length_range]; omega)
theorem open_lt {cells : List UInt8} {i k : Nat} (h : k ∈ openM cells i) : k < i := List.mem_range.1 (List.mem_filter.1 h).1
theorem open_pos {cells : List UInt8} {i k : Nat} (hk : k < i) (h : walkM (byteAt cells k) = true) : 0 < (openM cells i).length := List.length_pos_of_mem (List.mem_filter.2 ⟨List.mem_range.2 hk, h⟩)
theorem find_lt {cells : List UInt8} {k : Int} (h : 0 ≤ findM cells k) : ∃ z : Nat, findM cells k = z ∧ z < 384 := by
  unfold findM at h ⊢
  rcases fnd_lt (p := fun x : UInt8 => decide ((x.toNat : Int) = k)) (cells.take 384) 0 with h1 | ⟨j, a, h1, h2, h3⟩
  · omega
  · refine ⟨0 + j, h1, ?_⟩
    have := (List.getElem?_eq_some_iff.1 h2).1
    rw [List.length_take] at this
    omega
end Go.Ad
namespace Go.Proofs.Ytecodneffflpoaa
open Go.RowKit Go.Ad Go.Maps
set_option linter.unusedVariables false
set_option linter.unusedSimpArgs false
theorem byteAt_set {cells : List UInt8} {i k : Nat} {x : UInt8} (h : i < cells.length) : byteAt (cells.set i x) k = if i = k then (x.toNat : Int) else byteAt cells k := by
  unfold byteAt
  rw [List.getD_eq_getElem?_getD, List.getD_eq_getElem?_getD, List.getElem?_set]
  by_cases hik : i = k
  · subst hik; simp [h]
  · simp [hik]
theorem make_walk (seed floor : Int) : ∃ k, k < 384 ∧ walkM (byteAt (makeM seed floor).cells k) = true := by
  have hu := (up_eq seed floor).2
  have hf : farMM seed floor < 384 := far_lt (distM seed floor) hu 384 (Nat.le_refl _)
  refine ⟨farMM seed floor, hf, ?_⟩
  show walkM (byteAt (shopC (downM seed floor) (shopAt seed floor)) (farMM seed floor)) = true
  have hd : byteAt (downM seed floor) (farMM seed floor) = 4 := by
    rw [downM, byteAt_set (by rw [base_len]; exact hf), if_pos rfl]; rfl
  cases ho : shopAt seed floor with
  | none => show walkM (byteAt (downM seed floor) _) = true; rw [hd]; rfl
  | some k =>
    show walkM (byteAt ((downM seed floor).set k 5) _) = true
    by_cases hk : k < (downM seed floor).length
    · rw [byteAt_set hk]
      split
      · rfl
      · rw [hd]; rfl
    · rw [List.set_eq_of_length_le (by omega), hd]; rfl
section
variable {W : World}
set_option maxRecDepth 100000 in
theorem l7within_d {a n : Int} (hn : 1 ≤ n ∧ n ≤ 1000000000000) : Does Try.prog 35 [iv a, iv n] W [] (fun v L => v = iv (a % n) ∧ L = []) := by
  have hc := tmod_cases a (n := n) (by omega)
  have h2 := Int.emod_lt_of_pos a (show 0 < n by omega)
  have h1 := Int.emod_nonneg a (show n ≠ 0 by omega)
  refine enter Try.func35 rfl rfl rfl (Has.start _) ?_
  refine c_seq ?_
  refine c_reg ?_
  refine s_y (Y_asC) rfl rfl ?_
  refine s_nil ?_
  refine q_then ?_
  refine c_seq ?_
  refine c_reg ?_
  refine s_y (Y_mv) rfl rfl ?_
  refine s_y (Y_mv) rfl rfl ?_
  refine s_y (Y_remw rfl rfl (by omega)) rfl rfl ?_
  refine s_y (Y_as) rfl rfl ?_
  refine s_nil ?_
  refine q_then ?_
  refine c_seq ?_
  refine c_seq ?_
  refine c_reg ?_
  refine s_y (Y_mv) rfl rfl ?_
  refine s_y (Y_lss rfl rfl) rfl rfl ?_
  refine s_nil ?_
  refine q_then ?_
  first | refine c_cond' rfl (fun hc2 => ?_) (fun hc2 => ?_) | refine c_cond rfl (fun hc2 => ?_) (fun hc2 => ?_)
  · skip
    try simp only [nrm_] at hc2
    refine c_reg ?_
    refine s_y (Y_mv) rfl rfl ?_
    refine s_y (Y_mv) rfl rfl ?_
    refine s_y ((Y_add rfl rfl (by omega)).num (show _ = a % n by omega)) rfl rfl ?_
    refine s_y (Y_as) rfl rfl ?_
    refine s_nil ?_
    refine q_then ?_
    refine c_seq ?_
    refine c_reg ?_
    refine s_y (Y_mv) rfl rfl ?_
    refine s_y (Y_as) rfl rfl ?_
    refine s_nil ?_
    refine q_then ?_
    refine c_ret ?_
    refine q_retG1 rfl gt_ (L' := _) sl_ (⟨rfl, rfl⟩)
  · skip
    try simp only [nrm_] at hc2
    refine c_skip ?_
    refine q_then ?_
    refine c_seq ?_
    refine c_reg ?_
    refine s_y (Y_mv) rfl rfl ?_
    refine s_y (Y_as) rfl rfl ?_
    refine s_nil ?_
    refine q_then ?_
    refine c_ret ?_
    refine q_retG1 rfl gt_ (L' := _) sl_ (⟨by congr 1; omega, rfl⟩)
set_option maxRecDepth 100000 in
theorem l8within_d {a n : Int} (hn : 1 ≤ n ∧ n ≤ 1000000000000) : Does Try.prog 14 [iv a, iv n] W [] (fun v L => v = iv (a % n) ∧ L = []) := by
  have hc := tmod_cases a (n := n) (by omega)
  have h2 := Int.emod_lt_of_pos a (show 0 < n by omega)
  have h1 := Int.emod_nonneg a (show n ≠ 0 by omega)
  refine enter Try.func14 rfl rfl rfl (Has.start _) ?_
  refine c_seq ?_
  refine c_reg ?_
  refine s_y (Y_asC) rfl rfl ?_
  refine s_nil ?_
  refine q_then ?_
  refine c_seq ?_
  refine c_reg ?_
  refine s_y (Y_mv) rfl rfl ?_
  refine s_y (Y_mv) rfl rfl ?_
  refine s_y (Y_remw rfl rfl (by omega)) rfl rfl ?_
  refine s_y (Y_as) rfl rfl ?_
  refine s_nil ?_
  refine q_then ?_
  refine c_seq ?_
  refine c_seq ?_
  refine c_reg ?_
  refine s_y (Y_mv) rfl rfl ?_
  refine s_y (Y_lss rfl rfl) rfl rfl ?_
  refine s_nil ?_
  refine q_then ?_
  first | refine c_cond' rfl (fun hc2 => ?_) (fun hc2 => ?_) | refine c_cond rfl (fun hc2 => ?_) (fun hc2 => ?_)
  · skip
    try simp only [nrm_] at hc2
    refine c_reg ?_
    refine s_y (Y_mv) rfl rfl ?_
    refine s_y (Y_mv) rfl rfl ?_
    refine s_y ((Y_add rfl rfl (by omega)).num (show _ = a % n by omega)) rfl rfl ?_
    refine s_y (Y_as) rfl rfl ?_
    refine s_nil ?_
    refine q_then ?_
    refine c_seq ?_
    refine c_reg ?_
    refine s_y (Y_mv) rfl rfl ?_
    refine s_y (Y_as) rfl rfl ?_
    refine s_nil ?_
    refine q_then ?_
    refine c_ret ?_
    refine q_retG1 rfl gt_ (L' := _) sl_ (⟨rfl, rfl⟩)
  · skip
    try simp only [nrm_] at hc2
    refine c_skip ?_
    refine q_then ?_
    refine c_seq ?_
    refine c_reg ?_
    refine s_y (Y_mv) rfl rfl ?_
    refine s_y (Y_as) rfl rfl ?_
    refine s_nil ?_
    refine q_then ?_
    refine c_ret ?_
    refine q_retG1 rfl gt_ (L' := _) sl_ (⟨by congr 1; omega, rfl⟩)
theorem rmakeC_d {seed floor : Int} (hfl : 1 ≤ floor ∧ floor ≤ 3) : Does Try.prog 30 [iv seed, iv floor] W [] (fun v L => ∃ cb ev iv', v = .agg #[.slice (some ⟨cb, 0, none⟩) 384 384, ev, iv'] ∧ L = [cB cb 384 (makeM seed floor).cells]) :=
  (rmake_d hfl).sub fun v L ⟨cb, ev, E, iv', I, h1, h2, h3, h4⟩ => ⟨[cB cb 384 (makeM seed floor).cells], by rw [h4]; exact (List.nil_sublist _).cons_cons _, cb, ev, iv', h1, rfl⟩
end
end Go.Proofs.Ytecodneffflpoaa
