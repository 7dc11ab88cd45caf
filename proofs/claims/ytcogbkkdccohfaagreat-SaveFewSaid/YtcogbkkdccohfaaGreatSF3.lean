/- Texts of this claim, laid together: part 3. -/
import Derived.Test.YtcogbkkdccohfaaGreatSF2
import Derived.Maps.OwnSet
set_option linter.unusedVariables false
set_option linter.unusedSimpArgs false
set_option maxHeartbeats 1600000
namespace Go.Ad
def mxM (l : List UInt8) : Nat := l.foldl (fun m x => max m x.toNat) 0
theorem mx_step {l : List UInt8} {i : Nat} {x : UInt8} (h : l[i]? = some x) : mxM (l.take (i + 1)) = max (mxM (l.take i)) x.toNat := by
  obtain ⟨hi, rfl⟩ := List.getElem?_eq_some_iff.1 h
  unfold mxM
  rw [← List.take_append_getElem hi, List.foldl_append, List.foldl_cons, List.foldl_nil]
theorem mx_gt (n : Nat) : ∀ (l : List UInt8) (m : Nat), n < l.foldl (fun m x => max m x.toNat) m ↔ (n < m ∨ l.any (fun x => decide (n < x.toNat)) = true)
  | [], m => by simp
  | x :: r, m => by
    rw [List.foldl_cons, mx_gt n r, List.any_cons, Bool.or_eq_true, decide_eq_true_eq]
    rw [show (n < max m x.toNat) = (n < m ∨ n < x.toNat) by rw [eq_iff_iff]; omega, or_assoc]
theorem cnt_count (k : UInt8) (l : List UInt8) : Lib.countByte (Lib.bytesOf (l.map fun x => (x.toNat : Int))) k = cnt k l := by
  have h : Lib.bytesOf (l.map fun x => (x.toNat : Int)) = l := by
    unfold Lib.bytesOf
    rw [List.map_map]
    conv => rhs; rw [← List.map_id l]
    congr 1
    funext x
    simp
  rw [h]
  unfold Lib.countByte cnt
  rw [List.count_eq_countP, List.countP_eq_length_filter]
theorem count_run {P : Program} {w : World} {b o c : Nat} {l : List UInt8} (hs : SlB w b o l.length c 1 (l.map bv)) {k : UInt8} : (Extern.BytealgCount.count ([.slice (some ⟨b, o, none⟩) l.length c, bv k] : List Value).toArray).run P w = .ok (iv (cnt k l)) w := by
  have h := Lib.run_countSlice (P := P) w b o l.length c (l.map fun x => (x.toNat : Int)) (by simp) (fun i hi => by
    have := hs.ro i (bv l[i]) (by rw [List.getElem?_map, List.getElem?_eq_getElem hi]; rfl)
    rw [this, List.getD_eq_getElem?_getD, List.getElem?_map, List.getElem?_eq_getElem hi]; rfl) (k.toNat : Int)
  have hkk : (k.toNat : Int).toNat.toUInt8 = k := by simp
  rw [hkk, cnt_count] at h
  exact h
theorem fnd_row {α : Type} {p : α → Bool} {l : List α} {i : Nat} {a : α} (h : l[i]? = some a) (hp : p a = true) : fnd p l 0 = (i : Int) ↔ fnd p (l.take i) 0 < 0 := by
  have := fnd_take (k := 0) h hp
  rw [Nat.zero_add] at this
  exact this
end Go.Ad
namespace Go.Proofs.YtcogbkkdccohfaaGreat
open Go.RowKit Go.Ad Go.Maps
set_option linter.unusedVariables false
set_option linter.unusedSimpArgs false
section
variable {W : World}
set_option maxRecDepth 100000 in
theorem pmax_d {b o n c : Nat} {l : List UInt8} (hs : SlB W b o n c 1 (l.map bv)) (h0 : 0 < n) : Does Tryz.prog 154 [.slice (some ⟨b, o, none⟩) n c] W [] (fun v L => v = .int .u8 (mxM l : Nat) ∧ L = []) := by
  obtain rfl : n = l.length := by have := hs.len; simpa using this.symm
  have hcap := hs.cap
  have hbig := hs.big
  simp only [maxLen] at hbig
  refine enter Tryz.func154 rfl rfl rfl (Has.start _) ?_
  refine c_seq ?_
  refine c_reg ?_
  refine s_y (Y_asC) rfl rfl ?_
  refine s_nil ?_
  refine q_then ?_
  refine c_seq ?_
  refine c_seq ?_
  refine c_reg ?_
  refine s_y (Y_mv) rfl rfl ?_
  refine s_y (Y_len rfl rfl Tryz.underlying24) rfl rfl ?_
  refine s_y (Y_lss rfl rfl) rfl rfl ?_
  refine s_nil ?_
  refine q_then ?_
  refine c_F rfl ((decide_eq_false (by omega))) ?_
  refine c_skip ?_
  refine q_then ?_
  refine c_seq ?_
  obtain ⟨x0, hx0⟩ := take_lt h0
  have e0 : ((mxM (l.take 1) : Nat) : Int) = x0.toNat := by rw [mx_step hx0, List.take_zero]; simp [mxM]
  refine c_reg ?_
  refine s_y (Y_mv) rfl rfl ?_
  refine s_y (Y_ia1 (n := 0) rfl rfl Tryz.underlying24 sz5 rfl (by omega)) rfl rfl ?_
  refine s_y (Y_loadR (v := .int .u8 (mxM (l.take 1) : Nat)) (i := 0) rfl one5 hs.ro rfl (by rw [List.getElem?_map, hx0, e0]; rfl)) rfl rfl ?_
  refine s_y (Y_as) rfl rfl ?_
  refine s_nil ?_
  refine q_then ?_
  refine c_seq ?_
  refine c_seq ?_
  refine c_reg ?_
  refine s_y (Y_asC) rfl rfl ?_
  refine s_nil ?_
  refine q_then ?_
  refine c_block ?_
  refine c_loop [3, 4, 12, 13, 14, 15, 16, 17, 18, 19, 20, 21, 22, 23] (fun m i => i + m = l.length ∧ 1 ≤ i) (fun i => [(4, iv i), (3, .int .u8 (mxM (l.take i) : Nat))]) (fun _ => []) (l.length - 1) (1) (⟨by omega, Nat.le_refl _⟩) (by repeat (first | exact trivial | refine ⟨rfl, ?_⟩)) (fun _ h => h.sub sl_) (fun _ => rfl) ?_
  rintro m i j ⟨hi, h1⟩ K hK
  refine c_seq ?_
  refine c_seq ?_
  refine c_reg ?_
  refine s_y (Y_mv) rfl rfl ?_
  refine s_y (Y_mv) rfl rfl ?_
  refine s_y (Y_len rfl rfl Tryz.underlying24) rfl rfl ?_
  refine s_y (Y_lss rfl rfl) rfl rfl ?_
  refine s_nil ?_
  refine q_then ?_
  first | refine c_cond' rfl (fun hc5 => ?_) (fun hc5 => ?_) | refine c_cond rfl (fun hc5 => ?_) (fun hc5 => ?_)
  · skip
    try simp only [nrm_] at hc5
    refine c_skip ?_
    refine q_then ?_
    refine c_seq ?_
    refine c_block ?_
    obtain ⟨x, hx⟩ := take_lt (show i < l.length by omega)
    refine c_reg ?_
    refine s_y (Y_mv) rfl rfl ?_
    refine s_y (Y_mv) rfl rfl ?_
    refine s_y (Y_mv) rfl rfl ?_
    refine s_y (Y_ia1 rfl rfl Tryz.underlying24 sz5 rfl (by omega)) rfl rfl ?_
    refine s_y (Y_loadR (v := bv x) (i := i) rfl one5 hs.ro rfl (by rw [List.getElem?_map, hx]; rfl)) rfl rfl ?_
    refine s_y ((Y_max rfl rfl).num (show _ = ((mxM (l.take (i + 1)) : Nat) : Int) by rw [mx_step hx]; omega)) rfl rfl ?_
    refine s_y (Y_as) rfl rfl ?_
    refine s_nil ?_
    refine q_bn ?_
    refine q_then ?_
    refine c_reg ?_
    refine s_y (Y_mv) rfl rfl ?_
    refine s_y ad_ rfl rfl ?_
    refine s_y (Y_as) rfl rfl ?_
    refine s_nil ?_
    refine hK (m - 1) (i + 1) _ _ (by omega) ⟨by omega, by omega⟩ ⟨rfl, rfl, trivial⟩ rfl (fun _ h => h)
  · skip
    try simp only [nrm_] at hc5
    refine c_exit ?_
    repeat with_reducible refine q_te ?_
    refine q_exit ?_
    refine q_then ?_
    refine c_seq ?_
    refine c_reg ?_
    refine s_y (Y_mv) rfl rfl ?_
    refine s_y (Y_as) rfl rfl ?_
    refine s_nil ?_
    refine q_then ?_
    refine c_ret ?_
    refine q_retG1 rfl gt_ (L' := _) sl_ (⟨by rw [show i = l.length by omega, List.take_length], rfl⟩)
set_option maxRecDepth 100000 in
theorem pcount_d {b o n c : Nat} {l : List UInt8} (hs : SlB W b o n c 1 (l.map bv)) {b2 c2 : Nat} {k : UInt8} (hk : Ro W b2 0 [bv k]) : Does Tryz.prog 155 [.slice (some ⟨b, o, none⟩) n c, .slice (some ⟨b2, 0, none⟩) 1 c2] W [] (fun v L => v = iv (cnt k l) ∧ L = []) := by
  obtain rfl : n = l.length := by have := hs.len; simpa using this.symm
  refine enter Tryz.func155 rfl rfl rfl (Has.start _) ?_
  refine c_seq ?_
  refine c_reg ?_
  refine s_y (Y_asC) rfl rfl ?_
  refine s_nil ?_
  refine q_then ?_
  refine c_seq ?_
  refine c_seq ?_
  refine c_reg ?_
  refine s_y (Y_mv) rfl rfl ?_
  refine s_y (Y_len rfl rfl Tryz.underlying24) rfl rfl ?_
  refine s_y (Y_eql rfl rfl) rfl rfl ?_
  refine s_nil ?_
  refine q_then ?_
  refine c_F rfl ((decide_eq_false (by decide))) ?_
  refine c_skip ?_
  refine q_then ?_
  refine c_seq ?_
  refine c_seq ?_
  refine c_reg ?_
  refine s_y (Y_mv) rfl rfl ?_
  refine s_y (Y_len rfl rfl Tryz.underlying24) rfl rfl ?_
  refine s_y (Y_eql rfl rfl) rfl rfl ?_
  refine s_nil ?_
  refine q_then ?_
  refine c_T rfl ((decide_eq_true rfl)) ?_
  refine c_seq ?_
  refine c_reg ?_
  refine s_y (Y_mv) rfl rfl ?_
  refine s_y (Y_mv) rfl rfl ?_
  refine s_y (Y_ia1 (n := 0) rfl rfl Tryz.underlying24 sz5 rfl (by decide)) rfl rfl ?_
  refine s_y (Y_loadR (v := bv k) (i := 0) rfl one5 hk rfl rfl) rfl rfl ?_
  refine s_y (Y_ext (v := iv (cnt k l)) (vs := [.slice (some ⟨b, o, none⟩) l.length c, bv k]) rfl Tryz.func190 (by kernel_rfl) (by kernel_rfl) (by kernel_rfl) (e := Extern.BytealgCount.count) (by kernel_rfl) rfl (fun w hH => count_run (hs.has hH))) rfl rfl ?_
  refine s_y (Y_as) rfl rfl ?_
  refine s_nil ?_
  refine q_then ?_
  refine c_ret ?_
  refine q_retG1 rfl gt_ (L' := _) sl_ (⟨rfl, rfl⟩)
theorem gold_sub {d : Wd} {s : Ws} : ∀ i v, ([iv d.gold.a, iv d.gold.b, iv d.gold.c, iv d.gold.d] : List Value)[i]? = some v → (wv d s)[0 + 7 + i]? = some v
  | 0, v, h => h
  | 1, v, h => h
  | 2, v, h => h
  | 3, v, h => h
  | n + 4, v, h => by simp at h
theorem gold_idx {g : Four} {k : Nat} (h : k < 4) : ([iv g.a, iv g.b, iv g.c, iv g.d] : List Value)[k]? = some (iv (g.get k)) := by
  rcases (show k = 0 ∨ k = 1 ∨ k = 2 ∨ k = 3 by omega) with rfl | rfl | rfl | rfl <;> rfl
set_option maxRecDepth 100000 in
theorem phead_d {d : Wd} {s : Ws} (hw : WAt W d s) : Does Tryz.prog 104 [.agg (wv d s).toArray] W [] (fun v L => v = iv (headM d) ∧ L = []) := by
  refine enter Tryz.func104 rfl rfl rfl (Has.start _) ?_
  refine c_seq ?_
  refine c_reg ?_
  refine s_n (N_box (cs := wv d s) rfl) rfl rfl (fun b1 _ => ?_)
  refine s_y (Y_asC) rfl rfl ?_
  refine s_nil ?_
  refine q_then ?_
  refine c_seq ?_
  refine c_reg ?_
  refine s_y (Y_fa 1 rfl Tryz.underlying34 rfl sz3 rfl) rfl rfl ?_
  refine s_y (yl_ one3) rfl rfl ?_
  refine s_c (En_call (fun _ => rfl) Tryz.func65 rfl (by kernel_rfl) rfl) (fun w hH => pwithin_d) rfl rfl ?_
  rintro _ _ ⟨rfl, rfl⟩
  refine s_y (Y_mv) rfl rfl ?_
  apply s_and 4 [9, 10, 11, 12, 13] 13 (g := 9) rfl rfl
  · intro ht4 hm
    try simp only [nrm_] at ht4
    first | refine s_y (Y_fa 2 rfl Tryz.underlying34 rfl sz3 rfl) rfl rfl ?_ | refine s_pass rfl rfl ?_
    first | refine s_y (yl_ one3) rfl rfl ?_ | refine s_pass rfl rfl ?_
    refine s_c (En_call (fun _ => rfl) Tryz.func65 rfl (by kernel_rfl) rfl) (fun w hH => pwithin_d) rfl rfl ?_
    rintro _ _ ⟨rfl, rfl⟩
    refine s_y (Y_pk rfl (Gx.tmp gt_) Gx.const) rfl rfl ?_
    first | exact hm _ ⟨rfl, trivial⟩ rfl | exact QL.sub sl_ (hm _ ⟨rfl, trivial⟩ rfl)
  · intro ht4 hm
    iterate 3 refine s_pass rfl rfl ?_
    refine s_y (Y_pk rfl (Gx.tmp gt_) Gx.const) rfl rfl ?_
    exact hm _ ⟨rfl, trivial⟩ rfl
  intro j13
  refine s_y (Y_mv) rfl rfl ?_
  apply s_and 4 [14, 15, 16, 17, 18] 18 (g := 14) rfl rfl
  · intro ht9 hm
    try simp only [nrm_] at ht9
    first | refine s_y (Y_fa 3 rfl Tryz.underlying34 rfl sz3 rfl) rfl rfl ?_ | refine s_pass rfl rfl ?_
    first | refine s_y (yl_ one3) rfl rfl ?_ | refine s_pass rfl rfl ?_
    refine s_c (En_call (fun _ => rfl) Tryz.func65 rfl (by kernel_rfl) rfl) (fun w hH => pwithin_d) rfl rfl ?_
    rintro _ _ ⟨rfl, rfl⟩
    refine s_y (Y_pk rfl (Gx.tmp gt_) Gx.const) rfl rfl ?_
    first | exact hm _ ⟨rfl, trivial⟩ rfl | exact QL.sub sl_ (hm _ ⟨rfl, trivial⟩ rfl)
  · intro ht9 hm
    iterate 3 refine s_pass rfl rfl ?_
    refine s_y (Y_pk rfl (Gx.tmp gt_) Gx.const) rfl rfl ?_
    exact hm _ ⟨rfl, trivial⟩ rfl
  intro j18
  refine s_y (Y_as) rfl rfl ?_
  refine s_nil ?_
  refine q_then ?_
  refine c_seq ?_
  refine c_seq ?_
  refine c_reg ?_
  refine s_y (Y_fa 7 rfl Tryz.underlying34 rfl sz32 rfl) rfl rfl ?_
  refine s_y (Y_loadN (vs := [iv d.gold.a, iv d.gold.b, iv d.gold.c, iv d.gold.d]) rfl many32 mm_ (by rfl) gold_sub) rfl rfl ?_
  refine s_y (Y_mvC) rfl rfl ?_
  refine s_nil ?_
  rw [show (btw d.frame 0 1073741823 && btw d.floor 1 3 && btw d.state 0 2) = (btw d.frame 0 1073741823 && btw d.floor 1 3 && btw d.state 0 2 && goldOk d.gold 0) by simp [goldOk]]
  refine q_then ?_
  refine c_block ?_
  refine c_loop [3, 5, 21, 22, 23, 24, 25, 26, 27, 28, 29] (fun m i => i + m = 4) (fun i => [(21, iv i), (3, .bool (btw d.frame 0 1073741823 && btw d.floor 1 3 && btw d.state 0 2 && goldOk d.gold i))]) (fun _ => [wB b1 (wv d s)]) (4) (0) (by omega) (by repeat (first | exact trivial | refine ⟨rfl, ?_⟩)) (fun _ h => h.sub sl_) (fun _ => rfl) ?_
  rintro m i j hi K hK
  refine c_seq ?_
  refine c_reg ?_
  refine s_y (Y_lss rfl rfl) rfl rfl ?_
  refine s_nil ?_
  refine q_then ?_
  refine c_seq ?_
  first | refine c_cond' rfl (fun hc3 => ?_) (fun hc3 => ?_) | refine c_cond rfl (fun hc3 => ?_) (fun hc3 => ?_)
  · skip
    try simp only [nrm_] at hc3
    refine c_skip ?_
    refine q_then ?_
    refine c_seq ?_
    refine c_block ?_
    refine c_seq ?_
    refine c_reg ?_
    refine s_y (Y_idx (cs := [iv d.gold.a, iv d.gold.b, iv d.gold.c, iv d.gold.d]) (i := i) rfl rfl Tryz.underlying32 one3 sz3 rfl (by omega) (gold_idx (by omega))) rfl rfl ?_
    refine s_y (Y_as) rfl rfl ?_
    refine s_nil ?_
    refine q_then ?_
    refine c_reg ?_
    refine s_y (Y_mv) rfl rfl ?_
    refine s_y (Y_mv) rfl rfl ?_
    apply s_and 3 [25, 26, 27, 28] 28 (g := 25) rfl rfl
    · intro ht2 hm
      try simp only [nrm_] at ht2
      first | refine s_y (Y_mv) rfl rfl ?_ | refine s_pass rfl rfl ?_
      refine s_c (En_call (fun _ => rfl) Tryz.func65 rfl (by kernel_rfl) rfl) (fun w hH => pwithin_d) rfl rfl ?_
      rintro _ _ ⟨rfl, rfl⟩
      refine s_y (Y_pk rfl (Gx.tmp gt_) Gx.const) rfl rfl ?_
      first | exact hm _ ⟨rfl, trivial⟩ rfl | exact QL.sub sl_ (hm _ ⟨rfl, trivial⟩ rfl)
    · intro ht2 hm
      iterate 2 refine s_pass rfl rfl ?_
      refine s_y (Y_pk rfl (Gx.tmp gt_) Gx.const) rfl rfl ?_
      exact hm _ ⟨rfl, trivial⟩ rfl
    intro j28
    refine s_y (Y_as) rfl rfl ?_
    refine s_nil ?_
    refine q_bn ?_
    refine q_then ?_
    refine c_reg ?_
    refine s_y ad_ rfl rfl ?_
    refine s_y (Y_mv) rfl rfl ?_
    refine s_nil ?_
    refine hK (m - 1) (i + 1) _ _ (by omega) (by omega) ⟨rfl, by rw [goldOk_step, ← Bool.and_assoc]; rfl, trivial⟩ rfl (fun _ h => h)
  · skip
    try simp only [nrm_] at hc3
    refine c_exit ?_
    repeat with_reducible refine q_te ?_
    refine q_exit ?_
    refine q_then ?_
    refine c_seq ?_
    refine c_block ?_
    refine c_seq ?_
    obtain rfl : i = 4 := by omega
    rw [← nums_gold]
    refine c_reg ?_
    refine s_y (Y_mv) rfl rfl ?_
    refine s_y (Y_not rfl) rfl rfl ?_
    refine s_y (Y_as) rfl rfl ?_
    refine s_nil ?_
    refine q_then ?_
    first | refine c_cond' rfl (fun hc7 => ?_) (fun hc7 => ?_) | refine c_cond rfl (fun hc7 => ?_) (fun hc7 => ?_)
    · skip
      try simp only [nrm_] at hc7
      refine c_seq ?_
      refine c_reg ?_
      refine s_y (Y_asC) rfl rfl ?_
      refine s_nil ?_
      refine q_then ?_
      refine c_ret ?_
      refine q_retG1 rfl gt_ (L' := _) sl_ (⟨by unfold headM; rw [if_pos (by simpa using hc7)], rfl⟩)
    · skip
      try simp only [nrm_] at hc7
      refine c_seq ?_
      have hn : ¬ numsOk d = false := by simpa using hc7
      refine c_reg ?_
      refine s_y (Y_fa 4 rfl Tryz.underlying34 rfl sz24 rfl) rfl rfl ?_
      refine s_y (yl_ one24) rfl rfl ?_
      refine s_y (Y_len rfl rfl Tryz.underlying24) rfl rfl ?_
      refine s_y (Y_neq rfl rfl) rfl rfl ?_
      refine s_y (Y_mv) rfl rfl ?_
      apply s_or 5 [38, 39, 40, 41, 42, 43] 43 (g := 38) rfl rfl
      · intro ht5 hm
        try simp only [nrm_] at ht5
        first | refine s_y (Y_fa 5 rfl Tryz.underlying34 rfl sz30 rfl) rfl rfl ?_ | refine s_pass rfl rfl ?_
        first | refine s_y (yl_ one30) rfl rfl ?_ | refine s_pass rfl rfl ?_
        first | refine s_y (Y_len rfl rfl Tryz.underlying30) rfl rfl ?_ | refine s_pass rfl rfl ?_
        first | refine s_y (Y_neq rfl rfl) rfl rfl ?_ | refine s_pass rfl rfl ?_
        refine s_y (Y_pk rfl Gx.const (Gx.tmp gt_)) rfl rfl ?_
        first | exact hm _ ⟨rfl, trivial⟩ rfl | exact QL.sub sl_ (hm _ ⟨rfl, trivial⟩ rfl)
      · intro ht5 hm
        iterate 4 refine s_pass rfl rfl ?_
        refine s_y (Y_pk rfl Gx.const (Gx.tmp gt_)) rfl rfl ?_
        exact hm _ ⟨rfl, trivial⟩ rfl
      intro j43
      refine s_y (Y_mv) rfl rfl ?_
      apply s_or 5 [44, 45, 46, 47, 48, 49] 49 (g := 44) rfl rfl
      · intro ht11 hm
        try simp only [nrm_] at ht11
        first | refine s_y (Y_fa 6 rfl Tryz.underlying34 rfl sz31 rfl) rfl rfl ?_ | refine s_pass rfl rfl ?_
        first | refine s_y (yl_ one31) rfl rfl ?_ | refine s_pass rfl rfl ?_
        first | refine s_y (Y_len rfl rfl Tryz.underlying31) rfl rfl ?_ | refine s_pass rfl rfl ?_
        first | refine s_y (Y_neq rfl rfl) rfl rfl ?_ | refine s_pass rfl rfl ?_
        refine s_y (Y_pk rfl Gx.const (Gx.tmp gt_)) rfl rfl ?_
        first | exact hm _ ⟨rfl, trivial⟩ rfl | exact QL.sub sl_ (hm _ ⟨rfl, trivial⟩ rfl)
      · intro ht11 hm
        iterate 4 refine s_pass rfl rfl ?_
        refine s_y (Y_pk rfl Gx.const (Gx.tmp gt_)) rfl rfl ?_
        exact hm _ ⟨rfl, trivial⟩ rfl
      intro j49
      refine s_y (Y_as) rfl rfl ?_
      refine s_nil ?_
      refine q_then ?_
      first | refine c_cond' rfl (fun hc9 => ?_) (fun hc9 => ?_) | refine c_cond rfl (fun hc9 => ?_) (fun hc9 => ?_)
      · skip
        try simp only [nrm_] at hc9
        refine c_seq ?_
        refine c_reg ?_
        refine s_y (Y_asC) rfl rfl ?_
        refine s_nil ?_
        refine q_then ?_
        refine c_ret ?_
        refine q_retG1 rfl gt_ (L' := _) sl_ (⟨by
            have : sizesOk d = false := by unfold sizesOk; rw [decide_eq_false_iff_not]; omega
            unfold headM; rw [if_neg hn, if_pos this], rfl⟩)
      · skip
        try simp only [nrm_] at hc9
        refine c_seq ?_
        have hs : ¬ sizesOk d = false := by unfold sizesOk; simp only [nrm_]; omega
        refine c_reg ?_
        refine s_y (Y_fa 4 rfl Tryz.underlying34 rfl sz24 rfl) rfl rfl ?_
        refine s_y (yl_ one24) rfl rfl ?_
        refine s_c (En_call (fun _ => rfl) Tryz.func154 rfl (by kernel_rfl) rfl) (fun w hH => pmax_d (hw.c.has hH) (by omega)) rfl rfl ?_
        rintro _ _ ⟨rfl, rfl⟩
        refine s_y (Y_gtr rfl rfl) rfl rfl ?_
        refine s_y (Y_as) rfl rfl ?_
        refine s_nil ?_
        refine q_then ?_
        first | refine c_cond' rfl (fun hc11 => ?_) (fun hc11 => ?_) | refine c_cond rfl (fun hc11 => ?_) (fun hc11 => ?_)
        · skip
          try simp only [nrm_] at hc11
          refine c_seq ?_
          refine c_reg ?_
          refine s_y (Y_asC) rfl rfl ?_
          refine s_nil ?_
          refine q_then ?_
          refine c_ret ?_
          refine q_retG1 rfl gt_ (L' := _) sl_ (⟨by
              have := (mx_gt 5 d.cells 0).1 (by show 5 < mxM d.cells; omega)
              unfold headM; rw [if_neg hn, if_neg hs, if_pos (by rcases this with h | h; omega; exact h)], rfl⟩)
        · skip
          try simp only [nrm_] at hc11
          refine c_seq ?_
          have ha : ¬ d.cells.any (fun x => decide (5 < x.toNat)) = true := fun h => by
            have := (mx_gt 5 d.cells 0).2 (.inr h)
            have : 5 < mxM d.cells := this
            omega
          refine c_reg ?_
          refine s_y (Y_fa 4 rfl Tryz.underlying34 rfl sz24 rfl) rfl rfl ?_
          refine s_y (yl_ one24) rfl rfl ?_
          refine s_n (N_bs (xs := [.const (Value.int Go.IntKind.u8 3)]) (by repeat (first | exact Gv.nil | apply Gv.const | apply Gv.tmp gt_)) rfl Tryz.underlying24 inf5 rfl (by omega) (by omega) (by first | simp [Value.oneCell'] | (intro v hv; simp at hv; subst hv; rfl))) rfl rfl (fun b58 _ => ?_)
          refine s_c (En_call (fun _ => rfl) Tryz.func155 rfl (by kernel_rfl) rfl) (fun w hH => pcount_d (k := 3) (hw.c.has hH) (hH.at' (x := ⟨b58, 5, 1, 1, [bv 3]⟩) mm_).ro) rfl rfl ?_
          rintro _ _ ⟨rfl, rfl⟩
          refine s_y (Y_neq rfl rfl) rfl rfl ?_
          refine s_y (Y_mv) rfl rfl ?_
          apply s_or 6 [61, 62, 63, 64, 65, 66, 67] 67 (g := 61) rfl rfl
          · intro ht6 hm
            try simp only [nrm_] at ht6
            first | refine s_y (Y_fa 4 rfl Tryz.underlying34 rfl sz24 rfl) rfl rfl ?_ | refine s_pass rfl rfl ?_
            first | refine s_y (yl_ one24) rfl rfl ?_ | refine s_pass rfl rfl ?_
            first | refine s_n (N_bs (xs := [.const (Value.int Go.IntKind.u8 4)]) (by repeat (first | exact Gv.nil | apply Gv.const | apply Gv.tmp gt_)) rfl Tryz.underlying24 inf5 rfl (by omega) (by omega) (by first | simp [Value.oneCell'] | (intro v hv; simp at hv; subst hv; rfl))) rfl rfl (fun b64 _ => ?_) | refine s_pass rfl rfl ?_
            refine s_c (En_call (fun _ => rfl) Tryz.func155 rfl (by kernel_rfl) rfl) (fun w hH => pcount_d (k := 4) (hw.c.has hH) (hH.at' (x := ⟨b64, 5, 1, 1, [bv 4]⟩) mm_).ro) rfl rfl ?_
            rintro _ _ ⟨rfl, rfl⟩
            first | refine s_y (Y_neq rfl rfl) rfl rfl ?_ | refine s_pass rfl rfl ?_
            refine s_y (Y_pk rfl Gx.const (Gx.tmp gt_)) rfl rfl ?_
            first | exact hm _ ⟨rfl, trivial⟩ rfl | exact QL.sub sl_ (hm _ ⟨rfl, trivial⟩ rfl)
          · intro ht6 hm
            iterate 5 refine s_pass rfl rfl ?_
            refine s_y (Y_pk rfl Gx.const (Gx.tmp gt_)) rfl rfl ?_
            exact hm _ ⟨rfl, trivial⟩ rfl
          intro j67
          refine s_y (Y_as) rfl rfl ?_
          refine s_nil ?_
          refine q_then ?_
          first | refine c_cond' rfl (fun hc13 => ?_) (fun hc13 => ?_) | refine c_cond rfl (fun hc13 => ?_) (fun hc13 => ?_)
          · skip
            try simp only [nrm_] at hc13
            refine c_seq ?_
            refine c_reg ?_
            refine s_y (Y_asC) rfl rfl ?_
            refine s_nil ?_
            refine q_then ?_
            refine c_ret ?_
            refine q_retG1 rfl gt_ (L' := _) sl_ (⟨by unfold headM; rw [if_neg hn, if_neg hs, if_neg ha, if_neg (by omega)], rfl⟩)
          · skip
            try simp only [nrm_] at hc13
            refine c_skip ?_
            refine q_bn ?_
            refine q_then ?_
            refine c_seq ?_
            refine c_reg ?_
            refine s_y (Y_asC) rfl rfl ?_
            refine s_nil ?_
            refine q_then ?_
            refine c_ret ?_
            refine q_retG1 rfl gt_ (L' := _) sl_ (⟨by unfold headM; rw [if_neg hn, if_neg hs, if_neg ha, if_pos (by omega)], rfl⟩)
set_option maxRecDepth 100000 in
theorem pfits_d {d : Wd} {s : Ws} (hw : WAt W d s) {i : Nat} {e : Ent} (he : d.ents[i]? = some e) (hl : d.ents.length = 32) : Does Tryz.prog 105 [.agg (wv d s).toArray, iv i] W [] (fun v L => v = .bool (fitsM d i e) ∧ L = []) := by
  have hr := hw.e.at' Ent.len he
  have hcap := hw.e.cap
  have hil : i < d.ents.length := (List.getElem?_eq_some_iff.1 he).1
  obtain ⟨st, hst0⟩ : ∃ q, statsM e.kind = q := ⟨_, rfl⟩
  have ht32 : d.ents.take 32 = d.ents := List.take_of_length_le (by omega)
  refine enter Tryz.func105 rfl rfl rfl (Has.start _) ?_
  refine c_seq ?_
  refine c_reg ?_
  refine s_n (N_box (cs := wv d s) rfl) rfl rfl (fun b2 _ => ?_)
  refine s_y (Y_asC) rfl rfl ?_
  refine s_nil ?_
  refine q_then ?_
  refine c_seq ?_
  refine c_reg ?_
  refine s_y (Y_fa 5 rfl Tryz.underlying34 rfl sz30 rfl) rfl rfl ?_
  refine s_y (yl_ one30) rfl rfl ?_
  refine s_y (Y_mv) rfl rfl ?_
  refine s_y (Y_ia rfl rfl Tryz.underlying30 sz93 rfl (by omega)) rfl rfl ?_
  refine s_y (ya_ many93) rfl rfl ?_
  refine s_n (N_alloc (z := .agg #[.int .i64 0, .int .i64 0, .int .i64 0, .int .i64 0, .int .i64 0, .int .i64 0, .int .i64 0, .int .i64 0, .int .i64 0, .int .i64 0, .int .i64 0]) (cs := [.int .i64 0, .int .i64 0, .int .i64 0, .int .i64 0, .int .i64 0, .int .i64 0, .int .i64 0, .int .i64 0, .int .i64 0, .int .i64 0, .int .i64 0]) zv93 rfl) rfl rfl (fun b5 _ => ?_)
  refine s_s (S_storeA (vs := e.cells) rfl rfl sz93 (by rfl) (by rfl) up_ (by rfl)) rfl ?_
  refine s_nil ?_
  refine q_then ?_
  refine c_seq ?_
  refine c_seq ?_
  refine c_reg ?_
  refine s_y (Y_fa 1 rfl Tryz.underlying93 rfl sz3 rfl) rfl rfl ?_
  refine s_y (yl_ one3) rfl rfl ?_
  refine s_c (En_call (fun _ => rfl) Tryz.func65 rfl (by kernel_rfl) rfl) (fun w hH => pwithin_d) rfl rfl ?_
  rintro _ _ ⟨rfl, rfl⟩
  refine s_y (Y_not rfl) rfl rfl ?_
  refine s_nil ?_
  refine q_then ?_
  first | refine c_cond' rfl (fun hc2 => ?_) (fun hc2 => ?_) | refine c_cond rfl (fun hc2 => ?_) (fun hc2 => ?_)
  · skip
    try simp only [nrm_] at hc2
    refine c_seq ?_
    refine c_reg ?_
    refine s_y (Y_asC) rfl rfl ?_
    refine s_nil ?_
    refine q_then ?_
    refine c_ret ?_
    refine q_retG1 rfl gt_ (L' := _) sl_ (⟨by unfold fitsM; rw [hc2]; rfl, rfl⟩)
  · skip
    try simp only [nrm_] at hc2
    refine c_skip ?_
    refine q_then ?_
    refine c_seq ?_
    refine c_seq ?_
    refine c_reg ?_
    refine s_y (Y_fa 0 rfl Tryz.underlying93 rfl sz3 rfl) rfl rfl ?_
    refine s_y (yl_ one3) rfl rfl ?_
    refine s_y (Y_eql rfl rfl) rfl rfl ?_
    refine s_nil ?_
    refine q_then ?_
    first | refine c_cond' rfl (fun hc4 => ?_) (fun hc4 => ?_) | refine c_cond rfl (fun hc4 => ?_) (fun hc4 => ?_)
    · skip
      try simp only [nrm_] at hc4
      refine c_seq ?_
      refine c_reg ?_
      refine s_y (ya_ many93) rfl rfl ?_
      refine s_y (Y_fa 1 rfl Tryz.underlying93 rfl sz3 rfl) rfl rfl ?_
      refine s_y (yl_ one3) rfl rfl ?_
      refine s_y (Y_build (cs := [.int .i64 0, _, .int .i64 0, .int .i64 0, .int .i64 0, .int .i64 0, .int .i64 0, .int .i64 0, .int .i64 0, .int .i64 0, .int .i64 0]) (by repeat (first | exact Gp.nil | apply Gp.const | apply Gp.tmp gt_)) (bld93 _ _ (by first | rfl | (simp; rfl)))) rfl rfl ?_
      refine s_y (Y_eqF (zs := [e.kind, e.gen, e.seat, e.x, e.y, e.hp, e.max, e.atk, e.df, e.poison, e.stun]) (zs' := [0, e.gen, 0, 0, 0, 0, 0, 0, 0, 0, 0]) rfl rfl flat93 rfl rfl) rfl rfl ?_
      refine s_y (Y_as) rfl rfl ?_
      refine s_nil ?_
      refine q_then ?_
      refine c_ret ?_
      refine q_retG1 rfl gt_ (L' := _) sl_ (⟨by unfold fitsM; rw [if_pos hc4]; congr 1; rw [show btw e.gen 0 255 = true by simpa using hc2, Bool.true_and]; simp [hc4], rfl⟩)
    · skip
      try simp only [nrm_] at hc4
      refine c_skip ?_
      refine q_then ?_
      refine c_seq ?_
      refine c_reg ?_
      refine s_y (Y_fa 0 rfl Tryz.underlying93 rfl sz3 rfl) rfl rfl ?_
      refine s_y (yl_ one3) rfl rfl ?_
      refine s_c (En_call (fun _ => rfl) Tryz.func129 rfl (by kernel_rfl) rfl) (fun w hH => pstats_d) rfl rfl ?_
      rintro _ _ ⟨rfl, rfl⟩
      rw [hst0]
      refine s_n (N_alloc (z := .agg #[.int .i64 0, .int .i64 0, .int .i64 0, .int .i64 0, .int .i64 0, .int .i64 0, .int .i64 0, .int .i64 0, .int .i64 0, .int .i64 0, .int .i64 0]) (cs := [.int .i64 0, .int .i64 0, .int .i64 0, .int .i64 0, .int .i64 0, .int .i64 0, .int .i64 0, .int .i64 0, .int .i64 0, .int .i64 0, .int .i64 0]) zv93 rfl) rfl rfl (fun b6 _ => ?_)
      refine s_s ((sa_ sz93)) rfl ?_
      refine s_nil ?_
      refine q_then ?_
      refine c_seq ?_
      refine c_reg ?_
      refine s_y (Y_fa 4 rfl Tryz.underlying34 rfl sz24 rfl) rfl rfl ?_
      refine s_y (yl_ one24) rfl rfl ?_
      refine s_y (Y_fa 3 rfl Tryz.underlying93 rfl sz3 rfl) rfl rfl ?_
      refine s_y (yl_ one3) rfl rfl ?_
      refine s_y (Y_fa 4 rfl Tryz.underlying93 rfl sz3 rfl) rfl rfl ?_
      refine s_y (yl_ one3) rfl rfl ?_
      refine s_c (En_call (fun _ => rfl) Tryz.func157 rfl (by kernel_rfl) rfl) (fun w hH => pgat_d (hw.c.has hH)) rfl rfl ?_
      rintro _ _ ⟨rfl, rfl⟩
      refine s_c (En_call (fun _ => rfl) Tryz.func156 rfl (by kernel_rfl) rfl) (fun w hH => pwalk_d) rfl rfl ?_
      rintro _ _ ⟨rfl, rfl⟩
      refine s_y (Y_mv) rfl rfl ?_
      apply s_and 6 [36, 37, 38, 39, 40, 41, 42] 42 (g := 36) rfl rfl
      · intro ht9 hm
        try simp only [nrm_] at ht9
        first | refine s_y (Y_fa 5 rfl Tryz.underlying93 rfl sz3 rfl) rfl rfl ?_ | refine s_pass rfl rfl ?_
        first | refine s_y (yl_ one3) rfl rfl ?_ | refine s_pass rfl rfl ?_
        first | refine s_y (Y_fa 6 rfl Tryz.underlying93 rfl sz3 rfl) rfl rfl ?_ | refine s_pass rfl rfl ?_
        first | refine s_y (yl_ one3) rfl rfl ?_ | refine s_pass rfl rfl ?_
        refine s_c (En_call (fun _ => rfl) Tryz.func65 rfl (by kernel_rfl) rfl) (fun w hH => pwithin_d) rfl rfl ?_
        rintro _ _ ⟨rfl, rfl⟩
        refine s_y (Y_pk rfl (Gx.tmp gt_) Gx.const) rfl rfl ?_
        first | exact hm _ ⟨rfl, trivial⟩ rfl | exact QL.sub sl_ (hm _ ⟨rfl, trivial⟩ rfl)
      · intro ht9 hm
        iterate 5 refine s_pass rfl rfl ?_
        refine s_y (Y_pk rfl (Gx.tmp gt_) Gx.const) rfl rfl ?_
        exact hm _ ⟨rfl, trivial⟩ rfl
      intro j42
      refine s_y (Y_mv) rfl rfl ?_
      apply s_and 6 [43, 44, 45, 46, 47, 48, 49] 49 (g := 43) rfl rfl
      · intro ht16 hm
        try simp only [nrm_] at ht16
        first | refine s_y (Y_fa 6 rfl Tryz.underlying93 rfl sz3 rfl) rfl rfl ?_ | refine s_pass rfl rfl ?_
        first | refine s_y (yl_ one3) rfl rfl ?_ | refine s_pass rfl rfl ?_
        first | refine s_y (Y_fa 6 rfl Tryz.underlying93 rfl sz3 rfl) rfl rfl ?_ | refine s_pass rfl rfl ?_
        first | refine s_y (yl_ one3) rfl rfl ?_ | refine s_pass rfl rfl ?_
        first | refine s_y (Y_eql rfl rfl) rfl rfl ?_ | refine s_pass rfl rfl ?_
        refine s_y (Y_pk rfl (Gx.tmp gt_) Gx.const) rfl rfl ?_
        first | exact hm _ ⟨rfl, trivial⟩ rfl | exact QL.sub sl_ (hm _ ⟨rfl, trivial⟩ rfl)
      · intro ht16 hm
        iterate 5 refine s_pass rfl rfl ?_
        refine s_y (Y_pk rfl (Gx.tmp gt_) Gx.const) rfl rfl ?_
        exact hm _ ⟨rfl, trivial⟩ rfl
      intro j49
      refine s_y (Y_mv) rfl rfl ?_
      apply s_and 6 [50, 51, 52, 53, 54, 55, 56] 56 (g := 50) rfl rfl
      · intro ht23 hm
        try simp only [nrm_] at ht23
        first | refine s_y (Y_fa 7 rfl Tryz.underlying93 rfl sz3 rfl) rfl rfl ?_ | refine s_pass rfl rfl ?_
        first | refine s_y (yl_ one3) rfl rfl ?_ | refine s_pass rfl rfl ?_
        first | refine s_y (Y_fa 7 rfl Tryz.underlying93 rfl sz3 rfl) rfl rfl ?_ | refine s_pass rfl rfl ?_
        first | refine s_y (yl_ one3) rfl rfl ?_ | refine s_pass rfl rfl ?_
        first | refine s_y (Y_eql rfl rfl) rfl rfl ?_ | refine s_pass rfl rfl ?_
        refine s_y (Y_pk rfl (Gx.tmp gt_) Gx.const) rfl rfl ?_
        first | exact hm _ ⟨rfl, trivial⟩ rfl | exact QL.sub sl_ (hm _ ⟨rfl, trivial⟩ rfl)
      · intro ht23 hm
        iterate 5 refine s_pass rfl rfl ?_
        refine s_y (Y_pk rfl (Gx.tmp gt_) Gx.const) rfl rfl ?_
        exact hm _ ⟨rfl, trivial⟩ rfl
      intro j56
      refine s_y (Y_mv) rfl rfl ?_
      apply s_and 6 [57, 58, 59, 60, 61, 62, 63] 63 (g := 57) rfl rfl
      · intro ht30 hm
        try simp only [nrm_] at ht30
        first | refine s_y (Y_fa 8 rfl Tryz.underlying93 rfl sz3 rfl) rfl rfl ?_ | refine s_pass rfl rfl ?_
        first | refine s_y (yl_ one3) rfl rfl ?_ | refine s_pass rfl rfl ?_
        first | refine s_y (Y_fa 8 rfl Tryz.underlying93 rfl sz3 rfl) rfl rfl ?_ | refine s_pass rfl rfl ?_
        first | refine s_y (yl_ one3) rfl rfl ?_ | refine s_pass rfl rfl ?_
        first | refine s_y (Y_eql rfl rfl) rfl rfl ?_ | refine s_pass rfl rfl ?_
        refine s_y (Y_pk rfl (Gx.tmp gt_) Gx.const) rfl rfl ?_
        first | exact hm _ ⟨rfl, trivial⟩ rfl | exact QL.sub sl_ (hm _ ⟨rfl, trivial⟩ rfl)
      · intro ht30 hm
        iterate 5 refine s_pass rfl rfl ?_
        refine s_y (Y_pk rfl (Gx.tmp gt_) Gx.const) rfl rfl ?_
        exact hm _ ⟨rfl, trivial⟩ rfl
      intro j63
      refine s_y (Y_as) rfl rfl ?_
      refine s_nil ?_
      refine q_then ?_
      refine c_seq ?_
      refine c_reg ?_
      refine s_y (Y_mv) rfl rfl ?_
      refine s_y (Y_mv) rfl rfl ?_
      apply s_and 4 [65, 66, 67, 68, 69] 69 (g := 65) rfl rfl
      · intro ht2 hm
        try simp only [nrm_] at ht2
        first | refine s_y (Y_fa 9 rfl Tryz.underlying93 rfl sz3 rfl) rfl rfl ?_ | refine s_pass rfl rfl ?_
        first | refine s_y (yl_ one3) rfl rfl ?_ | refine s_pass rfl rfl ?_
        refine s_c (En_call (fun _ => rfl) Tryz.func65 rfl (by kernel_rfl) rfl) (fun w hH => pwithin_d) rfl rfl ?_
        rintro _ _ ⟨rfl, rfl⟩
        refine s_y (Y_pk rfl (Gx.tmp gt_) Gx.const) rfl rfl ?_
        first | exact hm _ ⟨rfl, trivial⟩ rfl | exact QL.sub sl_ (hm _ ⟨rfl, trivial⟩ rfl)
      · intro ht2 hm
        iterate 3 refine s_pass rfl rfl ?_
        refine s_y (Y_pk rfl (Gx.tmp gt_) Gx.const) rfl rfl ?_
        exact hm _ ⟨rfl, trivial⟩ rfl
      intro j69
      refine s_y (Y_mv) rfl rfl ?_
      apply s_and 4 [70, 71, 72, 73, 74] 74 (g := 70) rfl rfl
      · intro ht7 hm
        try simp only [nrm_] at ht7
        first | refine s_y (Y_fa 10 rfl Tryz.underlying93 rfl sz3 rfl) rfl rfl ?_ | refine s_pass rfl rfl ?_
        first | refine s_y (yl_ one3) rfl rfl ?_ | refine s_pass rfl rfl ?_
        refine s_c (En_call (fun _ => rfl) Tryz.func65 rfl (by kernel_rfl) rfl) (fun w hH => pwithin_d) rfl rfl ?_
        rintro _ _ ⟨rfl, rfl⟩
        refine s_y (Y_pk rfl (Gx.tmp gt_) Gx.const) rfl rfl ?_
        first | exact hm _ ⟨rfl, trivial⟩ rfl | exact QL.sub sl_ (hm _ ⟨rfl, trivial⟩ rfl)
      · intro ht7 hm
        iterate 3 refine s_pass rfl rfl ?_
        refine s_y (Y_pk rfl (Gx.tmp gt_) Gx.const) rfl rfl ?_
        exact hm _ ⟨rfl, trivial⟩ rfl
      intro j74
      refine s_y (Y_as) rfl rfl ?_
      refine s_nil ?_
      refine q_then ?_
      refine c_seq ?_
      refine c_seq ?_
      have hgen : btw e.gen 0 255 = true := by simpa using hc2
      have hrow := fnd_row (p := fun x : Ent => decide (x.kind ≠ 0 ∧ x.x = e.x ∧ x.y = e.y)) he (by simp [hc4])
      refine c_reg ?_
      refine s_y (Y_fa 0 rfl Tryz.underlying93 rfl sz3 rfl) rfl rfl ?_
      refine s_y (yl_ one3) rfl rfl ?_
      refine s_y (Y_eql rfl rfl) rfl rfl ?_
      refine s_nil ?_
      refine q_then ?_
      first | refine c_cond' rfl (fun hc9 => ?_) (fun hc9 => ?_) | refine c_cond rfl (fun hc9 => ?_) (fun hc9 => ?_)
      · skip
        try simp only [nrm_] at hc9
        refine c_seq ?_
        refine c_reg ?_
        refine s_y (Y_mv) rfl rfl ?_
        refine s_y (Y_mv) rfl rfl ?_
        apply s_and 4 [79, 80, 81, 82, 83] 83 (g := 79) rfl rfl
        · intro ht2 hm
          try simp only [nrm_] at ht2
          first | refine s_y (Y_fa 2 rfl Tryz.underlying93 rfl sz3 rfl) rfl rfl ?_ | refine s_pass rfl rfl ?_
          first | refine s_y (yl_ one3) rfl rfl ?_ | refine s_pass rfl rfl ?_
          refine s_c (En_call (fun _ => rfl) Tryz.func65 rfl (by kernel_rfl) rfl) (fun w hH => pwithin_d) rfl rfl ?_
          rintro _ _ ⟨rfl, rfl⟩
          refine s_y (Y_pk rfl (Gx.tmp gt_) Gx.const) rfl rfl ?_
          first | exact hm _ ⟨rfl, trivial⟩ rfl | exact QL.sub sl_ (hm _ ⟨rfl, trivial⟩ rfl)
        · intro ht2 hm
          iterate 3 refine s_pass rfl rfl ?_
          refine s_y (Y_pk rfl (Gx.tmp gt_) Gx.const) rfl rfl ?_
          exact hm _ ⟨rfl, trivial⟩ rfl
        intro j83
        refine s_y (Y_mv) rfl rfl ?_
        apply s_and 10 [84, 85, 86, 87, 88, 89, 90, 91, 92, 93, 94] 94 (g := 84) rfl rfl
        · intro ht7 hm
          try simp only [nrm_] at ht7
          first | refine s_y (Y_fa 5 rfl Tryz.underlying34 rfl sz30 rfl) rfl rfl ?_ | refine s_pass rfl rfl ?_
          first | refine s_y (yl_ one30) rfl rfl ?_ | refine s_pass rfl rfl ?_
          first | refine s_y (Y_fa 3 rfl Tryz.underlying93 rfl sz3 rfl) rfl rfl ?_ | refine s_pass rfl rfl ?_
          first | refine s_y (yl_ one3) rfl rfl ?_ | refine s_pass rfl rfl ?_
          first | refine s_y (Y_fa 4 rfl Tryz.underlying93 rfl sz3 rfl) rfl rfl ?_ | refine s_pass rfl rfl ?_
          first | refine s_y (yl_ one3) rfl rfl ?_ | refine s_pass rfl rfl ?_
          refine s_c (En_call (fun _ => rfl) Tryz.func115 rfl (by kernel_rfl) rfl) (fun w hH => peat_d (hw.e.has hH)) rfl rfl ?_
          rintro _ _ ⟨rfl, rfl⟩
          first | refine s_y (Y_mv) rfl rfl ?_ | refine s_pass rfl rfl ?_
          first | refine s_y (Y_eql rfl rfl) rfl rfl ?_ | refine s_pass rfl rfl ?_
          refine s_y (Y_pk rfl (Gx.tmp gt_) Gx.const) rfl rfl ?_
          first | exact hm _ ⟨rfl, trivial⟩ rfl | exact QL.sub sl_ (hm _ ⟨rfl, trivial⟩ rfl)
        · intro ht7 hm
          iterate 9 refine s_pass rfl rfl ?_
          refine s_y (Y_pk rfl (Gx.tmp gt_) Gx.const) rfl rfl ?_
          exact hm _ ⟨rfl, trivial⟩ rfl
        intro j94
        refine s_y (Y_mv) rfl rfl ?_
        apply s_and 8 [95, 96, 97, 98, 99, 100, 101, 102, 103] 103 (g := 95) rfl rfl
        · intro ht18 hm
          try simp only [nrm_] at ht18
          first | refine s_y (Y_fa 5 rfl Tryz.underlying34 rfl sz30 rfl) rfl rfl ?_ | refine s_pass rfl rfl ?_
          first | refine s_y (yl_ one30) rfl rfl ?_ | refine s_pass rfl rfl ?_
          first | refine s_y (Y_fa 2 rfl Tryz.underlying93 rfl sz3 rfl) rfl rfl ?_ | refine s_pass rfl rfl ?_
          first | refine s_y (yl_ one3) rfl rfl ?_ | refine s_pass rfl rfl ?_
          refine s_c (En_call (fun _ => rfl) Tryz.func127 rfl (by kernel_rfl) rfl) (fun w hH => phero_d (hw.e.has hH)) rfl rfl ?_
          rintro _ _ ⟨rfl, rfl⟩
          first | refine s_y (Y_mv) rfl rfl ?_ | refine s_pass rfl rfl ?_
          first | refine s_y (Y_eql rfl rfl) rfl rfl ?_ | refine s_pass rfl rfl ?_
          refine s_y (Y_pk rfl (Gx.tmp gt_) Gx.const) rfl rfl ?_
          first | exact hm _ ⟨rfl, trivial⟩ rfl | exact QL.sub sl_ (hm _ ⟨rfl, trivial⟩ rfl)
        · intro ht18 hm
          iterate 7 refine s_pass rfl rfl ?_
          refine s_y (Y_pk rfl (Gx.tmp gt_) Gx.const) rfl rfl ?_
          exact hm _ ⟨rfl, trivial⟩ rfl
        intro j103
        refine s_y (Y_as) rfl rfl ?_
        refine s_nil ?_
        refine q_then ?_
        refine c_ret ?_
        refine q_retG1 rfl gt_ (L' := _) sl_ (⟨by
            have hrow2 := fnd_row (p := fun x : Ent => decide (x.kind = 1 ∧ x.seat = e.seat)) he (by simp [hc9])
            rw [ht32]
            congr 1
            rw [Bool.eq_iff_iff, fits_iff hc4, hst0]
            rw [show eAt d.ents e.x e.y = _ from rfl, show eHero d.ents e.seat = _ from rfl]
            simp only [nrm_, btw, eAt, eHero, hrow, hrow2] at hgen ⊢
            grind, rfl⟩)
      · skip
        try simp only [nrm_] at hc9
        refine c_skip ?_
        refine q_then ?_
        refine c_seq ?_
        refine c_reg ?_
        refine s_y (Y_mv) rfl rfl ?_
        refine s_y (Y_mv) rfl rfl ?_
        apply s_and 4 [105, 106, 107, 108, 109] 109 (g := 105) rfl rfl
        · intro ht2 hm
          try simp only [nrm_] at ht2
          first | refine s_y (Y_fa 2 rfl Tryz.underlying93 rfl sz3 rfl) rfl rfl ?_ | refine s_pass rfl rfl ?_
          first | refine s_y (yl_ one3) rfl rfl ?_ | refine s_pass rfl rfl ?_
          first | refine s_y (Y_eql rfl rfl) rfl rfl ?_ | refine s_pass rfl rfl ?_
          refine s_y (Y_pk rfl (Gx.tmp gt_) Gx.const) rfl rfl ?_
          first | exact hm _ ⟨rfl, trivial⟩ rfl | exact QL.sub sl_ (hm _ ⟨rfl, trivial⟩ rfl)
        · intro ht2 hm
          iterate 3 refine s_pass rfl rfl ?_
          refine s_y (Y_pk rfl (Gx.tmp gt_) Gx.const) rfl rfl ?_
          exact hm _ ⟨rfl, trivial⟩ rfl
        intro j109
        refine s_y (Y_mv) rfl rfl ?_
        apply s_and 10 [110, 111, 112, 113, 114, 115, 116, 117, 118, 119, 120] 120 (g := 110) rfl rfl
        · intro ht7 hm
          try simp only [nrm_] at ht7
          first | refine s_y (Y_fa 5 rfl Tryz.underlying34 rfl sz30 rfl) rfl rfl ?_ | refine s_pass rfl rfl ?_
          first | refine s_y (yl_ one30) rfl rfl ?_ | refine s_pass rfl rfl ?_
          first | refine s_y (Y_fa 3 rfl Tryz.underlying93 rfl sz3 rfl) rfl rfl ?_ | refine s_pass rfl rfl ?_
          first | refine s_y (yl_ one3) rfl rfl ?_ | refine s_pass rfl rfl ?_
          first | refine s_y (Y_fa 4 rfl Tryz.underlying93 rfl sz3 rfl) rfl rfl ?_ | refine s_pass rfl rfl ?_
          first | refine s_y (yl_ one3) rfl rfl ?_ | refine s_pass rfl rfl ?_
          refine s_c (En_call (fun _ => rfl) Tryz.func115 rfl (by kernel_rfl) rfl) (fun w hH => peat_d (hw.e.has hH)) rfl rfl ?_
          rintro _ _ ⟨rfl, rfl⟩
          first | refine s_y (Y_mv) rfl rfl ?_ | refine s_pass rfl rfl ?_
          first | refine s_y (Y_eql rfl rfl) rfl rfl ?_ | refine s_pass rfl rfl ?_
          refine s_y (Y_pk rfl (Gx.tmp gt_) Gx.const) rfl rfl ?_
          first | exact hm _ ⟨rfl, trivial⟩ rfl | exact QL.sub sl_ (hm _ ⟨rfl, trivial⟩ rfl)
        · intro ht7 hm
          iterate 9 refine s_pass rfl rfl ?_
          refine s_y (Y_pk rfl (Gx.tmp gt_) Gx.const) rfl rfl ?_
          exact hm _ ⟨rfl, trivial⟩ rfl
        intro j120
        refine s_y (Y_as) rfl rfl ?_
        refine s_nil ?_
        refine q_then ?_
        refine c_ret ?_
        refine q_retG1 rfl gt_ (L' := _) sl_ (⟨by
            rw [ht32]
            congr 1
            rw [Bool.eq_iff_iff, fits_iff hc4, hst0]
            rw [show eAt d.ents e.x e.y = _ from rfl]
            simp only [nrm_, btw, eAt, hrow] at hgen ⊢
            grind, rfl⟩)
end
end Go.Proofs.YtcogbkkdccohfaaGreat
namespace Go.Ad
open Go.RowKit Go.Maps
set_option linter.unusedVariables false
set_option linter.unusedSimpArgs false
section
variable {P : Program} {W : World} {M : List Nat} {L : List Bk} {ρ : Operand → Value} {x y z : Operand} {ty : TypeId} {v : Value} {ops : Array Oper} {Q : Exit → Act → World → Prop} {rest : List Oper} {ov : Ov} {base : List Value}
def KeyOk (P : Program) (t : TypeId) (n : Nat) : Prop := Flat P t n ∧ (∃ fs, P.underlying t = some (.struct fs)) ∧ ∀ e w (zs : List Int), zs.length = n → (Instr.checkKey e 10000 t (.agg (ints zs))).run P w = .ok () w
theorem run_askKey {t : TypeId} {n : Nat} (hf : Flat P t n) {zs : List Int} (hz : zs.length = n) (w : World) : ∀ (es : List MapEntry) (kss : List (List Int)) (i : Nat), es.map (·.key) = kss.map (fun z => .agg (ints z)) → (∀ k ∈ kss, k.length = n) →
    ∃ r, (Instr.findAsking t (.agg (ints zs)) es i).run P w = .ok r w ∧ r.isSome = decide (zs ∈ kss)
  | [], [], i, _, _ => ⟨none, rfl, by simp⟩
  | e :: es, k :: kss, i, he, hk => by
    simp only [List.map_cons, List.cons.injEq] at he
    have h1 := hf.1 w zs k hz (hk k (List.Mem.head _))
    have h1' : (Op.equal t (.agg (ints zs)) (.agg (ints k))).run P w = .ok (decide (zs = k)) w := h1
    by_cases hzk : zs = k
    · refine ⟨some (i, e.val), ?_, by simp [hzk]⟩
      simp only [Instr.findAsking, Sem.run_bind, he.1, h1', Result.andThen_ok]
      simp [hzk]
    · obtain ⟨r, h2, h3⟩ := run_askKey hf hz w es kss (i + 1) he.2 (fun q hq => hk q (List.Mem.tail _ hq))
      refine ⟨r, ?_, by rw [h3]; simp [hzk]⟩
      simp only [Instr.findAsking, Sem.run_bind, he.1, h1', Result.andThen_ok]
      simpa [hzk] using h2
theorem run_findKey {t : TypeId} {n : Nat} (hf : KeyOk P t n) {zs : List Int} (hz : zs.length = n) (w : World) {es : List MapEntry} {kss : List (List Int)} (he : es.map (·.key) = kss.map (fun z => .agg (ints z))) (hk : ∀ k ∈ kss, k.length = n) :
    ∃ r, (Instr.findKey t (.agg (ints zs)) es).run P w = .ok r w ∧ r.isSome = decide (zs ∈ kss) := by
  obtain ⟨h1, ⟨fs, h2⟩, h3⟩ := hf
  obtain ⟨r, h4, h5⟩ := run_askKey h1 hz w es kss 0 he hk
  unfold Instr.findKey
  simp only [Sem.run_bind, run_underlying h2, Result.andThen_ok]
  cases es with
  | nil =>
    cases kss with
    | nil => exact ⟨none, rfl, by simp⟩
    | cons a b => simp at he
  | cons e es =>
    have : Instr.findNow (.struct fs) (.agg (ints zs)) (e :: es) 0 = none := rfl
    rw [this]
    exact ⟨r, h4, h5⟩
theorem N_look {b : Nat} {t kt et : TypeId} {n : Nat} {zs : List Int} {es : Array MapEntry} {clock : Nat} {kss : List (List Int)} {zv : Value} (hx : ρ x = .map (some b)) (hy : ρ y = .agg (ints zs)) (hu : P.underlying t = some (.map kt et)) (hf : KeyOk P kt n) (hz : zs.length = n) (hzv : ∀ w, (zeroValue et).run P w = .ok zv w)
    (hM : W.heap[b]? = some (.map es clock)) (he : es.toList.map (·.key) = kss.map (fun z => .agg (ints z))) (hk : ∀ k ∈ kss, k.length = n) : N P W [] L ρ (.lookup t x y true) ty (fun _ : Value => True) (fun v => .tuple #[v, .bool (decide (zs ∈ kss))]) (fun _ => L) := fun w hw o ho _ => by
  have hb : w.heap[b]? = some (.map es clock) := by
    have hlt : b < W.heap.size := (Array.getElem?_eq_some_iff.1 hM).1
    rw [hw.ex.block b hlt (by simp)]; exact hM
  obtain ⟨r, h1, h2⟩ := run_findKey hf hz w he hk
  have hck := hf.2.2 es.isEmpty w zs hz
  cases r with
  | none =>
    refine ⟨zv, w, trivial, ?_, hw⟩
    unfold execOp
    rw [ho]
    simp only [hx, hy, Instr.lookup, Sem.run_bind, run_underlying hu, Result.andThen_ok, MapKept.run_getObj_map hb, Sem.run_pure, hck, h1, hzv]
    have : decide (zs ∈ kss) = false := by rw [← h2]; rfl
    rw [this]; rfl
  | some p =>
    refine ⟨p.2, w, trivial, ?_, hw⟩
    unfold execOp
    rw [ho]
    simp only [hx, hy, Instr.lookup, Sem.run_bind, run_underlying hu, Result.andThen_ok, MapKept.run_getObj_map hb, Sem.run_pure, hck, h1]
    have : decide (zs ∈ kss) = true := by rw [← h2]; rfl
    rw [this]; rfl
theorem s_makeMap {d : Nat} {t : TypeId} {ty : TypeId} {pos : String} {aft : Array Edge} {g : Option (Nat × Bool)} (hw : wantedL ops ov base ⟨some d, .makeMap t none, ty, pos, aft, g⟩ = true) (hd : Nat.blt d base.length = true)
    (k : ∀ W1 b, Has W M L W1 → W1.heap[b]? = some (.map #[] 0) → W.heap.size ≤ b → wpL P W1 [] ops Q rest ((d, .map (some b)) :: ov) base []) : wpL P W M ops Q (⟨some d, .makeMap t none, ty, pos, aft, g⟩ :: rest) ov base L := fun a w hr hH => by
  have hA : Has W M L (w.alloc (.map #[] 0)) := ⟨hH.ex.alloc _, fun x hx => ⟨(hH.at' hx).of_block (Below.heap_alloc w _ _ (hH.at' hx).lt), (hH.bk x hx).2⟩, hH.nd⟩
  refine G_val (by rw [hr.wanted]; exact hw) (v := .map (some w.heap.size)) (w' := w.alloc (.map #[] 0)) ?_ (k _ _ hA (heap_alloc_new w _) hH.size _ _ (hr.put _ hd) (Has.start _))
  unfold execOp
  rfl
theorem s_mapUpd {b : Nat} {t kt et : TypeId} {n : Nat} {zs : List Int} {es : Array MapEntry} {clock : Nat} {kss : List (List Int)} {pos : String} {aft : Array Edge} {g : Option (Nat × Bool)} (hx : ev ov base x = .map (some b)) (hy : ev ov base y = .agg (ints zs)) (hv : ev ov base z = v) (hu : P.underlying t = some (.map kt et)) (hf : KeyOk P kt n) (hz : zs.length = n)
    (hM : W.heap[b]? = some (.map es clock)) (he : es.toList.map (·.key) = kss.map (fun z => .agg (ints z))) (hk : ∀ k ∈ kss, k.length = n) (hno : zs ∉ kss) (hw : wantedL ops ov base ⟨none, .mapUpdate t x y z, ty, pos, aft, g⟩ = true)
    (k : ∀ W1, W1.heap[b]? = some (.map (es.push ⟨.agg (ints zs), v, clock⟩) (clock + 1)) → Ex [b] W W1 → wpL P W1 [] ops Q rest ov base []) : wpL P W [] ops Q (⟨none, .mapUpdate t x y z, ty, pos, aft, g⟩ :: rest) ov base L := fun a w hr hH => by
  have hlt : b < W.heap.size := (Array.getElem?_eq_some_iff.1 hM).1
  have hb : w.heap[b]? = some (.map es clock) := by
    rw [hH.ex.block b hlt (by simp)]; exact hM
  obtain ⟨r, h1, h2⟩ := run_findKey hf hz w he hk
  have hck := hf.2.2 false w zs hz
  obtain rfl : r = none := by
    cases r with
    | none => rfl
    | some p => simp [hno] at h2
  refine G_skip (by rw [hr.wanted]; exact hw) (w' := ChangeMaps.setBlock w b (.map (es.push ⟨.agg (ints zs), v, clock⟩) (clock + 1))) ?_ (k _ ?_ ?_ _ _ hr (Has.start _))
  · rw [hr.eval]
    unfold execOp
    simp only [hx, hy, hv, Instr.mapUpdate, Sem.run_bind, run_underlying hu, Result.andThen_ok, MapKept.run_getObj_map hb, hck, h1, MapKept.run_setObj_map _ hb]
    rfl
  · have hbw : b < w.heap.size := (Array.getElem?_eq_some_iff.1 hb).1
    simp [ChangeMaps.setBlock, hbw]
  · refine ⟨hH.ex.os, hH.ex.tape, hH.ex.output, by simpa [ChangeMaps.setBlock] using hH.ex.size, fun i hi hn => ?_⟩
    have hne : b ≠ i := fun h => hn (by simp [h])
    rw [← hH.ex.block i hi (by simp)]
    simp [ChangeMaps.setBlock, hne]
theorem c_loopW {α : Type} (ks : List Nat) (φ : Nat → α → World → Prop) (tr : α → Ov) (n0 : Nat) (y0 : α) {c : Code} (h0 : ∀ w, Has W [] [] w → φ n0 y0 w) (ht : AllGet ov base (tr y0))
    (hk : ∀ y, ((tr y).all fun p => ks.any (Nat.beq p.1)) = true)
    (round : ∀ n y j W', φ n y W' → ∀ K, (∀ n' y' ov' W'' L'', n' < n → (∀ w, Has W'' [] L'' w → φ n' y' w) → AllGet ov' base (tr y') → ov'.drop ks = ov.drop ks → QL W'' [] K ov' base L'') → wpC P W' [] c (Exit.then K Q) (tr y ++ (junk ks j ++ ov)) base []) : wpC P W [] (.loop c) Q ov base L := fun a w hr hH => by
  refine wp_loop_ghost (fun n a w => ∃ y, φ n y w ∧ ∃ j, Rep (tr y ++ (junk ks j ++ ov)) base a) n0 ⟨y0, h0 w (hH.sub (List.nil_sublist _)), _, hr.again ht rfl (hk y0)⟩ ?_
  rintro n a w ⟨y, hy, j, hr⟩
  exact round n y j w hy _ (fun n' y' ov' W'' L'' hlt hy' ha hd a' w' hr' hH' => ⟨n', hlt, y', hy' w' hH', _, hr'.again ha hd (hk y')⟩) a w hr (Has.start w)
theorem q_retW {fn : Func} {W0 : World} {t : Nat} {v : Value} {Post : Value → List Bk → Prop} (hX : ∀ w, Ex [] W w → Ex [] W0 w) (hr : fn.results = #[.tmp t]) (hv : Gt ov base t v) (hp : Post v []) : QL W [] (bodyPost P fn (fun e w' => ∃ v L, e = .returned v ∧ Has W0 [] L w' ∧ Post v L) .ret) ov base L := fun a w hrp hH =>
  bodyPost_ret (v := v) (by rw [results_tmp hr, hrp.get, hv.eq]) hrp.defers ⟨v, [], rfl, ⟨hX w hH.ex, by simp, by simp⟩, hp⟩
end
end Go.Ad
namespace Go.Ad
def keysOf (l : List Itm) : List (List Int) := (l.filter fun y => !y.isZ).map fun y => [0, y.whr, y.a, y.b]
theorem keys_len (l : List Itm) : ∀ k ∈ keysOf l, k.length = 4 := fun k hk => by
  obtain ⟨y, _, rfl⟩ := List.mem_map.1 hk
  rfl
theorem keys_step {l : List Itm} {i : Nat} {x : Itm} (h : l[i]? = some x) : keysOf (l.take (i + 1)) = keysOf (l.take i) ++ if x.isZ then [] else [[0, x.whr, x.a, x.b]] := by
  obtain ⟨hi, rfl⟩ := List.getElem?_eq_some_iff.1 h
  unfold keysOf
  rw [← List.take_append_getElem hi, List.filter_append, List.map_append, List.filter_cons, List.filter_nil]
  cases (l[i]).isZ <;> rfl
theorem alone_keys {l : List Itm} {x : Itm} (hnz : ∀ y ∈ l, y.isZ = false → y.whr ≠ 0) : aloneM l x = !decide ([0, x.whr, x.a, x.b] ∈ keysOf l) := by
  rw [Bool.eq_iff_iff, Bool.not_eq_true', decide_eq_false_iff_not, aloneM, List.all_eq_true]
  constructor
  · rintro h hm
    obtain ⟨y, hy', he⟩ := List.mem_map.1 hm
    obtain ⟨hy, hz⟩ := List.mem_filter.1 hy'
    simp only [List.cons.injEq, and_true, true_and] at he
    have := h y hy
    rw [Bool.not_eq_true', decide_eq_false_iff_not] at this
    exact this ⟨he.1, he.2.1, he.2.2, hnz y hy (by simpa using hz)⟩
  · intro h y hy
    rw [Bool.not_eq_true', decide_eq_false_iff_not]
    rintro ⟨h1, h2, h3, h4⟩
    refine h (List.mem_map.2 ⟨y, List.mem_filter.2 ⟨hy, ?_⟩, by rw [h1, h2, h3]⟩)
    rw [Bool.not_eq_true', isz_iff, decide_eq_false_iff_not]
    intro h5
    simp only [List.cons.injEq, and_true] at h5
    exact h4 h5.2.1
theorem placed_whr {cells : List UInt8} {x : Itm} (h : placedM cells x = true) : x.whr ≠ 0 := by
  intro h0
  unfold placedM at h
  rw [if_neg (by omega), if_neg (by omega), if_neg (by omega), if_neg (by omega)] at h
  cases h
theorem Ex.fresh {W w w' : World} {b : Nat} (h : Ex [] W w) (k : Ex [b] w w') (hb : W.heap.size ≤ b) : Ex [] W w' :=
  ⟨k.os.trans h.os, k.tape.trans h.tape, k.output.trans h.output, Nat.le_trans h.size k.size, fun i hi _ => by
    rw [k.block i (Nat.lt_of_lt_of_le hi h.size) (by simp; omega)]
    exact h.block i hi (by simp)⟩
theorem Ex.roN {W w : World} {b o b2 : Nat} {c : List Value} (h : Ex [b2] W w) (hr : Ro W b o c) (hne : b ≠ b2) : Ro w b o c := fun j v hv => by
  have h1 := hr j v hv
  rw [h.cell (p := ⟨b, o + j, none⟩) (block_lt_of_cell h1) (by simpa using hne)]; exact h1
theorem Ex.hasN {W w : World} (h : Ex [] W w) : Has W [] [] w := ⟨h, by simp, by simp⟩
end Go.Ad
namespace Go.Proofs.YtcogbkkdccohfaaGreat
open Go.RowKit Go.Ad Go.Maps
set_option linter.unusedVariables false
set_option linter.unusedSimpArgs false
theorem keyItem : KeyOk Tryz.prog 98 4 := ⟨flat98, ⟨_, Tryz.underlying98⟩, by
  intro e w zs hz
  rcases zs with _ | ⟨a, _ | ⟨b, _ | ⟨c, _ | ⟨d, _ | ⟨x, r⟩⟩⟩⟩⟩ <;> first | (simp at hz; done) | kernel_rfl⟩
section
variable {W : World}
set_option maxRecDepth 100000 in
theorem pplaceI_d {x : Itm} : Does Tryz.prog 158 [.agg x.cells.toArray] W [] (fun v L => v = .agg (ints [0, x.whr, x.a, x.b]) ∧ L = []) := by
  refine enter Tryz.func158 rfl rfl rfl (Has.start _) ?_
  refine c_seq ?_
  refine c_reg ?_
  refine s_n (N_box (cs := x.cells) rfl) rfl rfl (fun b1 _ => ?_)
  refine s_n (N_alloc (z := .agg #[.int .i64 0, .int .i64 0, .int .i64 0, .int .i64 0]) (cs := [.int .i64 0, .int .i64 0, .int .i64 0, .int .i64 0]) zv98 rfl) rfl rfl (fun b2 _ => ?_)
  refine s_nil ?_
  refine q_then ?_
  refine c_seq ?_
  refine c_reg ?_
  refine s_y (Y_fa 0 rfl Tryz.underlying98 rfl sz3 rfl) rfl rfl ?_
  refine s_s (S_stC (cs' := ({ x with kind := 0 } : Itm).cells) rfl sz3 (by rfl) up_ (by rfl) (by rw [Itm.len]; decide)) rfl ?_
  refine s_nil ?_
  refine q_then ?_
  refine c_seq ?_
  refine c_reg ?_
  refine s_y (ya_ many98) rfl rfl ?_
  refine s_s (S_storeA (vs := ({ x with kind := 0 } : Itm).cells) rfl rfl sz98 (by rfl) (by rfl) up_ (by rfl)) rfl ?_
  refine s_nil ?_
  refine q_then ?_
  refine c_ret ?_
  refine q_ret1c rfl rfl many98 mm_ (by rfl) (L' := _) sl_ (⟨rfl, rfl⟩)
set_option maxRecDepth 100000 in
theorem pgoods_d {d : Wd} {s : Ws} (hw : WAt W d s) (hok : ∀ x ∈ d.items, Itm.ok x) : Does Tryz.prog 106 [.agg (wv d s).toArray] W [] (fun v L => v = .bool (goodsM d) ∧ L = []) := by
  have hcap := hw.i.cap
  refine enter Tryz.func106 rfl rfl rfl (Has.start _) ?_
  refine c_seq ?_
  refine c_reg ?_
  refine s_n (N_box (cs := wv d s) rfl) rfl rfl (fun b1 _ => ?_)
  refine s_y (Y_asC) rfl rfl ?_
  refine s_nil ?_
  refine q_then ?_
  refine c_seq ?_
  refine c_seq ?_
  refine c_reg ?_
  refine s_y (Y_fa 6 rfl Tryz.underlying34 rfl sz31 rfl) rfl rfl ?_
  refine s_y (yl_ one31) rfl rfl ?_
  refine s_y (Y_len rfl rfl Tryz.underlying31) rfl rfl ?_
  refine s_y (Y_neq rfl rfl) rfl rfl ?_
  refine s_nil ?_
  refine q_then ?_
  first | refine c_cond' rfl (fun hc1 => ?_) (fun hc1 => ?_) | refine c_cond rfl (fun hc1 => ?_) (fun hc1 => ?_)
  · skip
    try simp only [nrm_] at hc1
    refine c_seq ?_
    refine c_reg ?_
    refine s_y (Y_asC) rfl rfl ?_
    refine s_nil ?_
    refine q_then ?_
    refine c_ret ?_
    refine q_retG1 rfl gt_ (L' := _) sl_ (⟨by unfold goodsM; rw [decide_eq_false (by omega)]; rfl, rfl⟩)
  · skip
    try simp only [nrm_] at hc1
    refine c_skip ?_
    refine q_then ?_
    refine c_seq ?_
    have hlen : d.items.length = 40 := by omega
    refine c_reg ?_
    refine s_makeMap rfl rfl (fun W1 bm hH1 hm hbm => ?_)
    have hb1 := (hH1.at' (x := wB b1 (wv d s)) mm_).ro
    have hne : b1 ≠ bm := fun h => by
      have h2 := (hH1.at' (x := wB b1 (wv d s)) mm_)
      obtain ⟨cur, h3, _⟩ := h2
      rw [h] at h3
      rw [h3] at hm
      cases hm
    have hx1 := hH1.ex
    refine s_y (Y_as) rfl rfl ?_
    refine s_nil ?_
    refine q_then ?_
    refine c_seq ?_
    refine c_seq ?_
    refine c_reg ?_
    refine s_y (Y_fa 6 rfl Tryz.underlying34 rfl sz31 rfl) rfl rfl ?_
    refine s_y (Y_loadR (i := 6) rfl one31 hb1 rfl rfl) rfl rfl ?_
    refine s_y (Y_len rfl rfl Tryz.underlying31) rfl rfl ?_
    refine s_y (Y_mvC) rfl rfl ?_
    refine s_nil ?_
    refine q_then ?_
    refine c_block ?_
    refine c_loopW [2, 4, 5, 6, 7, 16, 17, 18, 19, 20, 21, 22, 23, 24, 25, 26, 27, 28, 29, 30, 31, 32, 33, 34, 35, 36, 37, 38, 39, 40, 41, 42] (fun m i w => i + m = 40 ∧ Ex [] W w ∧ Ro w b1 0 (wv d s) ∧ (∃ es clock, w.heap[bm]? = some (.map es clock) ∧ es.toList.map (·.key) = (keysOf (d.items.take i)).map (fun z => .agg (ints z))) ∧ itemsM d.cells d.items (d.items.drop i) i = itemsM d.cells d.items d.items 0 ∧ (∀ y ∈ d.items.take i, y.isZ = false → y.whr ≠ 0)) (fun i => [(16, iv i)]) (40) (0) ?_ (by repeat (first | exact trivial | refine ⟨rfl, ?_⟩)) (fun _ => rfl) ?_
    · intro w hH
      exact ⟨rfl, hx1.trans hH.ex, hH.ex.ro hb1, ⟨#[], 0, by rw [hH.ex.block bm (Array.getElem?_eq_some_iff.1 hm).1 (by simp)]; exact hm, rfl⟩, rfl, by simp⟩
    rintro m i j W2 ⟨hi, hx2, hb2, ⟨es, clock, hm2, hes⟩, hf, hnz⟩ K hK
    have hlt2 := (Array.getElem?_eq_some_iff.1 hm2).1
    refine c_seq ?_
    refine c_reg ?_
    refine s_y (Y_lss rfl rfl) rfl rfl ?_
    refine s_nil ?_
    refine q_then ?_
    refine c_seq ?_
    first | refine c_cond' rfl (fun hc5 => ?_) (fun hc5 => ?_) | refine c_cond rfl (fun hc5 => ?_) (fun hc5 => ?_)
    · skip
      try simp only [nrm_] at hc5
      refine c_skip ?_
      refine q_then ?_
      refine c_seq ?_
      refine c_block ?_
      refine c_seq ?_
      obtain ⟨x, hx⟩ := take_lt (show i < d.items.length by omega)
      have hr := (hw.has hx2.hasN).i.at' Itm.len hx
      have hst := items_step (cells := d.cells) hx
      rw [hf] at hst
      have hks := keys_step hx
      refine c_reg ?_
      refine s_y (Y_mv) rfl rfl ?_
      refine s_y (Y_ia rfl rfl Tryz.underlying31 sz98 rfl (by omega)) rfl rfl ?_
      refine s_y (ya_ many98) rfl rfl ?_
      refine s_n (N_alloc (z := .agg #[.int .i64 0, .int .i64 0, .int .i64 0, .int .i64 0]) (cs := [.int .i64 0, .int .i64 0, .int .i64 0, .int .i64 0]) zv98 rfl) rfl rfl (fun b5 _ => ?_)
      refine s_y (Y_as) rfl rfl ?_
      refine s_s (S_storeA (vs := x.cells) rfl rfl sz98 (by rfl) (by rfl) up_ (by rfl)) rfl ?_
      refine s_nil ?_
      refine q_then ?_
      refine c_seq ?_
      refine c_seq ?_
      refine c_reg ?_
      refine s_y (ya_ many98) rfl rfl ?_
      refine s_y (Y_build (cs := [.int .i64 0, .int .i64 0, .int .i64 0, .int .i64 0]) (by repeat (first | exact Gp.nil | apply Gp.const | apply Gp.tmp gt_)) (bld98 _ _ (by first | rfl | (simp; rfl)))) rfl rfl ?_
      refine s_y (Y_eqF (zs := [x.kind, x.whr, x.a, x.b]) (zs' := [0, 0, 0, 0]) rfl rfl flat98 rfl rfl) rfl rfl ?_
      refine s_nil ?_
      refine q_then ?_
      first | refine c_cond' rfl (fun hc7 => ?_) (fun hc7 => ?_) | refine c_cond rfl (fun hc7 => ?_) (fun hc7 => ?_)
      · skip
        try simp only [nrm_] at hc7
        refine c_exit ?_
        repeat with_reducible refine q_te ?_
        refine q_exit ?_
        refine q_then ?_
        refine c_reg ?_
        refine s_y ad_ rfl rfl ?_
        refine s_y (Y_mv) rfl rfl ?_
        refine s_nil ?_
        have hz : x.isZ = true := by rw [isz_iff]; exact decide_eq_true hc7
        rw [if_pos hz] at hst hks
        rw [List.append_nil] at hks
        refine hK (m - 1) (i + 1) _ _ _ (by omega) (fun w hH => ⟨by omega, hx2.trans hH.ex, hH.ex.ro hb2, ⟨es, clock, by rw [hH.ex.block bm hlt2 (by simp)]; exact hm2, by rw [hks]; exact hes⟩, hst.symm, fun y hy hyz => ?_⟩) ⟨rfl, trivial⟩ rfl
        obtain ⟨hlt, rfl⟩ := List.getElem?_eq_some_iff.1 hx
        rw [← List.take_append_getElem hlt] at hy
        rcases List.mem_append.1 hy with h | h
        · exact hnz y h hyz
        · obtain rfl := List.mem_singleton.1 h
          rw [hz] at hyz; cases hyz
      · skip
        try simp only [nrm_] at hc7
        refine c_skip ?_
        refine q_then ?_
        refine c_seq ?_
        refine c_seq ?_
        have hz : ¬ x.isZ = true := by rw [isz_iff, decide_eq_true_eq]; exact hc7
        rw [if_neg hz] at hst hks
        refine c_reg ?_
        refine s_y (Y_mv) rfl rfl ?_
        refine s_y (ya_ many98) rfl rfl ?_
        refine s_c (En_call (fun _ => rfl) Tryz.func158 rfl (by kernel_rfl) rfl) (fun w hH => pplaceI_d) rfl rfl ?_
        rintro _ _ ⟨rfl, rfl⟩
        refine s_n (N_look (zs := [0, x.whr, x.a, x.b]) (n := 4) rfl rfl Tryz.underlying203 keyItem rfl zv3 hm2 hes (keys_len _)) rfl rfl (fun lv _ => ?_)
        refine s_y (Y_mv) rfl rfl ?_
        refine s_y (Y_extract rfl rfl) rfl rfl ?_
        refine s_y (Y_extract rfl rfl) rfl rfl ?_
        refine s_y (Y_as) rfl rfl ?_
        refine s_y (Y_as) rfl rfl ?_
        refine s_nil ?_
        refine q_then ?_
        refine c_seq ?_
        refine c_reg ?_
        refine s_y (Y_mv) rfl rfl ?_
        refine s_y (Y_mv) rfl rfl ?_
        apply s_or 5 [32, 33, 34, 35, 36, 37] 37 (g := 32) rfl rfl
        · intro ht2 hm
          try simp only [nrm_] at ht2
          first | refine s_y (Y_loadNR rfl many34 hb2 rfl) rfl rfl ?_ | refine s_pass rfl rfl ?_
          first | refine s_y (ya_ many98) rfl rfl ?_ | refine s_pass rfl rfl ?_
          refine s_c (En_call (fun _ => rfl) Tryz.func159 rfl (by kernel_rfl) rfl) (fun w hH => pmay_d ((hw.has hx2.hasN).has hH) x (hok x (List.mem_of_getElem? hx))) rfl rfl ?_
          rintro _ _ ⟨rfl, rfl⟩
          first | refine s_y (Y_not rfl) rfl rfl ?_ | refine s_pass rfl rfl ?_
          refine s_y (Y_pk rfl Gx.const (Gx.tmp gt_)) rfl rfl ?_
          first | exact hm _ ⟨rfl, trivial⟩ rfl | exact QL.sub sl_ (hm _ ⟨rfl, trivial⟩ rfl)
        · intro ht2 hm
          iterate 4 refine s_pass rfl rfl ?_
          refine s_y (Y_pk rfl Gx.const (Gx.tmp gt_)) rfl rfl ?_
          exact hm _ ⟨rfl, trivial⟩ rfl
        intro j37
        refine s_nil ?_
        refine q_then ?_
        first | refine c_cond' rfl (fun hc9 => ?_) (fun hc9 => ?_) | refine c_cond rfl (fun hc9 => ?_) (fun hc9 => ?_)
        · skip
          try simp only [nrm_] at hc9
          refine c_seq ?_
          have hal := alone_keys (x := x) hnz
          have hno : (btw x.kind 1 4 && placedM d.cells x && aloneM (d.items.take i) x) = false := by
            rw [hal]
            rcases hc9 with h | h
            · rw [decide_eq_true h]; simp
            · rcases h with h | h <;> rw [h] <;> simp
          rw [hno] at hst
          refine c_reg ?_
          refine s_y (Y_asC) rfl rfl ?_
          refine s_nil ?_
          refine q_then ?_
          refine c_ret ?_
          refine q_retW (fun w h => hx2.trans h) rfl gt_ ⟨by unfold goodsM; rw [hst]; simp, rfl⟩
        · skip
          try simp only [nrm_] at hc9
          refine c_skip ?_
          refine q_then ?_
          have hal := alone_keys (x := x) hnz
          have hmem : [0, x.whr, x.a, x.b] ∉ keysOf (d.items.take i) := hc9.1
          rw [decide_eq_false hmem] at hal
          have hyes : (btw x.kind 1 4 && placedM d.cells x && aloneM (d.items.take i) x) = true := by
            rw [hal]
            simp only [nrm_, and_true]
            exact hc9.2
          rw [hyes, if_pos rfl] at hst
          refine c_reg ?_
          refine s_y (Y_mv) rfl rfl ?_
          refine s_y (ya_ many98) rfl rfl ?_
          refine s_c (En_call (fun _ => rfl) Tryz.func158 rfl (by kernel_rfl) rfl) (fun w hH => pplaceI_d) rfl rfl ?_
          rintro _ _ ⟨rfl, rfl⟩
          refine s_y (Y_mv) rfl rfl ?_
          refine s_mapUpd (zs := [0, x.whr, x.a, x.b]) (n := 4) (v := iv i) rfl rfl rfl Tryz.underlying203 keyItem rfl hm2 hes (keys_len _) hmem rfl (fun W3 hm3 hx3 => ?_)
          refine s_nil ?_
          refine q_bn ?_
          refine q_then ?_
          refine c_reg ?_
          refine s_y ad_ rfl rfl ?_
          refine s_y (Y_mv) rfl rfl ?_
          refine s_nil ?_
          refine hK (m - 1) (i + 1) _ _ _ (by omega) (fun w hH => ⟨by omega, (hx2.fresh hx3 hbm).trans hH.ex, hH.ex.ro (hx3.roN hb2 hne), ⟨_, _, by rw [hH.ex.block bm (Array.getElem?_eq_some_iff.1 hm3).1 (by simp)]; exact hm3, by rw [hks, List.map_append, ← hes]; simp⟩, hst.symm, fun y hy hyz => ?_⟩) ⟨rfl, trivial⟩ rfl
          obtain ⟨hlt, rfl⟩ := List.getElem?_eq_some_iff.1 hx
          rw [← List.take_append_getElem hlt] at hy
          rcases List.mem_append.1 hy with h | h
          · exact hnz y h hyz
          · obtain rfl := List.mem_singleton.1 h
            simp only [nrm_] at hyes
            exact placed_whr hyes.1.2
    · skip
      try simp only [nrm_] at hc5
      refine c_exit ?_
      repeat with_reducible refine q_te ?_
      refine q_exit ?_
      refine q_then ?_
      refine c_seq ?_
      refine c_reg ?_
      refine s_y (Y_asC) rfl rfl ?_
      refine s_nil ?_
      refine q_then ?_
      refine c_ret ?_
      refine q_retW (fun w h => hx2.trans h) rfl gt_ ⟨by rw [List.drop_eq_nil_of_le (by omega)] at hf; unfold goodsM; rw [← hf, decide_eq_true hlen]; rfl, rfl⟩
end
end Go.Proofs.YtcogbkkdccohfaaGreat
namespace Go.Proofs.YtcogbkkdccohfaaGreat
open Go.RowKit Go.Ad Go.Maps
set_option linter.unusedVariables false
set_option linter.unusedSimpArgs false
section
variable {W : World}
set_option maxRecDepth 100000 in
theorem pcheck_d {d : Wd} {s : Ws} (hw : WAt W d s) (hok : ∀ x ∈ d.items, Itm.ok x) : Does Tryz.prog 60 [.agg (wv d s).toArray] W [] (fun v L => v = iv (checkM d) ∧ L = []) := by
  have hcap := hw.e.cap
  refine enter Tryz.func60 rfl rfl rfl (Has.start _) ?_
  refine c_seq ?_
  refine c_reg ?_
  refine s_n (N_box (cs := wv d s) rfl) rfl rfl (fun b1 _ => ?_)
  refine s_y (Y_asC) rfl rfl ?_
  refine s_nil ?_
  refine q_then ?_
  refine c_seq ?_
  refine c_seq ?_
  refine c_reg ?_
  refine s_y (ya_ many34) rfl rfl ?_
  refine s_c (En_call (fun _ => rfl) Tryz.func104 rfl (by kernel_rfl) rfl) (fun w hH => phead_d (hw.has hH)) rfl rfl ?_
  rintro _ _ ⟨rfl, rfl⟩
  refine s_y (Y_as) rfl rfl ?_
  refine s_nil ?_
  refine q_then ?_
  refine c_seq ?_
  refine c_reg ?_
  refine s_y (Y_mv) rfl rfl ?_
  refine s_y (Y_neq rfl rfl) rfl rfl ?_
  refine s_nil ?_
  refine q_then ?_
  first | refine c_cond' rfl (fun hc2 => ?_) (fun hc2 => ?_) | refine c_cond rfl (fun hc2 => ?_) (fun hc2 => ?_)
  · skip
    try simp only [nrm_] at hc2
    refine c_seq ?_
    refine c_reg ?_
    refine s_y (Y_mv) rfl rfl ?_
    refine s_y (Y_as) rfl rfl ?_
    refine s_nil ?_
    refine q_then ?_
    refine c_ret ?_
    refine q_retG1 rfl gt_ (L' := _) sl_ (⟨by unfold checkM; rw [if_pos hc2], rfl⟩)
  · skip
    try simp only [nrm_] at hc2
    refine c_skip ?_
    refine q_then ?_
    refine c_seq ?_
    refine c_seq ?_
    have hlen : d.ents.length = 32 := by
      unfold headM at hc2
      split at hc2
      · exact absurd hc2 (by decide)
      · split at hc2
        · exact absurd hc2 (by decide)
        · rename_i _ h2
          simp only [sizesOk, decide_eq_false_iff_not, Decidable.not_not] at h2
          exact h2.2.1
    refine c_reg ?_
    refine s_y (Y_fa 5 rfl Tryz.underlying34 rfl sz30 rfl) rfl rfl ?_
    refine s_y (yl_ one30) rfl rfl ?_
    refine s_y (Y_len rfl rfl Tryz.underlying30) rfl rfl ?_
    refine s_y (Y_mvC) rfl rfl ?_
    refine s_nil ?_
    refine q_then ?_
    refine c_block ?_
    refine c_loop [2, 4, 5, 14, 15, 16, 17, 18, 19, 20, 21, 22, 23, 24, 25, 26, 27, 28, 29] (fun m i => i + m = d.ents.length ∧ entsM d (d.ents.drop i) i = entsM d d.ents 0) (fun i => [(14, iv i)]) (fun _ => [wB b1 (wv d s)]) (d.ents.length) (0) (⟨by omega, rfl⟩) (by repeat (first | exact trivial | refine ⟨rfl, ?_⟩)) (fun _ h => h.sub sl_) (fun _ => rfl) ?_
    rintro m i j ⟨hi, hf⟩ K hK
    refine c_seq ?_
    refine c_reg ?_
    refine s_y (Y_lss rfl rfl) rfl rfl ?_
    refine s_nil ?_
    refine q_then ?_
    refine c_seq ?_
    first | refine c_cond' rfl (fun hc5 => ?_) (fun hc5 => ?_) | refine c_cond rfl (fun hc5 => ?_) (fun hc5 => ?_)
    · skip
      try simp only [nrm_] at hc5
      refine c_skip ?_
      refine q_then ?_
      refine c_seq ?_
      refine c_block ?_
      refine c_seq ?_
      obtain ⟨e, he⟩ := take_lt (show i < d.ents.length by omega)
      have hr := hw.e.at' Ent.len he
      have hst := ents_step he
      rw [hf] at hst
      refine c_reg ?_
      refine s_y (Y_mv) rfl rfl ?_
      refine s_y (Y_ia rfl rfl Tryz.underlying30 sz93 rfl (by omega)) rfl rfl ?_
      refine s_y (ya_ many93) rfl rfl ?_
      refine s_n (N_alloc (z := .agg #[.int .i64 0, .int .i64 0, .int .i64 0, .int .i64 0, .int .i64 0, .int .i64 0, .int .i64 0, .int .i64 0, .int .i64 0, .int .i64 0, .int .i64 0]) (cs := [.int .i64 0, .int .i64 0, .int .i64 0, .int .i64 0, .int .i64 0, .int .i64 0, .int .i64 0, .int .i64 0, .int .i64 0, .int .i64 0, .int .i64 0]) zv93 rfl) rfl rfl (fun b5 _ => ?_)
      refine s_y (Y_as) rfl rfl ?_
      refine s_s (S_storeA (vs := e.cells) rfl rfl sz93 (by rfl) (by rfl) up_ (by rfl)) rfl ?_
      refine s_nil ?_
      refine q_then ?_
      refine c_block ?_
      refine c_seq ?_
      refine c_reg ?_
      refine s_y (Y_fa 0 rfl Tryz.underlying93 rfl sz3 rfl) rfl rfl ?_
      refine s_y (yl_ one3) rfl rfl ?_
      refine s_c (En_call (fun _ => rfl) Tryz.func65 rfl (by kernel_rfl) rfl) (fun w hH => pwithin_d) rfl rfl ?_
      rintro _ _ ⟨rfl, rfl⟩
      refine s_y (Y_not rfl) rfl rfl ?_
      refine s_y (Y_as) rfl rfl ?_
      refine s_nil ?_
      refine q_then ?_
      first | refine c_cond' rfl (fun hc7 => ?_) (fun hc7 => ?_) | refine c_cond rfl (fun hc7 => ?_) (fun hc7 => ?_)
      · skip
        try simp only [nrm_] at hc7
        refine c_seq ?_
        refine c_reg ?_
        refine s_y (Y_asC) rfl rfl ?_
        refine s_nil ?_
        refine q_then ?_
        refine c_ret ?_
        refine q_retG1 rfl gt_ (L' := _) sl_ (⟨by
            have h3 : entM d i e = 3 := by unfold entM; rw [if_pos (by simpa using hc7)]
            rw [h3, if_pos (by decide)] at hst; unfold checkM; rw [if_neg (fun h => h hc2), hst, if_pos (by decide)], rfl⟩)
      · skip
        try simp only [nrm_] at hc7
        refine c_seq ?_
        refine c_reg ?_
        refine s_y (ya_ many34) rfl rfl ?_
        refine s_y (Y_mv) rfl rfl ?_
        refine s_c (En_call (fun _ => rfl) Tryz.func105 rfl (by kernel_rfl) rfl) (fun w hH => pfits_d (hw.has hH) he hlen) rfl rfl ?_
        rintro _ _ ⟨rfl, rfl⟩
        refine s_y (Y_not rfl) rfl rfl ?_
        refine s_y (Y_as) rfl rfl ?_
        refine s_nil ?_
        refine q_then ?_
        first | refine c_cond' rfl (fun hc9 => ?_) (fun hc9 => ?_) | refine c_cond rfl (fun hc9 => ?_) (fun hc9 => ?_)
        · skip
          try simp only [nrm_] at hc9
          refine c_seq ?_
          refine c_reg ?_
          refine s_y (Y_asC) rfl rfl ?_
          refine s_nil ?_
          refine q_then ?_
          refine c_ret ?_
          refine q_retG1 rfl gt_ (L' := _) sl_ (⟨by
              have h3 : entM d i e = 9 := by unfold entM; rw [if_neg (by simpa using hc7), show fitsM d i e = false by simpa using hc9]; rfl
              rw [h3, if_pos (by decide)] at hst; unfold checkM; rw [if_neg (fun h => h hc2), hst, if_pos (by decide)], rfl⟩)
        · skip
          try simp only [nrm_] at hc9
          refine c_skip ?_
          refine q_bn ?_
          refine q_bn ?_
          refine q_then ?_
          refine c_reg ?_
          refine s_y ad_ rfl rfl ?_
          refine s_y (Y_mv) rfl rfl ?_
          refine s_nil ?_
          have h3 : entM d i e = 0 := by unfold entM; rw [if_neg (by simpa using hc7), show fitsM d i e = true by simpa using hc9]; rfl
          rw [h3, if_neg (fun h => h rfl)] at hst
          refine hK (m - 1) (i + 1) _ _ (by omega) ⟨by omega, hst.symm⟩ ⟨rfl, trivial⟩ rfl (fun _ h => h.sub sl_)
    · skip
      try simp only [nrm_] at hc5
      refine c_exit ?_
      repeat with_reducible refine q_te ?_
      refine q_exit ?_
      refine q_then ?_
      refine c_seq ?_
      refine c_seq ?_
      rw [List.drop_eq_nil_of_le (by omega)] at hf
      refine c_reg ?_
      refine s_y (ya_ many34) rfl rfl ?_
      refine s_c (En_call (fun _ => rfl) Tryz.func106 rfl (by kernel_rfl) rfl) (fun w hH => pgoods_d (hw.has hH) hok) rfl rfl ?_
      rintro _ _ ⟨rfl, rfl⟩
      refine s_y (Y_not rfl) rfl rfl ?_
      refine s_nil ?_
      refine q_then ?_
      first | refine c_cond' rfl (fun hc12 => ?_) (fun hc12 => ?_) | refine c_cond rfl (fun hc12 => ?_) (fun hc12 => ?_)
      · skip
        try simp only [nrm_] at hc12
        refine c_seq ?_
        refine c_reg ?_
        refine s_y (Y_asC) rfl rfl ?_
        refine s_nil ?_
        refine q_then ?_
        refine c_ret ?_
        refine q_retG1 rfl gt_ (L' := _) sl_ (⟨by unfold checkM; rw [if_neg (fun h => h hc2), ← hf, if_neg (by simp [entsM]), if_neg (by simpa using hc12)], rfl⟩)
      · skip
        try simp only [nrm_] at hc12
        refine c_skip ?_
        refine q_then ?_
        refine c_seq ?_
        refine c_reg ?_
        refine s_y (Y_asC) rfl rfl ?_
        refine s_nil ?_
        refine q_then ?_
        refine c_ret ?_
        refine q_retG1 rfl gt_ (L' := _) sl_ (⟨by unfold checkM; rw [if_neg (fun h => h hc2), ← hf, if_neg (by simp [entsM]), if_pos (by simpa using hc12)], rfl⟩)
theorem slOf {w : World} {M : List Nat} {L : List Bk} {b n : Nat} {ns : List Int} (hH : Has W M L w) (hm : (⟨b, 3, 1, n, ns.map iv⟩ : Bk) ∈ L) (hn : ns.length = n) : SlB w b 0 n n 1 (ns.map iv) := (hH.at' hm).sl (by rw [List.length_map, hn, Nat.mul_one]) (Nat.le_refl _)
set_option maxRecDepth 100000 in
set_option maxHeartbeats 1600000 in
theorem penc_d {d : Wd} {s : Ws} (hw : WAt W d s) (hok : ∀ x ∈ d.items, Itm.ok x) : Does Tryz.prog 22 [.agg (wv d s).toArray] W [] (EncP d) := by
  refine enter Tryz.func22 rfl rfl rfl (Has.start _) ?_
  refine c_seq ?_
  refine c_reg ?_
  refine s_n (N_box (cs := wv d s) rfl) rfl rfl (fun b1 _ => ?_)
  refine s_y (Y_asC) rfl rfl ?_
  refine s_y (Y_asC) rfl rfl ?_
  refine s_nil ?_
  refine q_then ?_
  refine c_seq ?_
  refine c_seq ?_
  refine c_reg ?_
  refine s_y (ya_ many34) rfl rfl ?_
  refine s_c (En_call (fun _ => rfl) Tryz.func60 rfl (by kernel_rfl) rfl) (fun w hH => pcheck_d (hw.has hH) hok) rfl rfl ?_
  rintro _ _ ⟨rfl, rfl⟩
  refine s_y (Y_as) rfl rfl ?_
  refine s_nil ?_
  refine q_then ?_
  refine c_seq ?_
  refine c_reg ?_
  refine s_y (Y_mv) rfl rfl ?_
  refine s_y (Y_neq rfl rfl) rfl rfl ?_
  refine s_nil ?_
  refine q_then ?_
  first | refine c_cond' rfl (fun hc2 => ?_) (fun hc2 => ?_) | refine c_cond rfl (fun hc2 => ?_) (fun hc2 => ?_)
  · skip
    try simp only [nrm_] at hc2
    refine c_seq ?_
    refine c_reg ?_
    refine s_y (Y_mv) rfl rfl ?_
    refine s_y (Y_asC) rfl rfl ?_
    refine s_y (Y_as) rfl rfl ?_
    refine s_nil ?_
    refine q_then ?_
    refine c_ret ?_
    refine q_retG2 rfl gt_ gt_ (L' := _) sl_ (.inl ⟨hc2, rfl, rfl⟩)
  · skip
    try simp only [nrm_] at hc2
    refine c_skip ?_
    refine q_then ?_
    refine c_seq ?_
    obtain ⟨hl1, hl2, hl3⟩ := check_sizes hc2
    refine c_reg ?_
    refine s_y (Y_fa 0 rfl Tryz.underlying34 rfl sz2 rfl) rfl rfl ?_
    refine s_y (yl_ one2) rfl rfl ?_
    refine s_y (Y_convw rfl Tryz.underlying2 Tryz.underlying96) rfl rfl ?_
    refine s_c (En_call (fun _ => rfl) Tryz.func62 rfl (by kernel_rfl) rfl) (fun w hH => pnum_d (k := 8) (ys := []) .nil (by simp) (by simp) (by omega)) rfl rfl ?_
    rintro _ _ hB1
    obtain ⟨g1, cp1, rfl, rfl, hcp1⟩ := hB1.some_of (by rw [List.length_append, beM_len]; omega)
    refine s_y (Y_as) rfl rfl ?_
    refine s_nil ?_
    refine q_then ?_
    refine c_seq ?_
    refine c_reg ?_
    refine s_y (Y_mv) rfl rfl ?_
    refine s_y (Y_fa 1 rfl Tryz.underlying34 rfl sz3 rfl) rfl rfl ?_
    refine s_y (yl_ one3) rfl rfl ?_
    refine s_y (Y_convw rfl Tryz.underlying3 Tryz.underlying96) rfl rfl ?_
    refine s_cm [cB g1 cp1 ([] ++ beM (IntKind.u64.wrap d.seed) 8)] (En_call (fun _ => rfl) Tryz.func62 rfl (by kernel_rfl) rfl) ss_ (fun w hH => pnum_d (k := 4) hB1 (by rw [List.length_append, beM_len]; simp) (by intro x hx; obtain rfl := List.mem_singleton.1 hx; exact hH.at' mm_) (by omega)) rfl rfl ?_
    rintro _ _ hB2
    obtain ⟨g2, cp2, rfl, rfl, hcp2⟩ := hB2.some_of (by rw [List.length_append, beM_len]; omega)
    refine s_y (Y_as) rfl rfl ?_
    refine s_nil ?_
    refine q_then ?_
    refine c_seq ?_
    have hz1 : ([] ++ beM (IntKind.u64.wrap d.seed) 8 ++ beM (IntKind.u64.wrap d.frame) 4) ++ [d.floor, d.state].map byteM = encA d 0 := by simp [encA, headBytes, goldBytes]
    obtain ⟨z1, hz2⟩ : ∃ q_, [] ++ beM (IntKind.u64.wrap d.seed) 8 ++ beM (IntKind.u64.wrap d.frame) 4 = q_ := ⟨_, rfl⟩
    rw [hz2] at hcp2 hB2 hz1 ⊢
    have hzl : z1.length = 12 := by rw [← hz2]; simp [beM_len]
    refine c_reg ?_
    refine s_y (Y_mv) rfl rfl ?_
    refine s_y (Y_fa 2 rfl Tryz.underlying34 rfl sz3 rfl) rfl rfl ?_
    refine s_y (yl_ one3) rfl rfl ?_
    refine s_y (Y_fa 3 rfl Tryz.underlying34 rfl sz3 rfl) rfl rfl ?_
    refine s_y (yl_ one3) rfl rfl ?_
    refine s_n (N_bs (xs := [.tmp 28, .tmp 30]) (by repeat (first | exact Gv.nil | apply Gv.const | apply Gv.tmp gt_)) rfl Tryz.underlying23 inf3 rfl (by omega) (by omega) (by first | simp [Value.oneCell'] | (intro v hv; simp at hv; subst hv; rfl))) rfl rfl (fun b31 _ => ?_)
    refine s_cm [cB g2 cp2 z1] (En_call (fun _ => rfl) Tryz.func63 rfl (by kernel_rfl) rfl) ss_ (fun w hH => psmall_d (ys := z1) (ns := [d.floor, d.state]) hB2 (by omega) (by intro x hx; obtain rfl := List.mem_singleton.1 hx; exact hH.at' mm_) (slOf hH mm_ rfl) (by omega) (by simpa using hH.nodup2 (x := ⟨b31, 3, 1, 2, [d.floor, d.state].map iv⟩) (y := cB g2 cp2 z1) ss_)) rfl rfl ?_
    rintro _ _ hB3
    rw [hz1] at hB3
    obtain ⟨g3, cp3, rfl, rfl, hcp3⟩ := hB3.some_of (by rw [encA_len]; omega)
    refine s_y (Y_as) rfl rfl ?_
    refine s_nil ?_
    refine q_then ?_
    refine c_seq ?_
    refine c_seq ?_
    refine c_reg ?_
    refine s_y (Y_fa 7 rfl Tryz.underlying34 rfl sz32 rfl) rfl rfl ?_
    refine s_y (Y_loadN (vs := [iv d.gold.a, iv d.gold.b, iv d.gold.c, iv d.gold.d]) rfl many32 mm_ (by rfl) gold_sub) rfl rfl ?_
    refine s_y (Y_mvC) rfl rfl ?_
    refine s_nil ?_
    refine q_then ?_
    refine c_block ?_
    refine c_loop [5, 7, 35, 36, 37, 38, 39, 40, 41, 42] (fun m (y : Nat × Nat × Nat) => y.1 + m = 4 ∧ (encA d y.1).length ≤ y.2.2) (fun y => [(35, iv y.1), (5, .slice (some ⟨y.2.1, 0, none⟩) (encA d y.1).length y.2.2)]) (fun y => [cB y.2.1 y.2.2 (encA d y.1), wB b1 (wv d s)]) (4) ((0, g3, cp3)) (⟨rfl, hcp3⟩) (by repeat (first | exact trivial | refine ⟨rfl, ?_⟩)) (fun w h => h.pick (L' := [cB g3 cp3 (encA d 0), wB b1 (wv d s)]) ss_) (fun _ => rfl) ?_
    rintro m ⟨k, g, cp⟩ j ⟨hk, hcp⟩ K hK
    simp only at hk hcp ⊢
    have hel := encA_len d k
    refine c_seq ?_
    refine c_reg ?_
    refine s_y (Y_lss rfl rfl) rfl rfl ?_
    refine s_nil ?_
    refine q_then ?_
    refine c_seq ?_
    first | refine c_cond' rfl (fun hc8 => ?_) (fun hc8 => ?_) | refine c_cond rfl (fun hc8 => ?_) (fun hc8 => ?_)
    · skip
      try simp only [nrm_] at hc8
      refine c_skip ?_
      refine q_then ?_
      refine c_seq ?_
      refine c_block ?_
      refine c_seq ?_
      refine c_reg ?_
      refine s_y (Y_idx (cs := [iv d.gold.a, iv d.gold.b, iv d.gold.c, iv d.gold.d]) (i := k) rfl rfl Tryz.underlying32 one3 sz3 rfl (by omega) (gold_idx (by omega))) rfl rfl ?_
      refine s_y (Y_as) rfl rfl ?_
      refine s_nil ?_
      refine q_then ?_
      refine c_reg ?_
      refine s_y (Y_mv) rfl rfl ?_
      refine s_y (Y_mv) rfl rfl ?_
      refine s_y (Y_convw rfl Tryz.underlying3 Tryz.underlying96) rfl rfl ?_
      refine s_cm [cB g cp (encA d k)] (En_call (fun _ => rfl) Tryz.func62 rfl (by kernel_rfl) rfl) ss_ (fun w hH => pnum_d (k := 2) (ys := encA d k) (.some hcp (by rw [List.length_map, Nat.mul_one])) (by omega) (by intro x hx; obtain rfl := List.mem_singleton.1 hx; exact hH.at' mm_) (by omega)) rfl rfl ?_
      rintro _ _ hB4
      rw [← encA_succ] at hB4
      obtain ⟨g4, cp4, rfl, rfl, hcp4⟩ := hB4.some_of (by rw [encA_len]; omega)
      refine s_y (Y_as) rfl rfl ?_
      refine s_nil ?_
      refine q_bn ?_
      refine q_then ?_
      refine c_reg ?_
      refine s_y ad_ rfl rfl ?_
      refine s_y (Y_mv) rfl rfl ?_
      refine s_nil ?_
      refine hK (m - 1) (k + 1, g4, cp4) _ _ (by omega) ⟨by simp only; omega, hcp4⟩ ⟨rfl, rfl, trivial⟩ rfl (fun _ h => h.pick ss_)
    · skip
      try simp only [nrm_] at hc8
      refine c_exit ?_
      repeat with_reducible refine q_te ?_
      refine q_exit ?_
      refine q_then ?_
      refine c_seq ?_
      obtain rfl : k = 4 := by omega
      have hcl := hw.c.len
      refine c_reg ?_
      refine s_y (Y_mv) rfl rfl ?_
      refine s_y (Y_fa 4 rfl Tryz.underlying34 rfl sz24 rfl) rfl rfl ?_
      refine s_y (yl_ one24) rfl rfl ?_
      refine s_n (N_app (cs := (encA d 4).map bv) (news := d.cells.map bv) rfl rfl Tryz.underlying24 inf5 rfl (by omega) se_ (by rw [List.length_map]; omega) (by omega) (srcR hw.c.ro) hcl (bvs_one _) (by omega) (by omega)) rfl rfl (fun ⟨g46, cp46⟩ hc46 => ?_)
      refine s_y (Y_as) rfl rfl ?_
      refine s_nil ?_
      have e1 : (encA d 4).length + d.cells.length = (encB d 0).length := by rw [encB_zero, List.length_append]
      rw [bsnoc, ← encB_zero, e1]
      rw [e1] at hc46
      refine q_then ?_
      refine c_seq ?_
      refine c_seq ?_
      refine c_reg ?_
      refine s_y (Y_fa 5 rfl Tryz.underlying34 rfl sz30 rfl) rfl rfl ?_
      refine s_y (yl_ one30) rfl rfl ?_
      refine s_y (Y_len rfl rfl Tryz.underlying30) rfl rfl ?_
      refine s_y (Y_mvC) rfl rfl ?_
      refine s_nil ?_
      refine q_then ?_
      refine c_block ?_
      refine c_loop [5, 9, 50, 51, 52, 53, 54, 55, 56, 57, 58, 59, 60, 61, 62, 63, 64, 65, 66, 67, 68, 69, 70, 71, 72, 73, 74, 75, 76, 77, 78, 79] (fun m (y : Nat × Nat × Nat) => y.1 + m = d.ents.length ∧ (encB d y.1).length ≤ y.2.2) (fun y => [(50, iv y.1), (5, .slice (some ⟨y.2.1, 0, none⟩) (encB d y.1).length y.2.2)]) (fun y => [cB y.2.1 y.2.2 (encB d y.1), wB b1 (wv d s)]) (d.ents.length) ((0, g46, cp46)) (⟨by simp only; omega, hc46⟩) (by repeat (first | exact trivial | refine ⟨rfl, ?_⟩)) (fun _ h => h.sub sl_) (fun _ => rfl) ?_
      rintro m ⟨i, g, cp⟩ j ⟨hi, hcp⟩ K hK
      simp only at hi hcp ⊢
      have hel := encB_len d i (by omega)
      refine c_seq ?_
      refine c_reg ?_
      refine s_y (Y_lss rfl rfl) rfl rfl ?_
      refine s_nil ?_
      refine q_then ?_
      refine c_seq ?_
      first | refine c_cond' rfl (fun hc14 => ?_) (fun hc14 => ?_) | refine c_cond rfl (fun hc14 => ?_) (fun hc14 => ?_)
      · skip
        try simp only [nrm_] at hc14
        refine c_skip ?_
        refine q_then ?_
        refine c_seq ?_
        refine c_block ?_
        refine c_seq ?_
        obtain ⟨e, he⟩ := take_lt (show i < d.ents.length by omega)
        have hr := hw.e.at' Ent.len he
        have hcap := hw.e.cap
        refine c_reg ?_
        refine s_y (Y_ia rfl rfl Tryz.underlying30 sz93 rfl (by omega)) rfl rfl ?_
        refine s_y (ya_ many93) rfl rfl ?_
        refine s_n (N_alloc (z := .agg #[.int .i64 0, .int .i64 0, .int .i64 0, .int .i64 0, .int .i64 0, .int .i64 0, .int .i64 0, .int .i64 0, .int .i64 0, .int .i64 0, .int .i64 0]) (cs := [.int .i64 0, .int .i64 0, .int .i64 0, .int .i64 0, .int .i64 0, .int .i64 0, .int .i64 0, .int .i64 0, .int .i64 0, .int .i64 0, .int .i64 0]) zv93 rfl) rfl rfl (fun b9 _ => ?_)
        refine s_s (S_storeA (vs := e.cells) rfl rfl sz93 (by rfl) (by rfl) up_ (by rfl)) rfl ?_
        refine s_nil ?_
        refine q_then ?_
        refine c_reg ?_
        refine s_y (Y_mv) rfl rfl ?_
        refine s_y (Y_fa 0 rfl Tryz.underlying93 rfl sz3 rfl) rfl rfl ?_
        refine s_y (yl_ one3) rfl rfl ?_
        refine s_y (Y_fa 1 rfl Tryz.underlying93 rfl sz3 rfl) rfl rfl ?_
        refine s_y (yl_ one3) rfl rfl ?_
        refine s_y (Y_fa 2 rfl Tryz.underlying93 rfl sz3 rfl) rfl rfl ?_
        refine s_y (yl_ one3) rfl rfl ?_
        refine s_y (Y_fa 3 rfl Tryz.underlying93 rfl sz3 rfl) rfl rfl ?_
        refine s_y (yl_ one3) rfl rfl ?_
        refine s_y (Y_fa 4 rfl Tryz.underlying93 rfl sz3 rfl) rfl rfl ?_
        refine s_y (yl_ one3) rfl rfl ?_
        refine s_y (Y_fa 5 rfl Tryz.underlying93 rfl sz3 rfl) rfl rfl ?_
        refine s_y (yl_ one3) rfl rfl ?_
        refine s_y (Y_fa 6 rfl Tryz.underlying93 rfl sz3 rfl) rfl rfl ?_
        refine s_y (yl_ one3) rfl rfl ?_
        refine s_y (Y_fa 7 rfl Tryz.underlying93 rfl sz3 rfl) rfl rfl ?_
        refine s_y (yl_ one3) rfl rfl ?_
        refine s_y (Y_fa 8 rfl Tryz.underlying93 rfl sz3 rfl) rfl rfl ?_
        refine s_y (yl_ one3) rfl rfl ?_
        refine s_y (Y_fa 9 rfl Tryz.underlying93 rfl sz3 rfl) rfl rfl ?_
        refine s_y (yl_ one3) rfl rfl ?_
        refine s_y (Y_fa 10 rfl Tryz.underlying93 rfl sz3 rfl) rfl rfl ?_
        refine s_y (yl_ one3) rfl rfl ?_
        refine s_n (N_bs (xs := [.tmp 56, .tmp 58, .tmp 60, .tmp 62, .tmp 64, .tmp 66, .tmp 68, .tmp 70, .tmp 72, .tmp 74, .tmp 76]) (by repeat (first | exact Gv.nil | apply Gv.const | apply Gv.tmp gt_)) rfl Tryz.underlying23 inf3 rfl (by omega) (by omega) (by first | simp [Value.oneCell'] | (intro v hv; simp at hv; subst hv; rfl))) rfl rfl (fun b77 _ => ?_)
        refine s_cm [cB g cp (encB d i)] (En_call (fun _ => rfl) Tryz.func63 rfl (by kernel_rfl) rfl) ss_ (fun w hH => psmall_d (ys := encB d i) (ns := [e.kind, e.gen, e.seat, e.x, e.y, e.hp, e.max, e.atk, e.df, e.poison, e.stun]) (.some hcp (by rw [List.length_map, Nat.mul_one])) (by omega) (by intro x hx; obtain rfl := List.mem_singleton.1 hx; exact hH.at' mm_) (slOf hH mm_ rfl) (by omega) (by simpa using hH.nodup2 (x := ⟨b77, 3, 1, 11, e.cells⟩) (y := cB g cp (encB d i)) ss_)) rfl rfl ?_
        rintro _ _ hB5
        rw [show encB d i ++ [e.kind, e.gen, e.seat, e.x, e.y, e.hp, e.max, e.atk, e.df, e.poison, e.stun].map byteM = encB d (i + 1) from by rw [encB_succ he]; rfl] at hB5
        obtain ⟨g5, cp5, rfl, rfl, hcp5⟩ := hB5.some_of (by rw [encB_len _ _ (by omega)]; omega)
        refine s_y (Y_as) rfl rfl ?_
        refine s_nil ?_
        refine q_bn ?_
        refine q_then ?_
        refine c_reg ?_
        refine s_y ad_ rfl rfl ?_
        refine s_y (Y_mv) rfl rfl ?_
        refine s_nil ?_
        refine hK (m - 1) (i + 1, g5, cp5) _ _ (by omega) ⟨by simp only; omega, hcp5⟩ ⟨rfl, rfl, trivial⟩ rfl (fun _ h => h.pick ss_)
      · skip
        try simp only [nrm_] at hc14
        refine c_exit ?_
        repeat with_reducible refine q_te ?_
        refine q_exit ?_
        refine q_then ?_
        refine c_seq ?_
        refine c_seq ?_
        obtain rfl : i = d.ents.length := by omega
        rw [← encC_zero] at hcp ⊢
        refine c_reg ?_
        refine s_y (Y_fa 6 rfl Tryz.underlying34 rfl sz31 rfl) rfl rfl ?_
        refine s_y (yl_ one31) rfl rfl ?_
        refine s_y (Y_len rfl rfl Tryz.underlying31) rfl rfl ?_
        refine s_y (Y_mvC) rfl rfl ?_
        refine s_nil ?_
        refine q_then ?_
        refine c_block ?_
        refine c_loop [5, 11, 83, 84, 85, 86, 87, 88, 89, 90, 91, 92, 93, 94, 95, 96, 97, 98] (fun m (y : Nat × Nat × Nat) => y.1 + m = d.items.length ∧ (encC d y.1).length ≤ y.2.2) (fun y => [(83, iv y.1), (5, .slice (some ⟨y.2.1, 0, none⟩) (encC d y.1).length y.2.2)]) (fun y => [cB y.2.1 y.2.2 (encC d y.1), wB b1 (wv d s)]) (d.items.length) ((0, g, cp)) (⟨by simp only; omega, hcp⟩) (by repeat (first | exact trivial | refine ⟨rfl, ?_⟩)) (fun _ h => h.sub sl_) (fun _ => rfl) ?_
        rintro m2 ⟨i2, g2, cp2⟩ j2 ⟨hi2, hcp2⟩ K hK
        simp only at hi2 hcp2 ⊢
        have hel2 := encC_len d i2 (by omega)
        refine c_seq ?_
        refine c_reg ?_
        refine s_y (Y_lss rfl rfl) rfl rfl ?_
        refine s_nil ?_
        refine q_then ?_
        refine c_seq ?_
        first | refine c_cond' rfl (fun hc19 => ?_) (fun hc19 => ?_) | refine c_cond rfl (fun hc19 => ?_) (fun hc19 => ?_)
        · skip
          try simp only [nrm_] at hc19
          refine c_skip ?_
          refine q_then ?_
          refine c_seq ?_
          refine c_block ?_
          refine c_seq ?_
          obtain ⟨x, hx⟩ := take_lt (show i2 < d.items.length by omega)
          have hr := hw.i.at' Itm.len hx
          have hcap := hw.i.cap
          refine c_reg ?_
          refine s_y (Y_ia rfl rfl Tryz.underlying31 sz98 rfl (by omega)) rfl rfl ?_
          refine s_y (ya_ many98) rfl rfl ?_
          refine s_n (N_alloc (z := .agg #[.int .i64 0, .int .i64 0, .int .i64 0, .int .i64 0]) (cs := [.int .i64 0, .int .i64 0, .int .i64 0, .int .i64 0]) zv98 rfl) rfl rfl (fun b11 _ => ?_)
          refine s_s (S_storeA (vs := x.cells) rfl rfl sz98 (by rfl) (by rfl) up_ (by rfl)) rfl ?_
          refine s_nil ?_
          refine q_then ?_
          refine c_reg ?_
          refine s_y (Y_mv) rfl rfl ?_
          refine s_y (Y_fa 0 rfl Tryz.underlying98 rfl sz3 rfl) rfl rfl ?_
          refine s_y (yl_ one3) rfl rfl ?_
          refine s_y (Y_fa 1 rfl Tryz.underlying98 rfl sz3 rfl) rfl rfl ?_
          refine s_y (yl_ one3) rfl rfl ?_
          refine s_y (Y_fa 2 rfl Tryz.underlying98 rfl sz3 rfl) rfl rfl ?_
          refine s_y (yl_ one3) rfl rfl ?_
          refine s_y (Y_fa 3 rfl Tryz.underlying98 rfl sz3 rfl) rfl rfl ?_
          refine s_y (yl_ one3) rfl rfl ?_
          refine s_n (N_bs (xs := [.tmp 89, .tmp 91, .tmp 93, .tmp 95]) (by repeat (first | exact Gv.nil | apply Gv.const | apply Gv.tmp gt_)) rfl Tryz.underlying23 inf3 rfl (by omega) (by omega) (by first | simp [Value.oneCell'] | (intro v hv; simp at hv; subst hv; rfl))) rfl rfl (fun b96 _ => ?_)
          refine s_cm [cB g2 cp2 (encC d i2)] (En_call (fun _ => rfl) Tryz.func63 rfl (by kernel_rfl) rfl) ss_ (fun w hH => psmall_d (ys := encC d i2) (ns := [x.kind, x.whr, x.a, x.b]) (.some hcp2 (by rw [List.length_map, Nat.mul_one])) (by omega) (by intro x hx; obtain rfl := List.mem_singleton.1 hx; exact hH.at' mm_) (slOf hH mm_ rfl) (by omega) (by simpa using hH.nodup2 (x := ⟨b96, 3, 1, 4, x.cells⟩) (y := cB g2 cp2 (encC d i2)) ss_)) rfl rfl ?_
          rintro _ _ hB6
          rw [show encC d i2 ++ [x.kind, x.whr, x.a, x.b].map byteM = encC d (i2 + 1) from by rw [encC_succ hx]; rfl] at hB6
          obtain ⟨g6, cp6, rfl, rfl, hcp6⟩ := hB6.some_of (by rw [encC_len _ _ (by omega)]; omega)
          refine s_y (Y_as) rfl rfl ?_
          refine s_nil ?_
          refine q_bn ?_
          refine q_then ?_
          refine c_reg ?_
          refine s_y ad_ rfl rfl ?_
          refine s_y (Y_mv) rfl rfl ?_
          refine s_nil ?_
          refine hK (m2 - 1) (i2 + 1, g6, cp6) _ _ (by omega) ⟨by simp only; omega, hcp6⟩ ⟨rfl, rfl, trivial⟩ rfl (fun _ h => h.pick ss_)
        · skip
          try simp only [nrm_] at hc19
          refine c_exit ?_
          repeat with_reducible refine q_te ?_
          refine q_exit ?_
          refine q_then ?_
          refine c_seq ?_
          obtain rfl : i2 = d.items.length := by omega
          rw [encC_all] at hcp2 ⊢
          refine c_reg ?_
          refine s_y (Y_mv) rfl rfl ?_
          refine s_y (Y_as) rfl rfl ?_
          refine s_y (Y_asC) rfl rfl ?_
          refine s_nil ?_
          refine q_then ?_
          refine c_ret ?_
          refine q_retG2 rfl gt_ gt_ (L' := _) sl_ (.inr ⟨hc2, g2, cp2, rfl, rfl, hcp2⟩)
end
end Go.Proofs.YtcogbkkdccohfaaGreat
namespace Go.Ad
def numM (l : List UInt8) : Nat := l.foldl (fun v x => v * 256 + x.toNat) 0
theorem num_lt : ∀ (l : List UInt8) (v : Nat), l.foldl (fun v x => v * 256 + x.toNat) v < (v + 1) * 256 ^ l.length
  | [], v => by simp
  | x :: r, v => by
    have h := num_lt r (v * 256 + x.toNat)
    have hx := x.toNat_lt
    rw [List.foldl_cons, List.length_cons, Nat.pow_succ, Nat.mul_comm (256 ^ r.length) 256, ← Nat.mul_assoc]
    exact Nat.lt_of_lt_of_le h (Nat.mul_le_mul_right _ (by omega))
theorem numM_lt (l : List UInt8) : numM l < 256 ^ l.length := by
  have := num_lt l 0
  simpa [numM] using this
theorem num_step {l : List UInt8} {i : Nat} {x : UInt8} (h : l[i]? = some x) : numM (l.take (i + 1)) = numM (l.take i) * 256 + x.toNat := by
  obtain ⟨hi, rfl⟩ := List.getElem?_eq_some_iff.1 h
  unfold numM
  rw [← List.take_append_getElem hi, List.foldl_append, List.foldl_cons, List.foldl_nil]
theorem shl_or8 (v x : Nat) (hv : v < 72057594037927936) (hx : x < 256) : IntKind.u64.wrap (BitVec.ofInt 64 (IntKind.u64.wrap ((v : Int) * 2 ^ 8)) ||| BitVec.ofInt 64 (x : Int)).toNat = ((v * 256 + x : Nat) : Int) := by
  rw [u64_id (n := (v : Int) * 2 ^ 8) (by omega)]
  have h1 : BitVec.ofInt 64 ((v : Int) * 2 ^ 8) = BitVec.ofNat 64 (v * 256) := by
    rw [show (v : Int) * 2 ^ 8 = ((v * 256 : Nat) : Int) by omega, BitVec.ofInt_natCast]
  rw [h1, BitVec.ofInt_natCast, BitVec.toNat_or, BitVec.toNat_ofNat, BitVec.toNat_ofNat, Nat.mod_eq_of_lt (by omega), Nat.mod_eq_of_lt (by omega)]
  have h2 := Nat.shiftLeft_add_eq_or_of_lt (i := 8) (b := x) (by omega) v
  rw [Nat.shiftLeft_eq] at h2
  rw [← h2]
  exact u64_id (by omega)
def RdV (bb o n c k : Nat) (v : Value) : Prop := ∃ a', v = .slice (some a') (n - k) (c - k) ∧ (k < n → a' = ⟨bb, o + k, none⟩)
theorem RdV.next {bb o n c k m : Nat} (hn : n ≤ c) (hk : k + m ≤ n) : RdV bb o n c (k + m) (.slice (slAt (some ⟨bb, o + k, none⟩) (c - k) m 1) (n - k - m) (c - k - m)) := by
  unfold slAt
  split
  · refine ⟨_, by rw [Nat.sub_sub, Nat.sub_sub], fun h => ?_⟩
    omega
  · refine ⟨_, by rw [Nat.sub_sub, Nat.sub_sub]; rfl, fun h => ?_⟩
    show Addr.add ⟨bb, o + k, none⟩ (m * 1) = _
    rw [Addr.add_mid, Nat.mul_one, Nat.add_assoc]
end Go.Ad
namespace Go.Proofs.YtcogbkkdccohfaaGreat
open Go.RowKit Go.Ad Go.Maps
set_option linter.unusedVariables false
set_option linter.unusedSimpArgs false
abbrev rB (b : Nat) (v : Value) : Bk := ⟨b, 101, 1, 1, [v]⟩
section
variable {W : World}
set_option maxRecDepth 100000 in
theorem prnum_d {rb bb o n c k m : Nat} {v : Value} {bs : List UInt8} (hs : SlB W bb o n c 1 (bs.map bv)) (hv : RdV bb o n c k v) (hm : 0 < m ∧ m ≤ 8) (hk : k + m ≤ n) (hx : (rB rb v).holds W) (hne : bb ≠ rb) : Does Tryz.prog 57 [.pointer (some ⟨rb, 0, none⟩), iv m] W [rb] (fun z L => z = .int .u64 (numM ((bs.drop k).take m) : Nat) ∧ ∃ v', RdV bb o n c (k + m) v' ∧ L = [rB rb v']) := by
  obtain ⟨a', rfl, ha⟩ := hv
  obtain rfl := ha (by omega)
  have hcap := hs.cap
  have hbig := hs.big
  simp only [maxLen] at hbig
  have hbl : bs.length = n := by have := hs.len; simpa using this
  have hll : ((bs.drop k).take m).length = m := by rw [List.length_take, List.length_drop]; omega
  refine enter Tryz.func57 rfl rfl rfl (Has.start1 hx) ?_
  refine c_seq ?_
  refine c_reg ?_
  refine s_y (Y_asC) rfl rfl ?_
  refine s_nil ?_
  refine q_then ?_
  refine c_seq ?_
  refine c_reg ?_
  refine s_y (Y_asC) rfl rfl ?_
  refine s_nil ?_
  refine q_then ?_
  refine c_seq ?_
  refine c_seq ?_
  refine c_reg ?_
  refine s_y (Y_mv) rfl rfl ?_
  refine s_y ((by first | exact Y_nil rfl | exact Y_nilF rfl | exact Y_nilM rfl (by assumption) | exact Y_nilM rfl (by intro w k; kernel_rfl))) rfl rfl ?_
  refine s_y (Y_fa 0 rfl Tryz.underlying101 rfl sz24 rfl) rfl rfl ?_
  refine s_y (yl_ one24) rfl rfl ?_
  refine s_y (Y_mv) rfl rfl ?_
  refine s_y (Y_slHi rfl rfl Tryz.underlying24 sz5 rfl (by omega)) rfl rfl ?_
  refine s_y (Y_len rfl rfl Tryz.underlying24) rfl rfl ?_
  refine s_y (Y_mvC) rfl rfl ?_
  refine s_nil ?_
  refine q_then ?_
  refine c_block ?_
  refine c_loop [5, 7, 15, 16, 17, 18, 19, 20, 21, 22, 23, 24] (fun q i => i + q = m) (fun i => [(15, iv i), (5, .int .u64 (numM (((bs.drop k).take m).take i) : Nat))]) (fun _ => [rB rb (.slice (some ⟨bb, o + k, none⟩) (n - k) (c - k))]) (m) (0) (by omega) (by repeat (first | exact trivial | refine ⟨rfl, ?_⟩)) (fun _ h => h.sub sl_) (fun _ => rfl) ?_
  rintro q i j hi K hK
  refine c_seq ?_
  refine c_reg ?_
  refine s_y (Y_lss rfl rfl) rfl rfl ?_
  refine s_nil ?_
  refine q_then ?_
  refine c_seq ?_
  first | refine c_cond' rfl (fun hc3 => ?_) (fun hc3 => ?_) | refine c_cond rfl (fun hc3 => ?_) (fun hc3 => ?_)
  · skip
    try simp only [nrm_] at hc3
    refine c_skip ?_
    refine q_then ?_
    refine c_seq ?_
    refine c_block ?_
    refine c_seq ?_
    obtain ⟨x, hx2⟩ := take_lt (show i < ((bs.drop k).take m).length by omega)
    have hx3 : bs[k + i]? = some x := by rw [List.getElem?_take_of_lt (by omega), List.getElem?_drop] at hx2; exact hx2
    have hnl := numM_lt (((bs.drop k).take m).take i)
    have hil : (((bs.drop k).take m).take i).length = i := by rw [List.length_take]; omega
    rw [hil] at hnl
    have hp : 256 ^ i ≤ 256 ^ 7 := Nat.pow_le_pow_right (by omega) (by omega)
    have hxl := x.toNat_lt
    refine c_reg ?_
    refine s_y (Y_ia1 rfl rfl Tryz.underlying24 sz5 rfl (by omega)) rfl rfl ?_
    refine s_y (Y_loadR (v := bv x) (i := k + i) rfl one5 hs.ro (by omega) (by rw [List.getElem?_map, hx3]; rfl) (by simpa using hne)) rfl rfl ?_
    refine s_y (Y_as) rfl rfl ?_
    refine s_nil ?_
    refine q_then ?_
    refine c_reg ?_
    refine s_y (Y_mv) rfl rfl ?_
    refine s_y (Y_shl rfl rfl (by decide)) rfl rfl ?_
    refine s_y (Y_mv) rfl rfl ?_
    refine s_y ((by first | exact Y_conv rfl Tryz.underlying5 Tryz.underlying96 (by first | exact i64_u8 _ | exact u64_u8 _ | exact i64_id (by omega) | exact u64_id (by omega) | exact u8_id (by omega) | exact u32_id (by omega)) | exact Y_convw rfl Tryz.underlying5 Tryz.underlying96)) rfl rfl ?_
    refine s_y ((Y_bits rfl rfl rfl (by simp)).num (show _ = ((numM (((bs.drop k).take m).take (i + 1)) : Nat) : Int) by rw [num_step hx2]; exact shl_or8 _ _ (by omega) (by omega))) rfl rfl ?_
    refine s_y (Y_as) rfl rfl ?_
    refine s_nil ?_
    refine q_bn ?_
    refine q_then ?_
    refine c_reg ?_
    refine s_y ad_ rfl rfl ?_
    refine s_y (Y_mv) rfl rfl ?_
    refine s_nil ?_
    refine hK (q - 1) (i + 1) _ _ (by omega) (by omega) ⟨rfl, rfl, trivial⟩ rfl (fun _ h => h)
  · skip
    try simp only [nrm_] at hc3
    refine c_exit ?_
    repeat with_reducible refine q_te ?_
    refine q_exit ?_
    refine q_then ?_
    refine c_seq ?_
    obtain rfl : i = m := by omega
    rw [List.take_of_length_le (Nat.le_of_eq hll)]
    refine c_reg ?_
    refine s_y (Y_mv) rfl rfl ?_
    refine s_y (Y_mv) rfl rfl ?_
    refine s_y ((by first | exact Y_nil rfl | exact Y_nilF rfl | exact Y_nilM rfl (by assumption) | exact Y_nilM rfl (by intro w k; kernel_rfl))) rfl rfl ?_
    refine s_y (Y_fa 0 rfl Tryz.underlying101 rfl sz24 rfl) rfl rfl ?_
    refine s_y (yl_ one24) rfl rfl ?_
    refine s_y (Y_mv) rfl rfl ?_
    refine s_y (Y_slLo (l := i) rfl rfl Tryz.underlying24 sz5 rfl (by omega)) rfl rfl ?_
    refine s_y ((by first | exact Y_nil rfl | exact Y_nilF rfl | exact Y_nilM rfl (by assumption) | exact Y_nilM rfl (by intro w k; kernel_rfl))) rfl rfl ?_
    refine s_y (Y_fa 0 rfl Tryz.underlying101 rfl sz24 rfl) rfl rfl ?_
    refine s_s (S_st rfl gt_ sz24 (by rfl) up_ (by first | (simp only [Nat.zero_add, Nat.reduceAdd, List.set_cons_succ, List.set_cons_zero]; rfl) | rfl) (by first | (simp; done) | omega)) rfl ?_
    refine s_nil ?_
    refine q_then ?_
    refine c_seq ?_
    refine c_reg ?_
    refine s_y (Y_mv) rfl rfl ?_
    refine s_y (Y_as) rfl rfl ?_
    refine s_nil ?_
    refine q_then ?_
    refine c_ret ?_
    refine q_retG1 rfl gt_ (L' := _) sl_ (⟨rfl, _, RdV.next hcap hk, rfl⟩)
theorem ptrs_get {tb j0 n i : Nat} (h : i < n) : ((List.range n).map fun t => Value.pointer (some ⟨tb, j0 + t, none⟩))[i]? = some (.pointer (some ⟨tb, j0 + i, none⟩)) := by
  rw [List.getElem?_map, List.getElem?_range h]; rfl
def putB (cs : List Value) (j0 : Nat) (bs : List UInt8) (k : Nat) : Nat → List Value
  | 0 => cs
  | i + 1 => (putB cs j0 bs k i).set (j0 + i) (iv (byteAt bs (k + i)))
theorem putB_len (cs : List Value) (j0 : Nat) (bs : List UInt8) (k : Nat) : ∀ i, (putB cs j0 bs k i).length = cs.length
  | 0 => rfl
  | i + 1 => by rw [putB, List.length_set, putB_len cs j0 bs k i]
set_option maxRecDepth 100000 in
theorem prsmall_d {rb bb o n c k m : Nat} {v : Value} {bs : List UInt8} (hs : SlB W bb o n c 1 (bs.map bv)) (hv : RdV bb o n c k v) (hm : m ≤ 100) (hk : k + m ≤ n) (hx : (rB rb v).holds W) {y : Bk} (hy : y.holds W) (hne : bb ≠ rb) (hne2 : rb ≠ y.b) (hne3 : bb ≠ y.b) {lb j0 : Nat} (hl : Ro W lb 0 ((List.range m).map fun t => Value.pointer (some ⟨y.b, j0 + t, none⟩))) (hlb : lb ≠ rb ∧ lb ≠ y.b) (hj : j0 + m ≤ y.c.length) :
    Does Tryz.prog 58 [.pointer (some ⟨rb, 0, none⟩), .slice (some ⟨lb, 0, none⟩) m m] W [rb, y.b] (fun z L => z = .tuple #[] ∧ ∃ v', RdV bb o n c (k + m) v' ∧ L = [rB rb v', { y with c := putB y.c j0 bs k m }]) := by
  obtain ⟨yb, yt, yk, ycap, yc⟩ := y
  simp only at hne2 hne3 hl hlb hj ⊢
  have hcap := hs.cap
  have hbl : bs.length = n := by have := hs.len; simpa using this
  refine enter Tryz.func58 rfl rfl rfl (Has.starts (xs := [rB rb v, ⟨yb, yt, yk, ycap, yc⟩]) (by intro x hx2; rcases List.mem_cons.1 hx2 with rfl | hx2; exact hx; obtain rfl := List.mem_singleton.1 hx2; exact hy) (by simpa using hne2)) ?_
  refine c_seq ?_
  refine c_reg ?_
  refine s_y (Y_mv) rfl rfl ?_
  refine s_y (Y_len rfl rfl Tryz.underlying156) rfl rfl ?_
  refine s_y (Y_mvC) rfl rfl ?_
  refine s_nil ?_
  refine q_then ?_
  refine c_block ?_
  refine c_loop [5, 8, 9, 10, 11, 12, 13, 14, 15, 16, 17] (fun q (y : Nat × Value) => y.1 + q = m ∧ RdV bb o n c (k + y.1) y.2) (fun y => [(8, iv y.1)]) (fun y => [rB rb y.2, ⟨yb, yt, yk, ycap, putB yc j0 bs k y.1⟩]) (m) ((0, v)) (⟨by simp only; omega, hv⟩) (by repeat (first | exact trivial | refine ⟨rfl, ?_⟩)) (fun _ h => h.sub sl_) (fun _ => rfl) ?_
  rintro q ⟨i, v2⟩ j ⟨hi, hv2⟩ K hK
  simp only at hi hv2 ⊢
  refine c_seq ?_
  refine c_reg ?_
  refine s_y (Y_lss rfl rfl) rfl rfl ?_
  refine s_nil ?_
  refine q_then ?_
  refine c_seq ?_
  first | refine c_cond' rfl (fun hc1 => ?_) (fun hc1 => ?_) | refine c_cond rfl (fun hc1 => ?_) (fun hc1 => ?_)
  · skip
    try simp only [nrm_] at hc1
    refine c_skip ?_
    refine q_then ?_
    refine c_seq ?_
    refine c_block ?_
    refine c_seq ?_
    refine c_reg ?_
    refine s_y (Y_ia1 rfl rfl Tryz.underlying156 sz104 rfl (by omega)) rfl rfl ?_
    refine s_y (Y_loadR (v := .pointer (some ⟨yb, j0 + i, none⟩)) (i := i) rfl one104 hl (by omega) (ptrs_get (by omega)) (by simp only [List.map_cons, List.map_nil, List.mem_cons, List.not_mem_nil, or_false, not_or]; exact hlb)) rfl rfl ?_
    refine s_y (Y_as) rfl rfl ?_
    refine s_nil ?_
    refine q_then ?_
    refine c_reg ?_
    refine s_y (Y_mv) rfl rfl ?_
    refine s_y (Y_mv) rfl rfl ?_
    refine s_cm [rB rb v2] (En_call (fun _ => rfl) Tryz.func57 rfl (by kernel_rfl) rfl) ss_ (fun w hH => prnum_d (m := 1) (hs.has hH (by simp only [List.map_cons, List.map_nil, List.mem_cons, List.not_mem_nil, or_false, not_or]; exact ⟨hne, hne3⟩)) hv2 (by decide) (by omega) (hH.at' mm_) hne) rfl rfl ?_
    rintro _ _ ⟨rfl, v3, hv3, rfl⟩
    obtain ⟨x, hx3⟩ := take_lt (show k + i < bs.length by omega)
    have hn1 : numM ((bs.drop (k + i)).take 1) = x.toNat := by
      rw [List.drop_eq_getElem_cons (by omega), List.take_succ_cons, List.take_zero]
      obtain ⟨h1, rfl⟩ := List.getElem?_eq_some_iff.1 hx3
      simp [numM]
    have hxl := x.toNat_lt
    have hpb : putB yc j0 bs k (i + 1) = (putB yc j0 bs k i).set (j0 + i) (iv (x.toNat : Int)) := by rw [putB, byteAt_of hx3]
    have hpl := putB_len yc j0 bs k i
    rw [hn1]
    refine s_y (Y_conv rfl Tryz.underlying96 Tryz.underlying3 (i64_id (by omega))) rfl rfl ?_
    refine s_y ((by first | exact Y_nil rfl | exact Y_nilF rfl | exact Y_nilM rfl (by assumption) | exact Y_nilM rfl (by intro w k; kernel_rfl))) rfl rfl ?_
    refine s_s (S_st (cs' := putB yc j0 bs k (i + 1)) rfl gt_ sz3 (by rfl) up_ hpb.symm (by omega)) rfl ?_
    refine s_nil ?_
    refine q_bn ?_
    refine q_then ?_
    refine c_reg ?_
    refine s_y ad_ rfl rfl ?_
    refine s_y (Y_mv) rfl rfl ?_
    refine s_nil ?_
    refine hK (q - 1) (i + 1, v3) _ _ (by omega) ⟨by simp only; omega, hv3⟩ ⟨rfl, trivial⟩ rfl (fun _ h => h.pick ss_)
  · skip
    try simp only [nrm_] at hc1
    refine c_exit ?_
    repeat with_reducible refine q_te ?_
    refine q_exit ?_
    refine q_end0 rfl (L' := _) sl_ (⟨rfl, v2, by rw [show m = i by omega]; exact hv2, by rw [show m = i by omega]⟩)
end
end Go.Proofs.YtcogbkkdccohfaaGreat
namespace Go.Ad
def entAt (bs : List UInt8) (k : Nat) : Ent := ⟨byteAt bs (k + 0), byteAt bs (k + 1), byteAt bs (k + 2), byteAt bs (k + 3), byteAt bs (k + 4), byteAt bs (k + 5), byteAt bs (k + 6), byteAt bs (k + 7), byteAt bs (k + 8), byteAt bs (k + 9), byteAt bs (k + 10)⟩
def itmAt (bs : List UInt8) (k : Nat) : Itm := ⟨byteAt bs (k + 0), byteAt bs (k + 1), byteAt bs (k + 2), byteAt bs (k + 3)⟩
def num2 (bs : List UInt8) (k : Nat) : Int := (numM ((bs.drop k).take 2) : Nat)
def goldD (bs : List UInt8) : Nat → Four
  | 0 => ⟨0, 0, 0, 0⟩
  | i + 1 => (goldD bs i).set (num2 bs (14 + 2 * i)) i
def decM (bs : List UInt8) : Wd := ⟨IntKind.i64.wrap (numM ((bs.drop 0).take 8) : Nat), (numM ((bs.drop 8).take 4) : Nat), byteAt bs (12 + 0), byteAt bs (12 + 1), (bs.drop 22).take 384, (List.range 32).map (fun i => entAt bs (406 + i * 11)), (List.range 40).map (fun i => itmAt bs (758 + i * 4)), goldD bs 4⟩
theorem fill_set {α : Type} {f : Nat → α} {z : α} {n i : Nat} (h : i < n) : ((List.range i).map f ++ List.replicate (n - i) z).set i (f i) = (List.range (i + 1)).map f ++ List.replicate (n - (i + 1)) z := by
  obtain ⟨q, hq⟩ : ∃ q, n - i = q + 1 := ⟨n - i - 1, by omega⟩
  rw [hq, show n - (i + 1) = q by omega, List.replicate_succ, List.range_succ, List.map_append]
  have hl : ((List.range i).map f).length = i := by simp
  conv => lhs; arg 2; rw [← hl]
  rw [List.set_append_right _ _ (Nat.le_refl _), Nat.sub_self, List.set_cons_zero]
  simp
theorem fill_len {α : Type} {f : Nat → α} {z : α} {n i : Nat} (h : i ≤ n) : ((List.range i).map f ++ List.replicate (n - i) z).length = n := by simp; omega
theorem Has.ne_old {W w : World} {L : List Bk} {x : Bk} {b : Nat} (hH : Has W [] L w) (hx : x ∈ L) (hb : b < W.heap.size) : b ≠ x.b := fun h => by
  rcases (hH.bk x hx).2 with h1 | h1
  · simp at h1
  · omega
theorem SlB.sub {W : World} {b o n c k m : Nat} {bs : List UInt8} (h : SlB W b o n c 1 (bs.map bv)) (hk : k + m ≤ n) : SlB W b (o + k) m (c - k) 1 (((bs.drop k).take m).map bv) := by
  have hl : bs.length = n := by have := h.len; simpa using this
  have hc := h.cap
  have hb := h.big
  refine ⟨by rw [List.length_map, List.length_take, List.length_drop]; omega, by omega, by omega, h.lt, fun j v hj => ?_⟩
  rw [Nat.add_assoc]
  apply h.ro
  rw [List.getElem?_map] at hj ⊢
  have hjl : j < m := by
    cases hq : ((bs.drop k).take m)[j]? with
    | none => rw [hq] at hj; cases hj
    | some x => have := (List.getElem?_eq_some_iff.1 hq).1; rw [List.length_take] at this; omega
  rw [List.getElem?_take_of_lt hjl, List.getElem?_drop] at hj
  exact hj
end Go.Ad
namespace Go.Proofs.YtcogbkkdccohfaaGreat
open Go.RowKit Go.Ad Go.Maps
set_option linter.unusedVariables false
set_option linter.unusedSimpArgs false
abbrev wcD (a b c d : Int) (x y z : Value) (g : Four) : List Value := [iv a, iv b, iv c, iv d, x, y, z, iv g.a, iv g.b, iv g.c, iv g.d]
theorem wcD_gold {a b c d : Int} {x y z : Value} {g : Four} {v : Int} {i : Nat} (h : i < 4) : (wcD a b c d x y z g).set (0 + 7 + i * 1) (iv v) = wcD a b c d x y z (g.set v i) := by
  rcases (show i = 0 ∨ i = 1 ∨ i = 2 ∨ i = 3 by omega) with rfl | rfl | rfl | rfl <;> rfl
abbrev pB (b tb j0 n : Nat) : Bk := ⟨b, 104, 1, n, (List.range n).map fun t => Value.pointer (some ⟨tb, j0 + t, none⟩)⟩
abbrev entF (bs : List UInt8) (i : Nat) : List Ent := (List.range i).map (fun i => entAt bs (406 + i * 11)) ++ List.replicate (32 - i) Ent.zero
abbrev itmF (bs : List UInt8) (i : Nat) : List Itm := (List.range i).map (fun i => itmAt bs (758 + i * 4)) ++ List.replicate (40 - i) Itm.zero
theorem entF_put {bs : List UInt8} {i : Nat} (h : i < 32) : putB (ecells (entF bs i)) (0 + i * 11) bs (406 + i * 11) 11 = ecells (entF bs (i + 1)) := by
  rw [entF, entF, ← fill_set (f := fun i => entAt bs (406 + i * 11)) h]
  exact eall (entAt bs (406 + i * 11)) (by rw [fill_len (by omega)]; omega)
theorem itmF_put {bs : List UInt8} {i : Nat} (h : i < 40) : putB (icells (itmF bs i)) (0 + i * 4) bs (758 + i * 4) 4 = icells (itmF bs (i + 1)) := by
  rw [itmF, itmF, ← fill_set (f := fun i => itmAt bs (758 + i * 4)) h]
  exact iall (itmAt bs (758 + i * 4)) (by rw [fill_len (by omega)]; omega)
section
variable {W : World}
set_option maxRecDepth 100000 in
theorem pclone_d {b o n c : Nat} {l : List UInt8} (hs : SlB W b o n c 1 (l.map bv)) (hn : n ≤ 100000) : Does Tryz.prog 59 [.slice (some ⟨b, o, none⟩) n c] W [] (fun v L => ∃ g cap, n ≤ cap ∧ v = .slice (some ⟨g, 0, none⟩) n cap ∧ L = [cB g cap l]) := by
  refine enter Tryz.func59 rfl rfl rfl (Has.start _) ?_
  refine c_seq ?_
  refine c_reg ?_
  refine s_y (Y_asC) rfl rfl ?_
  refine s_nil ?_
  refine q_then ?_
  refine c_seq ?_
  refine c_seq ?_
  refine c_reg ?_
  refine s_y (Y_mv) rfl rfl ?_
  refine s_y (Y_eqN rfl rfl Tryz.underlying24) rfl rfl ?_
  refine s_nil ?_
  refine q_then ?_
  refine c_F rfl (rfl) ?_
  refine c_skip ?_
  refine q_then ?_
  refine c_seq ?_
  refine c_reg ?_
  refine s_n (N_bs0 rfl Tryz.underlying24 sz5) rfl rfl (fun b5 _ => ?_)
  refine s_y (Y_mv) rfl rfl ?_
  refine s_n (N_appE (news := l.map bv) rfl rfl Tryz.underlying24 inf5 rfl (by omega) se_ hs.src hs.len (bvs_one _) (by omega) (by omega)) rfl rfl (fun ⟨g7, cp7⟩ hc7 => ?_)
  refine s_y (Y_as) rfl rfl ?_
  refine s_nil ?_
  refine q_then ?_
  refine c_ret ?_
  refine q_retG1 rfl gt_ (L' := _) sl_ (⟨g7, cp7, hc7, rfl, rfl⟩)
def DecP (bs : List UInt8) (v : Value) (L : List Bk) : Prop := (∃ e : Int, e ≠ 0 ∧ v = .tuple #[.agg wz.toArray, iv e] ∧ L = [] ∧ e = (if bs.length < 918 then 7 else if 918 < bs.length then 8 else checkM (decM bs))) ∨ (bs.length = 918 ∧ checkM (decM bs) = 0 ∧ ∃ cb cc eb ec ib ic, v = .tuple #[.agg (wv (decM bs) ⟨cb, 0, cc, eb, 0, ec, ib, 0, ic⟩).toArray, iv 0] ∧ L = [cB cb cc (decM bs).cells, eB eb ec (decM bs).ents, iB ib ic (decM bs).items] ∧ (decM bs).cells.length ≤ cc ∧ (decM bs).ents.length ≤ ec ∧ (decM bs).items.length ≤ ic)
theorem dec_ok (bs : List UInt8) : ∀ x ∈ (decM bs).items, Itm.ok x := fun x hx => by
  obtain ⟨i, _, rfl⟩ := List.mem_map.1 hx
  have := byteAt_rng bs (758 + i * 4 + 3)
  exact ⟨by show _ ≤ byteAt bs (758 + i * 4 + 3); omega, by show byteAt bs (758 + i * 4 + 3) ≤ _; omega⟩
set_option maxRecDepth 100000 in
set_option maxHeartbeats 3200000 in
theorem pdec_d {bb o n c : Nat} {bs : List UInt8} (hs : SlB W bb o n c 1 (bs.map bv)) (hn : n ≤ 100000000) : Does Tryz.prog 19 [.slice (some ⟨bb, o, none⟩) n c] W [] (DecP bs) := by
  obtain rfl : n = bs.length := by have := hs.len; simpa using this.symm
  have hcap := hs.cap
  have hbig := hs.big
  simp only [maxLen] at hbig
  refine enter Tryz.func19 rfl rfl rfl (Has.start _) ?_
  refine c_seq ?_
  refine c_reg ?_
  refine s_n (N_alloc (z := .agg #[.int .i64 0, .int .i64 0, .int .i64 0, .int .i64 0, .slice none 0 0, .slice none 0 0, .slice none 0 0, .int .i64 0, .int .i64 0, .int .i64 0, .int .i64 0]) (cs := [.int .i64 0, .int .i64 0, .int .i64 0, .int .i64 0, .slice none 0 0, .slice none 0 0, .slice none 0 0, .int .i64 0, .int .i64 0, .int .i64 0, .int .i64 0]) zv34 rfl) rfl rfl (fun b2 _ => ?_)
  refine s_y (Y_asC) rfl rfl ?_
  refine s_nil ?_
  refine q_then ?_
  refine c_seq ?_
  refine c_block ?_
  refine c_seq ?_
  refine c_reg ?_
  refine s_y (Y_mv) rfl rfl ?_
  refine s_y (Y_len rfl rfl Tryz.underlying24) rfl rfl ?_
  refine s_y (Y_lss rfl rfl) rfl rfl ?_
  refine s_y (Y_as) rfl rfl ?_
  refine s_nil ?_
  refine q_then ?_
  first | refine c_cond' rfl (fun hc1 => ?_) (fun hc1 => ?_) | refine c_cond rfl (fun hc1 => ?_) (fun hc1 => ?_)
  · skip
    try simp only [nrm_] at hc1
    refine c_seq ?_
    refine c_reg ?_
    refine s_y (Y_build (cs := [.int .i64 0, .int .i64 0, .int .i64 0, .int .i64 0, .slice none 0 0, .slice none 0 0, .slice none 0 0, .int .i64 0, .int .i64 0, .int .i64 0, .int .i64 0]) (by repeat (first | exact Gp.nil | apply Gp.const | apply Gp.tmp gt_)) (bld34 _ _ (by kernel_rfl))) rfl rfl ?_
    refine s_s ((sa_ sz34)) rfl ?_
    refine s_y (Y_asC) rfl rfl ?_
    refine s_nil ?_
    refine q_then ?_
    refine c_ret ?_
    refine q_ret2c rfl rfl many34 rfl mm_ (by rfl) (L' := []) sl_ (.inl ⟨7, by decide, rfl, rfl, by rw [if_pos (by omega)]⟩)
  · skip
    try simp only [nrm_] at hc1
    refine c_seq ?_
    refine c_reg ?_
    refine s_y (Y_mv) rfl rfl ?_
    refine s_y (Y_len rfl rfl Tryz.underlying24) rfl rfl ?_
    refine s_y (Y_gtr rfl rfl) rfl rfl ?_
    refine s_y (Y_as) rfl rfl ?_
    refine s_nil ?_
    refine q_then ?_
    first | refine c_cond' rfl (fun hc3 => ?_) (fun hc3 => ?_) | refine c_cond rfl (fun hc3 => ?_) (fun hc3 => ?_)
    · skip
      try simp only [nrm_] at hc3
      refine c_seq ?_
      refine c_reg ?_
      refine s_y (Y_build (cs := [.int .i64 0, .int .i64 0, .int .i64 0, .int .i64 0, .slice none 0 0, .slice none 0 0, .slice none 0 0, .int .i64 0, .int .i64 0, .int .i64 0, .int .i64 0]) (by repeat (first | exact Gp.nil | apply Gp.const | apply Gp.tmp gt_)) (bld34 _ _ (by kernel_rfl))) rfl rfl ?_
      refine s_s ((sa_ sz34)) rfl ?_
      refine s_y (Y_asC) rfl rfl ?_
      refine s_nil ?_
      refine q_then ?_
      refine c_ret ?_
      refine q_ret2c rfl rfl many34 rfl mm_ (by rfl) (L' := []) sl_ (.inl ⟨8, by decide, rfl, rfl, by rw [if_neg (by omega), if_pos (by omega)]⟩)
    · skip
      try simp only [nrm_] at hc3
      refine c_skip ?_
      refine q_bn ?_
      refine q_then ?_
      refine c_seq ?_
      have hl : bs.length = 918 := by omega
      rw [hl]
      rw [hl] at hs
      refine c_reg ?_
      refine s_y (Y_mv) rfl rfl ?_
      refine s_y (Y_build (cs := [_]) (by repeat (first | exact Gp.nil | apply Gp.const | apply Gp.tmp gt_)) (bld101 _ _ (by first | rfl | (simp; rfl)))) rfl rfl ?_
      refine s_n (N_box (cs := [.slice (some ⟨bb, o, none⟩) 918 c]) rfl) rfl rfl (fun b24 _ => ?_)
      refine s_y (Y_as) rfl rfl ?_
      refine s_nil ?_
      refine q_then ?_
      refine c_seq ?_
      refine c_reg ?_
      refine s_y (Y_mv) rfl rfl ?_
      refine s_cm [rB b24 (.slice (some ⟨bb, o, none⟩) 918 c)] (En_call (fun _ => rfl) Tryz.func57 rfl (by kernel_rfl) rfl) ss_ (fun w hH => prnum_d (k := 0) (m := 8) (hs.has hH) ⟨_, rfl, fun _ => rfl⟩ (by decide) (by omega) (hH.at' (x := rB b24 (.slice (some ⟨bb, o, none⟩) 918 c)) mm_) (hH.ne_old (x := rB b24 (.slice (some ⟨bb, o, none⟩) 918 c)) mm_ hs.lt)) rfl rfl ?_
      rintro _ _ ⟨rfl, v1, hv1, rfl⟩
      have hb8 := numM_lt ((bs.drop 8).take 4)
      rw [show ((bs.drop 8).take 4).length = 4 by rw [List.length_take, List.length_drop]; omega] at hb8
      rw [Nat.zero_add] at hv1
      refine s_y (Y_convw rfl Tryz.underlying96 Tryz.underlying2) rfl rfl ?_
      refine s_y (Y_mv) rfl rfl ?_
      refine s_cm [rB b24 v1] (En_call (fun _ => rfl) Tryz.func57 rfl (by kernel_rfl) rfl) ss_ (fun w hH => prnum_d (k := 8) (m := 4) (hs.has hH) hv1 (by decide) (by omega) (hH.at' (x := rB b24 v1) mm_) (hH.ne_old (x := rB b24 v1) mm_ hs.lt)) rfl rfl ?_
      rintro _ _ ⟨rfl, v2, hv2, rfl⟩
      refine s_y (Y_conv rfl Tryz.underlying96 Tryz.underlying3 (i64_id (by omega))) rfl rfl ?_
      refine s_y (Y_build (cs := wcD (decM bs).seed (decM bs).frame 0 0 (.slice none 0 0) (.slice none 0 0) (.slice none 0 0) ⟨0, 0, 0, 0⟩) (by repeat (first | exact Gp.nil | apply Gp.const | apply Gp.tmp gt_)) (bld34 _ _ (by kernel_rfl))) rfl rfl ?_
      refine s_n (N_alloc (z := .agg #[.int .i64 0, .int .i64 0, .int .i64 0, .int .i64 0, .slice none 0 0, .slice none 0 0, .slice none 0 0, .int .i64 0, .int .i64 0, .int .i64 0, .int .i64 0]) (cs := [.int .i64 0, .int .i64 0, .int .i64 0, .int .i64 0, .slice none 0 0, .slice none 0 0, .slice none 0 0, .int .i64 0, .int .i64 0, .int .i64 0, .int .i64 0]) zv34 rfl) rfl rfl (fun b5 _ => ?_)
      refine s_s (S_storeA (vs := wcD (decM bs).seed (decM bs).frame 0 0 (.slice none 0 0) (.slice none 0 0) (.slice none 0 0) ⟨0, 0, 0, 0⟩) rfl rfl sz34 (by rfl) (by rfl) up_ (by rfl)) rfl ?_
      refine s_nil ?_
      refine QL.pick (L' := [wB b5 (wcD (decM bs).seed (decM bs).frame 0 0 (.slice none 0 0) (.slice none 0 0) (.slice none 0 0) ⟨0, 0, 0, 0⟩), rB b24 v2, wB b2 wz]) ss_ ?_
      refine q_then ?_
      refine c_seq ?_
      refine c_reg ?_
      refine s_y (Y_mv) rfl rfl ?_
      refine s_y (Y_fa 2 rfl Tryz.underlying34 rfl sz3 rfl) rfl rfl ?_
      refine s_y (Y_fa 3 rfl Tryz.underlying34 rfl sz3 rfl) rfl rfl ?_
      refine s_n (N_bs (xs := [.tmp 33, .tmp 34]) (by repeat (first | exact Gv.nil | apply Gv.const | apply Gv.tmp gt_)) rfl Tryz.underlying156 inf104 rfl (by omega) (by omega) (by first | simp [Value.oneCell'] | (intro v hv; simp at hv; subst hv; rfl))) rfl rfl (fun b35 _ => ?_)
      refine s_cm [rB b24 v2, wB b5 (wcD (decM bs).seed (decM bs).frame 0 0 (.slice none 0 0) (.slice none 0 0) (.slice none 0 0) ⟨0, 0, 0, 0⟩)] (En_call (fun _ => rfl) Tryz.func58 rfl (by kernel_rfl) rfl) ss_ (fun w hH => prsmall_d (k := 12) (m := 2) (j0 := 2) (y := wB b5 (wcD (decM bs).seed (decM bs).frame 0 0 (.slice none 0 0) (.slice none 0 0) (.slice none 0 0) ⟨0, 0, 0, 0⟩)) (hs.has hH) hv2 (by decide) (by omega) (hH.at' (x := rB b24 v2) mm_) (hH.at' mm_) (hH.ne_old (x := rB b24 v2) mm_ hs.lt) (hH.nodup2 (x := rB b24 v2) (y := wB b5 (wcD (decM bs).seed (decM bs).frame 0 0 (.slice none 0 0) (.slice none 0 0) (.slice none 0 0) ⟨0, 0, 0, 0⟩)) ss_) (hH.ne_old (x := wB b5 (wcD (decM bs).seed (decM bs).frame 0 0 (.slice none 0 0) (.slice none 0 0) (.slice none 0 0) ⟨0, 0, 0, 0⟩)) mm_ hs.lt) (hH.at' (x := ⟨b35, 104, 1, 2, [.pointer (some ⟨b5, 2, none⟩), .pointer (some ⟨b5, 3, none⟩)]⟩) mm_).ro ⟨hH.nodup2 (x := ⟨b35, 104, 1, 2, [.pointer (some ⟨b5, 2, none⟩), .pointer (some ⟨b5, 3, none⟩)]⟩) (y := rB b24 v2) ss_, hH.nodup2 (x := ⟨b35, 104, 1, 2, [.pointer (some ⟨b5, 2, none⟩), .pointer (some ⟨b5, 3, none⟩)]⟩) (y := wB b5 (wcD (decM bs).seed (decM bs).frame 0 0 (.slice none 0 0) (.slice none 0 0) (.slice none 0 0) ⟨0, 0, 0, 0⟩)) ss_⟩ (by simp only [List.length_cons, List.length_nil]; omega)) rfl rfl ?_
      rintro _ _ ⟨rfl, v3, hv3, rfl⟩
      refine s_nil ?_
      refine QL.pick (L' := [wB b5 (wcD (decM bs).seed (decM bs).frame (decM bs).floor (decM bs).state (.slice none 0 0) (.slice none 0 0) (.slice none 0 0) ⟨0, 0, 0, 0⟩), rB b24 v3, wB b2 wz]) ss_ ?_
      refine q_then ?_
      refine c_seq ?_
      refine c_seq ?_
      refine c_reg ?_
      refine s_y (Y_mvC) rfl rfl ?_
      refine s_nil ?_
      refine q_then ?_
      refine c_block ?_
      refine c_loop [6, 37, 38, 39, 40, 41, 42, 43, 44, 45, 46] (fun m (y : Nat × Value) => y.1 + m = 4 ∧ RdV bb o 918 c (14 + 2 * y.1) y.2) (fun y => [(37, iv y.1)]) (fun y => [wB b5 (wcD (decM bs).seed (decM bs).frame (decM bs).floor (decM bs).state (.slice none 0 0) (.slice none 0 0) (.slice none 0 0) (goldD bs y.1)), rB b24 y.2, wB b2 wz]) (4) ((0, v3)) (⟨rfl, hv3⟩) (by repeat (first | exact trivial | refine ⟨rfl, ?_⟩)) (fun _ h => h.sub sl_) (fun _ => rfl) ?_
      rintro m ⟨i, v4⟩ j ⟨hi, hv4⟩ K hK
      simp only at hi hv4 ⊢
      refine c_seq ?_
      refine c_reg ?_
      refine s_y (Y_lss rfl rfl) rfl rfl ?_
      refine s_nil ?_
      refine q_then ?_
      refine c_seq ?_
      first | refine c_cond' rfl (fun hc9 => ?_) (fun hc9 => ?_) | refine c_cond rfl (fun hc9 => ?_) (fun hc9 => ?_)
      · skip
        try simp only [nrm_] at hc9
        refine c_skip ?_
        refine q_then ?_
        refine c_seq ?_
        refine c_block ?_
        refine c_seq ?_
        refine c_reg ?_
        refine s_y (Y_mv) rfl rfl ?_
        refine s_y (Y_as) rfl rfl ?_
        refine s_nil ?_
        refine q_then ?_
        have hb2 := numM_lt ((bs.drop (14 + 2 * i)).take 2)
        rw [show ((bs.drop (14 + 2 * i)).take 2).length = 2 by rw [List.length_take, List.length_drop]; omega] at hb2
        refine c_reg ?_
        refine s_y (Y_mv) rfl rfl ?_
        refine s_y (Y_mv) rfl rfl ?_
        refine s_cm [rB b24 v4] (En_call (fun _ => rfl) Tryz.func57 rfl (by kernel_rfl) rfl) ss_ (fun w hH => prnum_d (k := 14 + 2 * i) (m := 2) (hs.has hH) hv4 (by decide) (by omega) (hH.at' (x := rB b24 v4) mm_) (hH.ne_old (x := rB b24 v4) mm_ hs.lt)) rfl rfl ?_
        rintro _ _ ⟨rfl, v5, hv5, rfl⟩
        refine s_y (Y_conv rfl Tryz.underlying96 Tryz.underlying3 (i64_id (by omega))) rfl rfl ?_
        refine s_y (Y_fa 7 rfl Tryz.underlying34 rfl sz32 rfl) rfl rfl ?_
        refine s_y (Y_iaA rfl rfl Tryz.underlying32 sz3 rfl (by omega)) rfl rfl ?_
        refine s_s (S_st (cs' := wcD (decM bs).seed (decM bs).frame (decM bs).floor (decM bs).state (.slice none 0 0) (.slice none 0 0) (.slice none 0 0) (goldD bs (i + 1))) rfl gt_ sz3 (by rfl) up_ (wcD_gold (by omega)) (by simp only [List.length_cons, List.length_nil]; omega)) rfl ?_
        refine s_nil ?_
        refine q_bn ?_
        refine q_then ?_
        refine c_reg ?_
        refine s_y ad_ rfl rfl ?_
        refine s_y (Y_mv) rfl rfl ?_
        refine s_nil ?_
        refine hK (m - 1) (i + 1, v5) _ _ (by omega) ⟨by simp only; omega, hv5⟩ ⟨rfl, trivial⟩ rfl (fun _ h => h.pick ss_)
      · skip
        try simp only [nrm_] at hc9
        refine c_exit ?_
        repeat with_reducible refine q_te ?_
        refine q_exit ?_
        refine q_then ?_
        refine c_seq ?_
        obtain rfl : i = 4 := by omega
        obtain ⟨a4, rfl, ha4⟩ := hv4
        obtain rfl := ha4 (by omega)
        refine c_reg ?_
        refine s_y (Y_mv) rfl rfl ?_
        refine s_y ((by first | exact Y_nil rfl | exact Y_nilF rfl | exact Y_nilM rfl (by assumption) | exact Y_nilM rfl (by intro w k; kernel_rfl))) rfl rfl ?_
        refine s_y (Y_fa 0 rfl Tryz.underlying101 rfl sz24 rfl) rfl rfl ?_
        refine s_y (yl_ one24) rfl rfl ?_
        refine s_y (Y_slHi (h := 384) rfl rfl Tryz.underlying24 sz5 rfl (by omega)) rfl rfl ?_
        refine s_c (En_call (fun _ => rfl) Tryz.func59 rfl (by kernel_rfl) rfl) (fun w hH => pclone_d (b := bb) (o := o + 22) (c := c - 22) ((hs.sub (k := 22) (m := 384) (by omega)).has hH) (by omega)) rfl rfl ?_
        rintro _ _ ⟨cg, ccap, hcc, rfl, rfl⟩
        refine s_y (Y_fa 4 rfl Tryz.underlying34 rfl sz24 rfl) rfl rfl ?_
        refine s_s (S_st rfl gt_ sz24 (by rfl) up_ (by first | (simp only [Nat.zero_add, Nat.reduceAdd, List.set_cons_succ, List.set_cons_zero]; rfl) | rfl) (by first | (simp; done) | omega)) rfl ?_
        refine s_nil ?_
        refine QL.pick (L' := [wB b5 (wcD (decM bs).seed (decM bs).frame (decM bs).floor (decM bs).state (.slice (some ⟨cg, 0, none⟩) 384 ccap) (.slice none 0 0) (.slice none 0 0) (goldD bs 4)), rB b24 (.slice (some ⟨bb, o + 22, none⟩) (918 - 22) (c - 22)), cB cg ccap (decM bs).cells, wB b2 wz]) ss_ ?_
        refine q_then ?_
        refine c_seq ?_
        refine c_reg ?_
        refine s_y (Y_mv) rfl rfl ?_
        refine s_y (Y_mv) rfl rfl ?_
        refine s_y ((by first | exact Y_nil rfl | exact Y_nilF rfl | exact Y_nilM rfl (by assumption) | exact Y_nilM rfl (by intro w k; kernel_rfl))) rfl rfl ?_
        refine s_y (Y_fa 0 rfl Tryz.underlying101 rfl sz24 rfl) rfl rfl ?_
        refine s_y (yl_ one24) rfl rfl ?_
        refine s_y (Y_slLo (l := 384) rfl rfl Tryz.underlying24 sz5 rfl (by omega)) rfl rfl ?_
        refine s_y ((by first | exact Y_nil rfl | exact Y_nilF rfl | exact Y_nilM rfl (by assumption) | exact Y_nilM rfl (by intro w k; kernel_rfl))) rfl rfl ?_
        refine s_y (Y_fa 0 rfl Tryz.underlying101 rfl sz24 rfl) rfl rfl ?_
        refine s_s (S_st rfl gt_ sz24 (by rfl) up_ (by first | (simp only [Nat.zero_add, Nat.reduceAdd, List.set_cons_succ, List.set_cons_zero]; rfl) | rfl) (by first | (simp; done) | omega)) rfl ?_
        refine s_nil ?_
        have hv6 : RdV bb o 918 c 406 (.slice (slAt (some ⟨bb, o + 22, none⟩) (c - 22) 384 1) (918 - 22 - 384) (c - 22 - 384)) := RdV.next (k := 22) (m := 384) (by omega) (by omega)
        obtain ⟨v6, hv6e⟩ : ∃ q_, Value.slice (slAt (some ⟨bb, o + 22, none⟩) (c - 22) 384 1) (918 - 22 - 384) (c - 22 - 384) = q_ := ⟨_, rfl⟩
        rw [hv6e] at hv6 ⊢
        refine q_then ?_
        refine c_seq ?_
        refine c_reg ?_
        refine s_n (N_makeU (n := 32) (u0 := .int .i64 0) rfl rfl Tryz.underlying30 inf93 rfl (by omega) rfl (by omega) (by omega)) rfl rfl (fun b62 _ => ?_)
        refine s_y (Y_fa 5 rfl Tryz.underlying34 rfl sz30 rfl) rfl rfl ?_
        refine s_s (S_st rfl gt_ sz30 (by rfl) up_ (by first | (simp only [Nat.zero_add, Nat.reduceAdd, List.set_cons_succ, List.set_cons_zero]; rfl) | rfl) (by first | (simp; done) | omega)) rfl ?_
        refine s_nil ?_
        refine QL.pick (L' := [wB b5 (wcD (decM bs).seed (decM bs).frame (decM bs).floor (decM bs).state (.slice (some ⟨cg, 0, none⟩) 384 ccap) (.slice (some ⟨b62, 0, none⟩) 32 32) (.slice none 0 0) (goldD bs 4)), ⟨b62, 93, 11, 32, List.replicate (32 * 11) (iv 0)⟩, rB b24 v6, cB cg ccap (decM bs).cells, wB b2 wz]) ss_ ?_
        rw [← ezero b62 32, show List.replicate 32 Ent.zero = entF bs 0 by simp [entF]]
        refine q_then ?_
        refine c_seq ?_
        refine c_seq ?_
        refine c_reg ?_
        refine s_y (Y_fa 5 rfl Tryz.underlying34 rfl sz30 rfl) rfl rfl ?_
        refine s_y (yl_ one30) rfl rfl ?_
        refine s_y (Y_len rfl rfl Tryz.underlying30) rfl rfl ?_
        refine s_y (Y_mvC) rfl rfl ?_
        refine s_nil ?_
        refine q_then ?_
        refine c_block ?_
        refine c_loop [7, 8, 67, 68, 69, 70, 71, 72, 73, 74, 75, 76, 77, 78, 79, 80, 81, 82, 83, 84, 85, 86, 87, 88, 89, 90, 91, 92, 93, 94, 95, 96, 97, 98, 99, 100, 101, 102, 103, 104, 105, 106, 107, 108, 109, 110] (fun m (y : Nat × Value) => y.1 + m = 32 ∧ RdV bb o 918 c (406 + y.1 * 11) y.2) (fun y => [(67, iv y.1)]) (fun y => [wB b5 (wcD (decM bs).seed (decM bs).frame (decM bs).floor (decM bs).state (.slice (some ⟨cg, 0, none⟩) 384 ccap) (.slice (some ⟨b62, 0, none⟩) 32 32) (.slice none 0 0) (goldD bs 4)), eB b62 32 (entF bs y.1), rB b24 y.2, cB cg ccap (decM bs).cells, wB b2 wz]) (32) ((0, v6)) (⟨rfl, hv6⟩) (by repeat (first | exact trivial | refine ⟨rfl, ?_⟩)) (fun _ h => h.sub sl_) (fun _ => rfl) ?_
        rintro m ⟨i, v7⟩ j ⟨hi, hv7⟩ K hK
        simp only at hi hv7 ⊢
        refine c_seq ?_
        refine c_reg ?_
        refine s_y (Y_lss rfl rfl) rfl rfl ?_
        refine s_nil ?_
        refine q_then ?_
        refine c_seq ?_
        first | refine c_cond' rfl (fun hc17 => ?_) (fun hc17 => ?_) | refine c_cond rfl (fun hc17 => ?_) (fun hc17 => ?_)
        · skip
          try simp only [nrm_] at hc17
          refine c_skip ?_
          refine q_then ?_
          refine c_seq ?_
          refine c_block ?_
          refine c_seq ?_
          refine c_reg ?_
          refine s_y (Y_mv) rfl rfl ?_
          refine s_y (Y_as) rfl rfl ?_
          refine s_nil ?_
          refine q_then ?_
          refine c_seq ?_
          refine c_reg ?_
          refine s_y (Y_fa 5 rfl Tryz.underlying34 rfl sz30 rfl) rfl rfl ?_
          refine s_y (yl_ one30) rfl rfl ?_
          refine s_y (Y_mv) rfl rfl ?_
          refine s_y (Y_ia rfl rfl Tryz.underlying30 sz93 rfl (by omega)) rfl rfl ?_
          refine s_y (Y_as) rfl rfl ?_
          refine s_nil ?_
          refine q_then ?_
          have hfl : (entF bs i).length = 32 := fill_len (by omega)
          refine c_rordS (L0 := []) sl_ [35] [(0, true), (1, true), (2, true), (3, true), (4, true), (5, true), (6, true), (7, true), (8, true), (9, true), (10, true), (11, true), (12, true), (13, true), (14, true), (15, true), (16, true), (17, true), (18, true), (19, true), (20, true), (21, true), (22, true), (23, true), (24, true), (25, true), (26, true), (27, true), (28, true), (29, true), (30, true), (31, true), (32, true), (33, true), (34, false), (35, false)] (by kernel_rfl) (by kernel_rfl) (by kernel_rfl) (by kernel_rfl) rfl (by intro c a d v w h; cases d <;> exact h) rfl ?_
          simp only [mkOrd, List.filterMap_cons, List.filterMap_nil, List.getElem?_toArray, List.getElem?_cons_zero, List.getElem?_cons_succ, Option.map_some]
          refine o_y (Y_mv) rfl rfl ?_
          refine o_y (Y_mv) rfl rfl ?_
          refine o_y ((by first | exact Y_nil rfl | exact Y_nilF rfl | exact Y_nilM rfl (by assumption) | exact Y_nilM rfl (by intro w k; kernel_rfl))) rfl rfl ?_
          refine o_y (Y_fa 0 rfl Tryz.underlying93 rfl sz3 rfl) rfl rfl ?_
          refine o_y (Y_mv) rfl rfl ?_
          refine o_y ((by first | exact Y_nil rfl | exact Y_nilF rfl | exact Y_nilM rfl (by assumption) | exact Y_nilM rfl (by intro w k; kernel_rfl))) rfl rfl ?_
          refine o_y (Y_fa 1 rfl Tryz.underlying93 rfl sz3 rfl) rfl rfl ?_
          refine o_y (Y_mv) rfl rfl ?_
          refine o_y ((by first | exact Y_nil rfl | exact Y_nilF rfl | exact Y_nilM rfl (by assumption) | exact Y_nilM rfl (by intro w k; kernel_rfl))) rfl rfl ?_
          refine o_y (Y_fa 2 rfl Tryz.underlying93 rfl sz3 rfl) rfl rfl ?_
          refine o_y (Y_mv) rfl rfl ?_
          refine o_y ((by first | exact Y_nil rfl | exact Y_nilF rfl | exact Y_nilM rfl (by assumption) | exact Y_nilM rfl (by intro w k; kernel_rfl))) rfl rfl ?_
          refine o_y (Y_fa 3 rfl Tryz.underlying93 rfl sz3 rfl) rfl rfl ?_
          refine o_y (Y_mv) rfl rfl ?_
          refine o_y ((by first | exact Y_nil rfl | exact Y_nilF rfl | exact Y_nilM rfl (by assumption) | exact Y_nilM rfl (by intro w k; kernel_rfl))) rfl rfl ?_
          refine o_y (Y_fa 4 rfl Tryz.underlying93 rfl sz3 rfl) rfl rfl ?_
          refine o_y (Y_mv) rfl rfl ?_
          refine o_y ((by first | exact Y_nil rfl | exact Y_nilF rfl | exact Y_nilM rfl (by assumption) | exact Y_nilM rfl (by intro w k; kernel_rfl))) rfl rfl ?_
          refine o_y (Y_fa 5 rfl Tryz.underlying93 rfl sz3 rfl) rfl rfl ?_
          refine o_y (Y_mv) rfl rfl ?_
          refine o_y ((by first | exact Y_nil rfl | exact Y_nilF rfl | exact Y_nilM rfl (by assumption) | exact Y_nilM rfl (by intro w k; kernel_rfl))) rfl rfl ?_
          refine o_y (Y_fa 6 rfl Tryz.underlying93 rfl sz3 rfl) rfl rfl ?_
          refine o_y (Y_mv) rfl rfl ?_
          refine o_y ((by first | exact Y_nil rfl | exact Y_nilF rfl | exact Y_nilM rfl (by assumption) | exact Y_nilM rfl (by intro w k; kernel_rfl))) rfl rfl ?_
          refine o_y (Y_fa 7 rfl Tryz.underlying93 rfl sz3 rfl) rfl rfl ?_
          refine o_y (Y_mv) rfl rfl ?_
          refine o_y ((by first | exact Y_nil rfl | exact Y_nilF rfl | exact Y_nilM rfl (by assumption) | exact Y_nilM rfl (by intro w k; kernel_rfl))) rfl rfl ?_
          refine o_y (Y_fa 8 rfl Tryz.underlying93 rfl sz3 rfl) rfl rfl ?_
          refine o_y (Y_mv) rfl rfl ?_
          refine o_y ((by first | exact Y_nil rfl | exact Y_nilF rfl | exact Y_nilM rfl (by assumption) | exact Y_nilM rfl (by intro w k; kernel_rfl))) rfl rfl ?_
          refine o_y (Y_fa 9 rfl Tryz.underlying93 rfl sz3 rfl) rfl rfl ?_
          refine o_y (Y_mv) rfl rfl ?_
          refine o_y ((by first | exact Y_nil rfl | exact Y_nilF rfl | exact Y_nilM rfl (by assumption) | exact Y_nilM rfl (by intro w k; kernel_rfl))) rfl rfl ?_
          refine o_y (Y_fa 10 rfl Tryz.underlying93 rfl sz3 rfl) rfl rfl ?_
          refine o_n (N_bs (xs := [.tmp 77, .tmp 80, .tmp 83, .tmp 86, .tmp 89, .tmp 92, .tmp 95, .tmp 98, .tmp 101, .tmp 104, .tmp 107]) (by repeat (first | exact Gv.nil | apply Gv.const | apply Gv.tmp gt_)) rfl Tryz.underlying156 inf104 rfl (by omega) (by omega) (by first | simp [Value.oneCell'] | (intro v hv; simp at hv; subst hv; rfl))) (fun _ => kp_) rfl rfl (fun b108 _ => ?_)
          refine o_cm [rB b24 v7, eB b62 32 (entF bs i)] (En_call (fun _ => rfl) Tryz.func58 rfl (by kernel_rfl) rfl) ss_ (fun w hH => prsmall_d (k := 406 + i * 11) (m := 11) (j0 := 0 + i * 11) (y := eB b62 32 (entF bs i)) (hs.has hH) hv7 (by decide) (by omega) (hH.at' (x := rB b24 v7) mm_) (hH.at' mm_) (hH.ne_old (x := rB b24 v7) mm_ hs.lt) (hH.nodup2 (x := rB b24 v7) (y := eB b62 32 (entF bs i)) ss_) (hH.ne_old (x := eB b62 32 (entF bs i)) mm_ hs.lt) (hH.at' (x := pB b108 b62 (0 + i * 11) 11) mm_).ro ⟨hH.nodup2 (x := pB b108 b62 (0 + i * 11) 11) (y := rB b24 v7) ss_, hH.nodup2 (x := pB b108 b62 (0 + i * 11) 11) (y := eB b62 32 (entF bs i)) ss_⟩ (by rw [ecells_len, hfl]; omega)) (fun _ _ h => by obtain ⟨rfl, v8, hv8, rfl⟩ := h; exact kp_) rfl rfl ?_
          rintro _ _ ⟨rfl, v8, hv8, rfl⟩
          refine o_nil ?_
          refine q_bn ?_
          refine q_then ?_
          refine c_reg ?_
          refine s_y ad_ rfl rfl ?_
          refine s_y (Y_mv) rfl rfl ?_
          refine s_nil ?_
          rw [entF_put (by omega)]
          refine hK (m - 1) (i + 1, v8) _ _ (by omega) ⟨by simp only; omega, by simp only; rw [show 406 + (i + 1) * 11 = 406 + i * 11 + 11 by omega]; exact hv8⟩ ⟨rfl, trivial⟩ rfl (fun _ h => h.pick ss_)
        · skip
          try simp only [nrm_] at hc17
          refine c_exit ?_
          repeat with_reducible refine q_te ?_
          refine q_exit ?_
          refine q_then ?_
          refine c_seq ?_
          obtain rfl : i = 32 := by omega
          refine c_reg ?_
          refine s_n (N_makeU (n := 40) (u0 := .int .i64 0) rfl rfl Tryz.underlying31 inf98 rfl (by omega) rfl (by omega) (by omega)) rfl rfl (fun b111 _ => ?_)
          refine s_y (Y_fa 6 rfl Tryz.underlying34 rfl sz31 rfl) rfl rfl ?_
          refine s_s (S_st rfl gt_ sz31 (by rfl) up_ (by first | (simp only [Nat.zero_add, Nat.reduceAdd, List.set_cons_succ, List.set_cons_zero]; rfl) | rfl) (by first | (simp; done) | omega)) rfl ?_
          refine s_nil ?_
          refine QL.pick (L' := [wB b5 (wcD (decM bs).seed (decM bs).frame (decM bs).floor (decM bs).state (.slice (some ⟨cg, 0, none⟩) 384 ccap) (.slice (some ⟨b62, 0, none⟩) 32 32) (.slice (some ⟨b111, 0, none⟩) 40 40) (goldD bs 4)), eB b62 32 (entF bs 32), ⟨b111, 98, 4, 40, List.replicate (40 * 4) (iv 0)⟩, rB b24 v7, cB cg ccap (decM bs).cells, wB b2 wz]) ss_ ?_
          rw [← izero b111 40, show List.replicate 40 Itm.zero = itmF bs 0 by simp [itmF]]
          refine q_then ?_
          refine c_seq ?_
          refine c_seq ?_
          refine c_reg ?_
          refine s_y (Y_fa 6 rfl Tryz.underlying34 rfl sz31 rfl) rfl rfl ?_
          refine s_y (yl_ one31) rfl rfl ?_
          refine s_y (Y_len rfl rfl Tryz.underlying31) rfl rfl ?_
          refine s_y (Y_mvC) rfl rfl ?_
          refine s_nil ?_
          refine q_then ?_
          refine c_block ?_
          refine c_loop [9, 10, 116, 117, 118, 119, 120, 121, 122, 123, 124, 125, 126, 127, 128, 129, 130, 131, 132, 133, 134, 135, 136, 137, 138] (fun m (y : Nat × Value) => y.1 + m = 40 ∧ RdV bb o 918 c (758 + y.1 * 4) y.2) (fun y => [(116, iv y.1)]) (fun y => [wB b5 (wcD (decM bs).seed (decM bs).frame (decM bs).floor (decM bs).state (.slice (some ⟨cg, 0, none⟩) 384 ccap) (.slice (some ⟨b62, 0, none⟩) 32 32) (.slice (some ⟨b111, 0, none⟩) 40 40) (goldD bs 4)), eB b62 32 (entF bs 32), iB b111 40 (itmF bs y.1), rB b24 y.2, cB cg ccap (decM bs).cells, wB b2 wz]) (40) ((0, v7)) (⟨rfl, hv7⟩) (by repeat (first | exact trivial | refine ⟨rfl, ?_⟩)) (fun _ h => h.sub sl_) (fun _ => rfl) ?_
          rintro m2 ⟨i2, v9⟩ j2 ⟨hi2, hv9⟩ K hK
          simp only at hi2 hv9 ⊢
          refine c_seq ?_
          refine c_reg ?_
          refine s_y (Y_lss rfl rfl) rfl rfl ?_
          refine s_nil ?_
          refine q_then ?_
          refine c_seq ?_
          first | refine c_cond' rfl (fun hc24 => ?_) (fun hc24 => ?_) | refine c_cond rfl (fun hc24 => ?_) (fun hc24 => ?_)
          · skip
            try simp only [nrm_] at hc24
            refine c_skip ?_
            refine q_then ?_
            refine c_seq ?_
            refine c_block ?_
            refine c_seq ?_
            refine c_reg ?_
            refine s_y (Y_mv) rfl rfl ?_
            refine s_y (Y_as) rfl rfl ?_
            refine s_nil ?_
            refine q_then ?_
            refine c_seq ?_
            refine c_reg ?_
            refine s_y (Y_fa 6 rfl Tryz.underlying34 rfl sz31 rfl) rfl rfl ?_
            refine s_y (yl_ one31) rfl rfl ?_
            refine s_y (Y_mv) rfl rfl ?_
            refine s_y (Y_ia rfl rfl Tryz.underlying31 sz98 rfl (by omega)) rfl rfl ?_
            refine s_y (Y_as) rfl rfl ?_
            refine s_nil ?_
            refine q_then ?_
            have hfl : (itmF bs i2).length = 40 := fill_len (by omega)
            refine c_rordS (L0 := []) sl_ [14] [(0, true), (1, true), (2, true), (3, true), (4, true), (5, true), (6, true), (7, true), (8, true), (9, true), (10, true), (11, true), (12, true), (13, false), (14, false)] (by kernel_rfl) (by kernel_rfl) (by kernel_rfl) (by kernel_rfl) rfl (by intro c a d v w h; cases d <;> exact h) rfl ?_
            simp only [mkOrd, List.filterMap_cons, List.filterMap_nil, List.getElem?_toArray, List.getElem?_cons_zero, List.getElem?_cons_succ, Option.map_some]
            refine o_y (Y_mv) rfl rfl ?_
            refine o_y (Y_mv) rfl rfl ?_
            refine o_y ((by first | exact Y_nil rfl | exact Y_nilF rfl | exact Y_nilM rfl (by assumption) | exact Y_nilM rfl (by intro w k; kernel_rfl))) rfl rfl ?_
            refine o_y (Y_fa 0 rfl Tryz.underlying98 rfl sz3 rfl) rfl rfl ?_
            refine o_y (Y_mv) rfl rfl ?_
            refine o_y ((by first | exact Y_nil rfl | exact Y_nilF rfl | exact Y_nilM rfl (by assumption) | exact Y_nilM rfl (by intro w k; kernel_rfl))) rfl rfl ?_
            refine o_y (Y_fa 1 rfl Tryz.underlying98 rfl sz3 rfl) rfl rfl ?_
            refine o_y (Y_mv) rfl rfl ?_
            refine o_y ((by first | exact Y_nil rfl | exact Y_nilF rfl | exact Y_nilM rfl (by assumption) | exact Y_nilM rfl (by intro w k; kernel_rfl))) rfl rfl ?_
            refine o_y (Y_fa 2 rfl Tryz.underlying98 rfl sz3 rfl) rfl rfl ?_
            refine o_y (Y_mv) rfl rfl ?_
            refine o_y ((by first | exact Y_nil rfl | exact Y_nilF rfl | exact Y_nilM rfl (by assumption) | exact Y_nilM rfl (by intro w k; kernel_rfl))) rfl rfl ?_
            refine o_y (Y_fa 3 rfl Tryz.underlying98 rfl sz3 rfl) rfl rfl ?_
            refine o_n (N_bs (xs := [.tmp 126, .tmp 129, .tmp 132, .tmp 135]) (by repeat (first | exact Gv.nil | apply Gv.const | apply Gv.tmp gt_)) rfl Tryz.underlying156 inf104 rfl (by omega) (by omega) (by first | simp [Value.oneCell'] | (intro v hv; simp at hv; subst hv; rfl))) (fun _ => kp_) rfl rfl (fun b136 _ => ?_)
            refine o_cm [rB b24 v9, iB b111 40 (itmF bs i2)] (En_call (fun _ => rfl) Tryz.func58 rfl (by kernel_rfl) rfl) ss_ (fun w hH => prsmall_d (k := 758 + i2 * 4) (m := 4) (j0 := 0 + i2 * 4) (y := iB b111 40 (itmF bs i2)) (hs.has hH) hv9 (by decide) (by omega) (hH.at' (x := rB b24 v9) mm_) (hH.at' mm_) (hH.ne_old (x := rB b24 v9) mm_ hs.lt) (hH.nodup2 (x := rB b24 v9) (y := iB b111 40 (itmF bs i2)) ss_) (hH.ne_old (x := iB b111 40 (itmF bs i2)) mm_ hs.lt) (hH.at' (x := pB b136 b111 (0 + i2 * 4) 4) mm_).ro ⟨hH.nodup2 (x := pB b136 b111 (0 + i2 * 4) 4) (y := rB b24 v9) ss_, hH.nodup2 (x := pB b136 b111 (0 + i2 * 4) 4) (y := iB b111 40 (itmF bs i2)) ss_⟩ (by rw [icells_len, hfl]; omega)) (fun _ _ h => by obtain ⟨rfl, v8, hv8, rfl⟩ := h; exact kp_) rfl rfl ?_
            rintro _ _ ⟨rfl, v8, hv8, rfl⟩
            refine o_nil ?_
            refine q_bn ?_
            refine q_then ?_
            refine c_reg ?_
            refine s_y ad_ rfl rfl ?_
            refine s_y (Y_mv) rfl rfl ?_
            refine s_nil ?_
            rw [itmF_put (by omega)]
            refine hK (m2 - 1) (i2 + 1, v8) _ _ (by omega) ⟨by simp only; omega, by simp only; rw [show 758 + (i2 + 1) * 4 = 758 + i2 * 4 + 4 by omega]; exact hv8⟩ ⟨rfl, trivial⟩ rfl (fun _ h => h.pick ss_)
          · skip
            try simp only [nrm_] at hc24
            refine c_exit ?_
            repeat with_reducible refine q_te ?_
            refine q_exit ?_
            refine q_then ?_
            refine c_seq ?_
            refine c_seq ?_
            obtain rfl : i2 = 40 := by omega
            have e1 : entF bs 32 = (decM bs).ents := by show _ ++ List.replicate 0 _ = _; rw [List.replicate_zero, List.append_nil]; rfl
            have e2 : itmF bs 40 = (decM bs).items := by show _ ++ List.replicate 0 _ = _; rw [List.replicate_zero, List.append_nil]; rfl
            have l1 : (decM bs).cells.length = 384 := by show ((bs.drop 22).take 384).length = 384; rw [List.length_take, List.length_drop]; omega
            have l2 : (decM bs).ents.length = 32 := by rw [← e1]; exact fill_len (by omega)
            have l3 : (decM bs).items.length = 40 := by rw [← e2]; exact fill_len (by omega)
            rw [e1, e2]
            have hwv : Value.agg (wcD (decM bs).seed (decM bs).frame (decM bs).floor (decM bs).state (.slice (some ⟨cg, 0, none⟩) 384 ccap) (.slice (some ⟨b62, 0, none⟩) 32 32) (.slice (some ⟨b111, 0, none⟩) 40 40) (goldD bs 4)).toArray = .agg (wv (decM bs) ⟨cg, 0, ccap, b62, 0, 32, b111, 0, 40⟩).toArray := wv_eq l1 l2 l3 rfl
            refine c_reg ?_
            refine s_y (Y_loadN (vs := wv (decM bs) ⟨cg, 0, ccap, b62, 0, 32, b111, 0, 40⟩) rfl many34 mm_ (by rfl) (by intro i v h; rw [Nat.zero_add]; unfold wv at h; rw [l1, l2, l3] at h; exact h)) rfl rfl ?_
            refine s_c (En_call (fun _ => rfl) Tryz.func60 rfl (by kernel_rfl) rfl) (fun w hH => pcheck_d (d := decM bs) (s := ⟨cg, 0, ccap, b62, 0, 32, b111, 0, 40⟩) (wAt_of hH mm_ mm_ mm_ (by omega) (by omega) (by omega)) (dec_ok bs)) rfl rfl ?_
            rintro _ _ ⟨rfl, rfl⟩
            refine s_y (Y_as) rfl rfl ?_
            refine s_nil ?_
            refine q_then ?_
            refine c_seq ?_
            refine c_reg ?_
            refine s_y (Y_mv) rfl rfl ?_
            refine s_y (Y_neq rfl rfl) rfl rfl ?_
            refine s_nil ?_
            refine q_then ?_
            first | refine c_cond' rfl (fun hc30 => ?_) (fun hc30 => ?_) | refine c_cond rfl (fun hc30 => ?_) (fun hc30 => ?_)
            · skip
              try simp only [nrm_] at hc30
              refine c_seq ?_
              refine c_reg ?_
              refine s_y (Y_build (cs := [.int .i64 0, .int .i64 0, .int .i64 0, .int .i64 0, .slice none 0 0, .slice none 0 0, .slice none 0 0, .int .i64 0, .int .i64 0, .int .i64 0, .int .i64 0]) (by repeat (first | exact Gp.nil | apply Gp.const | apply Gp.tmp gt_)) (bld34 _ _ (by kernel_rfl))) rfl rfl ?_
              refine s_y (Y_mv) rfl rfl ?_
              refine s_s (S_storeA (vs := wz) rfl rfl sz34 (by rfl) (by rfl) up_ (by rfl)) rfl ?_
              refine s_y (Y_as) rfl rfl ?_
              refine s_nil ?_
              refine q_then ?_
              refine c_ret ?_
              refine q_ret2c rfl rfl many34 rfl mm_ (by rfl) (L' := []) sl_ (.inl ⟨_, hc30, rfl, rfl, by rw [if_neg (by omega), if_neg (by omega)]⟩)
            · skip
              try simp only [nrm_] at hc30
              refine c_skip ?_
              refine q_then ?_
              refine c_seq ?_
              refine c_reg ?_
              refine s_y (ya_ many34) rfl rfl ?_
              refine s_s (S_storeA (vs := (wcD (decM bs).seed (decM bs).frame (decM bs).floor (decM bs).state (.slice (some ⟨cg, 0, none⟩) 384 ccap) (.slice (some ⟨b62, 0, none⟩) 32 32) (.slice (some ⟨b111, 0, none⟩) 40 40) (goldD bs 4))) rfl rfl sz34 (by rfl) (by rfl) up_ (by rfl)) rfl ?_
              refine s_y (Y_asC) rfl rfl ?_
              refine s_nil ?_
              refine q_then ?_
              refine c_ret ?_
              refine QL.pick (L' := [wB b2 (wcD (decM bs).seed (decM bs).frame (decM bs).floor (decM bs).state (.slice (some ⟨cg, 0, none⟩) 384 ccap) (.slice (some ⟨b62, 0, none⟩) 32 32) (.slice (some ⟨b111, 0, none⟩) 40 40) (goldD bs 4)), cB cg ccap (decM bs).cells, eB b62 32 (decM bs).ents, iB b111 40 (decM bs).items]) ss_ ?_
              refine q_ret2c rfl rfl many34 rfl mm_ (by rfl) (L' := [cB cg ccap (decM bs).cells, eB b62 32 (decM bs).ents, iB b111 40 (decM bs).items]) sl_ (.inr ⟨hl, by simpa using hc30, cg, ccap, b62, 32, b111, 40, by rw [hwv]; rfl, rfl, by omega, by omega, by omega⟩)
end
end Go.Proofs.YtcogbkkdccohfaaGreat
namespace Go.Ad
def Ent.nums (e : Ent) : List Int := [e.kind, e.gen, e.seat, e.x, e.y, e.hp, e.max, e.atk, e.df, e.poison, e.stun]
theorem Ent.nums_inj {e f : Ent} (h : e.nums = f.nums) : e = f := by
  cases e; cases f
  simp only [Ent.nums, List.cons.injEq, and_true] at h
  obtain ⟨rfl, rfl, rfl, rfl, rfl, rfl, rfl, rfl, rfl, rfl, rfl⟩ := h
  rfl
def Itm.nums (x : Itm) : List Int := [x.kind, x.whr, x.a, x.b]
theorem Itm.nums_inj {e f : Itm} (h : e.nums = f.nums) : e = f := by
  cases e; cases f
  simp only [Itm.nums, List.cons.injEq, and_true] at h
  obtain ⟨rfl, rfl, rfl, rfl⟩ := h
  rfl
def Four.nums (g : Four) : List Int := [g.a, g.b, g.c, g.d]
theorem Four.nums_inj {e f : Four} (h : e.nums = f.nums) : e = f := by
  cases e; cases f
  simp only [Four.nums, List.cons.injEq, and_true] at h
  obtain ⟨rfl, rfl, rfl, rfl⟩ := h
  rfl
theorem bytes_injL {xs ys : List UInt8} (h : (⟨xs.toArray⟩ : ByteArray).toList = (⟨ys.toArray⟩ : ByteArray).toList) : xs = ys := by
  rw [Lib.toList_data, Lib.toList_data] at h
  simpa using h
theorem take_next {α : Type} {l m : List α} {i : Nat} {a b : α} (h : l[i]? = some a) (k : m[i]? = some b) (hab : a = b) (ht : l.take i = m.take i) : l.take (i + 1) = m.take (i + 1) := by
  obtain ⟨hi, rfl⟩ := List.getElem?_eq_some_iff.1 h
  obtain ⟨hj, rfl⟩ := List.getElem?_eq_some_iff.1 k
  rw [← List.take_append_getElem hi, ← List.take_append_getElem hj, ht, hab]
structure WAtV (W : World) (d : Wd) (cv ev iv' : Value) : Prop where
  c : SlV W 1 cv d.cells.length (d.cells.map bv)
  e : SlV W 11 ev d.ents.length (ecells d.ents)
  i : SlV W 4 iv' d.items.length (icells d.items)
theorem WAt.v {W : World} {d : Wd} {s : Ws} (h : WAt W d s) : WAtV W d (.slice (some ⟨s.cb, s.co, none⟩) d.cells.length s.cc) (.slice (some ⟨s.eb, s.eo, none⟩) d.ents.length s.ec) (.slice (some ⟨s.ib, s.io, none⟩) d.items.length s.ic) := ⟨.some h.c, .some h.e, .some h.i⟩
theorem SlV.bytes {W : World} {v : Value} {n : Nat} {xs : List UInt8} (h : SlV W 1 v n (xs.map bv)) : ∃ a c, v = .slice a n c ∧ BytesAt W a n xs := by
  have hl := h.len
  rw [List.length_map, Nat.mul_one] at hl
  generalize hcs : xs.map bv = cs at h
  cases h with
  | nil =>
    cases xs with
    | nil => exact ⟨_, _, rfl, ⟨rfl, .inl rfl⟩⟩
    | cons a r => simp at hl
  | zero =>
    cases xs with
    | nil => exact ⟨_, _, rfl, ⟨rfl, .inl rfl⟩⟩
    | cons a r => simp at hl
  | @some b o n c cs h => subst hcs; exact ⟨_, _, rfl, ⟨hl, .inr ⟨b, o, rfl, h.lt, h.ro⟩⟩⟩
end Go.Ad
namespace Go.Proofs.YtcogbkkdccohfaaGreat
open Go.RowKit Go.Ad Go.Maps
set_option linter.unusedVariables false
set_option linter.unusedSimpArgs false
abbrev wcV (d : Wd) (x y z : Value) : List Value := wcD d.seed d.frame d.floor d.state x y z d.gold
theorem gold_subV {d : Wd} {x y z : Value} : ∀ i v, ([iv d.gold.a, iv d.gold.b, iv d.gold.c, iv d.gold.d] : List Value)[i]? = some v → (wcV d x y z)[0 + 7 + i]? = some v
  | 0, v, h => h
  | 1, v, h => h
  | 2, v, h => h
  | 3, v, h => h
  | n + 4, v, h => by simp at h
section
variable {W : World}
set_option maxRecDepth 100000 in
set_option maxHeartbeats 1600000 in
theorem lsame_d {d1 d2 : Wd} {c1 e1 i1 c2 e2 i2 : Value} (h1 : WAtV W d1 c1 e1 i1) (h2 : WAtV W d2 c2 e2 i2) : Does Tryz.prog 21 [.agg (wcV d1 c1 e1 i1).toArray, .agg (wcV d2 c2 e2 i2).toArray] W [] (fun v L => (∃ q : Bool, v = .bool q ∧ (q = true ↔ d1 = d2)) ∧ L = []) := by
  obtain ⟨a1, k1, rfl, hb1⟩ := h1.c.bytes
  obtain ⟨a2, k2, rfl, hb2⟩ := h2.c.bytes
  have hle1 := h1.e.le
  have hle2 := h2.e.le
  have hli1 := h1.i.le
  have hli2 := h2.i.le
  simp only [maxLen] at hle1 hle2 hli1 hli2
  refine enter Tryz.func21 rfl rfl rfl (Has.start _) ?_
  refine c_seq ?_
  refine c_reg ?_
  refine s_n (N_box (cs := wcV d1 (.slice a1 d1.cells.length k1) e1 i1) rfl) rfl rfl (fun b2 _ => ?_)
  refine s_n (N_box (cs := wcV d2 (.slice a2 d2.cells.length k2) e2 i2) rfl) rfl rfl (fun b3 _ => ?_)
  refine s_y (Y_asC) rfl rfl ?_
  refine s_nil ?_
  refine q_then ?_
  refine c_seq ?_
  refine c_seq ?_
  refine c_reg ?_
  refine s_y (Y_fa 0 rfl Tryz.underlying34 rfl sz2 rfl) rfl rfl ?_
  refine s_y (yl_ one2) rfl rfl ?_
  refine s_y (Y_fa 0 rfl Tryz.underlying34 rfl sz2 rfl) rfl rfl ?_
  refine s_y (yl_ one2) rfl rfl ?_
  refine s_y (Y_neq rfl rfl) rfl rfl ?_
  refine s_y (Y_mv) rfl rfl ?_
  apply s_or 6 [12, 13, 14, 15, 16, 17, 18] 18 (g := 12) rfl rfl
  · intro ht6 hm
    try simp only [nrm_] at ht6
    first | refine s_y (Y_fa 1 rfl Tryz.underlying34 rfl sz3 rfl) rfl rfl ?_ | refine s_pass rfl rfl ?_
    first | refine s_y (yl_ one3) rfl rfl ?_ | refine s_pass rfl rfl ?_
    first | refine s_y (Y_fa 1 rfl Tryz.underlying34 rfl sz3 rfl) rfl rfl ?_ | refine s_pass rfl rfl ?_
    first | refine s_y (yl_ one3) rfl rfl ?_ | refine s_pass rfl rfl ?_
    first | refine s_y (Y_neq rfl rfl) rfl rfl ?_ | refine s_pass rfl rfl ?_
    refine s_y (Y_pk rfl Gx.const (Gx.tmp gt_)) rfl rfl ?_
    first | exact hm _ ⟨rfl, trivial⟩ rfl | exact QL.sub sl_ (hm _ ⟨rfl, trivial⟩ rfl)
  · intro ht6 hm
    iterate 5 refine s_pass rfl rfl ?_
    refine s_y (Y_pk rfl Gx.const (Gx.tmp gt_)) rfl rfl ?_
    exact hm _ ⟨rfl, trivial⟩ rfl
  intro j18
  refine s_y (Y_mv) rfl rfl ?_
  apply s_or 6 [19, 20, 21, 22, 23, 24, 25] 25 (g := 19) rfl rfl
  · intro ht13 hm
    try simp only [nrm_] at ht13
    first | refine s_y (Y_fa 2 rfl Tryz.underlying34 rfl sz3 rfl) rfl rfl ?_ | refine s_pass rfl rfl ?_
    first | refine s_y (yl_ one3) rfl rfl ?_ | refine s_pass rfl rfl ?_
    first | refine s_y (Y_fa 2 rfl Tryz.underlying34 rfl sz3 rfl) rfl rfl ?_ | refine s_pass rfl rfl ?_
    first | refine s_y (yl_ one3) rfl rfl ?_ | refine s_pass rfl rfl ?_
    first | refine s_y (Y_neq rfl rfl) rfl rfl ?_ | refine s_pass rfl rfl ?_
    refine s_y (Y_pk rfl Gx.const (Gx.tmp gt_)) rfl rfl ?_
    first | exact hm _ ⟨rfl, trivial⟩ rfl | exact QL.sub sl_ (hm _ ⟨rfl, trivial⟩ rfl)
  · intro ht13 hm
    iterate 5 refine s_pass rfl rfl ?_
    refine s_y (Y_pk rfl Gx.const (Gx.tmp gt_)) rfl rfl ?_
    exact hm _ ⟨rfl, trivial⟩ rfl
  intro j25
  refine s_y (Y_mv) rfl rfl ?_
  apply s_or 6 [26, 27, 28, 29, 30, 31, 32] 32 (g := 26) rfl rfl
  · intro ht20 hm
    try simp only [nrm_] at ht20
    first | refine s_y (Y_fa 3 rfl Tryz.underlying34 rfl sz3 rfl) rfl rfl ?_ | refine s_pass rfl rfl ?_
    first | refine s_y (yl_ one3) rfl rfl ?_ | refine s_pass rfl rfl ?_
    first | refine s_y (Y_fa 3 rfl Tryz.underlying34 rfl sz3 rfl) rfl rfl ?_ | refine s_pass rfl rfl ?_
    first | refine s_y (yl_ one3) rfl rfl ?_ | refine s_pass rfl rfl ?_
    first | refine s_y (Y_neq rfl rfl) rfl rfl ?_ | refine s_pass rfl rfl ?_
    refine s_y (Y_pk rfl Gx.const (Gx.tmp gt_)) rfl rfl ?_
    first | exact hm _ ⟨rfl, trivial⟩ rfl | exact QL.sub sl_ (hm _ ⟨rfl, trivial⟩ rfl)
  · intro ht20 hm
    iterate 5 refine s_pass rfl rfl ?_
    refine s_y (Y_pk rfl Gx.const (Gx.tmp gt_)) rfl rfl ?_
    exact hm _ ⟨rfl, trivial⟩ rfl
  intro j32
  refine s_y (Y_mv) rfl rfl ?_
  apply s_or 6 [33, 34, 35, 36, 37, 38, 39] 39 (g := 33) rfl rfl
  · intro ht27 hm
    try simp only [nrm_] at ht27
    first | refine s_y (Y_fa 7 rfl Tryz.underlying34 rfl sz32 rfl) rfl rfl ?_ | refine s_pass rfl rfl ?_
    first | refine s_y (Y_loadN (vs := [iv d1.gold.a, iv d1.gold.b, iv d1.gold.c, iv d1.gold.d]) rfl many32 mm_ (by rfl) gold_subV) rfl rfl ?_ | refine s_pass rfl rfl ?_
    first | refine s_y (Y_fa 7 rfl Tryz.underlying34 rfl sz32 rfl) rfl rfl ?_ | refine s_pass rfl rfl ?_
    first | refine s_y (Y_loadN (vs := [iv d2.gold.a, iv d2.gold.b, iv d2.gold.c, iv d2.gold.d]) rfl many32 mm_ (by rfl) gold_subV) rfl rfl ?_ | refine s_pass rfl rfl ?_
    first | refine s_y (Y_neF (zs := d1.gold.nums) (zs' := d2.gold.nums) rfl rfl flat32 rfl rfl) rfl rfl ?_ | refine s_pass rfl rfl ?_
    refine s_y (Y_pk rfl Gx.const (Gx.tmp gt_)) rfl rfl ?_
    first | exact hm _ ⟨rfl, trivial⟩ rfl | exact QL.sub sl_ (hm _ ⟨rfl, trivial⟩ rfl)
  · intro ht27 hm
    iterate 5 refine s_pass rfl rfl ?_
    refine s_y (Y_pk rfl Gx.const (Gx.tmp gt_)) rfl rfl ?_
    exact hm _ ⟨rfl, trivial⟩ rfl
  intro j39
  refine s_y (Y_mv) rfl rfl ?_
  apply s_or 8 [40, 41, 42, 43, 44, 45, 46, 47, 48] 48 (g := 40) rfl rfl
  · intro ht34 hm
    try simp only [nrm_] at ht34
    first | refine s_y (Y_fa 4 rfl Tryz.underlying34 rfl sz24 rfl) rfl rfl ?_ | refine s_pass rfl rfl ?_
    first | refine s_y (yl_ one24) rfl rfl ?_ | refine s_pass rfl rfl ?_
    first | refine s_y (Y_bs rfl Tryz.underlying24 Tryz.underlying5 Tryz.underlying9 (fun w hH => hb1.has (by simp) hH)) rfl rfl ?_ | refine s_pass rfl rfl ?_
    first | refine s_y (Y_fa 4 rfl Tryz.underlying34 rfl sz24 rfl) rfl rfl ?_ | refine s_pass rfl rfl ?_
    first | refine s_y (yl_ one24) rfl rfl ?_ | refine s_pass rfl rfl ?_
    first | refine s_y (Y_bs rfl Tryz.underlying24 Tryz.underlying5 Tryz.underlying9 (fun w hH => hb2.has (by simp) hH)) rfl rfl ?_ | refine s_pass rfl rfl ?_
    first | refine s_y (Y_neS rfl rfl) rfl rfl ?_ | refine s_pass rfl rfl ?_
    refine s_y (Y_pk rfl Gx.const (Gx.tmp gt_)) rfl rfl ?_
    first | exact hm _ ⟨rfl, trivial⟩ rfl | exact QL.sub sl_ (hm _ ⟨rfl, trivial⟩ rfl)
  · intro ht34 hm
    iterate 7 refine s_pass rfl rfl ?_
    refine s_y (Y_pk rfl Gx.const (Gx.tmp gt_)) rfl rfl ?_
    exact hm _ ⟨rfl, trivial⟩ rfl
  intro j48
  refine s_y (Y_mv) rfl rfl ?_
  apply s_or 8 [49, 50, 51, 52, 53, 54, 55, 56, 57] 57 (g := 49) rfl rfl
  · intro ht43 hm
    try simp only [nrm_] at ht43
    first | refine s_y (Y_fa 5 rfl Tryz.underlying34 rfl sz30 rfl) rfl rfl ?_ | refine s_pass rfl rfl ?_
    first | refine s_y (yl_ one30) rfl rfl ?_ | refine s_pass rfl rfl ?_
    first | refine s_y (Y_lenV h1.e rfl rfl Tryz.underlying30) rfl rfl ?_ | refine s_pass rfl rfl ?_
    first | refine s_y (Y_fa 5 rfl Tryz.underlying34 rfl sz30 rfl) rfl rfl ?_ | refine s_pass rfl rfl ?_
    first | refine s_y (yl_ one30) rfl rfl ?_ | refine s_pass rfl rfl ?_
    first | refine s_y (Y_lenV h2.e rfl rfl Tryz.underlying30) rfl rfl ?_ | refine s_pass rfl rfl ?_
    first | refine s_y (Y_neq rfl rfl) rfl rfl ?_ | refine s_pass rfl rfl ?_
    refine s_y (Y_pk rfl Gx.const (Gx.tmp gt_)) rfl rfl ?_
    first | exact hm _ ⟨rfl, trivial⟩ rfl | exact QL.sub sl_ (hm _ ⟨rfl, trivial⟩ rfl)
  · intro ht43 hm
    iterate 7 refine s_pass rfl rfl ?_
    refine s_y (Y_pk rfl Gx.const (Gx.tmp gt_)) rfl rfl ?_
    exact hm _ ⟨rfl, trivial⟩ rfl
  intro j57
  refine s_y (Y_mv) rfl rfl ?_
  apply s_or 8 [58, 59, 60, 61, 62, 63, 64, 65, 66] 66 (g := 58) rfl rfl
  · intro ht52 hm
    try simp only [nrm_] at ht52
    first | refine s_y (Y_fa 6 rfl Tryz.underlying34 rfl sz31 rfl) rfl rfl ?_ | refine s_pass rfl rfl ?_
    first | refine s_y (yl_ one31) rfl rfl ?_ | refine s_pass rfl rfl ?_
    first | refine s_y (Y_lenV h1.i rfl rfl Tryz.underlying31) rfl rfl ?_ | refine s_pass rfl rfl ?_
    first | refine s_y (Y_fa 6 rfl Tryz.underlying34 rfl sz31 rfl) rfl rfl ?_ | refine s_pass rfl rfl ?_
    first | refine s_y (yl_ one31) rfl rfl ?_ | refine s_pass rfl rfl ?_
    first | refine s_y (Y_lenV h2.i rfl rfl Tryz.underlying31) rfl rfl ?_ | refine s_pass rfl rfl ?_
    first | refine s_y (Y_neq rfl rfl) rfl rfl ?_ | refine s_pass rfl rfl ?_
    refine s_y (Y_pk rfl Gx.const (Gx.tmp gt_)) rfl rfl ?_
    first | exact hm _ ⟨rfl, trivial⟩ rfl | exact QL.sub sl_ (hm _ ⟨rfl, trivial⟩ rfl)
  · intro ht52 hm
    iterate 7 refine s_pass rfl rfl ?_
    refine s_y (Y_pk rfl Gx.const (Gx.tmp gt_)) rfl rfl ?_
    exact hm _ ⟨rfl, trivial⟩ rfl
  intro j66
  refine s_nil ?_
  refine q_then ?_
  first | refine c_cond' rfl (fun hc1 => ?_) (fun hc1 => ?_) | refine c_cond rfl (fun hc1 => ?_) (fun hc1 => ?_)
  · skip
    try simp only [nrm_] at hc1
    refine c_seq ?_
    refine c_reg ?_
    refine s_y (Y_asC) rfl rfl ?_
    refine s_nil ?_
    refine q_then ?_
    refine c_ret ?_
    refine q_retG1 rfl gt_ (L' := _) sl_ (⟨⟨false, rfl, by
        refine ⟨fun h => absurd h (by decide), fun h => ?_⟩
        subst h
        simp at hc1⟩, rfl⟩)
  · skip
    try simp only [nrm_] at hc1
    refine c_skip ?_
    refine q_then ?_
    refine c_seq ?_
    refine c_seq ?_
    obtain ⟨⟨⟨⟨⟨⟨⟨hs1, hs2⟩, hs3⟩, hs4⟩, hs5⟩, hs6⟩, hs7⟩, hs8⟩ := hc1
    have hg := Four.nums_inj hs5
    have hcc := bytes_injL hs6
    have hel : d1.ents.length = d2.ents.length := by omega
    have hil : d1.items.length = d2.items.length := by omega
    refine c_reg ?_
    refine s_y (Y_asC) rfl rfl ?_
    refine s_nil ?_
    refine q_then ?_
    refine c_block ?_
    refine c_loop [4, 5, 67, 68, 69, 70, 71, 72, 73, 74, 75, 76, 77, 78, 79, 80, 81, 82, 83, 84] (fun m i => i + m = d1.ents.length ∧ d1.ents.take i = d2.ents.take i) (fun i => [(5, iv i)]) (fun _ => [wB b3 (wcV d2 (.slice a2 d2.cells.length k2) e2 i2), wB b2 (wcV d1 (.slice a1 d1.cells.length k1) e1 i1)]) (d1.ents.length) (0) (⟨by omega, by simp⟩) (by repeat (first | exact trivial | refine ⟨rfl, ?_⟩)) (fun _ h => h.sub sl_) (fun _ => rfl) ?_
    rintro m i j ⟨hi, ht⟩ K hK
    refine c_seq ?_
    refine c_seq ?_
    refine c_reg ?_
    refine s_y (Y_mv) rfl rfl ?_
    refine s_y (Y_fa 5 rfl Tryz.underlying34 rfl sz30 rfl) rfl rfl ?_
    refine s_y (yl_ one30) rfl rfl ?_
    refine s_y (Y_lenV h1.e rfl rfl Tryz.underlying30) rfl rfl ?_
    refine s_y (Y_lss rfl rfl) rfl rfl ?_
    refine s_nil ?_
    refine q_then ?_
    first | refine c_cond' rfl (fun hc4 => ?_) (fun hc4 => ?_) | refine c_cond rfl (fun hc4 => ?_) (fun hc4 => ?_)
    · skip
      try simp only [nrm_] at hc4
      refine c_skip ?_
      refine q_then ?_
      refine c_seq ?_
      refine c_block ?_
      refine c_seq ?_
      obtain ⟨x, hx⟩ := take_lt (show i < d1.ents.length by omega)
      obtain ⟨y, hy⟩ := take_lt (show i < d2.ents.length by omega)
      obtain ⟨p1, q1, r1, hev1, hse1⟩ := h1.e.some_of (by omega)
      obtain ⟨p2, q2, r2, hev2, hse2⟩ := h2.e.some_of (by omega)
      have hr := hse1.at' Ent.len hx
      have hr2 := hse2.at' Ent.len hy
      rw [hev1, hev2]
      refine c_rord [] [(0, true), (1, true), (2, true), (3, true), (4, true), (5, true), (6, true), (7, true), (8, true), (9, true), (10, true)] (by kernel_rfl) (by kernel_rfl) (by kernel_rfl) (by kernel_rfl) rfl (by intro c a d v w h; cases d <;> exact h) rfl ?_
      simp only [mkOrd, List.filterMap_cons, List.filterMap_nil, List.getElem?_toArray, List.getElem?_cons_zero, List.getElem?_cons_succ, Option.map_some]
      refine o_y (Y_fa 5 rfl Tryz.underlying34 rfl sz30 rfl) rfl rfl ?_
      refine o_y (yl_ one30) rfl rfl ?_
      refine o_y (Y_mv) rfl rfl ?_
      refine o_y (Y_ia rfl rfl Tryz.underlying30 sz93 rfl (by omega)) rfl rfl ?_
      refine o_y (Y_loadNR (vs := x.cells) rfl many93 hr rfl) rfl rfl ?_
      refine o_y (Y_fa 5 rfl Tryz.underlying34 rfl sz30 rfl) rfl rfl ?_
      refine o_y (yl_ one30) rfl rfl ?_
      refine o_y (Y_mv) rfl rfl ?_
      refine o_y (Y_ia rfl rfl Tryz.underlying30 sz93 rfl (by omega)) rfl rfl ?_
      refine o_y (Y_loadNR (vs := y.cells) rfl many93 hr2 rfl) rfl rfl ?_
      refine o_y (Y_neF (zs := x.nums) (zs' := y.nums) rfl rfl flat93 rfl rfl) rfl rfl ?_
      refine o_nil ?_
      refine q_then ?_
      first | refine c_cond' rfl (fun hc6 => ?_) (fun hc6 => ?_) | refine c_cond rfl (fun hc6 => ?_) (fun hc6 => ?_)
      · skip
        try simp only [nrm_] at hc6
        refine c_seq ?_
        refine c_reg ?_
        refine s_y (Y_asC) rfl rfl ?_
        refine s_nil ?_
        refine q_then ?_
        refine c_ret ?_
        refine q_retG1 rfl gt_ (L' := _) sl_ (⟨⟨false, rfl, by
            refine ⟨fun h => absurd h (by decide), fun h => ?_⟩
            subst h
            rw [hx] at hy
            cases hy
            exact absurd rfl hc6⟩, rfl⟩)
      · skip
        try simp only [nrm_] at hc6
        refine c_skip ?_
        refine q_bn ?_
        refine q_then ?_
        refine c_reg ?_
        refine s_y (Y_mv) rfl rfl ?_
        refine s_y ad_ rfl rfl ?_
        refine s_y (Y_as) rfl rfl ?_
        refine s_nil ?_
        rw [← hev1, ← hev2]
        refine hK (m - 1) (i + 1) _ _ (by omega) ⟨by omega, take_next hx hy (Ent.nums_inj hc6) ht⟩ ⟨rfl, trivial⟩ rfl (fun _ h => h)
    · skip
      try simp only [nrm_] at hc4
      refine c_exit ?_
      repeat with_reducible refine q_te ?_
      refine q_exit ?_
      refine q_then ?_
      refine c_seq ?_
      refine c_seq ?_
      rw [show i = d1.ents.length by omega, List.take_length, hel, List.take_length] at ht
      refine c_reg ?_
      refine s_y (Y_asC) rfl rfl ?_
      refine s_nil ?_
      refine q_then ?_
      refine c_block ?_
      refine c_loop [4, 6, 85, 86, 87, 88, 89, 90, 91, 92, 93, 94, 95, 96, 97, 98, 99, 100, 101, 102] (fun m i => i + m = d1.items.length ∧ d1.items.take i = d2.items.take i) (fun i => [(6, iv i)]) (fun _ => [wB b3 (wcV d2 (.slice a2 d2.cells.length k2) e2 i2), wB b2 (wcV d1 (.slice a1 d1.cells.length k1) e1 i1)]) (d1.items.length) (0) (⟨by omega, by simp⟩) (by repeat (first | exact trivial | refine ⟨rfl, ?_⟩)) (fun _ h => h.sub sl_) (fun _ => rfl) ?_
      rintro m2 i3 j2 ⟨hi2, ht2⟩ K hK
      refine c_seq ?_
      refine c_seq ?_
      refine c_reg ?_
      refine s_y (Y_mv) rfl rfl ?_
      refine s_y (Y_fa 6 rfl Tryz.underlying34 rfl sz31 rfl) rfl rfl ?_
      refine s_y (yl_ one31) rfl rfl ?_
      refine s_y (Y_lenV h1.i rfl rfl Tryz.underlying31) rfl rfl ?_
      refine s_y (Y_lss rfl rfl) rfl rfl ?_
      refine s_nil ?_
      refine q_then ?_
      first | refine c_cond' rfl (fun hc9 => ?_) (fun hc9 => ?_) | refine c_cond rfl (fun hc9 => ?_) (fun hc9 => ?_)
      · skip
        try simp only [nrm_] at hc9
        refine c_skip ?_
        refine q_then ?_
        refine c_seq ?_
        refine c_block ?_
        refine c_seq ?_
        obtain ⟨x, hx⟩ := take_lt (show i3 < d1.items.length by omega)
        obtain ⟨y, hy⟩ := take_lt (show i3 < d2.items.length by omega)
        obtain ⟨p1, q1, r1, hev1, hse1⟩ := h1.i.some_of (by omega)
        obtain ⟨p2, q2, r2, hev2, hse2⟩ := h2.i.some_of (by omega)
        have hr := hse1.at' Itm.len hx
        have hr2 := hse2.at' Itm.len hy
        rw [hev1, hev2]
        refine c_rord [] [(0, true), (1, true), (2, true), (3, true), (4, true), (5, true), (6, true), (7, true), (8, true), (9, true), (10, true)] (by kernel_rfl) (by kernel_rfl) (by kernel_rfl) (by kernel_rfl) rfl (by intro c a d v w h; cases d <;> exact h) rfl ?_
        simp only [mkOrd, List.filterMap_cons, List.filterMap_nil, List.getElem?_toArray, List.getElem?_cons_zero, List.getElem?_cons_succ, Option.map_some]
        refine o_y (Y_fa 6 rfl Tryz.underlying34 rfl sz31 rfl) rfl rfl ?_
        refine o_y (yl_ one31) rfl rfl ?_
        refine o_y (Y_mv) rfl rfl ?_
        refine o_y (Y_ia rfl rfl Tryz.underlying31 sz98 rfl (by omega)) rfl rfl ?_
        refine o_y (Y_loadNR (vs := x.cells) rfl many98 hr rfl) rfl rfl ?_
        refine o_y (Y_fa 6 rfl Tryz.underlying34 rfl sz31 rfl) rfl rfl ?_
        refine o_y (yl_ one31) rfl rfl ?_
        refine o_y (Y_mv) rfl rfl ?_
        refine o_y (Y_ia rfl rfl Tryz.underlying31 sz98 rfl (by omega)) rfl rfl ?_
        refine o_y (Y_loadNR (vs := y.cells) rfl many98 hr2 rfl) rfl rfl ?_
        refine o_y (Y_neF (zs := x.nums) (zs' := y.nums) rfl rfl flat98 rfl rfl) rfl rfl ?_
        refine o_nil ?_
        refine q_then ?_
        first | refine c_cond' rfl (fun hc11 => ?_) (fun hc11 => ?_) | refine c_cond rfl (fun hc11 => ?_) (fun hc11 => ?_)
        · skip
          try simp only [nrm_] at hc11
          refine c_seq ?_
          refine c_reg ?_
          refine s_y (Y_asC) rfl rfl ?_
          refine s_nil ?_
          refine q_then ?_
          refine c_ret ?_
          refine q_retG1 rfl gt_ (L' := _) sl_ (⟨⟨false, rfl, by
              refine ⟨fun h => absurd h (by decide), fun h => ?_⟩
              subst h
              rw [hx] at hy
              cases hy
              exact absurd rfl hc11⟩, rfl⟩)
        · skip
          try simp only [nrm_] at hc11
          refine c_skip ?_
          refine q_bn ?_
          refine q_then ?_
          refine c_reg ?_
          refine s_y (Y_mv) rfl rfl ?_
          refine s_y ad_ rfl rfl ?_
          refine s_y (Y_as) rfl rfl ?_
          refine s_nil ?_
          rw [← hev1, ← hev2]
          refine hK (m2 - 1) (i3 + 1) _ _ (by omega) ⟨by omega, take_next hx hy (Itm.nums_inj hc11) ht2⟩ ⟨rfl, trivial⟩ rfl (fun _ h => h)
      · skip
        try simp only [nrm_] at hc9
        refine c_exit ?_
        repeat with_reducible refine q_te ?_
        refine q_exit ?_
        refine q_then ?_
        refine c_seq ?_
        refine c_reg ?_
        refine s_y (Y_asC) rfl rfl ?_
        refine s_nil ?_
        refine q_then ?_
        refine c_ret ?_
        refine q_retG1 rfl gt_ (L' := _) sl_ (⟨⟨true, rfl, by
            refine ⟨fun _ => ?_, fun _ => rfl⟩
            rw [show i3 = d1.items.length by omega, List.take_length, hil, List.take_length] at ht2
            cases d1; cases d2
            simp only at *
            simp only [Wd.mk.injEq]
            exact ⟨by omega, by omega, by omega, by omega, hcc, ht, ht2, hg⟩⟩, rfl⟩)
end
end Go.Proofs.YtcogbkkdccohfaaGreat
namespace Go.Ad
theorem tmod_cases (a : Int) {n : Int} (hn : 0 < n) : (a.tmod n < 0 ∧ a.tmod n + n = a % n) ∨ (0 ≤ a.tmod n ∧ a.tmod n = a % n) := by
  have h1 := Int.emod_nonneg a (show n ≠ 0 by omega)
  have h2 := Int.emod_lt_of_pos a hn
  rw [Int.tmod_eq_emod]
  split
  · right; omega
  · rename_i h
    have h3 : a % n ≠ 0 := fun h4 => h (.inr (Int.dvd_of_emod_eq_zero h4))
    left; omega
theorem Does.sub {P : Program} {f : FuncId} {args : List Value} {W : World} {M : List Nat} {Post Post' : Value → List Bk → Prop} (h : Does P f args W M Post) (hp : ∀ v L, Post v L → ∃ L2, List.Sublist L2 L ∧ Post' v L2) : Does P f args W M Post' :=
  Calls.mono h fun _ _ ⟨v, L, h1, h2, h3⟩ => by
    obtain ⟨L2, h4, h5⟩ := hp v L h3
    exact ⟨v, L2, h1, h2.sub h4, h5⟩
end Go.Ad
namespace Go.Proofs.YtcogbkkdccohfaaGreat
open Go.RowKit Go.Ad Go.Maps
set_option linter.unusedVariables false
set_option linter.unusedSimpArgs false
end Go.Proofs.YtcogbkkdccohfaaGreat
namespace Go.Ad
set_option linter.unusedVariables false
set_option linter.unusedSimpArgs false
theorem byteAt_put {cells : List UInt8} {i k : Nat} {x : UInt8} : byteAt (cells.set i x) k = if i = k ∧ i < cells.length then (x.toNat : Int) else byteAt cells k := by
  unfold byteAt
  rw [List.getD_eq_getElem?_getD, List.getD_eq_getElem?_getD, List.getElem?_set]
  by_cases hik : i = k
  · subst hik
    by_cases h : i < cells.length
    · simp [h]
    · simp [h]
  · simp [hik]
theorem cnt_set (k : UInt8) : ∀ (l : List UInt8) (i : Nat) (v : UInt8), i < l.length → cnt k (l.set i v) + (if byteAt l i = (k.toNat : Int) then 1 else 0) = cnt k l + (if v = k then 1 else 0)
  | a :: r, 0, v, _ => by
    have : byteAt (a :: r) 0 = (a.toNat : Int) := rfl
    rw [this]
    have hk : ((a.toNat : Int) = (k.toNat : Int)) = (a = k) := by
      rw [eq_iff_iff]
      constructor
      · intro h; exact UInt8.toNat_inj.1 (by omega)
      · rintro rfl; rfl
    simp only [hk]
    unfold cnt
    rw [List.set_cons_zero, List.filter_cons, List.filter_cons]
    by_cases h1 : v = k <;> by_cases h2 : a = k <;> simp [h1, h2]
  | a :: r, i + 1, v, h => by
    have ih := cnt_set k r i v (by simpa using h)
    have : byteAt (a :: r) (i + 1) = byteAt r i := rfl
    rw [this]
    unfold cnt at ih ⊢
    rw [List.set_cons_succ, List.filter_cons, List.filter_cons]
    by_cases h1 : (a == k) = true
    · rw [if_pos h1, if_pos h1, List.length_cons, List.length_cons]; omega
    · rw [if_neg h1, if_neg h1]; exact ih
def low (n : Int) (cells : List UInt8) : Prop := ∀ k, byteAt cells k ≤ n
theorem low_set {n : Int} {cells : List UInt8} {i : Nat} {x : UInt8} (h : low n cells) (hx : (x.toNat : Int) ≤ n) : low n (cells.set i x) := fun k => by
  rw [byteAt_put]
  split
  · exact hx
  · exact h k
theorem low_mono {n m : Int} {cells : List UInt8} (h : low n cells) (hm : n ≤ m) : low m cells := fun k => Int.le_trans (h k) hm
theorem low_any {cells : List UInt8} (h : low 5 cells) : cells.any (fun x => decide (5 < x.toNat)) = false := by
  rw [List.any_eq_false]
  intro x hx
  obtain ⟨i, hi⟩ := List.mem_iff_getElem?.1 hx
  have := h i
  rw [byteAt_of hi] at this
  simp; omega
theorem cnt_none {k : UInt8} {cells : List UInt8} (h : ∀ i, byteAt cells i ≠ (k.toNat : Int)) : cnt k cells = 0 := by
  unfold cnt
  rw [List.length_eq_zero_iff, List.filter_eq_nil_iff]
  intro x hx hk
  obtain ⟨i, hi⟩ := List.mem_iff_getElem?.1 hx
  apply h i
  rw [byteAt_of hi, eq_of_beq hk]
theorem fillRow_low : ∀ (n : Nat) (cells : List UInt8) (k : Nat), low 1 cells → low 1 (fillRow cells k n)
  | 0, _, _, h => h
  | n + 1, cells, k, h => fillRow_low n _ _ (low_set h (by decide))
theorem fillRect_low : ∀ (n : Nat) (cells : List UInt8) (k w : Nat), low 1 cells → low 1 (fillRect cells k w n)
  | 0, _, _, _, h => h
  | n + 1, cells, k, w, h => fillRect_low n _ _ _ (fillRow_low _ _ _ h)
def stays (a b : List UInt8) : Prop := a.length = b.length ∧ ∀ k, byteAt a k = 1 → byteAt b k = 1
theorem stays_refl (a : List UInt8) : stays a a := ⟨rfl, fun _ h => h⟩
theorem stays_trans {a b c : List UInt8} (h : stays a b) (k : stays b c) : stays a c := ⟨h.1.trans k.1, fun i hi => k.2 i (h.2 i hi)⟩
theorem stays_one (a : List UInt8) (i : Nat) : stays a (a.set i 1) := ⟨by simp, fun k h => by
  rw [byteAt_put]; split; rfl; exact h⟩
theorem fillRow_stays : ∀ (n : Nat) (cells : List UInt8) (k : Nat), stays cells (fillRow cells k n)
  | 0, _, _ => stays_refl _
  | n + 1, cells, k => stays_trans (stays_one cells k) (fillRow_stays n _ _)
theorem fillRow_one : ∀ (n : Nat) (cells : List UInt8) (k c : Nat), c < n → k + c < cells.length → byteAt (fillRow cells k n) (k + c) = 1
  | n + 1, cells, k, 0, _, hk => (fillRow_stays n _ _).2 _ (by rw [byteAt_put, if_pos ⟨rfl, by omega⟩]; rfl)
  | n + 1, cells, k, c + 1, hc, hk => by
    have := fillRow_one n (cells.set k 1) (k + 1) c (by omega) (by rw [List.length_set]; omega)
    rw [fillRow, show k + (c + 1) = k + 1 + c by omega]
    exact this
theorem fillRect_stays : ∀ (n : Nat) (cells : List UInt8) (k w : Nat), stays cells (fillRect cells k w n)
  | 0, _, _, _ => stays_refl _
  | n + 1, cells, k, w => stays_trans (fillRow_stays w cells k) (fillRect_stays n _ _ _)
theorem fillRect_one : ∀ (n : Nat) (cells : List UInt8) (k w r c : Nat), r < n → c < w → k + 24 * r + c < cells.length → byteAt (fillRect cells k w n) (k + 24 * r + c) = 1
  | n + 1, cells, k, w, 0, c, _, hc, hk => (fillRect_stays n _ _ _).2 _ (by rw [Nat.mul_zero, Nat.add_zero]; exact fillRow_one w cells k c hc (by omega))
  | n + 1, cells, k, w, r + 1, c, hr, hc, hk => by
    have := fillRect_one n (fillRow cells k w) (k + 24) w r c (by omega) hc (by rw [← (fillRow_stays w cells k).1]; omega)
    rw [fillRect, show k + 24 * (r + 1) + c = k + 24 + 24 * r + c by omega]
    exact this
theorem digRooms_low (seed floor : Int) : ∀ i, low 1 (digRooms seed floor i)
  | 0 => fun k => by
    unfold byteAt digRooms
    rw [List.getD_eq_getElem?_getD, List.getElem?_replicate]
    split <;> decide
  | i + 1 => fillRect_low _ _ _ _ (digRooms_low seed floor i)
theorem digRooms_stays (seed floor : Int) (i : Nat) : ∀ n, stays (digRooms seed floor i) (digRooms seed floor (i + n))
  | 0 => stays_refl _
  | n + 1 => stays_trans (digRooms_stays seed floor i n) (fillRect_stays _ _ _ _)
def holds1 (a b : List UInt8) : Prop := a.length = b.length ∧ (∀ k, byteAt a k = 1 → byteAt b k = 1) ∧ (low 2 a → low 2 b)
theorem h1_refl (a : List UInt8) : holds1 a a := ⟨rfl, fun _ h => h, fun h => h⟩
theorem h1_trans {a b c : List UInt8} (h : holds1 a b) (k : holds1 b c) : holds1 a c := ⟨h.1.trans k.1, fun i hi => k.2.1 i (h.2.1 i hi), fun hl => k.2.2 (h.2.2 hl)⟩
theorem digM_h1 (cells : List UInt8) (x y : Int) (d : Bool) : holds1 cells (digM cells x y d).1 := by
  unfold digM
  split
  · exact h1_refl _
  · rename_i h0
    refine ⟨by simp, fun k hk => ?_, fun hl => low_set hl (by cases d <;> decide)⟩
    rw [byteAt_put]
    split
    · rename_i hc
      rw [hc.1] at h0
      omega
    · exact hk
theorem corrM_h1 (tx ty : Int) (first : Bool) : ∀ (n : Nat) (cells : List UInt8) (d : Bool) (x y : Int), holds1 cells (corrM tx ty first n cells d x y)
  | 0, _, _, _, _ => h1_refl _
  | n + 1, cells, d, x, y => by
    rw [corrM]
    split
    · exact h1_trans (digM_h1 _ _ _ _) (corrM_h1 tx ty first n _ _ _ _)
    · exact h1_refl _
theorem corrsM_h1 (seed floor : Int) (cells : List UInt8) : ∀ i, holds1 cells (corrsM seed floor cells i)
  | 0 => h1_refl _
  | i + 1 => h1_trans (corrsM_h1 seed floor cells i) (h1_trans (digM_h1 _ _ _ _) (corrM_h1 _ _ _ _ _ _ _ _))
end Go.Ad
namespace Go.Proofs.YtcogbkkdccohfaaGreat
open Go.RowKit Go.Ad Go.Maps
set_option linter.unusedVariables false
set_option linter.unusedSimpArgs false
theorem tryD_keep {cells : List UInt8} {bl : List Bool} {i : Nat} {st : List Int × List Nat} {d k : Nat} (h : 0 ≤ getI st.1 k) : getI (tryD cells bl i st d).1 k = getI st.1 k := by
  unfold tryD
  split
  · rename_i ho
    simp only [opens, Bool.and_eq_true, decide_eq_true_eq] at ho
    unfold getI at *
    rw [List.getD_eq_getElem?_getD, List.getElem?_set]
    by_cases hk : ((nbM i d).2 * 24 + (nbM i d).1).toNat = k
    · have := ho.1.1.2
      rw [hk] at this
      omega
    · rw [if_neg hk, ← List.getD_eq_getElem?_getD]
  · rfl
theorem tries_keep {cells : List UInt8} {bl : List Bool} {i : Nat} {st : List Int × List Nat} {k : Nat} (h : 0 ≤ getI st.1 k) : ∀ d, getI (triesM cells bl i st d).1 k = getI st.1 k
  | 0 => rfl
  | d + 1 => by
    have ih := tries_keep (cells := cells) (bl := bl) (i := i) h d
    rw [triesM, tryD_keep (by rw [ih]; exact h), ih]
theorem bfs_keep {cells : List UInt8} {bl : List Bool} {k : Nat} : ∀ (n q : Nat) (st : List Int × List Nat), 0 ≤ getI st.1 k → getI (bfs cells bl n q st) k = getI st.1 k
  | 0, _, _, _ => rfl
  | n + 1, q, st, h => by
    rw [bfs]
    cases st.2[q]? with
    | none => rfl
    | some i =>
      simp only
      have := tries_keep (cells := cells) (bl := bl) (i := i) h 4
      rw [bfs_keep n (q + 1) _ (by rw [this]; exact h), this]
theorem far_max (f : List Int) (up : Nat) : ∀ n, getI f up ≤ getI f (farM f up n) ∧ ∀ i, i < n → getI f i ≤ getI f (farM f up n)
  | 0 => ⟨Int.le_refl _, fun i h => by omega⟩
  | n + 1 => by
    obtain ⟨h1, h2⟩ := far_max f up n
    rw [farM]
    split
    · rename_i hg
      refine ⟨by omega, fun i hi => ?_⟩
      by_cases he : i = n
      · subst he; exact Int.le_refl _
      · have := h2 i (by omega); omega
    · rename_i hg
      refine ⟨h1, fun i hi => ?_⟩
      by_cases he : i = n
      · subst he; omega
      · exact h2 i (by omega)
theorem walk1 {cells : List UInt8} {x y : Int} {k : Nat} (hx : inM x y = true) (hk : y * 24 + x = (k : Int)) (hl : cells.length = 384) (hb : 1 ≤ byteAt cells k ∧ byteAt cells k ≤ 5) : walkM (atM cells x y) = true := by
  simp only [inM, decide_eq_true_eq] at hx
  unfold atM
  rw [if_pos ⟨by simp only [inM, decide_eq_true_eq]; omega, by omega⟩, hk, Int.toNat_natCast]
  unfold walkM
  rw [decide_eq_true_eq]; exact hb
theorem east_arith {mx my rx ry rw_ rh_ : Int} {k0 w h : Nat} (hr : 3 ≤ rw_ ∧ rw_ ≤ 7 ∧ 2 ≤ rh_ ∧ rh_ ≤ 5 ∧ 1 ≤ rx ∧ rx + rw_ ≤ 23 ∧ 1 ≤ ry ∧ ry + rh_ ≤ 15) (hmx : mx = rx + rw_ / 2) (hmy : my = ry + rh_ / 2) (h0 : (k0 : Int) = ry * 24 + rx) (h1 : (w : Int) = rw_) (h2 : (h : Int) = rh_) :
    ∃ k : Nat, (k : Int) = my * 24 + (mx + 1) ∧ k < 384 ∧ k = k0 + 24 * (h / 2) + (w / 2 + 1) ∧ h / 2 < h ∧ w / 2 + 1 < w := by
  refine ⟨k0 + 24 * (h / 2) + (w / 2 + 1), ?_, ?_, rfl, ?_, ?_⟩ <;> omega
theorem east_floor (seed floor : Int) : ∃ k : Nat, (k : Int) = midY seed floor 0 * 24 + (midX seed floor 0 + 1) ∧ k < 384 ∧ byteAt (corrsM seed floor (digRooms seed floor 6) 5) k = 1 := by
  obtain ⟨k0, w, h, h0, h1, h2⟩ := room_nat seed floor 0
  obtain ⟨k, hk1, hk2, hk3, hk4, hk5⟩ := east_arith (room_rng seed floor 0) (show midX seed floor 0 = roomX seed floor 0 + roomW seed floor 0 / 2 from rfl) (show midY seed floor 0 = roomY seed floor 0 + roomH seed floor 0 / 2 from rfl) h0 h1 h2
  refine ⟨k, hk1, hk2, ?_⟩
  refine (corrsM_h1 seed floor _ 5).2.1 _ ?_
  refine (digRooms_stays seed floor 1 5).2 _ ?_
  have c0 : ((0 : Nat) : Int) = 0 := rfl
  have hd := dig_start (seed := seed) (floor := floor) (i := 0) (k0 := k0) (rw := w) (rh := h) (by rw [c0]; exact h0) (by rw [c0]; exact h1) (by rw [c0]; exact h2)
  rw [Nat.mul_zero, Nat.add_zero] at hd
  rw [← hd]
  have hl := digRooms_len seed floor 0
  have := fillRect_one h (digRooms seed floor 0) k0 w (h / 2) (w / 2 + 1) hk4 hk5 (by rw [hl, ← hk3]; exact hk2)
  rw [hk3]
  exact this
theorem corr_low (seed floor : Int) : low 2 (corrsM seed floor (digRooms seed floor 6) 5) := (corrsM_h1 seed floor _ 5).2.2 (low_mono (digRooms_low seed floor 6) (by decide))
theorem base_at (seed floor : Int) (k : Nat) : byteAt (baseM seed floor) k = if upM seed floor = k then 3 else byteAt (corrsM seed floor (digRooms seed floor 6) 5) k := by
  have hu := (up_eq seed floor).2
  rw [baseM, byteAt_put]
  by_cases h : upM seed floor = k
  · rw [if_pos ⟨h, by rw [corrsM_len, digRooms_len]; exact hu⟩, if_pos h]; rfl
  · rw [if_neg (fun q => h q.1), if_neg h]
theorem far_up (seed floor : Int) : farMM seed floor ≠ upM seed floor := by
  obtain ⟨hue, hu⟩ := up_eq seed floor
  have hm := mid_rng seed floor 0
  obtain ⟨k, hk, hk384, hk1⟩ := east_floor seed floor
  obtain ⟨mx, hmx⟩ : ∃ q, midX seed floor 0 = q := ⟨_, rfl⟩
  obtain ⟨my, hmy⟩ : ∃ q, midY seed floor 0 = q := ⟨_, rfl⟩
  rw [hmx, hmy] at hue hm hk
  have hbl := base_len seed floor
  have hb : ∀ q, byteAt (baseM seed floor) q = if upM seed floor = q then 3 else byteAt (corrsM seed floor (digRooms seed floor 6) 5) q := base_at seed floor
  obtain ⟨up, hup⟩ : ∃ q, upM seed floor = q := ⟨_, rfl⟩
  obtain ⟨bs, hbs⟩ : ∃ q, baseM seed floor = q := ⟨_, rfl⟩
  have hdist : distM seed floor = fieldM bs [] [(up : Int)] := by rw [← hup, ← hbs]; rfl
  rw [hup] at hue hu hb
  rw [hbs] at hbl hb
  have hne : up ≠ k := by omega
  have hwu : walkM (atM bs ((up : Int) % 24) ((up : Int) / 24)) = true := walk1 (k := up) (by simp only [inM, decide_eq_true_eq]; omega) (by omega) hbl (by rw [hb, if_pos rfl]; omega)
  have hwk : walkM (atM bs (mx + 1) (my)) = true := walk1 (k := k) (by simp only [inM, decide_eq_true_eq]; omega) (by omega) hbl (by rw [hb, if_neg hne, hk1]; omega)
  have hmarks : marksM bs [(up : Int)] = (List.replicate 384 (-1 : Int)).set up 0 := by
    rw [marksM, List.foldl_cons, List.foldl_nil, markM, if_pos ⟨by omega, by omega, hwu⟩, Int.toNat_natCast]
  have hg : ∀ q, q < 384 → getI (marksM bs [(up : Int)]) q = if up = q then 0 else -1 := by
    intro q hq
    rw [hmarks, getI_set (by rw [List.length_replicate]; exact hu)]
    split
    · rfl
    · unfold getI
      rw [List.getD_eq_getElem?_getD, List.getElem?_replicate, if_pos hq]; rfl
  have hz : (zerosM (marksM bs [(up : Int)]) 384)[0]? = some up := by
    have : ∀ n, up < n → n ≤ 384 → zerosM (marksM bs [(up : Int)]) n = [up] := by
      intro n h1 h2
      have key : ∀ n, n ≤ 384 → zerosM (marksM bs [(up : Int)]) n = if up < n then [up] else [] := by
        intro n
        induction n with
        | zero => intro _; rfl
        | succ n ih =>
          intro hn
          unfold zerosM at *
          rw [List.range_succ, List.filter_append, ih (by omega), List.filter_cons, List.filter_nil, hg n (by omega)]
          by_cases hq : up = n
          · subst hq; simp
          · by_cases hq2 : up < n
            · simp [hq, hq2, show up < n + 1 by omega]
            · simp [hq, hq2, show ¬ up < n + 1 by omega]
      rw [key n h2, if_pos h1]
    rw [this 384 hu (Nat.le_refl _)]; rfl
  obtain ⟨f0, hf0⟩ : ∃ q, marksM bs [(up : Int)] = q := ⟨_, rfl⟩
  rw [hf0] at hg hz
  have hf0l : f0.length = 384 := by rw [← hf0, hmarks, List.length_set, List.length_replicate]
  have hfar := far_max (distM seed floor) up 384
  have hd0 : getI (distM seed floor) up = 0 := by
    rw [hdist, fieldM, bfs_keep _ _ _ (by simp only [hf0]; rw [hg up hu, if_pos rfl]; exact Int.le_refl _)]
    simp only [hf0]
    rw [hg up hu, if_pos rfl]
  have hd1 : getI (distM seed floor) k = 1 := by
    rw [hdist, fieldM, hf0]
    obtain ⟨row, hrow⟩ : ∃ q, zerosM f0 384 = q := ⟨_, rfl⟩
    rw [hrow] at hz ⊢
    rw [bfs]
    simp only [hz]
    have hn0 : nbM up 0 = (mx, my - 1) := by
      unfold nbM
      simp only [Prod.mk.injEq]
      omega
    have hn1 : nbM up 1 = (mx + 1, my) := by
      unfold nbM
      simp only [Prod.mk.injEq]
      omega
    obtain ⟨st1, hst1⟩ : ∃ q, tryD bs [] up (f0, row) 0 = q := ⟨_, rfl⟩
    have hl1 : st1.1.length = 384 := by rw [← hst1, tryD_len]; exact hf0l
    have hup1 : getI st1.1 up = 0 := by
      rw [← hst1, tryD_keep (by simp only; rw [hg up hu, if_pos rfl]; exact Int.le_refl _)]
      simp only; rw [hg up hu, if_pos rfl]
    have hk1' : getI st1.1 k = -1 := by
      rw [← hst1]
      unfold tryD
      split
      · simp only [hn0]
        rename_i ho
        simp only [opens, hn0, Bool.and_eq_true, inM, decide_eq_true_eq] at ho
        rw [getI_set (by rw [hf0l]; omega), if_neg (by omega), hg k hk384, if_neg hne]
      · simp only; rw [hg k hk384, if_neg hne]
    have hst2 : triesM bs [] up (f0, row) 2 = (st1.1.set k 1, st1.2 ++ [k]) := by
      show tryD bs [] up (tryD bs [] up (f0, row) 0) 1 = _
      rw [hst1]
      unfold tryD
      rw [if_pos (by
        unfold opens
        rw [hn1]
        simp only [Bool.and_eq_true, decide_eq_true_eq]
        refine ⟨⟨⟨by simp only [inM, decide_eq_true_eq]; omega, ?_⟩, hwk⟩, by simp⟩
        rw [show (my * 24 + (mx + 1)).toNat = k by omega, hk1']
        decide)]
      rw [hn1]
      simp only
      rw [show (my * 24 + (mx + 1)).toNat = k by omega, hup1]
      rfl
    have h2k : getI (triesM bs [] up (f0, row) 2).1 k = 1 := by
      rw [hst2]; simp only; rw [getI_set (by rw [hl1]; exact hk384), if_pos rfl]
    have h4k : getI (triesM bs [] up (f0, row) 4).1 k = 1 := by
      show getI (tryD bs [] up (tryD bs [] up (triesM bs [] up (f0, row) 2) 2) 3).1 k = 1
      have h3 := tryD_keep (cells := bs) (bl := []) (i := up) (st := triesM bs [] up (f0, row) 2) (d := 2) (k := k) (by rw [h2k]; decide)
      rw [tryD_keep (by rw [h3, h2k]; decide), h3, h2k]
    rw [bfs_keep _ _ _ (by rw [h4k]; decide), h4k]
  have h3 := hfar.2 k hk384
  intro he
  rw [hup] at he
  have h4 : farM (distM seed floor) up 384 = up := by
    have : farMM seed floor = farM (distM seed floor) (upM seed floor) 384 := rfl
    rw [hup] at this
    rw [← this]; exact he
  rw [h4, hd0, hd1] at h3
  omega
end Go.Proofs.YtcogbkkdccohfaaGreat
namespace Go.Proofs.YtcogbkkdccohfaaGreat
open Go.RowKit Go.Ad Go.Maps
set_option linter.unusedVariables false
set_option linter.unusedSimpArgs false
theorem shop_one {cells : List UInt8} {f : List Int} {v : Int} : ∀ {n k : Nat}, shopM cells f v n = some k → byteAt cells k = 1
  | 0, _, h => by cases h
  | n + 1, k, h => by
    rw [shopM] at h
    cases hs : shopM cells f v n with
    | some q => rw [hs] at h; simp only [Option.some.injEq] at h; subst h; exact shop_one hs
    | none =>
      rw [hs] at h
      simp only at h
      split at h
      · rename_i hc; cases h; exact hc.1
      · cases h
theorem shopAt_one {seed floor : Int} {k : Nat} (h : shopAt seed floor = some k) : byteAt (downM seed floor) k = 1 := by
  unfold shopAt at h
  split at h
  · exact shop_one h
  · cases h
theorem cells_pure {c b dn : List UInt8} {o : Option Nat} {up far : Nat} (hlow : low 2 c) (hcl : c.length = 384) (hu : up < 384) (hfl : far < 384) (hfu : far ≠ up) (hba : ∀ k, byteAt b k = if up = k then 3 else byteAt c k) (hbl : b.length = 384) (hdl : dn.length = 384) (hbase : b = c.set up 3) (hdown : dn = b.set far 4) (hsh : ∀ {k}, o = some k → byteAt dn k = 1) : low 5 (shopC dn o) ∧ cnt 3 (shopC dn o) = 1 ∧ cnt 4 (shopC dn o) = 1 := by
  have hb3 : cnt 3 b = 1 := by
    have h := cnt_set 3 c up 3 (by omega)
    rw [← hbase, if_pos rfl, cnt_none (k := 3) (cells := c) (fun i hi => by have := hlow i; rw [hi] at this; exact absurd this (by decide))] at h
    have := hlow up
    have e : ((3 : UInt8).toNat : Int) = 3 := rfl
    rw [if_neg (by omega)] at h
    omega
  have hb4 : cnt 4 b = 0 := cnt_none (fun i => by
    have := hlow i
    have e : ((4 : UInt8).toNat : Int) = 4 := rfl
    rw [hba]; split <;> omega)
  have hbfar : byteAt b far ≤ 2 := by rw [hba, if_neg (fun h => hfu h.symm)]; exact hlow far
  have hblow : low 3 b := fun k => by rw [hba]; split; exact Int.le_refl _; have := hlow k; omega
  have hd3 : cnt 3 dn = 1 := by
    have h := cnt_set 3 b far 4 (by omega)
    have e : ((3 : UInt8).toNat : Int) = 3 := rfl
    rw [← hdown, if_neg (by omega), if_neg (by decide)] at h
    omega
  have hd4 : cnt 4 dn = 1 := by
    have h := cnt_set 4 b far 4 (by omega)
    have e : ((4 : UInt8).toNat : Int) = 4 := rfl
    rw [← hdown, if_neg (by omega), if_pos rfl] at h
    omega
  have hdlow : low 5 dn := by rw [hdown]; exact low_set (low_mono hblow (by decide)) (by decide)
  cases o with
  | none => exact ⟨hdlow, hd3, hd4⟩
  | some k =>
    have hk1 := hsh rfl
    show low 5 (dn.set k 5) ∧ cnt 3 (dn.set k 5) = 1 ∧ cnt 4 (dn.set k 5) = 1
    by_cases hk : k < dn.length
    · refine ⟨low_set hdlow (by decide), ?_, ?_⟩
      · have h := cnt_set 3 dn k 5 hk
        have e : ((3 : UInt8).toNat : Int) = 3 := rfl
        rw [if_neg (by omega), if_neg (by decide)] at h
        omega
      · have h := cnt_set 4 dn k 5 hk
        have e : ((4 : UInt8).toNat : Int) = 4 := rfl
        rw [if_neg (by omega), if_neg (by decide)] at h
        omega
    · rw [List.set_eq_of_length_le (by omega)]; exact ⟨hdlow, hd3, hd4⟩
theorem make_cells (seed floor : Int) : low 5 (makeM seed floor).cells ∧ cnt 3 (makeM seed floor).cells = 1 ∧ cnt 4 (makeM seed floor).cells = 1 :=
  cells_pure (corr_low seed floor) (by rw [corrsM_len, digRooms_len]) (up_eq seed floor).2 (far_lt (distM seed floor) (up_eq seed floor).2 384 (Nat.le_refl _)) (far_up seed floor) (base_at seed floor) (base_len seed floor) (down_len seed floor) rfl rfl (fun h => shopAt_one h)
theorem fnd_neg {α : Type} {p : α → Bool} : ∀ {l : List α} {k : Nat}, fnd p l k < 0 → ∀ a ∈ l, p a = false
  | b :: r, k, h, a, ha => by
    rw [fnd] at h
    cases hb : p b
    · rw [hb] at h
      rcases List.mem_cons.1 ha with rfl | ha
      · exact hb
      · exact fnd_neg (by simpa using h) a ha
    · rw [hb] at h; simp at h; omega
theorem fnd_none {α : Type} {p : α → Bool} : ∀ {l : List α} {k : Nat}, (∀ a ∈ l, p a = false) → fnd p l k < 0
  | [], k, _ => by simp [fnd]
  | b :: r, k, h => by
    rw [fnd, h b (List.Mem.head _)]
    simpa using fnd_none (k := k + 1) (fun a ha => h a (List.Mem.tail _ ha))
structure Mon (cells : List UInt8) (e : Ent) : Prop where
  kind : 2 ≤ e.kind ∧ e.kind ≤ 4
  walk : walkM (atM cells e.x e.y) = true
  rest : e.seat = 0 ∧ e.hp = e.max ∧ 1 ≤ e.max ∧ e.max = (statsM e.kind).max ∧ e.atk = (statsM e.kind).atk ∧ e.df = (statsM e.kind).df ∧ e.poison = 0 ∧ e.stun = 0
  gen : 0 ≤ e.gen ∧ e.gen ≤ 255
theorem stats_self {k : Int} (h : 2 ≤ k ∧ k ≤ 4) : (statsM k).kind = k ∧ (statsM k).seat = 0 ∧ (statsM k).hp = (statsM k).max ∧ 1 ≤ (statsM k).max ∧ (statsM k).poison = 0 ∧ (statsM k).stun = 0 ∧ (statsM k).gen = 0 := by
  rcases (show k = 2 ∨ k = 3 ∨ k = 4 by omega) with rfl | rfl | rfl <;> decide
theorem foes_mon {seed floor : Int} (hfl : 1 ≤ floor ∧ floor ≤ 3) {cells : List UInt8} (hc : cells.length = 384) {f : List Int} : ∀ (n k : Nat) (used : List Bool) (l : List Ent), (∀ e ∈ l, Mon cells e) → ∀ e ∈ foesM seed floor cells f n k used l, Mon cells e
  | 0, _, _, l, h => h
  | n + 1, k, used, l, h => by
    rw [foesM]
    simp only
    split
    · exact h
    · rename_i hp
      obtain ⟨z, hz, hz1, hz2, _⟩ := pick_nat hp
      have hg := gd_rng (n := min (floor + 1) 3) (by omega) seed floor (16 + k) 1
      obtain ⟨q, hq⟩ : ∃ q, 2 + gd seed floor (16 + k) 1 (min (floor + 1) 3) = q := ⟨_, rfl⟩
      have hqr : 2 ≤ q ∧ q ≤ 4 := by omega
      rw [hz, hq]
      refine foes_mon hfl hc n (k + 1) _ _ (fun e he => ?_)
      rcases List.mem_append.1 he with he | he
      · exact h e he
      · obtain rfl := List.mem_singleton.1 he
        obtain ⟨s1, s2, s3, s4, s5, s6, s7⟩ := stats_self hqr
        have hin : inM ((z : Int) % 24) ((z : Int) / 24) = true := by simp only [inM, decide_eq_true_eq]; omega
        refine ⟨by simp only; rw [s1]; exact hqr, walk1 (x := (z : Int) % 24) (y := (z : Int) / 24) (k := z) hin (by omega) hc (by rw [hz2]; omega), by simp only; rw [s1]; exact ⟨s2, s3, s4, rfl, rfl, rfl, s5, s6⟩, by simp only; rw [s7]; omega⟩
structure EInv (cells : List UInt8) (l : List Ent) : Prop where
  row : ∀ (i : Nat) (e : Ent), l[i]? = some e → (e = { Ent.zero with gen := e.gen } ∧ 0 ≤ e.gen ∧ e.gen ≤ 255) ∨ Mon cells e
  dis : ∀ (i j : Nat) (e f : Ent), i < j → l[i]? = some e → l[j]? = some f → e.kind ≠ 0 → f.kind ≠ 0 → ¬ (e.x = f.x ∧ e.y = f.y)
theorem genOf_rng {g : Int} (h : 0 ≤ g ∧ g ≤ 255) : 0 ≤ genOf g ∧ genOf g ≤ 255 := by
  unfold genOf
  rw [i64_id (by omega), Int.tmod_eq_emod_of_nonneg (by omega)]
  omega
theorem EInv.stock {cells : List UInt8} {l : List Ent} (h : EInv cells l) {e : Ent} (he : Mon cells e) : EInv cells (stockOne l e) := by
  unfold stockOne
  split
  · rename_i hat
    unfold spawnedM
    split
    · rename_i hc
      have hno := fnd_neg hat
      obtain ⟨r, hr⟩ : ∃ r : Nat, freeRow l = (r : Int) := ⟨(freeRow l).toNat, by omega⟩
      rw [hr, Int.toNat_natCast]
      have hrl : ∃ a, l[r]? = some a ∧ a.kind = 0 := by
        unfold freeRow at hr
        rcases fnd_lt (p := fun e : Ent => decide (e.kind = 0)) (l.take 32) 0 with h1 | ⟨j, a, h1, h2, h3⟩
        · omega
        · obtain rfl : r = j := by omega
          refine ⟨a, ?_, of_decide_eq_true h3⟩
          have := (List.getElem?_eq_some_iff.1 h2).1
          rw [List.length_take] at this
          rw [List.getElem?_take_of_lt (by omega)] at h2
          exact h2
      obtain ⟨a, ha, ha0⟩ := hrl
      have hgen : 0 ≤ a.gen ∧ a.gen ≤ 255 := by
        rcases h.row r a ha with h1 | h1
        · exact h1.2
        · exact h1.gen
      have hgo := genOf_rng hgen
      have hd : l.getD r Ent.zero = a := by rw [List.getD_eq_getElem?_getD, ha]; rfl
      rw [hd]
      obtain ⟨e2, he2⟩ : ∃ q : Ent, ({ e with gen := genOf a.gen } : Ent) = q := ⟨_, rfl⟩
      have hm2 : Mon cells e2 := by rw [← he2]; exact ⟨he.kind, he.walk, he.rest, hgo⟩
      have hx2 : e2.x = e.x ∧ e2.y = e.y := by rw [← he2]; exact ⟨rfl, rfl⟩
      rw [he2]
      have hrlen := (List.getElem?_eq_some_iff.1 ha).1
      refine ⟨fun i f hf => ?_, fun i j f g hij hf hg hf0 hg0 => ?_⟩
      · rw [List.getElem?_set] at hf
        by_cases hi : r = i
        · rw [if_pos hi, if_pos hrlen] at hf
          obtain rfl : e2 = f := by simpa using hf
          exact .inr hm2
        · rw [if_neg hi] at hf
          exact h.row i f hf
      · rw [List.getElem?_set] at hf hg
        by_cases hi : r = i
        · rw [if_pos hi, if_pos hrlen] at hf
          rw [if_neg (by omega)] at hg
          obtain rfl : e2 = f := by simpa using hf
          have := hno g (List.mem_of_getElem? hg)
          simp only [decide_eq_false_iff_not] at this
          rintro ⟨q1, q2⟩
          exact this ⟨hg0, by omega, by omega⟩
        · rw [if_neg hi] at hf
          by_cases hj : r = j
          · rw [if_pos hj, if_pos hrlen] at hg
            obtain rfl : e2 = g := by simpa using hg
            have := hno f (List.mem_of_getElem? hf)
            simp only [decide_eq_false_iff_not] at this
            rintro ⟨q1, q2⟩
            exact this ⟨hf0, by omega, by omega⟩
          · rw [if_neg hj] at hg
            exact h.dis i j f g hij hf hg hf0 hg0
    · exact h
  · exact h
theorem EInv.stocks {cells : List UInt8} : ∀ (es l : List Ent), EInv cells l → (∀ e ∈ es, Mon cells e) → EInv cells (stockEnts l es)
  | [], l, h, _ => h
  | e :: r, l, h, he => EInv.stocks r (stockOne l e) (h.stock (he e (List.Mem.head _))) (fun a ha => he a (List.Mem.tail _ ha))
theorem EInv.zero (cells : List UInt8) (n : Nat) : EInv cells (List.replicate n Ent.zero) := by
  refine ⟨fun i e h => ?_, fun i j e f hij he hf h0 => ?_⟩
  · obtain rfl := List.eq_of_mem_replicate (List.mem_of_getElem? h)
    exact .inl ⟨rfl, by decide, by decide⟩
  · obtain rfl := List.eq_of_mem_replicate (List.mem_of_getElem? he)
    exact absurd rfl h0
theorem EInv.ents {d : Wd} (h : EInv d.cells d.ents) : ∀ (l : List Ent) (i : Nat), (∀ (j : Nat) (e : Ent), l[j]? = some e → d.ents[i + j]? = some e) → entsM d l i = 0
  | [], _, _ => rfl
  | e :: r, i, hl => by
    have he : d.ents[i]? = some e := hl 0 e rfl
    have h0 : entM d i e = 0 := by
      unfold entM
      rcases h.row i e he with ⟨h1, h2⟩ | hm
      · have hk : e.kind = 0 := by rw [h1]
        rw [if_neg (by rw [hk]; decide), if_pos]
        unfold fitsM btw
        rw [if_pos hk]
        simp only [Bool.and_eq_true, decide_eq_true_eq]
        refine ⟨h2, ?_⟩
        rw [h1]
        exact ⟨rfl, rfl, rfl, rfl, rfl, rfl, rfl, rfl, rfl⟩
      · have hk := hm.kind
        obtain ⟨r1, r2, r3, r4, r5, r6, r7, r8⟩ := hm.rest
        rw [if_neg (by unfold btw; simp; omega), if_pos]
        rw [fits_iff (by omega)]
        refine ⟨hm.gen, hm.walk, ?_, by omega, r4, r5, r6, by omega, by omega, fun h1 => by omega, fun _ => r1⟩
        refine fnd_none (fun a ha => ?_)
        rw [decide_eq_false_iff_not]
        rintro ⟨q1, q2, q3⟩
        obtain ⟨j, hj⟩ := List.mem_iff_getElem?.1 ha
        have hji : j < i := by have := (List.getElem?_eq_some_iff.1 hj).1; rw [List.length_take] at this; omega
        rw [List.getElem?_take_of_lt hji] at hj
        exact h.dis j i a e hji hj he q1 (by omega) ⟨q2, q3⟩
    rw [entsM, h0, if_neg (fun k => k rfl)]
    exact EInv.ents h r (i + 1) (fun j f hf => by rw [show i + 1 + j = i + (j + 1) by omega]; exact hl (j + 1) f hf)
end Go.Proofs.YtcogbkkdccohfaaGreat
namespace Go.Ad
set_option linter.unusedVariables false
set_option linter.unusedSimpArgs false
theorem check_all {d : Wd} (h : checkM d = 0) : headM d = 0 ∧ entsM d d.ents 0 = 0 ∧ goodsM d = true := by
  unfold checkM at h
  by_cases h1 : headM d = 0
  · rw [if_neg (fun k => k h1)] at h
    by_cases h2 : entsM d d.ents 0 = 0
    · rw [if_neg (fun k => k h2)] at h
      cases h3 : goodsM d
      · rw [h3] at h; simp at h
      · exact ⟨h1, h2, rfl⟩
    · rw [if_pos h2] at h; exact absurd h h2
  · rw [if_pos h1] at h; exact absurd h h1
theorem head_nums {d : Wd} (h : headM d = 0) : numsOk d = true := by
  unfold headM at h
  cases hn : numsOk d
  · rw [hn, if_pos rfl] at h; exact absurd h (by decide)
  · rfl
theorem ents_all {d : Wd} : ∀ (l : List Ent) (i : Nat), entsM d l i = 0 → ∀ (j : Nat) (e : Ent), l[j]? = some e → entM d (i + j) e = 0
  | a :: r, i, h, 0, e, he => by
    simp only [List.getElem?_cons_zero, Option.some.injEq] at he
    subst he
    rw [entsM] at h
    by_cases h1 : entM d i a = 0
    · exact h1
    · rw [if_pos h1] at h; exact absurd h h1
  | a :: r, i, h, j + 1, e, he => by
    simp only [List.getElem?_cons_succ] at he
    rw [entsM] at h
    by_cases h1 : entM d i a = 0
    · rw [if_neg (fun k => k h1)] at h
      have := ents_all r (i + 1) h j e he
      rwa [Nat.add_assoc, Nat.add_comm 1 j] at this
    · rw [if_pos h1] at h; exact absurd h h1
theorem at_in {cells : List UInt8} {x y : Int} (h : walkM (atM cells x y) = true) : inM x y = true := by
  cases hi : inM x y
  · unfold atM at h
    rw [hi, if_neg (by simp)] at h
    simp [walkM] at h
  · rfl
theorem stats_rng (k : Int) : 0 ≤ (statsM k).max ∧ (statsM k).max ≤ 20 ∧ 0 ≤ (statsM k).atk ∧ (statsM k).atk ≤ 5 ∧ 0 ≤ (statsM k).df ∧ (statsM k).df ≤ 1 := by
  unfold statsM
  split
  · decide
  · split
    · decide
    · split
      · decide
      · split <;> decide
def b8 (z : Int) : Prop := 0 ≤ z ∧ z < 256
theorem ent_rng {d : Wd} {i : Nat} {e : Ent} (h : entM d i e = 0) : b8 e.kind ∧ b8 e.gen ∧ b8 e.seat ∧ b8 e.x ∧ b8 e.y ∧ b8 e.hp ∧ b8 e.max ∧ b8 e.atk ∧ b8 e.df ∧ b8 e.poison ∧ b8 e.stun := by
  unfold entM at h
  cases hk : btw e.kind 0 4
  · rw [hk, if_pos rfl] at h; exact absurd h (by decide)
  · rw [hk, if_neg (by simp)] at h
    cases hf : fitsM d i e
    · rw [hf, if_neg (by simp)] at h; exact absurd h (by decide)
    · simp only [btw, decide_eq_true_eq] at hk
      by_cases h0 : e.kind = 0
      · unfold fitsM btw at hf
        rw [if_pos h0] at hf
        simp only [Bool.and_eq_true, decide_eq_true_eq] at hf
        unfold b8
        omega
      · rw [fits_iff h0] at hf
        obtain ⟨h1, h2, h3, h4, h5, h6, h7, h8, h9, h10, h11⟩ := hf
        have hin := at_in h2
        simp only [inM, decide_eq_true_eq] at hin
        have hs := stats_rng e.kind
        unfold b8
        by_cases hk1 : e.kind = 1
        · have := h10 hk1; omega
        · have := h11 hk1; omega
theorem items_all {cells : List UInt8} {all : List Itm} : ∀ (l : List Itm) (i : Nat), itemsM cells all l i = true → ∀ x ∈ l, x.isZ = true ∨ (btw x.kind 1 4 = true ∧ placedM cells x = true)
  | a :: r, i, h, x, hx => by
    rw [itemsM] at h
    have ih := items_all (cells := cells) (all := all) r (i + 1)
    split at h
    · rename_i hz
      rcases List.mem_cons.1 hx with rfl | hx
      · exact .inl hz
      · exact ih h x hx
    · split at h
      · rename_i hp
        simp only [Bool.and_eq_true] at hp
        rcases List.mem_cons.1 hx with rfl | hx
        · exact .inr hp.1
        · exact ih h x hx
      · cases h
theorem itm_rng {cells : List UInt8} {x : Itm} (h : x.isZ = true ∨ (btw x.kind 1 4 = true ∧ placedM cells x = true)) : b8 x.kind ∧ b8 x.whr ∧ b8 x.a ∧ b8 x.b := by
  rcases h with h | ⟨h1, h2⟩
  · unfold Itm.isZ at h
    simp only [decide_eq_true_eq] at h
    unfold b8; omega
  · simp only [btw, decide_eq_true_eq] at h1
    unfold placedM at h2
    split at h2
    · have := at_in h2
      simp only [inM, decide_eq_true_eq] at this
      unfold b8; omega
    · split at h2
      · simp only [btw, Bool.and_eq_true, decide_eq_true_eq] at h2
        unfold b8; omega
      · split at h2
        · simp only [btw, Bool.and_eq_true, decide_eq_true_eq] at h2
          unfold b8; omega
        · split at h2
          · simp only [btw, Bool.and_eq_true, decide_eq_true_eq] at h2
            unfold b8; omega
          · cases h2
theorem goods_rng {d : Wd} (h : goodsM d = true) : ∀ x ∈ d.items, b8 x.kind ∧ b8 x.whr ∧ b8 x.a ∧ b8 x.b := fun x hx => by
  unfold goodsM at h
  simp only [Bool.and_eq_true] at h
  exact itm_rng (items_all _ _ h.2 x hx)
theorem emod_mul256 (v : Int) {p : Int} (hp : 0 < p) : v % (p * 256) = v % p + p * (v / p % 256) := by
  have h1 := Int.mul_ediv_add_emod v p
  have h2 := Int.mul_ediv_add_emod (v / p) 256
  have h3 := Int.emod_nonneg v (show p ≠ 0 by omega)
  have h4 := Int.emod_lt_of_pos v hp
  have h5 := Int.emod_nonneg (v / p) (show (256 : Int) ≠ 0 by decide)
  have h6 := Int.emod_lt_of_pos (v / p) (show (0 : Int) < 256 by decide)
  generalize hr : v % p = r at *
  generalize hq : v / p % 256 = q at *
  generalize hk : v / p / 256 = k at *
  generalize hw : v / p = w at *
  have e : v = (r + p * q) + (p * 256) * k := by
    rw [← h1, ← h2, Int.mul_add, ← Int.mul_assoc, Int.add_comm, ← Int.add_assoc, Int.add_right_comm]
  rw [e, Int.add_mul_emod_self_left]
  refine Int.emod_eq_of_lt (Int.add_nonneg h3 (Int.mul_nonneg (Int.le_of_lt hp) h5)) ?_
  have h7 : p * q ≤ p * 255 := Int.mul_le_mul_of_nonneg_left (by omega) (Int.le_of_lt hp)
  omega
theorem num_be : ∀ (n : Nat) (v : Int) (acc : Nat), ((beM v n).foldl (fun v x => v * 256 + x.toNat) acc : Nat) = (acc : Int) * 256 ^ n + v % 256 ^ n
  | 0, v, acc => by simp [beM, Int.emod_one]
  | n + 1, v, acc => by
    rw [beM, List.foldl_cons, num_be n v]
    have h1 := byteM_nat (v.fdiv (2 ^ (8 * n)))
    have hp : (2 : Int) ^ (8 * n) = 256 ^ n := by rw [Int.pow_mul]; rfl
    have hpos : (0 : Int) < 256 ^ n := Int.pow_pos (by decide)
    rw [hp, Int.fdiv_eq_ediv_of_nonneg _ (Int.le_of_lt hpos)] at h1
    rw [hp, Int.fdiv_eq_ediv_of_nonneg _ (Int.le_of_lt hpos)]
    have h2 : v % 256 ^ (n + 1) = v % 256 ^ n + 256 ^ n * (v / 256 ^ n % 256) := by
      rw [Int.pow_succ, emod_mul256 v hpos]
    rw [h2, Int.natCast_add, h1, Int.pow_succ]
    generalize v / 256 ^ n % 256 = q
    generalize (256 : Int) ^ n = p
    simp only [Int.natCast_mul, Int.cast_ofNat_Int]
    rw [Int.add_mul, Int.mul_assoc, Int.mul_comm (256 : Int) p, Int.add_assoc, Int.mul_comm q p, Int.add_comm (p * q)]
theorem numM_be {n : Nat} {v : Int} (h : 0 ≤ v ∧ v < 256 ^ n) : ((numM (beM v n) : Nat) : Int) = v := by
  have := num_be n v 0
  unfold numM
  rw [this]
  simp [Int.emod_eq_of_lt h.1 h.2]
end Go.Ad
namespace Go.Ad
set_option linter.unusedVariables false
set_option linter.unusedSimpArgs false
theorem cut_mid {X Y Z : List UInt8} {k m : Nat} (hk : X.length = k) (hm : Y.length = m) : ((X ++ (Y ++ Z)).drop k).take m = Y := by
  rw [List.drop_left' hk, List.take_left' hm]
theorem byteAt_mid {X Z : List UInt8} {k : Nat} {b : UInt8} (hk : X.length = k) : byteAt (X ++ (b :: Z)) k = b.toNat := by
  apply byteAt_of
  rw [List.getElem?_append_right (by omega), hk, Nat.sub_self]
  rfl
theorem flb_get {α : Type} {c : α → List UInt8} {k : Nat} (hk : ∀ a, (c a).length = k) : ∀ {l : List α} {i : Nat} {a : α}, l[i]? = some a → ∀ {j : Nat} {v : UInt8}, (c a)[j]? = some v → (l.flatMap c)[i * k + j]? = some v
  | a0 :: r, 0, a, h, j, v, hj => by
    simp only [List.getElem?_cons_zero, Option.some.injEq] at h
    subst h
    simp only [List.flatMap_cons, Nat.zero_mul, Nat.zero_add]
    rw [List.getElem?_append_left (List.getElem?_eq_some_iff.1 hj).1]; exact hj
  | a0 :: r, i + 1, a, h, j, v, hj => by
    simp only [List.getElem?_cons_succ] at h
    simp only [List.flatMap_cons]
    rw [List.getElem?_append_right (by rw [hk, Nat.succ_mul]; omega), hk, show (i + 1) * k + j - k = i * k + j by rw [Nat.succ_mul]; omega]
    exact flb_get hk h hj
theorem byteAt_row {α : Type} {c : α → List UInt8} {k : Nat} (hk : ∀ a, (c a).length = k) {X Z : List UInt8} {l : List α} {n i j : Nat} {a : α} {z : Int} (hX : X.length = n) (h : l[i]? = some a) (hj : (c a)[j]? = some (byteM z)) (hz : b8 z) : byteAt (X ++ (l.flatMap c ++ Z)) (n + i * k + j) = z := by
  have h1 := flb_get hk h hj
  have h2 : byteAt (X ++ (l.flatMap c ++ Z)) (n + i * k + j) = ((byteM z).toNat : Int) := by
    apply byteAt_of
    rw [Nat.add_assoc, List.getElem?_append_right (by omega), hX, Nat.add_sub_cancel_left, List.getElem?_append_left (List.getElem?_eq_some_iff.1 h1).1]
    exact h1
  rw [h2, byteM_nat]
  exact Int.emod_eq_of_lt hz.1 hz.2
theorem eBytes_one (e : Ent) : (eBytes e).length = 11 := rfl
theorem iBytes_one (x : Itm) : (iBytes x).length = 4 := rfl
theorem range_map_eq {α : Type} {l : List α} {n : Nat} {f : Nat → α} (hn : l.length = n) (h : ∀ i a, l[i]? = some a → f i = a) : (List.range n).map f = l := by
  apply List.ext_getElem?
  intro i
  rw [List.getElem?_map]
  by_cases hi : i < n
  · rw [List.getElem?_range hi, Option.map_some, List.getElem?_eq_getElem (by omega)]
    congr 1
    exact h i _ (List.getElem?_eq_getElem (by omega))
  · rw [List.getElem?_eq_none (by rw [List.length_range]; omega), List.getElem?_eq_none (by omega)]; rfl
theorem four_ext {g h : Four} (h1 : g.a = h.a) (h2 : g.b = h.b) (h3 : g.c = h.c) (h4 : g.d = h.d) : g = h := by
  cases g; cases h; simp_all
theorem enc_len {d : Wd} (h : checkM d = 0) : (encW d).length = 918 := by
  obtain ⟨h1, h2, h3⟩ := check_sizes h
  rw [← encC_all, encC_len _ _ (Nat.le_refl _)]
  omega
theorem dec_enc {d : Wd} (h : checkM d = 0) (hs : -9223372036854775808 ≤ d.seed ∧ d.seed ≤ 9223372036854775807) : decM (encW d) = d := by
  obtain ⟨l1, l2, l3⟩ := check_sizes h
  obtain ⟨hh, he, hg⟩ := check_all h
  have hn := head_nums hh
  unfold numsOk btw at hn
  simp only [Bool.and_eq_true, decide_eq_true_eq] at hn
  obtain ⟨⟨⟨⟨⟨⟨hf, hfl⟩, hst⟩, hga⟩, hgb⟩, hgc⟩, hgd⟩ := hn
  have hw : ∀ z : Int, 0 ≤ z ∧ z < 4294967296 → IntKind.u64.wrap z = z := fun z hz => u64_id (by omega)
  have hA : ∀ k, (encA d k).length = 14 + k * 2 := encA_len d
  have e0 : encW d = [] ++ (beM (IntKind.u64.wrap d.seed) 8 ++ (beM (IntKind.u64.wrap d.frame) 4 ++ ([byteM d.floor, byteM d.state] ++ (goldBytes d.gold 4 ++ (d.cells ++ (d.ents.flatMap eBytes ++ d.items.flatMap iBytes)))))) := by
    rw [encW_eq, headBytes]; simp only [List.append_assoc, List.nil_append]
  have e1 : encW d = beM (IntKind.u64.wrap d.seed) 8 ++ (beM (IntKind.u64.wrap d.frame) 4 ++ ([byteM d.floor, byteM d.state] ++ (goldBytes d.gold 4 ++ (d.cells ++ (d.ents.flatMap eBytes ++ d.items.flatMap iBytes))))) := e0
  have e2 : encW d = (beM (IntKind.u64.wrap d.seed) 8 ++ beM (IntKind.u64.wrap d.frame) 4) ++ (byteM d.floor :: ([byteM d.state] ++ (goldBytes d.gold 4 ++ (d.cells ++ (d.ents.flatMap eBytes ++ d.items.flatMap iBytes))))) := by
    rw [e1]; simp only [List.append_assoc, List.cons_append, List.nil_append]
  have e3 : encW d = (beM (IntKind.u64.wrap d.seed) 8 ++ beM (IntKind.u64.wrap d.frame) 4 ++ [byteM d.floor]) ++ (byteM d.state :: (goldBytes d.gold 4 ++ (d.cells ++ (d.ents.flatMap eBytes ++ d.items.flatMap iBytes)))) := by
    rw [e1]; simp only [List.append_assoc, List.cons_append, List.nil_append]
  have eg : ∀ k, k < 4 → ∃ Z, encW d = encA d k ++ (beM (IntKind.u64.wrap (d.gold.get k)) 2 ++ Z) := by
    intro k hk
    have hx : encW d = encA d 4 ++ (d.cells ++ (d.ents.flatMap eBytes ++ d.items.flatMap iBytes)) := by rw [encW_eq, encA]; simp only [List.append_assoc]
    rcases (show k = 0 ∨ k = 1 ∨ k = 2 ∨ k = 3 by omega) with rfl | rfl | rfl | rfl
    · exact ⟨_, by rw [hx, encA_succ, encA_succ, encA_succ, encA_succ]; simp only [List.append_assoc]; rfl⟩
    · exact ⟨_, by rw [hx, encA_succ, encA_succ, encA_succ]; simp only [List.append_assoc]; rfl⟩
    · exact ⟨_, by rw [hx, encA_succ, encA_succ]; simp only [List.append_assoc]; rfl⟩
    · exact ⟨_, by rw [hx, encA_succ]; simp only [List.append_assoc]; rfl⟩
  have e6 : encW d = encA d 4 ++ (d.cells ++ (d.ents.flatMap eBytes ++ d.items.flatMap iBytes)) := by rw [encW_eq, encA]; simp only [List.append_assoc]
  have e7 : encW d = (encA d 4 ++ d.cells) ++ (d.ents.flatMap eBytes ++ d.items.flatMap iBytes) := by rw [e6, List.append_assoc]
  have e8 : encW d = (encA d 4 ++ d.cells ++ d.ents.flatMap eBytes) ++ (d.items.flatMap iBytes ++ []) := by rw [e7, List.append_nil]; simp only [List.append_assoc]
  have hgk : ∀ k, k < 4 → 0 ≤ d.gold.get k ∧ d.gold.get k ≤ 999 → num2 (encW d) (14 + 2 * k) = d.gold.get k := by
    intro k hk hr
    obtain ⟨Z, hZ⟩ := eg k hk
    unfold num2
    rw [hZ, cut_mid (by rw [hA]; omega) (beM_len _ _), numM_be (by rw [hw _ (by omega)]; exact ⟨by omega, by omega⟩), hw _ (by omega)]
  have b12 : byteAt (encW d) (12 + 0) = d.floor := by
    rw [e2, byteAt_mid (by rw [List.length_append, beM_len, beM_len]), byteM_nat]
    omega
  have b13 : byteAt (encW d) (12 + 1) = d.state := by
    rw [e3, byteAt_mid (by rw [List.length_append, List.length_append, beM_len, beM_len]; rfl), byteM_nat]
    omega
  have hsd : IntKind.i64.wrap (numM (((encW d).drop 0).take 8) : Nat) = d.seed := by
    rw [e1, List.drop_zero, List.take_left' (beM_len _ _), numM_be (by rw [IntKind.wrap_u64]; omega), IntKind.wrap_u64, IntKind.wrap_i64]
    omega
  have hfr : ((numM (((encW d).drop 8).take 4) : Nat) : Int) = d.frame := by
    rw [e1, cut_mid (beM_len _ _) (beM_len _ _), numM_be (by rw [hw _ (by omega)]; omega), hw _ (by omega)]
  have hcl : ((encW d).drop 22).take 384 = d.cells := by
    rw [e6, cut_mid (by rw [hA]) l1]
  have hen : (List.range 32).map (fun i => entAt (encW d) (406 + i * 11)) = d.ents := by
    refine range_map_eq l2 (fun i e hi => ?_)
    have hr := ent_rng (by have := ents_all d.ents 0 he i e hi; rwa [Nat.zero_add] at this)
    obtain ⟨r0, r1, r2, r3, r4, r5, r6, r7, r8, r9, r10⟩ := hr
    have hX : (encA d 4 ++ d.cells).length = 406 := by rw [List.length_append, hA, l1]
    rw [e7]
    unfold entAt
    rw [byteAt_row eBytes_one (j := 0) hX hi rfl r0, byteAt_row eBytes_one (j := 1) hX hi rfl r1, byteAt_row eBytes_one (j := 2) hX hi rfl r2, byteAt_row eBytes_one (j := 3) hX hi rfl r3, byteAt_row eBytes_one (j := 4) hX hi rfl r4, byteAt_row eBytes_one (j := 5) hX hi rfl r5, byteAt_row eBytes_one (j := 6) hX hi rfl r6, byteAt_row eBytes_one (j := 7) hX hi rfl r7, byteAt_row eBytes_one (j := 8) hX hi rfl r8, byteAt_row eBytes_one (j := 9) hX hi rfl r9, byteAt_row eBytes_one (j := 10) hX hi rfl r10]
  have hit : (List.range 40).map (fun i => itmAt (encW d) (758 + i * 4)) = d.items := by
    refine range_map_eq l3 (fun i x hi => ?_)
    obtain ⟨r0, r1, r2, r3⟩ := goods_rng hg x (List.mem_of_getElem? hi)
    have hX : (encA d 4 ++ d.cells ++ d.ents.flatMap eBytes).length = 758 := by rw [List.length_append, List.length_append, hA, l1, eBytes_len, l2]
    rw [e8]
    unfold itmAt
    rw [byteAt_row iBytes_one (j := 0) hX hi rfl r0, byteAt_row iBytes_one (j := 1) hX hi rfl r1, byteAt_row iBytes_one (j := 2) hX hi rfl r2, byteAt_row iBytes_one (j := 3) hX hi rfl r3]
  have hgo : goldD (encW d) 4 = d.gold := four_ext (hgk 0 (by omega) hga) (hgk 1 (by omega) hgb) (hgk 2 (by omega) hgc) (hgk 3 (by omega) hgd)
  cases d
  simp only [decM] at *
  rw [hsd, hfr, b12, b13, hcl, hen, hit, hgo]
end Go.Ad
namespace Go.Proofs.YtcogbkkdccohfaaGreat
open Go.RowKit Go.Ad Go.Maps
set_option linter.unusedVariables false
set_option linter.unusedSimpArgs false
def sp (x y : Itm) : Prop := x.whr = y.whr ∧ x.a = y.a ∧ x.b = y.b
structure GIt (cells : List UInt8) (x : Itm) : Prop where
  kind : 1 ≤ x.kind ∧ x.kind ≤ 4
  placed : placedM cells x = true
structure IInv (cells : List UInt8) (l S : List Itm) : Prop where
  row : ∀ x ∈ l, x.isZ = true ∨ (GIt cells x ∧ x ∈ S)
  dis : ∀ (i j : Nat) (x y : Itm), i < j → l[i]? = some x → l[j]? = some y → x.isZ = false → y.isZ = false → ¬ sp x y
theorem IInv.more {cells : List UInt8} {l S T : List Itm} (h : IInv cells l S) (hs : ∀ x ∈ S, x ∈ T) : IInv cells l T := ⟨fun x hx => (h.row x hx).imp id (fun k => ⟨k.1, hs x k.2⟩), h.dis⟩
theorem IInv.lay {cells : List UInt8} {l S : List Itm} (h : IInv cells l S) {x : Itm} (hx : GIt cells x) (hd : ∀ y ∈ S, ¬ sp y x) : IInv cells (layOne l x) (S ++ [x]) := by
  unfold layOne
  split
  · exact h.more (fun y hy => List.mem_append_left _ hy)
  · rename_i hf
    rcases fnd_lt (p := Itm.isZ) (l.take 40) 0 with h1 | ⟨r, a, h1, h2, h3⟩
    · exact absurd h1 hf
    · rw [h1, Int.toNat_natCast, Nat.zero_add]
      have hr40 := (List.getElem?_eq_some_iff.1 h2).1
      rw [List.length_take] at hr40
      have hrl : r < l.length := by omega
      have hno : ∀ (j : Nat) (y : Itm), l[j]? = some y → y.isZ = false → ¬ sp y x := fun j y hy hz => by
        rcases h.row y (List.mem_of_getElem? hy) with k | k
        · rw [hz] at k; cases k
        · exact hd y k.2
      refine ⟨fun y hy => ?_, fun i j y z hij hy hz hy0 hz0 => ?_⟩
      · rcases List.mem_or_eq_of_mem_set hy with k | k
        · rcases h.row y k with q | q
          · exact .inl q
          · exact .inr ⟨q.1, List.mem_append_left _ q.2⟩
        · subst k
          exact .inr ⟨hx, by simp⟩
      · rw [List.getElem?_set] at hy hz
        by_cases hi : r = i
        · rw [if_pos hi, if_pos hrl] at hy
          rw [if_neg (by omega)] at hz
          obtain rfl : x = y := by simpa using hy
          rintro ⟨q1, q2, q3⟩
          exact hno j z hz hz0 ⟨q1.symm, q2.symm, q3.symm⟩
        · rw [if_neg hi] at hy
          by_cases hj : r = j
          · rw [if_pos hj, if_pos hrl] at hz
            obtain rfl : x = z := by simpa using hz
            exact hno i y hy hy0
          · rw [if_neg hj] at hz
            exact h.dis i j y z hij hy hz hy0 hz0
theorem IInv.lays {cells : List UInt8} : ∀ (ms l S : List Itm), IInv cells l S → (∀ x ∈ ms, GIt cells x) → (∀ y ∈ S, ∀ x ∈ ms, ¬ sp y x) → ms.Pairwise (fun y x => ¬ sp y x) → IInv cells (layM l ms) (S ++ ms)
  | [], l, S, h, _, _, _ => by rw [List.append_nil]; exact h
  | x :: r, l, S, h, hg, hd, hp => by
    obtain ⟨h1, h2⟩ := List.pairwise_cons.1 hp
    have := IInv.lays r (layOne l x) (S ++ [x]) (h.lay (hg x (List.Mem.head _)) (fun y hy => hd y hy x (List.Mem.head _))) (fun y hy => hg y (List.Mem.tail _ hy)) (fun y hy z hz => by
      rcases List.mem_append.1 hy with k | k
      · exact hd y k z (List.Mem.tail _ hz)
      · obtain rfl := List.mem_singleton.1 k
        exact h1 z hz) h2
    rw [List.append_assoc, List.singleton_append] at this
    exact this
theorem IInv.zero (cells : List UInt8) (n : Nat) : IInv cells (List.replicate n Itm.zero) [] := by
  refine ⟨fun x hx => ?_, fun i j x y hij hx hy h0 => ?_⟩
  · rw [List.eq_of_mem_replicate hx]; exact .inl rfl
  · rw [List.eq_of_mem_replicate (List.mem_of_getElem? hx)] at h0
    cases h0
theorem IInv.items {cells : List UInt8} {all S : List Itm} (h : IInv cells all S) : ∀ (l : List Itm) (i : Nat), (∀ (j : Nat) (x : Itm), l[j]? = some x → all[i + j]? = some x) → itemsM cells all l i = true
  | [], _, _ => rfl
  | x :: r, i, hl => by
    have hx : all[i]? = some x := hl 0 x rfl
    have ih := IInv.items h r (i + 1) (fun j f hf => by rw [show i + 1 + j = i + (j + 1) by omega]; exact hl (j + 1) f hf)
    rw [itemsM]
    cases hz : x.isZ
    · rw [if_neg (by simp)]
      rcases h.row x (List.mem_of_getElem? hx) with k | k
      · rw [hz] at k; cases k
      · rw [if_pos]
        · exact ih
        · simp only [Bool.and_eq_true]
          refine ⟨⟨by unfold btw; rw [decide_eq_true_eq]; exact k.1.kind, k.1.placed⟩, ?_⟩
          unfold aloneM
          rw [List.all_eq_true]
          intro y hy
          rw [Bool.not_eq_true', decide_eq_false_iff_not]
          rintro ⟨q1, q2, q3, q4⟩
          obtain ⟨j, hj⟩ := List.mem_iff_getElem?.1 hy
          have hji : j < i := by have := (List.getElem?_eq_some_iff.1 hj).1; rw [List.length_take] at this; omega
          rw [List.getElem?_take_of_lt hji] at hj
          refine h.dis j i y x hji hj hx ?_ hz ⟨q1, q2, q3⟩
          unfold Itm.isZ
          rw [decide_eq_false_iff_not]
          rintro ⟨_, k2, _⟩
          exact q4 k2
    · rw [if_pos rfl]; exact ih
structure Ware (cells : List UInt8) (used : List Bool) (x : Itm) : Prop where
  good : GIt cells x
  whr : x.whr = 1
  cell : ∃ z : Nat, z < 384 ∧ x.a = (z : Int) % 24 ∧ x.b = (z : Int) / 24 ∧ used.getD z false = true
theorem used_set {used : List Bool} {z k : Nat} (hl : used.length = 384) (hz : z < 384) : (used.set z true).getD k false = (if z = k then true else used.getD k false) := by
  rw [List.getD_eq_getElem?_getD, List.getD_eq_getElem?_getD, List.getElem?_set]
  by_cases h : z = k
  · rw [if_pos h, if_pos (by omega), if_pos h]; rfl
  · rw [if_neg h, if_neg h]
theorem wares_ok {seed floor : Int} {cells : List UInt8} (hc : cells.length = 384) {f : List Int} : ∀ (n k : Nat) (used : List Bool) (l : List Itm), used.length = 384 → (∀ x ∈ l, Ware cells used x) → l.Pairwise (fun y x => ¬ sp y x) →
    (∀ x ∈ waresM seed floor cells f n k used l, GIt cells x ∧ x.whr = 1) ∧ (waresM seed floor cells f n k used l).Pairwise (fun y x => ¬ sp y x)
  | 0, _, _, l, _, h, hp => ⟨fun x hx => ⟨(h x hx).good, (h x hx).whr⟩, hp⟩
  | n + 1, k, used, l, hl, h, hp => by
    rw [waresM]
    split
    · exact wares_ok hc n (k + 1) used l hl h hp
    · rename_i hpk
      obtain ⟨z, hz, hz1, hz2, _, hz3⟩ := pick_nat hpk
      have hg := gd_rng (n := 4) (by decide) seed floor (40 + k) 1
      obtain ⟨q, hq⟩ : ∃ q, 1 + gd seed floor (40 + k) 1 4 = q := ⟨_, rfl⟩
      rw [hz, hq, Int.toNat_natCast]
      have hin : inM ((z : Int) % 24) ((z : Int) / 24) = true := by simp only [inM, decide_eq_true_eq]; omega
      have hw : walkM (atM cells ((z : Int) % 24) ((z : Int) / 24)) = true := walk1 (x := (z : Int) % 24) (y := (z : Int) / 24) (k := z) hin (by omega) hc (by rw [hz2]; omega)
      refine wares_ok hc n (k + 1) _ _ (by rw [List.length_set]; exact hl) (fun x hx => ?_) ?_
      · rcases List.mem_append.1 hx with hx | hx
        · obtain ⟨h1, h2, z2, h3, h4, h5, h6⟩ := h x hx
          refine ⟨h1, h2, z2, h3, h4, h5, ?_⟩
          rw [used_set hl hz1]
          split
          · rfl
          · exact h6
        · obtain rfl := List.mem_singleton.1 hx
          refine ⟨⟨by simp only; omega, by unfold placedM; simp only; rw [if_pos trivial]; exact hw⟩, rfl, z, hz1, rfl, rfl, by rw [used_set hl hz1, if_pos rfl]⟩
      · rw [List.pairwise_append]
        refine ⟨hp, List.pairwise_singleton _ _, fun y hy x hx => ?_⟩
        obtain rfl := List.mem_singleton.1 hx
        obtain ⟨_, _, z2, h3, h4, h5, h6⟩ := h y hy
        rintro ⟨_, q2, q3⟩
        simp only at q2 q3
        rw [h4] at q2
        rw [h5] at q3
        obtain rfl : z2 = z := by omega
        rw [hz3] at h6
        cases h6
theorem shelf_ok (seed floor : Int) (cells : List UInt8) : ∀ k, k ≤ 3 → (∀ x ∈ shelfM seed floor k, GIt cells x ∧ x.whr = 4 ∧ x.a < k) ∧ (shelfM seed floor k).Pairwise (fun y x => ¬ sp y x)
  | 0, _ => ⟨fun x hx => by simp [shelfM] at hx, by simp [shelfM]⟩
  | k + 1, hk => by
    obtain ⟨h1, h2⟩ := shelf_ok seed floor cells k (by omega)
    have hg := gd_rng (n := 3) (by decide) seed floor (50 + k) 1
    obtain ⟨q, hq⟩ : ∃ q, 1 + gd seed floor (50 + k) 1 3 = q := ⟨_, rfl⟩
    rw [shelfM, hq]
    refine ⟨fun x hx => ?_, ?_⟩
    · rcases List.mem_append.1 hx with hx | hx
      · obtain ⟨q1, q2, q3⟩ := h1 x hx
        exact ⟨q1, q2, by omega⟩
      · obtain rfl := List.mem_singleton.1 hx
        refine ⟨⟨by simp only; omega, ?_⟩, rfl, by simp only; omega⟩
        unfold placedM btw
        simp only
        rw [if_neg (by decide), if_neg (by decide), if_neg (by decide), if_pos trivial]
        simp only [Bool.and_eq_true, decide_eq_true_eq]
        exact ⟨⟨by omega, trivial⟩, by omega⟩
    · rw [List.pairwise_append]
      refine ⟨h2, List.pairwise_singleton _ _, fun y hy x hx => ?_⟩
      obtain rfl := List.mem_singleton.1 hx
      obtain ⟨_, _, q3⟩ := h1 y hy
      rintro ⟨_, k2, _⟩
      simp only at k2
      omega
theorem make_items (seed floor : Int) : (∀ x ∈ (makeM seed floor).items, GIt (makeM seed floor).cells x) ∧ (makeM seed floor).items.Pairwise (fun y x => ¬ sp y x) := by
  have hcl := make_len seed floor
  obtain ⟨h1, h2⟩ := wares_ok (seed := seed) (floor := floor) (cells := (makeM seed floor).cells) hcl (f := distM seed floor) 4 0 (List.replicate 384 false) [] List.length_replicate (fun x hx => by cases hx) List.Pairwise.nil
  obtain ⟨h3, h4⟩ := shelf_ok seed floor (makeM seed floor).cells 3 (Nat.le_refl _)
  have hi : (makeM seed floor).items = waresM seed floor (makeM seed floor).cells (distM seed floor) 4 0 (List.replicate 384 false) [] ++ (if (shopAt seed floor).isSome then shelfM seed floor 3 else []) := rfl
  rw [hi]
  refine ⟨fun x hx => ?_, ?_⟩
  · rcases List.mem_append.1 hx with hx | hx
    · exact (h1 x hx).1
    · split at hx
      · exact (h3 x hx).1
      · cases hx
  · rw [List.pairwise_append]
    refine ⟨h2, ?_, fun y hy x hx => ?_⟩
    · split
      · exact h4
      · exact List.Pairwise.nil
    · split at hx
      · rintro ⟨k1, _⟩
        rw [(h1 y hy).2, (h3 x hx).2.1] at k1
        exact absurd k1 (by decide)
      · cases hx
theorem ok_of_check {d : Wd} (h : checkM d = 0) : ∀ x ∈ d.items, Itm.ok x := fun x hx => by
  obtain ⟨_, _, _, h4⟩ := goods_rng (check_all h).2.2 x hx
  unfold b8 at h4
  exact ⟨by omega, by omega⟩
end Go.Proofs.YtcogbkkdccohfaaGreat
namespace Go.Proofs.YtcogbkkdccohfaaGreat
open Go.RowKit Go.Ad Go.Maps
set_option linter.unusedVariables false
set_option linter.unusedSimpArgs false
structure ERow (cells : List UInt8) (e : Ent) : Prop where
  kind : 1 ≤ e.kind ∧ e.kind ≤ 4
  walk : walkM (atM cells e.x e.y) = true
  hp : 1 ≤ e.hp ∧ e.hp ≤ e.max
  st : e.max = (statsM e.kind).max ∧ e.atk = (statsM e.kind).atk ∧ e.df = (statsM e.kind).df
  ail : 0 ≤ e.poison ∧ e.poison ≤ 9 ∧ 0 ≤ e.stun ∧ e.stun ≤ 9
  gen : 0 ≤ e.gen ∧ e.gen ≤ 255
  seat : (e.kind = 1 → 0 ≤ e.seat ∧ e.seat ≤ 3) ∧ (e.kind ≠ 1 → e.seat = 0)
def EFree (e : Ent) : Prop := e = { Ent.zero with gen := e.gen } ∧ 0 ≤ e.gen ∧ e.gen ≤ 255
theorem EFree.kind {e : Ent} (h : EFree e) : e.kind = 0 := by rw [h.1]
structure EV (cells : List UInt8) (l : List Ent) : Prop where
  row : ∀ (i : Nat) (e : Ent), l[i]? = some e → EFree e ∨ ERow cells e
  dis : ∀ (i j : Nat) (e f : Ent), i ≠ j → l[i]? = some e → l[j]? = some f → e.kind ≠ 0 → f.kind ≠ 0 → ¬ (e.x = f.x ∧ e.y = f.y)
  hero : ∀ (i j : Nat) (e f : Ent), i ≠ j → l[i]? = some e → l[j]? = some f → e.kind = 1 → f.kind = 1 → e.seat ≠ f.seat
theorem EV.rowOf {cells : List UInt8} {l : List Ent} (h : EV cells l) {i : Nat} {e : Ent} (he : l[i]? = some e) (hk : e.kind ≠ 0) : ERow cells e :=
  (h.row i e he).resolve_left fun k => hk k.kind
theorem Mon.row {cells : List UInt8} {e : Ent} (h : Mon cells e) : ERow cells e := by
  obtain ⟨r1, r2, r3, r4, r5, r6, r7, r8⟩ := h.rest
  have hk := h.kind
  exact ⟨by omega, h.walk, by omega, ⟨r4, r5, r6⟩, by omega, h.gen, ⟨fun h => by omega, fun _ => r1⟩⟩
theorem EV.set {cells : List UInt8} {l : List Ent} (h : EV cells l) {i : Nat} {e : Ent} (h1 : EFree e ∨ ERow cells e) (h2 : e.kind ≠ 0 → ∀ (j : Nat) (f : Ent), j ≠ i → l[j]? = some f → f.kind ≠ 0 → ¬ (f.x = e.x ∧ f.y = e.y))
    (h3 : e.kind = 1 → ∀ (j : Nat) (f : Ent), j ≠ i → l[j]? = some f → f.kind = 1 → f.seat ≠ e.seat) : EV cells (l.set i e) := by
  have key : ∀ (j : Nat) (f : Ent), (l.set i e)[j]? = some f → (j = i ∧ f = e) ∨ (j ≠ i ∧ l[j]? = some f) := fun j f hf => by
    rw [List.getElem?_set] at hf
    by_cases hi : i = j
    · rw [if_pos hi] at hf
      split at hf
      · exact .inl ⟨hi.symm, by simpa using hf.symm⟩
      · cases hf
    · rw [if_neg hi] at hf
      exact .inr ⟨fun k => hi k.symm, hf⟩
  refine ⟨fun j f hf => ?_, fun j k f g hjk hf hg hf0 hg0 => ?_, fun j k f g hjk hf hg hf0 hg0 => ?_⟩
  · rcases key j f hf with ⟨_, rfl⟩ | ⟨_, k⟩
    · exact h1
    · exact h.row j f k
  · rcases key j f hf with ⟨rfl, rfl⟩ | ⟨a1, a2⟩
    · rcases key k g hg with ⟨rfl, rfl⟩ | ⟨b1, b2⟩
      · exact absurd rfl hjk
      · rintro ⟨q1, q2⟩; exact h2 hf0 k g b1 b2 hg0 ⟨q1.symm, q2.symm⟩
    · rcases key k g hg with ⟨rfl, rfl⟩ | ⟨b1, b2⟩
      · exact h2 hg0 j f a1 a2 hf0
      · exact h.dis j k f g hjk a2 b2 hf0 hg0
  · rcases key j f hf with ⟨rfl, rfl⟩ | ⟨a1, a2⟩
    · rcases key k g hg with ⟨rfl, rfl⟩ | ⟨b1, b2⟩
      · exact absurd rfl hjk
      · exact fun q => h3 hf0 k g b1 b2 hg0 q.symm
    · rcases key k g hg with ⟨rfl, rfl⟩ | ⟨b1, b2⟩
      · exact h3 hg0 j f a1 a2 hf0
      · exact h.hero j k f g hjk a2 b2 hf0 hg0
theorem EV.same {cells : List UInt8} {l : List Ent} (h : EV cells l) {i : Nat} {e e' : Ent} (he : l[i]? = some e) (h1 : ERow cells e') (hk : e'.kind = e.kind) (hx : e'.x = e.x ∧ e'.y = e.y) (hs : e'.seat = e.seat) : EV cells (l.set i e') := by
  have hk0 := h1.kind
  refine h.set (.inr h1) (fun _ j f hj hf hf0 => ?_) (fun h0 j f hj hf hf0 => ?_)
  · rw [hx.1, hx.2]; exact h.dis j i f e hj hf he hf0 (by omega)
  · rw [hs]; exact h.hero j i f e hj hf he hf0 (by omega)
theorem EV.free {cells : List UInt8} {l : List Ent} (h : EV cells l) {i : Nat} {g : Int} (hg : 0 ≤ g ∧ g ≤ 255) : EV cells (l.set i { Ent.zero with gen := g }) :=
  h.set (.inl ⟨rfl, hg⟩) (fun k => absurd rfl k) (fun k => absurd (show (0 : Int) = 1 from k) (by decide))
theorem EV.gen {cells : List UInt8} {l : List Ent} (h : EV cells l) {i : Nat} {e : Ent} (he : l[i]? = some e) : 0 ≤ e.gen ∧ e.gen ≤ 255 := by
  rcases h.row i e he with k | k
  · exact k.2
  · exact k.gen
theorem egt_of {l : List Ent} {i : Nat} {e : Ent} (h : l[i]? = some e) : egt l (i : Int) = e := by
  unfold egt
  rw [if_pos (by omega), Int.toNat_natCast, List.getD_eq_getElem?_getD, h]; rfl
theorem igt_of {l : List Itm} {i : Nat} {x : Itm} (h : l[i]? = some x) : igt l (i : Int) = x := by
  unfold igt
  rw [if_pos (by omega), Int.toNat_natCast, List.getD_eq_getElem?_getD, h]; rfl
theorem egt_some {l : List Ent} {r : Int} (h : (egt l r).kind ≠ 0) : ∃ i : Nat, r = (i : Int) ∧ l[i]? = some (egt l r) := by
  unfold egt at h ⊢
  split at h
  · rename_i h0
    refine ⟨r.toNat, by omega, ?_⟩
    rw [if_pos h0]
    rw [List.getD_eq_getElem?_getD] at h ⊢
    cases hl : l[r.toNat]? with
    | none => rw [hl] at h; exact absurd rfl h
    | some e => rfl
  · exact absurd rfl h
theorem EV.freeE {cells : List UInt8} {l : List Ent} (h : EV cells l) (r : Int) : EV cells (freeE l r) := by
  unfold Go.Ad.freeE
  split
  · rename_i h0
    by_cases hr : r.toNat < l.length
    · obtain ⟨e, he⟩ := take_lt hr
      have : egt l r = e := by
        have := egt_of he
        rw [show ((r.toNat : Nat) : Int) = r by omega] at this
        exact this
      rw [this]
      exact h.free (h.gen he)
    · rw [List.set_eq_of_length_le (by omega)]; exact h
  · exact h
theorem fnd_some {α : Type} {p : α → Bool} {l : List α} {r : Int} (h : fnd p l 0 = r) (h0 : 0 ≤ r) : ∃ (i : Nat) (a : α), r = (i : Int) ∧ l[i]? = some a ∧ p a = true := by
  rcases fnd_lt (p := p) l 0 with k | ⟨j, a, h1, h2, h3⟩
  · omega
  · exact ⟨j, a, by omega, h2, h3⟩
theorem eAt_some {l : List Ent} {x y r : Int} (h : eAt l x y = r) (h0 : 0 ≤ r) : ∃ (i : Nat) (e : Ent), r = (i : Int) ∧ l[i]? = some e ∧ e.kind ≠ 0 ∧ e.x = x ∧ e.y = y := by
  obtain ⟨i, a, h1, h2, h3⟩ := fnd_some h h0
  exact ⟨i, a, h1, h2, of_decide_eq_true h3⟩
theorem eHero_some {l : List Ent} {s r : Int} (h : eHero l s = r) (h0 : 0 ≤ r) : ∃ (i : Nat) (e : Ent), r = (i : Int) ∧ l[i]? = some e ∧ e.kind = 1 ∧ e.seat = s := by
  obtain ⟨i, a, h1, h2, h3⟩ := fnd_some h h0
  exact ⟨i, a, h1, h2, of_decide_eq_true h3⟩
theorem eAt_no {l : List Ent} {x y : Int} (h : eAt l x y < 0) {j : Nat} {f : Ent} (hf : l[j]? = some f) (h0 : f.kind ≠ 0) : ¬ (f.x = x ∧ f.y = y) := by
  have := fnd_neg h f (List.mem_of_getElem? hf)
  rw [decide_eq_false_iff_not] at this
  exact fun k => this ⟨h0, k.1, k.2⟩
theorem eHero_no {l : List Ent} {s : Int} (h : eHero l s < 0) {j : Nat} {f : Ent} (hf : l[j]? = some f) (h0 : f.kind = 1) : f.seat ≠ s := by
  have := fnd_neg h f (List.mem_of_getElem? hf)
  rw [decide_eq_false_iff_not] at this
  exact fun k => this ⟨h0, k⟩
theorem EV.spawned {cells : List UInt8} {l : List Ent} (h : EV cells l) {e : Ent} (he : ERow cells e) (hat : eAt l e.x e.y < 0) (hh : e.kind = 1 → eHero l e.seat < 0) : EV cells (spawnedM l e) := by
  unfold spawnedM
  split
  · rename_i hc
    obtain ⟨r, a, hr, ha, ha0⟩ := fnd_some (rfl : freeRow l = _) hc.2.2
    rw [hr, Int.toNat_natCast]
    have ha : l[r]? = some a := by
      have := (List.getElem?_eq_some_iff.1 ha).1
      rw [List.length_take] at this
      rw [List.getElem?_take_of_lt (by omega)] at ha
      exact ha
    have hd : l.getD r Ent.zero = a := by rw [List.getD_eq_getElem?_getD, ha]; rfl
    rw [hd]
    have hgo := genOf_rng (h.gen ha)
    exact h.set (.inr ⟨he.kind, he.walk, he.hp, he.st, he.ail, hgo, he.seat⟩) (fun _ j f hj hf hf0 => eAt_no hat hf hf0) (fun h1 j f hj hf hf0 => eHero_no (hh h1) hf hf0)
  · exact h
theorem EV.stock {cells : List UInt8} {l : List Ent} (h : EV cells l) {e : Ent} (he : Mon cells e) : EV cells (stockOne l e) := by
  unfold stockOne
  split
  · rename_i hat
    exact h.spawned he.row hat (fun h1 => by have := he.kind; omega)
  · exact h
theorem EV.stocks {cells : List UInt8} : ∀ (es l : List Ent), EV cells l → (∀ e ∈ es, Mon cells e) → EV cells (stockEnts l es)
  | [], l, h, _ => h
  | e :: r, l, h, he => EV.stocks r (stockOne l e) (h.stock (he e (List.Mem.head _))) (fun a ha => he a (List.Mem.tail _ ha))
theorem EV.check {d : Wd} (h : EV d.cells d.ents) : ∀ (l : List Ent) (i : Nat), (∀ (j : Nat) (e : Ent), l[j]? = some e → d.ents[i + j]? = some e) → entsM d l i = 0
  | [], _, _ => rfl
  | e :: r, i, hl => by
    have he : d.ents[i]? = some e := hl 0 e rfl
    have h0 : entM d i e = 0 := by
      unfold entM
      rcases h.row i e he with ⟨h1, h2⟩ | hm
      · have hk : e.kind = 0 := by rw [h1]
        rw [if_neg (by rw [hk]; decide), if_pos]
        unfold fitsM btw
        rw [if_pos hk]
        simp only [Bool.and_eq_true, decide_eq_true_eq]
        refine ⟨h2, ?_⟩
        rw [h1]
        exact ⟨rfl, rfl, rfl, rfl, rfl, rfl, rfl, rfl, rfl⟩
      · have hk := hm.kind
        have ha := hm.ail
        obtain ⟨r4, r5, r6⟩ := hm.st
        rw [if_neg (by unfold btw; simp; omega), if_pos]
        rw [fits_iff (by omega)]
        have before : ∀ (a : Ent), a ∈ d.ents.take i → ∃ j, j ≠ i ∧ d.ents[j]? = some a := fun a ha => by
          obtain ⟨j, hj⟩ := List.mem_iff_getElem?.1 ha
          have hji : j < i := by have := (List.getElem?_eq_some_iff.1 hj).1; rw [List.length_take] at this; omega
          rw [List.getElem?_take_of_lt hji] at hj
          exact ⟨j, by omega, hj⟩
        refine ⟨hm.gen, hm.walk, ?_, hm.hp, r4, r5, r6, ⟨ha.1, ha.2.1⟩, ha.2.2, fun h1 => ⟨hm.seat.1 h1, ?_⟩, fun h1 => hm.seat.2 h1⟩
        · refine fnd_none (fun a ha => ?_)
          rw [decide_eq_false_iff_not]
          rintro ⟨q1, q2, q3⟩
          obtain ⟨j, hj, hja⟩ := before a ha
          exact h.dis j i a e hj hja he q1 (by omega) ⟨q2, q3⟩
        · refine fnd_none (fun a ha => ?_)
          rw [decide_eq_false_iff_not]
          rintro ⟨q1, q2⟩
          obtain ⟨j, hj, hja⟩ := before a ha
          exact h.hero j i a e hj hja he q1 h1 q2
    rw [entsM, h0, if_neg (fun k => k rfl)]
    exact EV.check h r (i + 1) (fun j f hf => by rw [show i + 1 + j = i + (j + 1) by omega]; exact hl (j + 1) f hf)
theorem EV.zero (cells : List UInt8) (n : Nat) : EV cells (List.replicate n Ent.zero) := by
  refine ⟨fun i e h => ?_, fun i j e f hij he hf h0 => ?_, fun i j e f hij he hf h0 => ?_⟩
  · obtain rfl := List.eq_of_mem_replicate (List.mem_of_getElem? h)
    exact .inl ⟨rfl, by decide, by decide⟩
  · obtain rfl := List.eq_of_mem_replicate (List.mem_of_getElem? he)
    exact absurd rfl h0
  · obtain rfl := List.eq_of_mem_replicate (List.mem_of_getElem? he)
    exact absurd h0 (by decide)
structure IV (cells : List UInt8) (l : List Itm) : Prop where
  row : ∀ x ∈ l, x.isZ = true ∨ GIt cells x
  dis : ∀ (i j : Nat) (x y : Itm), i ≠ j → l[i]? = some x → l[j]? = some y → x.isZ = false → y.isZ = false → ¬ sp x y
theorem IV.set {cells : List UInt8} {l : List Itm} (h : IV cells l) {i : Nat} {x : Itm} (h1 : x.isZ = true ∨ GIt cells x) (h2 : x.isZ = false → ∀ (j : Nat) (y : Itm), j ≠ i → l[j]? = some y → y.isZ = false → ¬ sp y x) : IV cells (l.set i x) := by
  have key : ∀ (j : Nat) (f : Itm), (l.set i x)[j]? = some f → (j = i ∧ f = x) ∨ (j ≠ i ∧ l[j]? = some f) := fun j f hf => by
    rw [List.getElem?_set] at hf
    by_cases hi : i = j
    · rw [if_pos hi] at hf
      split at hf
      · exact .inl ⟨hi.symm, by simpa using hf.symm⟩
      · cases hf
    · rw [if_neg hi] at hf
      exact .inr ⟨fun k => hi k.symm, hf⟩
  refine ⟨fun f hf => ?_, fun j k f g hjk hf hg hf0 hg0 => ?_⟩
  · rcases List.mem_or_eq_of_mem_set hf with k | k
    · exact h.row f k
    · rw [k]; exact h1
  · rcases key j f hf with ⟨rfl, rfl⟩ | ⟨a1, a2⟩
    · rcases key k g hg with ⟨rfl, rfl⟩ | ⟨b1, b2⟩
      · exact absurd rfl hjk
      · rintro ⟨q1, q2, q3⟩; exact h2 hf0 k g b1 b2 hg0 ⟨q1.symm, q2.symm, q3.symm⟩
    · rcases key k g hg with ⟨rfl, rfl⟩ | ⟨b1, b2⟩
      · exact h2 hg0 j f a1 a2 hf0
      · exact h.dis j k f g hjk a2 b2 hf0 hg0
theorem IV.zap {cells : List UInt8} {l : List Itm} (h : IV cells l) (i : Nat) : IV cells (l.set i Itm.zero) := h.set (.inl rfl) (fun k => absurd k (by decide))
theorem IV.mapZ {c1 c2 : List UInt8} {l : List Itm} (h : IV c1 l) {f : Itm → Itm} (hf : ∀ x, (f x).isZ = true ∨ f x = x) (hg : ∀ x, GIt c1 x → (f x).isZ = true ∨ GIt c2 (f x)) : IV c2 (l.map f) := by
  refine ⟨fun y hy => ?_, fun i j x y hij hx hy hx0 hy0 => ?_⟩
  · obtain ⟨x, hx, rfl⟩ := List.mem_map.1 hy
    rcases h.row x hx with k | k
    · rcases hf x with q | q
      · exact .inl q
      · rw [q]; exact .inl k
    · exact hg x k
  · rw [List.getElem?_map] at hx hy
    obtain ⟨x', hx', rfl⟩ := Option.map_eq_some_iff.1 hx
    obtain ⟨y', hy', rfl⟩ := Option.map_eq_some_iff.1 hy
    rcases hf x' with q | q
    · rw [q] at hx0; cases hx0
    · rcases hf y' with r | r
      · rw [r] at hy0; cases hy0
      · rw [q] at hx0 ⊢
        rw [r] at hy0 ⊢
        exact h.dis i j x' y' hij hx' hy' hx0 hy0
theorem iIn_some {l : List Itm} {w a b r : Int} (h : iIn l w a b = r) (h0 : 0 ≤ r) : ∃ (i : Nat) (x : Itm), r = (i : Int) ∧ l[i]? = some x ∧ x.whr = w ∧ x.a = a ∧ x.b = b := by
  obtain ⟨i, x, h1, h2, h3⟩ := fnd_some h h0
  exact ⟨i, x, h1, h2, of_decide_eq_true h3⟩
theorem iIn_no {l : List Itm} {w a b : Int} (h : iIn l w a b < 0) {j : Nat} {y : Itm} (hy : l[j]? = some y) : ¬ (y.whr = w ∧ y.a = a ∧ y.b = b) := by
  have := fnd_neg h y (List.mem_of_getElem? hy)
  rw [decide_eq_false_iff_not] at this
  exact this
theorem nz_of {x : Itm} (h : x.whr ≠ 0) : x.isZ = false := by
  unfold Itm.isZ
  rw [decide_eq_false_iff_not]
  exact fun k => h k.2.1
theorem IV.good {cells : List UInt8} {l : List Itm} (h : IV cells l) {i : Nat} {x : Itm} (hx : l[i]? = some x) (hw : x.whr ≠ 0) : GIt cells x :=
  (h.row x (List.mem_of_getElem? hx)).resolve_left (by rw [nz_of hw]; decide)
theorem slotF_some {l : List Itm} {s : Int} : ∀ (n : Nat) (b : Int), 0 ≤ b → slotF l s n b = -1 ∨ (b ≤ slotF l s n b ∧ slotF l s n b < b + n ∧ iIn l 2 s (slotF l s n b) < 0)
  | 0, _, _ => .inl rfl
  | n + 1, b, hb => by
    unfold slotF
    split
    · rename_i h; exact .inr ⟨by omega, by omega, h⟩
    · rcases slotF_some n (b + 1) (by omega) with h | ⟨h1, h2, h3⟩
      · exact .inl h
      · exact .inr ⟨by omega, by omega, h3⟩
theorem slot_some {l : List Itm} {s : Int} (h : 0 ≤ slotM l s) : slotM l s < 4 ∧ iIn l 2 s (slotM l s) < 0 := by
  unfold slotM at h ⊢
  rcases slotF_some (l := l) (s := s) 4 0 (by omega) with k | ⟨h1, h2, h3⟩
  · omega
  · exact ⟨by omega, h3⟩
theorem hasF_some {l : List Itm} {s f t : Int} : ∀ (n : Nat) (b : Int), 0 ≤ b → hasF l s f t n b = -1 ∨ ∃ (i : Nat) (x : Itm), hasF l s f t n b = (i : Int) ∧ l[i]? = some x ∧ x.whr = 2 ∧ x.a = s ∧ b ≤ x.b ∧ x.b < b + n ∧ f ≤ x.kind ∧ x.kind ≤ t
  | 0, _, _ => .inl rfl
  | n + 1, b, hb => by
    unfold hasF
    split
    · rename_i h
      obtain ⟨i, x, h1, h2, h3, h4, h5⟩ := iIn_some (rfl : iIn l 2 s b = _) h.1
      rw [h1] at h ⊢
      rw [igt_of h2] at h
      exact .inr ⟨i, x, rfl, h2, h3, h4, by omega, by omega, h.2.1, h.2.2⟩
    · rcases hasF_some n (b + 1) (by omega) with h | ⟨i, x, h1, h2, h3, h4, h5, h6, h7, h8⟩
      · exact .inl h
      · exact .inr ⟨i, x, h1, h2, h3, h4, by omega, by omega, h7, h8⟩
theorem has_some {l : List Itm} {s f t : Int} (h : 0 ≤ hasM l s f t) : ∃ (i : Nat) (x : Itm), hasM l s f t = (i : Int) ∧ l[i]? = some x ∧ x.whr = 2 ∧ x.a = s ∧ 0 ≤ x.b ∧ x.b < 4 ∧ f ≤ x.kind ∧ x.kind ≤ t := by
  unfold hasM at h ⊢
  rcases hasF_some (l := l) (s := s) (f := f) (t := t) 4 0 (by omega) with k | ⟨i, x, h1, h2, h3, h4, h5, h6, h7, h8⟩
  · omega
  · exact ⟨i, x, h1, h2, h3, h4, by omega, by omega, h7, h8⟩
theorem shelfF_some {l : List Itm} : ∀ (n : Nat) (k : Int), 0 ≤ k → shelfF l n k = -1 ∨ ∃ (i : Nat) (x : Itm), shelfF l n k = (i : Int) ∧ l[i]? = some x ∧ x.whr = 4
  | 0, _, _ => .inl rfl
  | n + 1, k, hk => by
    unfold shelfF
    split
    · rename_i h
      obtain ⟨i, x, h1, h2, h3, _⟩ := iIn_some (rfl : iIn l 4 k 0 = _) h
      exact .inr ⟨i, x, h1, h2, h3⟩
    · exact shelfF_some n (k + 1) (by omega)
theorem IV.check {cells : List UInt8} {all : List Itm} (h : IV cells all) : ∀ (l : List Itm) (i : Nat), (∀ (j : Nat) (x : Itm), l[j]? = some x → all[i + j]? = some x) → itemsM cells all l i = true :=
  IInv.items (S := all) ⟨fun x hx => (h.row x hx).imp id (fun k => ⟨k, hx⟩), fun i j x y hij hx hy => h.dis i j x y (by omega) hx hy⟩
theorem IInv.iv {cells : List UInt8} {l S : List Itm} (h : IInv cells l S) : IV cells l :=
  ⟨fun x hx => (h.row x hx).imp id (·.1), fun i j x y hij hx hy hx0 hy0 => by
    rcases Nat.lt_or_gt_of_ne hij with k | k
    · exact h.dis i j x y k hx hy hx0 hy0
    · rintro ⟨q1, q2, q3⟩; exact h.dis j i y x k hy hx hy0 hx0 ⟨q1.symm, q2.symm, q3.symm⟩⟩
end Go.Proofs.YtcogbkkdccohfaaGreat
namespace Go.Proofs.YtcogbkkdccohfaaGreat
open Go.RowKit Go.Ad Go.Maps
set_option linter.unusedVariables false
set_option linter.unusedSimpArgs false
structure VW (d : Wd) : Prop where
  nums : (1 ≤ d.floor ∧ d.floor ≤ 3) ∧ (0 ≤ d.state ∧ d.state ≤ 2)
  gold : ∀ k, 0 ≤ d.gold.get k ∧ d.gold.get k ≤ 999
  sz : d.cells.length = 384 ∧ d.ents.length = 32 ∧ d.items.length = 40
  low : low 5 d.cells
  c3 : cnt 3 d.cells = 1
  c4 : cnt 4 d.cells = 1
  ev : EV d.cells d.ents
  iv : IV d.cells d.items
theorem VW.check {d : Wd} (h : VW d) (hf : 0 ≤ d.frame ∧ d.frame ≤ 1073741823) : checkM d = 0 := by
  have hh : headM d = 0 := by
    unfold headM
    have g0 := h.gold 0
    have g1 := h.gold 1
    have g2 := h.gold 2
    have g3 := h.gold 3
    simp only [Four.get] at g0 g1 g2 g3
    obtain ⟨n1, n2⟩ := h.nums
    rw [if_neg, if_neg, if_neg (by rw [low_any h.low]; simp), if_pos ⟨h.c3, h.c4⟩]
    · unfold sizesOk
      obtain ⟨s1, s2, s3⟩ := h.sz
      simp [s1, s2, s3]
    · unfold numsOk btw
      rw [Bool.not_eq_false]
      simp only [Bool.and_eq_true, decide_eq_true_eq]
      exact ⟨⟨⟨⟨⟨⟨hf, n1⟩, n2⟩, g0⟩, g1⟩, g2⟩, g3⟩
  have he : entsM d d.ents 0 = 0 := h.ev.check d.ents 0 (fun j e h => by rw [Nat.zero_add]; exact h)
  have hg : goodsM d = true := by
    unfold goodsM
    simp only [Bool.and_eq_true, decide_eq_true_eq]
    exact ⟨h.sz.2.2, h.iv.check d.items 0 (fun j x h => by rw [Nat.zero_add]; exact h)⟩
  unfold checkM
  rw [hh, if_neg (fun k => k rfl), he, if_neg (fun k => k rfl), hg]
  rfl
theorem VW.items {d : Wd} (h : VW d) {l : List Itm} (hl : l.length = d.items.length) (hi : IV d.cells l) : VW { d with items := l } :=
  ⟨h.nums, h.gold, ⟨h.sz.1, h.sz.2.1, by simp only; rw [hl]; exact h.sz.2.2⟩, h.low, h.c3, h.c4, h.ev, hi⟩
theorem VW.ents {d : Wd} (h : VW d) {l : List Ent} (hl : l.length = d.ents.length) (hi : EV d.cells l) : VW { d with ents := l } :=
  ⟨h.nums, h.gold, ⟨h.sz.1, by simp only; rw [hl]; exact h.sz.2.1, h.sz.2.2⟩, h.low, h.c3, h.c4, hi, h.iv⟩
theorem VW.golds {d : Wd} (h : VW d) {g : Four} (hg : ∀ k, 0 ≤ g.get k ∧ g.get k ≤ 999) : VW { d with gold := g } :=
  ⟨h.nums, hg, h.sz, h.low, h.c3, h.c4, h.ev, h.iv⟩
theorem VW.frames {d : Wd} (h : VW d) (f : Int) : VW { d with frame := f } := ⟨h.nums, h.gold, h.sz, h.low, h.c3, h.c4, h.ev, h.iv⟩
theorem VW.states {d : Wd} (h : VW d) {s : Int} (hs : 0 ≤ s ∧ s ≤ 2) : VW { d with state := s } := ⟨⟨h.nums.1, hs⟩, h.gold, h.sz, h.low, h.c3, h.c4, h.ev, h.iv⟩
theorem put_get (g : Four) (s v : Int) (k : Nat) : (g.put s v).get k = v ∨ (g.put s v).get k = g.get k := by
  unfold Four.put
  rcases hs : s.toNat with _ | _ | _ | n <;> rcases k with _ | _ | _ | k <;> simp [Four.set, Four.get]
theorem at_get (g : Four) (s : Int) : g.at s = g.get s.toNat := rfl
theorem placed_bag {cells : List UInt8} {k s b : Int} (hs : 0 ≤ s ∧ s ≤ 3) (hb : 0 ≤ b ∧ b ≤ 3) (hk : 1 ≤ k ∧ k ≤ 3) : GIt cells ⟨k, 2, s, b⟩ := by
  refine ⟨by simp only; omega, ?_⟩
  unfold placedM btw
  rw [if_neg (by simp only; decide), if_pos rfl]
  simp only [Bool.and_eq_true, decide_eq_true_eq]
  exact ⟨⟨hs, hb⟩, by omega⟩
theorem placed_worn {cells : List UInt8} {k s : Int} (hs : 0 ≤ s ∧ s ≤ 3) (hk : 2 ≤ k ∧ k ≤ 3) : GIt cells ⟨k, 3, s, k - 2⟩ := by
  refine ⟨by simp only; omega, ?_⟩
  unfold placedM btw
  rw [if_neg (by simp only; decide), if_neg (by simp only; decide), if_pos rfl]
  simp only [Bool.and_eq_true, decide_eq_true_eq]
  exact ⟨hs, by omega⟩
theorem placed_cell {cells : List UInt8} {k x y : Int} (hw : walkM (atM cells x y) = true) (hk : 1 ≤ k ∧ k ≤ 4) : GIt cells ⟨k, 1, x, y⟩ := by
  refine ⟨hk, ?_⟩
  unfold placedM
  rw [if_pos rfl]; exact hw
theorem GIt.at3 {cells : List UInt8} {x : Itm} (h : GIt cells x) (hw : x.whr = 3) : (0 ≤ x.a ∧ x.a ≤ 3) ∧ x.b = x.kind - 2 ∧ 2 ≤ x.kind ∧ x.kind ≤ 3 := by
  have hp := h.placed
  have hk := h.kind
  unfold placedM btw at hp
  rw [if_neg (by omega), if_neg (by omega), if_pos hw] at hp
  simp only [Bool.and_eq_true, decide_eq_true_eq] at hp
  omega
theorem GIt.at4 {cells : List UInt8} {x : Itm} (h : GIt cells x) (hw : x.whr = 4) : 1 ≤ x.kind ∧ x.kind ≤ 3 := by
  have hp := h.placed
  have hk := h.kind
  unfold placedM btw at hp
  rw [if_neg (by omega), if_neg (by omega), if_neg (by omega), if_pos hw] at hp
  simp only [Bool.and_eq_true, decide_eq_true_eq] at hp
  omega
theorem IV.bag {cells : List UInt8} {l : List Itm} (h : IV cells l) {s : Int} (hs : 0 ≤ s ∧ s ≤ 3) (hf : 0 ≤ slotM l s) (i : Nat) {k : Int} (hk : 1 ≤ k ∧ k ≤ 3) : IV cells (l.set i ⟨k, 2, s, slotM l s⟩) := by
  obtain ⟨h1, h2⟩ := slot_some hf
  exact h.set (.inr (placed_bag hs (by omega) hk)) (fun _ j y hj hy hz k => iIn_no h2 hy ⟨k.1, k.2.1, k.2.2⟩)
theorem VW.pick {d : Wd} (h : VW d) {s : Int} (hs : 0 ≤ s ∧ s ≤ 3) (e : Ent) : VW (pickD d s e) := by
  unfold pickD
  simp only
  split
  · have hg : ∀ k, 0 ≤ (d.gold.put s (min (d.gold.at s + 5) 999)).get k ∧ (d.gold.put s (min (d.gold.at s + 5) 999)).get k ≤ 999 := fun k => by
      have h1 := h.gold s.toNat
      rw [← at_get] at h1
      rcases put_get d.gold s (min (d.gold.at s + 5) 999) k with q | q
      · rw [q]; omega
      · rw [q]; exact h.gold k
    exact (h.items (l := d.items.set (iIn d.items 1 e.x e.y).toNat Itm.zero) (by simp) (h.iv.zap _)).golds hg
  · rename_i hn
    split
    · rename_i hc
      obtain ⟨i, x, h1, h2, h3, _⟩ := iIn_some (rfl : iIn d.items 1 e.x e.y = _) hc.1
      rw [h1] at hn hc ⊢
      rw [igt_of h2] at hn ⊢
      have hx := (h.iv.good h2 (by omega)).kind
      exact h.items (by simp) (h.iv.bag hs hc.2 _ (by omega))
    · exact h
theorem VW.use {d : Wd} (h : VW d) {s r : Int} {e : Ent} {i : Nat} (hr : r = (i : Int)) (he : d.ents[i]? = some e) (hk : e.kind ≠ 0) : VW (useD d s r e) := by
  unfold useD
  simp only
  split
  · subst hr
    rw [Int.toNat_natCast]
    have hw := h.ev.rowOf he hk
    have hh := hw.hp
    have ha := hw.ail
    have hv := h.ev.same (i := i) (e' := { e with hp := min (e.hp + 6) e.max, poison := 0 }) he ⟨hw.kind, hw.walk, by simp only; omega, hw.st, by simp only; omega, hw.gen, hw.seat⟩ rfl ⟨rfl, rfl⟩ rfl
    exact (h.items (l := d.items.set (hasM d.items s 1 1).toNat Itm.zero) (by simp) (h.iv.zap _)).ents (by simp) hv
  · exact h
theorem VW.wear {d : Wd} (h : VW d) {s : Int} (hs : 0 ≤ s ∧ s ≤ 3) : VW (wearD d s) := by
  unfold wearD
  simp only
  split
  · rename_i hc
    obtain ⟨i, x, h1, h2, h3, h4, h5, h6, h7, h8⟩ := has_some hc
    rw [h1, igt_of h2, Int.toNat_natCast]
    have hgx := h.iv.good h2 (by omega)
    have hxz : x.isZ = false := nz_of (by omega)
    refine h.items (by split <;> simp) ?_
    have hnew : ({ x with whr := 3, b := x.kind - 2 } : Itm) = ⟨x.kind, 3, s, x.kind - 2⟩ := by rw [← h4]
    rw [hnew]
    by_cases hw : 0 ≤ iIn d.items 3 s (x.kind - 2)
    · rw [if_pos hw]
      obtain ⟨j, y, k1, k2, k3, k4, k5⟩ := iIn_some (rfl : iIn d.items 3 s (x.kind - 2) = _) hw
      rw [k1, igt_of k2, Int.toNat_natCast]
      have hij : i ≠ j := fun q => by
        subst q
        rw [h2] at k2
        obtain rfl : x = y := by simpa using k2
        omega
      have hgy := (h.iv.good k2 (by omega)).at3 k3
      have hy : ({ y with whr := 2, b := x.b } : Itm) = ⟨y.kind, 2, s, x.b⟩ := by rw [← k4]
      rw [hy]
      have hyz : y.isZ = false := nz_of (by omega)
      have hl : ∀ (p : Nat) (z : Itm), (d.items.set j ⟨y.kind, 2, s, x.b⟩)[p]? = some z → (p = j ∧ z = ⟨y.kind, 2, s, x.b⟩) ∨ (p ≠ j ∧ d.items[p]? = some z) := fun p z hz => by
        rw [List.getElem?_set] at hz
        by_cases hp : j = p
        · rw [if_pos hp] at hz
          split at hz
          · exact .inl ⟨hp.symm, by simpa using hz.symm⟩
          · cases hz
        · rw [if_neg hp] at hz; exact .inr ⟨fun q => hp q.symm, hz⟩
      have hout : ∀ (p : Nat) (z : Itm), p ≠ i → p ≠ j → d.items[p]? = some z → z.isZ = false → ¬ (z.whr = 3 ∧ z.a = s ∧ z.b = x.kind - 2) ∧ ¬ (z.whr = 2 ∧ z.a = s ∧ z.b = x.b) := fun p z hpi hpj hz hz0 =>
        ⟨fun q => h.iv.dis p j z y hpj hz k2 hz0 hyz ⟨by omega, by omega, by omega⟩, fun q => h.iv.dis p i z x hpi hz h2 hz0 hxz ⟨by omega, by omega, by omega⟩⟩
      have key : ∀ (p : Nat) (z : Itm), ((d.items.set j ⟨y.kind, 2, s, x.b⟩).set i ⟨x.kind, 3, s, x.kind - 2⟩)[p]? = some z → (p = i ∧ z = ⟨x.kind, 3, s, x.kind - 2⟩) ∨ (p ≠ i ∧ p = j ∧ z = ⟨y.kind, 2, s, x.b⟩) ∨ (p ≠ i ∧ p ≠ j ∧ d.items[p]? = some z) := fun p z hz => by
        rw [List.getElem?_set] at hz
        by_cases hp : i = p
        · rw [if_pos hp] at hz
          split at hz
          · exact .inl ⟨hp.symm, by simpa using hz.symm⟩
          · cases hz
        · rw [if_neg hp] at hz
          rcases hl p z hz with q | q
          · exact .inr (.inl ⟨fun r => hp r.symm, q⟩)
          · exact .inr (.inr ⟨fun r => hp r.symm, q⟩)
      refine ⟨fun z hz => ?_, fun p q z u hpq hz hu hz0 hu0 => ?_⟩
      · obtain ⟨p, hp⟩ := List.mem_iff_getElem?.1 hz
        rcases key p z hp with ⟨_, rfl⟩ | ⟨_, _, rfl⟩ | ⟨_, _, q⟩
        · exact .inr (placed_worn hs (by omega))
        · exact .inr (placed_bag hs (by omega) (by omega))
        · exact h.iv.row z (List.mem_of_getElem? q)
      · rintro ⟨s1, s2, s3⟩
        rcases key p z hz with ⟨rfl, rfl⟩ | ⟨a1, rfl, rfl⟩ | ⟨a1, a2, a3⟩
        · rcases key q u hu with ⟨rfl, rfl⟩ | ⟨b1, rfl, rfl⟩ | ⟨b1, b2, b3⟩
          · exact hpq rfl
          · simp only at s1; omega
          · simp only at s1 s2 s3; exact (hout q u b1 b2 b3 hu0).1 ⟨s1.symm, s2.symm, s3.symm⟩
        · rcases key q u hu with ⟨rfl, rfl⟩ | ⟨b1, rfl, rfl⟩ | ⟨b1, b2, b3⟩
          · simp only at s1; omega
          · exact hpq rfl
          · simp only at s1 s2 s3; exact (hout q u b1 b2 b3 hu0).2 ⟨s1.symm, s2.symm, s3.symm⟩
        · rcases key q u hu with ⟨rfl, rfl⟩ | ⟨b1, rfl, rfl⟩ | ⟨b1, b2, b3⟩
          · simp only at s1 s2 s3; exact (hout p z a1 a2 a3 hz0).1 ⟨s1, s2, s3⟩
          · simp only at s1 s2 s3; exact (hout p z a1 a2 a3 hz0).2 ⟨s1, s2, s3⟩
          · exact h.iv.dis p q z u hpq a3 b3 hz0 hu0 ⟨s1, s2, s3⟩
    · rw [if_neg hw]
      refine h.iv.set (.inr (placed_worn hs (by omega))) (fun _ p z hp hz hz0 q => ?_)
      simp only [sp] at q
      exact iIn_no (Int.not_le.1 hw) hz q
  · exact h
theorem VW.drop {d : Wd} (h : VW d) {s : Int} {e : Ent} (hw : walkM (atM d.cells e.x e.y) = true) : VW (dropD d s e) := by
  unfold dropD
  simp only
  split
  · rename_i hc
    obtain ⟨i, x, h1, h2, h3, h4, h5, h6, h7, h8⟩ := has_some hc.1
    rw [h1, igt_of h2, Int.toNat_natCast]
    exact h.items (by simp) (h.iv.set (.inr (placed_cell hw (by omega))) (fun _ p z hp hz hz0 q => iIn_no hc.2 hz ⟨q.1, q.2.1, q.2.2⟩))
  · exact h
theorem VW.buy {d : Wd} (h : VW d) {s : Int} (hs : 0 ≤ s ∧ s ≤ 3) (e : Ent) : VW (buyD d s e) := by
  unfold buyD
  simp only
  split
  · rename_i hc
    obtain ⟨c1, c2, c3, c4⟩ := hc
    rcases shelfF_some (l := d.items) 3 0 (by omega) with k | ⟨i, x, h1, h2, h3⟩
    · omega
    · rw [h1, igt_of h2, Int.toNat_natCast]
      have hk := (h.iv.good h2 (by omega)).at4 h3
      have hg : ∀ k, 0 ≤ (d.gold.put s (d.gold.at s - 5)).get k ∧ (d.gold.put s (d.gold.at s - 5)).get k ≤ 999 := fun k => by
        have h1 := h.gold s.toNat
        rw [← at_get] at h1
        rcases put_get d.gold s (d.gold.at s - 5) k with q | q
        · rw [q]; omega
        · rw [q]; exact h.gold k
      exact (h.items (by simp) (h.iv.bag hs c3 i hk)).golds hg
  · exact h
theorem VW.does {d : Wd} (h : VW d) (s input : Int) : VW (doM d s input) := by
  unfold doM
  simp only
  split
  · exact h
  · rename_i hc
    obtain ⟨i, e, h1, h2, h3, h4⟩ := eHero_some (rfl : eHero d.ents s = _) (by omega)
    have he : egt d.ents (eHero d.ents s) = e := by rw [h1]; exact egt_of h2
    rw [he]
    have hs : 0 ≤ s ∧ s ≤ 3 := by omega
    split
    · exact h.pick hs e
    · split
      · exact h.use h1 h2 (by omega)
      · split
        · exact h.wear hs
        · split
          · exact h.drop (h.ev.rowOf h2 (by omega)).walk
          · split
            · exact h.buy hs e
            · exact h
theorem sweepOne_z (s : Int) (x : Itm) : (sweepOne s x).isZ = true ∨ sweepOne s x = x := by
  unfold sweepOne
  split
  · exact .inl rfl
  · exact .inr rfl
theorem VW.sweep {d : Wd} (h : VW d) (s : Int) : VW (sweepM d s) :=
  h.items (by simp) (h.iv.mapZ (sweepOne_z s) (fun x hx => (sweepOne_z s x).imp id (fun k => by rw [k]; exact hx)))
theorem VW.hurt {d : Wd} (h : VW d) (r n : Int) : VW (hurtM d r n) := by
  unfold hurtM
  simp only
  split
  · exact h
  · rename_i hc
    obtain ⟨i, hi, he⟩ := egt_some (l := d.ents) (r := r) (by omega)
    obtain ⟨e, hee⟩ : ∃ q, egt d.ents r = q := ⟨_, rfl⟩
    rw [hee] at he hc ⊢
    split
    · rename_i hn
      subst hi
      rw [Int.toNat_natCast]
      have hw := h.ev.rowOf he (by omega)
      have hh := hw.hp
      exact h.ents (by simp) (h.ev.same he ⟨hw.kind, hw.walk, by simp only; omega, hw.st, hw.ail, hw.gen, hw.seat⟩ rfl ⟨rfl, rfl⟩ rfl)
    · have h2 : VW { d with ents := freeE d.ents r } := h.ents (by unfold Go.Ad.freeE; split <;> simp) (h.ev.freeE r)
      split
      · exact h2.sweep e.seat
      · exact h2
theorem VW.marks {d : Wd} (h : VW d) (k f t : Int) : VW (marksE d k f t) := by
  unfold marksE
  simp only
  split
  · exact h
  · rename_i hc
    obtain ⟨i, hi, he⟩ := egt_some (l := d.ents) (r := t) (by omega)
    obtain ⟨e, hee⟩ : ∃ q, egt d.ents t = q := ⟨_, rfl⟩
    rw [hee] at he hc ⊢
    have hw := h.ev.rowOf he (by omega)
    have ha := hw.ail
    subst hi
    rw [Int.toNat_natCast]
    split
    · exact h.ents (by simp) (h.ev.same he ⟨hw.kind, hw.walk, hw.hp, hw.st, by simp only; omega, hw.gen, hw.seat⟩ rfl ⟨rfl, rfl⟩ rfl)
    · split
      · exact h.ents (by simp) (h.ev.same he ⟨hw.kind, hw.walk, hw.hp, hw.st, by simp only; omega, hw.gen, hw.seat⟩ rfl ⟨rfl, rfl⟩ rfl)
      · exact h
theorem VW.hit {d : Wd} (h : VW d) (f t : Int) : VW (hitM d f t) := by
  unfold hitM
  split
  · exact h
  · exact (h.hurt _ _).marks _ _ _
theorem VW.ailOne {d : Wd} (h : VW d) (i : Nat) : VW (ailOne d i) := by
  unfold Go.Ad.ailOne
  simp only
  split
  · exact h
  · rename_i hc
    obtain ⟨j, hj, he⟩ := egt_some (l := d.ents) (r := (i : Int)) hc
    obtain rfl : i = j := by omega
    obtain ⟨e, hee⟩ : ∃ q, egt d.ents (i : Int) = q := ⟨_, rfl⟩
    rw [hee] at he hc ⊢
    have hw := h.ev.rowOf he hc
    have ha := hw.ail
    have h1 : ERow d.cells (if 0 < e.stun then { e with stun := e.stun - 1 } else e) ∧ (if 0 < e.stun then { e with stun := e.stun - 1 } else e).kind = e.kind ∧ (if 0 < e.stun then { e with stun := e.stun - 1 } else e).x = e.x ∧ (if 0 < e.stun then { e with stun := e.stun - 1 } else e).y = e.y ∧ (if 0 < e.stun then { e with stun := e.stun - 1 } else e).seat = e.seat := by
      split
      · exact ⟨⟨hw.kind, hw.walk, hw.hp, hw.st, by simp only; omega, hw.gen, hw.seat⟩, rfl, rfl, rfl, rfl⟩
      · exact ⟨hw, rfl, rfl, rfl, rfl⟩
    obtain ⟨e1, he1⟩ : ∃ q, (if 0 < e.stun then { e with stun := e.stun - 1 } else e) = q := ⟨_, rfl⟩
    rw [he1] at h1 ⊢
    obtain ⟨k1, k2, k3, k4, k5⟩ := h1
    split
    · rename_i hp
      have hq : EV d.cells (d.ents.set i { e1 with poison := e.poison - 1 }) := h.ev.same he ⟨k1.kind, k1.walk, k1.hp, k1.st, by have := k1.ail; simp only; omega, k1.gen, k1.seat⟩ k2 ⟨k3, k4⟩ k5
      exact VW.hurt (h.ents (l := d.ents.set i { e1 with poison := e.poison - 1 }) (by simp) hq) _ _
    · exact h.ents (by simp) (h.ev.same he k1 k2 ⟨k3, k4⟩ k5)
theorem VW.ail {d : Wd} (h : VW d) : ∀ n, VW (ailF d n)
  | 0 => h
  | n + 1 => (VW.ail h n).ailOne n
theorem VW.act {d : Wd} (h : VW d) {r : Int} (hr : (egt d.ents r).kind ≠ 0) (k : Int) (foe : Bool) : VW (actM d r k foe) := by
  unfold actM
  simp only
  split
  · exact h
  · split
    · split
      · exact h.hit _ _
      · exact h
    · rename_i hat
      split
      · rename_i hwk
        obtain ⟨i, hi, he⟩ := egt_some hr
        obtain ⟨e, hee⟩ : ∃ q, egt d.ents r = q := ⟨_, rfl⟩
        rw [hee] at he hr hat hwk ⊢
        have hw := h.ev.rowOf he hr
        subst hi
        rw [Int.toNat_natCast]
        refine h.ents (by simp) (h.ev.set (.inr ⟨hw.kind, hwk, hw.hp, hw.st, hw.ail, hw.gen, hw.seat⟩) (fun _ j f hj hf hf0 => ?_) (fun h1 j f hj hf hf0 => ?_))
        · exact eAt_no (Int.not_le.1 hat) hf hf0
        · exact h.ev.hero j i f e hj hf he hf0 h1
      · exact h
theorem VW.foe {d : Wd} (h : VW d) (i : Nat) : VW (foeM d i) := by
  unfold foeM
  simp only
  split
  · exact h
  · rename_i hc
    exact h.act (fun k => hc (.inl k)) _ _
theorem VW.foes {d : Wd} (h : VW d) : ∀ n, VW (foesW d n)
  | 0 => h
  | n + 1 => (VW.foes h n).foe n
theorem VW.seat {p : Wd × Bool} (h : VW p.1) (a : Deed) (s : Int) : VW (seatM p a s).1 := by
  unfold seatM
  simp only
  split
  · exact h
  · rename_i hc
    obtain ⟨i, e, h1, h2, h3, h4⟩ := eHero_some (rfl : eHero p.1.ents s = _) (by omega)
    generalize (if a.how = 2 then robotM p.1 s else a.input) = q
    split
    · exact h.act (by rw [h1, egt_of h2]; omega) _ _
    · split
      · exact h
      · exact h.does _ _
theorem VW.seats {d : Wd} (h : VW d) (a : Acts) : ∀ n, VW (seatsM d a n).1
  | 0 => h
  | n + 1 => (VW.seats h a n).seat _ _
end Go.Proofs.YtcogbkkdccohfaaGreat
namespace Go.Proofs.YtcogbkkdccohfaaGreat
open Go.RowKit Go.Ad Go.Maps
set_option linter.unusedVariables false
set_option linter.unusedSimpArgs false
theorem lt_or_le' (a b : Int) : a < b ∨ b ≤ a := by omega
abbrev wk (cells : List UInt8) (i : Nat) : Prop := walkM (atM cells ((i : Int) % 24) ((i : Int) / 24)) = true
def FW (cells : List UInt8) (f : List Int) : Prop := f.length = 384 ∧ ∀ i, i < 384 → 0 ≤ getI f i → wk cells i
theorem FW.set {cells : List UInt8} {f : List Int} (h : FW cells f) {k : Nat} {v : Int} (hw : wk cells k) : FW cells (f.set k v) := by
  refine ⟨by rw [List.length_set]; exact h.1, fun i hi h0 => ?_⟩
  by_cases hk : k < f.length
  · rw [getI_set hk] at h0
    by_cases he : k = i
    · rw [← he]; exact hw
    · rw [if_neg he] at h0; exact h.2 i hi h0
  · rw [List.set_eq_of_length_le (by omega)] at h0; exact h.2 i hi h0
theorem FW.try {cells : List UInt8} {bl : List Bool} {i : Nat} {st : List Int × List Nat} (h : FW cells st.1) (d : Nat) : FW cells (tryD cells bl i st d).1 := by
  unfold tryD
  split
  · rename_i ho
    simp only [opens, Bool.and_eq_true, decide_eq_true_eq] at ho
    have h1 := ho.1.1.1
    have h2 := ho.1.2
    simp only [inM, decide_eq_true_eq] at h1
    refine h.set ?_
    show walkM (atM cells _ _) = true
    rw [show (((((nbM i d).2 * 24 + (nbM i d).1).toNat : Nat) : Int) % 24) = (nbM i d).1 by omega, show (((((nbM i d).2 * 24 + (nbM i d).1).toNat : Nat) : Int) / 24) = (nbM i d).2 by omega]
    exact h2
  · exact h
theorem FW.tries {cells : List UInt8} {bl : List Bool} {i : Nat} {st : List Int × List Nat} (h : FW cells st.1) : ∀ d, FW cells (triesM cells bl i st d).1
  | 0 => h
  | d + 1 => (FW.tries h d).try d
theorem FW.bfs {cells : List UInt8} {bl : List Bool} : ∀ (n k : Nat) (st : List Int × List Nat), FW cells st.1 → FW cells (bfs cells bl n k st)
  | 0, _, _, h => h
  | n + 1, k, st, h => by
    rw [Go.Ad.bfs]
    split
    · exact h
    · exact FW.bfs n (k + 1) _ (h.tries 4)
theorem FW.mark {cells : List UInt8} {f : List Int} (h : FW cells f) (t : Int) : FW cells (markM cells f t) := by
  unfold markM
  split
  · rename_i hc
    refine h.set ?_
    show walkM (atM cells _ _) = true
    rw [show ((t.toNat : Nat) : Int) = t by omega]
    exact hc.2.2
  · exact h
theorem FW.marks {cells : List UInt8} : ∀ (ts : List Int) (f : List Int), FW cells f → FW cells (ts.foldl (markM cells) f)
  | [], f, h => h
  | t :: r, f, h => FW.marks r _ (h.mark t)
theorem field_walk (cells : List UInt8) (bl : List Bool) (ts : List Int) : FW cells (fieldM cells bl ts) := by
  unfold fieldM
  refine FW.bfs _ _ _ (FW.marks ts _ ⟨List.length_replicate, fun i hi h0 => ?_⟩)
  unfold getI at h0
  rw [List.getD_eq_getElem?_getD, List.getElem?_replicate, if_pos hi] at h0
  exact absurd h0 (by decide)
theorem spotF_at {f : List Int} {l : List Ent} : ∀ {n : Nat} {r : Int}, spotF f l n = r → 0 ≤ r → r < n ∧ 0 ≤ getI f r.toNat ∧ eAt l (r % 24) (r / 24) < 0
  | 0, r, h, h0 => by simp only [spotF] at h; omega
  | n + 1, r, h, h0 => by
    simp only [spotF] at h
    split at h
    · rename_i hc
      subst h
      refine ⟨by omega, by rw [Int.toNat_natCast]; exact hc.1, ?_⟩
      have := hc.2.1
      rw [show ((n % 24 : Nat) : Int) = (n : Int) % 24 by omega, show ((n / 24 : Nat) : Int) = (n : Int) / 24 by omega] at this
      exact this
    · obtain ⟨h1, h2⟩ := spotF_at h h0
      exact ⟨by omega, h2⟩
theorem spotF_no {f : List Int} {l : List Ent} : ∀ {n : Nat}, spotF f l n < 0 → ∀ i, i < n → 0 ≤ getI f i → 0 ≤ eAt l ((i : Int) % 24) ((i : Int) / 24)
  | 0, _, i, hi, _ => by omega
  | n + 1, h, i, hi, h0 => by
    simp only [spotF] at h
    split at h
    · omega
    · rename_i hc
      by_cases he : i = n
      · subst he
        rw [show ((i % 24 : Nat) : Int) = (i : Int) % 24 by omega, show ((i / 24 : Nat) : Int) = (i : Int) / 24 by omega] at hc
        rcases lt_or_le' (eAt l ((i : Int) % 24) ((i : Int) / 24)) 0 with k | k
        · exact absurd ⟨h0, k, .inl h⟩ hc
        · exact k
      · exact spotF_no h i (by omega) h0
theorem spot_at {cells : List UInt8} {l : List Ent} {x y r : Int} (h : spotM cells l x y = r) (h0 : 0 ≤ r) : r < 384 ∧ walkM (atM cells (r % 24) (r / 24)) = true ∧ eAt l (r % 24) (r / 24) < 0 := by
  unfold spotM at h
  split at h
  · omega
  · obtain ⟨h1, h2, h3⟩ := spotF_at h h0
    have := (field_walk cells [] [y * 24 + x]).2 r.toNat (by omega) h2
    unfold wk at this
    rw [show ((r.toNat : Nat) : Int) = r by omega] at this
    exact ⟨by omega, this, h3⟩
theorem hero_at {cells : List UInt8} {l : List Ent} {e : Ent} (h : (heroM cells l e).2 = true) : ∃ x y, (heroM cells l e).1 = { e with x := x, y := y } ∧ walkM (atM cells x y) = true ∧ eAt l x y < 0 := by
  unfold heroM at h ⊢
  simp only at h ⊢
  split at h
  · cases h
  · rename_i h1
    split at h
    · cases h
    · rename_i h2
      rw [if_neg h1, if_neg h2]
      obtain ⟨k1, k2, k3⟩ := spot_at (rfl : spotM cells l (findM cells 3 % 24) (findM cells 3 / 24) = _) (by omega)
      exact ⟨_, _, rfl, k2, k3⟩
theorem EV.come {cells : List UInt8} {l : List Ent} (h : EV cells l) (a : Acts) {s : Nat} (hs : s < 4) : EV cells (comeM cells l a s) := by
  unfold comeM
  simp only
  split
  · rename_i hc
    split
    · rename_i h2
      obtain ⟨x, y, h3, h4, h5⟩ := hero_at h2
      rw [h3]
      refine h.spawned ⟨by simp only; decide, h4, by simp only; decide, ⟨rfl, rfl, rfl⟩, by simp only; decide, by simp only; decide, ⟨fun _ => by simp only; omega, fun k => absurd rfl k⟩⟩ h5 (fun _ => hc.2)
    · exact h
  · exact h
theorem come_len (cells : List UInt8) (l : List Ent) (a : Acts) (s : Nat) : (comeM cells l a s).length = l.length := by
  unfold comeM
  simp only
  split
  · split
    · exact spawnedM_len _ _
    · rfl
  · rfl
theorem comes_len (cells : List UInt8) (l : List Ent) (a : Acts) : ∀ s, (comesM cells l a s).length = l.length
  | 0 => rfl
  | s + 1 => by rw [comesM, come_len, comes_len cells l a s]
theorem EV.comes {cells : List UInt8} {l : List Ent} (h : EV cells l) (a : Acts) : ∀ s, s ≤ 4 → EV cells (comesM cells l a s)
  | 0, _ => h
  | s + 1, hs => (EV.comes h a s (by omega)).come a (by omega)
theorem find_at {cells : List UInt8} {k r : Int} (h : findM cells k = r) (h0 : 0 ≤ r) : ∃ i : Nat, r = (i : Int) ∧ i < 384 ∧ i < cells.length ∧ byteAt cells i = k := by
  unfold findM at h
  obtain ⟨i, a, h1, h2, h3⟩ := fnd_some h h0
  have hl := (List.getElem?_eq_some_iff.1 h2).1
  rw [List.length_take] at hl
  rw [List.getElem?_take_of_lt (by omega)] at h2
  refine ⟨i, h1, by omega, by omega, ?_⟩
  rw [byteAt_of h2]; exact of_decide_eq_true h3
theorem wk_byte {cells : List UInt8} {i : Nat} (hi : i < 384) (hl : cells.length = 384) (hb : 1 ≤ byteAt cells i ∧ byteAt cells i ≤ 5) : wk cells i :=
  walk1 (x := (i : Int) % 24) (y := (i : Int) / 24) (k := i) (by simp only [inM, decide_eq_true_eq]; omega) (by omega) hl hb
theorem VW.rat {d : Wd} (h : VW d) : VW (ratM d) := by
  unfold ratM
  simp only
  split
  · split
    · rename_i hc
      obtain ⟨i, h1, h2, h3, h4⟩ := find_at (rfl : findM d.cells 3 = _) hc.1
      rw [h1] at hc ⊢
      refine h.ents (spawnedM_len _ _) (h.ev.spawned ⟨by simp only; decide, wk_byte h2 h.sz.1 (by omega), by simp only; decide, ⟨rfl, rfl, rfl⟩, by simp only; decide, by simp only; decide, ⟨fun k => absurd k (by simp only; decide), fun _ => rfl⟩⟩ hc.2 (fun k => absurd k (by simp only; decide)))
    · exact h
  · exact h
theorem zeros_one {f : List Int} {up : Nat} (hu : up < 384) (hg : ∀ q, q < 384 → getI f q = if up = q then 0 else -1) : zerosM f 384 = [up] := by
  have key : ∀ n, n ≤ 384 → zerosM f n = if up < n then [up] else [] := by
    intro n
    induction n with
    | zero => intro _; rfl
    | succ n ih =>
      intro hn
      unfold zerosM at *
      rw [List.range_succ, List.filter_append, ih (by omega), List.filter_cons, List.filter_nil, hg n (by omega)]
      by_cases hq : up = n
      · subst hq; simp
      · by_cases hq2 : up < n
        · simp [hq, hq2, show up < n + 1 by omega]
        · simp [hq, hq2, show ¬ up < n + 1 by omega]
  rw [key 384 (Nat.le_refl _), if_pos hu]
theorem tryD_done {cells : List UInt8} {i : Nat} {st : List Int × List Nat} {d : Nat} (hl : st.1.length = 384) (h0 : 0 ≤ getI st.1 i) (hin : inM (nbM i d).1 (nbM i d).2 = true) (hw : walkM (atM cells (nbM i d).1 (nbM i d).2) = true) : 0 ≤ getI (tryD cells [] i st d).1 ((nbM i d).2 * 24 + (nbM i d).1).toNat := by
  have hk := nb_in hin
  unfold tryD
  split
  · simp only
    rw [getI_set (by omega), if_pos rfl]; omega
  · rename_i ho
    rcases lt_or_le' (getI st.1 ((nbM i d).2 * 24 + (nbM i d).1).toNat) 0 with k | k
    · refine absurd ?_ ho
      unfold opens
      rw [hin, hw]
      simp [k]
    · exact k
theorem tries_done {cells : List UInt8} {i : Nat} {st : List Int × List Nat} {d : Nat} (hl : st.1.length = 384) (h0 : 0 ≤ getI st.1 i) (hin : inM (nbM i d).1 (nbM i d).2 = true) (hw : walkM (atM cells (nbM i d).1 (nbM i d).2) = true) : ∀ n, d < n → 0 ≤ getI (triesM cells [] i st n).1 ((nbM i d).2 * 24 + (nbM i d).1).toNat
  | 0, h => by omega
  | n + 1, h => by
    by_cases he : d = n
    · subst he
      exact tryD_done (by rw [tries_len]; exact hl) (by rw [tries_keep h0]; exact h0) hin hw
    · have ih := tries_done hl h0 hin hw n (by omega)
      rw [triesM, tryD_keep ih]; exact ih
theorem field_nb {cells : List UInt8} {up : Nat} (hu : up < 384) (hw : wk cells up) : 0 ≤ getI (fieldM cells [] [(up : Int)]) up ∧ ∀ d, d < 4 → inM (nbM up d).1 (nbM up d).2 = true → walkM (atM cells (nbM up d).1 (nbM up d).2) = true → 0 ≤ getI (fieldM cells [] [(up : Int)]) ((nbM up d).2 * 24 + (nbM up d).1).toNat := by
  have hmarks : marksM cells [(up : Int)] = (List.replicate 384 (-1 : Int)).set up 0 := by
    rw [marksM, List.foldl_cons, List.foldl_nil, markM, if_pos ⟨by omega, by omega, hw⟩, Int.toNat_natCast]
  have hg : ∀ q, q < 384 → getI (marksM cells [(up : Int)]) q = if up = q then 0 else -1 := by
    intro q hq
    rw [hmarks, getI_set (by rw [List.length_replicate]; exact hu)]
    split
    · rfl
    · unfold getI
      rw [List.getD_eq_getElem?_getD, List.getElem?_replicate, if_pos hq]; rfl
  have hz := zeros_one hu hg
  obtain ⟨f0, hf0⟩ : ∃ q, marksM cells [(up : Int)] = q := ⟨_, rfl⟩
  have hl : f0.length = 384 := by rw [← hf0, hmarks, List.length_set, List.length_replicate]
  unfold fieldM
  rw [hz]
  rw [hf0] at hg ⊢
  have hup : getI f0 up = 0 := by rw [hg up hu, if_pos rfl]
  refine ⟨?_, fun d hd hin hwk => ?_⟩
  · rw [bfs_keep _ _ _ (by simp only; omega)]; simp only; omega
  · rw [bfs]
    simp only [List.getElem?_cons_zero]
    have := tries_done (cells := cells) (i := up) (st := (f0, [up])) (d := d) hl (by simp only; omega) hin hwk 4 hd
    rw [bfs_keep _ _ _ this]; exact this
theorem spot_free {cells : List UInt8} {l : List Ent} (h : EV cells l) {s : Int} (hs : s ≤ 3) (hk : ∀ (i : Nat) (e : Ent), l[i]? = some e → e.kind ≠ 0 → e.kind = 1 ∧ 0 ≤ e.seat ∧ e.seat < s) {f : List Int} {c : Nat → Nat} (hc : ∀ q, q < 4 → c q < 384 ∧ 0 ≤ getI f (c q)) (hd : ∀ p q, p < 4 → q < 4 → p ≠ q → c p ≠ c q) : 0 ≤ spotF f l 384 := by
  rcases lt_or_le' (spotF f l 384) 0 with hn | hn
  · exfalso
    have hno := spotF_no hn
    have hex : ∀ q, q < 4 → ∃ (i : Nat) (e : Ent), l[i]? = some e ∧ e.kind = 1 ∧ 0 ≤ e.seat ∧ e.seat ≤ 2 ∧ e.x = (c q : Int) % 24 ∧ e.y = (c q : Int) / 24 := fun q hq => by
      obtain ⟨h1, h2⟩ := hc q hq
      obtain ⟨i, e, k1, k2, k3, k4, k5⟩ := eAt_some rfl (hno (c q) h1 h2)
      obtain ⟨j1, j2, j3⟩ := hk i e k2 k3
      exact ⟨i, e, k2, j1, j2, by omega, k4, k5⟩
    obtain ⟨i0, e0, a0, b0, s0, t0, x0, y0⟩ := hex 0 (by omega)
    obtain ⟨i1, e1, a1, b1, s1, t1, x1, y1⟩ := hex 1 (by omega)
    obtain ⟨i2, e2, a2, b2, s2, t2, x2, y2⟩ := hex 2 (by omega)
    obtain ⟨i3, e3, a3, b3, s3, t3, x3, y3⟩ := hex 3 (by omega)
    have two : ∀ (p q : Nat) (i j : Nat) (e g : Ent), p < 4 → q < 4 → p ≠ q → l[i]? = some e → l[j]? = some g → e.kind = 1 → g.kind = 1 → e.x = (c p : Int) % 24 → e.y = (c p : Int) / 24 → g.x = (c q : Int) % 24 → g.y = (c q : Int) / 24 → e.seat ≠ g.seat := fun p q i j e g hp hq hpq hi hj he hg x1 y1 x2 y2 => by
      have hne := hd p q hp hq hpq
      refine h.hero i j e g (fun hij => ?_) hi hj he hg
      subst hij
      rw [hi] at hj
      obtain rfl : e = g := by simpa using hj
      omega
    have z01 := two 0 1 i0 i1 e0 e1 (by omega) (by omega) (by omega) a0 a1 b0 b1 x0 y0 x1 y1
    have z02 := two 0 2 i0 i2 e0 e2 (by omega) (by omega) (by omega) a0 a2 b0 b2 x0 y0 x2 y2
    have z03 := two 0 3 i0 i3 e0 e3 (by omega) (by omega) (by omega) a0 a3 b0 b3 x0 y0 x3 y3
    have z12 := two 1 2 i1 i2 e1 e2 (by omega) (by omega) (by omega) a1 a2 b1 b2 x1 y1 x2 y2
    have z13 := two 1 3 i1 i3 e1 e3 (by omega) (by omega) (by omega) a1 a3 b1 b3 x1 y1 x3 y3
    have z23 := two 2 3 i2 i3 e2 e3 (by omega) (by omega) (by omega) a2 a3 b2 b3 x2 y2 x3 y3
    omega
  · exact hn
theorem mid_arith {mx my rx ry rw_ rh_ : Int} {k0 w h : Nat} (hr : 3 ≤ rw_ ∧ rw_ ≤ 7 ∧ 2 ≤ rh_ ∧ rh_ ≤ 5 ∧ 1 ≤ rx ∧ rx + rw_ ≤ 23 ∧ 1 ≤ ry ∧ ry + rh_ ≤ 15) (hmx : mx = rx + rw_ / 2) (hmy : my = ry + rh_ / 2) (h0 : (k0 : Int) = ry * 24 + rx) (h1 : (w : Int) = rw_) (h2 : (h : Int) = rh_) {x y : Int} (hxy : (x = mx + 1 ∧ y = my) ∨ (x = mx - 1 ∧ y = my) ∨ (x = mx ∧ y = my - 1)) :
    ∃ k a b : Nat, (k : Int) = y * 24 + x ∧ k < 384 ∧ k = k0 + 24 * a + b ∧ a < h ∧ b < w := by
  refine ⟨(y * 24 + x).toNat, (y - ry).toNat, (x - rx).toNat, ?_, ?_, ?_, ?_, ?_⟩ <;> omega
theorem mid_floor (seed floor : Int) {x y : Int} (hxy : (x = midX seed floor 0 + 1 ∧ y = midY seed floor 0) ∨ (x = midX seed floor 0 - 1 ∧ y = midY seed floor 0) ∨ (x = midX seed floor 0 ∧ y = midY seed floor 0 - 1)) : ∃ k : Nat, (k : Int) = y * 24 + x ∧ k < 384 ∧ byteAt (corrsM seed floor (digRooms seed floor 6) 5) k = 1 := by
  obtain ⟨k0, w, h, h0, h1, h2⟩ := room_nat seed floor 0
  obtain ⟨k, a, b, hk1, hk2, hk3, hk4, hk5⟩ := mid_arith (room_rng seed floor 0) (show midX seed floor 0 = roomX seed floor 0 + roomW seed floor 0 / 2 from rfl) (show midY seed floor 0 = roomY seed floor 0 + roomH seed floor 0 / 2 from rfl) h0 h1 h2 hxy
  refine ⟨k, hk1, hk2, ?_⟩
  refine (corrsM_h1 seed floor _ 5).2.1 _ ?_
  refine (digRooms_stays seed floor 1 5).2 _ ?_
  have c0 : ((0 : Nat) : Int) = 0 := rfl
  have hd := dig_start (seed := seed) (floor := floor) (i := 0) (k0 := k0) (rw := w) (rh := h) (by rw [c0]; exact h0) (by rw [c0]; exact h1) (by rw [c0]; exact h2)
  rw [Nat.mul_zero, Nat.add_zero] at hd
  rw [← hd]
  have hl := digRooms_len seed floor 0
  have := fillRect_one h (digRooms seed floor 0) k0 w a b hk4 hk5 (by rw [hl, ← hk3]; exact hk2)
  rw [hk3]
  exact this
theorem cells_byte (seed floor : Int) : (∀ k, byteAt (makeM seed floor).cells k = 3 ↔ k = upM seed floor) ∧ ∀ k, 1 ≤ byteAt (corrsM seed floor (digRooms seed floor 6) 5) k → 1 ≤ byteAt (makeM seed floor).cells k := by
  have hb := base_at seed floor
  have hlow := corr_low seed floor
  have hfu := far_up seed floor
  have hu := (up_eq seed floor).2
  have hfl := far_lt (distM seed floor) (up_eq seed floor).2 384 (Nat.le_refl _)
  have hbl := base_len seed floor
  have hdl := down_len seed floor
  have hdn : downM seed floor = (baseM seed floor).set (farMM seed floor) 4 := rfl
  have hso : ∀ k, shopAt seed floor = some k → byteAt (downM seed floor) k = 1 := fun k h => shopAt_one h
  have hcell : (makeM seed floor).cells = shopC (downM seed floor) (shopAt seed floor) := rfl
  obtain ⟨up, hup⟩ : ∃ q, upM seed floor = q := ⟨_, rfl⟩
  obtain ⟨far, hfar⟩ : ∃ q, farMM seed floor = q := ⟨_, rfl⟩
  have hfl : far < 384 := by rw [← hfar]; exact hfl
  obtain ⟨o, ho⟩ : ∃ q, shopAt seed floor = q := ⟨_, rfl⟩
  obtain ⟨c, hc⟩ : ∃ q, corrsM seed floor (digRooms seed floor 6) 5 = q := ⟨_, rfl⟩
  rw [hcell]
  rw [hc] at hlow hb ⊢
  rw [hup] at hb hfu hu ⊢
  rw [hfar] at hfu hdn
  rw [ho] at hso ⊢
  have hdk : ∀ k, byteAt (downM seed floor) k = if far = k then 4 else if up = k then 3 else byteAt c k := fun k => by
    rw [hdn, byteAt_put, hbl]
    by_cases hk : far = k
    · rw [if_pos ⟨hk, hfl⟩, if_pos hk]; rfl
    · rw [if_neg (fun h => hk h.1), if_neg hk, hb]
  obtain ⟨dn, hdn2⟩ : ∃ q, downM seed floor = q := ⟨_, rfl⟩
  rw [hdn2] at hdk hdl hso ⊢
  clear hcell hdn hb hbl hc
  refine ⟨fun k => ?_, fun k hk => ?_⟩
  · have hl := hlow k
    have hd := hdk k
    cases o with
    | none =>
      simp only [shopC]
      rw [hd]
      split
      · constructor <;> intro h <;> omega
      · split <;> constructor <;> intro h <;> omega
    | some z =>
      simp only [shopC]
      have hz := hso z rfl
      rw [byteAt_put]
      by_cases hq : z = k ∧ z < dn.length
      · rw [if_pos hq]
        have e5 : ((5 : UInt8).toNat : Int) = 5 := rfl
        rw [e5]
        constructor
        · intro h; omega
        · intro h
          rw [hdk] at hz
          rw [if_neg (by omega), if_pos (by omega)] at hz
          omega
      · rw [if_neg hq, hd]
        split
        · constructor <;> intro h <;> omega
        · split <;> constructor <;> intro h <;> omega
  · have hd := hdk k
    have hge : 1 ≤ byteAt dn k := by
      rw [hd]
      split
      · omega
      · split <;> omega
    cases o with
    | none => exact hge
    | some z =>
      simp only [shopC]
      rw [byteAt_put]
      split
      · have e5 : ((5 : UInt8).toNat : Int) = 5 := rfl
        rw [e5]; omega
      · exact hge
theorem fnd_only {α : Type} {p : α → Bool} {l : List α} {i : Nat} {a : α} (h : l[i]? = some a) (hp : p a = true) (hu : ∀ (j : Nat) (b : α), l[j]? = some b → p b = true → j = i) : fnd p l 0 = (i : Int) := by
  rcases fnd_lt (p := p) l 0 with k | ⟨j, b, h1, h2, h3⟩
  · have := fnd_neg k a (List.mem_of_getElem? h)
    rw [hp] at this; cases this
  · rw [h1, hu j b h2 h3]; omega
theorem find_up (seed floor : Int) : findM (makeM seed floor).cells 3 = (upM seed floor : Int) := by
  have hu := (up_eq seed floor).2
  have hl := make_len seed floor
  have hb := (cells_byte seed floor).1
  obtain ⟨up, hup⟩ : ∃ q, upM seed floor = q := ⟨_, rfl⟩
  obtain ⟨cs, hcs⟩ : ∃ q, (makeM seed floor).cells = q := ⟨_, rfl⟩
  rw [hup, hcs] at hb
  rw [hup] at hu
  rw [hcs] at hl
  rw [hup, hcs]
  unfold findM
  rw [List.take_of_length_le (by omega)]
  obtain ⟨a, ha⟩ := take_lt (show up < cs.length by omega)
  have h3 := (hb up).2 rfl
  rw [byteAt_of ha] at h3
  refine fnd_only ha (decide_eq_true h3) (fun j b hj hp => (hb j).1 ?_)
  rw [byteAt_of hj]; exact of_decide_eq_true hp
theorem hero_spot (seed floor : Int) {l : List Ent} (h : EV (makeM seed floor).cells l) {s : Int} (hs : s ≤ 3) (hk : ∀ (i : Nat) (e : Ent), l[i]? = some e → e.kind ≠ 0 → e.kind = 1 ∧ 0 ≤ e.seat ∧ e.seat < s) (e : Ent) : (heroM (makeM seed floor).cells l e).2 = true := by
  have hfu := find_up seed floor
  obtain ⟨hue, hu⟩ := up_eq seed floor
  have hm := mid_rng seed floor 0
  obtain ⟨k1, a1, a2, a3⟩ := mid_floor seed floor (.inl ⟨rfl, rfl⟩)
  obtain ⟨k2, b1, b2, b3⟩ := mid_floor seed floor (.inr (.inl ⟨rfl, rfl⟩))
  obtain ⟨k3, d1, d2, d3⟩ := mid_floor seed floor (.inr (.inr ⟨rfl, rfl⟩))
  obtain ⟨hb3, hb1⟩ := cells_byte seed floor
  have hl := make_len seed floor
  have hlow := (make_cells seed floor).1
  obtain ⟨mx, hmx⟩ : ∃ q, midX seed floor 0 = q := ⟨_, rfl⟩
  obtain ⟨my, hmy⟩ : ∃ q, midY seed floor 0 = q := ⟨_, rfl⟩
  rw [hmx, hmy] at hue hm
  rw [hmx, hmy] at a1 b1 d1
  have w1 := hb1 k1 (by rw [a3]; exact Int.le_refl _)
  have w2 := hb1 k2 (by rw [b3]; exact Int.le_refl _)
  have w3 := hb1 k3 (by rw [d3]; exact Int.le_refl _)
  have w0 := (hb3 (upM seed floor)).2 rfl
  obtain ⟨up, hup⟩ : ∃ q, upM seed floor = q := ⟨_, rfl⟩
  obtain ⟨cs, hcs⟩ : ∃ q, (makeM seed floor).cells = q := ⟨_, rfl⟩
  rw [hcs] at h hfu hl hlow w0 w1 w2 w3
  rw [hup] at hue hu w0 hfu
  rw [hcs]
  clear hb1 hb3 a3 b3 d3 hcs hup hmx hmy
  have wu : wk cs up := wk_byte hu hl (by omega)
  obtain ⟨f0, fn⟩ := field_nb hu wu
  have nb0 : nbM up 0 = (mx, my - 1) := by unfold nbM; simp only [Prod.mk.injEq]; omega
  have nb1 : nbM up 1 = (mx + 1, my) := by unfold nbM; simp only [Prod.mk.injEq]; omega
  have nb3 : nbM up 3 = (mx - 1, my) := by unfold nbM; simp only [Prod.mk.injEq]; omega
  have g0 := fn 0 (by omega)
  have g1 := fn 1 (by omega)
  have g3 := fn 3 (by omega)
  rw [nb0] at g0
  rw [nb1] at g1
  rw [nb3] at g3
  simp only at g0 g1 g3
  have q0 := g0 (by simp only [inM, decide_eq_true_eq]; omega) (walk1 (k := k3) (by simp only [inM, decide_eq_true_eq]; omega) (by omega) hl ⟨w3, hlow k3⟩)
  have q1 := g1 (by simp only [inM, decide_eq_true_eq]; omega) (walk1 (k := k1) (by simp only [inM, decide_eq_true_eq]; omega) (by omega) hl ⟨w1, hlow k1⟩)
  have q3 := g3 (by simp only [inM, decide_eq_true_eq]; omega) (walk1 (k := k2) (by simp only [inM, decide_eq_true_eq]; omega) (by omega) hl ⟨w2, hlow k2⟩)
  rw [show ((my - 1) * 24 + mx).toNat = k3 by omega] at q0
  rw [show (my * 24 + (mx + 1)).toNat = k1 by omega] at q1
  rw [show (my * 24 + (mx - 1)).toNat = k2 by omega] at q3
  have hsp := spot_free h hs hk (f := fieldM cs [] [(up : Int)]) (c := fun q => match q with | 0 => up | 1 => k1 | 2 => k2 | _ => k3) (fun q hq => by
    rcases q with _ | _ | _ | q
    · exact ⟨hu, f0⟩
    · exact ⟨a2, q1⟩
    · exact ⟨b2, q3⟩
    · exact ⟨d2, q0⟩) (fun p q hp hq hpq => by
    rcases p with _ | _ | _ | _ | p <;> rcases q with _ | _ | _ | _ | q <;> simp only <;> omega)
  unfold heroM
  simp only
  have hs2 : spotM cs l ((up : Int) % 24) ((up : Int) / 24) = spotF (fieldM cs [] [(up : Int)]) l 384 := by
    unfold spotM
    rw [if_neg (by rw [Bool.not_eq_false]; simp only [inM, decide_eq_true_eq]; omega), show (up : Int) / 24 * 24 + (up : Int) % 24 = (up : Int) by omega]
  rw [hfu, if_neg (by omega), hs2, if_neg (by omega)]
theorem placeF_len (cells : List UInt8) (old l : List Ent) : ∀ n, (placeF cells old l n).length = l.length
  | 0 => rfl
  | n + 1 => by
    have := placeF_len cells old l n
    simp only [placeF]
    split
    · exact this
    · rw [List.length_set]; exact this
theorem free_ev {c1 c2 : List UInt8} {l : List Ent} (h : EV c1 l) : EV c2 (freeF l) ∧ ∀ (i : Nat) (e : Ent), (freeF l)[i]? = some e → e.kind = 0 := by
  have key : ∀ (i : Nat) (e : Ent), (freeF l)[i]? = some e → EFree e := fun i e he => by
    unfold freeF at he
    rw [List.getElem?_map] at he
    obtain ⟨e0, h1, rfl⟩ := Option.map_eq_some_iff.1 he
    exact ⟨rfl, show 0 ≤ e0.gen ∧ e0.gen ≤ 255 from h.gen h1⟩
  refine ⟨⟨fun i e he => .inl (key i e he), fun i j e f _ he hf h0 => absurd (key i e he).kind h0, fun i j e f _ he hf h0 => ?_⟩, fun i e he => (key i e he).kind⟩
  have := (key i e he).kind
  omega
theorem place_ev (seed floor : Int) {c1 : List UInt8} {old : List Ent} (h : EV c1 old) : ∀ n : Nat, n ≤ 4 → EV (makeM seed floor).cells (placeF (makeM seed floor).cells old (freeF old) n) ∧ ∀ (i : Nat) (e : Ent), (placeF (makeM seed floor).cells old (freeF old) n)[i]? = some e → e.kind ≠ 0 → e.kind = 1 ∧ 0 ≤ e.seat ∧ e.seat < n
  | 0, _ => ⟨(free_ev h).1, fun i e he h0 => absurd ((free_ev (c2 := c1) h).2 i e he) h0⟩
  | n + 1, hn => by
    obtain ⟨h1, h2⟩ := place_ev seed floor h n (by omega)
    simp only [placeF]
    obtain ⟨cs, hcs⟩ : ∃ q, (makeM seed floor).cells = q := ⟨_, rfl⟩
    have hsp := hero_spot seed floor h1 (s := n) (by omega) h2
    rw [hcs] at h1 h2 hsp ⊢
    obtain ⟨m, hm⟩ : ∃ q, placeF cs old (freeF old) n = q := ⟨_, rfl⟩
    rw [hm] at h1 h2 hsp ⊢
    split
    · exact ⟨h1, fun i e he h0 => by obtain ⟨k1, k2, k3⟩ := h2 i e he h0; exact ⟨k1, k2, by omega⟩⟩
    · rename_i hc
      obtain ⟨i, e, k1, k2, k3, k4⟩ := eHero_some (rfl : eHero old n = _) (by omega)
      rw [k1, egt_of k2, Int.toNat_natCast]
      obtain ⟨x, y, q1, q2, q3⟩ := hero_at (hsp e)
      rw [q1]
      have hw := h.rowOf k2 (by omega)
      refine ⟨h1.set (.inr ⟨hw.kind, q2, hw.hp, hw.st, hw.ail, hw.gen, hw.seat⟩) (fun _ j f hj hf hf0 => eAt_no q3 hf hf0) (fun _ j f hj hf hf1 => ?_), fun j f hf hf0 => ?_⟩
      · have := (h2 j f hf (by omega)).2.2
        simp only; omega
      · rw [List.getElem?_set] at hf
        by_cases hij : i = j
        · rw [if_pos hij] at hf
          split at hf
          · obtain rfl := (Option.some.inj hf).symm
            simp only; omega
          · cases hf
        · rw [if_neg hij] at hf
          obtain ⟨z1, z2, z3⟩ := h2 j f hf hf0
          exact ⟨z1, z2, by omega⟩
theorem make_whr (seed floor : Int) : ∀ x ∈ (makeM seed floor).items, x.whr = 1 ∨ x.whr = 4 := by
  have hcl := make_len seed floor
  obtain ⟨h1, h2⟩ := wares_ok (seed := seed) (floor := floor) (cells := (makeM seed floor).cells) hcl (f := distM seed floor) 4 0 (List.replicate 384 false) [] List.length_replicate (fun x hx => by cases hx) List.Pairwise.nil
  obtain ⟨h3, h4⟩ := shelf_ok seed floor (makeM seed floor).cells 3 (Nat.le_refl _)
  have hi : (makeM seed floor).items = waresM seed floor (makeM seed floor).cells (distM seed floor) 4 0 (List.replicate 384 false) [] ++ (if (shopAt seed floor).isSome then shelfM seed floor 3 else []) := rfl
  rw [hi]
  intro x hx
  rcases List.mem_append.1 hx with hx | hx
  · exact .inl (h1 x hx).2
  · split at hx
    · exact .inr (h3 x hx).2.1
    · cases hx
theorem keepI_z (x : Itm) : (keepI x).isZ = true ∨ (keepI x = x ∧ ¬ (x.whr = 1 ∨ x.whr = 4)) := by
  unfold keepI
  split
  · exact .inl rfl
  · rename_i h; exact .inr ⟨rfl, h⟩
theorem placed_any {c1 c2 : List UInt8} {x : Itm} (h : GIt c1 x) (hw : ¬ (x.whr = 1 ∨ x.whr = 4)) : GIt c2 x := by
  refine ⟨h.kind, ?_⟩
  have := h.placed
  unfold placedM at this ⊢
  rw [if_neg (fun k => hw (.inl k))] at this ⊢
  exact this
theorem VW.below {d : Wd} (h : VW d) (hf : d.floor ≤ 2) : VW (belowM d) := by
  have hn := h.nums.1
  have hfl : 1 ≤ d.floor + 1 ∧ d.floor + 1 ≤ 3 := by omega
  obtain ⟨c1, c2, c3⟩ := make_cells d.seed (d.floor + 1)
  obtain ⟨i1, i2⟩ := make_items d.seed (d.floor + 1)
  have i3 := make_whr d.seed (d.floor + 1)
  have hcl := make_len d.seed (d.floor + 1)
  have hmon : ∀ e ∈ (makeM d.seed (d.floor + 1)).ents, Mon (makeM d.seed (d.floor + 1)).cells e := foes_mon (seed := d.seed) (floor := d.floor + 1) hfl (cells := (makeM d.seed (d.floor + 1)).cells) hcl (f := distM d.seed (d.floor + 1)) _ _ _ [] (fun e he => by cases he)
  have hpl := (place_ev d.seed (d.floor + 1) h.ev 4 (Nat.le_refl _)).1
  unfold belowM
  simp only
  obtain ⟨m, hm⟩ : ∃ q, makeM d.seed (d.floor + 1) = q := ⟨_, rfl⟩
  rw [hm] at c1 c2 c3 i1 i2 i3 hcl hmon hpl ⊢
  have hE := EV.stocks m.ents _ hpl hmon
  have hiv : IV m.cells (d.items.map keepI) := h.iv.mapZ (fun x => (keepI_z x).imp id (·.1)) (fun x hx => by
    rcases keepI_z x with k | k
    · exact .inl k
    · rw [k.1]; exact .inr (placed_any hx k.2))
  have hii : IInv m.cells (d.items.map keepI) ((d.items.map keepI).filter (fun x => !x.isZ)) := by
    refine ⟨fun x hx => ?_, fun i j x y hij hx hy hx0 hy0 => hiv.dis i j x y (by omega) hx hy hx0 hy0⟩
    rcases hz : x.isZ with _ | _
    · refine .inr ⟨(hiv.row x hx).resolve_left (by rw [hz]; decide), List.mem_filter.2 ⟨hx, by rw [hz]; rfl⟩⟩
    · exact .inl rfl
  have hI := (IInv.lays m.items _ _ hii i1 (fun y hy x hx => by
    obtain ⟨hy1, hy2⟩ := List.mem_filter.1 hy
    obtain ⟨y0, _, rfl⟩ := List.mem_map.1 hy1
    rcases keepI_z y0 with k | k
    · rw [k] at hy2; cases hy2
    · rintro ⟨s1, _⟩
      rw [k.1] at s1
      have := i3 x hx
      rw [← s1] at this
      exact k.2 this) i2).iv
  refine ⟨⟨hfl, h.nums.2⟩, h.gold, ⟨hcl, ?_, ?_⟩, c1, c2, c3, hE, hI⟩
  · show (stockEnts _ _).length = 32
    rw [stockEnts_len, placeF_len]
    unfold freeF
    rw [List.length_map]; exact h.sz.2.1
  · show (layM _ _).length = 40
    rw [layM_len, List.length_map]; exact h.sz.2.2
theorem VW.ends {d : Wd} (h : VW d) (had left : Bool) : VW (endM d had left) := by
  unfold endM
  split
  · split
    · exact h.states (by decide)
    · exact h
  · split
    · exact h.states (by decide)
    · rename_i hc
      split
      · rename_i hl
        have := h.nums.1
        exact h.below (by
          by_cases h3 : d.floor = 3
          · exact absurd ⟨hl, h3⟩ hc
          · omega)
      · exact h
theorem VW.come {d : Wd} (h : VW d) (a : Acts) : VW { d with ents := comesM d.cells d.ents a 4 } := h.ents (comes_len _ _ _ _) (h.ev.comes a 4 (Nat.le_refl _))
theorem VW.mid {d : Wd} (h : VW d) : VW (midM d) := ((h.foes 32).ail 32).rat
theorem VW.step {d : Wd} (h : VW d) (a : Acts) : VW (stepM d a) := by
  unfold stepM
  simp only
  split
  · exact h.frames _
  · have h1 := h.frames (d.frame + 1)
    have h2 := h1.come a
    have h3 := h2.seats a 4
    have h4 := h3.mid
    exact h4.ends _ _
theorem VW.new (seed : Int) : VW (newM seed) := by
  obtain ⟨c1, c2, c3⟩ := make_cells seed 1
  obtain ⟨i1, i2⟩ := make_items seed 1
  have hcl := make_len seed 1
  have hmon : ∀ e ∈ (makeM seed 1).ents, Mon (makeM seed 1).cells e := foes_mon (seed := seed) (floor := 1) (by decide) (cells := (makeM seed 1).cells) hcl (f := distM seed 1) _ _ _ [] (fun e he => by cases he)
  obtain ⟨m, hm⟩ : ∃ q, makeM seed 1 = q := ⟨_, rfl⟩
  have hnew : newM seed = ⟨seed, 0, 1, 0, m.cells, stockEnts (List.replicate 32 Ent.zero) m.ents, layM (List.replicate 40 Itm.zero) m.items, ⟨0, 0, 0, 0⟩⟩ := by rw [← hm]; rfl
  rw [hm] at c1 c2 c3 i1 i2 hcl hmon
  have hE := EV.stocks m.ents (List.replicate 32 Ent.zero) (EV.zero m.cells 32) hmon
  have hI := (IInv.lays m.items (List.replicate 40 Itm.zero) [] (IInv.zero m.cells 40) i1 (fun y hy => by cases hy) i2).iv
  rw [hnew]
  refine ⟨⟨by simp only; decide, by simp only; decide⟩, fun k => ?_, ⟨hcl, ?_, ?_⟩, c1, c2, c3, hE, hI⟩
  · rcases k with _ | _ | _ | k <;> simp only [Four.get] <;> decide
  · show (stockEnts _ _).length = 32
    rw [stockEnts_len, List.length_replicate]
  · show (layM _ _).length = 40
    rw [layM_len, List.length_replicate]
end Go.Proofs.YtcogbkkdccohfaaGreat
