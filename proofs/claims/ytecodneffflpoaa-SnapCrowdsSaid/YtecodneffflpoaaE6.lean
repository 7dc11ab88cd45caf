/- Worlds are checked: the program's, walked. -/
import Derived.Test.YtecodneffflpoaaE5
namespace Go.Ad
def mxM (l : List UInt8) : Nat := l.foldl (fun m x => max m x.toNat) 0
theorem mx_step {l : List UInt8} {i : Nat} {x : UInt8} (h : l[i]? = some x) : mxM (l.take (i + 1)) = max (mxM (l.take i)) x.toNat := by
  obtain ⟨hi, rfl⟩ := List.getElem?_eq_some_iff.1 h
  unfold mxM
  rw [← List.take_append_getElem hi, List.foldl_append, List.foldl_cons, List.foldl_nil]
theorem mx_gt (n : Nat) : ∀ (l : List UInt8) (m : Nat), n < l.foldl (fun m x => max m x.toNat) m ↔ (n < m ∨ l.any (fun x => decide (n < x.toNat)) = true)
  | [], m => by simp
  | x :: r, m => by
    rw [List.foldl_cons, mx_gt n r, List.any_cons, Bool.or_eq_true, decide_eq_true_eq]
    rw [show (n < max m x.toNat) = (n < m ∨ n < x.toNat) by rw [eq_iff_iff]; omega, or_assoc]
theorem cnt_count (k : UInt8) (l : List UInt8) : Lib.countByte (Lib.bytesOf (l.map fun x => (x.toNat : Int))) k = cnt k l := by
  have h : Lib.bytesOf (l.map fun x => (x.toNat : Int)) = l := by
    unfold Lib.bytesOf
    rw [List.map_map]
    conv => rhs; rw [← List.map_id l]
    congr 1
    funext x
    simp
  rw [h]
  unfold Lib.countByte cnt
  rw [List.count_eq_countP, List.countP_eq_length_filter]
theorem count_run {P : Program} {w : World} {b o c : Nat} {l : List UInt8} (hs : SlB w b o l.length c 1 (l.map bv)) {k : UInt8} : (Extern.BytealgCount.count ([.slice (some ⟨b, o, none⟩) l.length c, bv k] : List Value).toArray).run P w = .ok (iv (cnt k l)) w := by
  have h := Lib.run_countSlice (P := P) w b o l.length c (l.map fun x => (x.toNat : Int)) (by simp) (fun i hi => by
    have := hs.ro i (bv l[i]) (by rw [List.getElem?_map, List.getElem?_eq_getElem hi]; rfl)
    rw [this, List.getD_eq_getElem?_getD, List.getElem?_map, List.getElem?_eq_getElem hi]; rfl) (k.toNat : Int)
  have hkk : (k.toNat : Int).toNat.toUInt8 = k := by simp
  rw [hkk, cnt_count] at h
  exact h
theorem fnd_row {α : Type} {p : α → Bool} {l : List α} {i : Nat} {a : α} (h : l[i]? = some a) (hp : p a = true) : fnd p l 0 = (i : Int) ↔ fnd p (l.take i) 0 < 0 := by
  have := fnd_take (k := 0) h hp
  rw [Nat.zero_add] at this
  exact this
end Go.Ad
namespace Go.Proofs.Ytecodneffflpoaa
open Go.RowKit Go.Ad Go.Maps
set_option linter.unusedVariables false
set_option linter.unusedSimpArgs false
section
variable {W : World}
set_option maxRecDepth 100000 in
theorem pmax_d {b o n c : Nat} {l : List UInt8} (hs : SlB W b o n c 1 (l.map bv)) (h0 : 0 < n) : Does Try.prog 38 [.slice (some ⟨b, o, none⟩) n c] W [] (fun v L => v = .int .u8 (mxM l : Nat) ∧ L = []) := by
  obtain rfl : n = l.length := by have := hs.len; simpa using this.symm
  have hcap := hs.cap
  have hbig := hs.big
  simp only [maxLen] at hbig
  refine enter Try.func38 rfl rfl rfl (Has.start _) ?_
  refine c_seq ?_
  -- sort.go:95 R0
  refine c_reg ?_
  refine s_y (Y_asC) rfl rfl ?_
  refine s_nil ?_
  refine q_then ?_
  refine c_seq ?_
  refine c_seq ?_
  -- sort.go:96 R1
  refine c_reg ?_
  refine s_y (Y_mv) rfl rfl ?_
  refine s_y (Y_len rfl rfl Try.underlying25) rfl rfl ?_
  refine s_y (Y_lss rfl rfl) rfl rfl ?_
  refine s_nil ?_
  refine q_then ?_
  refine c_F rfl ((decide_eq_false (by omega))) ?_
  refine c_skip ?_
  refine q_then ?_
  refine c_seq ?_
  -- sort.go:99 R3
  obtain ⟨x0, hx0⟩ := take_lt h0
  have e0 : ((mxM (l.take 1) : Nat) : Int) = x0.toNat := by rw [mx_step hx0, List.take_zero]; simp [mxM]
  refine c_reg ?_
  refine s_y (Y_mv) rfl rfl ?_
  refine s_y (Y_ia1 (n := 0) rfl rfl Try.underlying25 sz5 rfl (by omega)) rfl rfl ?_
  refine s_y (Y_loadR (v := .int .u8 (mxM (l.take 1) : Nat)) (i := 0) rfl one5 hs.ro rfl (by rw [List.getElem?_map, hx0, e0]; rfl)) rfl rfl ?_
  refine s_y (Y_as) rfl rfl ?_
  refine s_nil ?_
  refine q_then ?_
  refine c_seq ?_
  refine c_seq ?_
  -- sort.go:100 R4
  refine c_reg ?_
  refine s_y (Y_asC) rfl rfl ?_
  refine s_nil ?_
  refine q_then ?_
  refine c_block ?_
  refine c_loop [3, 4, 12, 13, 14, 15, 16, 17, 18, 19, 20, 21, 22, 23] (fun m i => i + m = l.length ∧ 1 ≤ i) (fun i => [(4, iv i), (3, .int .u8 (mxM (l.take i) : Nat))]) (fun _ => []) (l.length - 1) (1) (⟨by omega, Nat.le_refl _⟩) (by repeat (first | exact trivial | refine ⟨rfl, ?_⟩)) (fun _ h => h.sub sl_) (fun _ => rfl) ?_
  rintro m i j ⟨hi, h1⟩ K hK
  refine c_seq ?_
  refine c_seq ?_
  -- sort.go:100 R5
  refine c_reg ?_
  refine s_y (Y_mv) rfl rfl ?_
  refine s_y (Y_mv) rfl rfl ?_
  refine s_y (Y_len rfl rfl Try.underlying25) rfl rfl ?_
  refine s_y (Y_lss rfl rfl) rfl rfl ?_
  refine s_nil ?_
  refine q_then ?_
  first | refine c_cond' rfl (fun hc5 => ?_) (fun hc5 => ?_) | refine c_cond rfl (fun hc5 => ?_) (fun hc5 => ?_)
  · skip
    try simp only [nrm_] at hc5
    refine c_skip ?_
    refine q_then ?_
    refine c_seq ?_
    refine c_block ?_
    -- sort.go:101 R7
    obtain ⟨x, hx⟩ := take_lt (show i < l.length by omega)
    refine c_reg ?_
    refine s_y (Y_mv) rfl rfl ?_
    refine s_y (Y_mv) rfl rfl ?_
    refine s_y (Y_mv) rfl rfl ?_
    refine s_y (Y_ia1 rfl rfl Try.underlying25 sz5 rfl (by omega)) rfl rfl ?_
    refine s_y (Y_loadR (v := bv x) (i := i) rfl one5 hs.ro rfl (by rw [List.getElem?_map, hx]; rfl)) rfl rfl ?_
    refine s_y ((Y_max rfl rfl).num (show _ = ((mxM (l.take (i + 1)) : Nat) : Int) by rw [mx_step hx]; omega)) rfl rfl ?_
    refine s_y (Y_as) rfl rfl ?_
    refine s_nil ?_
    refine q_bn ?_
    refine q_then ?_
    -- sort.go:100 R6
    refine c_reg ?_
    refine s_y (Y_mv) rfl rfl ?_
    refine s_y ((by first | exact Y_add rfl rfl (by omega) | exact Y_addw rfl rfl)) rfl rfl ?_
    refine s_y (Y_as) rfl rfl ?_
    refine s_nil ?_
    refine hK (m - 1) (i + 1) _ _ (by omega) ⟨by omega, by omega⟩ ⟨rfl, rfl, trivial⟩ rfl (fun _ h => h)
  · skip
    try simp only [nrm_] at hc5
    refine c_exit ?_
    repeat with_reducible refine q_te ?_
    refine q_exit ?_
    refine q_then ?_
    refine c_seq ?_
    -- sort.go:103 R8
    refine c_reg ?_
    refine s_y (Y_mv) rfl rfl ?_
    refine s_y (Y_as) rfl rfl ?_
    refine s_nil ?_
    refine q_then ?_
    refine c_ret ?_
    refine q_retG1 rfl gt_ (L' := _) sl_ (⟨by rw [show i = l.length by omega, List.take_length], rfl⟩)
set_option maxRecDepth 100000 in
theorem pcount_d {b o n c : Nat} {l : List UInt8} (hs : SlB W b o n c 1 (l.map bv)) {b2 c2 : Nat} {k : UInt8} (hk : Ro W b2 0 [bv k]) : Does Try.prog 39 [.slice (some ⟨b, o, none⟩) n c, .slice (some ⟨b2, 0, none⟩) 1 c2] W [] (fun v L => v = iv (cnt k l) ∧ L = []) := by
  obtain rfl : n = l.length := by have := hs.len; simpa using this.symm
  refine enter Try.func39 rfl rfl rfl (Has.start _) ?_
  refine c_seq ?_
  -- bytes.go:57 R0
  refine c_reg ?_
  refine s_y (Y_asC) rfl rfl ?_
  refine s_nil ?_
  refine q_then ?_
  refine c_seq ?_
  refine c_seq ?_
  -- bytes.go:59 R1
  refine c_reg ?_
  refine s_y (Y_mv) rfl rfl ?_
  refine s_y (Y_len rfl rfl Try.underlying25) rfl rfl ?_
  refine s_y (Y_eql rfl rfl) rfl rfl ?_
  refine s_nil ?_
  refine q_then ?_
  refine c_F rfl ((decide_eq_false (by decide))) ?_
  refine c_skip ?_
  refine q_then ?_
  refine c_seq ?_
  refine c_seq ?_
  -- bytes.go:62 R3
  refine c_reg ?_
  refine s_y (Y_mv) rfl rfl ?_
  refine s_y (Y_len rfl rfl Try.underlying25) rfl rfl ?_
  refine s_y (Y_eql rfl rfl) rfl rfl ?_
  refine s_nil ?_
  refine q_then ?_
  refine c_T rfl ((decide_eq_true rfl)) ?_
  refine c_seq ?_
  -- bytes.go:63 R4
  refine c_reg ?_
  refine s_y (Y_mv) rfl rfl ?_
  refine s_y (Y_mv) rfl rfl ?_
  refine s_y (Y_ia1 (n := 0) rfl rfl Try.underlying25 sz5 rfl (by decide)) rfl rfl ?_
  refine s_y (Y_loadR (v := bv k) (i := 0) rfl one5 hk rfl rfl) rfl rfl ?_
  refine s_y (Y_ext (v := iv (cnt k l)) (vs := [.slice (some ⟨b, o, none⟩) l.length c, bv k]) rfl Try.func57 (by kernel_rfl) (by kernel_rfl) (by kernel_rfl) (e := Extern.BytealgCount.count) (by kernel_rfl) rfl (fun w hH => count_run (hs.has hH))) rfl rfl ?_
  refine s_y (Y_as) rfl rfl ?_
  refine s_nil ?_
  refine q_then ?_
  refine c_ret ?_
  refine q_retG1 rfl gt_ (L' := _) sl_ (⟨rfl, rfl⟩)
theorem gold_sub {d : Wd} {s : Ws} : ∀ i v, ([iv d.gold.a, iv d.gold.b, iv d.gold.c, iv d.gold.d] : List Value)[i]? = some v → (wv d s)[0 + 7 + i]? = some v
  | 0, v, h => h
  | 1, v, h => h
  | 2, v, h => h
  | 3, v, h => h
  | n + 4, v, h => by simp at h
theorem gold_idx {g : Four} {k : Nat} (h : k < 4) : ([iv g.a, iv g.b, iv g.c, iv g.d] : List Value)[k]? = some (iv (g.get k)) := by
  rcases (show k = 0 ∨ k = 1 ∨ k = 2 ∨ k = 3 by omega) with rfl | rfl | rfl | rfl <;> rfl
set_option maxRecDepth 100000 in
theorem phead_d {d : Wd} {s : Ws} (hw : WAt W d s) : Does Try.prog 23 [.agg (wv d s).toArray] W [] (fun v L => v = iv (headM d) ∧ L = []) := by
  refine enter Try.func23 rfl rfl rfl (Has.start _) ?_
  refine c_seq ?_
  -- snap.go:28 R0
  refine c_reg ?_
  refine s_n (N_box (cs := wv d s) rfl) rfl rfl (fun b1 _ => ?_)
  refine s_y (Y_asC) rfl rfl ?_
  refine s_nil ?_
  refine q_then ?_
  refine c_seq ?_
  -- snap.go:29 R1
  refine c_reg ?_
  refine s_y (Y_fa 1 rfl Try.underlying29 rfl sz3 rfl) rfl rfl ?_
  refine s_y ((by first | exact Y_load rfl one3 mm_ (by rfl) | exact Y_loadR rfl one3 hr rfl rfl | exact Y_loadR rfl one3 hr2 rfl rfl | exact Y_load rfl one3 mm_ (eget he rfl) | exact Y_load rfl one3 mm_ (iget hx rfl) | exact Y_load rfl one3 mm_ (by assumption) | exact Y_loadR rfl one3 (by assumption) rfl (by assumption))) rfl rfl ?_
  refine s_c (En_call (fun _ => rfl) Try.func24 rfl (by kernel_rfl) rfl) (fun w hH => pwithin_d) rfl rfl ?_
  rintro _ _ ⟨rfl, rfl⟩
  refine s_y (Y_mv) rfl rfl ?_
  apply s_and 4 [9, 10, 11, 12, 13] 13 (g := 9) rfl rfl
  · intro ht4 hm
    try simp only [nrm_] at ht4
    first | refine s_y (Y_fa 2 rfl Try.underlying29 rfl sz3 rfl) rfl rfl ?_ | refine s_pass rfl rfl ?_
    first | refine s_y ((by first | exact Y_load rfl one3 mm_ (by rfl) | exact Y_loadR rfl one3 hr rfl rfl | exact Y_loadR rfl one3 hr2 rfl rfl | exact Y_load rfl one3 mm_ (eget he rfl) | exact Y_load rfl one3 mm_ (iget hx rfl) | exact Y_load rfl one3 mm_ (by assumption) | exact Y_loadR rfl one3 (by assumption) rfl (by assumption))) rfl rfl ?_ | refine s_pass rfl rfl ?_
    refine s_c (En_call (fun _ => rfl) Try.func24 rfl (by kernel_rfl) rfl) (fun w hH => pwithin_d) rfl rfl ?_
    rintro _ _ ⟨rfl, rfl⟩
    refine s_y (Y_pk rfl (Gx.tmp gt_) Gx.const) rfl rfl ?_
    first | exact hm _ ⟨rfl, trivial⟩ rfl | exact QL.sub sl_ (hm _ ⟨rfl, trivial⟩ rfl)
  · intro ht4 hm
    iterate 3 refine s_pass rfl rfl ?_
    refine s_y (Y_pk rfl (Gx.tmp gt_) Gx.const) rfl rfl ?_
    exact hm _ ⟨rfl, trivial⟩ rfl
  intro j13
  refine s_y (Y_mv) rfl rfl ?_
  apply s_and 4 [14, 15, 16, 17, 18] 18 (g := 14) rfl rfl
  · intro ht9 hm
    try simp only [nrm_] at ht9
    first | refine s_y (Y_fa 3 rfl Try.underlying29 rfl sz3 rfl) rfl rfl ?_ | refine s_pass rfl rfl ?_
    first | refine s_y ((by first | exact Y_load rfl one3 mm_ (by rfl) | exact Y_loadR rfl one3 hr rfl rfl | exact Y_loadR rfl one3 hr2 rfl rfl | exact Y_load rfl one3 mm_ (eget he rfl) | exact Y_load rfl one3 mm_ (iget hx rfl) | exact Y_load rfl one3 mm_ (by assumption) | exact Y_loadR rfl one3 (by assumption) rfl (by assumption))) rfl rfl ?_ | refine s_pass rfl rfl ?_
    refine s_c (En_call (fun _ => rfl) Try.func24 rfl (by kernel_rfl) rfl) (fun w hH => pwithin_d) rfl rfl ?_
    rintro _ _ ⟨rfl, rfl⟩
    refine s_y (Y_pk rfl (Gx.tmp gt_) Gx.const) rfl rfl ?_
    first | exact hm _ ⟨rfl, trivial⟩ rfl | exact QL.sub sl_ (hm _ ⟨rfl, trivial⟩ rfl)
  · intro ht9 hm
    iterate 3 refine s_pass rfl rfl ?_
    refine s_y (Y_pk rfl (Gx.tmp gt_) Gx.const) rfl rfl ?_
    exact hm _ ⟨rfl, trivial⟩ rfl
  intro j18
  refine s_y (Y_as) rfl rfl ?_
  refine s_nil ?_
  refine q_then ?_
  refine c_seq ?_
  refine c_seq ?_
  -- snap.go:30 R2
  refine c_reg ?_
  refine s_y (Y_fa 7 rfl Try.underlying29 rfl sz27 rfl) rfl rfl ?_
  refine s_y (Y_loadN (vs := [iv d.gold.a, iv d.gold.b, iv d.gold.c, iv d.gold.d]) rfl many27 mm_ (by rfl) gold_sub) rfl rfl ?_
  refine s_y (Y_mvC) rfl rfl ?_
  refine s_nil ?_
  rw [show (btw d.frame 0 1073741823 && btw d.floor 1 3 && btw d.state 0 2) = (btw d.frame 0 1073741823 && btw d.floor 1 3 && btw d.state 0 2 && goldOk d.gold 0) by simp [goldOk]]
  refine q_then ?_
  refine c_block ?_
  refine c_loop [3, 5, 21, 22, 23, 24, 25, 26, 27, 28, 29] (fun m i => i + m = 4) (fun i => [(21, iv i), (3, .bool (btw d.frame 0 1073741823 && btw d.floor 1 3 && btw d.state 0 2 && goldOk d.gold i))]) (fun _ => [wB b1 (wv d s)]) (4) (0) (by omega) (by repeat (first | exact trivial | refine ⟨rfl, ?_⟩)) (fun _ h => h.sub sl_) (fun _ => rfl) ?_
  rintro m i j hi K hK
  refine c_seq ?_
  -- snap.go:30 R3
  refine c_reg ?_
  refine s_y (Y_lss rfl rfl) rfl rfl ?_
  refine s_nil ?_
  refine q_then ?_
  refine c_seq ?_
  first | refine c_cond' rfl (fun hc3 => ?_) (fun hc3 => ?_) | refine c_cond rfl (fun hc3 => ?_) (fun hc3 => ?_)
  · skip
    try simp only [nrm_] at hc3
    refine c_skip ?_
    refine q_then ?_
    refine c_seq ?_
    refine c_block ?_
    refine c_seq ?_
    -- snap.go:30 R4
    refine c_reg ?_
    refine s_y (Y_idx (cs := [iv d.gold.a, iv d.gold.b, iv d.gold.c, iv d.gold.d]) (i := i) rfl rfl Try.underlying27 one3 sz3 rfl (by omega) (gold_idx (by omega))) rfl rfl ?_
    refine s_y (Y_as) rfl rfl ?_
    refine s_nil ?_
    refine q_then ?_
    -- snap.go:31 R5
    refine c_reg ?_
    refine s_y (Y_mv) rfl rfl ?_
    refine s_y (Y_mv) rfl rfl ?_
    apply s_and 3 [25, 26, 27, 28] 28 (g := 25) rfl rfl
    · intro ht2 hm
      try simp only [nrm_] at ht2
      first | refine s_y (Y_mv) rfl rfl ?_ | refine s_pass rfl rfl ?_
      refine s_c (En_call (fun _ => rfl) Try.func24 rfl (by kernel_rfl) rfl) (fun w hH => pwithin_d) rfl rfl ?_
      rintro _ _ ⟨rfl, rfl⟩
      refine s_y (Y_pk rfl (Gx.tmp gt_) Gx.const) rfl rfl ?_
      first | exact hm _ ⟨rfl, trivial⟩ rfl | exact QL.sub sl_ (hm _ ⟨rfl, trivial⟩ rfl)
    · intro ht2 hm
      iterate 2 refine s_pass rfl rfl ?_
      refine s_y (Y_pk rfl (Gx.tmp gt_) Gx.const) rfl rfl ?_
      exact hm _ ⟨rfl, trivial⟩ rfl
    intro j28
    refine s_y (Y_as) rfl rfl ?_
    refine s_nil ?_
    refine q_bn ?_
    refine q_then ?_
    -- snap.go:30 R6
    refine c_reg ?_
    refine s_y ((by first | exact Y_add rfl rfl (by omega) | exact Y_addw rfl rfl)) rfl rfl ?_
    refine s_y (Y_mv) rfl rfl ?_
    refine s_nil ?_
    refine hK (m - 1) (i + 1) _ _ (by omega) (by omega) ⟨rfl, by rw [goldOk_step, ← Bool.and_assoc]; rfl, trivial⟩ rfl (fun _ h => h)
  · skip
    try simp only [nrm_] at hc3
    refine c_exit ?_
    repeat with_reducible refine q_te ?_
    refine q_exit ?_
    refine q_then ?_
    refine c_seq ?_
    refine c_block ?_
    refine c_seq ?_
    -- snap.go:34 R7
    obtain rfl : i = 4 := by omega
    rw [← nums_gold]
    refine c_reg ?_
    refine s_y (Y_mv) rfl rfl ?_
    refine s_y (Y_not rfl) rfl rfl ?_
    refine s_y (Y_as) rfl rfl ?_
    refine s_nil ?_
    refine q_then ?_
    first | refine c_cond' rfl (fun hc7 => ?_) (fun hc7 => ?_) | refine c_cond rfl (fun hc7 => ?_) (fun hc7 => ?_)
    · skip
      try simp only [nrm_] at hc7
      refine c_seq ?_
      -- snap.go:35 R8
      refine c_reg ?_
      refine s_y (Y_asC) rfl rfl ?_
      refine s_nil ?_
      refine q_then ?_
      refine c_ret ?_
      refine q_retG1 rfl gt_ (L' := _) sl_ (⟨by unfold headM; rw [if_pos (by simpa using hc7)], rfl⟩)
    · skip
      try simp only [nrm_] at hc7
      refine c_seq ?_
      -- snap.go:36 R9
      have hn : ¬ numsOk d = false := by simpa using hc7
      refine c_reg ?_
      refine s_y (Y_fa 4 rfl Try.underlying29 rfl sz25 rfl) rfl rfl ?_
      refine s_y ((by first | exact Y_load rfl one25 mm_ (by rfl) | exact Y_loadR rfl one25 hr rfl rfl | exact Y_loadR rfl one25 hr2 rfl rfl | exact Y_load rfl one25 mm_ (eget he rfl) | exact Y_load rfl one25 mm_ (iget hx rfl) | exact Y_load rfl one25 mm_ (by assumption) | exact Y_loadR rfl one25 (by assumption) rfl (by assumption))) rfl rfl ?_
      refine s_y (Y_len rfl rfl Try.underlying25) rfl rfl ?_
      refine s_y (Y_neq rfl rfl) rfl rfl ?_
      refine s_y (Y_mv) rfl rfl ?_
      apply s_or 5 [38, 39, 40, 41, 42, 43] 43 (g := 38) rfl rfl
      · intro ht5 hm
        try simp only [nrm_] at ht5
        first | refine s_y (Y_fa 5 rfl Try.underlying29 rfl sz26 rfl) rfl rfl ?_ | refine s_pass rfl rfl ?_
        first | refine s_y ((by first | exact Y_load rfl one26 mm_ (by rfl) | exact Y_loadR rfl one26 hr rfl rfl | exact Y_loadR rfl one26 hr2 rfl rfl | exact Y_load rfl one26 mm_ (eget he rfl) | exact Y_load rfl one26 mm_ (iget hx rfl) | exact Y_load rfl one26 mm_ (by assumption) | exact Y_loadR rfl one26 (by assumption) rfl (by assumption))) rfl rfl ?_ | refine s_pass rfl rfl ?_
        first | refine s_y (Y_len rfl rfl Try.underlying26) rfl rfl ?_ | refine s_pass rfl rfl ?_
        first | refine s_y (Y_neq rfl rfl) rfl rfl ?_ | refine s_pass rfl rfl ?_
        refine s_y (Y_pk rfl Gx.const (Gx.tmp gt_)) rfl rfl ?_
        first | exact hm _ ⟨rfl, trivial⟩ rfl | exact QL.sub sl_ (hm _ ⟨rfl, trivial⟩ rfl)
      · intro ht5 hm
        iterate 4 refine s_pass rfl rfl ?_
        refine s_y (Y_pk rfl Gx.const (Gx.tmp gt_)) rfl rfl ?_
        exact hm _ ⟨rfl, trivial⟩ rfl
      intro j43
      refine s_y (Y_mv) rfl rfl ?_
      apply s_or 5 [44, 45, 46, 47, 48, 49] 49 (g := 44) rfl rfl
      · intro ht11 hm
        try simp only [nrm_] at ht11
        first | refine s_y (Y_fa 6 rfl Try.underlying29 rfl sz23 rfl) rfl rfl ?_ | refine s_pass rfl rfl ?_
        first | refine s_y ((by first | exact Y_load rfl one23 mm_ (by rfl) | exact Y_loadR rfl one23 hr rfl rfl | exact Y_loadR rfl one23 hr2 rfl rfl | exact Y_load rfl one23 mm_ (eget he rfl) | exact Y_load rfl one23 mm_ (iget hx rfl) | exact Y_load rfl one23 mm_ (by assumption) | exact Y_loadR rfl one23 (by assumption) rfl (by assumption))) rfl rfl ?_ | refine s_pass rfl rfl ?_
        first | refine s_y (Y_len rfl rfl Try.underlying23) rfl rfl ?_ | refine s_pass rfl rfl ?_
        first | refine s_y (Y_neq rfl rfl) rfl rfl ?_ | refine s_pass rfl rfl ?_
        refine s_y (Y_pk rfl Gx.const (Gx.tmp gt_)) rfl rfl ?_
        first | exact hm _ ⟨rfl, trivial⟩ rfl | exact QL.sub sl_ (hm _ ⟨rfl, trivial⟩ rfl)
      · intro ht11 hm
        iterate 4 refine s_pass rfl rfl ?_
        refine s_y (Y_pk rfl Gx.const (Gx.tmp gt_)) rfl rfl ?_
        exact hm _ ⟨rfl, trivial⟩ rfl
      intro j49
      refine s_y (Y_as) rfl rfl ?_
      refine s_nil ?_
      refine q_then ?_
      first | refine c_cond' rfl (fun hc9 => ?_) (fun hc9 => ?_) | refine c_cond rfl (fun hc9 => ?_) (fun hc9 => ?_)
      · skip
        try simp only [nrm_] at hc9
        refine c_seq ?_
        -- snap.go:37 R10
        refine c_reg ?_
        refine s_y (Y_asC) rfl rfl ?_
        refine s_nil ?_
        refine q_then ?_
        refine c_ret ?_
        refine q_retG1 rfl gt_ (L' := _) sl_ (⟨by
            have : sizesOk d = false := by unfold sizesOk; rw [decide_eq_false_iff_not]; omega
            unfold headM; rw [if_neg hn, if_pos this], rfl⟩)
      · skip
        try simp only [nrm_] at hc9
        refine c_seq ?_
        -- snap.go:38 R11
        have hs : ¬ sizesOk d = false := by unfold sizesOk; simp only [nrm_]; omega
        refine c_reg ?_
        refine s_y (Y_fa 4 rfl Try.underlying29 rfl sz25 rfl) rfl rfl ?_
        refine s_y ((by first | exact Y_load rfl one25 mm_ (by rfl) | exact Y_loadR rfl one25 hr rfl rfl | exact Y_loadR rfl one25 hr2 rfl rfl | exact Y_load rfl one25 mm_ (eget he rfl) | exact Y_load rfl one25 mm_ (iget hx rfl) | exact Y_load rfl one25 mm_ (by assumption) | exact Y_loadR rfl one25 (by assumption) rfl (by assumption))) rfl rfl ?_
        refine s_c (En_call (fun _ => rfl) Try.func38 rfl (by kernel_rfl) rfl) (fun w hH => pmax_d (hw.c.has hH) (by omega)) rfl rfl ?_
        rintro _ _ ⟨rfl, rfl⟩
        refine s_y (Y_gtr rfl rfl) rfl rfl ?_
        refine s_y (Y_as) rfl rfl ?_
        refine s_nil ?_
        refine q_then ?_
        first | refine c_cond' rfl (fun hc11 => ?_) (fun hc11 => ?_) | refine c_cond rfl (fun hc11 => ?_) (fun hc11 => ?_)
        · skip
          try simp only [nrm_] at hc11
          refine c_seq ?_
          -- snap.go:39 R12
          refine c_reg ?_
          refine s_y (Y_asC) rfl rfl ?_
          refine s_nil ?_
          refine q_then ?_
          refine c_ret ?_
          refine q_retG1 rfl gt_ (L' := _) sl_ (⟨by
              have := (mx_gt 5 d.cells 0).1 (by show 5 < mxM d.cells; omega)
              unfold headM; rw [if_neg hn, if_neg hs, if_pos (by rcases this with h | h; omega; exact h)], rfl⟩)
        · skip
          try simp only [nrm_] at hc11
          refine c_seq ?_
          -- snap.go:40 R13
          have ha : ¬ d.cells.any (fun x => decide (5 < x.toNat)) = true := fun h => by
            have := (mx_gt 5 d.cells 0).2 (.inr h)
            have : 5 < mxM d.cells := this
            omega
          refine c_reg ?_
          refine s_y (Y_fa 4 rfl Try.underlying29 rfl sz25 rfl) rfl rfl ?_
          refine s_y ((by first | exact Y_load rfl one25 mm_ (by rfl) | exact Y_loadR rfl one25 hr rfl rfl | exact Y_loadR rfl one25 hr2 rfl rfl | exact Y_load rfl one25 mm_ (eget he rfl) | exact Y_load rfl one25 mm_ (iget hx rfl) | exact Y_load rfl one25 mm_ (by assumption) | exact Y_loadR rfl one25 (by assumption) rfl (by assumption))) rfl rfl ?_
          refine s_n (N_bs (xs := [.const (Value.int Go.IntKind.u8 3)]) (by repeat (first | exact Gv.nil | apply Gv.const | apply Gv.tmp gt_)) rfl Try.underlying25 inf5 rfl (by omega) (by omega) (by first | simp [Value.oneCell'] | (intro v hv; simp at hv; subst hv; rfl))) rfl rfl (fun b58 _ => ?_)
          refine s_c (En_call (fun _ => rfl) Try.func39 rfl (by kernel_rfl) rfl) (fun w hH => pcount_d (k := 3) (hw.c.has hH) (hH.at' (x := ⟨b58, 5, 1, 1, [bv 3]⟩) mm_).ro) rfl rfl ?_
          rintro _ _ ⟨rfl, rfl⟩
          refine s_y (Y_neq rfl rfl) rfl rfl ?_
          refine s_y (Y_mv) rfl rfl ?_
          apply s_or 6 [61, 62, 63, 64, 65, 66, 67] 67 (g := 61) rfl rfl
          · intro ht6 hm
            try simp only [nrm_] at ht6
            first | refine s_y (Y_fa 4 rfl Try.underlying29 rfl sz25 rfl) rfl rfl ?_ | refine s_pass rfl rfl ?_
            first | refine s_y ((by first | exact Y_load rfl one25 mm_ (by rfl) | exact Y_loadR rfl one25 hr rfl rfl | exact Y_loadR rfl one25 hr2 rfl rfl | exact Y_load rfl one25 mm_ (eget he rfl) | exact Y_load rfl one25 mm_ (iget hx rfl) | exact Y_load rfl one25 mm_ (by assumption) | exact Y_loadR rfl one25 (by assumption) rfl (by assumption))) rfl rfl ?_ | refine s_pass rfl rfl ?_
            first | refine s_n (N_bs (xs := [.const (Value.int Go.IntKind.u8 4)]) (by repeat (first | exact Gv.nil | apply Gv.const | apply Gv.tmp gt_)) rfl Try.underlying25 inf5 rfl (by omega) (by omega) (by first | simp [Value.oneCell'] | (intro v hv; simp at hv; subst hv; rfl))) rfl rfl (fun b64 _ => ?_) | refine s_pass rfl rfl ?_
            refine s_c (En_call (fun _ => rfl) Try.func39 rfl (by kernel_rfl) rfl) (fun w hH => pcount_d (k := 4) (hw.c.has hH) (hH.at' (x := ⟨b64, 5, 1, 1, [bv 4]⟩) mm_).ro) rfl rfl ?_
            rintro _ _ ⟨rfl, rfl⟩
            first | refine s_y (Y_neq rfl rfl) rfl rfl ?_ | refine s_pass rfl rfl ?_
            refine s_y (Y_pk rfl Gx.const (Gx.tmp gt_)) rfl rfl ?_
            first | exact hm _ ⟨rfl, trivial⟩ rfl | exact QL.sub sl_ (hm _ ⟨rfl, trivial⟩ rfl)
          · intro ht6 hm
            iterate 5 refine s_pass rfl rfl ?_
            refine s_y (Y_pk rfl Gx.const (Gx.tmp gt_)) rfl rfl ?_
            exact hm _ ⟨rfl, trivial⟩ rfl
          intro j67
          refine s_y (Y_as) rfl rfl ?_
          refine s_nil ?_
          refine q_then ?_
          first | refine c_cond' rfl (fun hc13 => ?_) (fun hc13 => ?_) | refine c_cond rfl (fun hc13 => ?_) (fun hc13 => ?_)
          · skip
            try simp only [nrm_] at hc13
            refine c_seq ?_
            -- snap.go:41 R14
            refine c_reg ?_
            refine s_y (Y_asC) rfl rfl ?_
            refine s_nil ?_
            refine q_then ?_
            refine c_ret ?_
            refine q_retG1 rfl gt_ (L' := _) sl_ (⟨by unfold headM; rw [if_neg hn, if_neg hs, if_neg ha, if_neg (by omega)], rfl⟩)
          · skip
            try simp only [nrm_] at hc13
            refine c_skip ?_
            refine q_bn ?_
            refine q_then ?_
            refine c_seq ?_
            -- snap.go:43 R15
            refine c_reg ?_
            refine s_y (Y_asC) rfl rfl ?_
            refine s_nil ?_
            refine q_then ?_
            refine c_ret ?_
            refine q_retG1 rfl gt_ (L' := _) sl_ (⟨by unfold headM; rw [if_neg hn, if_neg hs, if_neg ha, if_pos (by omega)], rfl⟩)
set_option maxRecDepth 100000 in
theorem pfits_d {d : Wd} {s : Ws} (hw : WAt W d s) {i : Nat} {e : Ent} (he : d.ents[i]? = some e) (hl : d.ents.length = 32) : Does Try.prog 25 [.agg (wv d s).toArray, iv i] W [] (fun v L => v = .bool (fitsM d i e) ∧ L = []) := by
  have hr := hw.e.at' Ent.len he
  have hcap := hw.e.cap
  have hil : i < d.ents.length := (List.getElem?_eq_some_iff.1 he).1
  obtain ⟨st, hst0⟩ : ∃ q, statsM e.kind = q := ⟨_, rfl⟩
  have ht32 : d.ents.take 32 = d.ents := List.take_of_length_le (by omega)
  refine enter Try.func25 rfl rfl rfl (Has.start _) ?_
  refine c_seq ?_
  -- snap.go:47 R0
  refine c_reg ?_
  refine s_n (N_box (cs := wv d s) rfl) rfl rfl (fun b2 _ => ?_)
  refine s_y (Y_asC) rfl rfl ?_
  refine s_nil ?_
  refine q_then ?_
  refine c_seq ?_
  -- snap.go:48 R1
  refine c_reg ?_
  refine s_y (Y_fa 5 rfl Try.underlying29 rfl sz26 rfl) rfl rfl ?_
  refine s_y ((by first | exact Y_load rfl one26 mm_ (by rfl) | exact Y_loadR rfl one26 hr rfl rfl | exact Y_loadR rfl one26 hr2 rfl rfl | exact Y_load rfl one26 mm_ (eget he rfl) | exact Y_load rfl one26 mm_ (iget hx rfl) | exact Y_load rfl one26 mm_ (by assumption) | exact Y_loadR rfl one26 (by assumption) rfl (by assumption))) rfl rfl ?_
  refine s_y (Y_mv) rfl rfl ?_
  refine s_y (Y_ia rfl rfl Try.underlying26 sz48 rfl (by omega)) rfl rfl ?_
  refine s_y ((by first | exact Y_loadAll rfl many48 mm_ (by rfl) | exact Y_loadN rfl many48 mm_ ‹_› ‹_› | exact Y_loadNR rfl many48 hr rfl | exact Y_loadNR rfl many48 hr2 rfl | exact Y_loadNR rfl many48 ‹_› rfl)) rfl rfl ?_
  refine s_n (N_alloc (z := .agg #[.int .i64 0, .int .i64 0, .int .i64 0, .int .i64 0, .int .i64 0, .int .i64 0, .int .i64 0, .int .i64 0, .int .i64 0, .int .i64 0, .int .i64 0]) (cs := [.int .i64 0, .int .i64 0, .int .i64 0, .int .i64 0, .int .i64 0, .int .i64 0, .int .i64 0, .int .i64 0, .int .i64 0, .int .i64 0, .int .i64 0]) zv48 rfl) rfl rfl (fun b5 _ => ?_)
  refine s_s (S_storeA (vs := e.cells) rfl rfl sz48 (by rfl) (by rfl) (by repeat (first | exact Upd.head | apply Upd.tail)) (by rfl)) rfl ?_
  refine s_nil ?_
  refine q_then ?_
  refine c_seq ?_
  refine c_seq ?_
  -- snap.go:49 R2
  refine c_reg ?_
  refine s_y (Y_fa 1 rfl Try.underlying48 rfl sz3 rfl) rfl rfl ?_
  refine s_y ((by first | exact Y_load rfl one3 mm_ (by rfl) | exact Y_loadR rfl one3 hr rfl rfl | exact Y_loadR rfl one3 hr2 rfl rfl | exact Y_load rfl one3 mm_ (eget he rfl) | exact Y_load rfl one3 mm_ (iget hx rfl) | exact Y_load rfl one3 mm_ (by assumption) | exact Y_loadR rfl one3 (by assumption) rfl (by assumption))) rfl rfl ?_
  refine s_c (En_call (fun _ => rfl) Try.func24 rfl (by kernel_rfl) rfl) (fun w hH => pwithin_d) rfl rfl ?_
  rintro _ _ ⟨rfl, rfl⟩
  refine s_y (Y_not rfl) rfl rfl ?_
  refine s_nil ?_
  refine q_then ?_
  first | refine c_cond' rfl (fun hc2 => ?_) (fun hc2 => ?_) | refine c_cond rfl (fun hc2 => ?_) (fun hc2 => ?_)
  · skip
    try simp only [nrm_] at hc2
    refine c_seq ?_
    -- snap.go:50 R3
    refine c_reg ?_
    refine s_y (Y_asC) rfl rfl ?_
    refine s_nil ?_
    refine q_then ?_
    refine c_ret ?_
    refine q_retG1 rfl gt_ (L' := _) sl_ (⟨by unfold fitsM; rw [hc2]; rfl, rfl⟩)
  · skip
    try simp only [nrm_] at hc2
    refine c_skip ?_
    refine q_then ?_
    refine c_seq ?_
    refine c_seq ?_
    -- snap.go:52 R4
    refine c_reg ?_
    refine s_y (Y_fa 0 rfl Try.underlying48 rfl sz3 rfl) rfl rfl ?_
    refine s_y ((by first | exact Y_load rfl one3 mm_ (by rfl) | exact Y_loadR rfl one3 hr rfl rfl | exact Y_loadR rfl one3 hr2 rfl rfl | exact Y_load rfl one3 mm_ (eget he rfl) | exact Y_load rfl one3 mm_ (iget hx rfl) | exact Y_load rfl one3 mm_ (by assumption) | exact Y_loadR rfl one3 (by assumption) rfl (by assumption))) rfl rfl ?_
    refine s_y (Y_eql rfl rfl) rfl rfl ?_
    refine s_nil ?_
    refine q_then ?_
    first | refine c_cond' rfl (fun hc4 => ?_) (fun hc4 => ?_) | refine c_cond rfl (fun hc4 => ?_) (fun hc4 => ?_)
    · skip
      try simp only [nrm_] at hc4
      refine c_seq ?_
      -- snap.go:53 R5
      refine c_reg ?_
      refine s_y ((by first | exact Y_loadAll rfl many48 mm_ (by rfl) | exact Y_loadN rfl many48 mm_ ‹_› ‹_› | exact Y_loadNR rfl many48 hr rfl | exact Y_loadNR rfl many48 hr2 rfl | exact Y_loadNR rfl many48 ‹_› rfl)) rfl rfl ?_
      refine s_y (Y_fa 1 rfl Try.underlying48 rfl sz3 rfl) rfl rfl ?_
      refine s_y ((by first | exact Y_load rfl one3 mm_ (by rfl) | exact Y_loadR rfl one3 hr rfl rfl | exact Y_loadR rfl one3 hr2 rfl rfl | exact Y_load rfl one3 mm_ (eget he rfl) | exact Y_load rfl one3 mm_ (iget hx rfl) | exact Y_load rfl one3 mm_ (by assumption) | exact Y_loadR rfl one3 (by assumption) rfl (by assumption))) rfl rfl ?_
      refine s_y (Y_build (cs := [.int .i64 0, _, .int .i64 0, .int .i64 0, .int .i64 0, .int .i64 0, .int .i64 0, .int .i64 0, .int .i64 0, .int .i64 0, .int .i64 0]) (by repeat (first | exact Gp.nil | apply Gp.const | apply Gp.tmp gt_)) (bld48 _ _ (by first | rfl | (simp; rfl)))) rfl rfl ?_
      refine s_y (Y_eqF (zs := [e.kind, e.gen, e.seat, e.x, e.y, e.hp, e.max, e.atk, e.df, e.poison, e.stun]) (zs' := [0, e.gen, 0, 0, 0, 0, 0, 0, 0, 0, 0]) rfl rfl flat48 rfl rfl) rfl rfl ?_
      refine s_y (Y_as) rfl rfl ?_
      refine s_nil ?_
      refine q_then ?_
      refine c_ret ?_
      refine q_retG1 rfl gt_ (L' := _) sl_ (⟨by unfold fitsM; rw [if_pos hc4]; congr 1; rw [show btw e.gen 0 255 = true by simpa using hc2, Bool.true_and]; simp [hc4], rfl⟩)
    · skip
      try simp only [nrm_] at hc4
      refine c_skip ?_
      refine q_then ?_
      refine c_seq ?_
      -- snap.go:55 R6
      refine c_reg ?_
      refine s_y (Y_fa 0 rfl Try.underlying48 rfl sz3 rfl) rfl rfl ?_
      refine s_y ((by first | exact Y_load rfl one3 mm_ (by rfl) | exact Y_loadR rfl one3 hr rfl rfl | exact Y_loadR rfl one3 hr2 rfl rfl | exact Y_load rfl one3 mm_ (eget he rfl) | exact Y_load rfl one3 mm_ (iget hx rfl) | exact Y_load rfl one3 mm_ (by assumption) | exact Y_loadR rfl one3 (by assumption) rfl (by assumption))) rfl rfl ?_
      refine s_c (En_call (fun _ => rfl) Try.func40 rfl (by kernel_rfl) rfl) (fun w hH => pstats_d) rfl rfl ?_
      rintro _ _ ⟨rfl, rfl⟩
      rw [hst0]
      refine s_n (N_alloc (z := .agg #[.int .i64 0, .int .i64 0, .int .i64 0, .int .i64 0, .int .i64 0, .int .i64 0, .int .i64 0, .int .i64 0, .int .i64 0, .int .i64 0, .int .i64 0]) (cs := [.int .i64 0, .int .i64 0, .int .i64 0, .int .i64 0, .int .i64 0, .int .i64 0, .int .i64 0, .int .i64 0, .int .i64 0, .int .i64 0, .int .i64 0]) zv48 rfl) rfl rfl (fun b6 _ => ?_)
      refine s_s ((by first | exact S_storeA rfl rfl sz48 (by first | rfl | assumption) (by first | rfl | assumption) (by repeat (first | exact Upd.head | apply Upd.tail)) (by first | rfl | assumption) | exact S_storeN rfl rfl sz48 (by rfl) (by first | rfl | assumption) (by repeat (first | exact Upd.head | apply Upd.tail)) (by simp only [setAll, List.set_cons_zero, List.set_cons_succ, Nat.zero_add, Nat.reduceAdd]; rfl) (by first | rfl | assumption))) rfl ?_
      refine s_nil ?_
      refine q_then ?_
      refine c_seq ?_
      -- snap.go:56 R7
      refine c_reg ?_
      refine s_y (Y_fa 4 rfl Try.underlying29 rfl sz25 rfl) rfl rfl ?_
      refine s_y ((by first | exact Y_load rfl one25 mm_ (by rfl) | exact Y_loadR rfl one25 hr rfl rfl | exact Y_loadR rfl one25 hr2 rfl rfl | exact Y_load rfl one25 mm_ (eget he rfl) | exact Y_load rfl one25 mm_ (iget hx rfl) | exact Y_load rfl one25 mm_ (by assumption) | exact Y_loadR rfl one25 (by assumption) rfl (by assumption))) rfl rfl ?_
      refine s_y (Y_fa 3 rfl Try.underlying48 rfl sz3 rfl) rfl rfl ?_
      refine s_y ((by first | exact Y_load rfl one3 mm_ (by rfl) | exact Y_loadR rfl one3 hr rfl rfl | exact Y_loadR rfl one3 hr2 rfl rfl | exact Y_load rfl one3 mm_ (eget he rfl) | exact Y_load rfl one3 mm_ (iget hx rfl) | exact Y_load rfl one3 mm_ (by assumption) | exact Y_loadR rfl one3 (by assumption) rfl (by assumption))) rfl rfl ?_
      refine s_y (Y_fa 4 rfl Try.underlying48 rfl sz3 rfl) rfl rfl ?_
      refine s_y ((by first | exact Y_load rfl one3 mm_ (by rfl) | exact Y_loadR rfl one3 hr rfl rfl | exact Y_loadR rfl one3 hr2 rfl rfl | exact Y_load rfl one3 mm_ (eget he rfl) | exact Y_load rfl one3 mm_ (iget hx rfl) | exact Y_load rfl one3 mm_ (by assumption) | exact Y_loadR rfl one3 (by assumption) rfl (by assumption))) rfl rfl ?_
      refine s_c (En_call (fun _ => rfl) Try.func42 rfl (by kernel_rfl) rfl) (fun w hH => pgat_d (hw.c.has hH)) rfl rfl ?_
      rintro _ _ ⟨rfl, rfl⟩
      refine s_c (En_call (fun _ => rfl) Try.func41 rfl (by kernel_rfl) rfl) (fun w hH => pwalk_d) rfl rfl ?_
      rintro _ _ ⟨rfl, rfl⟩
      refine s_y (Y_mv) rfl rfl ?_
      apply s_and 6 [36, 37, 38, 39, 40, 41, 42] 42 (g := 36) rfl rfl
      · intro ht9 hm
        try simp only [nrm_] at ht9
        first | refine s_y (Y_fa 5 rfl Try.underlying48 rfl sz3 rfl) rfl rfl ?_ | refine s_pass rfl rfl ?_
        first | refine s_y ((by first | exact Y_load rfl one3 mm_ (by rfl) | exact Y_loadR rfl one3 hr rfl rfl | exact Y_loadR rfl one3 hr2 rfl rfl | exact Y_load rfl one3 mm_ (eget he rfl) | exact Y_load rfl one3 mm_ (iget hx rfl) | exact Y_load rfl one3 mm_ (by assumption) | exact Y_loadR rfl one3 (by assumption) rfl (by assumption))) rfl rfl ?_ | refine s_pass rfl rfl ?_
        first | refine s_y (Y_fa 6 rfl Try.underlying48 rfl sz3 rfl) rfl rfl ?_ | refine s_pass rfl rfl ?_
        first | refine s_y ((by first | exact Y_load rfl one3 mm_ (by rfl) | exact Y_loadR rfl one3 hr rfl rfl | exact Y_loadR rfl one3 hr2 rfl rfl | exact Y_load rfl one3 mm_ (eget he rfl) | exact Y_load rfl one3 mm_ (iget hx rfl) | exact Y_load rfl one3 mm_ (by assumption) | exact Y_loadR rfl one3 (by assumption) rfl (by assumption))) rfl rfl ?_ | refine s_pass rfl rfl ?_
        refine s_c (En_call (fun _ => rfl) Try.func24 rfl (by kernel_rfl) rfl) (fun w hH => pwithin_d) rfl rfl ?_
        rintro _ _ ⟨rfl, rfl⟩
        refine s_y (Y_pk rfl (Gx.tmp gt_) Gx.const) rfl rfl ?_
        first | exact hm _ ⟨rfl, trivial⟩ rfl | exact QL.sub sl_ (hm _ ⟨rfl, trivial⟩ rfl)
      · intro ht9 hm
        iterate 5 refine s_pass rfl rfl ?_
        refine s_y (Y_pk rfl (Gx.tmp gt_) Gx.const) rfl rfl ?_
        exact hm _ ⟨rfl, trivial⟩ rfl
      intro j42
      refine s_y (Y_mv) rfl rfl ?_
      apply s_and 6 [43, 44, 45, 46, 47, 48, 49] 49 (g := 43) rfl rfl
      · intro ht16 hm
        try simp only [nrm_] at ht16
        first | refine s_y (Y_fa 6 rfl Try.underlying48 rfl sz3 rfl) rfl rfl ?_ | refine s_pass rfl rfl ?_
        first | refine s_y ((by first | exact Y_load rfl one3 mm_ (by rfl) | exact Y_loadR rfl one3 hr rfl rfl | exact Y_loadR rfl one3 hr2 rfl rfl | exact Y_load rfl one3 mm_ (eget he rfl) | exact Y_load rfl one3 mm_ (iget hx rfl) | exact Y_load rfl one3 mm_ (by assumption) | exact Y_loadR rfl one3 (by assumption) rfl (by assumption))) rfl rfl ?_ | refine s_pass rfl rfl ?_
        first | refine s_y (Y_fa 6 rfl Try.underlying48 rfl sz3 rfl) rfl rfl ?_ | refine s_pass rfl rfl ?_
        first | refine s_y ((by first | exact Y_load rfl one3 mm_ (by rfl) | exact Y_loadR rfl one3 hr rfl rfl | exact Y_loadR rfl one3 hr2 rfl rfl | exact Y_load rfl one3 mm_ (eget he rfl) | exact Y_load rfl one3 mm_ (iget hx rfl) | exact Y_load rfl one3 mm_ (by assumption) | exact Y_loadR rfl one3 (by assumption) rfl (by assumption))) rfl rfl ?_ | refine s_pass rfl rfl ?_
        first | refine s_y (Y_eql rfl rfl) rfl rfl ?_ | refine s_pass rfl rfl ?_
        refine s_y (Y_pk rfl (Gx.tmp gt_) Gx.const) rfl rfl ?_
        first | exact hm _ ⟨rfl, trivial⟩ rfl | exact QL.sub sl_ (hm _ ⟨rfl, trivial⟩ rfl)
      · intro ht16 hm
        iterate 5 refine s_pass rfl rfl ?_
        refine s_y (Y_pk rfl (Gx.tmp gt_) Gx.const) rfl rfl ?_
        exact hm _ ⟨rfl, trivial⟩ rfl
      intro j49
      refine s_y (Y_mv) rfl rfl ?_
      apply s_and 6 [50, 51, 52, 53, 54, 55, 56] 56 (g := 50) rfl rfl
      · intro ht23 hm
        try simp only [nrm_] at ht23
        first | refine s_y (Y_fa 7 rfl Try.underlying48 rfl sz3 rfl) rfl rfl ?_ | refine s_pass rfl rfl ?_
        first | refine s_y ((by first | exact Y_load rfl one3 mm_ (by rfl) | exact Y_loadR rfl one3 hr rfl rfl | exact Y_loadR rfl one3 hr2 rfl rfl | exact Y_load rfl one3 mm_ (eget he rfl) | exact Y_load rfl one3 mm_ (iget hx rfl) | exact Y_load rfl one3 mm_ (by assumption) | exact Y_loadR rfl one3 (by assumption) rfl (by assumption))) rfl rfl ?_ | refine s_pass rfl rfl ?_
        first | refine s_y (Y_fa 7 rfl Try.underlying48 rfl sz3 rfl) rfl rfl ?_ | refine s_pass rfl rfl ?_
        first | refine s_y ((by first | exact Y_load rfl one3 mm_ (by rfl) | exact Y_loadR rfl one3 hr rfl rfl | exact Y_loadR rfl one3 hr2 rfl rfl | exact Y_load rfl one3 mm_ (eget he rfl) | exact Y_load rfl one3 mm_ (iget hx rfl) | exact Y_load rfl one3 mm_ (by assumption) | exact Y_loadR rfl one3 (by assumption) rfl (by assumption))) rfl rfl ?_ | refine s_pass rfl rfl ?_
        first | refine s_y (Y_eql rfl rfl) rfl rfl ?_ | refine s_pass rfl rfl ?_
        refine s_y (Y_pk rfl (Gx.tmp gt_) Gx.const) rfl rfl ?_
        first | exact hm _ ⟨rfl, trivial⟩ rfl | exact QL.sub sl_ (hm _ ⟨rfl, trivial⟩ rfl)
      · intro ht23 hm
        iterate 5 refine s_pass rfl rfl ?_
        refine s_y (Y_pk rfl (Gx.tmp gt_) Gx.const) rfl rfl ?_
        exact hm _ ⟨rfl, trivial⟩ rfl
      intro j56
      refine s_y (Y_mv) rfl rfl ?_
      apply s_and 6 [57, 58, 59, 60, 61, 62, 63] 63 (g := 57) rfl rfl
      · intro ht30 hm
        try simp only [nrm_] at ht30
        first | refine s_y (Y_fa 8 rfl Try.underlying48 rfl sz3 rfl) rfl rfl ?_ | refine s_pass rfl rfl ?_
        first | refine s_y ((by first | exact Y_load rfl one3 mm_ (by rfl) | exact Y_loadR rfl one3 hr rfl rfl | exact Y_loadR rfl one3 hr2 rfl rfl | exact Y_load rfl one3 mm_ (eget he rfl) | exact Y_load rfl one3 mm_ (iget hx rfl) | exact Y_load rfl one3 mm_ (by assumption) | exact Y_loadR rfl one3 (by assumption) rfl (by assumption))) rfl rfl ?_ | refine s_pass rfl rfl ?_
        first | refine s_y (Y_fa 8 rfl Try.underlying48 rfl sz3 rfl) rfl rfl ?_ | refine s_pass rfl rfl ?_
        first | refine s_y ((by first | exact Y_load rfl one3 mm_ (by rfl) | exact Y_loadR rfl one3 hr rfl rfl | exact Y_loadR rfl one3 hr2 rfl rfl | exact Y_load rfl one3 mm_ (eget he rfl) | exact Y_load rfl one3 mm_ (iget hx rfl) | exact Y_load rfl one3 mm_ (by assumption) | exact Y_loadR rfl one3 (by assumption) rfl (by assumption))) rfl rfl ?_ | refine s_pass rfl rfl ?_
        first | refine s_y (Y_eql rfl rfl) rfl rfl ?_ | refine s_pass rfl rfl ?_
        refine s_y (Y_pk rfl (Gx.tmp gt_) Gx.const) rfl rfl ?_
        first | exact hm _ ⟨rfl, trivial⟩ rfl | exact QL.sub sl_ (hm _ ⟨rfl, trivial⟩ rfl)
      · intro ht30 hm
        iterate 5 refine s_pass rfl rfl ?_
        refine s_y (Y_pk rfl (Gx.tmp gt_) Gx.const) rfl rfl ?_
        exact hm _ ⟨rfl, trivial⟩ rfl
      intro j63
      refine s_y (Y_as) rfl rfl ?_
      refine s_nil ?_
      refine q_then ?_
      refine c_seq ?_
      -- snap.go:57 R8
      refine c_reg ?_
      refine s_y (Y_mv) rfl rfl ?_
      refine s_y (Y_mv) rfl rfl ?_
      apply s_and 4 [65, 66, 67, 68, 69] 69 (g := 65) rfl rfl
      · intro ht2 hm
        try simp only [nrm_] at ht2
        first | refine s_y (Y_fa 9 rfl Try.underlying48 rfl sz3 rfl) rfl rfl ?_ | refine s_pass rfl rfl ?_
        first | refine s_y ((by first | exact Y_load rfl one3 mm_ (by rfl) | exact Y_loadR rfl one3 hr rfl rfl | exact Y_loadR rfl one3 hr2 rfl rfl | exact Y_load rfl one3 mm_ (eget he rfl) | exact Y_load rfl one3 mm_ (iget hx rfl) | exact Y_load rfl one3 mm_ (by assumption) | exact Y_loadR rfl one3 (by assumption) rfl (by assumption))) rfl rfl ?_ | refine s_pass rfl rfl ?_
        refine s_c (En_call (fun _ => rfl) Try.func24 rfl (by kernel_rfl) rfl) (fun w hH => pwithin_d) rfl rfl ?_
        rintro _ _ ⟨rfl, rfl⟩
        refine s_y (Y_pk rfl (Gx.tmp gt_) Gx.const) rfl rfl ?_
        first | exact hm _ ⟨rfl, trivial⟩ rfl | exact QL.sub sl_ (hm _ ⟨rfl, trivial⟩ rfl)
      · intro ht2 hm
        iterate 3 refine s_pass rfl rfl ?_
        refine s_y (Y_pk rfl (Gx.tmp gt_) Gx.const) rfl rfl ?_
        exact hm _ ⟨rfl, trivial⟩ rfl
      intro j69
      refine s_y (Y_mv) rfl rfl ?_
      apply s_and 4 [70, 71, 72, 73, 74] 74 (g := 70) rfl rfl
      · intro ht7 hm
        try simp only [nrm_] at ht7
        first | refine s_y (Y_fa 10 rfl Try.underlying48 rfl sz3 rfl) rfl rfl ?_ | refine s_pass rfl rfl ?_
        first | refine s_y ((by first | exact Y_load rfl one3 mm_ (by rfl) | exact Y_loadR rfl one3 hr rfl rfl | exact Y_loadR rfl one3 hr2 rfl rfl | exact Y_load rfl one3 mm_ (eget he rfl) | exact Y_load rfl one3 mm_ (iget hx rfl) | exact Y_load rfl one3 mm_ (by assumption) | exact Y_loadR rfl one3 (by assumption) rfl (by assumption))) rfl rfl ?_ | refine s_pass rfl rfl ?_
        refine s_c (En_call (fun _ => rfl) Try.func24 rfl (by kernel_rfl) rfl) (fun w hH => pwithin_d) rfl rfl ?_
        rintro _ _ ⟨rfl, rfl⟩
        refine s_y (Y_pk rfl (Gx.tmp gt_) Gx.const) rfl rfl ?_
        first | exact hm _ ⟨rfl, trivial⟩ rfl | exact QL.sub sl_ (hm _ ⟨rfl, trivial⟩ rfl)
      · intro ht7 hm
        iterate 3 refine s_pass rfl rfl ?_
        refine s_y (Y_pk rfl (Gx.tmp gt_) Gx.const) rfl rfl ?_
        exact hm _ ⟨rfl, trivial⟩ rfl
      intro j74
      refine s_y (Y_as) rfl rfl ?_
      refine s_nil ?_
      refine q_then ?_
      refine c_seq ?_
      refine c_seq ?_
      -- snap.go:58 R9
      have hgen : btw e.gen 0 255 = true := by simpa using hc2
      have hrow := fnd_row (p := fun x : Ent => decide (x.kind ≠ 0 ∧ x.x = e.x ∧ x.y = e.y)) he (by simp [hc4])
      refine c_reg ?_
      refine s_y (Y_fa 0 rfl Try.underlying48 rfl sz3 rfl) rfl rfl ?_
      refine s_y ((by first | exact Y_load rfl one3 mm_ (by rfl) | exact Y_loadR rfl one3 hr rfl rfl | exact Y_loadR rfl one3 hr2 rfl rfl | exact Y_load rfl one3 mm_ (eget he rfl) | exact Y_load rfl one3 mm_ (iget hx rfl) | exact Y_load rfl one3 mm_ (by assumption) | exact Y_loadR rfl one3 (by assumption) rfl (by assumption))) rfl rfl ?_
      refine s_y (Y_eql rfl rfl) rfl rfl ?_
      refine s_nil ?_
      refine q_then ?_
      first | refine c_cond' rfl (fun hc9 => ?_) (fun hc9 => ?_) | refine c_cond rfl (fun hc9 => ?_) (fun hc9 => ?_)
      · skip
        try simp only [nrm_] at hc9
        refine c_seq ?_
        -- snap.go:59 R10
        refine c_reg ?_
        refine s_y (Y_mv) rfl rfl ?_
        refine s_y (Y_mv) rfl rfl ?_
        apply s_and 4 [79, 80, 81, 82, 83] 83 (g := 79) rfl rfl
        · intro ht2 hm
          try simp only [nrm_] at ht2
          first | refine s_y (Y_fa 2 rfl Try.underlying48 rfl sz3 rfl) rfl rfl ?_ | refine s_pass rfl rfl ?_
          first | refine s_y ((by first | exact Y_load rfl one3 mm_ (by rfl) | exact Y_loadR rfl one3 hr rfl rfl | exact Y_loadR rfl one3 hr2 rfl rfl | exact Y_load rfl one3 mm_ (eget he rfl) | exact Y_load rfl one3 mm_ (iget hx rfl) | exact Y_load rfl one3 mm_ (by assumption) | exact Y_loadR rfl one3 (by assumption) rfl (by assumption))) rfl rfl ?_ | refine s_pass rfl rfl ?_
          refine s_c (En_call (fun _ => rfl) Try.func24 rfl (by kernel_rfl) rfl) (fun w hH => pwithin_d) rfl rfl ?_
          rintro _ _ ⟨rfl, rfl⟩
          refine s_y (Y_pk rfl (Gx.tmp gt_) Gx.const) rfl rfl ?_
          first | exact hm _ ⟨rfl, trivial⟩ rfl | exact QL.sub sl_ (hm _ ⟨rfl, trivial⟩ rfl)
        · intro ht2 hm
          iterate 3 refine s_pass rfl rfl ?_
          refine s_y (Y_pk rfl (Gx.tmp gt_) Gx.const) rfl rfl ?_
          exact hm _ ⟨rfl, trivial⟩ rfl
        intro j83
        refine s_y (Y_mv) rfl rfl ?_
        apply s_and 10 [84, 85, 86, 87, 88, 89, 90, 91, 92, 93, 94] 94 (g := 84) rfl rfl
        · intro ht7 hm
          try simp only [nrm_] at ht7
          first | refine s_y (Y_fa 5 rfl Try.underlying29 rfl sz26 rfl) rfl rfl ?_ | refine s_pass rfl rfl ?_
          first | refine s_y ((by first | exact Y_load rfl one26 mm_ (by rfl) | exact Y_loadR rfl one26 hr rfl rfl | exact Y_loadR rfl one26 hr2 rfl rfl | exact Y_load rfl one26 mm_ (eget he rfl) | exact Y_load rfl one26 mm_ (iget hx rfl) | exact Y_load rfl one26 mm_ (by assumption) | exact Y_loadR rfl one26 (by assumption) rfl (by assumption))) rfl rfl ?_ | refine s_pass rfl rfl ?_
          first | refine s_y (Y_fa 3 rfl Try.underlying48 rfl sz3 rfl) rfl rfl ?_ | refine s_pass rfl rfl ?_
          first | refine s_y ((by first | exact Y_load rfl one3 mm_ (by rfl) | exact Y_loadR rfl one3 hr rfl rfl | exact Y_loadR rfl one3 hr2 rfl rfl | exact Y_load rfl one3 mm_ (eget he rfl) | exact Y_load rfl one3 mm_ (iget hx rfl) | exact Y_load rfl one3 mm_ (by assumption) | exact Y_loadR rfl one3 (by assumption) rfl (by assumption))) rfl rfl ?_ | refine s_pass rfl rfl ?_
          first | refine s_y (Y_fa 4 rfl Try.underlying48 rfl sz3 rfl) rfl rfl ?_ | refine s_pass rfl rfl ?_
          first | refine s_y ((by first | exact Y_load rfl one3 mm_ (by rfl) | exact Y_loadR rfl one3 hr rfl rfl | exact Y_loadR rfl one3 hr2 rfl rfl | exact Y_load rfl one3 mm_ (eget he rfl) | exact Y_load rfl one3 mm_ (iget hx rfl) | exact Y_load rfl one3 mm_ (by assumption) | exact Y_loadR rfl one3 (by assumption) rfl (by assumption))) rfl rfl ?_ | refine s_pass rfl rfl ?_
          refine s_c (En_call (fun _ => rfl) Try.func43 rfl (by kernel_rfl) rfl) (fun w hH => peat_d (hw.e.has hH)) rfl rfl ?_
          rintro _ _ ⟨rfl, rfl⟩
          first | refine s_y (Y_mv) rfl rfl ?_ | refine s_pass rfl rfl ?_
          first | refine s_y (Y_eql rfl rfl) rfl rfl ?_ | refine s_pass rfl rfl ?_
          refine s_y (Y_pk rfl (Gx.tmp gt_) Gx.const) rfl rfl ?_
          first | exact hm _ ⟨rfl, trivial⟩ rfl | exact QL.sub sl_ (hm _ ⟨rfl, trivial⟩ rfl)
        · intro ht7 hm
          iterate 9 refine s_pass rfl rfl ?_
          refine s_y (Y_pk rfl (Gx.tmp gt_) Gx.const) rfl rfl ?_
          exact hm _ ⟨rfl, trivial⟩ rfl
        intro j94
        refine s_y (Y_mv) rfl rfl ?_
        apply s_and 8 [95, 96, 97, 98, 99, 100, 101, 102, 103] 103 (g := 95) rfl rfl
        · intro ht18 hm
          try simp only [nrm_] at ht18
          first | refine s_y (Y_fa 5 rfl Try.underlying29 rfl sz26 rfl) rfl rfl ?_ | refine s_pass rfl rfl ?_
          first | refine s_y ((by first | exact Y_load rfl one26 mm_ (by rfl) | exact Y_loadR rfl one26 hr rfl rfl | exact Y_loadR rfl one26 hr2 rfl rfl | exact Y_load rfl one26 mm_ (eget he rfl) | exact Y_load rfl one26 mm_ (iget hx rfl) | exact Y_load rfl one26 mm_ (by assumption) | exact Y_loadR rfl one26 (by assumption) rfl (by assumption))) rfl rfl ?_ | refine s_pass rfl rfl ?_
          first | refine s_y (Y_fa 2 rfl Try.underlying48 rfl sz3 rfl) rfl rfl ?_ | refine s_pass rfl rfl ?_
          first | refine s_y ((by first | exact Y_load rfl one3 mm_ (by rfl) | exact Y_loadR rfl one3 hr rfl rfl | exact Y_loadR rfl one3 hr2 rfl rfl | exact Y_load rfl one3 mm_ (eget he rfl) | exact Y_load rfl one3 mm_ (iget hx rfl) | exact Y_load rfl one3 mm_ (by assumption) | exact Y_loadR rfl one3 (by assumption) rfl (by assumption))) rfl rfl ?_ | refine s_pass rfl rfl ?_
          refine s_c (En_call (fun _ => rfl) Try.func44 rfl (by kernel_rfl) rfl) (fun w hH => phero_d (hw.e.has hH)) rfl rfl ?_
          rintro _ _ ⟨rfl, rfl⟩
          first | refine s_y (Y_mv) rfl rfl ?_ | refine s_pass rfl rfl ?_
          first | refine s_y (Y_eql rfl rfl) rfl rfl ?_ | refine s_pass rfl rfl ?_
          refine s_y (Y_pk rfl (Gx.tmp gt_) Gx.const) rfl rfl ?_
          first | exact hm _ ⟨rfl, trivial⟩ rfl | exact QL.sub sl_ (hm _ ⟨rfl, trivial⟩ rfl)
        · intro ht18 hm
          iterate 7 refine s_pass rfl rfl ?_
          refine s_y (Y_pk rfl (Gx.tmp gt_) Gx.const) rfl rfl ?_
          exact hm _ ⟨rfl, trivial⟩ rfl
        intro j103
        refine s_y (Y_as) rfl rfl ?_
        refine s_nil ?_
        refine q_then ?_
        refine c_ret ?_
        refine q_retG1 rfl gt_ (L' := _) sl_ (⟨by
            have hrow2 := fnd_row (p := fun x : Ent => decide (x.kind = 1 ∧ x.seat = e.seat)) he (by simp [hc9])
            rw [ht32]
            congr 1
            rw [Bool.eq_iff_iff, fits_iff hc4, hst0]
            rw [show eAt d.ents e.x e.y = _ from rfl, show eHero d.ents e.seat = _ from rfl]
            simp only [nrm_, btw, eAt, eHero, hrow, hrow2] at hgen ⊢
            grind, rfl⟩)
      · skip
        try simp only [nrm_] at hc9
        refine c_skip ?_
        refine q_then ?_
        refine c_seq ?_
        -- snap.go:61 R11
        refine c_reg ?_
        refine s_y (Y_mv) rfl rfl ?_
        refine s_y (Y_mv) rfl rfl ?_
        apply s_and 4 [105, 106, 107, 108, 109] 109 (g := 105) rfl rfl
        · intro ht2 hm
          try simp only [nrm_] at ht2
          first | refine s_y (Y_fa 2 rfl Try.underlying48 rfl sz3 rfl) rfl rfl ?_ | refine s_pass rfl rfl ?_
          first | refine s_y ((by first | exact Y_load rfl one3 mm_ (by rfl) | exact Y_loadR rfl one3 hr rfl rfl | exact Y_loadR rfl one3 hr2 rfl rfl | exact Y_load rfl one3 mm_ (eget he rfl) | exact Y_load rfl one3 mm_ (iget hx rfl) | exact Y_load rfl one3 mm_ (by assumption) | exact Y_loadR rfl one3 (by assumption) rfl (by assumption))) rfl rfl ?_ | refine s_pass rfl rfl ?_
          first | refine s_y (Y_eql rfl rfl) rfl rfl ?_ | refine s_pass rfl rfl ?_
          refine s_y (Y_pk rfl (Gx.tmp gt_) Gx.const) rfl rfl ?_
          first | exact hm _ ⟨rfl, trivial⟩ rfl | exact QL.sub sl_ (hm _ ⟨rfl, trivial⟩ rfl)
        · intro ht2 hm
          iterate 3 refine s_pass rfl rfl ?_
          refine s_y (Y_pk rfl (Gx.tmp gt_) Gx.const) rfl rfl ?_
          exact hm _ ⟨rfl, trivial⟩ rfl
        intro j109
        refine s_y (Y_mv) rfl rfl ?_
        apply s_and 10 [110, 111, 112, 113, 114, 115, 116, 117, 118, 119, 120] 120 (g := 110) rfl rfl
        · intro ht7 hm
          try simp only [nrm_] at ht7
          first | refine s_y (Y_fa 5 rfl Try.underlying29 rfl sz26 rfl) rfl rfl ?_ | refine s_pass rfl rfl ?_
          first | refine s_y ((by first | exact Y_load rfl one26 mm_ (by rfl) | exact Y_loadR rfl one26 hr rfl rfl | exact Y_loadR rfl one26 hr2 rfl rfl | exact Y_load rfl one26 mm_ (eget he rfl) | exact Y_load rfl one26 mm_ (iget hx rfl) | exact Y_load rfl one26 mm_ (by assumption) | exact Y_loadR rfl one26 (by assumption) rfl (by assumption))) rfl rfl ?_ | refine s_pass rfl rfl ?_
          first | refine s_y (Y_fa 3 rfl Try.underlying48 rfl sz3 rfl) rfl rfl ?_ | refine s_pass rfl rfl ?_
          first | refine s_y ((by first | exact Y_load rfl one3 mm_ (by rfl) | exact Y_loadR rfl one3 hr rfl rfl | exact Y_loadR rfl one3 hr2 rfl rfl | exact Y_load rfl one3 mm_ (eget he rfl) | exact Y_load rfl one3 mm_ (iget hx rfl) | exact Y_load rfl one3 mm_ (by assumption) | exact Y_loadR rfl one3 (by assumption) rfl (by assumption))) rfl rfl ?_ | refine s_pass rfl rfl ?_
          first | refine s_y (Y_fa 4 rfl Try.underlying48 rfl sz3 rfl) rfl rfl ?_ | refine s_pass rfl rfl ?_
          first | refine s_y ((by first | exact Y_load rfl one3 mm_ (by rfl) | exact Y_loadR rfl one3 hr rfl rfl | exact Y_loadR rfl one3 hr2 rfl rfl | exact Y_load rfl one3 mm_ (eget he rfl) | exact Y_load rfl one3 mm_ (iget hx rfl) | exact Y_load rfl one3 mm_ (by assumption) | exact Y_loadR rfl one3 (by assumption) rfl (by assumption))) rfl rfl ?_ | refine s_pass rfl rfl ?_
          refine s_c (En_call (fun _ => rfl) Try.func43 rfl (by kernel_rfl) rfl) (fun w hH => peat_d (hw.e.has hH)) rfl rfl ?_
          rintro _ _ ⟨rfl, rfl⟩
          first | refine s_y (Y_mv) rfl rfl ?_ | refine s_pass rfl rfl ?_
          first | refine s_y (Y_eql rfl rfl) rfl rfl ?_ | refine s_pass rfl rfl ?_
          refine s_y (Y_pk rfl (Gx.tmp gt_) Gx.const) rfl rfl ?_
          first | exact hm _ ⟨rfl, trivial⟩ rfl | exact QL.sub sl_ (hm _ ⟨rfl, trivial⟩ rfl)
        · intro ht7 hm
          iterate 9 refine s_pass rfl rfl ?_
          refine s_y (Y_pk rfl (Gx.tmp gt_) Gx.const) rfl rfl ?_
          exact hm _ ⟨rfl, trivial⟩ rfl
        intro j120
        refine s_y (Y_as) rfl rfl ?_
        refine s_nil ?_
        refine q_then ?_
        refine c_ret ?_
        refine q_retG1 rfl gt_ (L' := _) sl_ (⟨by
            rw [ht32]
            congr 1
            rw [Bool.eq_iff_iff, fits_iff hc4, hst0]
            rw [show eAt d.ents e.x e.y = _ from rfl]
            simp only [nrm_, btw, eAt, hrow] at hgen ⊢
            grind, rfl⟩)
end
end Go.Proofs.Ytecodneffflpoaa
