/- Texts of this claim, laid together: part 2. -/
import Derived.Test.YtcogbkkdccohfaaGreatSF1
import Derived.Shelf.Bytes.SlCountOne
set_option linter.unusedVariables false
set_option linter.unusedSimpArgs false
set_option maxHeartbeats 1600000
namespace Go.Proofs.YtcogbkkdccohfaaGreat
open Go.RowKit Go.Ad Go.Maps
set_option linter.unusedVariables false
set_option linter.unusedSimpArgs false
abbrev ci (i : Nat) : Value := iv (i : Int)
abbrev fB (b : Nat) (f : List Int) : Bk := ⟨b, 3, 1, 384, f.map iv⟩
theorem iv_get {f : List Int} {k : Nat} (h : k < f.length) : (f.map iv)[0 + k]? = some (iv (getI f k)) := by
  rw [Nat.zero_add, List.getElem?_map, get_getI h]; rfl
theorem iv_set (f : List Int) (k : Nat) (z : Int) : (f.map iv).set (0 + k) (iv z) = (f.set k z).map iv := by rw [Nat.zero_add, List.map_set]
def negF (i : Nat) : List Int := List.replicate i (-1) ++ List.replicate (384 - i) 0
theorem negF_set {i : Nat} (h : i < 384) : (negF i).set i (-1) = negF (i + 1) := by
  unfold negF
  rw [List.set_append_right _ _ (by simp), List.length_replicate, Nat.sub_self, show 384 - i = (384 - (i + 1)) + 1 by omega, List.replicate_succ, List.set_cons_zero, List.replicate_succ', List.append_assoc]
  rfl
theorem negF_all : negF 384 = List.replicate 384 (-1) := by
  unfold negF
  rw [Nat.sub_self, List.replicate_zero, List.append_nil]
theorem negF_len {i : Nat} (h : i ≤ 384) : (negF i).length = 384 := by unfold negF; simp; omega
structure Bars (W : World) (a : Option Addr) (n : Nat) (bl : List Bool) : Prop where
  len : bl.length = n
  big : n ≤ 100000
  ro : n ≠ 0 → ∃ b o, a = some ⟨b, o, none⟩ ∧ Ro W b o (bl.map Value.bool)
theorem nb_rng {i : Nat} (h : i < 384) (d : Nat) : -1 ≤ (nbM i d).1 ∧ (nbM i d).1 ≤ 24 ∧ -1 ≤ (nbM i d).2 ∧ (nbM i d).2 ≤ 16 := by
  unfold nbM
  split <;> simp only <;> omega
theorem in_k {x y : Int} (h : inM x y = true) : (y * 24 + x).toNat < 384 ∧ 0 ≤ y * 24 + x := by
  simp only [inM, decide_eq_true_eq] at h; omega
theorem bools_get {bl : List Bool} {k : Nat} (h : k < bl.length) : (bl.map Value.bool)[k]? = some (.bool (bl.getD k false)) := by
  rw [List.getElem?_map, List.getD_eq_getElem?_getD, List.getElem?_eq_getElem h]; rfl
structure Mk (f : List Int) : Prop where
  len : f.length = 384
  val : ∀ v ∈ f, v = -1 ∨ v = 0
theorem negF_mk : Mk (negF 384) := by
  rw [negF_all]
  exact ⟨List.length_replicate, fun v hv => .inl (List.eq_of_mem_replicate hv)⟩
theorem Mk.mark {f : List Int} (h : Mk f) (cells : List UInt8) (t : Int) : Mk (markM cells f t) := by
  unfold markM
  split
  · refine ⟨by simp [h.len], fun v hv => ?_⟩
    rcases List.mem_or_eq_of_mem_set hv with h1 | h1
    · exact h.val v h1
    · exact .inr h1
  · exact h
theorem zeros_succ (f : List Int) (i : Nat) : zerosM f (i + 1) = if getI f i = 0 then zerosM f i ++ [i] else zerosM f i := by
  unfold zerosM
  rw [List.range_succ, List.filter_append]
  by_cases h : getI f i = 0 <;> simp [h]
theorem zeros_mem {f : List Int} {n i : Nat} (h : i ∈ zerosM f n) : i < n ∧ getI f i = 0 := by
  unfold zerosM at h
  simpa using h
theorem negs_zeros {f : List Int} (h : Mk f) : negs f + (zerosM f 384).length = 384 := by
  have key : ∀ (f : List Int), (∀ v ∈ f, v = -1 ∨ v = 0) → negs f + ((List.range f.length).filter fun i => decide (getI f i = 0)).length = f.length := by
    intro f
    induction f with
    | nil => intro _; rfl
    | cons a r ih =>
      intro hv
      have h1 := ih (fun v h => hv v (List.mem_cons_of_mem _ h))
      have h2 := hv a (List.mem_cons_self ..)
      rw [List.length_cons, List.range_succ_eq_map, List.filter_cons, List.filter_map]
      have e1 : (List.filter ((fun i => decide (getI (a :: r) i = 0)) ∘ Nat.succ) (List.range r.length)) = List.filter (fun i => decide (getI r i = 0)) (List.range r.length) := by
        congr 1
      rcases h2 with rfl | rfl
      · have e2 : negs (-1 :: r) = negs r + 1 := by simp [negs]
        have e3 : decide (getI (-1 :: r) 0 = 0) = false := rfl
        rw [e2, e3]; simp only [Bool.false_eq_true, if_false]
        rw [List.length_map, e1]; omega
      · have e2 : negs (0 :: r) = negs r := by simp [negs]
        have e3 : decide (getI (0 :: r) 0 = 0) = true := rfl
        rw [e2, e3]; simp only [if_true, List.length_cons]
        rw [List.length_map, e1]; omega
  have := key f h.val
  rw [h.len] at this
  exact this
theorem Mk.bfs {f : List Int} (h : Mk f) : Bfs f (zerosM f 384) := by
  refine ⟨h.len, fun i hi => ?_, fun v hv => ?_, negs_zeros h⟩
  · obtain ⟨h1, h2⟩ := zeros_mem hi
    exact ⟨h1, by omega⟩
  · rcases h.val v hv with rfl | rfl <;> omega
section
variable {W : World}
theorem FH {w : World} {L : List Bk} {b : Nat} (h : Has W [] ([⟨b, 3, 1, 384, List.replicate 384 (.int .i64 0)⟩]) w) : Has W [] [fB b (negF 0)] w := by
  have e : (negF 0).map iv = List.replicate 384 (.int .i64 0) := by
    unfold negF
    rw [List.map_append, List.map_replicate, List.map_replicate]; rfl
  rw [fB, e]; exact h
set_option maxRecDepth 100000 in
set_option maxHeartbeats 3200000 in
theorem rfield_d {b o n c : Nat} {cells : List UInt8} (hs : SlB W b o n c 1 (cells.map bv)) {ab : Option Addr} {nb kb : Nat} {bl : List Bool} (hbl : Bars W ab nb bl) {tb to tn tc : Nat} {ts : List Int} (ht : SlB W tb to tn tc 1 (ts.map iv)) :
    Does Tryz.prog 121 [.slice (some ⟨b, o, none⟩) n c, .slice ab nb kb, .slice (some ⟨tb, to, none⟩) tn tc] W [] (fun v L => ∃ g, v = .slice (some ⟨g, 0, none⟩) 384 384 ∧ L = [fB g (fieldM cells bl ts)]) := by
  obtain rfl : tn = ts.length := by have := ht.len; simp at this; omega
  have htb := ht.cap
  have htg := ht.big
  simp only [maxLen] at htg
  refine enter Tryz.func121 rfl rfl rfl (Has.start _) ?_
  refine c_seq ?_
  refine c_reg ?_
  refine s_y (Y_asC) rfl rfl ?_
  refine s_nil ?_
  refine q_then ?_
  refine c_seq ?_
  refine c_reg ?_
  refine s_n (N_make1 (n := 384) rfl rfl Tryz.underlying23 inf3 rfl rfl (by omega) (by omega)) rfl rfl (fun b19 _ => ?_)
  refine s_y (Y_as) rfl rfl ?_
  refine s_nil ?_
  refine q_then ?_
  refine c_seq ?_
  refine c_seq ?_
  refine c_reg ?_
  refine s_y (Y_asC) rfl rfl ?_
  refine s_nil ?_
  refine q_then ?_
  refine c_block ?_
  refine c_loop [8, 20, 21, 22, 23, 24, 25, 26] (fun m i => i + m = 384) (fun i => [(8, iv i)]) (fun i => [fB b19 (negF i)]) (384) (0) (by omega) (by repeat (first | exact trivial | refine ⟨rfl, ?_⟩)) (fun _ h => FH (L := []) h) (fun _ => rfl) ?_
  rintro m i j hi K hK
  refine c_seq ?_
  refine c_seq ?_
  refine c_reg ?_
  refine s_y (Y_mv) rfl rfl ?_
  refine s_y (Y_lss rfl rfl) rfl rfl ?_
  refine s_nil ?_
  refine q_then ?_
  first | refine c_cond' rfl (fun hc3 => ?_) (fun hc3 => ?_) | refine c_cond rfl (fun hc3 => ?_) (fun hc3 => ?_)
  · skip
    try simp only [nrm_] at hc3
    refine c_skip ?_
    refine q_then ?_
    refine c_seq ?_
    refine c_block ?_
    refine c_reg ?_
    refine s_y (Y_mv) rfl rfl ?_
    refine s_y (Y_mv) rfl rfl ?_
    refine s_y (Y_ia1 rfl rfl Tryz.underlying23 sz3 rfl (by omega)) rfl rfl ?_
    refine s_s (S_stC (cs' := (negF (i + 1)).map iv) rfl sz3 (by rfl) up_ (by rw [show Value.int IntKind.i64 (-1) = iv (-1) from rfl, iv_set, negF_set (by omega)]) (by rw [List.length_map, negF_len (by omega)]; omega)) rfl ?_
    refine s_nil ?_
    refine q_bn ?_
    refine q_then ?_
    refine c_reg ?_
    refine s_y (Y_mv) rfl rfl ?_
    refine s_y ad_ rfl rfl ?_
    refine s_y (Y_as) rfl rfl ?_
    refine s_nil ?_
    refine hK (m - 1) (i + 1) _ _ (by omega) (by omega) ⟨rfl, trivial⟩ rfl (fun _ h => h)
  · skip
    try simp only [nrm_] at hc3
    refine c_exit ?_
    repeat with_reducible refine q_te ?_
    refine q_exit ?_
    refine q_then ?_
    refine c_seq ?_
    refine c_seq ?_
    refine c_reg ?_
    refine s_y (Y_asC) rfl rfl ?_
    refine s_nil ?_
    refine q_then ?_
    refine c_block ?_
    refine c_loop [9, 10, 27, 28, 29, 30, 31, 32, 33, 34, 35, 36, 37, 38, 39, 40, 41, 42, 43, 44, 45, 46, 47, 48, 49, 50, 51, 52, 53, 54] (fun m (y : Nat × List Int) => y.1 + m = ts.length ∧ Mk y.2 ∧ (ts.drop y.1).foldl (markM cells) y.2 = marksM cells ts) (fun y => [(9, iv y.1)]) (fun y => [fB b19 y.2]) (ts.length) ((0, negF 384)) (⟨by omega, negF_mk, by rw [List.drop_zero, negF_all]; rfl⟩) (by repeat (first | exact trivial | refine ⟨rfl, ?_⟩)) (fun _ h => (show i = 384 by omega) ▸ h) (fun _ => rfl) ?_
    rintro m ⟨i, f⟩ j ⟨hi, hm, hf⟩ K hK
    simp only at hi hm hf ⊢
    refine c_seq ?_
    refine c_seq ?_
    refine c_reg ?_
    refine s_y (Y_mv) rfl rfl ?_
    refine s_y (Y_mv) rfl rfl ?_
    refine s_y (Y_len rfl rfl Tryz.underlying23) rfl rfl ?_
    refine s_y (Y_lss rfl rfl) rfl rfl ?_
    refine s_nil ?_
    refine q_then ?_
    first | refine c_cond' rfl (fun hc7 => ?_) (fun hc7 => ?_) | refine c_cond rfl (fun hc7 => ?_) (fun hc7 => ?_)
    · skip
      try simp only [nrm_] at hc7
      refine c_skip ?_
      refine q_then ?_
      refine c_seq ?_
      refine c_block ?_
      refine c_seq ?_
      obtain ⟨z, hz⟩ := take_lt (show i < ts.length by omega)
      have hlen := hm.len
      rw [List.drop_eq_getElem_cons (show i < ts.length by omega), List.foldl_cons] at hf
      obtain rfl : ts[i]'(by omega) = z := (List.getElem?_eq_some_iff.1 hz).2
      generalize ts[i]'(by omega) = z at *
      refine c_reg ?_
      refine s_y (Y_mv) rfl rfl ?_
      refine s_y (Y_mv) rfl rfl ?_
      refine s_y (Y_ia1 rfl rfl Tryz.underlying23 sz3 rfl (by omega)) rfl rfl ?_
      refine s_y (Y_loadR (i := i) rfl one3 ht.ro rfl (by rw [List.getElem?_map, hz]; rfl)) rfl rfl ?_
      refine s_y (Y_as) rfl rfl ?_
      refine s_nil ?_
      refine q_then ?_
      refine c_seq ?_
      refine c_reg ?_
      refine s_y (Y_mv) rfl rfl ?_
      refine s_y (Y_geq rfl rfl) rfl rfl ?_
      refine s_y (Y_mv) rfl rfl ?_
      apply s_and 3 [39, 40, 41, 42] 42 (g := 39) rfl rfl
      · intro ht3 hm
        try simp only [nrm_] at ht3
        first | refine s_y (Y_mv) rfl rfl ?_ | refine s_pass rfl rfl ?_
        first | refine s_y (Y_lss rfl rfl) rfl rfl ?_ | refine s_pass rfl rfl ?_
        refine s_y (Y_pk rfl (Gx.tmp gt_) Gx.const) rfl rfl ?_
        first | exact hm _ ⟨rfl, trivial⟩ rfl | exact QL.sub sl_ (hm _ ⟨rfl, trivial⟩ rfl)
      · intro ht3 hm
        iterate 2 refine s_pass rfl rfl ?_
        refine s_y (Y_pk rfl (Gx.tmp gt_) Gx.const) rfl rfl ?_
        exact hm _ ⟨rfl, trivial⟩ rfl
      intro j42
      refine s_y (Y_mv) rfl rfl ?_
      apply s_and 8 [43, 44, 45, 46, 47, 48, 49, 50, 51] 51 (g := 43) rfl rfl
      · intro ht7 hm
        try simp only [nrm_] at ht7
        first | refine s_y (Y_mv) rfl rfl ?_ | refine s_pass rfl rfl ?_
        first | refine s_y (Y_mv) rfl rfl ?_ | refine s_pass rfl rfl ?_
        first | refine s_y ((by first | exact Y_rem rfl rfl (by omega) | exact Y_remw rfl rfl (by omega))) rfl rfl ?_ | refine s_pass rfl rfl ?_
        first | refine s_y (Y_mv) rfl rfl ?_ | refine s_pass rfl rfl ?_
        first | refine s_y ((by first | exact Y_quo rfl rfl (by omega) | exact Y_quow rfl rfl (by omega))) rfl rfl ?_ | refine s_pass rfl rfl ?_
        refine s_c (En_call (fun _ => rfl) Tryz.func91 rfl (by kernel_rfl) rfl) (fun w hH => rat_d (hs.has hH)) rfl rfl ?_
        rintro _ _ ⟨rfl, rfl⟩
        refine s_c (En_call (fun _ => rfl) Tryz.func97 rfl (by kernel_rfl) rfl) (fun w hH => rwalk_d) rfl rfl ?_
        rintro _ _ ⟨rfl, rfl⟩
        refine s_y (Y_pk rfl (Gx.tmp gt_) Gx.const) rfl rfl ?_
        first | exact hm _ ⟨rfl, trivial⟩ rfl | exact QL.sub sl_ (hm _ ⟨rfl, trivial⟩ rfl)
      · intro ht7 hm
        iterate 7 refine s_pass rfl rfl ?_
        refine s_y (Y_pk rfl (Gx.tmp gt_) Gx.const) rfl rfl ?_
        exact hm _ ⟨rfl, trivial⟩ rfl
      intro j51
      refine s_nil ?_
      refine q_then ?_
      first | refine c_cond' rfl (fun hc10 => ?_) (fun hc10 => ?_) | refine c_cond rfl (fun hc10 => ?_) (fun hc10 => ?_)
      · skip
        try simp only [nrm_] at hc10
        refine c_reg ?_
        refine s_y (Y_mv) rfl rfl ?_
        refine s_y (Y_mv) rfl rfl ?_
        refine s_y (Y_ia1 (n := z.toNat) rfl rfl Tryz.underlying23 sz3 (by omega) (by omega)) rfl rfl ?_
        refine s_s (S_stC (cs' := (f.set z.toNat 0).map iv) rfl sz3 (by rfl) up_ (iv_set _ _ _) (by rw [List.length_map]; omega)) rfl ?_
        refine s_nil ?_
        refine q_bn ?_
        refine q_then ?_
        refine c_reg ?_
        refine s_y (Y_mv) rfl rfl ?_
        refine s_y ad_ rfl rfl ?_
        refine s_y (Y_as) rfl rfl ?_
        refine s_nil ?_
        have e : markM cells f z = f.set z.toNat 0 := by unfold markM; rw [if_pos ⟨by omega, by omega, hc10.2⟩]
        refine hK (m - 1) (i + 1, f.set z.toNat 0) _ _ (by omega) ⟨by simp only; omega, e ▸ hm.mark cells z, by rw [← e]; exact hf⟩ ⟨rfl, trivial⟩ rfl (fun _ h => h)
      · skip
        try simp only [nrm_] at hc10
        refine c_skip ?_
        refine q_bn ?_
        refine q_then ?_
        refine c_reg ?_
        refine s_y (Y_mv) rfl rfl ?_
        refine s_y ad_ rfl rfl ?_
        refine s_y (Y_as) rfl rfl ?_
        refine s_nil ?_
        refine hK (m - 1) (i + 1, f) _ _ (by omega) ⟨by simp only; omega, hm, by rw [← hf]; congr 1; unfold markM; rw [if_neg]; rintro ⟨q1, q2, q3⟩; rcases hc10 with (h | h) | h <;> first | omega | (rw [q3] at h; cases h)⟩ ⟨rfl, trivial⟩ rfl (fun _ h => h)
    · skip
      try simp only [nrm_] at hc7
      refine c_exit ?_
      repeat with_reducible refine q_te ?_
      refine q_exit ?_
      refine q_then ?_
      refine c_seq ?_
      obtain rfl : f = marksM cells ts := by rw [← hf, List.drop_eq_nil_of_le (by omega)]; rfl
      generalize hff : marksM cells ts = f at *
      refine c_reg ?_
      refine s_y (Y_asC) rfl rfl ?_
      refine s_nil ?_
      refine q_then ?_
      refine c_seq ?_
      refine c_seq ?_
      refine c_reg ?_
      refine s_y (Y_asC) rfl rfl ?_
      refine s_nil ?_
      refine q_then ?_
      refine c_block ?_
      refine c_loop [11, 12, 55, 56, 57, 58, 59, 60, 61, 62, 63, 64, 65, 66, 67] (fun m (y : Nat × List Nat × Value × List Bk) => y.1 + m = 384 ∧ y.2.1 = zerosM f y.1 ∧ Row 3 1 y.2.2.1 y.2.1.length (y.2.1.map ci) y.2.2.2) (fun y => [(12, iv y.1), (11, y.2.2.1)]) (fun y => fB b19 f :: y.2.2.2) (384) ((0, [], .slice none 0 0, [])) (⟨by omega, rfl, .nil⟩) (by repeat (first | exact trivial | refine ⟨rfl, ?_⟩)) (fun _ h => h.sub sl_) (fun _ => rfl) ?_
      rintro m ⟨k, row, v, B⟩ j ⟨hk, hr0, hB⟩ K hK
      simp only at hk hr0 hB ⊢
      have hlen := hm.len
      refine c_seq ?_
      refine c_seq ?_
      refine c_reg ?_
      refine s_y (Y_mv) rfl rfl ?_
      refine s_y (Y_lss rfl rfl) rfl rfl ?_
      refine s_nil ?_
      refine q_then ?_
      first | refine c_cond' rfl (fun hc14 => ?_) (fun hc14 => ?_) | refine c_cond rfl (fun hc14 => ?_) (fun hc14 => ?_)
      · skip
        try simp only [nrm_] at hc14
        refine c_skip ?_
        refine q_then ?_
        refine c_seq ?_
        refine c_block ?_
        refine c_seq ?_
        refine c_reg ?_
        refine s_y (Y_mv) rfl rfl ?_
        refine s_y (Y_mv) rfl rfl ?_
        refine s_y (Y_ia1 rfl rfl Tryz.underlying23 sz3 rfl (by omega)) rfl rfl ?_
        refine s_y (Y_load (v := iv (getI f k)) rfl one3 mm_ (iv_get (by omega))) rfl rfl ?_
        refine s_y (Y_eql rfl rfl) rfl rfl ?_
        refine s_nil ?_
        refine q_then ?_
        first | refine c_cond' rfl (fun hc16 => ?_) (fun hc16 => ?_) | refine c_cond rfl (fun hc16 => ?_) (fun hc16 => ?_)
        · skip
          try simp only [nrm_] at hc16
          have hrl : row.length ≤ 384 := by rw [hr0]; exact Nat.le_trans (List.length_filter_le _ _) (by rw [List.length_range]; omega)
          refine c_reg ?_
          refine s_y (Y_mv) rfl rfl ?_
          refine s_y (Y_mv) rfl rfl ?_
          refine s_n (N_bs (xs := [.tmp 65]) (by repeat (first | exact Gv.nil | apply Gv.const | apply Gv.tmp gt_)) rfl Tryz.underlying23 inf3 rfl (by omega) (by omega) (by first | simp [Value.oneCell'] | (intro v hv; simp at hv; subst hv; rfl))) rfl rfl (fun b66 _ => ?_)
          refine s_n (N_appR (bytes := 8) hB (List.perm_append_comm (l₁ := B) (l₂ := [_, _])) rfl rfl Tryz.underlying23 inf3 rfl (by omega) (src mm_) (by rfl) (by simp [Value.oneCell']) (by omega) (by omega) (by omega)) rfl rfl (fun ⟨g67, cp67⟩ hc67 => ?_)
          refine s_y (Y_as) rfl rfl ?_
          refine s_nil ?_
          refine q_bn ?_
          refine q_then ?_
          refine c_reg ?_
          refine s_y (Y_mv) rfl rfl ?_
          refine s_y ad_ rfl rfl ?_
          refine s_y (Y_as) rfl rfl ?_
          refine s_nil ?_
          refine hK (m - 1) (k + 1, row ++ [k], .slice (some ⟨g67, 0, none⟩) (row.length + 1) cp67, [⟨g67, 3, 1, cp67, (row ++ [k]).map ci⟩]) _ _ (by omega) ⟨by simp only; omega, by rw [zeros_succ, if_pos hc16, ← hr0], by simp only; rw [List.length_append, List.length_singleton]; exact .some hc67 (by simp)⟩ ⟨rfl, rfl, trivial⟩ rfl (fun w h => ?_)
          show Has W [] [fB b19 f, ⟨g67, 3, 1, cp67, (row ++ [k]).map ci⟩] w
          rw [List.map_append]
          exact h.pick ss_
        · skip
          try simp only [nrm_] at hc16
          refine c_skip ?_
          refine q_bn ?_
          refine q_then ?_
          refine c_reg ?_
          refine s_y (Y_mv) rfl rfl ?_
          refine s_y ad_ rfl rfl ?_
          refine s_y (Y_as) rfl rfl ?_
          refine s_nil ?_
          refine hK (m - 1) (k + 1, row, v, B) _ _ (by omega) ⟨by simp only; omega, by rw [zeros_succ, if_neg hc16]; exact hr0, hB⟩ ⟨rfl, rfl, trivial⟩ rfl (fun _ h => h)
      · skip
        try simp only [nrm_] at hc14
        refine c_exit ?_
        repeat with_reducible refine q_te ?_
        refine q_exit ?_
        refine q_then ?_
        refine c_seq ?_
        refine c_seq ?_
        obtain rfl : k = 384 := by omega
        have hb0 : Bfs f row := hr0 ▸ hm.bfs
        clear hf
        refine c_reg ?_
        refine s_y (Y_asC) rfl rfl ?_
        refine s_nil ?_
        refine q_then ?_
        refine c_block ?_
        refine c_loop [11, 13, 14, 15, 16, 17, 18, 68, 69, 70, 71, 72, 73, 74, 75, 76, 77, 78, 79, 80, 81, 82, 83, 84, 85, 86, 87, 88, 89, 90, 91, 92, 93, 94, 95, 96, 97, 98, 99, 100, 101, 102, 103, 104, 105, 106, 107, 108, 109, 110, 111, 112, 113, 114, 115, 116, 117, 118, 119, 120, 121, 122, 123, 124, 125, 126, 127, 128, 129, 130, 131, 132, 133, 134, 135, 136, 137, 138, 139, 140, 141, 142, 143, 144, 145, 146, 147, 148] (fun m (y : Nat × List Int × List Nat × Value × List Bk) => Bfs y.2.1 y.2.2.1 ∧ bfs cells bl m y.1 (y.2.1, y.2.2.1) = fieldM cells bl ts ∧ (y.2.2.1.length - y.1) + negs y.2.1 < m ∧ Row 3 1 y.2.2.2.1 y.2.2.1.length (y.2.2.1.map ci) y.2.2.2.2) (fun y => [(13, iv y.1), (11, y.2.2.2.1)]) (fun y => fB b19 y.2.1 :: y.2.2.2.2) (385) ((0, f, row, v, B)) (⟨hb0, by rw [fieldM, hff, hr0], by have := hb0.sum; simp only; omega, hB⟩) (by repeat (first | exact trivial | refine ⟨rfl, ?_⟩)) (fun _ h => h.sub sl_) (fun _ => rfl) ?_
        rintro m ⟨k, f, row, v, B⟩ j ⟨hb, hf, hms, hB⟩ K hK
        simp only at hb hf hms hB ⊢
        have hsum := hb.sum
        refine c_seq ?_
        refine c_seq ?_
        refine c_reg ?_
        refine s_y (Y_mv) rfl rfl ?_
        refine s_y (Y_mv) rfl rfl ?_
        refine s_y (Y_lenR hB rfl rfl Tryz.underlying23) rfl rfl ?_
        refine s_y (Y_lss rfl rfl) rfl rfl ?_
        refine s_nil ?_
        refine q_then ?_
        first | refine c_cond' rfl (fun hc19 => ?_) (fun hc19 => ?_) | refine c_cond rfl (fun hc19 => ?_) (fun hc19 => ?_)
        · skip
          try simp only [nrm_] at hc19
          refine c_skip ?_
          refine q_then ?_
          refine c_seq ?_
          refine c_block ?_
          refine c_seq ?_
          obtain ⟨g, cp, rfl, rfl, hgc⟩ := hB.some_of (by omega)
          obtain ⟨i, hi⟩ := take_lt (show k < row.length by omega)
          obtain ⟨hi3, hi0⟩ := hb.rws i (List.mem_of_getElem? hi)
          obtain ⟨m, rfl⟩ : ∃ q, m = q + 1 := ⟨m - 1, by omega⟩
          rw [bfs] at hf
          simp only [hi] at hf
          refine c_reg ?_
          refine s_y (Y_mv) rfl rfl ?_
          refine s_y (Y_mv) rfl rfl ?_
          refine s_y (Y_ia1 rfl rfl Tryz.underlying23 sz3 rfl (by omega)) rfl rfl ?_
          refine s_y (Y_load (v := ci i) rfl one3 mm_ (by rw [Nat.zero_add, List.getElem?_map, hi]; rfl)) rfl rfl ?_
          refine s_y (Y_as) rfl rfl ?_
          refine s_nil ?_
          refine q_then ?_
          refine c_seq ?_
          refine c_reg ?_
          refine s_y (Y_asC) rfl rfl ?_
          refine s_nil ?_
          refine q_then ?_
          refine c_block ?_
          refine c_loop [11, 15, 16, 17, 18, 78, 79, 80, 81, 82, 83, 84, 85, 86, 87, 88, 89, 90, 91, 92, 93, 94, 95, 96, 97, 98, 99, 100, 101, 102, 103, 104, 105, 106, 107, 108, 109, 110, 111, 112, 113, 114, 115, 116, 117, 118, 119, 120, 121, 122, 123, 124, 125, 126, 127, 128, 129, 130, 131, 132, 133, 134, 135, 136, 137, 138, 139, 140, 141, 142, 143, 144, 145, 146, 147, 148] (fun d2 (y : Nat × List Int × List Nat × Value × List Bk) => y.1 + d2 = 4 ∧ (y.2.1, y.2.2.1) = triesM cells bl i (f, row) y.1 ∧ Row 3 1 y.2.2.2.1 y.2.2.1.length (y.2.2.1.map ci) y.2.2.2.2) (fun y => [(15, iv y.1), (11, y.2.2.2.1)]) (fun y => fB b19 y.2.1 :: y.2.2.2.2) (4) ((0, f, row, .slice (some ⟨g, 0, none⟩) row.length cp, [⟨g, 3, 1, cp, row.map ci⟩])) (⟨rfl, rfl, hB⟩) (by repeat (first | exact trivial | refine ⟨rfl, ?_⟩)) (fun _ h => h.sub sl_) (fun _ => rfl) ?_
          rintro d2 ⟨d, f2, row2, v2, B2⟩ j2 ⟨hd, hst, hB2⟩ K2 hK2
          simp only at hd hst hB2 ⊢
          obtain ⟨hb2, h02, hpre⟩ := hb.tries hi3 hi0 cells bl d
          rw [← hst] at hb2 h02 hpre
          simp only at hb2 h02 hpre
          have hsum2 := hb2.sum
          have hl2 := hb2.len
          refine c_seq ?_
          refine c_seq ?_
          refine c_reg ?_
          refine s_y (Y_mv) rfl rfl ?_
          refine s_y (Y_lss rfl rfl) rfl rfl ?_
          refine s_nil ?_
          refine q_then ?_
          first | refine c_cond' rfl (fun hc23 => ?_) (fun hc23 => ?_) | refine c_cond rfl (fun hc23 => ?_) (fun hc23 => ?_)
          · skip
            try simp only [nrm_] at hc23
            refine c_skip ?_
            refine q_then ?_
            refine c_seq ?_
            refine c_block ?_
            refine c_seq ?_
            refine c_reg ?_
            refine s_y (Y_mv) rfl rfl ?_
            refine s_y ((by first | exact Y_rem rfl rfl (by omega) | exact Y_remw rfl rfl (by omega))) rfl rfl ?_
            refine s_y (Y_mv) rfl rfl ?_
            refine s_y ((by first | exact Y_quo rfl rfl (by omega) | exact Y_quow rfl rfl (by omega))) rfl rfl ?_
            refine s_y (Y_as) rfl rfl ?_
            refine s_y (Y_as) rfl rfl ?_
            refine s_nil ?_
            refine q_then ?_
            refine c_seq ?_
            refine c_meetQ (ks := [16, 17, 86, 87, 88, 89, 90, 91, 92, 93, 94, 95, 96, 97, 98, 99, 100, 101, 102]) (tr := fun p : Int × Int => [(16, iv p.1), (17, iv p.2)]) (φ := fun p => p = nbM i d) (G := fun _ => fB b19 f2 :: B2) (fun _ => rfl) ?_ ?_
            · rintro _ j35 rfl
              refine q_then ?_
              refine c_seq ?_
              have hpb := nb_rng hi3 d
              refine c_reg ?_
              refine s_y (Y_mv) rfl rfl ?_
              refine s_y mu_ rfl rfl ?_
              refine s_y (Y_mv) rfl rfl ?_
              refine s_y ad_ rfl rfl ?_
              refine s_y (Y_as) rfl rfl ?_
              refine s_nil ?_
              refine q_then ?_
              refine c_seq ?_
              refine c_reg ?_
              refine s_y (Y_mv) rfl rfl ?_
              refine s_y (Y_mv) rfl rfl ?_
              refine s_c (En_call (fun _ => rfl) Tryz.func144 rfl (by kernel_rfl) rfl) (fun w hH => rin_d) rfl rfl ?_
              rintro _ _ ⟨rfl, rfl⟩
              refine s_y (Y_mv) rfl rfl ?_
              apply s_and 6 [110, 111, 112, 113, 114, 115, 116] 116 (g := 110) rfl rfl
              · intro ht4 hm
                try simp only [nrm_] at ht4
                first | refine s_y (Y_mv) rfl rfl ?_ | refine s_pass rfl rfl ?_
                first | refine s_y (Y_mv) rfl rfl ?_ | refine s_pass rfl rfl ?_
                first | refine s_y (Y_ia1 (n := ((nbM i d).2 * 24 + (nbM i d).1).toNat) rfl rfl Tryz.underlying23 sz3 (by have := in_k ht4; omega) (by have := in_k ht4; omega)) rfl rfl ?_ | refine s_pass rfl rfl ?_
                first | refine s_y (Y_load (v := iv (getI f2 ((nbM i d).2 * 24 + (nbM i d).1).toNat)) rfl one3 mm_ (iv_get (by have := in_k ht4; omega))) rfl rfl ?_ | refine s_pass rfl rfl ?_
                first | refine s_y (Y_lss rfl rfl) rfl rfl ?_ | refine s_pass rfl rfl ?_
                refine s_y (Y_pk rfl (Gx.tmp gt_) Gx.const) rfl rfl ?_
                first | exact hm _ ⟨rfl, trivial⟩ rfl | exact QL.sub sl_ (hm _ ⟨rfl, trivial⟩ rfl)
              · intro ht4 hm
                iterate 5 refine s_pass rfl rfl ?_
                refine s_y (Y_pk rfl (Gx.tmp gt_) Gx.const) rfl rfl ?_
                exact hm _ ⟨rfl, trivial⟩ rfl
              intro j116
              refine s_y (Y_mv) rfl rfl ?_
              apply s_and 6 [117, 118, 119, 120, 121, 122, 123] 123 (g := 117) rfl rfl
              · intro ht11 hm
                try simp only [nrm_] at ht11
                first | refine s_y (Y_mv) rfl rfl ?_ | refine s_pass rfl rfl ?_
                first | refine s_y (Y_mv) rfl rfl ?_ | refine s_pass rfl rfl ?_
                first | refine s_y (Y_mv) rfl rfl ?_ | refine s_pass rfl rfl ?_
                refine s_c (En_call (fun _ => rfl) Tryz.func91 rfl (by kernel_rfl) rfl) (fun w hH => rat_d (hs.has hH)) rfl rfl ?_
                rintro _ _ ⟨rfl, rfl⟩
                refine s_c (En_call (fun _ => rfl) Tryz.func97 rfl (by kernel_rfl) rfl) (fun w hH => rwalk_d) rfl rfl ?_
                rintro _ _ ⟨rfl, rfl⟩
                refine s_y (Y_pk rfl (Gx.tmp gt_) Gx.const) rfl rfl ?_
                first | exact hm _ ⟨rfl, trivial⟩ rfl | exact QL.sub sl_ (hm _ ⟨rfl, trivial⟩ rfl)
              · intro ht11 hm
                iterate 5 refine s_pass rfl rfl ?_
                refine s_y (Y_pk rfl (Gx.tmp gt_) Gx.const) rfl rfl ?_
                exact hm _ ⟨rfl, trivial⟩ rfl
              intro j123
              refine s_y (Y_mv) rfl rfl ?_
              apply s_and 12 [124, 125, 126, 127, 128, 129, 130, 131, 132, 133, 134, 135, 136] 136 (g := 124) rfl rfl
              · intro ht18 hm
                try simp only [nrm_] at ht18
                first | refine s_y (Y_mv) rfl rfl ?_ | refine s_pass rfl rfl ?_
                first | refine s_y (Y_mv) rfl rfl ?_ | refine s_pass rfl rfl ?_
                first | refine s_y (Y_len rfl rfl Tryz.underlying181) rfl rfl ?_ | refine s_pass rfl rfl ?_
                first | refine s_y (Y_geq rfl rfl) rfl rfl ?_ | refine s_pass rfl rfl ?_
                first | refine s_y (Y_mv) rfl rfl ?_ | refine s_pass rfl rfl ?_
                apply s_or 6 [129, 130, 131, 132, 133, 134, 135] 135 (g := 129) rfl rfl
                · intro ht23 hm
                  try simp only [nrm_] at ht23
                  first | refine s_y (Y_mv) rfl rfl ?_ | refine s_pass rfl rfl ?_
                  first | refine s_y (Y_mv) rfl rfl ?_ | refine s_pass rfl rfl ?_
                  have hik := in_k ht18.1.1
                  have hbl1 := hbl.len
                  obtain ⟨bb, bo, hab, hbr⟩ := hbl.ro (by omega)
                  first | refine s_y (Y_ia1 (b' := bb) (off := bo) (len := nb) (cap := kb) (n := ((nbM i d).2 * 24 + (nbM i d).1).toNat) (by rw [← hab]; rfl) rfl Tryz.underlying181 sz4 (by omega) (by omega)) rfl rfl ?_ | refine s_pass rfl rfl ?_
                  first | refine s_y (Y_loadR (i := ((nbM i d).2 * 24 + (nbM i d).1).toNat) rfl one4 hbr rfl (bools_get (by omega))) rfl rfl ?_ | refine s_pass rfl rfl ?_
                  first | refine s_y (Y_not rfl) rfl rfl ?_ | refine s_pass rfl rfl ?_
                  first | refine s_y (Y_pk rfl Gx.const (Gx.tmp gt_)) rfl rfl ?_ | refine s_pass rfl rfl ?_
                  first | exact hm _ ⟨rfl, trivial⟩ rfl | exact QL.sub sl_ (hm _ ⟨rfl, trivial⟩ rfl)
                · intro ht23 hm
                  iterate 5 refine s_pass rfl rfl ?_
                  first | refine s_y (Y_pk rfl Gx.const (Gx.tmp gt_)) rfl rfl ?_ | refine s_pass rfl rfl ?_
                  exact hm _ ⟨rfl, trivial⟩ rfl
                intro j135
                refine s_y (Y_pk rfl (Gx.tmp gt_) Gx.const) rfl rfl ?_
                first | exact hm _ ⟨rfl, trivial⟩ rfl | exact QL.sub sl_ (hm _ ⟨rfl, trivial⟩ rfl)
              · intro ht18 hm
                iterate 11 refine s_pass rfl rfl ?_
                refine s_y (Y_pk rfl (Gx.tmp gt_) Gx.const) rfl rfl ?_
                exact hm _ ⟨rfl, trivial⟩ rfl
              intro j136
              refine s_nil ?_
              refine q_then ?_
              first | refine c_cond' rfl (fun hc36 => ?_) (fun hc36 => ?_) | refine c_cond rfl (fun hc36 => ?_) (fun hc36 => ?_)
              · skip
                try simp only [nrm_] at hc36
                refine c_seq ?_
                have ho : opens cells bl f2 (nbM i d) = true := by
                  have hik := in_k hc36.1.1.1
                  have hbl1 := hbl.len
                  simp only [opens, nrm_]
                  refine ⟨hc36.1, ?_⟩
                  rcases hc36.2 with h | h
                  · exact .inl (by omega)
                  · exact .inr h
                have hin : inM (nbM i d).1 (nbM i d).2 = true := by simp only [opens, Bool.and_eq_true] at ho; exact ho.1.1.1
                have hik := in_k hin
                have hlow := hb2.low (getI f2 i) (List.mem_of_getElem? (get_getI (by omega)))
                refine c_reg ?_
                refine s_y (Y_mv) rfl rfl ?_
                refine s_y (Y_mv) rfl rfl ?_
                refine s_y (Y_mv) rfl rfl ?_
                refine s_y (Y_mv) rfl rfl ?_
                refine s_y (Y_ia1 rfl rfl Tryz.underlying23 sz3 rfl (by omega)) rfl rfl ?_
                refine s_y (Y_load (v := iv (getI f2 i)) rfl one3 mm_ (iv_get (by omega))) rfl rfl ?_
                refine s_y ad_ rfl rfl ?_
                refine s_y (Y_ia1 (n := ((nbM i d).2 * 24 + (nbM i d).1).toNat) rfl rfl Tryz.underlying23 sz3 (by omega) (by omega)) rfl rfl ?_
                refine s_s (S_st (cs' := (f2.set ((nbM i d).2 * 24 + (nbM i d).1).toNat (getI f2 i + 1)).map iv) rfl gt_ sz3 (by rfl) up_ (iv_set _ _ _) (by rw [List.length_map]; omega)) rfl ?_
                refine s_nil ?_
                refine q_then ?_
                refine c_reg ?_
                refine s_y (Y_mv) rfl rfl ?_
                refine s_y (Y_mv) rfl rfl ?_
                refine s_n (N_bs (xs := [.tmp 146]) (by repeat (first | exact Gv.nil | apply Gv.const | apply Gv.tmp gt_)) rfl Tryz.underlying23 inf3 rfl (by omega) (by omega) (by first | simp [Value.oneCell'] | (intro v hv; simp at hv; subst hv; rfl))) rfl rfl (fun b147 _ => ?_)
                refine s_n (N_appR (bytes := 8) hB2 (List.perm_append_comm (l₁ := B2) (l₂ := [_, _])) rfl rfl Tryz.underlying23 inf3 rfl (by omega) (src mm_) (by rfl) (by simp [Value.oneCell']) (by omega) (by omega) (by omega)) rfl rfl (fun ⟨g148, cp148⟩ hc148 => ?_)
                refine s_y (Y_as) rfl rfl ?_
                refine s_nil ?_
                refine q_bn ?_
                refine q_then ?_
                refine c_reg ?_
                refine s_y (Y_mv) rfl rfl ?_
                refine s_y ad_ rfl rfl ?_
                refine s_y (Y_as) rfl rfl ?_
                refine s_nil ?_
                refine hK2 (d2 - 1) (d + 1, f2.set ((nbM i d).2 * 24 + (nbM i d).1).toNat (getI f2 i + 1), row2 ++ [((nbM i d).2 * 24 + (nbM i d).1).toNat], .slice (some ⟨g148, 0, none⟩) (row2.length + 1) cp148, [⟨g148, 3, 1, cp148, (row2 ++ [((nbM i d).2 * 24 + (nbM i d).1).toNat]).map ci⟩]) _ _ (by omega) ⟨by simp only; omega, by simp only; rw [triesM, ← hst, tryD, if_pos ho], by simp only; rw [List.length_append, List.length_singleton]; exact .some hc148 (by simp)⟩ ⟨rfl, rfl, trivial⟩ rfl (fun w h => ?_)
                show Has W [] [fB b19 (f2.set ((nbM i d).2 * 24 + (nbM i d).1).toNat (getI f2 i + 1)), ⟨g148, 3, 1, cp148, (row2 ++ [((nbM i d).2 * 24 + (nbM i d).1).toNat]).map ci⟩] w
                have ek : ci ((nbM i d).2 * 24 + (nbM i d).1).toNat = iv ((nbM i d).2 * 24 + (nbM i d).1) := by show Value.int .i64 _ = Value.int .i64 _; congr 1; omega
                rw [List.map_append, List.map_singleton, ek]
                exact h.pick ss_
              · skip
                try simp only [nrm_] at hc36
                refine c_skip ?_
                refine q_bn ?_
                refine q_then ?_
                refine c_reg ?_
                refine s_y (Y_mv) rfl rfl ?_
                refine s_y ad_ rfl rfl ?_
                refine s_y (Y_as) rfl rfl ?_
                refine s_nil ?_
                have ho : opens cells bl f2 (nbM i d) = false := by
                  have hbl1 := hbl.len
                  simp only [opens, nrm_]
                  rcases hc36 with h | ⟨h, h2⟩
                  · exact .inl h
                  · by_cases hin : inM (nbM i d).1 (nbM i d).2 = true
                    · have hik := in_k hin
                      exact .inr ⟨by omega, h2⟩
                    · exact .inl (.inl (.inl (by simpa using hin)))
                refine hK2 (d2 - 1) (d + 1, f2, row2, v2, B2) _ _ (by omega) ⟨by simp only; omega, by simp only; rw [triesM, ← hst, tryD, if_neg (by rw [ho]; decide)], hB2⟩ ⟨rfl, rfl, trivial⟩ rfl (fun _ h => h)
            · intro go
              refine c_seq ?_
              refine c_reg ?_
              refine s_y (Y_mv) rfl rfl ?_
              refine s_nil ?_
              refine q_then ?_
              refine c_block ?_
              refine c_seq ?_
              refine c_reg ?_
              refine s_y (Y_eql rfl rfl) rfl rfl ?_
              refine s_y (Y_as) rfl rfl ?_
              refine s_nil ?_
              refine q_then ?_
              first | refine c_cond' rfl (fun hc27 => ?_) (fun hc27 => ?_) | refine c_cond rfl (fun hc27 => ?_) (fun hc27 => ?_)
              · skip
                try simp only [nrm_] at hc27
                refine c_reg ?_
                refine s_y (Y_mv) rfl rfl ?_
                refine s_y su_ rfl rfl ?_
                refine s_y (Y_as) rfl rfl ?_
                refine s_nil ?_
                refine q_bn ?_
                exact go ((i : Int) % 24, (i : Int) / 24 - 1) _ _ (by rw [show d = 0 by omega]; rfl) ⟨rfl, rfl, trivial⟩ rfl (fun _ h => h)
              · skip
                try simp only [nrm_] at hc27
                refine c_seq ?_
                refine c_reg ?_
                refine s_y (Y_eql rfl rfl) rfl rfl ?_
                refine s_y (Y_as) rfl rfl ?_
                refine s_nil ?_
                refine q_then ?_
                first | refine c_cond' rfl (fun hc29 => ?_) (fun hc29 => ?_) | refine c_cond rfl (fun hc29 => ?_) (fun hc29 => ?_)
                · skip
                  try simp only [nrm_] at hc29
                  refine c_reg ?_
                  refine s_y (Y_mv) rfl rfl ?_
                  refine s_y ad_ rfl rfl ?_
                  refine s_y (Y_as) rfl rfl ?_
                  refine s_nil ?_
                  refine q_bn ?_
                  exact go ((i : Int) % 24 + 1, (i : Int) / 24) _ _ (by rw [show d = 1 by omega]; rfl) ⟨rfl, rfl, trivial⟩ rfl (fun _ h => h)
                · skip
                  try simp only [nrm_] at hc29
                  refine c_seq ?_
                  refine c_reg ?_
                  refine s_y (Y_eql rfl rfl) rfl rfl ?_
                  refine s_y (Y_as) rfl rfl ?_
                  refine s_nil ?_
                  refine q_then ?_
                  first | refine c_cond' rfl (fun hc31 => ?_) (fun hc31 => ?_) | refine c_cond rfl (fun hc31 => ?_) (fun hc31 => ?_)
                  · skip
                    try simp only [nrm_] at hc31
                    refine c_reg ?_
                    refine s_y (Y_mv) rfl rfl ?_
                    refine s_y ad_ rfl rfl ?_
                    refine s_y (Y_as) rfl rfl ?_
                    refine s_nil ?_
                    refine q_bn ?_
                    exact go ((i : Int) % 24, (i : Int) / 24 + 1) _ _ (by rw [show d = 2 by omega]; rfl) ⟨rfl, rfl, trivial⟩ rfl (fun _ h => h)
                  · skip
                    try simp only [nrm_] at hc31
                    refine c_seq ?_
                    refine c_reg ?_
                    refine s_y (Y_eql rfl rfl) rfl rfl ?_
                    refine s_y (Y_as) rfl rfl ?_
                    refine s_nil ?_
                    refine q_then ?_
                    first | refine c_cond' rfl (fun hc33 => ?_) (fun hc33 => ?_) | refine c_cond rfl (fun hc33 => ?_) (fun hc33 => ?_)
                    · skip
                      try simp only [nrm_] at hc33
                      refine c_reg ?_
                      refine s_y (Y_mv) rfl rfl ?_
                      refine s_y su_ rfl rfl ?_
                      refine s_y (Y_as) rfl rfl ?_
                      refine s_nil ?_
                      refine q_bn ?_
                      exact go ((i : Int) % 24 - 1, (i : Int) / 24) _ _ (by rw [show d = 3 by omega]; rfl) ⟨rfl, rfl, trivial⟩ rfl (fun _ h => h)
                    · skip
                      try simp only [nrm_] at hc33
                      refine c_skip ?_
                      refine q_bn ?_
                      exfalso; omega
          · skip
            try simp only [nrm_] at hc23
            refine c_exit ?_
            repeat with_reducible refine q_te ?_
            refine q_exit ?_
            refine q_bn ?_
            refine q_then ?_
            refine c_reg ?_
            refine s_y (Y_mv) rfl rfl ?_
            refine s_y ad_ rfl rfl ?_
            refine s_y (Y_as) rfl rfl ?_
            refine s_nil ?_
            obtain rfl : d = 4 := by omega
            refine hK (m) (k + 1, f2, row2, v2, B2) _ _ (by omega) ⟨hb2, by simp only; rw [hst]; exact hf, by simp only; have := hpre.length_le; omega, hB2⟩ ⟨rfl, rfl, trivial⟩ rfl (fun _ h => h)
        · skip
          try simp only [nrm_] at hc19
          refine c_exit ?_
          repeat with_reducible refine q_te ?_
          refine q_exit ?_
          refine q_then ?_
          refine c_seq ?_
          refine c_reg ?_
          refine s_y (Y_mv) rfl rfl ?_
          refine s_y (Y_as) rfl rfl ?_
          refine s_nil ?_
          refine q_then ?_
          refine c_ret ?_
          obtain ⟨m, rfl⟩ : ∃ q, m = q + 1 := ⟨m - 1, by omega⟩
          rw [bfs] at hf
          simp only [show row[k]? = none from List.getElem?_eq_none (by omega)] at hf
          refine q_retG1 rfl gt_ (L' := [fB b19 f]) sl_ ⟨b19, rfl, by rw [hf]⟩
end
end Go.Proofs.YtcogbkkdccohfaaGreat
namespace Go.Proofs.YtcogbkkdccohfaaGreat
open Go.RowKit Go.Ad Go.Maps
set_option linter.unusedVariables false
set_option linter.unusedSimpArgs false
theorem byte_get {cells : List UInt8} {i : Nat} (h : i < cells.length) : (cells.map bv)[i]? = some (.int .u8 (byteAt cells i)) := by
  rw [List.getElem?_map, List.getElem?_eq_getElem h, byteAt_of (List.getElem?_eq_getElem h)]; rfl
theorem int_get {f : List Int} {i : Nat} (h : i < f.length) : (f.map iv)[i]? = some (iv (getI f i)) := by
  rw [List.getElem?_map, get_getI h]; rfl
theorem free_succ (cells : List UInt8) (f : List Int) (far : Int) (used : List Bool) (i : Nat) : freeM cells f far used (i + 1) = if byteAt cells i = 1 ∧ getI f i ≥ far ∧ used.getD i false = false then freeM cells f far used i ++ [i] else freeM cells f far used i := by
  unfold freeM
  rw [List.range_succ, List.filter_append]
  by_cases h : byteAt cells i = 1 ∧ getI f i ≥ far ∧ used.getD i false = false
  · rw [if_pos h]
    obtain ⟨h1, h2, h3⟩ := h
    rw [List.filter_cons, if_pos (by rw [h3]; simp [h1, h2]), List.filter_nil]
  · rw [if_neg h, List.filter_cons, if_neg, List.filter_nil, List.append_nil]
    simp only [nrm_]
    rintro ⟨⟨h1, h2⟩, h3⟩
    exact h ⟨h1, h2, h3⟩
theorem free_len (cells : List UInt8) (f : List Int) (far : Int) (used : List Bool) (i : Nat) : (freeM cells f far used i).length ≤ i := by
  unfold freeM
  exact Nat.le_trans (List.length_filter_le _ _) (by rw [List.length_range]; omega)
theorem free_mem {cells : List UInt8} {f : List Int} {far : Int} {used : List Bool} {n i : Nat} (h : i ∈ freeM cells f far used n) : i < n ∧ byteAt cells i = 1 ∧ getI f i ≥ far ∧ used.getD i false = false := by
  unfold freeM at h
  simp only [List.mem_filter, List.mem_range, nrm_] at h
  exact ⟨h.1, h.2.1.1, h.2.1.2, h.2.2⟩
section
variable {W : World}
set_option maxRecDepth 100000 in
theorem rpick_d {cb co cc fb fo fc ub uo uc : Nat} {cells : List UInt8} {f : List Int} {used : List Bool} (hs : SlB W cb co 384 cc 1 (cells.map bv)) (hf : SlB W fb fo 384 fc 1 (f.map iv)) (hu : SlB W ub uo 384 uc 1 (used.map Value.bool)) {far seed floor a : Int} :
    Does Tryz.prog 122 [.slice (some ⟨cb, co, none⟩) 384 cc, .slice (some ⟨fb, fo, none⟩) 384 fc, iv far, .slice (some ⟨ub, uo, none⟩) 384 uc, iv seed, iv floor, iv a] W [] (fun v L => v = iv (pickM cells f far used seed floor a) ∧ L = []) := by
  have hcl : cells.length = 384 := by have := hs.len; simpa using this
  have hfl : f.length = 384 := by have := hf.len; simpa using this
  have hul : used.length = 384 := by have := hu.len; simpa using this
  refine enter Tryz.func122 rfl rfl rfl (Has.start _) ?_
  refine c_seq ?_
  refine c_reg ?_
  refine s_y (Y_asC) rfl rfl ?_
  refine s_nil ?_
  refine q_then ?_
  refine c_seq ?_
  refine c_reg ?_
  refine s_y (Y_asC) rfl rfl ?_
  refine s_nil ?_
  refine q_then ?_
  refine c_seq ?_
  refine c_seq ?_
  refine c_reg ?_
  refine s_y (Y_asC) rfl rfl ?_
  refine s_nil ?_
  refine q_then ?_
  refine c_block ?_
  refine c_loop [15, 16, 17, 18, 19, 20, 21, 22, 23, 24, 25, 26, 27, 28, 29, 30, 31, 32, 33, 34, 35, 36, 37, 38, 39, 40, 41, 42, 43, 44] (fun m (y : Nat × List Nat × Value × List Bk) => y.1 + m = 384 ∧ y.2.1 = freeM cells f far used y.1 ∧ Row 3 1 y.2.2.1 y.2.1.length (y.2.1.map ci) y.2.2.2) (fun y => [(16, iv y.1), (15, y.2.2.1)]) (fun y => y.2.2.2) (384) ((0, [], .slice none 0 0, [])) (⟨by omega, rfl, .nil⟩) (by repeat (first | exact trivial | refine ⟨rfl, ?_⟩)) (fun _ h => h.sub sl_) (fun _ => rfl) ?_
  rintro m ⟨k, row, v, B⟩ j ⟨hk, hr0, hB⟩ K hK
  simp only at hk hr0 hB ⊢
  have hrl := free_len cells f far used k
  rw [← hr0] at hrl
  refine c_seq ?_
  refine c_seq ?_
  refine c_reg ?_
  refine s_y (Y_mv) rfl rfl ?_
  refine s_y (Y_lss rfl rfl) rfl rfl ?_
  refine s_nil ?_
  refine q_then ?_
  first | refine c_cond' rfl (fun hc3 => ?_) (fun hc3 => ?_) | refine c_cond rfl (fun hc3 => ?_) (fun hc3 => ?_)
  · skip
    try simp only [nrm_] at hc3
    refine c_skip ?_
    refine q_then ?_
    refine c_seq ?_
    refine c_block ?_
    refine c_seq ?_
    refine c_reg ?_
    refine s_y (Y_mv) rfl rfl ?_
    refine s_y (Y_mv) rfl rfl ?_
    refine s_y (Y_ia1 rfl rfl Tryz.underlying24 sz5 rfl (by omega)) rfl rfl ?_
    refine s_y (Y_loadR (i := k) rfl one5 hs.ro rfl (byte_get (by omega))) rfl rfl ?_
    refine s_y (Y_eql rfl rfl) rfl rfl ?_
    refine s_y (Y_mv) rfl rfl ?_
    apply s_and 7 [26, 27, 28, 29, 30, 31, 32, 33] 33 (g := 26) rfl rfl
    · intro ht6 hm
      try simp only [nrm_] at ht6
      first | refine s_y (Y_mv) rfl rfl ?_ | refine s_pass rfl rfl ?_
      first | refine s_y (Y_mv) rfl rfl ?_ | refine s_pass rfl rfl ?_
      first | refine s_y (Y_ia1 rfl rfl Tryz.underlying23 sz3 rfl (by omega)) rfl rfl ?_ | refine s_pass rfl rfl ?_
      first | refine s_y (Y_loadR (i := k) rfl one3 hf.ro rfl (int_get (by omega))) rfl rfl ?_ | refine s_pass rfl rfl ?_
      first | refine s_y (Y_mv) rfl rfl ?_ | refine s_pass rfl rfl ?_
      first | refine s_y (Y_geq rfl rfl) rfl rfl ?_ | refine s_pass rfl rfl ?_
      refine s_y (Y_pk rfl (Gx.tmp gt_) Gx.const) rfl rfl ?_
      first | exact hm _ ⟨rfl, trivial⟩ rfl | exact QL.sub sl_ (hm _ ⟨rfl, trivial⟩ rfl)
    · intro ht6 hm
      iterate 6 refine s_pass rfl rfl ?_
      refine s_y (Y_pk rfl (Gx.tmp gt_) Gx.const) rfl rfl ?_
      exact hm _ ⟨rfl, trivial⟩ rfl
    intro j33
    refine s_y (Y_mv) rfl rfl ?_
    apply s_and 6 [34, 35, 36, 37, 38, 39, 40] 40 (g := 34) rfl rfl
    · intro ht14 hm
      try simp only [nrm_] at ht14
      first | refine s_y (Y_mv) rfl rfl ?_ | refine s_pass rfl rfl ?_
      first | refine s_y (Y_mv) rfl rfl ?_ | refine s_pass rfl rfl ?_
      first | refine s_y (Y_ia1 rfl rfl Tryz.underlying181 sz4 rfl (by omega)) rfl rfl ?_ | refine s_pass rfl rfl ?_
      first | refine s_y (Y_loadR (i := k) rfl one4 hu.ro rfl (bools_get (by omega))) rfl rfl ?_ | refine s_pass rfl rfl ?_
      first | refine s_y (Y_not rfl) rfl rfl ?_ | refine s_pass rfl rfl ?_
      refine s_y (Y_pk rfl (Gx.tmp gt_) Gx.const) rfl rfl ?_
      first | exact hm _ ⟨rfl, trivial⟩ rfl | exact QL.sub sl_ (hm _ ⟨rfl, trivial⟩ rfl)
    · intro ht14 hm
      iterate 5 refine s_pass rfl rfl ?_
      refine s_y (Y_pk rfl (Gx.tmp gt_) Gx.const) rfl rfl ?_
      exact hm _ ⟨rfl, trivial⟩ rfl
    intro j40
    refine s_nil ?_
    refine q_then ?_
    first | refine c_cond' rfl (fun hc5 => ?_) (fun hc5 => ?_) | refine c_cond rfl (fun hc5 => ?_) (fun hc5 => ?_)
    · skip
      try simp only [nrm_] at hc5
      refine c_reg ?_
      refine s_y (Y_mv) rfl rfl ?_
      refine s_y (Y_mv) rfl rfl ?_
      refine s_n (N_bs (xs := [.tmp 42]) (by repeat (first | exact Gv.nil | apply Gv.const | apply Gv.tmp gt_)) rfl Tryz.underlying23 inf3 rfl (by omega) (by omega) (by first | simp [Value.oneCell'] | (intro v hv; simp at hv; subst hv; rfl))) rfl rfl (fun b43 _ => ?_)
      refine s_n (N_appR (bytes := 8) hB (List.perm_append_comm (l₁ := B) (l₂ := [_])) rfl rfl Tryz.underlying23 inf3 rfl (by omega) (src mm_) (by rfl) (by simp [Value.oneCell']) (by omega) (by omega) (by omega)) rfl rfl (fun ⟨g44, cp44⟩ hc44 => ?_)
      refine s_y (Y_as) rfl rfl ?_
      refine s_nil ?_
      refine q_bn ?_
      refine q_then ?_
      refine c_reg ?_
      refine s_y (Y_mv) rfl rfl ?_
      refine s_y ad_ rfl rfl ?_
      refine s_y (Y_as) rfl rfl ?_
      refine s_nil ?_
      refine hK (m - 1) (k + 1, row ++ [k], .slice (some ⟨g44, 0, none⟩) (row.length + 1) cp44, [⟨g44, 3, 1, cp44, (row ++ [k]).map ci⟩]) _ _ (by omega) ⟨by simp only; omega, by rw [free_succ, if_pos ⟨hc5.1.1, hc5.1.2, hc5.2⟩, ← hr0], by simp only; rw [List.length_append, List.length_singleton]; exact .some hc44 (by simp)⟩ ⟨rfl, rfl, trivial⟩ rfl (fun w h => ?_)
      show Has W [] [⟨g44, 3, 1, cp44, (row ++ [k]).map ci⟩] w
      rw [List.map_append]
      exact h.pick ss_
    · skip
      try simp only [nrm_] at hc5
      refine c_skip ?_
      refine q_bn ?_
      refine q_then ?_
      refine c_reg ?_
      refine s_y (Y_mv) rfl rfl ?_
      refine s_y ad_ rfl rfl ?_
      refine s_y (Y_as) rfl rfl ?_
      refine s_nil ?_
      refine hK (m - 1) (k + 1, row, v, B) _ _ (by omega) ⟨by simp only; omega, by rw [free_succ, if_neg]; exact hr0; rintro ⟨h1, h2, h3⟩; rcases hc5 with (h | h) | h <;> first | omega | (rw [h3] at h; cases h), hB⟩ ⟨rfl, rfl, trivial⟩ rfl (fun _ h => h)
  · skip
    try simp only [nrm_] at hc3
    refine c_exit ?_
    repeat with_reducible refine q_te ?_
    refine q_exit ?_
    refine q_then ?_
    refine c_seq ?_
    refine c_seq ?_
    obtain rfl : k = 384 := by omega
    refine c_reg ?_
    refine s_y (Y_mv) rfl rfl ?_
    refine s_y (Y_lenR hB rfl rfl Tryz.underlying23) rfl rfl ?_
    refine s_y (Y_eql rfl rfl) rfl rfl ?_
    refine s_nil ?_
    refine q_then ?_
    first | refine c_cond' rfl (fun hc7 => ?_) (fun hc7 => ?_) | refine c_cond rfl (fun hc7 => ?_) (fun hc7 => ?_)
    · skip
      try simp only [nrm_] at hc7
      refine c_seq ?_
      refine c_reg ?_
      refine s_y (Y_asC) rfl rfl ?_
      refine s_nil ?_
      refine q_then ?_
      refine c_ret ?_
      refine q_retG1 rfl gt_ (L' := _) sl_ (⟨by unfold pickM; rw [← hr0, List.eq_nil_of_length_eq_zero (show row.length = 0 by omega)], rfl⟩)
    · skip
      try simp only [nrm_] at hc7
      refine c_skip ?_
      refine q_then ?_
      refine c_seq ?_
      have hlen : 0 < row.length := by omega
      have hgd := gd_rng (n := (row.length : Int)) (by omega) seed floor a 0
      obtain ⟨q, hq⟩ : ∃ q : Nat, (q : Int) = gd seed floor a 0 row.length := ⟨(gd seed floor a 0 row.length).toNat, by omega⟩
      obtain ⟨z, hz⟩ := take_lt (show q < row.length by omega)
      have hpk : pickM cells f far used seed floor a = (z : Int) := by
        unfold pickM
        rw [← hr0]
        cases hrow : row with
        | nil => rw [hrow] at hlen; simp at hlen
        | cons x r =>
          simp only
          rw [← hrow, ← hq, Int.toNat_natCast, List.getD_eq_getElem?_getD, hz]; rfl
      obtain ⟨g, cp, rfl, rfl, hgc⟩ := hB.some_of hlen
      refine c_reg ?_
      refine s_y (Y_mv) rfl rfl ?_
      refine s_y (Y_mv) rfl rfl ?_
      refine s_y (Y_mv) rfl rfl ?_
      refine s_y (Y_mv) rfl rfl ?_
      refine s_y (Y_mv) rfl rfl ?_
      refine s_y (Y_lenR hB rfl rfl Tryz.underlying23) rfl rfl ?_
      refine s_c (En_call (fun _ => rfl) Tryz.func118 rfl (by kernel_rfl) rfl) (fun w hH => rd_d (by omega)) rfl rfl ?_
      rintro _ _ ⟨rfl, rfl⟩
      refine s_y (Y_ia1 (n := q) rfl rfl Tryz.underlying23 sz3 hq.symm (by omega)) rfl rfl ?_
      refine s_y (Y_load (v := ci z) rfl one3 mm_ (by rw [Nat.zero_add, List.getElem?_map, hz]; rfl)) rfl rfl ?_
      refine s_y (Y_as) rfl rfl ?_
      refine s_nil ?_
      refine q_then ?_
      refine c_ret ?_
      refine q_retG1 rfl gt_ (L' := _) sl_ (⟨by rw [hpk], rfl⟩)
end
end Go.Proofs.YtcogbkkdccohfaaGreat
namespace Go.Proofs.YtcogbkkdccohfaaGreat
open Go.RowKit Go.Ad Go.Maps
set_option linter.unusedVariables false
set_option linter.unusedSimpArgs false
def arrM (f : Nat → Int) (i : Nat) : List Value := (List.range 6).map fun k => iv (if k < i then f k else 0)
theorem arr_set (f : Nat → Int) {i : Nat} (h : i < 6) : (arrM f i).set (0 + i * 1) (iv (f i)) = arrM f (i + 1) := by
  rcases (show i = 0 ∨ i = 1 ∨ i = 2 ∨ i = 3 ∨ i = 4 ∨ i = 5 by omega) with rfl | rfl | rfl | rfl | rfl | rfl <;> rfl
theorem arr_get (f : Nat → Int) {i : Nat} (h : i < 6) : (arrM f 6)[0 + i * 1]? = some (iv (f i)) := by
  rcases (show i = 0 ∨ i = 1 ∨ i = 2 ∨ i = 3 ∨ i = 4 ∨ i = 5 by omega) with rfl | rfl | rfl | rfl | rfl | rfl <;> rfl
theorem fillRow_len : ∀ (n : Nat) (cells : List UInt8) (k : Nat), (fillRow cells k n).length = cells.length
  | 0, _, _ => rfl
  | n + 1, cells, k => by rw [fillRow, fillRow_len n, List.length_set]
theorem fillRect_len : ∀ (n : Nat) (cells : List UInt8) (k w : Nat), (fillRect cells k w n).length = cells.length
  | 0, _, _, _ => rfl
  | n + 1, cells, k, w => by rw [fillRect, fillRect_len n, fillRow_len]
theorem digRooms_len (seed floor : Int) : ∀ i, (digRooms seed floor i).length = 384
  | 0 => List.length_replicate
  | i + 1 => by rw [digRooms, digRoom, fillRect_len, digRooms_len seed floor i]
theorem digM_len (cells : List UInt8) (x y : Int) (d : Bool) : (digM cells x y d).1.length = cells.length := by
  unfold digM; split <;> simp
theorem corrM_len (tx ty : Int) (first : Bool) : ∀ (n : Nat) (cells : List UInt8) (d : Bool) (x y : Int), (corrM tx ty first n cells d x y).length = cells.length
  | 0, _, _, _, _ => rfl
  | n + 1, cells, d, x, y => by
    rw [corrM]
    split
    · simp only; rw [corrM_len tx ty first n, digM_len]
    · rfl
theorem corrsM_len (seed floor : Int) (cells : List UInt8) : ∀ i, (corrsM seed floor cells i).length = cells.length
  | 0 => rfl
  | i + 1 => by rw [corrsM, corrStart, corrM_len, digM_len, corrsM_len seed floor cells i]
abbrev aB (b : Nat) (f : Nat → Int) (i : Nat) : Bk := ⟨b, 177, 6, 1, arrM f i⟩
abbrev lB (b : Nat) (c : List Value) : Bk := ⟨b, 138, 3, 1, c⟩
abbrev lz : List Value := [.slice none 0 0, .slice none 0 0, .slice none 0 0]
theorem rooms0 (seed floor : Int) : (digRooms seed floor 0).map bv = List.replicate 384 (.int .u8 0) := by
  rw [digRooms, List.map_replicate]; rfl
abbrev z6 : List Value := [.int .i64 0, .int .i64 0, .int .i64 0, .int .i64 0, .int .i64 0, .int .i64 0]
theorem mk0 {W w : World} {M : List Nat} {seed floor : Int} {b34 b6 b7 b4 : Nat} (h : Has W M [⟨b7, 177, 6, 1, z6⟩, ⟨b6, 177, 6, 1, z6⟩, ⟨b34, 5, 1, 384, List.replicate 384 (.int .u8 0)⟩, lB b4 lz] w) : Has W M [cB b34 384 (digRooms seed floor 0), aB b6 (fun k => midX seed floor k) 0, aB b7 (fun k => midY seed floor k) 0, lB b4 lz] w := by
  have e : cB b34 384 (digRooms seed floor 0) = ⟨b34, 5, 1, 384, List.replicate 384 (.int .u8 0)⟩ := by rw [cB, rooms0]
  have e6 : aB b6 (fun k => midX seed floor k) 0 = ⟨b6, 177, 6, 1, z6⟩ := rfl
  have e7 : aB b7 (fun k => midY seed floor k) 0 = ⟨b7, 177, 6, 1, z6⟩ := rfl
  rw [e, e6, e7]
  generalize List.replicate 384 (Value.int .u8 0) = r at h ⊢
  generalize z6 = z at h ⊢
  exact h.pick ss_
theorem room_nat (seed floor i : Int) : ∃ k0 rw rh : Nat, (k0 : Int) = roomY seed floor i * 24 + roomX seed floor i ∧ (rw : Int) = roomW seed floor i ∧ (rh : Int) = roomH seed floor i := by
  have hr := room_rng seed floor i
  refine ⟨(roomY seed floor i * 24 + roomX seed floor i).toNat, (roomW seed floor i).toNat, (roomH seed floor i).toNat, ?_, ?_, ?_⟩ <;> omega
theorem dig_start {seed floor : Int} {i k0 rw rh : Nat} (h0 : (k0 : Int) = roomY seed floor i * 24 + roomX seed floor i) (h1 : (rw : Int) = roomW seed floor i) (h2 : (rh : Int) = roomH seed floor i) : fillRect (digRooms seed floor i) (k0 + 24 * 0) rw rh = digRooms seed floor (i + 1) := by
  rw [digRooms, digRoom, ← h0, ← h1, ← h2, Int.toNat_natCast, Int.toNat_natCast, Int.toNat_natCast, Nat.mul_zero, Nat.add_zero]
theorem corr_x {tx ty x y : Int} {first : Bool} {n : Nat} {cells : List UInt8} {d : Bool} (h0 : x ≠ tx ∨ y ≠ ty) (h : (first = true ∧ x ≠ tx) ∨ (first = false ∧ y = ty)) : corrM tx ty first (n + 1) cells d x y = corrM tx ty first n (digM cells (towardM x tx) y d).1 (digM cells (towardM x tx) y d).2 (towardM x tx) y := by
  rw [corrM, if_pos h0]; simp only [if_pos h]
theorem corr_y {tx ty x y : Int} {first : Bool} {n : Nat} {cells : List UInt8} {d : Bool} (h0 : x ≠ tx ∨ y ≠ ty) (h : ¬ ((first = true ∧ x ≠ tx) ∨ (first = false ∧ y = ty))) : corrM tx ty first (n + 1) cells d x y = corrM tx ty first n (digM cells x (towardM y ty) d).1 (digM cells x (towardM y ty) d).2 x (towardM y ty) := by
  rw [corrM, if_pos h0]; simp only [if_neg h]
theorem corr_end {tx ty x y : Int} {first : Bool} {n : Nat} {cells : List UInt8} {d : Bool} (h0 : ¬ (x ≠ tx ∨ y ≠ ty)) : corrM tx ty first n cells d x y = cells := by
  cases n with
  | zero => rfl
  | succ n => rw [corrM, if_neg h0]
theorem toward_rng {a b : Int} (h : a ≠ b) : (towardM a b - b).natAbs + 1 = (a - b).natAbs ∧ ((a ≤ towardM a b ∧ towardM a b ≤ b) ∨ (b ≤ towardM a b ∧ towardM a b ≤ a)) := by
  unfold towardM; split <;> omega
theorem corrs_succ (seed floor : Int) (cells : List UInt8) (t : Nat) : corrsM seed floor cells (t + 1) = corrM (midX seed floor ((t + 1 : Nat) : Int)) (midY seed floor ((t + 1 : Nat) : Int)) (decide (gd seed floor ((t + 1 : Nat) : Int) 4 2 = 0)) 64 (digM (corrsM seed floor cells t) (midX seed floor (t : Int)) (midY seed floor (t : Int)) false).1 (digM (corrsM seed floor cells t) (midX seed floor (t : Int)) (midY seed floor (t : Int)) false).2 (midX seed floor (t : Int)) (midY seed floor (t : Int)) := by
  rw [corrsM, corrStart, show (t : Int) + 1 - 1 = t by omega, show (t : Int) + 1 = ((t + 1 : Nat) : Int) by omega]
theorem tryD_len (cells : List UInt8) (bl : List Bool) (i : Nat) (st : List Int × List Nat) (d : Nat) : (tryD cells bl i st d).1.length = st.1.length := by
  unfold tryD; split <;> simp
theorem tries_len (cells : List UInt8) (bl : List Bool) (i : Nat) (st : List Int × List Nat) : ∀ d, (triesM cells bl i st d).1.length = st.1.length
  | 0 => rfl
  | d + 1 => by rw [triesM, tryD_len, tries_len cells bl i st d]
theorem bfs_len (cells : List UInt8) (bl : List Bool) : ∀ (n k : Nat) (st : List Int × List Nat), (bfs cells bl n k st).length = st.1.length
  | 0, _, _ => rfl
  | n + 1, k, st => by
    rw [bfs]
    cases st.2[k]? with
    | none => rfl
    | some i => simp only; rw [bfs_len cells bl n, tries_len]
theorem marks_mk (cells : List UInt8) : ∀ (ts : List Int) (f : List Int), Mk f → Mk (ts.foldl (markM cells) f)
  | [], f, h => h
  | t :: ts, f, h => marks_mk cells ts _ (h.mark cells t)
theorem field_len (cells : List UInt8) (bl : List Bool) (ts : List Int) : (fieldM cells bl ts).length = 384 := by
  rw [fieldM, bfs_len]
  have := negF_mk
  rw [negF_all] at this
  exact (marks_mk cells ts _ this).len
theorem bfs_low (cells : List UInt8) (bl : List Bool) : ∀ (n k : Nat) (f : List Int) (row : List Nat), Bfs f row → ∀ v ∈ bfs cells bl n k (f, row), -1 ≤ v ∧ v ≤ 384
  | 0, _, f, row, B, v, hv => by
    have := B.low v hv; have := B.sum; omega
  | n + 1, k, f, row, B, v, hv => by
    rw [bfs] at hv
    cases hi : row[k]? with
    | none =>
      simp only [hi] at hv
      have := B.low v hv; have := B.sum; omega
    | some i =>
      simp only [hi] at hv
      obtain ⟨h1, h2⟩ := B.rws i (List.mem_of_getElem? hi)
      exact bfs_low cells bl n (k + 1) _ _ (B.tries h1 h2 cells bl 4).1 v hv
theorem field_rng (cells : List UInt8) (bl : List Bool) (ts : List Int) {i : Nat} (h : i < 384) : -1 ≤ getI (fieldM cells bl ts) i ∧ getI (fieldM cells bl ts) i ≤ 384 := by
  have h0 := negF_mk
  rw [negF_all] at h0
  have hm := marks_mk cells ts _ h0
  exact bfs_low cells bl 385 0 _ _ hm.bfs _ (List.mem_of_getElem? (get_getI (show i < (fieldM cells bl ts).length by rw [field_len]; exact h)))
theorem tdiv_rng {a : Int} (h : -1 ≤ a ∧ a ≤ 384) : -1 ≤ a.tdiv 2 ∧ a.tdiv 2 ≤ 384 := by
  by_cases h0 : 0 ≤ a
  · rw [Int.tdiv_eq_ediv_of_nonneg h0]; omega
  · obtain rfl : a = -1 := by omega
    decide
theorem base_len (seed floor : Int) : (baseM seed floor).length = 384 := by
  rw [baseM, List.length_set, corrsM_len, digRooms_len]
theorem down_len (seed floor : Int) : (downM seed floor).length = 384 := by rw [downM, List.length_set, base_len]
theorem far_lt (f : List Int) {up : Nat} (h : up < 384) : ∀ i, i ≤ 384 → farM f up i < 384
  | 0, _ => h
  | i + 1, hi => by
    rw [farM]
    split
    · omega
    · exact far_lt f h i (by omega)
theorem cells_eq (seed floor : Int) : shopC (downM seed floor) (shopAt seed floor) = cellsM seed floor := rfl
theorem shopC_len (cells : List UInt8) (o : Option Nat) : (shopC cells o).length = cells.length := by cases o <;> simp [shopC]
theorem shop_stays {cells : List UInt8} {f : List Int} {v : Int} {n k : Nat} (h : shopM cells f v n = some k) : ∀ m, shopM cells f v (n + m) = some k
  | 0 => h
  | m + 1 => by rw [← Nat.add_assoc, shopM, shop_stays h m]
theorem pick_nat {cells : List UInt8} {f : List Int} {far : Int} {used : List Bool} {seed floor a : Int} (h : ¬ pickM cells f far used seed floor a < 0) : ∃ z : Nat, pickM cells f far used seed floor a = (z : Int) ∧ z < 384 ∧ byteAt cells z = 1 ∧ getI f z ≥ far ∧ used.getD z false = false := by
  have key : ∀ l : List Nat, l = freeM cells f far used 384 → 0 < l.length → ∀ g : Int, 0 ≤ g ∧ g < (l.length : Int) → l.getD g.toNat 0 < 384 ∧ byteAt cells (l.getD g.toNat 0) = 1 ∧ getI f (l.getD g.toNat 0) ≥ far ∧ used.getD (l.getD g.toNat 0) false = false := by
    intro l hl h0 g hg
    apply free_mem
    rw [← hl, List.getD_eq_getElem?_getD, List.getElem?_eq_getElem (show g.toNat < l.length by omega)]
    exact List.getElem_mem _
  unfold pickM at h ⊢
  obtain ⟨l, hl⟩ : ∃ q_, freeM cells f far used 384 = q_ := ⟨_, rfl⟩
  rw [hl] at h ⊢
  cases l with
  | nil => exact absurd (show (-1 : Int) < 0 by decide) h
  | cons x r => exact ⟨_, rfl, key _ hl.symm (Nat.succ_pos _) _ (gd_rng (Int.natCast_pos.2 (Nat.succ_pos _)) seed floor a 0)⟩
theorem up_eq (seed floor : Int) : ((upM seed floor : Nat) : Int) = midY seed floor 0 * 24 + midX seed floor 0 ∧ upM seed floor < 384 := by
  have := mid_rng seed floor 0
  unfold upM
  omega
abbrev uB (b : Nat) (u : List Bool) : Bk := ⟨b, 4, 1, 384, u.map Value.bool⟩
theorem bool_set (u : List Bool) (k : Nat) (x : Bool) : (u.map Value.bool).set k (.bool x) = (u.set k x).map Value.bool := by rw [List.map_set]
def LvlP (m : Lvl) (v : Value) (L : List Bk) : Prop := ∃ cb ev E iv' I, v = .agg #[.slice (some ⟨cb, 0, none⟩) 384 384, ev, iv'] ∧ Row 93 11 ev m.ents.length (ecells m.ents) E ∧ Row 98 4 iv' m.items.length (icells m.items) I ∧ L = cB cb 384 m.cells :: (I ++ E)
section
variable {W : World}
set_option maxRecDepth 100000 in
set_option maxHeartbeats 6400000 in
theorem make_t2 {seed floor : Int} {m : Lvl} {cs : List UInt8} {f : List Int} {o : Option Nat} {b4 b26 b34 fb : Nat} {ev : Value} {E : List Bk} (hfl : 1 ≤ floor ∧ floor ≤ 3) (hcl0 : cs.length = 384) (hdl : f.length = 384) (hmcs : m.cells = cs) (hE : Row 93 11 ev m.ents.length (ecells m.ents) E) (hitems : m.items = waresM seed floor cs f 4 0 (List.replicate 384 false) [] ++ (if o.isSome then shelfM seed floor 3 else [])) (j : Nat → Value) :
    wpC Tryz.prog W [] (tailOf Tryz.f75 56) (PostOf Tryz.prog Tryz.f75 W [] (LvlP m)) [(0, iv seed), (1, iv floor), (4, .pointer (some ⟨b4, 0, none⟩)), (5, .slice (some ⟨b34, 0, none⟩) 384 384), (21, .slice (some ⟨fb, 0, none⟩) 384 384), (24, .bool o.isSome), (26, .pointer (some ⟨b26, 0, none⟩))] ((List.range 326).map j) (lB b26 [.slice (some ⟨b34, 0, none⟩) 384 384, ev, .slice none 0 0] :: cB b34 384 cs :: fB fb f :: lB b4 lz :: E) := by
  have hrep : List.replicate 384 (Value.bool false) = (List.replicate 384 false).map Value.bool := by rw [List.map_replicate]
  have hu0 : (List.replicate 384 false).length = 384 := List.length_replicate
  obtain ⟨u0, hgen4⟩ : ∃ q_, List.replicate 384 false = q_ := ⟨_, rfl⟩
  rw [hgen4] at hitems hrep hu0
  obtain ⟨wa, hwa0⟩ : ∃ q_, waresM seed floor cs f 4 0 u0 [] = q_ := ⟨_, rfl⟩
  rw [hwa0] at hitems
  refine c_seq ?_
  refine c_reg ?_
  refine s_n (N_make1 (n := 384) rfl rfl Tryz.underlying181 inf4 rfl rfl (by omega) (by omega)) rfl rfl (fun b271 _ => ?_)
  refine s_y (Y_as) rfl rfl ?_
  refine s_nil ?_
  refine q_then ?_
  refine c_seq ?_
  refine c_seq ?_
  refine QL.pick2 (xs := [lB b26 [.slice (some ⟨b34, 0, none⟩) 384 384, ev, .slice none 0 0], ⟨b271, 4, 1, 384, List.replicate 384 (.bool false)⟩, cB b34 384 cs, fB fb f, lB b4 lz]) (R' := E) ss_ sl_ ?_
  rw [hrep]
  simp only [List.cons_append, List.nil_append]
  refine c_reg ?_
  refine s_y (Y_asC) rfl rfl ?_
  refine s_nil ?_
  refine q_then ?_
  refine c_block ?_
  refine c_loop [31, 32, 272, 273, 274, 275, 276, 277, 278, 279, 280, 281, 282, 283, 284, 285, 286, 287, 288, 289, 290, 291, 292, 293, 294, 295, 296, 297, 298, 299, 300, 301, 302, 303, 304] (fun n (y : Nat × List Bool × List Itm × Value × List Bk) => y.1 + n = 4 ∧ y.2.1.length = 384 ∧ Row 98 4 y.2.2.2.1 y.2.2.1.length (icells y.2.2.1) y.2.2.2.2 ∧ y.2.2.1.length ≤ y.1 ∧ waresM seed floor cs f n y.1 y.2.1 y.2.2.1 = wa) (fun y => [(31, iv y.1)]) (fun y => lB b26 [.slice (some ⟨b34, 0, none⟩) 384 384, ev, y.2.2.2.1] :: uB b271 y.2.1 :: cB b34 384 cs :: fB fb f :: lB b4 lz :: (y.2.2.2.2 ++ E)) (4) ((0, u0, [], .slice none 0 0, [])) (⟨rfl, hu0, .nil, Nat.le_refl _, hwa0⟩) (by repeat (first | exact trivial | refine ⟨rfl, ?_⟩)) (fun _ h => h.sub sl_) (fun _ => rfl) ?_
  rintro n ⟨k, used, es, v, B⟩ j ⟨hk, hul, hB, hel, hfo⟩ K hK
  simp only at hk hul hB hel hfo ⊢
  refine c_seq ?_
  refine c_seq ?_
  refine c_reg ?_
  refine s_y (Y_mv) rfl rfl ?_
  refine s_y (Y_lss rfl rfl) rfl rfl ?_
  refine s_nil ?_
  refine q_then ?_
  first | refine c_cond' rfl (fun hc58 => ?_) (fun hc58 => ?_) | refine c_cond rfl (fun hc58 => ?_) (fun hc58 => ?_)
  · skip
    try simp only [nrm_] at hc58
    refine c_skip ?_
    refine q_then ?_
    refine c_seq ?_
    refine c_block ?_
    refine c_seq ?_
    refine c_reg ?_
    refine s_y (Y_mv) rfl rfl ?_
    refine s_y (Y_mv) rfl rfl ?_
    refine s_y (Y_mv) rfl rfl ?_
    refine s_y (Y_mv) rfl rfl ?_
    refine s_y (Y_mv) rfl rfl ?_
    refine s_y (Y_mv) rfl rfl ?_
    refine s_y ad_ rfl rfl ?_
    refine s_c (En_call (fun _ => rfl) Tryz.func122 rfl (by kernel_rfl) rfl) (fun w hH => rpick_d ((hH.at' (x := cB b34 384 cs) mm_).sl (by rw [List.length_map]; omega) (Nat.le_refl _)) ((hH.at' (x := fB fb f) mm_).sl (by rw [List.length_map]; omega) (Nat.le_refl _)) ((hH.at' (x := uB b271 used) mm_).sl (by rw [List.length_map]; omega) (Nat.le_refl _))) rfl rfl ?_
    rintro _ _ ⟨rfl, rfl⟩
    refine s_y (Y_as) rfl rfl ?_
    refine s_nil ?_
    refine q_then ?_
    refine c_seq ?_
    refine c_seq ?_
    refine c_reg ?_
    refine s_y (Y_mv) rfl rfl ?_
    refine s_y (Y_lss rfl rfl) rfl rfl ?_
    refine s_nil ?_
    refine q_then ?_
    first | refine c_cond' rfl (fun hc61 => ?_) (fun hc61 => ?_) | refine c_cond rfl (fun hc61 => ?_) (fun hc61 => ?_)
    · skip
      try simp only [nrm_] at hc61
      refine c_exit ?_
      repeat with_reducible refine q_te ?_
      refine q_exit ?_
      refine q_then ?_
      refine c_reg ?_
      refine s_y (Y_mv) rfl rfl ?_
      refine s_y ad_ rfl rfl ?_
      refine s_y (Y_as) rfl rfl ?_
      refine s_nil ?_
      obtain ⟨q, rfl⟩ : ∃ q, n = q + 1 := ⟨n - 1, by omega⟩
      rw [waresM] at hfo
      simp only [if_pos hc61] at hfo
      refine hK q (k + 1, used, es, v, B) _ _ (by omega) ⟨by simp only; omega, hul, hB, by simp only; omega, hfo⟩ ⟨rfl, trivial⟩ rfl (fun w h => h)
    · skip
      try simp only [nrm_] at hc61
      refine c_skip ?_
      refine q_then ?_
      refine c_seq ?_
      obtain ⟨z, hz, hzl, hzc, hzf, hzu⟩ := pick_nat hc61
      obtain ⟨q, rfl⟩ : ∃ q, n = q + 1 := ⟨n - 1, by omega⟩
      rw [waresM] at hfo
      simp only [if_neg hc61] at hfo
      rw [hz, Int.toNat_natCast] at hfo
      rw [hz]
      have hg := gd_rng (n := 4) (by omega) seed floor (40 + k) 1
      obtain ⟨zx, hzx⟩ : ∃ x : Int, (z : Int) % 24 = x := ⟨_, rfl⟩
      obtain ⟨zy, hzy⟩ : ∃ x : Int, (z : Int) / 24 = x := ⟨_, rfl⟩
      rw [hzx, hzy] at hfo
      obtain ⟨zk, hzk⟩ : ∃ x : Int, 1 + gd seed floor (40 + k) 1 4 = x := ⟨_, rfl⟩
      rw [hzk] at hfo
      refine c_reg ?_
      refine s_y (Y_mv) rfl rfl ?_
      refine s_y (Y_mv) rfl rfl ?_
      refine s_y (Y_ia1 (n := z) rfl rfl Tryz.underlying181 sz4 rfl (by omega)) rfl rfl ?_
      refine s_s (S_stC (cs' := (used.set z true).map Value.bool) rfl sz4 (by rfl) up_ (by rw [Nat.zero_add]; exact bool_set used z true) (by rw [List.length_map]; omega)) rfl ?_
      refine s_nil ?_
      refine q_then ?_
      refine c_rordS (L0 := [lB b26 [.slice (some ⟨b34, 0, none⟩) 384 384, ev, v]]) sl_ [16] [(0, true), (1, true), (2, true), (3, true), (4, true), (5, true), (8, true), (9, true), (10, true), (11, true), (6, false), (7, true), (12, true), (13, false), (14, false), (15, true), (16, false)] (by kernel_rfl) (by kernel_rfl) (by kernel_rfl) (by kernel_rfl) rfl (by intro c a d v w h; cases d <;> exact h) rfl ?_
      simp only [mkOrd, List.filterMap_cons, List.filterMap_nil, List.getElem?_toArray, List.getElem?_cons_zero, List.getElem?_cons_succ, Option.map_some]
      refine o_y (Y_fa 2 rfl Tryz.underlying138 rfl sz31 rfl) rfl rfl ?_
      refine o_y (yl_ one31) rfl rfl ?_
      refine o_y (Y_mv) rfl rfl ?_
      refine o_y (Y_mv) rfl rfl ?_
      refine o_y (Y_mv) rfl rfl ?_
      refine o_y ad_ rfl rfl ?_
      refine o_y (Y_mv) rfl rfl ?_
      refine o_y ((Y_rem rfl rfl (by omega)).num hzx) rfl rfl ?_
      refine o_y (Y_mv) rfl rfl ?_
      refine o_y ((Y_quo rfl rfl (by omega)).num hzy) rfl rfl ?_
      refine o_c (En_call (fun _ => rfl) Tryz.func118 rfl (by kernel_rfl) rfl) (fun w hH => rd_d (by omega)) (fun _ _ h => by obtain ⟨rfl, rfl⟩ := h; exact kp_) rfl rfl ?_
      rintro _ _ ⟨rfl, rfl⟩
      refine o_y ((Y_add rfl rfl (by omega)).num hzk) rfl rfl ?_
      refine o_y (Y_build (cs := [_, (Value.int Go.IntKind.i64 1), _, _]) (by repeat (first | exact Gp.nil | apply Gp.const | apply Gp.tmp gt_)) (bld98 _ _ (by first | rfl | (simp; rfl)))) rfl rfl ?_
      refine o_n (N_bsA gt_ Tryz.underlying31 inf98 rfl rfl (by omega) (by omega)) (fun _ => kp_) rfl rfl (fun b302 _ => ?_)
      refine o_n (N_appR (bytes := 32) hB (perm_mid B [_, _, _, _, _, _] E) rfl rfl Tryz.underlying31 inf98 rfl (by omega) (src (news := (Itm.mk zk 1 zx zy).cells) mm_) (by rfl) (one_i1 _) (by omega) (by omega) (by omega)) (fun _ => kp_) rfl rfl (fun ⟨g303, cp303⟩ hc303 => ?_)
      refine o_y (Y_fa 2 rfl Tryz.underlying138 rfl sz31 rfl) rfl rfl ?_
      refine o_s (S_st rfl gt_ sz31 (by rfl) up_ (by first | (simp only [Nat.zero_add, Nat.reduceAdd, List.set_cons_succ, List.set_cons_zero]; rfl) | rfl) (by first | (simp; done) | omega)) kp_ rfl ?_
      refine o_nil ?_
      refine q_bn ?_
      refine q_then ?_
      refine c_reg ?_
      refine s_y (Y_mv) rfl rfl ?_
      refine s_y ad_ rfl rfl ?_
      refine s_y (Y_as) rfl rfl ?_
      refine s_nil ?_
      rw [icells_snoc]
      obtain ⟨e, hgen6⟩ : ∃ q_, Itm.mk zk 1 zx zy = q_ := ⟨_, rfl⟩
      rw [hgen6] at hfo ⊢
      refine hK q (k + 1, used.set z true, es ++ [e], .slice (some ⟨g303, 0, none⟩) (es.length + 1) cp303, [⟨g303, 98, 4, cp303, icells (es ++ [e])⟩]) _ _ (by omega) ⟨by simp only; omega, by simp only [List.length_set]; exact hul, by simp only; rw [List.length_append, List.length_singleton]; exact .some hc303 (by rw [icells_len, List.length_append, List.length_singleton]), by simp only; rw [List.length_append, List.length_singleton]; omega, hfo⟩ ⟨rfl, trivial⟩ rfl (fun w h => ?_)
      exact h.pick2 (xs := [lB b26 [.slice (some ⟨b34, 0, none⟩) 384 384, ev, .slice (some ⟨g303, 0, none⟩) (es.length + 1) cp303], uB b271 (used.set z true), cB b34 384 cs, fB fb f, lB b4 lz, ⟨g303, 98, 4, cp303, icells (es ++ [e])⟩]) (R' := E) ss_ sl_
  · skip
    try simp only [nrm_] at hc58
    refine c_exit ?_
    repeat with_reducible refine q_te ?_
    refine q_exit ?_
    refine q_then ?_
    refine c_seq ?_
    refine c_seq ?_
    obtain rfl : n = 0 := by omega
    obtain rfl : es = wa := by rw [← hfo, waresM]
    have hwl : es.length ≤ 4 := by omega
    refine c_reg ?_
    refine s_y (Y_asC) rfl rfl ?_
    refine s_nil ?_
    refine q_then ?_
    refine c_block ?_
    refine c_loop [33, 305, 306, 307, 308, 309, 310, 311, 312, 313, 314, 315, 316, 317, 318, 319, 320, 321, 322, 323, 324] (fun n (y : Nat × List Itm × Value × List Bk) => y.1 + n = 3 ∧ Row 98 4 y.2.2.1 y.2.1.length (icells y.2.1) y.2.2.2 ∧ y.2.1.length ≤ 4 + y.1 ∧ y.2.1 = es ++ shelfM seed floor y.1 ∧ (o.isSome = false → y.1 = 0)) (fun y => [(33, iv y.1)]) (fun y => lB b26 [.slice (some ⟨b34, 0, none⟩) 384 384, ev, y.2.2.1] :: cB b34 384 cs :: fB fb f :: lB b4 lz :: (y.2.2.2 ++ E)) (3) ((0, es, v, B)) (⟨rfl, hB, by simp only; omega, by simp only [shelfM, List.append_nil], fun _ => rfl⟩) (by repeat (first | exact trivial | refine ⟨rfl, ?_⟩)) (fun _ h => h.sub sl_) (fun _ => rfl) ?_
    rintro n ⟨k, es2, v2, B2⟩ j2 ⟨hk2, hB2, hel2, hes2, hsh2⟩ K hK
    simp only at hk2 hB2 hel2 hes2 hsh2 ⊢
    refine c_seq ?_
    refine c_seq ?_
    refine c_reg ?_
    refine s_y (Y_mv) rfl rfl ?_
    refine s_y (Y_lss rfl rfl) rfl rfl ?_
    refine s_y (Y_mv) rfl rfl ?_
    apply s_and 2 [307, 308, 309] 309 (g := 307) rfl rfl
    · intro ht3 hm
      try simp only [nrm_] at ht3
      first | refine s_y (Y_mv) rfl rfl ?_ | refine s_pass rfl rfl ?_
      refine s_y (Y_pk rfl (Gx.tmp gt_) Gx.const) rfl rfl ?_
      first | exact hm _ ⟨rfl, trivial⟩ rfl | exact QL.sub sl_ (hm _ ⟨rfl, trivial⟩ rfl)
    · intro ht3 hm
      iterate 1 refine s_pass rfl rfl ?_
      refine s_y (Y_pk rfl (Gx.tmp gt_) Gx.const) rfl rfl ?_
      exact hm _ ⟨rfl, trivial⟩ rfl
    intro j309
    refine s_nil ?_
    refine q_then ?_
    first | refine c_cond' rfl (fun hc65 => ?_) (fun hc65 => ?_) | refine c_cond rfl (fun hc65 => ?_) (fun hc65 => ?_)
    · skip
      try simp only [nrm_] at hc65
      refine c_skip ?_
      refine q_then ?_
      refine c_seq ?_
      refine c_block ?_
      have hg := gd_rng (n := 3) (by omega) seed floor (50 + k) 1
      obtain ⟨zk, hzk⟩ : ∃ x : Int, 1 + gd seed floor (50 + k) 1 3 = x := ⟨_, rfl⟩
      refine c_rordS (L0 := [lB b26 [.slice (some ⟨b34, 0, none⟩) 384 384, ev, v2]]) sl_ [13] [(0, true), (1, true), (2, true), (3, true), (4, true), (5, true), (8, true), (6, false), (7, true), (9, true), (10, false), (11, false), (12, true), (13, false)] (by kernel_rfl) (by kernel_rfl) (by kernel_rfl) (by kernel_rfl) rfl (by intro c a d v w h; cases d <;> exact h) rfl ?_
      simp only [mkOrd, List.filterMap_cons, List.filterMap_nil, List.getElem?_toArray, List.getElem?_cons_zero, List.getElem?_cons_succ, Option.map_some]
      refine o_y (Y_fa 2 rfl Tryz.underlying138 rfl sz31 rfl) rfl rfl ?_
      refine o_y (yl_ one31) rfl rfl ?_
      refine o_y (Y_mv) rfl rfl ?_
      refine o_y (Y_mv) rfl rfl ?_
      refine o_y (Y_mv) rfl rfl ?_
      refine o_y ad_ rfl rfl ?_
      refine o_y (Y_mv) rfl rfl ?_
      refine o_c (En_call (fun _ => rfl) Tryz.func118 rfl (by kernel_rfl) rfl) (fun w hH => rd_d (by omega)) (fun _ _ h => by obtain ⟨rfl, rfl⟩ := h; exact kp_) rfl rfl ?_
      rintro _ _ ⟨rfl, rfl⟩
      refine o_y ((Y_add rfl rfl (by omega)).num hzk) rfl rfl ?_
      refine o_y (Y_build (cs := [_, (Value.int Go.IntKind.i64 4), _, .int .i64 0]) (by repeat (first | exact Gp.nil | apply Gp.const | apply Gp.tmp gt_)) (bld98 _ _ (by first | rfl | (simp; rfl)))) rfl rfl ?_
      refine o_n (N_bsA gt_ Tryz.underlying31 inf98 rfl rfl (by omega) (by omega)) (fun _ => kp_) rfl rfl (fun b322 _ => ?_)
      refine o_n (N_appR (bytes := 32) hB2 (perm_mid B2 [_, _, _, _, _] E) rfl rfl Tryz.underlying31 inf98 rfl (by omega) (src (news := (Itm.mk zk 4 (k : Int) 0).cells) mm_) (by rfl) (one_i1 _) (by omega) (by omega) (by omega)) (fun _ => kp_) rfl rfl (fun ⟨g323, cp323⟩ hc323 => ?_)
      refine o_y (Y_fa 2 rfl Tryz.underlying138 rfl sz31 rfl) rfl rfl ?_
      refine o_s (S_st rfl gt_ sz31 (by rfl) up_ (by first | (simp only [Nat.zero_add, Nat.reduceAdd, List.set_cons_succ, List.set_cons_zero]; rfl) | rfl) (by first | (simp; done) | omega)) kp_ rfl ?_
      refine o_nil ?_
      refine q_bn ?_
      refine q_then ?_
      refine c_reg ?_
      refine s_y (Y_mv) rfl rfl ?_
      refine s_y ad_ rfl rfl ?_
      refine s_y (Y_as) rfl rfl ?_
      refine s_nil ?_
      have hsn : es2 ++ [Itm.mk zk 4 (k : Int) 0] = es ++ shelfM seed floor (k + 1) := by rw [hes2, shelfM, List.append_assoc, hzk]
      rw [icells_snoc]
      obtain ⟨e, hgen7⟩ : ∃ q_, Itm.mk zk 4 (k : Int) 0 = q_ := ⟨_, rfl⟩
      rw [hgen7] at hsn ⊢
      refine hK (n - 1) (k + 1, es2 ++ [e], .slice (some ⟨g323, 0, none⟩) (es2.length + 1) cp323, [⟨g323, 98, 4, cp323, icells (es2 ++ [e])⟩]) _ _ (by omega) ⟨by simp only; omega, by simp only; rw [List.length_append, List.length_singleton]; exact .some hc323 (by rw [icells_len, List.length_append, List.length_singleton]), by simp only; rw [List.length_append, List.length_singleton]; omega, hsn, fun h => by rw [hc65.2] at h; cases h⟩ ⟨rfl, trivial⟩ rfl (fun w h => ?_)
      exact h.pick2 (xs := [lB b26 [.slice (some ⟨b34, 0, none⟩) 384 384, ev, .slice (some ⟨g323, 0, none⟩) (es2.length + 1) cp323], cB b34 384 cs, fB fb f, lB b4 lz, ⟨g323, 98, 4, cp323, icells (es2 ++ [e])⟩]) (R' := E) ss_ sl_
    · skip
      try simp only [nrm_] at hc65
      refine c_exit ?_
      repeat with_reducible refine q_te ?_
      refine q_exit ?_
      refine q_then ?_
      refine c_seq ?_
      have hfin : m.items = es2 := by
        rw [hitems, hes2]
        cases ho2 : o.isSome with
        | true =>
          rw [ho2] at hc65
          obtain rfl : k = 3 := by
            rcases hc65 with h | h
            · omega
            · cases h
          rfl
        | false =>
          obtain rfl := hsh2 ho2
          rfl
      refine c_reg ?_
      refine s_y (ya_ many138) rfl rfl ?_
      refine s_s (S_storeA (vs := [.slice (some ⟨b34, 0, none⟩) 384 384, ev, v2]) rfl rfl sz138 (by rfl) (by simp only [List.all_cons, List.all_nil, hE.one, hB2.one]; rfl) up_ (by rfl)) rfl ?_
      refine s_nil ?_
      refine q_then ?_
      refine c_ret ?_
      refine q_ret1c rfl rfl many138 mm_ (by rfl) (L' := cB b34 384 cs :: (B2 ++ E)) sl_ (⟨b34, ev, E, v2, B2, rfl, hE, by rw [hfin]; exact hB2, by rw [hmcs]⟩)
set_option maxRecDepth 100000 in
set_option maxHeartbeats 6400000 in
theorem make_t1 {seed floor : Int} {m : Lvl} {cs : List UInt8} {f : List Int} {o : Option Nat} {b4 b34 fb : Nat} (hfl : 1 ≤ floor ∧ floor ≤ 3) (hcl0 : cs.length = 384) (hdl : f.length = 384) (hmcs : m.cells = cs) (hents : m.ents = foesM seed floor cs f (floor + 2).toNat 0 (List.replicate 384 false) []) (hitems : m.items = waresM seed floor cs f 4 0 (List.replicate 384 false) [] ++ (if o.isSome then shelfM seed floor 3 else [])) (j : Nat → Value) :
    wpC Tryz.prog W [] (tailOf Tryz.f75 45) (PostOf Tryz.prog Tryz.f75 W [] (LvlP m)) [(0, iv seed), (1, iv floor), (4, .pointer (some ⟨b4, 0, none⟩)), (5, .slice (some ⟨b34, 0, none⟩) 384 384), (21, .slice (some ⟨fb, 0, none⟩) 384 384), (24, .bool o.isSome)] ((List.range 326).map j) [cB b34 384 cs, fB fb f, lB b4 lz] := by
  have hrep : List.replicate 384 (Value.bool false) = (List.replicate 384 false).map Value.bool := by rw [List.map_replicate]
  have hu0 : (List.replicate 384 false).length = 384 := List.length_replicate
  obtain ⟨u0, hu⟩ : ∃ q_, List.replicate 384 false = q_ := ⟨_, rfl⟩
  rw [hu] at hents hrep hu0
  obtain ⟨fo, hfo0⟩ : ∃ q_, foesM seed floor cs f (floor + 2).toNat 0 u0 [] = q_ := ⟨_, rfl⟩
  rw [hfo0] at hents
  refine c_seq ?_
  refine c_reg ?_
  refine s_y (Y_mv) rfl rfl ?_
  refine s_y (Y_build (cs := [_, .slice none 0 0, .slice none 0 0]) (by repeat (first | exact Gp.nil | apply Gp.const | apply Gp.tmp gt_)) (bld138 _ _ (by first | rfl | (simp; rfl)))) rfl rfl ?_
  refine s_n (N_alloc (z := .agg #[.slice none 0 0, .slice none 0 0, .slice none 0 0]) (cs := [.slice none 0 0, .slice none 0 0, .slice none 0 0]) zv138 rfl) rfl rfl (fun b26 _ => ?_)
  refine s_s ((sa_ sz138)) rfl ?_
  refine s_nil ?_
  refine q_then ?_
  refine c_seq ?_
  refine c_reg ?_
  refine s_n (N_make1 (n := 384) rfl rfl Tryz.underlying181 inf4 rfl rfl (by omega) (by omega)) rfl rfl (fun b229 _ => ?_)
  refine s_y (Y_as) rfl rfl ?_
  refine s_nil ?_
  refine QL.pick (L' := [lB b26 [.slice (some ⟨b34, 0, none⟩) 384 384, .slice none 0 0, .slice none 0 0], ⟨b229, 4, 1, 384, List.replicate 384 (.bool false)⟩, cB b34 384 cs, fB fb f, lB b4 lz]) ss_ ?_
  rw [hrep]
  refine q_then ?_
  refine c_seq ?_
  refine c_meetQ (ks := [28, 29, 30, 230, 231, 232, 233, 234, 235, 236, 237, 238, 239, 240, 241, 242, 243, 244, 245, 246, 247, 248, 249, 250, 251, 252, 253, 254, 255, 256, 257, 258, 259, 260, 261, 262, 263, 264, 265, 266, 267, 268, 269, 270]) (tr := fun _ : Value × List Bk => []) (φ := fun y => Row 93 11 y.1 fo.length (ecells fo) y.2) (G := fun y => lB b26 [.slice (some ⟨b34, 0, none⟩) 384 384, y.1, .slice none 0 0] :: cB b34 384 cs :: fB fb f :: lB b4 lz :: y.2) (fun _ => rfl) ?_ ?_
  · rintro ⟨ev, E⟩ jE hE
    refine q_then ?_
    refine QL.forget (tr := [(0, _), (1, _), (4, _), (5, _), (21, _), (24, _), (26, _)]) 326 (by kernel_rfl) (by repeat (first | exact Gts.nil | apply Gts.cons gt_)) (fun jj => ?_)
    exact make_t2 hfl hcl0 hdl hmcs (by rw [hents]; exact hE) hitems jj
  · intro go
    refine c_seq ?_
    refine c_reg ?_
    refine s_y (Y_asC) rfl rfl ?_
    refine s_nil ?_
    refine q_then ?_
    refine c_block ?_
    refine c_loop [28, 29, 30, 230, 231, 232, 233, 234, 235, 236, 237, 238, 239, 240, 241, 242, 243, 244, 245, 246, 247, 248, 249, 250, 251, 252, 253, 254, 255, 256, 257, 258, 259, 260, 261, 262, 263, 264, 265, 266, 267, 268, 269, 270] (fun n (y : Nat × List Bool × List Ent × Value × List Bk) => (y.1 : Int) + n = floor + 2 ∧ y.2.1.length = 384 ∧ Row 93 11 y.2.2.2.1 y.2.2.1.length (ecells y.2.2.1) y.2.2.2.2 ∧ y.2.2.1.length ≤ y.1 ∧ foesM seed floor cs f n y.1 y.2.1 y.2.2.1 = fo) (fun y => [(28, iv y.1)]) (fun y => lB b26 [.slice (some ⟨b34, 0, none⟩) 384 384, y.2.2.2.1, .slice none 0 0] :: uB b229 y.2.1 :: cB b34 384 cs :: fB fb f :: lB b4 lz :: y.2.2.2.2) ((floor + 2).toNat) ((0, u0, [], .slice none 0 0, [])) (⟨by simp only; omega, hu0, .nil, Nat.le_refl _, hfo0⟩) (by repeat (first | exact trivial | refine ⟨rfl, ?_⟩)) (fun _ h => h.sub sl_) (fun _ => rfl) ?_
    rintro n ⟨k, used, es, v, B⟩ j ⟨hk, hul, hB, hel, hfo⟩ K hK
    simp only at hk hul hB hel hfo ⊢
    refine c_seq ?_
    refine c_seq ?_
    refine c_reg ?_
    refine s_y (Y_mv) rfl rfl ?_
    refine s_y (Y_mv) rfl rfl ?_
    refine s_y ad_ rfl rfl ?_
    refine s_y (Y_leq rfl rfl) rfl rfl ?_
    refine s_nil ?_
    refine q_then ?_
    first | refine c_cond' rfl (fun hc48 => ?_) (fun hc48 => ?_) | refine c_cond rfl (fun hc48 => ?_) (fun hc48 => ?_)
    · skip
      try simp only [nrm_] at hc48
      refine c_skip ?_
      refine q_then ?_
      refine c_seq ?_
      refine c_block ?_
      refine c_seq ?_
      refine c_reg ?_
      refine s_y (Y_mv) rfl rfl ?_
      refine s_y (Y_mv) rfl rfl ?_
      refine s_y (Y_mv) rfl rfl ?_
      refine s_y (Y_mv) rfl rfl ?_
      refine s_y (Y_mv) rfl rfl ?_
      refine s_y (Y_mv) rfl rfl ?_
      refine s_y ad_ rfl rfl ?_
      refine s_c (En_call (fun _ => rfl) Tryz.func122 rfl (by kernel_rfl) rfl) (fun w hH => rpick_d ((hH.at' (x := cB b34 384 cs) mm_).sl (by rw [List.length_map]; omega) (Nat.le_refl _)) ((hH.at' (x := fB fb f) mm_).sl (by rw [List.length_map]; omega) (Nat.le_refl _)) ((hH.at' (x := uB b229 used) mm_).sl (by rw [List.length_map]; omega) (Nat.le_refl _))) rfl rfl ?_
      rintro _ _ ⟨rfl, rfl⟩
      refine s_y (Y_as) rfl rfl ?_
      refine s_nil ?_
      refine q_then ?_
      refine c_seq ?_
      refine c_seq ?_
      refine c_reg ?_
      refine s_y (Y_mv) rfl rfl ?_
      refine s_y (Y_lss rfl rfl) rfl rfl ?_
      refine s_nil ?_
      refine q_then ?_
      first | refine c_cond' rfl (fun hc51 => ?_) (fun hc51 => ?_) | refine c_cond rfl (fun hc51 => ?_) (fun hc51 => ?_)
      · skip
        try simp only [nrm_] at hc51
        refine c_exit ?_
        repeat with_reducible refine q_te ?_
        refine q_past rfl ?_
        repeat with_reducible refine q_te ?_
        refine q_exit ?_
        obtain ⟨q, rfl⟩ : ∃ q, n = q + 1 := ⟨n - 1, by omega⟩
        rw [foesM] at hfo
        simp only [if_pos hc51] at hfo
        obtain rfl : es = fo := hfo
        exact go (v, B) _ _ hB trivial rfl (fun w h => h.sub sl_)
      · skip
        try simp only [nrm_] at hc51
        refine c_skip ?_
        refine q_then ?_
        refine c_seq ?_
        obtain ⟨z, hz, hzl, hzc, hzf, hzu⟩ := pick_nat hc51
        obtain ⟨q, rfl⟩ : ∃ q, n = q + 1 := ⟨n - 1, by omega⟩
        rw [foesM] at hfo
        simp only [if_neg hc51] at hfo
        rw [hz, Int.toNat_natCast] at hfo
        rw [hz]
        have hg := gd_rng (n := min (floor + 1) 3) (by omega) seed floor (16 + k) 1
        obtain ⟨zx, hzx⟩ : ∃ x : Int, (z : Int) % 24 = x := ⟨_, rfl⟩
        obtain ⟨zy, hzy⟩ : ∃ x : Int, (z : Int) / 24 = x := ⟨_, rfl⟩
        rw [hzx, hzy] at hfo
        refine c_reg ?_
        refine s_y (Y_mv) rfl rfl ?_
        refine s_y (Y_mv) rfl rfl ?_
        refine s_y (Y_ia1 (n := z) rfl rfl Tryz.underlying181 sz4 rfl (by omega)) rfl rfl ?_
        refine s_s (S_stC (cs' := (used.set z true).map Value.bool) rfl sz4 (by rfl) up_ (by rw [Nat.zero_add]; exact bool_set used z true) (by rw [List.length_map]; omega)) rfl ?_
        refine s_nil ?_
        refine q_then ?_
        refine c_seq ?_
        refine c_reg ?_
        refine s_y (Y_mv) rfl rfl ?_
        refine s_y (Y_mv) rfl rfl ?_
        refine s_y (Y_mv) rfl rfl ?_
        refine s_y ad_ rfl rfl ?_
        refine s_y (Y_mv) rfl rfl ?_
        refine s_y ad_ rfl rfl ?_
        refine s_y (Y_min rfl rfl) rfl rfl ?_
        refine s_c (En_call (fun _ => rfl) Tryz.func118 rfl (by kernel_rfl) rfl) (fun w hH => rd_d (by omega)) rfl rfl ?_
        rintro _ _ ⟨rfl, rfl⟩
        refine s_y ad_ rfl rfl ?_
        refine s_c (En_call (fun _ => rfl) Tryz.func86 rfl (by kernel_rfl) rfl) (fun w hH => rstats_d) rfl rfl ?_
        rintro _ _ ⟨rfl, rfl⟩
        obtain ⟨st, hgen10⟩ : ∃ q_, statsM (2 + gd seed floor (16 + k) 1 (min (floor + 1) 3)) = q_ := ⟨_, rfl⟩
        rw [hgen10] at hfo ⊢
        refine s_n (N_alloc (z := .agg #[.int .i64 0, .int .i64 0, .int .i64 0, .int .i64 0, .int .i64 0, .int .i64 0, .int .i64 0, .int .i64 0, .int .i64 0, .int .i64 0, .int .i64 0]) (cs := [.int .i64 0, .int .i64 0, .int .i64 0, .int .i64 0, .int .i64 0, .int .i64 0, .int .i64 0, .int .i64 0, .int .i64 0, .int .i64 0, .int .i64 0]) zv93 rfl) rfl rfl (fun b30 _ => ?_)
        refine s_s (S_storeA (vs := st.cells) rfl rfl sz93 (by rfl) (by rfl) up_ (by rfl)) rfl ?_
        refine s_nil ?_
        refine q_then ?_
        refine c_seq ?_
        refine c_reg ?_
        refine s_y (Y_mv) rfl rfl ?_
        refine s_y ((Y_rem rfl rfl (by omega)).num hzx) rfl rfl ?_
        refine s_y (Y_mv) rfl rfl ?_
        refine s_y ((Y_quo rfl rfl (by omega)).num hzy) rfl rfl ?_
        refine s_y (Y_fa 3 rfl Tryz.underlying93 rfl sz3 rfl) rfl rfl ?_
        refine s_s (S_st (cs' := ({ st with x := zx } : Ent).cells) rfl gt_ sz3 (by rfl) up_ (by rfl) (by rw [Ent.len]; decide)) rfl ?_
        refine s_y (Y_fa 4 rfl Tryz.underlying93 rfl sz3 rfl) rfl rfl ?_
        refine s_s (S_st (cs' := ({ st with x := zx, y := zy } : Ent).cells) rfl gt_ sz3 (by rfl) up_ (by rfl) (by rw [Ent.len]; decide)) rfl ?_
        obtain ⟨e, hgen11⟩ : ∃ q_, ({ st with x := zx, y := zy } : Ent) = q_ := ⟨_, rfl⟩
        rw [hgen11] at hfo ⊢
        refine s_nil ?_
        refine q_then ?_
        refine c_reg ?_
        refine s_y (Y_fa 1 rfl Tryz.underlying138 rfl sz30 rfl) rfl rfl ?_
        refine s_y (yl_ one30) rfl rfl ?_
        refine s_y (Y_loadAll rfl many93 mm_ (by rfl)) rfl rfl ?_
        refine s_n (N_bsA (cs := e.cells) gt_ Tryz.underlying30 inf93 rfl rfl (by omega) (by omega)) rfl rfl (fun b268 _ => ?_)
        refine s_n (N_appR (bytes := 88) hB (List.perm_append_comm (l₁ := B) (l₂ := [_, _, _, _, _, _, _])) rfl rfl Tryz.underlying30 inf93 rfl (by omega) (src (news := e.cells) mm_) (by rfl) (one_e1 e) (by omega) (by omega) (by omega)) rfl rfl (fun ⟨g269, cp269⟩ hc269 => ?_)
        refine s_y (Y_fa 1 rfl Tryz.underlying138 rfl sz30 rfl) rfl rfl ?_
        refine s_s (S_st rfl gt_ sz30 (by rfl) up_ (by first | (simp only [Nat.zero_add, Nat.reduceAdd, List.set_cons_succ, List.set_cons_zero]; rfl) | rfl) (by first | (simp; done) | omega)) rfl ?_
        refine s_nil ?_
        refine q_bn ?_
        refine q_then ?_
        refine c_reg ?_
        refine s_y (Y_mv) rfl rfl ?_
        refine s_y ad_ rfl rfl ?_
        refine s_y (Y_as) rfl rfl ?_
        refine s_nil ?_
        refine hK q (k + 1, used.set z true, es ++ [e], .slice (some ⟨g269, 0, none⟩) (es.length + 1) cp269, [⟨g269, 93, 11, cp269, ecells (es ++ [e])⟩]) _ _ (by omega) ⟨by simp only; omega, by simp only [List.length_set]; exact hul, by simp only; rw [List.length_append, List.length_singleton]; exact .some hc269 (by rw [ecells_len, List.length_append, List.length_singleton]), by simp only; rw [List.length_append, List.length_singleton]; omega, hfo⟩ ⟨rfl, trivial⟩ rfl (fun w h => ?_)
        rw [ecells_snoc] at h
        exact h.pick ss_
    · skip
      try simp only [nrm_] at hc48
      refine c_exit ?_
      repeat with_reducible refine q_te ?_
      refine q_exit ?_
      obtain rfl : n = 0 := by omega
      obtain rfl : es = fo := by rw [← hfo, foesM]
      exact go (v, B) _ _ hB trivial rfl (fun w h => h.sub sl_)
end
end Go.Proofs.YtcogbkkdccohfaaGreat
namespace Go.Proofs.YtcogbkkdccohfaaGreat
open Go.RowKit Go.Ad Go.Maps
set_option linter.unusedVariables false
set_option linter.unusedSimpArgs false
section
variable {W : World}
set_option maxRecDepth 100000 in
set_option maxHeartbeats 6400000 in
theorem rmake_d {seed floor : Int} (hfl : 1 ≤ floor ∧ floor ≤ 3) : Does Tryz.prog 75 [iv seed, iv floor] W [] (LvlP (makeM seed floor)) := by
  have hmid := mid_rng seed floor
  refine enter Tryz.func75 rfl rfl rfl (Has.start _) ?_
  refine c_seq ?_
  refine c_reg ?_
  refine s_n (N_alloc (z := .agg #[.slice none 0 0, .slice none 0 0, .slice none 0 0]) (cs := [.slice none 0 0, .slice none 0 0, .slice none 0 0]) zv138 rfl) rfl rfl (fun b4 _ => ?_)
  refine s_nil ?_
  refine q_then ?_
  refine c_seq ?_
  refine c_reg ?_
  refine s_n (N_make1 (n := 384) rfl rfl Tryz.underlying24 inf5 rfl rfl (by omega) (by omega)) rfl rfl (fun b34 _ => ?_)
  refine s_y (Y_as) rfl rfl ?_
  refine s_nil ?_
  refine q_then ?_
  refine c_seq ?_
  refine c_reg ?_
  refine s_n (N_alloc (z := .agg #[.int .i64 0, .int .i64 0, .int .i64 0, .int .i64 0, .int .i64 0, .int .i64 0]) (cs := [.int .i64 0, .int .i64 0, .int .i64 0, .int .i64 0, .int .i64 0, .int .i64 0]) zv177 rfl) rfl rfl (fun b6 _ => ?_)
  refine s_n (N_alloc (z := .agg #[.int .i64 0, .int .i64 0, .int .i64 0, .int .i64 0, .int .i64 0, .int .i64 0]) (cs := [.int .i64 0, .int .i64 0, .int .i64 0, .int .i64 0, .int .i64 0, .int .i64 0]) zv177 rfl) rfl rfl (fun b7 _ => ?_)
  refine s_nil ?_
  refine q_then ?_
  refine c_seq ?_
  refine c_seq ?_
  refine c_reg ?_
  refine s_y (Y_asC) rfl rfl ?_
  refine s_nil ?_
  refine q_then ?_
  refine c_block ?_
  refine c_loop [8, 9, 10, 11, 12, 13, 14, 35, 36, 37, 38, 39, 40, 41, 42, 43, 44, 45, 46, 47, 48, 49, 50, 51, 52, 53, 54, 55, 56, 57, 58, 59, 60, 61, 62, 63, 64, 65, 66, 67, 68, 69, 70, 71, 72, 73, 74, 75, 76, 77, 78, 79, 80, 81, 82, 83, 84, 85, 86, 87, 88, 89, 90, 91, 92, 93, 94, 95, 96] (fun m i => i + m = 6) (fun i => [(8, iv i)]) (fun i => [cB b34 384 (digRooms seed floor i), aB b6 (fun k => midX seed floor k) i, aB b7 (fun k => midY seed floor k) i, lB b4 lz]) (6) (0) (by omega) (by repeat (first | exact trivial | refine ⟨rfl, ?_⟩)) (fun w h => mk0 h) (fun _ => rfl) ?_
  rintro m i j hi K hK
  refine c_seq ?_
  refine c_seq ?_
  refine c_reg ?_
  refine s_y (Y_mv) rfl rfl ?_
  refine s_y (Y_lss rfl rfl) rfl rfl ?_
  refine s_nil ?_
  refine q_then ?_
  first | refine c_cond' rfl (fun hc4 => ?_) (fun hc4 => ?_) | refine c_cond rfl (fun hc4 => ?_) (fun hc4 => ?_)
  · skip
    try simp only [nrm_] at hc4
    refine c_skip ?_
    refine q_then ?_
    refine c_seq ?_
    refine c_block ?_
    refine c_seq ?_
    have hr := room_rng seed floor i
    have hg1 := gd_rng (n := 5) (by omega) seed floor i 0
    have hg2 := gd_rng (n := 4) (by omega) seed floor i 1
    have hg3 := gd_rng (n := 23 - roomW seed floor i) (by omega) seed floor i 2
    have hg4 := gd_rng (n := 15 - roomH seed floor i) (by omega) seed floor i 3
    obtain ⟨k0, rwd, rh, hk0, hrw, hrh⟩ := room_nat seed floor i
    refine c_reg ?_
    refine s_y (Y_mv) rfl rfl ?_
    refine s_y (Y_mv) rfl rfl ?_
    refine s_y (Y_mv) rfl rfl ?_
    refine s_c (En_call (fun _ => rfl) Tryz.func118 rfl (by kernel_rfl) rfl) (fun w hH => rd_d (by omega)) rfl rfl ?_
    rintro _ _ ⟨rfl, rfl⟩
    refine s_y ((Y_add rfl rfl (by omega)).num (show _ = roomW seed floor i from rfl)) rfl rfl ?_
    refine s_y (Y_mv) rfl rfl ?_
    refine s_y (Y_mv) rfl rfl ?_
    refine s_y (Y_mv) rfl rfl ?_
    refine s_c (En_call (fun _ => rfl) Tryz.func118 rfl (by kernel_rfl) rfl) (fun w hH => rd_d (by omega)) rfl rfl ?_
    rintro _ _ ⟨rfl, rfl⟩
    refine s_y ((Y_add rfl rfl (by omega)).num (show _ = roomH seed floor i from rfl)) rfl rfl ?_
    refine s_y (Y_as) rfl rfl ?_
    refine s_y (Y_as) rfl rfl ?_
    refine s_nil ?_
    refine q_then ?_
    refine c_seq ?_
    refine c_reg ?_
    refine s_y (Y_mv) rfl rfl ?_
    refine s_y (Y_mv) rfl rfl ?_
    refine s_y (Y_mv) rfl rfl ?_
    refine s_y (Y_mv) rfl rfl ?_
    refine s_y su_ rfl rfl ?_
    refine s_c (En_call (fun _ => rfl) Tryz.func118 rfl (by kernel_rfl) rfl) (fun w hH => rd_d (by omega)) rfl rfl ?_
    rintro _ _ ⟨rfl, rfl⟩
    refine s_y ((Y_add rfl rfl (by omega)).num (show _ = roomX seed floor i from rfl)) rfl rfl ?_
    refine s_y (Y_mv) rfl rfl ?_
    refine s_y (Y_mv) rfl rfl ?_
    refine s_y (Y_mv) rfl rfl ?_
    refine s_y (Y_mv) rfl rfl ?_
    refine s_y su_ rfl rfl ?_
    refine s_c (En_call (fun _ => rfl) Tryz.func118 rfl (by kernel_rfl) rfl) (fun w hH => rd_d (by omega)) rfl rfl ?_
    rintro _ _ ⟨rfl, rfl⟩
    refine s_y ((Y_add rfl rfl (by omega)).num (show _ = roomY seed floor i from rfl)) rfl rfl ?_
    refine s_y (Y_as) rfl rfl ?_
    refine s_y (Y_as) rfl rfl ?_
    refine s_nil ?_
    refine q_then ?_
    refine c_seq ?_
    refine c_seq ?_
    refine c_reg ?_
    refine s_y (Y_mv) rfl rfl ?_
    refine s_y (Y_as) rfl rfl ?_
    refine s_nil ?_
    refine q_then ?_
    refine c_block ?_
    refine c_loop [13, 14, 64, 65, 66, 67, 68, 69, 70, 71, 72, 73, 74, 75, 76, 77, 78, 79, 80, 81, 82, 83, 84] (fun m2 (y : Nat × Int × List UInt8) => y.1 + m2 = rh ∧ y.2.1 = roomY seed floor i + y.1 ∧ y.2.2.length = 384 ∧ fillRect y.2.2 (k0 + 24 * y.1) rwd m2 = digRooms seed floor (i + 1)) (fun y => [(13, iv y.2.1)]) (fun y => [cB b34 384 y.2.2, aB b6 (fun k => midX seed floor k) i, aB b7 (fun k => midY seed floor k) i, lB b4 lz]) (rh) ((0, roomY seed floor i, digRooms seed floor i)) (⟨by omega, by simp, digRooms_len _ _ _, dig_start hk0 hrw hrh⟩) (by repeat (first | exact trivial | refine ⟨rfl, ?_⟩)) (fun _ h => h.sub sl_) (fun _ => rfl) ?_
    rintro m2 ⟨t, bb, cl⟩ j2 ⟨ht, hbb, hcl, hfill⟩ K2 hK2
    simp only at ht hbb hcl hfill ⊢
    refine c_seq ?_
    refine c_seq ?_
    refine c_reg ?_
    refine s_y (Y_mv) rfl rfl ?_
    refine s_y (Y_mv) rfl rfl ?_
    refine s_y (Y_mv) rfl rfl ?_
    refine s_y ad_ rfl rfl ?_
    refine s_y (Y_lss rfl rfl) rfl rfl ?_
    refine s_nil ?_
    refine q_then ?_
    first | refine c_cond' rfl (fun hc9 => ?_) (fun hc9 => ?_) | refine c_cond rfl (fun hc9 => ?_) (fun hc9 => ?_)
    · skip
      try simp only [nrm_] at hc9
      refine c_skip ?_
      refine q_then ?_
      refine c_seq ?_
      refine c_block ?_
      refine c_seq ?_
      refine c_reg ?_
      refine s_y (Y_mv) rfl rfl ?_
      refine s_y (Y_as) rfl rfl ?_
      refine s_nil ?_
      refine q_then ?_
      refine c_block ?_
      refine c_loop [14, 72, 73, 74, 75, 76, 77, 78, 79, 80, 81, 82, 83, 84] (fun m3 (y : Nat × Int × List UInt8) => y.1 + m3 = rwd ∧ y.2.1 = roomX seed floor i + y.1 ∧ y.2.2.length = 384 ∧ fillRow y.2.2 (k0 + 24 * t + y.1) m3 = fillRow cl (k0 + 24 * t) rwd) (fun y => [(14, iv y.2.1)]) (fun y => [cB b34 384 y.2.2, aB b6 (fun k => midX seed floor k) i, aB b7 (fun k => midY seed floor k) i, lB b4 lz]) (rwd) ((0, roomX seed floor i, cl)) (⟨by omega, by simp, hcl, rfl⟩) (by repeat (first | exact trivial | refine ⟨rfl, ?_⟩)) (fun _ h => h.sub sl_) (fun _ => rfl) ?_
      rintro m3 ⟨u, aa, cm⟩ j3 ⟨hu, haa, hcm, hrow⟩ K2 hK3
      simp only at hu haa hcm hrow ⊢
      refine c_seq ?_
      refine c_seq ?_
      refine c_reg ?_
      refine s_y (Y_mv) rfl rfl ?_
      refine s_y (Y_mv) rfl rfl ?_
      refine s_y (Y_mv) rfl rfl ?_
      refine s_y ad_ rfl rfl ?_
      refine s_y (Y_lss rfl rfl) rfl rfl ?_
      refine s_nil ?_
      refine q_then ?_
      first | refine c_cond' rfl (fun hc12 => ?_) (fun hc12 => ?_) | refine c_cond rfl (fun hc12 => ?_) (fun hc12 => ?_)
      · skip
        try simp only [nrm_] at hc12
        refine c_skip ?_
        refine q_then ?_
        refine c_seq ?_
        refine c_block ?_
        refine c_reg ?_
        refine s_y (Y_mv) rfl rfl ?_
        refine s_y (Y_mv) rfl rfl ?_
        refine s_y (Y_mul rfl rfl (by omega)) rfl rfl ?_
        refine s_y (Y_mv) rfl rfl ?_
        refine s_y ((Y_add rfl rfl (by omega)).num (show bb * 24 + aa = ((k0 + 24 * t + u : Nat) : Int) by omega)) rfl rfl ?_
        refine s_y (Y_ia1 rfl rfl Tryz.underlying24 sz5 rfl (by omega)) rfl rfl ?_
        refine s_s (S_stC (cs' := (cm.set (k0 + 24 * t + u) 1).map bv) rfl sz5 (by rfl) up_ (by rw [Nat.zero_add]; exact bv_set cm _ 1) (by rw [List.length_map]; omega)) rfl ?_
        refine s_nil ?_
        refine q_bn ?_
        refine q_then ?_
        refine c_reg ?_
        refine s_y (Y_mv) rfl rfl ?_
        refine s_y ad_ rfl rfl ?_
        refine s_y (Y_as) rfl rfl ?_
        refine s_nil ?_
        obtain ⟨q, rfl⟩ : ∃ q, m3 = q + 1 := ⟨m3 - 1, by omega⟩
        rw [fillRow] at hrow
        refine hK3 q (u + 1, aa + 1, cm.set (k0 + 24 * t + u) 1) _ _ (by omega) ⟨by simp only; omega, by simp only; omega, by simp only [List.length_set]; exact hcm, hrow⟩ ⟨rfl, trivial⟩ rfl (fun _ h => h)
      · skip
        try simp only [nrm_] at hc12
        refine c_exit ?_
        repeat with_reducible refine q_te ?_
        refine q_exit ?_
        refine q_bn ?_
        refine q_then ?_
        refine c_reg ?_
        refine s_y (Y_mv) rfl rfl ?_
        refine s_y ad_ rfl rfl ?_
        refine s_y (Y_as) rfl rfl ?_
        refine s_nil ?_
        obtain ⟨q, rfl⟩ : ∃ q, m2 = q + 1 := ⟨m2 - 1, by omega⟩
        obtain rfl : m3 = 0 := by omega
        rw [fillRect, ← hrow, fillRow] at hfill
        refine hK2 q (t + 1, bb + 1, cm) _ _ (by omega) ⟨by simp only; omega, by simp only; omega, hcm, by simp only; rw [show k0 + 24 * (t + 1) = k0 + 24 * t + 24 by omega]; exact hfill⟩ ⟨rfl, trivial⟩ rfl (fun _ h => h)
    · skip
      try simp only [nrm_] at hc9
      refine c_exit ?_
      repeat with_reducible refine q_te ?_
      refine q_exit ?_
      refine q_then ?_
      obtain rfl : m2 = 0 := by omega
      rw [fillRect] at hfill
      subst hfill
      refine c_reg ?_
      refine s_y (Y_mv) rfl rfl ?_
      refine s_y (Y_mv) rfl rfl ?_
      refine s_y (Y_mv) rfl rfl ?_
      refine s_y (Y_mv) rfl rfl ?_
      refine s_y ((by first | exact Y_quo rfl rfl (by omega) | exact Y_quow rfl rfl (by omega))) rfl rfl ?_
      refine s_y ((Y_add rfl rfl (by omega)).num (show _ = midX seed floor i from rfl)) rfl rfl ?_
      refine s_y (Y_mv) rfl rfl ?_
      refine s_y (Y_mv) rfl rfl ?_
      refine s_y ((by first | exact Y_quo rfl rfl (by omega) | exact Y_quow rfl rfl (by omega))) rfl rfl ?_
      refine s_y ((Y_add rfl rfl (by omega)).num (show _ = midY seed floor i from rfl)) rfl rfl ?_
      refine s_y (Y_iaA rfl rfl Tryz.underlying177 sz3 rfl (by omega)) rfl rfl ?_
      refine s_s (S_st (cs' := arrM (fun k => midX seed floor k) (i + 1)) rfl gt_ sz3 (by rfl) up_ (arr_set (fun k => midX seed floor k) (by omega)) (by show 0 + i * 1 < 6; omega)) rfl ?_
      refine s_y (Y_iaA rfl rfl Tryz.underlying177 sz3 rfl (by omega)) rfl rfl ?_
      refine s_s (S_st (cs' := arrM (fun k => midY seed floor k) (i + 1)) rfl gt_ sz3 (by rfl) up_ (arr_set (fun k => midY seed floor k) (by omega)) (by show 0 + i * 1 < 6; omega)) rfl ?_
      refine s_nil ?_
      refine q_bn ?_
      refine q_then ?_
      refine c_reg ?_
      refine s_y (Y_mv) rfl rfl ?_
      refine s_y ad_ rfl rfl ?_
      refine s_y (Y_as) rfl rfl ?_
      refine s_nil ?_
      refine hK (m - 1) (i + 1) _ _ (by omega) (by omega) ⟨rfl, trivial⟩ rfl (fun _ h => h)
  · skip
    try simp only [nrm_] at hc4
    refine c_exit ?_
    repeat with_reducible refine q_te ?_
    refine q_exit ?_
    refine q_then ?_
    refine c_seq ?_
    refine c_seq ?_
    refine QL.forget (tr := [(0, _), (1, _), (4, _), (5, _), (6, _), (7, _)]) 326 (by kernel_rfl) (by repeat (first | exact Gts.nil | apply Gts.cons gt_)) (fun jj => ?_)
    obtain rfl : i = 6 := by omega
    refine c_reg ?_
    refine s_y (Y_asC) rfl rfl ?_
    refine s_nil ?_
    refine q_then ?_
    refine c_block ?_
    refine c_loop [15, 16, 17, 18, 19, 97, 98, 99, 100, 101, 102, 103, 104, 105, 106, 107, 108, 109, 110, 111, 112, 113, 114, 115, 116, 117, 118, 119, 120, 121, 122, 123, 124, 125, 126, 127, 128, 129, 130, 131, 132, 133, 134, 135, 136, 137, 138, 139, 140, 141, 142, 143, 144, 145, 146, 147, 148, 149, 150, 151, 152, 153, 154, 155, 156, 157, 158, 159, 160, 161, 162, 163] (fun m (y : Nat × Int × List UInt8) => y.1 + m = 5 ∧ y.2.1 = ((y.1 + 1 : Nat) : Int) ∧ y.2.2 = corrsM seed floor (digRooms seed floor 6) y.1) (fun y => [(15, iv y.2.1)]) (fun y => [cB b34 384 y.2.2, aB b6 (fun k => midX seed floor k) 6, aB b7 (fun k => midY seed floor k) 6, lB b4 lz]) (5) ((0, 1, digRooms seed floor 6)) (⟨by omega, rfl, rfl⟩) (by repeat (first | exact trivial | refine ⟨rfl, ?_⟩)) (fun _ h => h.sub sl_) (fun _ => rfl) ?_
    rintro m ⟨t, tt, cl⟩ j ⟨ht, htt, hcl⟩ K hK
    simp only at ht htt hcl ⊢
    subst htt
    have hcll : cl.length = 384 := by rw [hcl, corrsM_len, digRooms_len]
    have hm0 := hmid t
    have hm1 := hmid ((t + 1 : Nat) : Int)
    refine c_seq ?_
    refine c_seq ?_
    refine c_reg ?_
    refine s_y (Y_mv) rfl rfl ?_
    refine s_y (Y_lss rfl rfl) rfl rfl ?_
    refine s_nil ?_
    refine q_then ?_
    first | refine c_cond' rfl (fun hc17 => ?_) (fun hc17 => ?_) | refine c_cond rfl (fun hc17 => ?_) (fun hc17 => ?_)
    · skip
      try simp only [nrm_] at hc17
      refine c_skip ?_
      refine q_then ?_
      refine c_seq ?_
      refine c_block ?_
      refine c_seq ?_
      refine c_rord [] [(0, true), (1, true), (2, true), (3, true), (4, true), (5, true), (6, true), (7, true), (8, true), (9, true)] (by kernel_rfl) (by kernel_rfl) (by kernel_rfl) (by kernel_rfl) rfl (by intro c a d v w h; cases d <;> exact h) rfl ?_
      simp only [mkOrd, List.filterMap_cons, List.filterMap_nil, List.getElem?_toArray, List.getElem?_cons_zero, List.getElem?_cons_succ, Option.map_some]
      refine o_y (Y_mv) rfl rfl ?_
      refine o_y su_ rfl rfl ?_
      refine o_y (Y_iaA (n := t) rfl rfl Tryz.underlying177 sz3 (by omega) (by omega)) rfl rfl ?_
      refine o_y (Y_load (v := iv (midX seed floor t)) rfl one3 mm_ (arr_get (fun k => midX seed floor k) (by omega))) rfl rfl ?_
      refine o_y (Y_mv) rfl rfl ?_
      refine o_y su_ rfl rfl ?_
      refine o_y (Y_iaA (n := t) rfl rfl Tryz.underlying177 sz3 (by omega) (by omega)) rfl rfl ?_
      refine o_y (Y_load (v := iv (midY seed floor t)) rfl one3 mm_ (arr_get (fun k => midY seed floor k) (by omega))) rfl rfl ?_
      refine o_y (Y_as) rfl rfl ?_
      refine o_y (Y_as) rfl rfl ?_
      refine o_nil ?_
      refine q_then ?_
      refine c_seq ?_
      refine c_reg ?_
      refine s_y (Y_mv) rfl rfl ?_
      refine s_y (Y_mv) rfl rfl ?_
      refine s_y (Y_mv) rfl rfl ?_
      refine s_cm [cB b34 384 cl] (En_call (fun _ => rfl) Tryz.func119 rfl (by kernel_rfl) rfl) ss_ (fun w hH => rdig_d (door := false) (hH.at' mm_) hcll (Nat.le_refl _) (by omega)) rfl rfl ?_
      rintro _ _ ⟨rfl, rfl⟩
      refine s_y (Y_as) rfl rfl ?_
      refine s_nil ?_
      refine q_then ?_
      refine c_seq ?_
      refine c_reg ?_
      refine s_y (Y_mv) rfl rfl ?_
      refine s_y (Y_mv) rfl rfl ?_
      refine s_y (Y_mv) rfl rfl ?_
      refine s_c (En_call (fun _ => rfl) Tryz.func118 rfl (by kernel_rfl) rfl) (fun w hH => rd_d (by decide)) rfl rfl ?_
      rintro _ _ ⟨rfl, rfl⟩
      refine s_y (Y_eql rfl rfl) rfl rfl ?_
      refine s_y (Y_as) rfl rfl ?_
      refine s_nil ?_
      have hcs := corrs_succ seed floor (digRooms seed floor 6) t
      rw [← hcl] at hcs
      have hgx : (arrM (fun k => midX seed floor k) 6)[0 + (t + 1) * 1]? = some (iv (midX seed floor ((t + 1 : Nat) : Int))) := arr_get (fun k => midX seed floor k) (by omega)
      have hgy : (arrM (fun k => midY seed floor k) 6)[0 + (t + 1) * 1]? = some (iv (midY seed floor ((t + 1 : Nat) : Int))) := arr_get (fun k => midY seed floor k) (by omega)
      obtain ⟨first, hgen1⟩ : ∃ q_, decide (gd seed floor ((t + 1 : Nat) : Int) 4 2 = 0) = q_ := ⟨_, rfl⟩
      rw [hgen1] at hcs ⊢
      obtain ⟨tx, hgen2⟩ : ∃ q_, midX seed floor ((t + 1 : Nat) : Int) = q_ := ⟨_, rfl⟩
      rw [hgen2] at hgx hcs hm1
      obtain ⟨ty, hgen3⟩ : ∃ q_, midY seed floor ((t + 1 : Nat) : Int) = q_ := ⟨_, rfl⟩
      rw [hgen3] at hgy hcs hm1
      refine q_then ?_
      refine c_block ?_
      refine c_loop [16, 17, 18, 118, 119, 120, 121, 122, 123, 124, 125, 126, 127, 128, 129, 130, 131, 132, 133, 134, 135, 136, 137, 138, 139, 140, 141, 142, 143, 144, 145, 146, 147, 148, 149, 150, 151, 152, 153, 154, 155, 156, 157, 158, 159, 160, 161, 162, 163] (fun m2 (y : List UInt8 × Bool × Int × Int) => y.1.length = 384 ∧ (1 ≤ y.2.2.1 ∧ y.2.2.1 ≤ 22 ∧ 1 ≤ y.2.2.2 ∧ y.2.2.2 ≤ 14) ∧ (y.2.2.1 - tx).natAbs + (y.2.2.2 - ty).natAbs < m2 ∧ corrM tx ty first m2 y.1 y.2.1 y.2.2.1 y.2.2.2 = corrsM seed floor (digRooms seed floor 6) (t + 1)) (fun y => [(16, iv y.2.2.1), (17, iv y.2.2.2), (18, .bool y.2.1)]) (fun y => [cB b34 384 y.1, aB b6 (fun k => midX seed floor k) 6, aB b7 (fun k => midY seed floor k) 6, lB b4 lz]) (64) (((digM cl (midX seed floor t) (midY seed floor t) false).1, (digM cl (midX seed floor t) (midY seed floor t) false).2, midX seed floor t, midY seed floor t)) (⟨by rw [digM_len]; exact hcll, hm0, by simp only; omega, hcs.symm⟩) (by repeat (first | exact trivial | refine ⟨rfl, ?_⟩)) (fun _ h => h.sub sl_) (fun _ => rfl) ?_
      rintro m2 ⟨cm, door, x, y⟩ j2 ⟨hcm, hxr, hms, hf⟩ K2 hK2
      simp only at hcm hxr hms hf ⊢
      refine c_seq ?_
      refine c_seq ?_
      refine c_reg ?_
      refine s_y (Y_mv) rfl rfl ?_
      refine s_y (Y_mv) rfl rfl ?_
      refine s_y (Y_iaA rfl rfl Tryz.underlying177 sz3 rfl (by omega)) rfl rfl ?_
      refine s_y (Y_load (v := iv tx) rfl one3 mm_ hgx) rfl rfl ?_
      refine s_y (Y_neq rfl rfl) rfl rfl ?_
      refine s_y (Y_mv) rfl rfl ?_
      apply s_or 6 [123, 124, 125, 126, 127, 128, 129] 129 (g := 123) rfl rfl
      · intro ht6 hm
        try simp only [nrm_] at ht6
        first | refine s_y (Y_mv) rfl rfl ?_ | refine s_pass rfl rfl ?_
        first | refine s_y (Y_mv) rfl rfl ?_ | refine s_pass rfl rfl ?_
        first | refine s_y (Y_iaA rfl rfl Tryz.underlying177 sz3 rfl (by omega)) rfl rfl ?_ | refine s_pass rfl rfl ?_
        first | refine s_y (Y_load (v := iv ty) rfl one3 mm_ hgy) rfl rfl ?_ | refine s_pass rfl rfl ?_
        first | refine s_y (Y_neq rfl rfl) rfl rfl ?_ | refine s_pass rfl rfl ?_
        refine s_y (Y_pk rfl Gx.const (Gx.tmp gt_)) rfl rfl ?_
        first | exact hm _ ⟨rfl, trivial⟩ rfl | exact QL.sub sl_ (hm _ ⟨rfl, trivial⟩ rfl)
      · intro ht6 hm
        iterate 5 refine s_pass rfl rfl ?_
        refine s_y (Y_pk rfl Gx.const (Gx.tmp gt_)) rfl rfl ?_
        exact hm _ ⟨rfl, trivial⟩ rfl
      intro j129
      refine s_nil ?_
      refine q_then ?_
      first | refine c_cond' rfl (fun hc22 => ?_) (fun hc22 => ?_) | refine c_cond rfl (fun hc22 => ?_) (fun hc22 => ?_)
      · skip
        try simp only [nrm_] at hc22
        refine c_skip ?_
        refine q_then ?_
        refine c_block ?_
        refine c_seq ?_
        refine c_seq ?_
        refine c_reg ?_
        refine s_y (Y_mv) rfl rfl ?_
        refine s_y (Y_mv) rfl rfl ?_
        apply s_and 6 [131, 132, 133, 134, 135, 136, 137] 137 (g := 131) rfl rfl
        · intro ht2 hm
          try simp only [nrm_] at ht2
          first | refine s_y (Y_mv) rfl rfl ?_ | refine s_pass rfl rfl ?_
          first | refine s_y (Y_mv) rfl rfl ?_ | refine s_pass rfl rfl ?_
          first | refine s_y (Y_iaA rfl rfl Tryz.underlying177 sz3 rfl (by omega)) rfl rfl ?_ | refine s_pass rfl rfl ?_
          first | refine s_y (Y_load (v := iv tx) rfl one3 mm_ hgx) rfl rfl ?_ | refine s_pass rfl rfl ?_
          first | refine s_y (Y_neq rfl rfl) rfl rfl ?_ | refine s_pass rfl rfl ?_
          refine s_y (Y_pk rfl (Gx.tmp gt_) Gx.const) rfl rfl ?_
          first | exact hm _ ⟨rfl, trivial⟩ rfl | exact QL.sub sl_ (hm _ ⟨rfl, trivial⟩ rfl)
        · intro ht2 hm
          iterate 5 refine s_pass rfl rfl ?_
          refine s_y (Y_pk rfl (Gx.tmp gt_) Gx.const) rfl rfl ?_
          exact hm _ ⟨rfl, trivial⟩ rfl
        intro j137
        refine s_y (Y_mv) rfl rfl ?_
        apply s_or 10 [138, 139, 140, 141, 142, 143, 144, 145, 146, 147, 148] 148 (g := 138) rfl rfl
        · intro ht9 hm
          try simp only [nrm_] at ht9
          first | refine s_y (Y_mv) rfl rfl ?_ | refine s_pass rfl rfl ?_
          first | refine s_y (Y_not rfl) rfl rfl ?_ | refine s_pass rfl rfl ?_
          first | refine s_y (Y_mv) rfl rfl ?_ | refine s_pass rfl rfl ?_
          apply s_and 6 [141, 142, 143, 144, 145, 146, 147] 147 (g := 141) rfl rfl
          · intro ht12 hm
            try simp only [nrm_] at ht12
            first | refine s_y (Y_mv) rfl rfl ?_ | refine s_pass rfl rfl ?_
            first | refine s_y (Y_mv) rfl rfl ?_ | refine s_pass rfl rfl ?_
            first | refine s_y (Y_iaA rfl rfl Tryz.underlying177 sz3 rfl (by omega)) rfl rfl ?_ | refine s_pass rfl rfl ?_
            first | refine s_y (Y_load (v := iv ty) rfl one3 mm_ hgy) rfl rfl ?_ | refine s_pass rfl rfl ?_
            first | refine s_y (Y_eql rfl rfl) rfl rfl ?_ | refine s_pass rfl rfl ?_
            first | refine s_y (Y_pk rfl (Gx.tmp gt_) Gx.const) rfl rfl ?_ | refine s_pass rfl rfl ?_
            first | exact hm _ ⟨rfl, trivial⟩ rfl | exact QL.sub sl_ (hm _ ⟨rfl, trivial⟩ rfl)
          · intro ht12 hm
            iterate 5 refine s_pass rfl rfl ?_
            first | refine s_y (Y_pk rfl (Gx.tmp gt_) Gx.const) rfl rfl ?_ | refine s_pass rfl rfl ?_
            exact hm _ ⟨rfl, trivial⟩ rfl
          intro j147
          refine s_y (Y_pk rfl Gx.const (Gx.tmp gt_)) rfl rfl ?_
          first | exact hm _ ⟨rfl, trivial⟩ rfl | exact QL.sub sl_ (hm _ ⟨rfl, trivial⟩ rfl)
        · intro ht9 hm
          iterate 9 refine s_pass rfl rfl ?_
          refine s_y (Y_pk rfl Gx.const (Gx.tmp gt_)) rfl rfl ?_
          exact hm _ ⟨rfl, trivial⟩ rfl
        intro j148
        refine s_nil ?_
        refine q_then ?_
        first | refine c_cond' rfl (fun hc23 => ?_) (fun hc23 => ?_) | refine c_cond rfl (fun hc23 => ?_) (fun hc23 => ?_)
        · skip
          try simp only [nrm_] at hc23
          refine c_reg ?_
          refine s_y (Y_mv) rfl rfl ?_
          refine s_y (Y_mv) rfl rfl ?_
          refine s_y (Y_iaA rfl rfl Tryz.underlying177 sz3 rfl (by omega)) rfl rfl ?_
          refine s_y (Y_load (v := iv tx) rfl one3 mm_ hgx) rfl rfl ?_
          refine s_c (En_call (fun _ => rfl) Tryz.func120 rfl (by kernel_rfl) rfl) (fun w hH => rtoward_d (by omega)) rfl rfl ?_
          rintro _ _ ⟨rfl, rfl⟩
          refine s_y (Y_as) rfl rfl ?_
          refine s_nil ?_
          refine q_then ?_
          obtain ⟨q, rfl⟩ : ∃ q, m2 = q + 1 := ⟨m2 - 1, by omega⟩
          have htw := toward_rng (show x ≠ tx by rcases hc23 with h | h; exact h.2; omega)
          rw [corr_x (by omega) hc23] at hf
          have hxy : 0 ≤ towardM x tx ∧ towardM x tx < 24 ∧ 0 ≤ y ∧ y < 16 := by omega
          refine c_reg ?_
          refine s_y (Y_mv) rfl rfl ?_
          refine s_y (Y_mv) rfl rfl ?_
          refine s_y (Y_mv) rfl rfl ?_
          refine s_y (Y_mv) rfl rfl ?_
          refine s_cm [cB b34 384 cm] (En_call (fun _ => rfl) Tryz.func119 rfl (by kernel_rfl) rfl) ss_ (fun w hH => rdig_d (hH.at' mm_) hcm (Nat.le_refl _) hxy) rfl rfl ?_
          rintro _ _ ⟨rfl, rfl⟩
          refine s_y (Y_as) rfl rfl ?_
          refine s_nil ?_
          refine q_bn ?_
          refine hK2 q ((digM cm (towardM x tx) y door).1, (digM cm (towardM x tx) y door).2, towardM x tx, y) _ _ (by omega) ⟨by rw [digM_len]; exact hcm, by simp only; omega, by simp only; omega, hf⟩ ⟨rfl, rfl, rfl, trivial⟩ rfl (fun _ h => h)
        · skip
          try simp only [nrm_] at hc23
          refine c_reg ?_
          refine s_y (Y_mv) rfl rfl ?_
          refine s_y (Y_mv) rfl rfl ?_
          refine s_y (Y_iaA rfl rfl Tryz.underlying177 sz3 rfl (by omega)) rfl rfl ?_
          refine s_y (Y_load (v := iv ty) rfl one3 mm_ hgy) rfl rfl ?_
          refine s_c (En_call (fun _ => rfl) Tryz.func120 rfl (by kernel_rfl) rfl) (fun w hH => rtoward_d (by omega)) rfl rfl ?_
          rintro _ _ ⟨rfl, rfl⟩
          refine s_y (Y_as) rfl rfl ?_
          refine s_nil ?_
          refine q_then ?_
          obtain ⟨q, rfl⟩ : ∃ q, m2 = q + 1 := ⟨m2 - 1, by omega⟩
          have hc23' : ¬ ((first = true ∧ x ≠ tx) ∨ (first = false ∧ y = ty)) := by
            rintro (⟨h1, h2⟩ | ⟨h1, h2⟩)
            · rcases hc23 with ⟨h3 | h3, _⟩
              · rw [h1] at h3; cases h3
              · omega
            · rcases hc23 with ⟨_, h3 | h3⟩
              · rw [h1] at h3; cases h3
              · omega
          have hyn : y ≠ ty := by
            cases first with
            | true => rcases hc22 with h | h; exact absurd (.inl ⟨rfl, h⟩) hc23'; exact h
            | false => intro h; exact hc23' (.inr ⟨rfl, h⟩)
          have htw := toward_rng hyn
          rw [corr_y (by omega) hc23'] at hf
          have hxy : 0 ≤ x ∧ x < 24 ∧ 0 ≤ towardM y ty ∧ towardM y ty < 16 := by omega
          refine c_reg ?_
          refine s_y (Y_mv) rfl rfl ?_
          refine s_y (Y_mv) rfl rfl ?_
          refine s_y (Y_mv) rfl rfl ?_
          refine s_y (Y_mv) rfl rfl ?_
          refine s_cm [cB b34 384 cm] (En_call (fun _ => rfl) Tryz.func119 rfl (by kernel_rfl) rfl) ss_ (fun w hH => rdig_d (hH.at' mm_) hcm (Nat.le_refl _) hxy) rfl rfl ?_
          rintro _ _ ⟨rfl, rfl⟩
          refine s_y (Y_as) rfl rfl ?_
          refine s_nil ?_
          refine q_bn ?_
          refine hK2 q ((digM cm x (towardM y ty) door).1, (digM cm x (towardM y ty) door).2, x, towardM y ty) _ _ (by omega) ⟨by rw [digM_len]; exact hcm, by simp only; omega, by simp only; omega, hf⟩ ⟨rfl, rfl, rfl, trivial⟩ rfl (fun _ h => h)
      · skip
        try simp only [nrm_] at hc22
        refine c_exit ?_
        repeat with_reducible refine q_te ?_
        refine q_exit ?_
        refine q_bn ?_
        refine q_then ?_
        refine c_reg ?_
        refine s_y (Y_mv) rfl rfl ?_
        refine s_y ad_ rfl rfl ?_
        refine s_y (Y_as) rfl rfl ?_
        refine s_nil ?_
        rw [corr_end (by omega)] at hf
        refine hK (m - 1) (t + 1, ((t + 2 : Nat) : Int), cm) _ _ (by omega) ⟨by simp only; omega, rfl, hf⟩ ⟨by congr 1, trivial⟩ rfl (fun _ h => h)
    · skip
      try simp only [nrm_] at hc17
      refine c_exit ?_
      repeat with_reducible refine q_te ?_
      refine q_exit ?_
      refine q_then ?_
      refine c_seq ?_
      refine QL.forget (tr := [(0, _), (1, _), (4, _), (5, _), (6, _), (7, _)]) 326 (by kernel_rfl) (by repeat (first | exact Gts.nil | apply Gts.cons gt_)) (fun jj => ?_)
      obtain rfl : t = 5 := by omega
      obtain ⟨hup, hupl⟩ := up_eq seed floor
      have hmz := hmid 0
      have hbl : cl.length = 384 := by rw [hcl, corrsM_len, digRooms_len]
      have hb : cl.set (upM seed floor) 3 = baseM seed floor := by rw [hcl]; rfl
      refine c_reg ?_
      refine s_y (Y_iaA (n := 0) rfl rfl Tryz.underlying177 sz3 rfl (by omega)) rfl rfl ?_
      refine s_y (Y_load (v := iv (midY seed floor 0)) rfl one3 mm_ (arr_get (fun k => midY seed floor k) (by omega))) rfl rfl ?_
      refine s_y mu_ rfl rfl ?_
      refine s_y (Y_iaA (n := 0) rfl rfl Tryz.underlying177 sz3 rfl (by omega)) rfl rfl ?_
      refine s_y (Y_load (v := iv (midX seed floor 0)) rfl one3 mm_ (arr_get (fun k => midX seed floor k) (by omega))) rfl rfl ?_
      refine s_y ((Y_add rfl rfl (by omega)).num hup.symm) rfl rfl ?_
      refine s_y (Y_as) rfl rfl ?_
      refine s_nil ?_
      refine q_then ?_
      refine c_seq ?_
      refine c_reg ?_
      refine s_y (Y_mv) rfl rfl ?_
      refine s_y (Y_mv) rfl rfl ?_
      refine s_y (Y_ia1 rfl rfl Tryz.underlying24 sz5 rfl (by omega)) rfl rfl ?_
      refine s_s (S_stC (cs' := (baseM seed floor).map bv) rfl sz5 (by rfl) up_ (by rw [Nat.zero_add, ← hb]; exact bv_set cl _ 3) (by rw [List.length_map]; omega)) rfl ?_
      refine s_nil ?_
      refine q_then ?_
      refine c_seq ?_
      refine c_reg ?_
      refine s_y (Y_mv) rfl rfl ?_
      refine s_y (Y_mv) rfl rfl ?_
      refine s_n (N_bs (xs := [.tmp 174]) (by repeat (first | exact Gv.nil | apply Gv.const | apply Gv.tmp gt_)) rfl Tryz.underlying23 inf3 rfl (by omega) (by omega) (by first | simp [Value.oneCell'] | (intro v hv; simp at hv; subst hv; rfl))) rfl rfl (fun b175 _ => ?_)
      refine s_c (En_call (fun _ => rfl) Tryz.func121 rfl (by kernel_rfl) rfl) (fun w hH => rfield_d (ab := none) (nb := 0) (kb := 0) (cells := baseM seed floor) (bl := []) (ts := [((upM seed floor : Nat) : Int)]) ((hH.at' (x := cB b34 384 (baseM seed floor)) mm_).sl (by rw [List.length_map, base_len]) (Nat.le_refl _)) ⟨rfl, Nat.zero_le _, fun h => absurd rfl h⟩ ((hH.at' (x := ⟨b175, 3, 1, 1, [iv ((upM seed floor : Nat) : Int)]⟩) mm_).sl rfl (Nat.le_refl _))) rfl rfl ?_
      rintro _ _ ⟨fb, rfl, rfl⟩
      refine s_y (Y_as) rfl rfl ?_
      refine s_nil ?_
      refine QL.pick (L' := [cB b34 384 (baseM seed floor), fB fb (distM seed floor), lB b4 lz]) ss_ ?_
      have hdl : (distM seed floor).length = 384 := field_len _ _ _
      refine q_then ?_
      refine c_seq ?_
      refine c_reg ?_
      refine s_y (Y_mv) rfl rfl ?_
      refine s_y (Y_as) rfl rfl ?_
      refine s_nil ?_
      refine q_then ?_
      refine c_seq ?_
      refine c_seq ?_
      refine c_reg ?_
      refine s_y (Y_asC) rfl rfl ?_
      refine s_nil ?_
      refine q_then ?_
      refine c_block ?_
      refine c_loop [22, 23, 178, 179, 180, 181, 182, 183, 184, 185, 186, 187, 188, 189, 190, 191] (fun m i => i + m = 384) (fun i => [(23, iv i), (22, iv ((farM (distM seed floor) (upM seed floor) i : Nat) : Int))]) (fun _ => [cB b34 384 (baseM seed floor), fB fb (distM seed floor), lB b4 lz]) (384) (0) (by omega) (by repeat (first | exact trivial | refine ⟨rfl, ?_⟩)) (fun _ h => h.sub sl_) (fun _ => rfl) ?_
      rintro m i j hi K hK
      have hfa := far_lt (distM seed floor) hupl i (by omega)
      refine c_seq ?_
      refine c_seq ?_
      refine c_reg ?_
      refine s_y (Y_mv) rfl rfl ?_
      refine s_y (Y_lss rfl rfl) rfl rfl ?_
      refine s_nil ?_
      refine q_then ?_
      first | refine c_cond' rfl (fun hc32 => ?_) (fun hc32 => ?_) | refine c_cond rfl (fun hc32 => ?_) (fun hc32 => ?_)
      · skip
        try simp only [nrm_] at hc32
        refine c_skip ?_
        refine q_then ?_
        refine c_seq ?_
        refine c_block ?_
        refine c_seq ?_
        refine c_rord [] [(0, true), (1, true), (2, true), (3, true), (4, true), (5, true), (6, true), (7, true), (8, true)] (by kernel_rfl) (by kernel_rfl) (by kernel_rfl) (by kernel_rfl) rfl (by intro c a d v w h; cases d <;> exact h) rfl ?_
        simp only [mkOrd, List.filterMap_cons, List.filterMap_nil, List.getElem?_toArray, List.getElem?_cons_zero, List.getElem?_cons_succ, Option.map_some]
        refine o_y (Y_mv) rfl rfl ?_
        refine o_y (Y_mv) rfl rfl ?_
        refine o_y (Y_ia1 rfl rfl Tryz.underlying23 sz3 rfl (by omega)) rfl rfl ?_
        refine o_y (Y_load (v := iv (getI (distM seed floor) i)) rfl one3 mm_ (iv_get (by omega))) rfl rfl ?_
        refine o_y (Y_mv) rfl rfl ?_
        refine o_y (Y_mv) rfl rfl ?_
        refine o_y (Y_ia1 rfl rfl Tryz.underlying23 sz3 rfl (by omega)) rfl rfl ?_
        refine o_y (Y_load (v := iv (getI (distM seed floor) (farM (distM seed floor) (upM seed floor) i))) rfl one3 mm_ (iv_get (by omega))) rfl rfl ?_
        refine o_y (Y_gtr rfl rfl) rfl rfl ?_
        refine o_nil ?_
        refine q_then ?_
        first | refine c_cond' rfl (fun hc34 => ?_) (fun hc34 => ?_) | refine c_cond rfl (fun hc34 => ?_) (fun hc34 => ?_)
        · skip
          try simp only [nrm_] at hc34
          refine c_reg ?_
          refine s_y (Y_mv) rfl rfl ?_
          refine s_y (Y_as) rfl rfl ?_
          refine s_nil ?_
          refine q_bn ?_
          refine q_then ?_
          refine c_reg ?_
          refine s_y (Y_mv) rfl rfl ?_
          refine s_y ad_ rfl rfl ?_
          refine s_y (Y_as) rfl rfl ?_
          refine s_nil ?_
          refine hK (m - 1) (i + 1) _ _ (by omega) (by omega) ⟨rfl, by rw [farM, if_pos hc34]; rfl, trivial⟩ rfl (fun _ h => h)
        · skip
          try simp only [nrm_] at hc34
          refine c_skip ?_
          refine q_bn ?_
          refine q_then ?_
          refine c_reg ?_
          refine s_y (Y_mv) rfl rfl ?_
          refine s_y ad_ rfl rfl ?_
          refine s_y (Y_as) rfl rfl ?_
          refine s_nil ?_
          refine hK (m - 1) (i + 1) _ _ (by omega) (by omega) ⟨rfl, by rw [farM, if_neg hc34]; rfl, trivial⟩ rfl (fun _ h => h)
      · skip
        try simp only [nrm_] at hc32
        refine c_exit ?_
        repeat with_reducible refine q_te ?_
        refine q_exit ?_
        refine q_then ?_
        refine c_seq ?_
        obtain rfl : i = 384 := by omega
        have hbl := base_len seed floor
        refine c_reg ?_
        refine s_y (Y_mv) rfl rfl ?_
        refine s_y (Y_mv) rfl rfl ?_
        refine s_y (Y_ia1 rfl rfl Tryz.underlying24 sz5 rfl (by omega)) rfl rfl ?_
        refine s_s (S_stC (cs' := (downM seed floor).map bv) rfl sz5 (by rfl) up_ (by rw [Nat.zero_add]; exact bv_set (baseM seed floor) _ 4) (by rw [List.length_map]; omega)) rfl ?_
        refine s_nil ?_
        have hsh : shopAt seed floor = if gd seed floor 6 0 2 = 0 then shopM (downM seed floor) (distM seed floor) ((getI (distM seed floor) (farM (distM seed floor) (upM seed floor) 384)).tdiv 2) 384 else none := rfl
        have hfa := far_lt (distM seed floor) hupl 384 (Nat.le_refl _)
        have hfr := tdiv_rng (field_rng (baseM seed floor) [] [((upM seed floor : Nat) : Int)] hfa)
        have hdnl := down_len seed floor
        have hfr2 : -1 ≤ (getI (distM seed floor) (farM (distM seed floor) (upM seed floor) 384)).tdiv 2 ∧ (getI (distM seed floor) (farM (distM seed floor) (upM seed floor) 384)).tdiv 2 ≤ 384 := hfr
        clear hfr
        obtain ⟨fa, hgen4⟩ : ∃ q_, farM (distM seed floor) (upM seed floor) 384 = q_ := ⟨_, rfl⟩
        rw [hgen4] at hsh hfa hfr2 ⊢
        obtain ⟨f, hdf⟩ : ∃ q_, distM seed floor = q_ := ⟨_, rfl⟩
        rw [hdf] at hsh hfr2 hdl ⊢
        obtain ⟨dn, hdd⟩ : ∃ q_, downM seed floor = q_ := ⟨_, rfl⟩
        rw [hdd] at hsh hdnl ⊢
        refine q_then ?_
        refine c_seq ?_
        refine QL.forget (tr := [(0, _), (1, _), (4, _), (5, _), (21, _), (22, _)]) 326 (by kernel_rfl) (by repeat (first | exact Gts.nil | apply Gts.cons gt_)) (fun jj => ?_)
        refine c_reg ?_
        refine s_y (Y_asC) rfl rfl ?_
        refine s_nil ?_
        refine q_then ?_
        refine c_seq ?_
        refine c_meetQ (ks := [24, 25, 195, 196, 197, 198, 199, 200, 201, 202, 203, 204, 205, 206, 207, 208, 209, 210, 211, 212, 213, 214, 215, 216, 217, 218, 219, 220, 221, 222, 223, 224, 225, 226]) (tr := fun o : Option Nat => [(24, .bool o.isSome)]) (φ := fun o => o = shopAt seed floor) (G := fun o => [cB b34 384 (shopC dn o), fB fb f, lB b4 lz]) (fun _ => rfl) ?_ ?_
        · rintro o j45 ho
          refine q_then ?_
          refine QL.forget (tr := [(0, _), (1, _), (4, _), (5, _), (21, _), (24, _)]) 326 (by kernel_rfl) (by repeat (first | exact Gts.nil | apply Gts.cons gt_)) (fun jj => ?_)
          exact make_t1 (m := makeM seed floor) hfl (by rw [shopC_len]; exact hdnl) hdl (by rw [ho, ← hdd]; exact (cells_eq seed floor).symm) (by rw [ho, ← hdd, ← hdf]; rfl) (by rw [ho, ← hdd, ← hdf]; rfl) jj
        · intro go
          refine c_seq ?_
          refine c_reg ?_
          refine s_y (Y_mv) rfl rfl ?_
          refine s_y (Y_mv) rfl rfl ?_
          refine s_c (En_call (fun _ => rfl) Tryz.func118 rfl (by kernel_rfl) rfl) (fun w hH => rd_d (by decide)) rfl rfl ?_
          rintro _ _ ⟨rfl, rfl⟩
          refine s_y (Y_eql rfl rfl) rfl rfl ?_
          refine s_nil ?_
          refine q_then ?_
          first | refine c_cond' rfl (fun hc38 => ?_) (fun hc38 => ?_) | refine c_cond rfl (fun hc38 => ?_) (fun hc38 => ?_)
          · skip
            try simp only [nrm_] at hc38
            refine c_seq ?_
            refine c_reg ?_
            refine s_y (Y_asC) rfl rfl ?_
            refine s_nil ?_
            refine q_then ?_
            refine c_block ?_
            refine c_loop [24, 25, 199, 200, 201, 202, 203, 204, 205, 206, 207, 208, 209, 210, 211, 212, 213, 214, 215, 216, 217, 218, 219, 220, 221, 222, 223, 224, 225, 226] (fun m (y : Nat × Option Nat) => y.1 + m = 384 ∧ y.2 = shopM dn f ((getI f fa).tdiv 2) y.1) (fun y => [(25, iv y.1), (24, .bool y.2.isSome)]) (fun y => [cB b34 384 (shopC dn y.2), fB fb f, lB b4 lz]) (384) ((0, none)) (⟨by omega, rfl⟩) (by repeat (first | exact trivial | refine ⟨rfl, ?_⟩)) (fun _ h => h.sub sl_) (fun _ => rfl) ?_
            rintro m ⟨k, o⟩ j ⟨hk, ho⟩ K hK
            simp only at hk ho ⊢
            refine c_seq ?_
            refine c_seq ?_
            refine c_reg ?_
            refine s_y (Y_mv) rfl rfl ?_
            refine s_y (Y_lss rfl rfl) rfl rfl ?_
            refine s_y (Y_mv) rfl rfl ?_
            apply s_and 3 [201, 202, 203, 204] 204 (g := 201) rfl rfl
            · intro ht3 hm
              try simp only [nrm_] at ht3
              first | refine s_y (Y_mv) rfl rfl ?_ | refine s_pass rfl rfl ?_
              first | refine s_y (Y_not rfl) rfl rfl ?_ | refine s_pass rfl rfl ?_
              refine s_y (Y_pk rfl (Gx.tmp gt_) Gx.const) rfl rfl ?_
              first | exact hm _ ⟨rfl, trivial⟩ rfl | exact QL.sub sl_ (hm _ ⟨rfl, trivial⟩ rfl)
            · intro ht3 hm
              iterate 2 refine s_pass rfl rfl ?_
              refine s_y (Y_pk rfl (Gx.tmp gt_) Gx.const) rfl rfl ?_
              exact hm _ ⟨rfl, trivial⟩ rfl
            intro j204
            refine s_nil ?_
            refine q_then ?_
            first | refine c_cond' rfl (fun hc40 => ?_) (fun hc40 => ?_) | refine c_cond rfl (fun hc40 => ?_) (fun hc40 => ?_)
            · skip
              try simp only [nrm_] at hc40
              refine c_skip ?_
              refine q_then ?_
              refine c_seq ?_
              refine c_block ?_
              refine c_seq ?_
              obtain rfl : o = none := by
                cases o with
                | none => rfl
                | some q => exact absurd hc40.2 (by simp)
              refine c_rord [] [(0, true), (1, true), (2, true), (3, true), (4, true), (5, true), (6, true), (7, true), (8, true), (9, true), (10, true), (11, true), (12, true), (13, true), (14, true), (15, true), (16, true)] (by kernel_rfl) (by kernel_rfl) (by kernel_rfl) (by kernel_rfl) rfl (by intro c a d v w h; cases d <;> exact h) rfl ?_
              simp only [mkOrd, List.filterMap_cons, List.filterMap_nil, List.getElem?_toArray, List.getElem?_cons_zero, List.getElem?_cons_succ, Option.map_some]
              refine o_y (Y_mv) rfl rfl ?_
              refine o_y (Y_mv) rfl rfl ?_
              refine o_y (Y_ia1 rfl rfl Tryz.underlying24 sz5 rfl (by omega)) rfl rfl ?_
              refine o_y (Y_load (v := .int .u8 (byteAt dn k)) rfl one5 mm_ (by rw [Nat.zero_add]; exact byte_get (cells := dn) (by omega))) rfl rfl ?_
              refine o_y (Y_eql rfl rfl) rfl rfl ?_
              refine o_y (Y_mv) rfl rfl ?_
              apply o_and 11 [212, 213, 214, 215, 216, 217, 218, 219, 220, 221, 222, 223] 223 (g := 212) rfl rfl
              · intro ht6 hm
                try simp only [nrm_] at ht6
                first | refine o_y (Y_mv) rfl rfl ?_ | refine o_pass rfl rfl ?_
                first | refine o_y (Y_mv) rfl rfl ?_ | refine o_pass rfl rfl ?_
                first | refine o_y (Y_ia1 rfl rfl Tryz.underlying23 sz3 rfl (by omega)) rfl rfl ?_ | refine o_pass rfl rfl ?_
                first | refine o_y (Y_load (v := iv (getI f k)) rfl one3 mm_ (iv_get (by omega))) rfl rfl ?_ | refine o_pass rfl rfl ?_
                first | refine o_y (Y_mv) rfl rfl ?_ | refine o_pass rfl rfl ?_
                first | refine o_y (Y_mv) rfl rfl ?_ | refine o_pass rfl rfl ?_
                first | refine o_y (Y_ia1 (n := fa) rfl rfl Tryz.underlying23 sz3 rfl (by omega)) rfl rfl ?_ | refine o_pass rfl rfl ?_
                first | refine o_y (Y_load (v := iv (getI f fa)) rfl one3 mm_ (iv_get (by omega))) rfl rfl ?_ | refine o_pass rfl rfl ?_
                first | refine o_y ((Y_quow rfl rfl (by decide)).num (i64_id (by omega))) rfl rfl ?_ | refine o_pass rfl rfl ?_
                first | refine o_y (Y_eql rfl rfl) rfl rfl ?_ | refine o_pass rfl rfl ?_
                refine o_y (Y_pk rfl (Gx.tmp gt_) Gx.const) rfl rfl ?_
                first | exact hm _ ⟨rfl, trivial⟩ rfl | exact QL.sub sl_ (hm _ ⟨rfl, trivial⟩ rfl)
              · intro ht6 hm
                iterate 10 refine o_pass rfl rfl ?_
                refine o_y (Y_pk rfl (Gx.tmp gt_) Gx.const) rfl rfl ?_
                exact hm _ ⟨rfl, trivial⟩ rfl
              intro j223
              refine o_nil ?_
              refine q_then ?_
              first | refine c_cond' rfl (fun hc42 => ?_) (fun hc42 => ?_) | refine c_cond rfl (fun hc42 => ?_) (fun hc42 => ?_)
              · skip
                try simp only [nrm_] at hc42
                refine c_seq ?_
                refine c_reg ?_
                refine s_y (Y_mv) rfl rfl ?_
                refine s_y (Y_mv) rfl rfl ?_
                refine s_y (Y_ia1 rfl rfl Tryz.underlying24 sz5 rfl (by omega)) rfl rfl ?_
                refine s_s (S_stC (cs' := (dn.set k 5).map bv) rfl sz5 (by rfl) up_ (by rw [Nat.zero_add]; exact bv_set dn k 5) (by rw [List.length_map]; show 0 + k < dn.length; omega)) rfl ?_
                refine s_nil ?_
                refine q_then ?_
                refine c_reg ?_
                refine s_y (Y_asC) rfl rfl ?_
                refine s_nil ?_
                refine q_bn ?_
                refine q_then ?_
                refine c_reg ?_
                refine s_y (Y_mv) rfl rfl ?_
                refine s_y ad_ rfl rfl ?_
                refine s_y (Y_as) rfl rfl ?_
                refine s_nil ?_
                refine hK (m - 1) (k + 1, some k) _ _ (by omega) ⟨by simp only; omega, by simp only; rw [shopM, ← ho]; simp only; rw [if_pos hc42]⟩ ⟨rfl, rfl, trivial⟩ rfl (fun _ h => h)
              · skip
                try simp only [nrm_] at hc42
                refine c_skip ?_
                refine q_bn ?_
                refine q_then ?_
                refine c_reg ?_
                refine s_y (Y_mv) rfl rfl ?_
                refine s_y ad_ rfl rfl ?_
                refine s_y (Y_as) rfl rfl ?_
                refine s_nil ?_
                refine hK (m - 1) (k + 1, none) _ _ (by omega) ⟨by simp only; omega, by simp only; rw [shopM, ← ho]; simp only; rw [if_neg]; rintro ⟨h1, h2⟩; rcases hc42 with h | h <;> omega⟩ ⟨rfl, rfl, trivial⟩ rfl (fun _ h => h)
            · skip
              try simp only [nrm_] at hc40
              refine c_exit ?_
              repeat with_reducible refine q_te ?_
              refine q_exit ?_
              exact go o _ _ (by
                rw [hsh, if_pos hc38]
                cases o with
                | none =>
                  rcases hc40 with h | h
                  · rw [show k = 384 by omega] at ho; exact ho
                  · cases h
                | some q => rw [← shop_stays ho.symm (384 - k), show k + (384 - k) = 384 by omega]) ⟨rfl, trivial⟩ rfl (fun _ h => h)
          · skip
            try simp only [nrm_] at hc38
            refine c_skip ?_
            exact go none _ _ (by rw [hsh, if_neg hc38]) ⟨rfl, trivial⟩ rfl (fun _ h => h)
end
end Go.Proofs.YtcogbkkdccohfaaGreat
namespace Go.Ad
open Go.RowKit Go.Maps
section
variable {P : Program} {ops : Array Oper} {Q : Exit → Act → World → Prop} {S : World → Prop}
inductive OV where
  | nil
  | take (i : Nat) (r : OV)
  | one (i : Nat) (r : OV)
  | alt (i : Nat) (r : OV) (t : OV)
def OV.len : OV → Nat
  | .nil => 0
  | .take _ r => r.len + 1
  | .one _ r => r.len + 1
  | .alt _ r _ => r.len + 1
def OV.heads : OV → List Nat
  | .one i _ => [i]
  | .alt i _ t => i :: t.heads
  | _ => []
def wpVr (P : Program) (ops : Array Oper) (Q : Exit → Act → World → Prop) (S : World → Prop) (T : Nat → Bool) : OV → Act → World → Prop
  | .nil, a, w => Q .normal a w
  | .take i r, a, w => ∃ o v, ops[i]? = some o ∧ YieldsIf P ops S o v a ∧ wpVr P ops Q S T r (a.put o.dst v) w
  | .one i r, a, w => wpOp P ops Q i (fun a' w' => (T i = true → S w') ∧ wpVr P ops Q S T r a' w') a w
  | .alt i r t, a, w => wpOp P ops Q i (fun a' w' => (T i = true → S w') ∧ wpVr P ops Q S T r a' w') a w ∧ wpVr P ops Q S T t a w
def okVr (ops : Array Oper) (T : Nat → Bool) : Bool → OV → Bool → Array Bool → Bool
  | b, .nil, _, listed => b && (Region.ready .any ops listed).isEmpty
  | b, .take i r, s, listed => b && (s && Region.free .any ops listed i && (Region.ready .any ops listed).contains i && ((List.range ops.size).all fun j => T j || waits ops ops.size j i || j == i) && okVr ops T true r s (listed.setIfInBounds i true))
  | b, .one i r, s, listed => (!b || Region.ready .any ops listed == [i]) && okVr ops T true r (s && T i) (listed.setIfInBounds i true)
  | b, .alt i r t, s, listed => (!b || Region.ready .any ops listed == i :: t.heads) && (t.len == r.len + 1) && okVr ops T true r (s && T i) (listed.setIfInBounds i true) && okVr ops T false t s listed
variable {T : Nat → Bool}
theorem wpVr_sound (hs : Region.noSelect ops = true) (hT : ∀ j, ops.size ≤ j → T j = true) (hQ : ∀ c a d v w, Q (.panic c) (a.put d v) w → Q (.panic c) a w) :
    ∀ (t : OV) (s : Bool) (listed : Array Bool) (a : Act) (w : World), Closed ops listed → (s = true → S w) → wpVr P ops Q S T t a w →
      (okVr ops T true t s listed = true → wpAnyT P ops Q S T t.len listed a w) ∧
      (okVr ops T false t s listed = true → ∀ j ∈ t.heads, j ∈ Region.ready .any ops listed → wpOp P ops Q j (fun a' w' => (T j = true → S w') ∧ wpAnyT P ops Q S T (t.len - 1) (listed.setIfInBounds j true) a' w') a w)
  | .nil, s, listed, a, w, _, _, h => ⟨fun hok => ⟨by simpa [okVr] using hok, h⟩, fun hok => by simp [okVr] at hok⟩
  | .take i r, s, listed, a, w, hc, hS, h => by
    refine ⟨fun hok => ?_, fun hok => by simp [okVr] at hok⟩
    simp only [okVr, Bool.and_eq_true, Bool.true_and] at hok
    obtain ⟨⟨⟨⟨h1, h2⟩, h3⟩, h4⟩, h5⟩ := hok
    subst h1
    obtain ⟨o, v, ho, hy, hr⟩ := h
    refine wpAnyT_first ho (Region.noSelect_spec hs) (fun j => ?_) (fun c a w => hQ c a _ _ w) r.len listed a w hc (Region.free_spec ho h2) (by simpa using h3) hy (hS rfl) ((wpVr_sound hs hT hQ r true _ _ _ (hc.set (by simpa using h3)) hS hr).1 h5)
    rcases Nat.lt_or_ge j ops.size with hj | hj
    · have := List.all_eq_true.1 h4 j (List.mem_range.2 hj)
      simp only [Bool.or_eq_true, beq_iff_eq] at this
      rcases this with (h | h) | h
      · exact .inl h
      · exact .inr (.inl h)
      · exact .inr (.inr h)
    · exact .inl (hT j hj)
  | .one i r, s, listed, a, w, hc, hS, h => by
    have key : okVr ops T true r (s && T i) (listed.setIfInBounds i true) = true → i ∈ Region.ready .any ops listed → wpOp P ops Q i (fun a' w' => (T i = true → S w') ∧ wpAnyT P ops Q S T r.len (listed.setIfInBounds i true) a' w') a w := fun h2 hj =>
      wpOp_mono (fun a' w' h3 => ⟨h3.1, (wpVr_sound hs hT hQ r (s && T i) _ _ _ (hc.set hj) (fun hh => by simp only [Bool.and_eq_true] at hh; exact h3.1 hh.2) h3.2).1 h2⟩) h
    refine ⟨fun hok => ?_, fun hok j hj hr => ?_⟩
    · simp only [okVr, Bool.not_true, Bool.false_or, Bool.and_eq_true, beq_iff_eq] at hok
      obtain ⟨h1, h2⟩ := hok
      refine ⟨fun h0 => (by rw [h1] at h0; cases h0), fun j hj => ?_⟩
      have hj' := hj
      rw [h1] at hj
      simp only [List.mem_singleton] at hj
      subst hj
      exact key h2 hj'
    · simp only [okVr, Bool.not_false, Bool.true_or, Bool.true_and] at hok
      simp only [OV.heads, List.mem_singleton] at hj
      subst hj
      exact key hok hr
  | .alt i r t, s, listed, a, w, hc, hS, h => by
    have key : okVr ops T true r (s && T i) (listed.setIfInBounds i true) = true → i ∈ Region.ready .any ops listed → wpOp P ops Q i (fun a' w' => (T i = true → S w') ∧ wpAnyT P ops Q S T r.len (listed.setIfInBounds i true) a' w') a w := fun h2 hj =>
      wpOp_mono (fun a' w' h3 => ⟨h3.1, (wpVr_sound hs hT hQ r (s && T i) _ _ _ (hc.set hj) (fun hh => by simp only [Bool.and_eq_true] at hh; exact h3.1 hh.2) h3.2).1 h2⟩) h.1
    have key2 := (wpVr_sound hs hT hQ t s listed a w hc hS h.2).2
    refine ⟨fun hok => ?_, fun hok j hj hr => ?_⟩
    · simp only [okVr, Bool.not_true, Bool.false_or, Bool.and_eq_true, beq_iff_eq] at hok
      obtain ⟨⟨⟨h1, hl⟩, h2⟩, h3⟩ := hok
      refine ⟨fun h0 => (by rw [h1] at h0; cases h0), fun j hj => ?_⟩
      have hj' := hj
      rw [h1] at hj
      rcases List.mem_cons.1 hj with hj | hj
      · subst hj; exact key h2 hj'
      · have := key2 h3 j hj hj'
        rw [hl] at this
        exact this
    · simp only [okVr, Bool.not_false, Bool.true_or, Bool.true_and, Bool.and_eq_true, beq_iff_eq] at hok
      obtain ⟨⟨hl, h2⟩, h3⟩ := hok
      simp only [OV.heads] at hj
      rcases List.mem_cons.1 hj with hj | hj
      · subst hj; exact key h2 hr
      · have := key2 h3 j hj hr
        rw [hl] at this
        exact this
inductive OVO where
  | nil
  | take (i : Nat) (o : Oper) (r : OVO)
  | one (i : Nat) (o : Oper) (r : OVO)
  | two (r t : OVO)
def wpVO (P : Program) (ops : Array Oper) (Q : Exit → Act → World → Prop) (S : World → Prop) (T : Nat → Bool) : OVO → Act → World → Prop
  | .nil, a, w => Q .normal a w
  | .take _ o r, a, w => ∃ v, YieldsIf P ops S o v a ∧ wpVO P ops Q S T r (a.put o.dst v) w
  | .one i o r, a, w => if Region.wanted o (yielded ops a.tmps) then o.wp P a w (fun a' w' => (T i = true → S w') ∧ wpVO P ops Q S T r a' w') Q else (T i = true → S w) ∧ wpVO P ops Q S T r (a.put o.dst undef) w
  | .two r t, a, w => wpVO P ops Q S T r a w ∧ wpVO P ops Q S T t a w
def mkVr (ops : Array Oper) : OV → Option OVO
  | .nil => some .nil
  | .take i r => match ops[i]?, mkVr ops r with | some o, some t => some (.take i o t) | _, _ => none
  | .one i r => match ops[i]?, mkVr ops r with | some o, some t => some (.one i o t) | _, _ => none
  | .alt i r t => match ops[i]?, mkVr ops r, mkVr ops t with | some o, some x, some y => some (.two (.one i o x) y) | _, _, _ => none
theorem wpVO_one {i : Nat} {o : Oper} {r : OV} {x : OVO} (ho : ops[i]? = some o) (ih : ∀ a w, wpVO P ops Q S T x a w → wpVr P ops Q S T r a w) {a : Act} {w : World} (h : wpVO P ops Q S T (.one i o x) a w) :
    wpOp P ops Q i (fun a' w' => (T i = true → S w') ∧ wpVr P ops Q S T r a' w') a w := by
  simp only [wpVO] at h
  simp only [wpOp, ho]
  split
  · rename_i hw
    rw [if_pos hw] at h
    exact .inl (Oper.wp_mono (fun a' w' hh => ⟨hh.1, ih _ _ hh.2⟩) h)
  · rename_i hw
    rw [if_neg hw] at h
    exact ⟨h.1, ih _ _ h.2⟩
theorem wpVr_of_O : ∀ (t : OV) (x : OVO), mkVr ops t = some x → ∀ (a : Act) (w : World), wpVO P ops Q S T x a w → wpVr P ops Q S T t a w
  | .nil, x, hm, a, w, h => by simp only [mkVr, Option.some.injEq] at hm; subst hm; exact h
  | .take i r, x, hm, a, w, h => by
    simp only [mkVr] at hm
    split at hm
    · rename_i o t ho ht
      cases hm
      obtain ⟨v, h1, h2⟩ := h
      exact ⟨o, v, ho, h1, wpVr_of_O r t ht _ _ h2⟩
    · cases hm
  | .one i r, x, hm, a, w, h => by
    simp only [mkVr] at hm
    split at hm
    · rename_i o t ho ht
      cases hm
      exact wpVO_one ho (wpVr_of_O r t ht) h
    · cases hm
  | .alt i r t, x, hm, a, w, h => by
    simp only [mkVr] at hm
    split at hm
    · rename_i o x1 y1 ho hx hy
      cases hm
      exact ⟨wpVO_one ho (wpVr_of_O r x1 hx) h.1, wpVr_of_O t y1 hy _ _ h.2⟩
    · cases hm
theorem wp_region_v {id : Nat} {a : Act} {w : World} (S : World → Prop) (E : List Nat) (t : OV) (hm : P.follows .mixedOrders = true)
    (hs : Region.noSelect ops = true) (hok : okVr ops (fun j => !E.contains j) true t true (Array.replicate ops.size false) = true) (hE : E.all (· < ops.size) = true) (hl : t.len = ops.size)
    (hQ : ∀ c a d v w, Q (.panic c) (a.put d v) w → Q (.panic c) a w) (hS : S w.drew) {x : OVO} (hx : mkVr ops t = some x)
    (h : wpVO P ops Q S (fun j => !E.contains j) x a w.drew) : (Code.region id ops true).wp P Q a w := by
  refine wp_region_any hm ?_
  have h1 := (wpVr_sound hs (fun j hj => ?_) hQ t true _ _ _ (fun j oj _ hl => by rw [getD_replicate_false] at hl; cases hl) (fun _ => hS) (wpVr_of_O t x hx _ _ h)).1 hok
  · rw [hl] at h1
    exact wpAny_of_T _ _ _ _ h1
  · simp only [Bool.not_eq_true', List.contains_eq_mem, decide_eq_false_iff_not]
    intro hm
    have := List.all_eq_true.1 hE j hm
    simp at this; omega
variable {a : Act} {w w' : World} {i : Nat} {r : OVO} {o : Oper} {v : Value}
theorem vre_take (hw : Region.wanted o (yielded ops a.tmps) = true) (hy : ∀ w, S w → (execOp a.eval o).run P w = .ok (.value v) w)
    (h : wpVO P ops Q S T r (a.put o.dst v) w) : wpVO P ops Q S T (.take i o r) a w := ⟨v, .inl ⟨hw, hy⟩, h⟩
theorem vre_val (hw : Region.wanted o (yielded ops a.tmps) = true) (hr : (execOp a.eval o).run P w = .ok (.value v) w')
    (hS : T i = true → S w') (h : wpVO P ops Q S T r (a.put o.dst v) w') : wpVO P ops Q S T (.one i o r) a w := by
  simp only [wpVO, hw, if_true, Oper.wp, hr, Oper.upon]
  exact ⟨hS, h⟩
theorem vre_skip (hw : Region.wanted o (yielded ops a.tmps) = true) (hr : (execOp a.eval o).run P w = .ok .skip w')
    (hS : T i = true → S w') (h : wpVO P ops Q S T r (a.put o.dst undef) w') : wpVO P ops Q S T (.one i o r) a w := by
  simp only [wpVO, hw, if_true, Oper.wp, hr, Oper.upon]
  exact ⟨hS, h⟩
theorem vre_enter (hw : Region.wanted o (yielded ops a.tmps) = true) {f : FuncId} {args : Array Value} (hr : (execOp a.eval o).run P w = .ok (.enter f args) w)
    (hc : Calls P f args w (fun e w' => ∃ v, e = .returned v ∧ (T i = true → S w') ∧ wpVO P ops Q S T r (a.put o.dst v) w')) : wpVO P ops Q S T (.one i o r) a w := by
  simp only [wpVO, hw, if_true, Oper.wp, hr, Oper.upon]
  refine hc.mono ?_
  rintro e w' ⟨v, rfl, h1, h2⟩
  exact ⟨h1, h2⟩
theorem vre_two {t : OVO} (h1 : wpVO P ops Q S T r a w) (h2 : wpVO P ops Q S T t a w) : wpVO P ops Q S T (.two r t) a w := ⟨h1, h2⟩
end
section
variable {P : Program} {W : World} {M : List Nat} {ops : Array Oper} {Q : Exit → Act → World → Prop} {T : Nat → Bool} {i : Nat} {r r2 : OVO} {ov : Ov} {base : List Value} {L L' L0 : List Bk}
def wpT (P : Program) (W : World) (M : List Nat) (ops : Array Oper) (Q : Exit → Act → World → Prop) (T : Nat → Bool) (L0 : List Bk) (x : OVO) (ov : Ov) (base : List Value) (L : List Bk) : Prop := QL W M (wpVO P ops Q (Has W M L0) T x) ov base L
theorem t_two (h1 : wpT P W M ops Q T L0 r ov base L) (h2 : wpT P W M ops Q T L0 r2 ov base L) : wpT P W M ops Q T L0 (.two r r2) ov base L := fun a w hr hH => vre_two (h1 a w hr hH) (h2 a w hr hH)
theorem t_nil (k : QL W M (Q .normal) ov base L) : wpT P W M ops Q T L0 .nil ov base L := k
theorem t_y {d : Nat} {op : Op} {ty : TypeId} {pos : String} {aft : Array Edge} {g : Option (Nat × Bool)} {v : Value} (hy : Y P W M L0 (ev ov base) op ty v) (hw : wantedL ops ov base ⟨some d, op, ty, pos, aft, g⟩ = true) (hd : Nat.blt d base.length = true)
    (k : wpT P W M ops Q T L0 r ((d, v) :: ov) base L) : wpT P W M ops Q T L0 (.take i ⟨some d, op, ty, pos, aft, g⟩ r) ov base L := fun a w hr hH =>
  vre_take (by rw [hr.wanted]; exact hw) (fun w' h' => by rw [hr.eval]; exact hy w' h' _ rfl rfl) (k _ _ (hr.put v hd) hH)
theorem t_n {α : Type} {d : Nat} {op : Op} {ty : TypeId} {pos : String} {aft : Array Edge} {g : Option (Nat × Bool)} {φ : α → Prop} {F : α → Value} {G : α → List Bk} (hn : N P W M L (ev ov base) op ty φ F G) (hk : ∀ x, Keep W M (G x) L0 T i)
    (hw : wantedL ops ov base ⟨some d, op, ty, pos, aft, g⟩ = true) (hd : Nat.blt d base.length = true)
    (k : ∀ x, φ x → wpT P W M ops Q T L0 r ((d, F x) :: ov) base (G x)) : wpT P W M ops Q T L0 (.one i ⟨some d, op, ty, pos, aft, g⟩ r) ov base L := fun a w hr hH => by
  obtain ⟨x, w', h1, h2, h3⟩ := hn w hH ⟨some d, op, ty, pos, aft, g⟩ rfl rfl
  exact vre_val (by rw [hr.wanted]; exact hw) (v := F x) (w' := w') (by rw [hr.eval]; exact h2) (fun h => hk x h w' h3) (k x h1 _ _ (hr.put _ hd) h3)
theorem t_s {op : Op} {ty : TypeId} {pos : String} {aft : Array Edge} {g : Option (Nat × Bool)} (hs : S P W M L (ev ov base) op ty L') (hk : Keep W M L' L0 T i) (hw : wantedL ops ov base ⟨none, op, ty, pos, aft, g⟩ = true)
    (k : wpT P W M ops Q T L0 r ov base L') : wpT P W M ops Q T L0 (.one i ⟨none, op, ty, pos, aft, g⟩ r) ov base L := fun a w hr hH => by
  obtain ⟨w', h1, h2⟩ := hs w hH ⟨none, op, ty, pos, aft, g⟩ rfl rfl
  exact vre_skip (by rw [hr.wanted]; exact hw) (w' := w') (by rw [hr.eval]; exact h1) (fun h => hk h w' h2) (k _ _ hr h2)
theorem t_c {d : Nat} {op : Op} {ty : TypeId} {pos : String} {aft : Array Edge} {g : Option (Nat × Bool)} {f : FuncId} {vs : List Value} {Post : Value → List Bk → Prop} (he : En P W M L (ev ov base) op ty f vs)
    (hc : ∀ w, Has W M L w → Does P f vs w [] Post) (hk : ∀ v L', Post v L' → Keep W M (L' ++ L) L0 T i) (hw : wantedL ops ov base ⟨some d, op, ty, pos, aft, g⟩ = true) (hd : Nat.blt d base.length = true)
    (k : ∀ v L', Post v L' → wpT P W M ops Q T L0 r ((d, v) :: ov) base (L' ++ L)) : wpT P W M ops Q T L0 (.one i ⟨some d, op, ty, pos, aft, g⟩ r) ov base L := fun a w hr hH => by
  refine vre_enter (by rw [hr.wanted]; exact hw) (by rw [hr.eval]; exact he w hH _ rfl rfl) ((hc w hH).mono ?_)
  rintro e w' ⟨v, L', rfl, h1, h2⟩
  exact ⟨v, rfl, fun h => hk v L' h2 h w' (hH.call h1), k v L' h2 _ _ (hr.put v hd) (hH.call h1)⟩
theorem c_rall {L0 : List Bk} (hs0 : List.Sublist L0 L) {id : Nat} {l : List Oper} (E : List Nat) (t : OV) {x : OVO} (hm : P.follows .mixedOrders = true) (hs : Region.noSelect l.toArray = true)
    (hok : okVr l.toArray (fun j => !E.contains j) true t true (Array.replicate l.toArray.size false) = true) (hE : (E.all (· < l.toArray.size)) = true)
    (hl : t.len = l.toArray.size) (hQ : ∀ c a d v w, Q (.panic c) (a.put d v) w → Q (.panic c) a w)
    (hx : mkVr l.toArray t = some x)
    (h : wpT P W M l.toArray Q (fun j => !E.contains j) L0 x ov base L) : wpC P W M (.region id l.toArray true) Q ov base L := fun a w hr hH =>
  wp_region_v (Has W M L0) E _ hm hs hok hE hl hQ (hH.drew.sub hs0) hx (h a w.drew hr hH.drew)
end
end Go.Ad
namespace Go.Ad
open Go.RowKit Go.Maps
set_option linter.unusedVariables false
set_option linter.unusedSimpArgs false
inductive SlV (W : World) (k : Nat) : Value → Nat → List Value → Prop
  | nil : SlV W k (.slice none 0 0) 0 []
  | zero {a : Option Addr} {c : Nat} : SlV W k (.slice a 0 c) 0 []
  | some {b o n c : Nat} {cs : List Value} (h : SlB W b o n c k cs) : SlV W k (.slice (some ⟨b, o, none⟩) n c) n cs
theorem SlV.some_of {W : World} {k n : Nat} {v : Value} {cs : List Value} (h : SlV W k v n cs) (h0 : 0 < n) : ∃ b o c, v = .slice (Option.some ⟨b, o, none⟩) n c ∧ SlB W b o n c k cs := by
  cases h with
  | nil => omega
  | zero => omega
  | some h => exact ⟨_, _, _, rfl, h⟩
theorem SlV.len {W : World} {k n : Nat} {v : Value} {cs : List Value} (h : SlV W k v n cs) : cs.length = n * k := by
  cases h with
  | nil => simp
  | zero => simp
  | some h => exact h.len
theorem SlV.has {W w : World} {L : List Bk} {k n : Nat} {v : Value} {cs : List Value} (h : SlV W k v n cs) (hH : Has W [] L w) : SlV w k v n cs := by
  cases h with
  | nil => exact .nil
  | zero => exact .zero
  | some h => exact .some (h.has hH)
theorem SlV.one {W : World} {k n : Nat} {v : Value} {cs : List Value} (h : SlV W k v n cs) : v.oneCell' = true := by cases h <;> rfl
theorem SlV.le {W : World} {k n : Nat} {v : Value} {cs : List Value} (h : SlV W k v n cs) : n ≤ maxLen := by
  cases h with
  | nil => omega
  | zero => omega
  | some h => exact Nat.le_trans h.cap h.big
theorem Row.slv {W w : World} {M : List Nat} {L B : List Bk} {e kk n : Nat} {v : Value} {cs : List Value} (h : Row e kk v n cs B) (hH : Has W M L w) (hB : ∀ x ∈ B, x ∈ L) : SlV w kk v n cs := by
  cases h with
  | nil => exact .nil
  | some h1 h2 => exact .some ((hH.at' (hB _ (List.Mem.head _))).sl h2 h1)
theorem Y_lenV {P : Program} {W W0 : World} {M : List Nat} {L : List Bk} {ρ : Operand → Value} {x : Operand} {ty k n : Nat} {v : Value} {cs : List Value} {el u : TypeId} {ts : Array TypeId} (hB : SlV W0 k v n cs) (hx : ρ x = v) (ht : ts[0]? = some u) (hu : P.underlying u = some (.slice el)) : Y P W M L ρ (.call { callee := .builtin .len, args := #[x], argTypes := ts }) ty (.int .i64 n) := by
  cases hB with
  | nil => exact Y_len hx ht hu
  | zero => exact Y_len hx ht hu
  | some => exact Y_len hx ht hu
theorem QL.conv {W : World} {M : List Nat} {K : Act → World → Prop} {ov : Ov} {base : List Value} {L L' : List Bk} (hc : ∀ w, Has W M L w → Has W M L' w) (h : QL W M K ov base L') : QL W M K ov base L := fun a w hr hH => h a w hr (hc w hH)
theorem byteM_nat (z : Int) : ((byteM z).toNat : Int) = z % 256 := by
  unfold byteM
  rw [UInt8.toNat_ofNat']
  omega
theorem Y_cb {P : Program} {W : World} {M : List Nat} {L : List Bk} {ρ : Operand → Value} {x : Operand} {ty : TypeId} {k : IntKind} {a : Int} {src dst : TypeId} {d : TypeDesc} (hx : ρ x = .int k a) (hs : P.underlying src = some d) (hd : P.underlying dst = some (.int .u8)) : Y P W M L ρ (.convert src dst x) ty (bv (byteM a)) :=
  (Y_convw hx hs hd).num (by rw [IntKind.wrap_u8, byteM_nat])
theorem beM_len (v : Int) : ∀ n, (beM v n).length = n
  | 0 => rfl
  | n + 1 => by rw [beM, List.length_cons, beM_len v n]
theorem bvs_one (l : List UInt8) : ∀ u ∈ l.map bv, u.oneCell' = true := fun u hu => by
  obtain ⟨x, _, rfl⟩ := List.mem_map.1 hu
  rfl
theorem eBytes_len (l : List Ent) : (l.flatMap eBytes).length = l.length * 11 := by
  induction l with
  | nil => rfl
  | cons a r ih => rw [List.flatMap_cons, List.length_append, ih, List.length_cons]; simp only [eBytes, List.length_cons, List.length_nil]; omega
theorem iBytes_len (l : List Itm) : (l.flatMap iBytes).length = l.length * 4 := by
  induction l with
  | nil => rfl
  | cons a r ih => rw [List.flatMap_cons, List.length_append, ih, List.length_cons]; simp only [iBytes, List.length_cons, List.length_nil]; omega
theorem flat_take {α : Type} {f : α → List UInt8} {l : List α} {i : Nat} {a : α} (h : l[i]? = some a) : (l.take (i + 1)).flatMap f = (l.take i).flatMap f ++ f a := by
  obtain ⟨hi, rfl⟩ := List.getElem?_eq_some_iff.1 h
  rw [← List.take_append_getElem hi, List.flatMap_append, List.flatMap_cons, List.flatMap_nil, List.append_nil]
theorem check_sizes {d : Wd} (h : checkM d = 0) : d.cells.length = 384 ∧ d.ents.length = 32 ∧ d.items.length = 40 := by
  unfold checkM at h
  by_cases h1 : headM d = 0
  · unfold headM at h1
    split at h1
    · omega
    · split at h1
      · omega
      · rename_i _ h2
        simp only [sizesOk, decide_eq_false_iff_not, Decidable.not_not] at h2
        exact h2
  · rw [if_pos h1] at h; omega
def goldBytes (g : Four) : Nat → List UInt8
  | 0 => []
  | k + 1 => goldBytes g k ++ beM (IntKind.u64.wrap (g.get k)) 2
theorem goldBytes_len (g : Four) : ∀ k, (goldBytes g k).length = k * 2
  | 0 => rfl
  | k + 1 => by rw [goldBytes, List.length_append, goldBytes_len g k, beM_len]; omega
def headBytes (d : Wd) : List UInt8 := beM (IntKind.u64.wrap d.seed) 8 ++ beM (IntKind.u64.wrap d.frame) 4 ++ [byteM d.floor, byteM d.state]
theorem encW_eq (d : Wd) : encW d = headBytes d ++ goldBytes d.gold 4 ++ d.cells ++ d.ents.flatMap eBytes ++ d.items.flatMap iBytes := by
  simp only [encW, headBytes, goldBytes, Four.get, List.append_assoc, List.nil_append]
theorem headBytes_len (d : Wd) : (headBytes d).length = 14 := by simp [headBytes, beM_len]
def encA (d : Wd) (k : Nat) : List UInt8 := headBytes d ++ goldBytes d.gold k
def encB (d : Wd) (i : Nat) : List UInt8 := encA d 4 ++ d.cells ++ (d.ents.take i).flatMap eBytes
def encC (d : Wd) (i : Nat) : List UInt8 := encB d d.ents.length ++ (d.items.take i).flatMap iBytes
theorem encA_succ (d : Wd) (k : Nat) : encA d (k + 1) = encA d k ++ beM (IntKind.u64.wrap (d.gold.get k)) 2 := by rw [encA, encA, goldBytes, List.append_assoc]
theorem encB_zero (d : Wd) : encB d 0 = encA d 4 ++ d.cells := by simp [encB]
theorem encB_succ {d : Wd} {i : Nat} {e : Ent} (h : d.ents[i]? = some e) : encB d (i + 1) = encB d i ++ eBytes e := by rw [encB, encB, flat_take h]; simp only [List.append_assoc]
theorem encC_zero (d : Wd) : encC d 0 = encB d d.ents.length := by simp [encC]
theorem encC_succ {d : Wd} {i : Nat} {x : Itm} (h : d.items[i]? = some x) : encC d (i + 1) = encC d i ++ iBytes x := by rw [encC, encC, flat_take h, List.append_assoc]
theorem encC_all (d : Wd) : encC d d.items.length = encW d := by rw [encC, encB, encA, List.take_length, List.take_length, encW_eq]
theorem encA_len (d : Wd) (k : Nat) : (encA d k).length = 14 + k * 2 := by rw [encA, List.length_append, headBytes_len, goldBytes_len]
theorem encB_len (d : Wd) (i : Nat) (h : i ≤ d.ents.length) : (encB d i).length = 22 + d.cells.length + i * 11 := by
  rw [encB, List.length_append, List.length_append, encA_len, eBytes_len, List.length_take, Nat.min_eq_left h]
theorem encC_len (d : Wd) (i : Nat) (h : i ≤ d.items.length) : (encC d i).length = 22 + d.cells.length + d.ents.length * 11 + i * 4 := by
  rw [encC, List.length_append, encB_len _ _ (Nat.le_refl _), iBytes_len, List.length_take, Nat.min_eq_left h]
theorem isz_iff (x : Itm) : x.isZ = decide ([x.kind, x.whr, x.a, x.b] = [0, 0, 0, 0]) := by
  unfold Itm.isZ
  congr 1
  simp
def layOne (l : List Itm) (x : Itm) : List Itm := if fnd Itm.isZ (l.take 40) 0 < 0 then l else l.set (fnd Itm.isZ (l.take 40) 0).toNat x
def layM (l more : List Itm) : List Itm := more.foldl layOne l
theorem layOne_len (l : List Itm) (x : Itm) : (layOne l x).length = l.length := by unfold layOne; split <;> simp
theorem layM_len : ∀ (more l : List Itm), (layM l more).length = l.length
  | [], l => rfl
  | x :: r, l => by
    have := layM_len r (layOne l x)
    rw [layOne_len] at this
    exact this
theorem foldl_drop {α β : Type} {f : β → α → β} {l : List α} {i : Nat} {a : α} (h : l[i]? = some a) (s : β) : (l.drop i).foldl f s = (l.drop (i + 1)).foldl f (f s a) := by
  obtain ⟨hi, rfl⟩ := List.getElem?_eq_some_iff.1 h
  rw [List.drop_eq_getElem_cons hi, List.foldl_cons]
end Go.Ad
namespace Go.Proofs.YtcogbkkdccohfaaGreat
open Go.RowKit Go.Ad Go.Maps
set_option linter.unusedVariables false
set_option linter.unusedSimpArgs false
abbrev eB (b cap : Nat) (l : List Ent) : Bk := ⟨b, 93, 11, cap, ecells l⟩
abbrev iB (b cap : Nat) (l : List Itm) : Bk := ⟨b, 98, 4, cap, icells l⟩
section
variable {W : World}
set_option maxRecDepth 100000 in
theorem rlay_d {b o n c : Nat} {l : List Itm} (hs : SlB W b o n c 4 (icells l)) (h1 : n ≤ 100000) {v2 : Value} {n2 : Nat} {more : List Itm} (hm : SlV W 4 v2 n2 (icells more)) :
    Does Tryz.prog 123 [.slice (some ⟨b, o, none⟩) n c, v2] W [] (fun v L => ∃ g cap, n ≤ cap ∧ v = .slice (some ⟨g, 0, none⟩) n cap ∧ L = [iB g cap (layM l more)]) := by
  obtain rfl : n = l.length := by have := hs.len; rw [icells_len] at this; omega
  obtain rfl : n2 = more.length := by have := hm.len; rw [icells_len] at this; omega
  have hb := hs.cap
  have hmx := hm.le
  simp only [maxLen] at hmx
  refine enter Tryz.func123 rfl rfl rfl (Has.start _) ?_
  refine c_seq ?_
  refine c_reg ?_
  refine s_y (Y_asC) rfl rfl ?_
  refine s_nil ?_
  refine q_then ?_
  refine c_seq ?_
  refine c_reg ?_
  refine s_n (N_bs0 rfl Tryz.underlying31 sz98) rfl rfl (fun b8 _ => ?_)
  refine s_y (Y_mv) rfl rfl ?_
  refine s_n (N_appE (news := icells l) rfl rfl Tryz.underlying31 inf98 rfl (by omega) se_ hs.src hs.len (one_i l) (by omega) (by omega)) rfl rfl (fun ⟨g10, cp10⟩ hc10 => ?_)
  refine s_y (Y_as) rfl rfl ?_
  refine s_nil ?_
  refine q_then ?_
  refine c_seq ?_
  refine c_seq ?_
  refine c_reg ?_
  refine s_y (Y_asC) rfl rfl ?_
  refine s_nil ?_
  refine q_then ?_
  refine c_block ?_
  refine c_loop [6, 7, 11, 12, 13, 14, 15, 16, 17, 18, 19, 20, 21, 22, 23, 24, 25, 26, 27, 28, 29, 30, 31, 32, 33, 34, 35, 36, 37, 38, 39] (fun m (y : Nat × List Itm) => y.1 + m = more.length ∧ y.2.length = l.length ∧ (more.drop y.1).foldl layOne y.2 = layM l more) (fun y => [(6, iv y.1)]) (fun y => [iB g10 cp10 y.2]) (more.length) ((0, l)) (⟨by simp only; omega, rfl, rfl⟩) (by repeat (first | exact trivial | refine ⟨rfl, ?_⟩)) (fun _ h => h.sub sl_) (fun _ => rfl) ?_
  rintro m ⟨k, l'⟩ j ⟨hk, hl, hf⟩ K hK
  simp only at hk hl hf ⊢
  refine c_seq ?_
  refine c_seq ?_
  refine c_reg ?_
  refine s_y (Y_mv) rfl rfl ?_
  refine s_y (Y_mv) rfl rfl ?_
  refine s_y (Y_lenV hm rfl rfl Tryz.underlying31) rfl rfl ?_
  refine s_y (Y_lss rfl rfl) rfl rfl ?_
  refine s_nil ?_
  refine q_then ?_
  first | refine c_cond' rfl (fun hc3 => ?_) (fun hc3 => ?_) | refine c_cond rfl (fun hc3 => ?_) (fun hc3 => ?_)
  · skip
    try simp only [nrm_] at hc3
    refine c_skip ?_
    refine q_then ?_
    refine c_seq ?_
    refine c_block ?_
    refine c_seq ?_
    obtain ⟨x, hx⟩ := take_lt (show k < more.length by omega)
    rw [foldl_drop hx] at hf
    obtain ⟨b2, o2, c2, rfl, hm2⟩ := hm.some_of (by omega)
    have hr := hm2.at' Itm.len hx
    refine c_reg ?_
    refine s_y (Y_asC) rfl rfl ?_
    refine s_nil ?_
    refine q_then ?_
    refine c_block ?_
    refine c_loop [7, 17, 18, 19, 20, 21, 22, 23, 24, 25, 26, 27, 28, 29, 30, 31, 32, 33, 34, 35, 36, 37, 38, 39] (fun m2 i => i + m2 = min l.length 40 ∧ fnd Itm.isZ ((l'.take 40).drop i) i = fnd Itm.isZ (l'.take 40) 0) (fun i => [(7, iv i)]) (fun _ => [iB g10 cp10 l']) (min l.length 40) (0) (⟨by omega, rfl⟩) (by repeat (first | exact trivial | refine ⟨rfl, ?_⟩)) (fun _ h => h.sub sl_) (fun _ => rfl) ?_
    rintro m2 i j2 ⟨hi, hfd⟩ K2 hK2
    refine c_seq ?_
    refine c_seq ?_
    refine c_reg ?_
    refine s_y (Y_mv) rfl rfl ?_
    refine s_y (Y_mv) rfl rfl ?_
    refine s_y (Y_len rfl rfl Tryz.underlying31) rfl rfl ?_
    refine s_y (Y_lss rfl rfl) rfl rfl ?_
    refine s_y (Y_mv) rfl rfl ?_
    apply s_and 3 [21, 22, 23, 24] 24 (g := 21) rfl rfl
    · intro ht5 hm
      try simp only [nrm_] at ht5
      first | refine s_y (Y_mv) rfl rfl ?_ | refine s_pass rfl rfl ?_
      first | refine s_y (Y_lss rfl rfl) rfl rfl ?_ | refine s_pass rfl rfl ?_
      refine s_y (Y_pk rfl (Gx.tmp gt_) Gx.const) rfl rfl ?_
      first | exact hm _ ⟨rfl, trivial⟩ rfl | exact QL.sub sl_ (hm _ ⟨rfl, trivial⟩ rfl)
    · intro ht5 hm
      iterate 2 refine s_pass rfl rfl ?_
      refine s_y (Y_pk rfl (Gx.tmp gt_) Gx.const) rfl rfl ?_
      exact hm _ ⟨rfl, trivial⟩ rfl
    intro j24
    refine s_nil ?_
    refine q_then ?_
    first | refine c_cond' rfl (fun hc6 => ?_) (fun hc6 => ?_) | refine c_cond rfl (fun hc6 => ?_) (fun hc6 => ?_)
    · skip
      try simp only [nrm_] at hc6
      refine c_skip ?_
      refine q_then ?_
      refine c_seq ?_
      refine c_block ?_
      refine c_seq ?_
      obtain ⟨a, ha⟩ := take_lt (show i < (l'.take 40).length by rw [List.length_take]; omega)
      have ha2 : l'[i]? = some a := by rw [List.getElem?_take_of_lt (by omega)] at ha; exact ha
      refine c_reg ?_
      refine s_y (Y_mv) rfl rfl ?_
      refine s_y (Y_mv) rfl rfl ?_
      refine s_y (Y_ia rfl rfl Tryz.underlying31 sz98 rfl (by omega)) rfl rfl ?_
      refine s_y (Y_loadN (vs := a.cells) rfl many98 mm_ (by rfl) (igetN ha2)) rfl rfl ?_
      refine s_y (Y_build (cs := [.int .i64 0, .int .i64 0, .int .i64 0, .int .i64 0]) (by repeat (first | exact Gp.nil | apply Gp.const | apply Gp.tmp gt_)) (bld98 _ _ (by first | rfl | (simp; rfl)))) rfl rfl ?_
      refine s_y (Y_eqF (zs := [a.kind, a.whr, a.a, a.b]) (zs' := [0, 0, 0, 0]) rfl rfl flat98 rfl rfl) rfl rfl ?_
      refine s_nil ?_
      refine q_then ?_
      first | refine c_cond' rfl (fun hp => ?_) (fun hp => ?_) | refine c_cond rfl (fun hp => ?_) (fun hp => ?_)
      · skip
        try simp only [nrm_] at hp
        refine c_seq ?_
        refine c_reg ?_
        refine s_y (Y_mv) rfl rfl ?_
        refine s_y (Y_mv) rfl rfl ?_
        refine s_y (Y_mv) rfl rfl ?_
        refine s_y (Y_mv) rfl rfl ?_
        refine s_y (Y_ia rfl rfl Tryz.underlying31 sz98 rfl (by omega)) rfl rfl ?_
        refine s_y (ya_ many98) rfl rfl ?_
        refine s_y (Y_ia rfl rfl Tryz.underlying31 sz98 rfl (by omega)) rfl rfl ?_
        refine s_s (S_storeN (cs' := icells (l'.set i x)) rfl rfl sz98 (by rfl) (by rfl) up_ (iall _ (by omega)) (by simp [icells_len, Itm.cells]; omega)) rfl ?_
        refine s_nil ?_
        refine q_then ?_
        refine c_exit ?_
        repeat with_reducible refine q_te ?_
        refine q_past rfl ?_
        repeat with_reducible refine q_te ?_
        refine q_exit ?_
        refine q_bn ?_
        refine q_then ?_
        refine c_reg ?_
        refine s_y (Y_mv) rfl rfl ?_
        refine s_y ad_ rfl rfl ?_
        refine s_y (Y_as) rfl rfl ?_
        refine s_nil ?_
        have hz : a.isZ = true := by rw [isz_iff]; exact decide_eq_true hp
        have hfi := fnd_here ha hz
        rw [hfd] at hfi
        have hlo : layOne l' x = l'.set i x := by unfold layOne; rw [hfi, if_neg (by omega), Int.toNat_natCast]
        refine hK (m - 1) (k + 1, l'.set i x) _ _ (by omega) ⟨by simp only; omega, by simp only [List.length_set]; exact hl, by simp only; rw [← hlo]; exact hf⟩ ⟨rfl, trivial⟩ rfl (fun _ h => h)
      · skip
        try simp only [nrm_] at hp
        refine c_skip ?_
        refine q_bn ?_
        refine q_then ?_
        refine c_reg ?_
        refine s_y (Y_mv) rfl rfl ?_
        refine s_y ad_ rfl rfl ?_
        refine s_y (Y_as) rfl rfl ?_
        refine s_nil ?_
        refine hK2 (m2 - 1) (i + 1) _ _ (by omega) ⟨by omega, by rw [← fnd_step ha (by rw [isz_iff]; exact decide_eq_false hp)]; exact hfd⟩ ⟨rfl, trivial⟩ rfl (fun _ h => h)
    · skip
      try simp only [nrm_] at hc6
      refine c_exit ?_
      repeat with_reducible refine q_te ?_
      refine q_exit ?_
      refine q_bn ?_
      refine q_then ?_
      refine c_reg ?_
      refine s_y (Y_mv) rfl rfl ?_
      refine s_y ad_ rfl rfl ?_
      refine s_y (Y_as) rfl rfl ?_
      refine s_nil ?_
      have hlo : layOne l' x = l' := by unfold layOne; rw [← hfd, fnd_end (by rw [List.length_take]; omega), if_pos (by omega)]
      refine hK (m - 1) (k + 1, l') _ _ (by omega) ⟨by simp only; omega, hl, by simp only; rw [hlo] at hf; exact hf⟩ ⟨rfl, trivial⟩ rfl (fun _ h => h)
  · skip
    try simp only [nrm_] at hc3
    refine c_exit ?_
    repeat with_reducible refine q_te ?_
    refine q_exit ?_
    refine q_then ?_
    refine c_seq ?_
    refine c_reg ?_
    refine s_y (Y_mv) rfl rfl ?_
    refine s_y (Y_as) rfl rfl ?_
    refine s_nil ?_
    refine q_then ?_
    refine c_ret ?_
    refine q_retG1 rfl gt_ (L' := _) sl_ (⟨g10, cp10, by omega, rfl, by rw [← hf, List.drop_eq_nil_of_le (by omega)]; rfl⟩)
theorem EntsP.sl {b o n c : Nat} {l l' : List Ent} {v : Value} {B L : List Bk} {w : World} (h : EntsP b o n c l l' v B) (hs : SlB W b o n c 11 (ecells l)) (hH : Has W [] L w) (hB : ∀ x ∈ B, x ∈ L) : ∃ b' o' c', v = .slice (some ⟨b', o', none⟩) n c' ∧ SlB w b' o' n c' 11 (ecells l') := by
  cases h with
  | old h => subst h; exact ⟨b, o, c, rfl, hs.has hH⟩
  | @new g cap h1 h2 => exact ⟨g, 0, cap, rfl, (hH.at' (hB _ (List.Mem.head _))).sl (by rw [ecells_len, h2]) (by rw [← h2]; exact h1)⟩
theorem EntsP.at' {b o n c : Nat} {l l' : List Ent} {v : Value} {B : List Bk} (h : EntsP b o n c l l' v B) : ∃ b' o' c', v = .slice (some ⟨b', o', none⟩) n c' ∧ ∀ {W w : World} {L : List Bk}, SlB W b o n c 11 (ecells l) → Has W [] L w → (∀ x ∈ B, x ∈ L) → SlB w b' o' n c' 11 (ecells l') := by
  cases h with
  | old h => subst h; exact ⟨b, o, c, rfl, fun hs hH _ => hs.has hH⟩
  | @new g cap h1 h2 => exact ⟨g, 0, cap, rfl, fun hs hH hB => (hH.at' (hB _ (List.Mem.head _))).sl (by rw [ecells_len, h2]) (by rw [← h2]; exact h1)⟩
theorem EntsP.one {b o n c : Nat} {l l' : List Ent} {v : Value} {B : List Bk} (h : EntsP b o n c l l' v B) : v.oneCell' = true := by cases h <;> rfl
theorem EntsP.open {b n c : Nat} {l l' : List Ent} {v : Value} {B : List Bk} (h : EntsP b 0 n c l l' v B) : ∃ eb ec, v = .slice (some ⟨eb, 0, none⟩) n ec ∧ ((l' = l ∧ eb = b ∧ ec = c ∧ B = []) ∨ (l'.length ≤ ec ∧ l'.length = n ∧ B = [eB eb ec l'])) := by
  cases h with
  | old h => exact ⟨b, c, rfl, .inl ⟨h, rfl, rfl, rfl⟩⟩
  | @new g cap h1 h2 => exact ⟨g, cap, rfl, .inr ⟨h1, h2, rfl⟩⟩
def stockOne (l : List Ent) (e : Ent) : List Ent := if eAt l e.x e.y < 0 then spawnedM l e else l
def stockEnts (l es : List Ent) : List Ent := es.foldl stockOne l
theorem stockOne_len (l : List Ent) (e : Ent) : (stockOne l e).length = l.length := by unfold stockOne; split; exact spawnedM_len l e; rfl
theorem stockEnts_len : ∀ (es l : List Ent), (stockEnts l es).length = l.length
  | [], l => rfl
  | e :: r, l => by
    have := stockEnts_len r (stockOne l e)
    rw [stockOne_len] at this
    exact this
theorem wv_eq {d : Wd} {s : Ws} {n1 n2 n3 : Nat} {z : List Value} (h1 : d.cells.length = n1) (h2 : d.ents.length = n2) (h3 : d.items.length = n3) (h : z = [iv d.seed, iv d.frame, iv d.floor, iv d.state, .slice (some ⟨s.cb, s.co, none⟩) n1 s.cc, .slice (some ⟨s.eb, s.eo, none⟩) n2 s.ec, .slice (some ⟨s.ib, s.io, none⟩) n3 s.ic, iv d.gold.a, iv d.gold.b, iv d.gold.c, iv d.gold.d]) : Value.agg z.toArray = .agg (wv d s).toArray := by
  subst h1 h2 h3 h; rfl
def stockW (d : Wd) (m : Lvl) : Wd := { d with ents := stockEnts d.ents m.ents, items := layM d.items m.items }
def StockP (d : Wd) (s : Ws) (d' : Wd) (v : Value) (L : List Bk) : Prop := ∃ ev B ig ic, v = .agg #[iv d.seed, iv d.frame, iv d.floor, iv d.state, .slice (some ⟨s.cb, s.co, none⟩) d.cells.length s.cc, ev, .slice (some ⟨ig, 0, none⟩) d.items.length ic, iv d.gold.a, iv d.gold.b, iv d.gold.c, iv d.gold.d] ∧ EntsP s.eb s.eo d.ents.length s.ec d.ents d'.ents ev B ∧ d.items.length ≤ ic ∧ L = iB ig ic d'.items :: B
abbrev wz : List Value := [iv 0, iv 0, iv 0, iv 0, .slice none 0 0, .slice none 0 0, .slice none 0 0, iv 0, iv 0, iv 0, iv 0]
abbrev wB (b : Nat) (c : List Value) : Bk := ⟨b, 34, 11, 1, c⟩
set_option maxRecDepth 100000 in
theorem rstock_d {d : Wd} {s : Ws} (hw : WAt W d s) (h1 : d.ents.length ≤ 100000 ∧ d.items.length ≤ 100000) {m : Lvl} {cv mev miv : Value} (hc : cv.oneCell' = true) (hme : SlV W 11 mev m.ents.length (ecells m.ents)) (hmi : SlV W 4 miv m.items.length (icells m.items)) :
    Does Tryz.prog 76 [.agg (wv d s).toArray, .agg #[cv, mev, miv]] W [] (StockP d s (stockW d m)) := by
  have hmx := hme.le
  simp only [maxLen] at hmx
  refine enter Tryz.func76 rfl rfl rfl (Has.start _) ?_
  refine c_seq ?_
  refine c_reg ?_
  refine s_n (N_box (cs := wv d s) rfl) rfl rfl (fun b2 _ => ?_)
  refine s_n (N_box (cs := [cv, mev, miv]) rfl) rfl rfl (fun b3 _ => ?_)
  refine s_n (N_alloc (z := .agg #[.int .i64 0, .int .i64 0, .int .i64 0, .int .i64 0, .slice none 0 0, .slice none 0 0, .slice none 0 0, .int .i64 0, .int .i64 0, .int .i64 0, .int .i64 0]) (cs := [.int .i64 0, .int .i64 0, .int .i64 0, .int .i64 0, .slice none 0 0, .slice none 0 0, .slice none 0 0, .int .i64 0, .int .i64 0, .int .i64 0, .int .i64 0]) zv34 rfl) rfl rfl (fun b4 _ => ?_)
  refine s_nil ?_
  refine q_then ?_
  refine c_seq ?_
  refine c_seq ?_
  refine c_reg ?_
  refine s_y (Y_asC) rfl rfl ?_
  refine s_nil ?_
  refine q_then ?_
  refine c_block ?_
  refine c_loop [5, 6, 7, 8, 9, 10, 11, 12, 13, 14, 15, 16, 17, 18, 19, 20, 21, 22, 23, 24, 25, 26, 27, 28, 29, 30, 31, 32, 33, 34, 35, 36, 37] (fun q (y : Nat × List Ent × Value × List Bk) => y.1 + q = m.ents.length ∧ (m.ents.drop y.1).foldl stockOne y.2.1 = stockEnts d.ents m.ents ∧ EntsP s.eb s.eo d.ents.length s.ec d.ents y.2.1 y.2.2.1 y.2.2.2) (fun y => [(5, iv y.1)]) (fun y => wB b2 [iv d.seed, iv d.frame, iv d.floor, iv d.state, .slice (some ⟨s.cb, s.co, none⟩) d.cells.length s.cc, y.2.2.1, .slice (some ⟨s.ib, s.io, none⟩) d.items.length s.ic, iv d.gold.a, iv d.gold.b, iv d.gold.c, iv d.gold.d] :: ⟨b3, 138, 3, 1, [cv, mev, miv]⟩ :: wB b4 wz :: y.2.2.2) (m.ents.length) ((0, d.ents, .slice (some ⟨s.eb, s.eo, none⟩) d.ents.length s.ec, [])) (⟨by simp only; omega, rfl, .old rfl⟩) (by repeat (first | exact trivial | refine ⟨rfl, ?_⟩)) (fun w h => h.pick (L' := [wB b2 (wv d s), ⟨b3, 138, 3, 1, [cv, mev, miv]⟩, wB b4 wz]) ss_) (fun _ => rfl) ?_
  rintro q ⟨i, es, v, B⟩ j ⟨hi, hf, hE⟩ K hK
  simp only at hi hf hE ⊢
  refine c_seq ?_
  refine c_seq ?_
  refine c_reg ?_
  refine s_y (Y_mv) rfl rfl ?_
  refine s_y (Y_fa 1 rfl Tryz.underlying138 rfl sz30 rfl) rfl rfl ?_
  refine s_y (yl_ one30) rfl rfl ?_
  refine s_y (Y_lenV hme rfl rfl Tryz.underlying30) rfl rfl ?_
  refine s_y (Y_lss rfl rfl) rfl rfl ?_
  refine s_nil ?_
  refine q_then ?_
  first | refine c_cond' rfl (fun hc2 => ?_) (fun hc2 => ?_) | refine c_cond rfl (fun hc2 => ?_) (fun hc2 => ?_)
  · skip
    try simp only [nrm_] at hc2
    refine c_skip ?_
    refine q_then ?_
    refine c_seq ?_
    refine c_block ?_
    refine c_seq ?_
    obtain ⟨e, he⟩ := take_lt (show i < m.ents.length by omega)
    rw [foldl_drop he] at hf
    obtain ⟨lb, lo, lc, rfl, hml⟩ := hme.some_of (by omega)
    have hr := hml.at' Ent.len he
    obtain ⟨eb, eo, ec, rfl, hes⟩ := hE.at'
    refine c_rordS (L0 := [wB b2 [iv d.seed, iv d.frame, iv d.floor, iv d.state, .slice (some ⟨s.cb, s.co, none⟩) d.cells.length s.cc, .slice (some ⟨eb, eo, none⟩) d.ents.length ec, .slice (some ⟨s.ib, s.io, none⟩) d.items.length s.ic, iv d.gold.a, iv d.gold.b, iv d.gold.c, iv d.gold.d], ⟨b3, 138, 3, 1, [cv, .slice (some ⟨lb, lo, none⟩) m.ents.length lc, miv]⟩]) sl_ [] [(0, true), (1, true), (2, true), (3, true), (4, true), (5, true), (6, true), (7, true), (8, true), (9, true), (10, true), (11, true), (12, true), (13, true), (14, false), (15, true)] (by kernel_rfl) (by kernel_rfl) (by kernel_rfl) (by kernel_rfl) rfl (by intro c a d v w h; cases d <;> exact h) rfl ?_
    simp only [mkOrd, List.filterMap_cons, List.filterMap_nil, List.getElem?_toArray, List.getElem?_cons_zero, List.getElem?_cons_succ, Option.map_some]
    refine o_y (Y_fa 5 rfl Tryz.underlying34 rfl sz30 rfl) rfl rfl ?_
    refine o_y (yl_ one30) rfl rfl ?_
    refine o_y (Y_fa 1 rfl Tryz.underlying138 rfl sz30 rfl) rfl rfl ?_
    refine o_y (yl_ one30) rfl rfl ?_
    refine o_y (Y_mv) rfl rfl ?_
    refine o_y (Y_ia rfl rfl Tryz.underlying30 sz93 rfl (by omega)) rfl rfl ?_
    refine o_y (Y_fa 3 rfl Tryz.underlying93 rfl sz3 rfl) rfl rfl ?_
    refine o_y (yl_ one3) rfl rfl ?_
    refine o_y (Y_fa 1 rfl Tryz.underlying138 rfl sz30 rfl) rfl rfl ?_
    refine o_y (yl_ one30) rfl rfl ?_
    refine o_y (Y_mv) rfl rfl ?_
    refine o_y (Y_ia rfl rfl Tryz.underlying30 sz93 rfl (by omega)) rfl rfl ?_
    refine o_y (Y_fa 4 rfl Tryz.underlying93 rfl sz3 rfl) rfl rfl ?_
    refine o_y (yl_ one3) rfl rfl ?_
    refine o_c (En_call (fun _ => rfl) Tryz.func73 rfl (by kernel_rfl) rfl) (fun w hH => reat_d (l := es) (hes hw.e hH (fun x hx => List.mem_cons_of_mem _ (List.mem_cons_of_mem _ (List.mem_cons_of_mem _ hx))))) (fun _ _ h => by obtain ⟨rfl, rfl⟩ := h; exact kp_) rfl rfl ?_
    rintro _ _ ⟨rfl, rfl⟩
    refine o_y (Y_lss rfl rfl) rfl rfl ?_
    refine o_nil ?_
    refine q_then ?_
    first | refine c_cond' rfl (fun hc4 => ?_) (fun hc4 => ?_) | refine c_cond rfl (fun hc4 => ?_) (fun hc4 => ?_)
    · skip
      try simp only [nrm_] at hc4
      refine c_rordS (L0 := [wB b2 [iv d.seed, iv d.frame, iv d.floor, iv d.state, .slice (some ⟨s.cb, s.co, none⟩) d.cells.length s.cc, .slice (some ⟨eb, eo, none⟩) d.ents.length ec, .slice (some ⟨s.ib, s.io, none⟩) d.items.length s.ic, iv d.gold.a, iv d.gold.b, iv d.gold.c, iv d.gold.d], ⟨b3, 138, 3, 1, [cv, .slice (some ⟨lb, lo, none⟩) m.ents.length lc, miv]⟩]) sl_ [9] [(0, true), (1, true), (2, true), (3, true), (4, true), (5, true), (6, true), (7, false), (8, true), (9, false)] (by kernel_rfl) (by kernel_rfl) (by kernel_rfl) (by kernel_rfl) rfl (by intro c a d v w h; cases d <;> exact h) rfl ?_
      simp only [mkOrd, List.filterMap_cons, List.filterMap_nil, List.getElem?_toArray, List.getElem?_cons_zero, List.getElem?_cons_succ, Option.map_some]
      refine o_y (Y_fa 5 rfl Tryz.underlying34 rfl sz30 rfl) rfl rfl ?_
      refine o_y (yl_ one30) rfl rfl ?_
      refine o_y (Y_fa 1 rfl Tryz.underlying138 rfl sz30 rfl) rfl rfl ?_
      refine o_y (yl_ one30) rfl rfl ?_
      refine o_y (Y_mv) rfl rfl ?_
      refine o_y (Y_ia rfl rfl Tryz.underlying30 sz93 rfl (by omega)) rfl rfl ?_
      refine o_y (Y_loadNR rfl many93 hr rfl) rfl rfl ?_
      refine o_c (En_call (fun _ => rfl) Tryz.func88 rfl (by kernel_rfl) rfl) (fun w hH => rspawned_d (hes hw.e hH (fun x hx => List.mem_cons_of_mem _ (List.mem_cons_of_mem _ (List.mem_cons_of_mem _ hx)))) h1.1 e) (fun _ _ h => by obtain hP := h; exact kp_) rfl rfl ?_
      rintro _ _ hP
      rename_i v2 L2
      have h12 := hP.one
      refine QL.perm List.perm_append_comm ?_
      refine o_y (Y_fa 5 rfl Tryz.underlying34 rfl sz30 rfl) rfl rfl ?_
      refine o_s (S_st rfl gt_ sz30 h12 up_ (by first | (simp only [Nat.zero_add, Nat.reduceAdd, List.set_cons_succ, List.set_cons_zero]; rfl) | rfl) (by simp)) kp_ rfl ?_
      refine o_nil ?_
      refine q_bn ?_
      refine q_then ?_
      refine c_reg ?_
      refine s_y (Y_mv) rfl rfl ?_
      refine s_y ad_ rfl rfl ?_
      refine s_y (Y_as) rfl rfl ?_
      refine s_nil ?_
      have hso : stockOne es e = spawnedM es e := by unfold stockOne; rw [if_pos hc4]
      rw [hso] at hf
      cases hP with
      | old h =>
        rw [h] at hf
        refine hK (q - 1) (i + 1, es, _, B) _ _ (by omega) ⟨by simp only; omega, hf, hE⟩ ⟨rfl, trivial⟩ rfl (fun _ h => ?_)
        simpa using h
      | @new g cap hg1 hg2 =>
        refine hK (q - 1) (i + 1, spawnedM es e, _, [eB g cap (spawnedM es e)]) _ _ (by omega) ⟨by simp only; omega, hf, .new hg1 hg2⟩ ⟨rfl, trivial⟩ rfl (fun _ h => h.sub ?_)
        exact ((List.sublist_append_right B [eB g cap (spawnedM es e)]).cons_cons _).cons_cons _ |>.cons_cons _
    · skip
      try simp only [nrm_] at hc4
      refine c_skip ?_
      refine q_bn ?_
      refine q_then ?_
      refine c_reg ?_
      refine s_y (Y_mv) rfl rfl ?_
      refine s_y ad_ rfl rfl ?_
      refine s_y (Y_as) rfl rfl ?_
      refine s_nil ?_
      have hso : stockOne es e = es := by unfold stockOne; rw [if_neg hc4]
      rw [hso] at hf
      refine hK (q - 1) (i + 1, es, _, B) _ _ (by omega) ⟨by simp only; omega, hf, hE⟩ ⟨rfl, trivial⟩ rfl (fun _ h => h)
  · skip
    try simp only [nrm_] at hc2
    refine c_exit ?_
    repeat with_reducible refine q_te ?_
    refine q_exit ?_
    refine q_then ?_
    refine c_seq ?_
    refine c_reg ?_
    refine s_y (Y_fa 6 rfl Tryz.underlying34 rfl sz31 rfl) rfl rfl ?_
    refine s_y (yl_ one31) rfl rfl ?_
    refine s_y (Y_fa 2 rfl Tryz.underlying138 rfl sz31 rfl) rfl rfl ?_
    refine s_y (yl_ one31) rfl rfl ?_
    refine s_c (En_call (fun _ => rfl) Tryz.func123 rfl (by kernel_rfl) rfl) (fun w hH => rlay_d (hw.i.has hH) h1.2 (hmi.has hH)) rfl rfl ?_
    rintro _ _ ⟨ig, ic, hic, rfl, rfl⟩
    refine s_y (Y_fa 6 rfl Tryz.underlying34 rfl sz31 rfl) rfl rfl ?_
    refine s_s (S_st rfl gt_ sz31 (by rfl) up_ (by first | (simp only [Nat.zero_add, Nat.reduceAdd, List.set_cons_succ, List.set_cons_zero]; rfl) | rfl) (by first | (simp; done) | omega)) rfl ?_
    refine s_nil ?_
    refine q_then ?_
    refine c_seq ?_
    have hall : ([iv d.seed, iv d.frame, iv d.floor, iv d.state, .slice (some ⟨s.cb, s.co, none⟩) d.cells.length s.cc, v, .slice (some ⟨ig, 0, none⟩) d.items.length ic, iv d.gold.a, iv d.gold.b, iv d.gold.c, iv d.gold.d] : List Value).all (·.oneCell') = true := by simp only [List.all_cons, List.all_nil, hE.one]; rfl
    refine c_reg ?_
    refine s_y (ya_ many34) rfl rfl ?_
    refine s_s ((sa_ sz34)) rfl ?_
    refine s_nil ?_
    refine q_then ?_
    refine c_ret ?_
    refine q_ret1c rfl rfl many34 mm_ (by rfl) (L' := _) sl_ (⟨v, B, ig, ic, rfl, by rw [show i = m.ents.length by omega, List.drop_length] at hf; rw [show (stockW d m).ents = es from hf.symm]; exact hE, hic, rfl⟩)
def WdN (d : Wd) (v : Value) (L : List Bk) : Prop := ∃ cb cc eb ec ib ic, v = .agg (wv d ⟨cb, 0, cc, eb, 0, ec, ib, 0, ic⟩).toArray ∧ L = [cB cb cc d.cells, eB eb ec d.ents, iB ib ic d.items] ∧ d.cells.length ≤ cc ∧ d.ents.length ≤ ec ∧ d.items.length ≤ ic
theorem wAt_of {w : World} {L : List Bk} {W0 : World} {M : List Nat} {d : Wd} {cb cc eb ec ib ic : Nat} (hH : Has W0 M L w) (h1 : cB cb cc d.cells ∈ L) (h2 : eB eb ec d.ents ∈ L) (h3 : iB ib ic d.items ∈ L) (l1 : d.cells.length ≤ cc) (l2 : d.ents.length ≤ ec) (l3 : d.items.length ≤ ic) : WAt w d ⟨cb, 0, cc, eb, 0, ec, ib, 0, ic⟩ :=
  ⟨(hH.at' h1).sl (by simp) l1, (hH.at' h2).sl (by rw [ecells_len]) l2, (hH.at' h3).sl (by rw [icells_len]) l3⟩
theorem fl_rep {α : Type} {c : α → List Value} {k : Nat} {u : Value} {a : α} (h : c a = List.replicate k u) : ∀ n, (List.replicate n a).flatMap c = List.replicate (n * k) u
  | 0 => by simp
  | n + 1 => by rw [List.replicate_succ, List.flatMap_cons, fl_rep h n, h, List.replicate_append_replicate, Nat.succ_mul, Nat.add_comm]
theorem ezero (b n : Nat) : eB b n (List.replicate n Ent.zero) = ⟨b, 93, 11, n, List.replicate (n * 11) (iv 0)⟩ := by rw [eB, ecells, fl_rep (c := Ent.cells) (k := 11) (u := iv 0) rfl]
theorem izero (b n : Nat) : iB b n (List.replicate n Itm.zero) = ⟨b, 98, 4, n, List.replicate (n * 4) (iv 0)⟩ := by rw [iB, icells, fl_rep (c := Itm.cells) (k := 4) (u := iv 0) rfl]
def newM (seed : Int) : Wd := stockW ⟨seed, 0, 1, 0, (makeM seed 1).cells, List.replicate 32 Ent.zero, List.replicate 40 Itm.zero, ⟨0, 0, 0, 0⟩⟩ (makeM seed 1)
theorem make_len (seed floor : Int) : (makeM seed floor).cells.length = 384 := by
  show (cellsM seed floor).length = 384
  rw [cellsM, shopC_len, down_len]
theorem rmake_d' {seed floor : Int} (hfl : 1 ≤ floor ∧ floor ≤ 3) : Does Tryz.prog 75 [iv seed, iv floor] W [] (fun v L => ∃ cb ev E iv' I, v = .agg #[.slice (some ⟨cb, 0, none⟩) (makeM seed floor).cells.length 384, ev, iv'] ∧ Row 93 11 ev (makeM seed floor).ents.length (ecells (makeM seed floor).ents) E ∧ Row 98 4 iv' (makeM seed floor).items.length (icells (makeM seed floor).items) I ∧ L = cB cb 384 (makeM seed floor).cells :: (I ++ E)) :=
  (rmake_d hfl).post fun v L ⟨cb, ev, E, iv', I, h1, h2, h3, h4⟩ => ⟨cb, ev, E, iv', I, by rw [make_len]; exact h1, h2, h3, h4⟩
set_option maxRecDepth 100000 in
theorem rnew_d {seed : Int} : Does Tryz.prog 45 [iv seed] W [] (WdN (newM seed)) := by
  refine enter Tryz.func45 rfl rfl rfl (Has.start _) ?_
  refine c_seq ?_
  refine c_reg ?_
  refine s_n (N_alloc (z := .agg #[.int .i64 0, .int .i64 0, .int .i64 0, .int .i64 0, .slice none 0 0, .slice none 0 0, .slice none 0 0, .int .i64 0, .int .i64 0, .int .i64 0, .int .i64 0]) (cs := [.int .i64 0, .int .i64 0, .int .i64 0, .int .i64 0, .slice none 0 0, .slice none 0 0, .slice none 0 0, .int .i64 0, .int .i64 0, .int .i64 0, .int .i64 0]) zv34 rfl) rfl rfl (fun b2 _ => ?_)
  refine s_nil ?_
  refine q_then ?_
  refine c_seq ?_
  refine c_reg ?_
  refine s_y (Y_mv) rfl rfl ?_
  refine s_c (En_call (fun _ => rfl) Tryz.func75 rfl (by kernel_rfl) rfl) (fun w hH => rmake_d' (by decide)) rfl rfl ?_
  rintro _ _ ⟨cb, ev, E, iv', I, rfl, hE, hI, rfl⟩
  refine QL.last ?_
  refine s_n (N_alloc (z := .agg #[.slice none 0 0, .slice none 0 0, .slice none 0 0]) (cs := [.slice none 0 0, .slice none 0 0, .slice none 0 0]) zv138 rfl) rfl rfl (fun b3 _ => ?_)
  refine s_s (S_storeA (vs := [.slice (some ⟨cb, 0, none⟩) (makeM seed 1).cells.length 384, ev, iv']) rfl rfl sz138 (by rfl) (by simp only [List.all_cons, List.all_nil, hE.one, hI.one]; rfl) up_ (by rfl)) rfl ?_
  refine s_nil ?_
  refine q_then ?_
  refine c_seq ?_
  refine c_meetQ (ks := [4, 7, 8, 9, 10, 11, 12]) (tr := fun y : Nat × Nat × Nat => [(4, .pointer (some ⟨y.1, 0, none⟩))]) (φ := fun y => True) (G := fun y => wB y.1 [iv seed, iv 0, iv 1, iv 0, .slice (some ⟨cb, 0, none⟩) (makeM seed 1).cells.length 384, .slice (some ⟨y.2.1, 0, none⟩) 32 32, .slice (some ⟨y.2.2, 0, none⟩) 40 40, iv 0, iv 0, iv 0, iv 0] :: eB y.2.1 32 (List.replicate 32 Ent.zero) :: iB y.2.2 40 (List.replicate 40 Itm.zero) :: ⟨b3, 138, 3, 1, [.slice (some ⟨cb, 0, none⟩) (makeM seed 1).cells.length 384, ev, iv']⟩ :: wB b2 wz :: cB cb 384 (makeM seed 1).cells :: (I ++ E)) (fun _ => rfl) ?_ ?_
  · rintro ⟨b4, b10, b11⟩ j hj
    refine q_then ?_
    refine c_seq ?_
    have hcl : (makeM seed 1).cells.length = 384 := make_len seed 1
    refine c_reg ?_
    refine s_y (ya_ many34) rfl rfl ?_
    refine s_y (ya_ many138) rfl rfl ?_
    refine s_c (En_call (fun _ => rfl) Tryz.func76 rfl (by kernel_rfl) rfl) (fun w hH => rstock_d (d := ⟨seed, 0, 1, 0, (makeM seed 1).cells, List.replicate 32 Ent.zero, List.replicate 40 Itm.zero, ⟨0, 0, 0, 0⟩⟩) (s := ⟨cb, 0, 384, b10, 0, 32, b11, 0, 40⟩) (m := makeM seed 1) (wAt_of hH (d := ⟨seed, 0, 1, 0, (makeM seed 1).cells, List.replicate 32 Ent.zero, List.replicate 40 Itm.zero, ⟨0, 0, 0, 0⟩⟩) mm_ mm_ mm_ (Nat.le_of_eq hcl) (by simp) (by simp)) (by simp) rfl (hE.slv hH (fun x hx => by repeat (first | exact hx | exact List.mem_append_left _ hx | exact List.mem_append_right _ hx | apply List.Mem.tail | apply List.mem_append_right))) (hI.slv hH (fun x hx => by repeat (first | exact hx | exact List.mem_append_left _ hx | exact List.mem_append_right _ hx | apply List.Mem.tail | apply List.mem_append_right)))) rfl rfl ?_
    rintro _ _ ⟨ev2, B, ig, ic, rfl, hE2, hi2, rfl⟩
    obtain ⟨eb2, ec2, rfl, hB⟩ := hE2.open
    have hl2 : (newM seed).ents.length = 32 := by show (stockEnts (List.replicate 32 Ent.zero) _).length = 32; rw [stockEnts_len, List.length_replicate]
    have hl3 : (newM seed).items.length = 40 := by show (layM (List.replicate 40 Itm.zero) _).length = 40; rw [layM_len, List.length_replicate]
    have hec : 32 ≤ ec2 := by
      rcases hB with ⟨_, _, h, _⟩ | ⟨h, h2, _⟩
      · have h : ec2 = 32 := h
        omega
      · simp only [List.length_replicate] at h2; omega
    refine QL.conv (L' := [wB b2 wz, cB cb 384 (makeM seed 1).cells, eB eb2 ec2 (newM seed).ents, iB ig ic (newM seed).items]) (fun w hw => ?_) ?_
    · rcases hB with ⟨h1, rfl, rfl, rfl⟩ | ⟨_, _, rfl⟩
      · rw [show (newM seed).ents = List.replicate 32 Ent.zero from h1]; exact hw.pick ss_
      · exact hw.pick ss_
    refine s_s ((sa_ sz34)) rfl ?_
    refine s_nil ?_
    refine q_then ?_
    refine c_ret ?_
    refine q_ret1c rfl rfl many34 mm_ (by rfl) (L' := [cB cb 384 (makeM seed 1).cells, eB eb2 ec2 (newM seed).ents, iB ig ic (newM seed).items]) sl_ ⟨cb, 384, eb2, ec2, ig, ic, wv_eq (d := newM seed) (s := ⟨cb, 0, 384, eb2, 0, ec2, ig, 0, ic⟩) hcl hl2 hl3 (by rw [hcl]; simp only [List.length_replicate]; rfl), rfl, by show (makeM seed 1).cells.length ≤ 384; omega, by omega, by simp only [List.length_replicate] at hi2; omega⟩
  · intro go
    refine c_rall (L0 := [⟨b3, 138, 3, 1, [.slice (some ⟨cb, 0, none⟩) (makeM seed 1).cells.length 384, ev, iv']⟩]) sl_ [7] (.take 0 (.take 1 (.take 2 (.alt 3 (.alt 4 (.take 5 (.one 6 (.one 7 .nil))) (.one 6 (.one 4 (.take 5 (.one 7 .nil))))) (.alt 4 (.alt 3 (.take 5 (.one 6 (.one 7 .nil))) (.one 6 (.one 3 (.take 5 (.one 7 .nil))))) (.one 6 (.alt 3 (.one 4 (.take 5 (.one 7 .nil))) (.one 4 (.one 3 (.take 5 (.one 7 .nil))))))))))) (by kernel_rfl) (by kernel_rfl) (by kernel_rfl) (by kernel_rfl) (by kernel_rfl) (by intro c a d v w h; cases d <;> exact h) rfl ?_
    refine t_y (Y_mv) rfl rfl ?_
    refine t_y (Y_fa 0 rfl Tryz.underlying138 rfl sz24 rfl) rfl rfl ?_
    refine t_y (yl_ one24) rfl rfl ?_
    refine t_two ?_ ?_
    · skip
      refine t_n (N_makeU (n := 32) (u0 := .int .i64 0) rfl rfl Tryz.underlying30 inf93 rfl (by omega) rfl (by omega) (by omega)) (fun _ => kp_) rfl rfl (fun b10 _ => ?_)
      refine t_two ?_ ?_
      · skip
        refine t_n (N_makeU (n := 40) (u0 := .int .i64 0) rfl rfl Tryz.underlying31 inf98 rfl (by omega) rfl (by omega) (by omega)) (fun _ => kp_) rfl rfl (fun b11 _ => ?_)
        refine t_y (Y_build (cs := [iv seed, iv 0, iv 1, iv 0, .slice (some ⟨cb, 0, none⟩) (makeM seed 1).cells.length 384, .slice (some ⟨b10, 0, none⟩) 32 32, .slice (some ⟨b11, 0, none⟩) 40 40, iv 0, iv 0, iv 0, iv 0]) (by repeat (first | exact Gp.nil | apply Gp.const | apply Gp.tmp gt_)) (bld34 _ _ (by kernel_rfl))) rfl rfl ?_
        refine t_n (N_alloc (z := .agg #[.int .i64 0, .int .i64 0, .int .i64 0, .int .i64 0, .slice none 0 0, .slice none 0 0, .slice none 0 0, .int .i64 0, .int .i64 0, .int .i64 0, .int .i64 0]) (cs := [.int .i64 0, .int .i64 0, .int .i64 0, .int .i64 0, .slice none 0 0, .slice none 0 0, .slice none 0 0, .int .i64 0, .int .i64 0, .int .i64 0, .int .i64 0]) zv34 rfl) (fun _ => kp_) rfl rfl (fun b4 _ => ?_)
        refine t_s (S_storeA (vs := [iv seed, iv 0, iv 1, iv 0, .slice (some ⟨cb, 0, none⟩) (makeM seed 1).cells.length 384, .slice (some ⟨b10, 0, none⟩) 32 32, .slice (some ⟨b11, 0, none⟩) 40 40, iv 0, iv 0, iv 0, iv 0]) rfl rfl sz34 (by rfl) (by rfl) up_ (by rfl)) kp_ rfl ?_
        refine t_nil ?_
        refine go (b4, b10, b11) _ _ trivial ⟨rfl, trivial⟩ rfl (fun w h => ?_)
        rw [ezero, izero]
        exact h.pick2 (xs := [wB b4 [iv seed, iv 0, iv 1, iv 0, .slice (some ⟨cb, 0, none⟩) (makeM seed 1).cells.length 384, .slice (some ⟨b10, 0, none⟩) 32 32, .slice (some ⟨b11, 0, none⟩) 40 40, iv 0, iv 0, iv 0, iv 0], ⟨b10, 93, 11, 32, List.replicate (32 * 11) (iv 0)⟩, ⟨b11, 98, 4, 40, List.replicate (40 * 4) (iv 0)⟩, ⟨b3, 138, 3, 1, [.slice (some ⟨cb, 0, none⟩) (makeM seed 1).cells.length 384, ev, iv']⟩, wB b2 wz, cB cb 384 (makeM seed 1).cells]) (R' := I ++ E) ss_ sl_
      refine t_n (N_alloc (z := .agg #[.int .i64 0, .int .i64 0, .int .i64 0, .int .i64 0, .slice none 0 0, .slice none 0 0, .slice none 0 0, .int .i64 0, .int .i64 0, .int .i64 0, .int .i64 0]) (cs := [.int .i64 0, .int .i64 0, .int .i64 0, .int .i64 0, .slice none 0 0, .slice none 0 0, .slice none 0 0, .int .i64 0, .int .i64 0, .int .i64 0, .int .i64 0]) zv34 rfl) (fun _ => kp_) rfl rfl (fun b4 _ => ?_)
      refine t_n (N_makeU (n := 40) (u0 := .int .i64 0) rfl rfl Tryz.underlying31 inf98 rfl (by omega) rfl (by omega) (by omega)) (fun _ => kp_) rfl rfl (fun b11 _ => ?_)
      refine t_y (Y_build (cs := [iv seed, iv 0, iv 1, iv 0, .slice (some ⟨cb, 0, none⟩) (makeM seed 1).cells.length 384, .slice (some ⟨b10, 0, none⟩) 32 32, .slice (some ⟨b11, 0, none⟩) 40 40, iv 0, iv 0, iv 0, iv 0]) (by repeat (first | exact Gp.nil | apply Gp.const | apply Gp.tmp gt_)) (bld34 _ _ (by kernel_rfl))) rfl rfl ?_
      refine t_s (S_storeA (vs := [iv seed, iv 0, iv 1, iv 0, .slice (some ⟨cb, 0, none⟩) (makeM seed 1).cells.length 384, .slice (some ⟨b10, 0, none⟩) 32 32, .slice (some ⟨b11, 0, none⟩) 40 40, iv 0, iv 0, iv 0, iv 0]) rfl rfl sz34 (by rfl) (by rfl) up_ (by rfl)) kp_ rfl ?_
      refine t_nil ?_
      refine go (b4, b10, b11) _ _ trivial ⟨rfl, trivial⟩ rfl (fun w h => ?_)
      rw [ezero, izero]
      exact h.pick2 (xs := [wB b4 [iv seed, iv 0, iv 1, iv 0, .slice (some ⟨cb, 0, none⟩) (makeM seed 1).cells.length 384, .slice (some ⟨b10, 0, none⟩) 32 32, .slice (some ⟨b11, 0, none⟩) 40 40, iv 0, iv 0, iv 0, iv 0], ⟨b10, 93, 11, 32, List.replicate (32 * 11) (iv 0)⟩, ⟨b11, 98, 4, 40, List.replicate (40 * 4) (iv 0)⟩, ⟨b3, 138, 3, 1, [.slice (some ⟨cb, 0, none⟩) (makeM seed 1).cells.length 384, ev, iv']⟩, wB b2 wz, cB cb 384 (makeM seed 1).cells]) (R' := I ++ E) ss_ sl_
    refine t_two ?_ ?_
    · skip
      refine t_n (N_makeU (n := 40) (u0 := .int .i64 0) rfl rfl Tryz.underlying31 inf98 rfl (by omega) rfl (by omega) (by omega)) (fun _ => kp_) rfl rfl (fun b11 _ => ?_)
      refine t_two ?_ ?_
      · skip
        refine t_n (N_makeU (n := 32) (u0 := .int .i64 0) rfl rfl Tryz.underlying30 inf93 rfl (by omega) rfl (by omega) (by omega)) (fun _ => kp_) rfl rfl (fun b10 _ => ?_)
        refine t_y (Y_build (cs := [iv seed, iv 0, iv 1, iv 0, .slice (some ⟨cb, 0, none⟩) (makeM seed 1).cells.length 384, .slice (some ⟨b10, 0, none⟩) 32 32, .slice (some ⟨b11, 0, none⟩) 40 40, iv 0, iv 0, iv 0, iv 0]) (by repeat (first | exact Gp.nil | apply Gp.const | apply Gp.tmp gt_)) (bld34 _ _ (by kernel_rfl))) rfl rfl ?_
        refine t_n (N_alloc (z := .agg #[.int .i64 0, .int .i64 0, .int .i64 0, .int .i64 0, .slice none 0 0, .slice none 0 0, .slice none 0 0, .int .i64 0, .int .i64 0, .int .i64 0, .int .i64 0]) (cs := [.int .i64 0, .int .i64 0, .int .i64 0, .int .i64 0, .slice none 0 0, .slice none 0 0, .slice none 0 0, .int .i64 0, .int .i64 0, .int .i64 0, .int .i64 0]) zv34 rfl) (fun _ => kp_) rfl rfl (fun b4 _ => ?_)
        refine t_s (S_storeA (vs := [iv seed, iv 0, iv 1, iv 0, .slice (some ⟨cb, 0, none⟩) (makeM seed 1).cells.length 384, .slice (some ⟨b10, 0, none⟩) 32 32, .slice (some ⟨b11, 0, none⟩) 40 40, iv 0, iv 0, iv 0, iv 0]) rfl rfl sz34 (by rfl) (by rfl) up_ (by rfl)) kp_ rfl ?_
        refine t_nil ?_
        refine go (b4, b10, b11) _ _ trivial ⟨rfl, trivial⟩ rfl (fun w h => ?_)
        rw [ezero, izero]
        exact h.pick2 (xs := [wB b4 [iv seed, iv 0, iv 1, iv 0, .slice (some ⟨cb, 0, none⟩) (makeM seed 1).cells.length 384, .slice (some ⟨b10, 0, none⟩) 32 32, .slice (some ⟨b11, 0, none⟩) 40 40, iv 0, iv 0, iv 0, iv 0], ⟨b10, 93, 11, 32, List.replicate (32 * 11) (iv 0)⟩, ⟨b11, 98, 4, 40, List.replicate (40 * 4) (iv 0)⟩, ⟨b3, 138, 3, 1, [.slice (some ⟨cb, 0, none⟩) (makeM seed 1).cells.length 384, ev, iv']⟩, wB b2 wz, cB cb 384 (makeM seed 1).cells]) (R' := I ++ E) ss_ sl_
      refine t_n (N_alloc (z := .agg #[.int .i64 0, .int .i64 0, .int .i64 0, .int .i64 0, .slice none 0 0, .slice none 0 0, .slice none 0 0, .int .i64 0, .int .i64 0, .int .i64 0, .int .i64 0]) (cs := [.int .i64 0, .int .i64 0, .int .i64 0, .int .i64 0, .slice none 0 0, .slice none 0 0, .slice none 0 0, .int .i64 0, .int .i64 0, .int .i64 0, .int .i64 0]) zv34 rfl) (fun _ => kp_) rfl rfl (fun b4 _ => ?_)
      refine t_n (N_makeU (n := 32) (u0 := .int .i64 0) rfl rfl Tryz.underlying30 inf93 rfl (by omega) rfl (by omega) (by omega)) (fun _ => kp_) rfl rfl (fun b10 _ => ?_)
      refine t_y (Y_build (cs := [iv seed, iv 0, iv 1, iv 0, .slice (some ⟨cb, 0, none⟩) (makeM seed 1).cells.length 384, .slice (some ⟨b10, 0, none⟩) 32 32, .slice (some ⟨b11, 0, none⟩) 40 40, iv 0, iv 0, iv 0, iv 0]) (by repeat (first | exact Gp.nil | apply Gp.const | apply Gp.tmp gt_)) (bld34 _ _ (by kernel_rfl))) rfl rfl ?_
      refine t_s (S_storeA (vs := [iv seed, iv 0, iv 1, iv 0, .slice (some ⟨cb, 0, none⟩) (makeM seed 1).cells.length 384, .slice (some ⟨b10, 0, none⟩) 32 32, .slice (some ⟨b11, 0, none⟩) 40 40, iv 0, iv 0, iv 0, iv 0]) rfl rfl sz34 (by rfl) (by rfl) up_ (by rfl)) kp_ rfl ?_
      refine t_nil ?_
      refine go (b4, b10, b11) _ _ trivial ⟨rfl, trivial⟩ rfl (fun w h => ?_)
      rw [ezero, izero]
      exact h.pick2 (xs := [wB b4 [iv seed, iv 0, iv 1, iv 0, .slice (some ⟨cb, 0, none⟩) (makeM seed 1).cells.length 384, .slice (some ⟨b10, 0, none⟩) 32 32, .slice (some ⟨b11, 0, none⟩) 40 40, iv 0, iv 0, iv 0, iv 0], ⟨b10, 93, 11, 32, List.replicate (32 * 11) (iv 0)⟩, ⟨b11, 98, 4, 40, List.replicate (40 * 4) (iv 0)⟩, ⟨b3, 138, 3, 1, [.slice (some ⟨cb, 0, none⟩) (makeM seed 1).cells.length 384, ev, iv']⟩, wB b2 wz, cB cb 384 (makeM seed 1).cells]) (R' := I ++ E) ss_ sl_
    refine t_n (N_alloc (z := .agg #[.int .i64 0, .int .i64 0, .int .i64 0, .int .i64 0, .slice none 0 0, .slice none 0 0, .slice none 0 0, .int .i64 0, .int .i64 0, .int .i64 0, .int .i64 0]) (cs := [.int .i64 0, .int .i64 0, .int .i64 0, .int .i64 0, .slice none 0 0, .slice none 0 0, .slice none 0 0, .int .i64 0, .int .i64 0, .int .i64 0, .int .i64 0]) zv34 rfl) (fun _ => kp_) rfl rfl (fun b4 _ => ?_)
    refine t_two ?_ ?_
    · skip
      refine t_n (N_makeU (n := 32) (u0 := .int .i64 0) rfl rfl Tryz.underlying30 inf93 rfl (by omega) rfl (by omega) (by omega)) (fun _ => kp_) rfl rfl (fun b10 _ => ?_)
      refine t_n (N_makeU (n := 40) (u0 := .int .i64 0) rfl rfl Tryz.underlying31 inf98 rfl (by omega) rfl (by omega) (by omega)) (fun _ => kp_) rfl rfl (fun b11 _ => ?_)
      refine t_y (Y_build (cs := [iv seed, iv 0, iv 1, iv 0, .slice (some ⟨cb, 0, none⟩) (makeM seed 1).cells.length 384, .slice (some ⟨b10, 0, none⟩) 32 32, .slice (some ⟨b11, 0, none⟩) 40 40, iv 0, iv 0, iv 0, iv 0]) (by repeat (first | exact Gp.nil | apply Gp.const | apply Gp.tmp gt_)) (bld34 _ _ (by kernel_rfl))) rfl rfl ?_
      refine t_s (S_storeA (vs := [iv seed, iv 0, iv 1, iv 0, .slice (some ⟨cb, 0, none⟩) (makeM seed 1).cells.length 384, .slice (some ⟨b10, 0, none⟩) 32 32, .slice (some ⟨b11, 0, none⟩) 40 40, iv 0, iv 0, iv 0, iv 0]) rfl rfl sz34 (by rfl) (by rfl) up_ (by rfl)) kp_ rfl ?_
      refine t_nil ?_
      refine go (b4, b10, b11) _ _ trivial ⟨rfl, trivial⟩ rfl (fun w h => ?_)
      rw [ezero, izero]
      exact h.pick2 (xs := [wB b4 [iv seed, iv 0, iv 1, iv 0, .slice (some ⟨cb, 0, none⟩) (makeM seed 1).cells.length 384, .slice (some ⟨b10, 0, none⟩) 32 32, .slice (some ⟨b11, 0, none⟩) 40 40, iv 0, iv 0, iv 0, iv 0], ⟨b10, 93, 11, 32, List.replicate (32 * 11) (iv 0)⟩, ⟨b11, 98, 4, 40, List.replicate (40 * 4) (iv 0)⟩, ⟨b3, 138, 3, 1, [.slice (some ⟨cb, 0, none⟩) (makeM seed 1).cells.length 384, ev, iv']⟩, wB b2 wz, cB cb 384 (makeM seed 1).cells]) (R' := I ++ E) ss_ sl_
    refine t_n (N_makeU (n := 40) (u0 := .int .i64 0) rfl rfl Tryz.underlying31 inf98 rfl (by omega) rfl (by omega) (by omega)) (fun _ => kp_) rfl rfl (fun b11 _ => ?_)
    refine t_n (N_makeU (n := 32) (u0 := .int .i64 0) rfl rfl Tryz.underlying30 inf93 rfl (by omega) rfl (by omega) (by omega)) (fun _ => kp_) rfl rfl (fun b10 _ => ?_)
    refine t_y (Y_build (cs := [iv seed, iv 0, iv 1, iv 0, .slice (some ⟨cb, 0, none⟩) (makeM seed 1).cells.length 384, .slice (some ⟨b10, 0, none⟩) 32 32, .slice (some ⟨b11, 0, none⟩) 40 40, iv 0, iv 0, iv 0, iv 0]) (by repeat (first | exact Gp.nil | apply Gp.const | apply Gp.tmp gt_)) (bld34 _ _ (by kernel_rfl))) rfl rfl ?_
    refine t_s (S_storeA (vs := [iv seed, iv 0, iv 1, iv 0, .slice (some ⟨cb, 0, none⟩) (makeM seed 1).cells.length 384, .slice (some ⟨b10, 0, none⟩) 32 32, .slice (some ⟨b11, 0, none⟩) 40 40, iv 0, iv 0, iv 0, iv 0]) rfl rfl sz34 (by rfl) (by rfl) up_ (by rfl)) kp_ rfl ?_
    refine t_nil ?_
    refine go (b4, b10, b11) _ _ trivial ⟨rfl, trivial⟩ rfl (fun w h => ?_)
    rw [ezero, izero]
    exact h.pick2 (xs := [wB b4 [iv seed, iv 0, iv 1, iv 0, .slice (some ⟨cb, 0, none⟩) (makeM seed 1).cells.length 384, .slice (some ⟨b10, 0, none⟩) 32 32, .slice (some ⟨b11, 0, none⟩) 40 40, iv 0, iv 0, iv 0, iv 0], ⟨b10, 93, 11, 32, List.replicate (32 * 11) (iv 0)⟩, ⟨b11, 98, 4, 40, List.replicate (40 * 4) (iv 0)⟩, ⟨b3, 138, 3, 1, [.slice (some ⟨cb, 0, none⟩) (makeM seed 1).cells.length 384, ev, iv']⟩, wB b2 wz, cB cb 384 (makeM seed 1).cells]) (R' := I ++ E) ss_ sl_
end
end Go.Proofs.YtcogbkkdccohfaaGreat
namespace Go.Ad
open Go.RowKit Go.Maps
theorem En_callC {P : Program} {W : World} {M : List Nat} {L : List Bk} {ρ : Operand → Value} {x : Operand} {ty : TypeId} {f : FuncId} {fn : Func} {first cap : List Value} {args : List Operand} {ts : Array TypeId} {vs : List Value} (hx : ρ x = .func (.func f) first.toArray cap.toArray) (hf : P.funcs[f]? = some fn) (hb : fn.body.isNone = false) (hn : (fn.name == "runtime.NumGoroutine") = false) (hv : args.map ρ = vs) :
    En P W M L ρ (.call { callee := .value x, args := args.toArray, argTypes := ts }) ty f (first ++ vs ++ cap) := fun w _ o ho _ => by
  have h1 : ¬ fn.name = "runtime.NumGoroutine" := by intro h; simp [h] at hn
  have h2 : ¬ fn.body = none := by intro h; simp [h] at hb
  unfold execOp
  simp [ho, resolve, hx, Deferred.ofValue, invoke, callFunc, hf, ← hv, Result.andThen, h1, h2]
theorem Ex.ro {W w : World} {b o : Nat} {c : List Value} (h : Ex [] W w) (hr : Ro W b o c) : Ro w b o c := fun j v hv => by
  have h1 := hr j v hv
  rw [h.cell (p := ⟨b, o + j, none⟩) (block_lt_of_cell h1) (by simp)]; exact h1
end Go.Ad
namespace Go.Proofs.YtcogbkkdccohfaaGreat
open Go.RowKit Go.Ad Go.Maps
set_option linter.unusedVariables false
set_option linter.unusedSimpArgs false
section
variable {W : World}
set_option maxRecDepth 100000 in
theorem prows_d {b o n c : Nat} (hn : n ≤ c) (hg : c ≤ maxLen) : Does Tryz.prog 181 [.slice (some ⟨b, o, none⟩) n c] W [] (fun v L => v = .slice (some ⟨b, o, none⟩) (min n 32) c ∧ L = []) := by
  simp only [maxLen] at hg
  refine enter Tryz.func181 rfl rfl rfl (Has.start _) ?_
  refine c_seq ?_
  refine c_reg ?_
  refine s_y (Y_asC) rfl rfl ?_
  refine s_nil ?_
  refine q_then ?_
  refine c_seq ?_
  refine c_reg ?_
  refine s_y (Y_mv) rfl rfl ?_
  refine s_y (Y_mv) rfl rfl ?_
  refine s_y (Y_len rfl rfl Tryz.underlying30) rfl rfl ?_
  refine s_y ((Y_min rfl rfl).num (show min (n : Int) 32 = ((min n 32 : Nat) : Int) by omega)) rfl rfl ?_
  refine s_y (Y_slHi rfl rfl Tryz.underlying30 sz93 rfl (by omega)) rfl rfl ?_
  refine s_y (Y_as) rfl rfl ?_
  refine s_nil ?_
  refine q_then ?_
  refine c_ret ?_
  refine q_retG1 rfl gt_ (L' := _) sl_ (⟨rfl, rfl⟩)
set_option maxRecDepth 100000 in
theorem pfind_d {b o n c : Nat} {l : List Ent} (hs : SlB W b o n c 11 (ecells l)) {f : FuncId} {fn : Func} {cap : List Value} (p : Ent → Bool) (hf : Tryz.prog.funcs[f]? = some fn) (hb : fn.body.isNone = false) (hnm : (fn.name == "runtime.NumGoroutine") = false)
    (hcl : ∀ w, Ex [] W w → ∀ (i : Nat) (e : Ent), Does Tryz.prog f ([iv i, .agg e.cells.toArray] ++ cap) w [] (fun v L => v = .bool (p e) ∧ L = [])) :
    Does Tryz.prog 167 [.slice (some ⟨b, o, none⟩) n c, .func (.func f) #[] cap.toArray] W [] (fun v L => v = iv (fnd p (l.take 32) 0) ∧ L = []) := by
  obtain rfl : n = l.length := by have := hs.len; rw [ecells_len] at this; omega
  have hc := hs.cap
  have hg := hs.big
  refine enter Tryz.func167 rfl rfl rfl (Has.start _) ?_
  refine c_seq ?_
  refine c_reg ?_
  refine s_y (Y_asC) rfl rfl ?_
  refine s_nil ?_
  refine q_then ?_
  refine c_seq ?_
  refine c_seq ?_
  refine c_reg ?_
  refine s_y (Y_mv) rfl rfl ?_
  refine s_c (En_call (fun _ => rfl) Tryz.func181 rfl (by kernel_rfl) rfl) (fun w hH => prows_d hc hg) rfl rfl ?_
  rintro _ _ ⟨rfl, rfl⟩
  refine s_y (Y_len rfl rfl Tryz.underlying30) rfl rfl ?_
  refine s_y (Y_mvC) rfl rfl ?_
  refine s_nil ?_
  refine q_then ?_
  refine c_block ?_
  refine c_loop [4, 5, 6, 10, 11, 12, 13, 14, 15, 16, 17, 18, 19, 20] (fun m i => i + m = min l.length 32 ∧ fnd p ((l.take 32).drop i) i = fnd p (l.take 32) 0) (fun i => [(10, iv i)]) (fun _ => []) (min l.length 32) (0) (⟨by omega, rfl⟩) (by repeat (first | exact trivial | refine ⟨rfl, ?_⟩)) (fun _ h => h.sub sl_) (fun _ => rfl) ?_
  rintro m i j ⟨hi, hfd⟩ K hK
  refine c_seq ?_
  refine c_reg ?_
  refine s_y (Y_lss rfl rfl) rfl rfl ?_
  refine s_nil ?_
  refine q_then ?_
  refine c_seq ?_
  first | refine c_cond' rfl (fun hc2 => ?_) (fun hc2 => ?_) | refine c_cond rfl (fun hc2 => ?_) (fun hc2 => ?_)
  · skip
    try simp only [nrm_] at hc2
    refine c_skip ?_
    refine q_then ?_
    refine c_seq ?_
    refine c_block ?_
    refine c_seq ?_
    obtain ⟨e, he⟩ := take_lt (show i < (l.take 32).length by rw [List.length_take]; omega)
    have he2 : l[i]? = some e := by rw [List.getElem?_take_of_lt (by omega)] at he; exact he
    have hr := hs.at' Ent.len he2
    refine c_reg ?_
    refine s_y (Y_mv) rfl rfl ?_
    refine s_y (Y_ia rfl rfl Tryz.underlying30 sz93 rfl (by omega)) rfl rfl ?_
    refine s_y (ya_ many93) rfl rfl ?_
    refine s_n (N_alloc (z := .agg #[.int .i64 0, .int .i64 0, .int .i64 0, .int .i64 0, .int .i64 0, .int .i64 0, .int .i64 0, .int .i64 0, .int .i64 0, .int .i64 0, .int .i64 0]) (cs := [.int .i64 0, .int .i64 0, .int .i64 0, .int .i64 0, .int .i64 0, .int .i64 0, .int .i64 0, .int .i64 0, .int .i64 0, .int .i64 0, .int .i64 0]) zv93 rfl) rfl rfl (fun b6 _ => ?_)
    refine s_y (Y_as) rfl rfl ?_
    refine s_s ((sa_ sz93)) rfl ?_
    refine s_nil ?_
    refine q_then ?_
    refine c_seq ?_
    refine c_reg ?_
    refine s_y (Y_mv) rfl rfl ?_
    refine s_y (Y_mv) rfl rfl ?_
    refine s_y (ya_ many93) rfl rfl ?_
    refine s_c (En_callC (first := []) (cap := cap) rfl hf hb hnm rfl) (fun w hH => hcl w (hH.ex) i e) rfl rfl ?_
    rintro _ _ ⟨rfl, rfl⟩
    refine s_nil ?_
    refine q_then ?_
    refine c_cond (t := (p e)) rfl (fun hp => ?_) (fun hp => ?_)
    · skip
      try simp only [nrm_] at hp
      refine c_seq ?_
      refine c_reg ?_
      refine s_y (Y_mv) rfl rfl ?_
      refine s_y (Y_as) rfl rfl ?_
      refine s_nil ?_
      refine q_then ?_
      refine c_ret ?_
      refine q_retG1 rfl gt_ (L' := _) sl_ (⟨by rw [← hfd, fnd_here he hp], rfl⟩)
    · skip
      try simp only [nrm_] at hp
      refine c_skip ?_
      refine q_bn ?_
      refine q_then ?_
      refine c_reg ?_
      refine s_y ad_ rfl rfl ?_
      refine s_y (Y_mv) rfl rfl ?_
      refine s_nil ?_
      refine hK (m - 1) (i + 1) _ _ (by omega) ⟨by omega, by rw [← fnd_step he hp]; exact hfd⟩ ⟨rfl, trivial⟩ rfl (fun _ h => h.sub sl_)
  · skip
    try simp only [nrm_] at hc2
    refine c_exit ?_
    repeat with_reducible refine q_te ?_
    refine q_exit ?_
    refine q_then ?_
    refine c_seq ?_
    refine c_reg ?_
    refine s_y (Y_asC) rfl rfl ?_
    refine s_nil ?_
    refine q_then ?_
    refine c_ret ?_
    refine q_retG1 rfl gt_ (L' := _) sl_ (⟨by rw [← hfd, fnd_end (by rw [List.length_take]; omega)], rfl⟩)
set_option maxRecDepth 100000 in
theorem pat1_d {e : Ent} {i x y : Int} {b1 b2 : Nat} (h1 : Ro W b1 0 [iv x]) (h2 : Ro W b2 0 [iv y]) : Does Tryz.prog 168 [iv i, .agg e.cells.toArray, .pointer (some ⟨b1, 0, none⟩), .pointer (some ⟨b2, 0, none⟩)] W [] (fun v L => v = .bool (decide (e.kind ≠ 0 ∧ e.x = x ∧ e.y = y)) ∧ L = []) := by
  refine enter Tryz.func168 rfl rfl rfl (Has.start _) ?_
  refine c_seq ?_
  refine c_reg ?_
  refine s_n (N_box rfl) rfl rfl (fun b5 _ => ?_)
  refine s_y (Y_asC) rfl rfl ?_
  refine s_nil ?_
  refine q_then ?_
  refine c_seq ?_
  refine c_reg ?_
  refine s_y (Y_fa 0 rfl Tryz.underlying93 rfl sz3 rfl) rfl rfl ?_
  refine s_y (yl_ one3) rfl rfl ?_
  refine s_y (Y_neq rfl rfl) rfl rfl ?_
  refine s_y (Y_mv) rfl rfl ?_
  apply s_and 10 [10, 11, 12, 13, 14, 15, 16, 17, 18, 19, 20] 20 (g := 10) rfl rfl
  · intro ht4 hm
    try simp only [nrm_] at ht4
    first | refine s_y (Y_fa 3 rfl Tryz.underlying93 rfl sz3 rfl) rfl rfl ?_ | refine s_pass rfl rfl ?_
    first | refine s_y (yl_ one3) rfl rfl ?_ | refine s_pass rfl rfl ?_
    first | refine s_y (Y_fa 4 rfl Tryz.underlying93 rfl sz3 rfl) rfl rfl ?_ | refine s_pass rfl rfl ?_
    first | refine s_y (yl_ one3) rfl rfl ?_ | refine s_pass rfl rfl ?_
    first | refine s_y (Y_build (cs := [_, _]) (by repeat (first | exact Gp.nil | apply Gp.const | apply Gp.tmp gt_)) (bld218 _ _ (by first | rfl | (simp; rfl)))) rfl rfl ?_ | refine s_pass rfl rfl ?_
    first | refine s_y (Y_loadR (i := 0) rfl one3 h1 rfl rfl) rfl rfl ?_ | refine s_pass rfl rfl ?_
    first | refine s_y (Y_loadR (i := 0) rfl one3 h2 rfl rfl) rfl rfl ?_ | refine s_pass rfl rfl ?_
    first | refine s_y (Y_build (cs := [_, _]) (by repeat (first | exact Gp.nil | apply Gp.const | apply Gp.tmp gt_)) (bld218 _ _ (by first | rfl | (simp; rfl)))) rfl rfl ?_ | refine s_pass rfl rfl ?_
    first | refine s_y (Y_eqF (zs := [_, _]) (zs' := [_, _]) rfl rfl flat218 rfl rfl) rfl rfl ?_ | refine s_pass rfl rfl ?_
    refine s_y (Y_pk rfl (Gx.tmp gt_) Gx.const) rfl rfl ?_
    first | exact hm _ ⟨rfl, trivial⟩ rfl | exact QL.sub sl_ (hm _ ⟨rfl, trivial⟩ rfl)
  · intro ht4 hm
    iterate 9 refine s_pass rfl rfl ?_
    refine s_y (Y_pk rfl (Gx.tmp gt_) Gx.const) rfl rfl ?_
    exact hm _ ⟨rfl, trivial⟩ rfl
  intro j20
  refine s_y (Y_as) rfl rfl ?_
  refine s_nil ?_
  refine q_then ?_
  refine c_ret ?_
  refine q_retG1 rfl gt_ (L' := _) sl_ (⟨by congr 1; rw [Bool.eq_iff_iff]; simp only [nrm_]; simp, rfl⟩)
set_option maxRecDepth 100000 in
theorem phero1_d {e : Ent} {i x : Int} {b1 : Nat} (h1 : Ro W b1 0 [iv x]) : Does Tryz.prog 173 [iv i, .agg e.cells.toArray, .pointer (some ⟨b1, 0, none⟩)] W [] (fun v L => v = .bool (decide (e.kind = 1 ∧ e.seat = x)) ∧ L = []) := by
  refine enter Tryz.func173 rfl rfl rfl (Has.start _) ?_
  refine c_seq ?_
  refine c_reg ?_
  refine s_n (N_box rfl) rfl rfl (fun b4 _ => ?_)
  refine s_y (Y_asC) rfl rfl ?_
  refine s_nil ?_
  refine q_then ?_
  refine c_seq ?_
  refine c_reg ?_
  refine s_y (Y_fa 0 rfl Tryz.underlying93 rfl sz3 rfl) rfl rfl ?_
  refine s_y (yl_ one3) rfl rfl ?_
  refine s_y (Y_eql rfl rfl) rfl rfl ?_
  refine s_y (Y_mv) rfl rfl ?_
  apply s_and 5 [9, 10, 11, 12, 13, 14] 14 (g := 9) rfl rfl
  · intro ht4 hm
    try simp only [nrm_] at ht4
    first | refine s_y (Y_fa 2 rfl Tryz.underlying93 rfl sz3 rfl) rfl rfl ?_ | refine s_pass rfl rfl ?_
    first | refine s_y (yl_ one3) rfl rfl ?_ | refine s_pass rfl rfl ?_
    first | refine s_y (Y_loadR (i := 0) rfl one3 h1 rfl rfl) rfl rfl ?_ | refine s_pass rfl rfl ?_
    first | refine s_y (Y_eql rfl rfl) rfl rfl ?_ | refine s_pass rfl rfl ?_
    refine s_y (Y_pk rfl (Gx.tmp gt_) Gx.const) rfl rfl ?_
    first | exact hm _ ⟨rfl, trivial⟩ rfl | exact QL.sub sl_ (hm _ ⟨rfl, trivial⟩ rfl)
  · intro ht4 hm
    iterate 4 refine s_pass rfl rfl ?_
    refine s_y (Y_pk rfl (Gx.tmp gt_) Gx.const) rfl rfl ?_
    exact hm _ ⟨rfl, trivial⟩ rfl
  intro j14
  refine s_y (Y_as) rfl rfl ?_
  refine s_nil ?_
  refine q_then ?_
  refine c_ret ?_
  refine q_retG1 rfl gt_ (L' := _) sl_ (⟨by congr 1; rw [Bool.eq_iff_iff]; simp only [nrm_], rfl⟩)
set_option maxRecDepth 100000 in
theorem peat_d {b o n c : Nat} {l : List Ent} (hs : SlB W b o n c 11 (ecells l)) {x y : Int} : Does Tryz.prog 115 [.slice (some ⟨b, o, none⟩) n c, iv x, iv y] W [] (fun v L => v = iv (eAt (l.take 32) x y) ∧ L = []) := by
  refine enter Tryz.func115 rfl rfl rfl (Has.start _) ?_
  refine c_seq ?_
  refine c_reg ?_
  refine s_n (N_box1 rfl rfl) rfl rfl (fun b4 _ => ?_)
  refine s_n (N_box1 rfl rfl) rfl rfl (fun b5 _ => ?_)
  refine s_y (Y_asC) rfl rfl ?_
  refine s_nil ?_
  refine q_then ?_
  refine c_seq ?_
  refine c_reg ?_
  refine s_y (Y_mv) rfl rfl ?_
  refine s_y (Y_mk (by repeat (first | exact Gv.nil | apply Gv.const | apply Gv.tmp gt_)) (by repeat (first | exact Gv.nil | apply Gv.const | apply Gv.tmp gt_))) rfl rfl ?_
  refine s_c (En_call (fun _ => rfl) Tryz.func167 rfl (by kernel_rfl) rfl) (fun w hH => pfind_d (hs.has hH) (cap := [.pointer (some ⟨b4, 0, none⟩), .pointer (some ⟨b5, 0, none⟩)]) _ Tryz.func168 (by kernel_rfl) rfl (fun w' hx i e => pat1_d (hx.ro (hH.at' (x := ⟨b4, 3, 1, 1, [iv x]⟩) mm_).ro) (hx.ro (hH.at' (x := ⟨b5, 3, 1, 1, [iv y]⟩) mm_).ro))) rfl rfl ?_
  rintro _ _ ⟨rfl, rfl⟩
  refine s_y (Y_as) rfl rfl ?_
  refine s_nil ?_
  refine q_then ?_
  refine c_ret ?_
  refine q_retG1 rfl gt_ (L' := _) sl_ (⟨rfl, rfl⟩)
set_option maxRecDepth 100000 in
theorem phero_d {b o n c : Nat} {l : List Ent} (hs : SlB W b o n c 11 (ecells l)) {x : Int} : Does Tryz.prog 127 [.slice (some ⟨b, o, none⟩) n c, iv x] W [] (fun v L => v = iv (eHero (l.take 32) x) ∧ L = []) := by
  refine enter Tryz.func127 rfl rfl rfl (Has.start _) ?_
  refine c_seq ?_
  refine c_reg ?_
  refine s_n (N_box1 rfl rfl) rfl rfl (fun b3 _ => ?_)
  refine s_y (Y_asC) rfl rfl ?_
  refine s_nil ?_
  refine q_then ?_
  refine c_seq ?_
  refine c_reg ?_
  refine s_y (Y_mv) rfl rfl ?_
  refine s_y (Y_mk (by repeat (first | exact Gv.nil | apply Gv.const | apply Gv.tmp gt_)) (by repeat (first | exact Gv.nil | apply Gv.const | apply Gv.tmp gt_))) rfl rfl ?_
  refine s_c (En_call (fun _ => rfl) Tryz.func167 rfl (by kernel_rfl) rfl) (fun w hH => pfind_d (hs.has hH) (cap := [.pointer (some ⟨b3, 0, none⟩)]) _ Tryz.func173 (by kernel_rfl) rfl (fun w' hx i e => phero1_d (hx.ro (hH.at' (x := ⟨b3, 3, 1, 1, [iv x]⟩) mm_).ro))) rfl rfl ?_
  rintro _ _ ⟨rfl, rfl⟩
  refine s_y (Y_as) rfl rfl ?_
  refine s_nil ?_
  refine q_then ?_
  refine c_ret ?_
  refine q_retG1 rfl gt_ (L' := _) sl_ (⟨rfl, rfl⟩)
def placeM (x y : Int) : Int := if inM x y = true then y * 24 + x else -1
set_option maxRecDepth 100000 in
theorem pplace_d {x y : Int} : Does Tryz.prog 193 [iv x, iv y] W [] (fun v L => v = iv (placeM x y) ∧ L = []) := by
  refine enter Tryz.func193 rfl rfl rfl (Has.start _) ?_
  refine c_seq ?_
  refine c_reg ?_
  refine s_y (Y_asC) rfl rfl ?_
  refine s_nil ?_
  refine q_then ?_
  refine c_seq ?_
  refine c_seq ?_
  refine c_reg ?_
  refine s_y (Y_mv) rfl rfl ?_
  refine s_y (Y_lss rfl rfl) rfl rfl ?_
  refine s_y (Y_mv) rfl rfl ?_
  apply s_or 3 [7, 8, 9, 10] 10 (g := 7) rfl rfl
  · intro ht3 hm
    try simp only [nrm_] at ht3
    first | refine s_y (Y_mv) rfl rfl ?_ | refine s_pass rfl rfl ?_
    first | refine s_y (Y_geq rfl rfl) rfl rfl ?_ | refine s_pass rfl rfl ?_
    refine s_y (Y_pk rfl Gx.const (Gx.tmp gt_)) rfl rfl ?_
    first | exact hm _ ⟨rfl, trivial⟩ rfl | exact QL.sub sl_ (hm _ ⟨rfl, trivial⟩ rfl)
  · intro ht3 hm
    iterate 2 refine s_pass rfl rfl ?_
    refine s_y (Y_pk rfl Gx.const (Gx.tmp gt_)) rfl rfl ?_
    exact hm _ ⟨rfl, trivial⟩ rfl
  intro j10
  refine s_y (Y_mv) rfl rfl ?_
  apply s_or 3 [11, 12, 13, 14] 14 (g := 11) rfl rfl
  · intro ht7 hm
    try simp only [nrm_] at ht7
    first | refine s_y (Y_mv) rfl rfl ?_ | refine s_pass rfl rfl ?_
    first | refine s_y (Y_lss rfl rfl) rfl rfl ?_ | refine s_pass rfl rfl ?_
    refine s_y (Y_pk rfl Gx.const (Gx.tmp gt_)) rfl rfl ?_
    first | exact hm _ ⟨rfl, trivial⟩ rfl | exact QL.sub sl_ (hm _ ⟨rfl, trivial⟩ rfl)
  · intro ht7 hm
    iterate 2 refine s_pass rfl rfl ?_
    refine s_y (Y_pk rfl Gx.const (Gx.tmp gt_)) rfl rfl ?_
    exact hm _ ⟨rfl, trivial⟩ rfl
  intro j14
  refine s_y (Y_mv) rfl rfl ?_
  apply s_or 3 [15, 16, 17, 18] 18 (g := 15) rfl rfl
  · intro ht11 hm
    try simp only [nrm_] at ht11
    first | refine s_y (Y_mv) rfl rfl ?_ | refine s_pass rfl rfl ?_
    first | refine s_y (Y_geq rfl rfl) rfl rfl ?_ | refine s_pass rfl rfl ?_
    refine s_y (Y_pk rfl Gx.const (Gx.tmp gt_)) rfl rfl ?_
    first | exact hm _ ⟨rfl, trivial⟩ rfl | exact QL.sub sl_ (hm _ ⟨rfl, trivial⟩ rfl)
  · intro ht11 hm
    iterate 2 refine s_pass rfl rfl ?_
    refine s_y (Y_pk rfl Gx.const (Gx.tmp gt_)) rfl rfl ?_
    exact hm _ ⟨rfl, trivial⟩ rfl
  intro j18
  refine s_nil ?_
  refine q_then ?_
  first | refine c_cond' rfl (fun hc1 => ?_) (fun hc1 => ?_) | refine c_cond rfl (fun hc1 => ?_) (fun hc1 => ?_)
  · skip
    try simp only [nrm_] at hc1
    refine c_seq ?_
    refine c_reg ?_
    refine s_y (Y_asC) rfl rfl ?_
    refine s_nil ?_
    refine q_then ?_
    refine c_ret ?_
    refine q_retG1 rfl gt_ (L' := _) sl_ (⟨by rw [placeM, if_neg]; simp only [inM, decide_eq_true_eq]; omega, rfl⟩)
  · skip
    try simp only [nrm_] at hc1
    refine c_skip ?_
    refine q_then ?_
    refine c_seq ?_
    refine c_reg ?_
    refine s_y (Y_mv) rfl rfl ?_
    refine s_y mu_ rfl rfl ?_
    refine s_y (Y_mv) rfl rfl ?_
    refine s_y ad_ rfl rfl ?_
    refine s_y (Y_as) rfl rfl ?_
    refine s_nil ?_
    refine q_then ?_
    refine c_ret ?_
    refine q_retG1 rfl gt_ (L' := _) sl_ (⟨by rw [placeM, if_pos]; simp only [inM, decide_eq_true_eq]; omega, rfl⟩)
def kindM (cells : List UInt8) (k : Int) : Int := if 0 ≤ k ∧ k < cells.length then byteAt cells k.toNat else 0
set_option maxRecDepth 100000 in
theorem pkind_d {b o n c : Nat} {l : List UInt8} (hs : SlB W b o n c 1 (l.map bv)) {k : Int} : Does Tryz.prog 192 [.slice (some ⟨b, o, none⟩) n c, iv k] W [] (fun v L => v = iv (kindM l k) ∧ L = []) := by
  have hn : l.length = n := by have := hs.len; simpa using this
  refine enter Tryz.func192 rfl rfl rfl (Has.start _) ?_
  refine c_seq ?_
  refine c_reg ?_
  refine s_y (Y_asC) rfl rfl ?_
  refine s_nil ?_
  refine q_then ?_
  refine c_seq ?_
  refine c_seq ?_
  refine c_reg ?_
  refine s_y (Y_mv) rfl rfl ?_
  refine s_y (Y_lss rfl rfl) rfl rfl ?_
  refine s_y (Y_mv) rfl rfl ?_
  apply s_or 5 [7, 8, 9, 10, 11, 12] 12 (g := 7) rfl rfl
  · intro ht3 hm
    try simp only [nrm_] at ht3
    first | refine s_y (Y_mv) rfl rfl ?_ | refine s_pass rfl rfl ?_
    first | refine s_y (Y_mv) rfl rfl ?_ | refine s_pass rfl rfl ?_
    first | refine s_y (Y_len rfl rfl Tryz.underlying24) rfl rfl ?_ | refine s_pass rfl rfl ?_
    first | refine s_y (Y_geq rfl rfl) rfl rfl ?_ | refine s_pass rfl rfl ?_
    refine s_y (Y_pk rfl Gx.const (Gx.tmp gt_)) rfl rfl ?_
    first | exact hm _ ⟨rfl, trivial⟩ rfl | exact QL.sub sl_ (hm _ ⟨rfl, trivial⟩ rfl)
  · intro ht3 hm
    iterate 4 refine s_pass rfl rfl ?_
    refine s_y (Y_pk rfl Gx.const (Gx.tmp gt_)) rfl rfl ?_
    exact hm _ ⟨rfl, trivial⟩ rfl
  intro j12
  refine s_nil ?_
  refine q_then ?_
  first | refine c_cond' rfl (fun hc1 => ?_) (fun hc1 => ?_) | refine c_cond rfl (fun hc1 => ?_) (fun hc1 => ?_)
  · skip
    try simp only [nrm_] at hc1
    refine c_seq ?_
    refine c_reg ?_
    refine s_y (Y_asC) rfl rfl ?_
    refine s_nil ?_
    refine q_then ?_
    refine c_ret ?_
    refine q_retG1 rfl gt_ (L' := _) sl_ (⟨by rw [kindM, if_neg]; omega, rfl⟩)
  · skip
    try simp only [nrm_] at hc1
    refine c_skip ?_
    refine q_then ?_
    refine c_seq ?_
    obtain ⟨q, rfl⟩ : ∃ q : Nat, k = (q : Int) := ⟨k.toNat, by omega⟩
    obtain ⟨u, hu⟩ := take_lt (show q < l.length by omega)
    refine c_reg ?_
    refine s_y (Y_mv) rfl rfl ?_
    refine s_y (Y_mv) rfl rfl ?_
    refine s_y (Y_ia1 rfl rfl Tryz.underlying24 sz5 rfl (by omega)) rfl rfl ?_
    refine s_y (Y_loadR (i := q) rfl one5 hs.ro rfl (by rw [List.getElem?_map, hu]; rfl)) rfl rfl ?_
    refine s_y ((by first | exact Y_conv rfl Tryz.underlying5 Tryz.underlying3 (by first | exact i64_u8 _ | exact u64_u8 _ | exact i64_id (by omega) | exact u64_id (by omega) | exact u8_id (by omega) | exact u32_id (by omega)) | exact Y_convw rfl Tryz.underlying5 Tryz.underlying3)) rfl rfl ?_
    refine s_y (Y_as) rfl rfl ?_
    refine s_nil ?_
    refine q_then ?_
    refine c_ret ?_
    refine q_retG1 rfl gt_ (L' := _) sl_ (⟨by rw [kindM, if_pos (by omega), Int.toNat_natCast, byteAt_of hu], rfl⟩)
theorem at_eq (cells : List UInt8) (x y : Int) : kindM cells (placeM x y) = atM cells x y := by
  unfold kindM placeM atM
  by_cases h : inM x y = true
  · simp only [h, if_true, true_and]
    simp only [inM, decide_eq_true_eq] at h
    by_cases h2 : y * 24 + x < cells.length
    · rw [if_pos ⟨by omega, h2⟩, if_pos h2]
    · rw [if_neg (fun h => h2 h.2), if_neg h2]
  · rw [Bool.not_eq_true] at h
    simp [h]
set_option maxRecDepth 100000 in
theorem pgat_d {b o n c : Nat} {l : List UInt8} (hs : SlB W b o n c 1 (l.map bv)) {x y : Int} : Does Tryz.prog 157 [.slice (some ⟨b, o, none⟩) n c, iv x, iv y] W [] (fun v L => v = iv (atM l x y) ∧ L = []) := by
  refine enter Tryz.func157 rfl rfl rfl (Has.start _) ?_
  refine c_seq ?_
  refine c_reg ?_
  refine s_y (Y_asC) rfl rfl ?_
  refine s_nil ?_
  refine q_then ?_
  refine c_seq ?_
  refine c_reg ?_
  refine s_y (Y_mv) rfl rfl ?_
  refine s_y (Y_mv) rfl rfl ?_
  refine s_y (Y_mv) rfl rfl ?_
  refine s_c (En_call (fun _ => rfl) Tryz.func193 rfl (by kernel_rfl) rfl) (fun w hH => pplace_d) rfl rfl ?_
  rintro _ _ ⟨rfl, rfl⟩
  refine s_c (En_call (fun _ => rfl) Tryz.func192 rfl (by kernel_rfl) rfl) (fun w hH => pkind_d (hs.has hH)) rfl rfl ?_
  rintro _ _ ⟨rfl, rfl⟩
  refine s_y (Y_as) rfl rfl ?_
  refine s_nil ?_
  refine q_then ?_
  refine c_ret ?_
  refine q_retG1 rfl gt_ (L' := _) sl_ (⟨by rw [at_eq], rfl⟩)
set_option maxRecDepth 100000 in
theorem pwalk_d {k : Int} : Does Tryz.prog 156 [iv k] W [] (fun v L => v = .bool (walkM k) ∧ L = []) := by
  refine enter Tryz.func156 rfl rfl rfl (Has.start _) ?_
  refine c_seq ?_
  refine c_reg ?_
  refine s_y (Y_asC) rfl rfl ?_
  refine s_nil ?_
  refine q_then ?_
  refine c_seq ?_
  refine c_reg ?_
  refine s_y (Y_mv) rfl rfl ?_
  refine s_y (Y_geq rfl rfl) rfl rfl ?_
  refine s_y (Y_mv) rfl rfl ?_
  apply s_and 3 [5, 6, 7, 8] 8 (g := 5) rfl rfl
  · intro ht3 hm
    try simp only [nrm_] at ht3
    first | refine s_y (Y_mv) rfl rfl ?_ | refine s_pass rfl rfl ?_
    first | refine s_y (Y_leq rfl rfl) rfl rfl ?_ | refine s_pass rfl rfl ?_
    refine s_y (Y_pk rfl (Gx.tmp gt_) Gx.const) rfl rfl ?_
    first | exact hm _ ⟨rfl, trivial⟩ rfl | exact QL.sub sl_ (hm _ ⟨rfl, trivial⟩ rfl)
  · intro ht3 hm
    iterate 2 refine s_pass rfl rfl ?_
    refine s_y (Y_pk rfl (Gx.tmp gt_) Gx.const) rfl rfl ?_
    exact hm _ ⟨rfl, trivial⟩ rfl
  intro j8
  refine s_y (Y_as) rfl rfl ?_
  refine s_nil ?_
  refine q_then ?_
  refine c_ret ?_
  refine q_retG1 rfl gt_ (L' := _) sl_ (⟨by congr 1; simp only [walkM]; rw [Bool.eq_iff_iff]; (first | (simp only [nrm_]; done) | (simp only [nrm_]; omega)), rfl⟩)
set_option maxRecDepth 100000 in
theorem pwithin_d {n f t : Int} : Does Tryz.prog 65 [iv n, iv f, iv t] W [] (fun v L => v = .bool (btw n f t) ∧ L = []) := by
  refine enter Tryz.func65 rfl rfl rfl (Has.start _) ?_
  refine c_seq ?_
  refine c_reg ?_
  refine s_y (Y_asC) rfl rfl ?_
  refine s_nil ?_
  refine q_then ?_
  refine c_seq ?_
  refine c_reg ?_
  refine s_y (Y_mv) rfl rfl ?_
  refine s_y (Y_mv) rfl rfl ?_
  refine s_y (Y_geq rfl rfl) rfl rfl ?_
  refine s_y (Y_mv) rfl rfl ?_
  apply s_and 4 [10, 11, 12, 13, 14] 14 (g := 10) rfl rfl
  · intro ht4 hm
    try simp only [nrm_] at ht4
    first | refine s_y (Y_mv) rfl rfl ?_ | refine s_pass rfl rfl ?_
    first | refine s_y (Y_mv) rfl rfl ?_ | refine s_pass rfl rfl ?_
    first | refine s_y (Y_leq rfl rfl) rfl rfl ?_ | refine s_pass rfl rfl ?_
    refine s_y (Y_pk rfl (Gx.tmp gt_) Gx.const) rfl rfl ?_
    first | exact hm _ ⟨rfl, trivial⟩ rfl | exact QL.sub sl_ (hm _ ⟨rfl, trivial⟩ rfl)
  · intro ht4 hm
    iterate 3 refine s_pass rfl rfl ?_
    refine s_y (Y_pk rfl (Gx.tmp gt_) Gx.const) rfl rfl ?_
    exact hm _ ⟨rfl, trivial⟩ rfl
  intro j14
  refine s_y (Y_as) rfl rfl ?_
  refine s_nil ?_
  refine q_then ?_
  refine c_ret ?_
  refine q_retG1 rfl gt_ (L' := _) sl_ (⟨by congr 1; simp only [btw]; rw [Bool.eq_iff_iff]; (first | (simp only [nrm_]; done) | (simp only [nrm_]; omega)), rfl⟩)
end
end Go.Proofs.YtcogbkkdccohfaaGreat
namespace Go.Ad
open Go.RowKit Go.Maps Go.Proofs.YtcogbkkdccohfaaGreat
set_option linter.unusedVariables false
set_option linter.unusedSimpArgs false
def wx (d : Int) : Int := if d = 2 then 1 else if d = 4 then -1 else 0
def wy (d : Int) : Int := if d = 1 then -1 else if d = 3 then 1 else 0
theorem way_rng (d : Int) : -1 ≤ wx d ∧ wx d ≤ 1 ∧ -1 ≤ wy d ∧ wy d ≤ 1 := by
  unfold wx wy
  repeat' split
  all_goals omega
def dirM (p : Int → Bool) : Nat → Int → Int
  | 0, _ => 0
  | n + 1, d => if p d = true then d else dirM p n (d + 1)
theorem dirM_no {p : Int → Bool} {n : Nat} {d : Int} (hn : 0 < n) (h : p d = false) : dirM p n d = dirM p (n - 1) (d + 1) := by
  obtain ⟨n, rfl⟩ : ∃ q, n = q + 1 := ⟨n - 1, by omega⟩
  rw [dirM, if_neg (by rw [h]; decide)]; rfl
theorem dirM_yes {p : Int → Bool} {n : Nat} {d : Int} (hn : 0 < n) (h : p d = true) : dirM p n d = d := by
  obtain ⟨n, rfl⟩ : ∃ q, n = q + 1 := ⟨n - 1, by omega⟩
  rw [dirM, if_pos h]
def besideM (x0 y0 x1 y1 : Int) : Int := dirM (fun d => decide (x1 = x0 + wx d ∧ y1 = y0 + wy d)) 4 1
def barOne (x y : Int) (b : List Bool) (e : Ent) : List Bool :=
  if e.kind ≠ 0 ∧ inM e.x e.y = true ∧ (e.x ≠ x ∨ e.y ≠ y) then b.set (e.y * 24 + e.x).toNat true else b
def barsM (l : List Ent) (x y : Int) : List Bool := l.foldl (barOne x y) (List.replicate 384 false)
theorem barOne_len (x y : Int) (b : List Bool) (e : Ent) : (barOne x y b e).length = b.length := by unfold barOne; split <;> simp
theorem bars_len0 (x y : Int) : ∀ (l : List Ent) (b : List Bool), (l.foldl (barOne x y) b).length = b.length
  | [], b => rfl
  | e :: r, b => by
    have := bars_len0 x y r (barOne x y b e)
    rw [barOne_len] at this
    exact this
theorem bars_len (l : List Ent) (x y : Int) : (barsM l x y).length = 384 := by rw [barsM, bars_len0, List.length_replicate]
def nextM (f : List Int) (l : List Ent) (x y : Int) (d : Int) : Bool :=
  inM (x + wx d) (y + wy d) && decide (getI f ((y + wy d) * 24 + (x + wx d)).toNat = getI f (y * 24 + x).toNat - 1) && decide (eAt l (x + wx d) (y + wy d) < 0)
def towardsM (cells : List UInt8) (l : List Ent) (x y : Int) (ts : List Int) : Int :=
  if inM x y = false then 0 else
    let f := fieldM cells (barsM l x y) ts
    if getI f (y * 24 + x).toNat < 1 then 0 else dirM (nextM f l x y) 4 1
def spotF (f : List Int) (l : List Ent) : Nat → Int
  | 0 => -1
  | i + 1 => let a := spotF f l i
    if 0 ≤ getI f i ∧ eAt l (i % 24 : Nat) (i / 24 : Nat) < 0 ∧ (a < 0 ∨ getI f i < getI f a.toNat) then i else a
def spotM (cells : List UInt8) (l : List Ent) (x y : Int) : Int :=
  if inM x y = false then -1 else spotF (fieldM cells [] [y * 24 + x]) l 384
theorem spotF_rng (f : List Int) (l : List Ent) : ∀ n, spotF f l n = -1 ∨ (0 ≤ spotF f l n ∧ spotF f l n < n)
  | 0 => .inl rfl
  | n + 1 => by
    have := spotF_rng f l n
    simp only [spotF]
    split <;> omega
def rootF (n : Int) : Nat → Int → Int
  | 0, r => r
  | k + 1, r => rootF n k (if r + 2 ^ k ≤ 3037000499 ∧ (r + 2 ^ k) * (r + 2 ^ k) ≤ n then r + 2 ^ k else r)
def rootM (n : Int) : Int := rootF n 32 0
def farD (dx dy : Int) : Int := rootM (65536 * (dx * dx + dy * dy))
def offM (p n : Int) : Int := (2 * p + n) / (2 * n)
def maxD (dx dy : Int) : Int := max (max dx (0 - dx)) (max dy (0 - dy))
def ptM (x0 y0 dx dy n : Int) (k : Int) : Int := (y0 + offM (k * dy) n) * 24 + x0 + offM (k * dx) n
def clearM (k : Int) : Bool := walkM k && decide (k ≠ 2)
def lineM (x0 y0 x1 y1 : Int) : List Int :=
  if inM x0 y0 = true ∧ inM x1 y1 = true then
    if maxD (x1 - x0) (y1 - y0) = 0 then [y0 * 24 + x0]
    else (List.range ((maxD (x1 - x0) (y1 - y0)).toNat + 1)).map fun k => ptM x0 y0 (x1 - x0) (y1 - y0) (maxD (x1 - x0) (y1 - y0)) (k : Nat)
  else []
def seesL (cells : List UInt8) (l : List Int) : Bool := (l.drop 1).dropLast.all fun k => clearM (kindM cells k)
def seesM (cells : List UInt8) (x0 y0 x1 y1 : Int) : Bool := decide (lineM x0 y0 x1 y1 ≠ []) && seesL cells (lineM x0 y0 x1 y1)
def egt (l : List Ent) (i : Int) : Ent := if 0 ≤ i then l.getD i.toNat Ent.zero else Ent.zero
def igt (l : List Itm) (i : Int) : Itm := if 0 ≤ i then l.getD i.toNat Itm.zero else Itm.zero
def slotF (l : List Itm) (s : Int) : Nat → Int → Int
  | 0, _ => -1
  | n + 1, b => if iIn l 2 s b < 0 then b else slotF l s n (b + 1)
def slotM (l : List Itm) (s : Int) : Int := slotF l s 4 0
def hasF (l : List Itm) (s f t : Int) : Nat → Int → Int
  | 0, _ => -1
  | n + 1, b => if 0 ≤ iIn l 2 s b ∧ f ≤ (igt l (iIn l 2 s b)).kind ∧ (igt l (iIn l 2 s b)).kind ≤ t then iIn l 2 s b else hasF l s f t n (b + 1)
def hasM (l : List Itm) (s f t : Int) : Int := hasF l s f t 4 0
def shelfF (l : List Itm) : Nat → Int → Int
  | 0, _ => -1
  | n + 1, k => if 0 ≤ iIn l 4 k 0 then iIn l 4 k 0 else shelfF l n (k + 1)
def Four.put (g : Four) (s v : Int) : Four := g.set v s.toNat
def Four.at (g : Four) (s : Int) : Int := g.get s.toNat
def pickD (w : Wd) (s : Int) (e : Ent) : Wd :=
  let here := iIn w.items 1 e.x e.y
  if 0 ≤ here ∧ (igt w.items here).kind = 4 then { w with gold := w.gold.put s (min (w.gold.at s + 5) 999), items := w.items.set here.toNat Itm.zero }
  else if 0 ≤ here ∧ 0 ≤ slotM w.items s then { w with items := w.items.set here.toNat ⟨(igt w.items here).kind, 2, s, slotM w.items s⟩ }
  else w
def useD (w : Wd) (s h : Int) (e : Ent) : Wd :=
  let i := hasM w.items s 1 1
  if 0 ≤ i then { w with items := w.items.set i.toNat Itm.zero, ents := w.ents.set h.toNat { e with hp := min (e.hp + 6) e.max, poison := 0 } } else w
def wearD (w : Wd) (s : Int) : Wd :=
  let i := hasM w.items s 2 3
  if 0 ≤ i then
    let x := igt w.items i
    let worn := iIn w.items 3 s (x.kind - 2)
    let l := if 0 ≤ worn then w.items.set worn.toNat { igt w.items worn with whr := 2, b := x.b } else w.items
    { w with items := l.set i.toNat { x with whr := 3, b := x.kind - 2 } }
  else w
def dropD (w : Wd) (s : Int) (e : Ent) : Wd :=
  let i := hasM w.items s 1 3
  if 0 ≤ i ∧ iIn w.items 1 e.x e.y < 0 then { w with items := w.items.set i.toNat ⟨(igt w.items i).kind, 1, e.x, e.y⟩ } else w
def buyD (w : Wd) (s : Int) (e : Ent) : Wd :=
  let i := shelfF w.items 3 0
  if atM w.cells e.x e.y = 5 ∧ 5 ≤ w.gold.at s ∧ 0 ≤ slotM w.items s ∧ 0 ≤ i then { w with items := w.items.set i.toNat ⟨(igt w.items i).kind, 2, s, slotM w.items s⟩, gold := w.gold.put s (w.gold.at s - 5) } else w
def doM (w : Wd) (s input : Int) : Wd :=
  let h := eHero w.ents s
  if h < 0 ∨ s < 0 ∨ 4 ≤ s then w else
    let e := egt w.ents h
    if input = 5 then pickD w s e else if input = 6 then useD w s h e else if input = 7 then wearD w s else if input = 8 then dropD w s e else if input = 10 then buyD w s e else w
def sweepOne (s : Int) (x : Itm) : Itm := if (x.whr = 2 ∨ x.whr = 3) ∧ x.a = s then Itm.zero else x
def sweepM (w : Wd) (s : Int) : Wd := { w with items := w.items.map (sweepOne s) }
def bonA (l : List Itm) (s : Int) : Int := if 0 ≤ iIn l 3 s 0 then 3 else 0
def bonD (l : List Itm) (s : Int) : Int := if 0 ≤ iIn l 3 s 1 then 2 else 0
def freeE (l : List Ent) (r : Int) : List Ent := if 0 ≤ r then l.set r.toNat { Ent.zero with gen := (egt l r).gen } else l
def hurtM (w : Wd) (r n : Int) : Wd :=
  let e := egt w.ents r
  if e.kind = 0 ∨ n < 1 then w
  else if n < e.hp then { w with ents := w.ents.set r.toNat { e with hp := e.hp - n } }
  else if e.kind = 1 then sweepM { w with ents := freeE w.ents r } e.seat else { w with ents := freeE w.ents r }
def blowM (w : Wd) (f t : Int) : Int :=
  let a := egt w.ents f
  let b := egt w.ents t
  max 1 ((a.atk + if a.kind = 1 then bonA w.items a.seat else 0) - (b.df + if b.kind = 1 then bonD w.items b.seat else 0)) + dieM 3 w.seed [w.frame, f, t, 77]
def marksE (w : Wd) (k f t : Int) : Wd :=
  let e := egt w.ents t
  if e.kind = 0 then w
  else if k = 4 then { w with ents := w.ents.set t.toNat { e with poison := min (e.poison + 3) 9 } }
  else if k = 3 ∧ dieM 4 w.seed [w.frame, f, t, 78] = 0 then { w with ents := w.ents.set t.toNat { e with stun := min (e.stun + 2) 9 } }
  else w
def hitM (w : Wd) (f t : Int) : Wd :=
  if (egt w.ents f).kind = 0 ∨ (egt w.ents t).kind = 0 then w
  else marksE (hurtM w t (blowM w f t)) (egt w.ents f).kind f t
def ailOne (w : Wd) (i : Nat) : Wd :=
  let e := egt w.ents i
  if e.kind = 0 then w else
    let e1 : Ent := if 0 < e.stun then { e with stun := e.stun - 1 } else e
    if 0 < e.poison then hurtM { w with ents := w.ents.set i { e1 with poison := e.poison - 1 } } i 1 else { w with ents := w.ents.set i e1 }
def ailF (w : Wd) : Nat → Wd
  | 0 => w
  | i + 1 => ailOne (ailF w i) i
def ailM (w : Wd) : Wd := ailF w 32
def preyF (cells : List UInt8) (l : List Ent) (e : Ent) : Nat → Int × Int
  | 0 => (0, -1)
  | s + 1 =>
    let p := preyF cells l e s
    let h := eHero l s
    if h < 0 then p else
      let n := farD ((egt l h).x - e.x) ((egt l h).y - e.y)
      if n ≤ 1536 ∧ seesM cells e.x e.y (egt l h).x (egt l h).y = true ∧ (p.2 < 0 ∨ n < p.1) then (n, h) else p
def roamM (w : Wd) (i : Int) : Int :=
  let e := egt w.ents i
  let d := dieM 8 w.seed [w.frame, i, 90]
  if 1 ≤ d ∧ d ≤ 4 ∧ walkM (atM w.cells (e.x + wx d) (e.y + wy d)) = true ∧ eAt w.ents (e.x + wx d) (e.y + wy d) < 0 then d else 0
def monsterM (w : Wd) (i : Int) : Int :=
  let e := egt w.ents i
  if e.kind = 0 ∨ e.kind = 1 then 0 else
    let a := (preyF w.cells w.ents e 4).2
    if 0 ≤ a then
      let h := egt w.ents a
      if 0 < besideM e.x e.y h.x h.y then besideM e.x e.y h.x h.y else towardsM w.cells w.ents e.x e.y [h.y * 24 + h.x]
    else roamM w i
def foeAt (l : List Ent) (x y : Int) : Bool := decide (0 ≤ eAt l x y ∧ (egt l (eAt l x y)).kind ≠ 1)
def robotM (w : Wd) (s : Int) : Int :=
  let h := eHero w.ents s
  if h < 0 then 0 else
    let e := egt w.ents h
    if e.hp ≤ e.max.tdiv 3 ∧ 0 ≤ hasM w.items s 1 1 then 6
    else
      let d := dirM (fun d => foeAt w.ents (e.x + wx d) (e.y + wy d)) 4 1
      if 0 < d then d
      else
        let i := iIn w.items 1 e.x e.y
        if 0 ≤ i ∧ ((igt w.items i).kind = 4 ∨ 0 ≤ slotM w.items s) then 5
        else if atM w.cells e.x e.y = 4 then 9
        else towardsM w.cells w.ents e.x e.y [findM w.cells 4]
def heroM (cells : List UInt8) (l : List Ent) (e : Ent) : Ent × Bool :=
  let up := findM cells 3
  if up < 0 then (e, false) else
    let a := spotM cells l (up % 24) (up / 24)
    if a < 0 then (e, false) else ({ e with x := a % 24, y := a / 24 }, true)
def actM (w : Wd) (r d : Int) (foe : Bool) : Wd :=
  if wx d = 0 ∧ wy d = 0 then w else
    let e := egt w.ents r
    let k := eAt w.ents (e.x + wx d) (e.y + wy d)
    if 0 ≤ k then (if decide ((egt w.ents k).kind = 1) = foe then hitM w r k else w)
    else if walkM (atM w.cells (e.x + wx d) (e.y + wy d)) = true then { w with ents := w.ents.set r.toNat { e with x := e.x + wx d, y := e.y + wy d } } else w
def someM (l : List Ent) : Bool := decide (0 ≤ eHero l 0) || decide (0 ≤ eHero l 1) || decide (0 ≤ eHero l 2) || decide (0 ≤ eHero l 3)
structure Deed where
  how : Int
  input : Int
  spawn : Bool
def Deed.cells (a : Deed) : List Value := [iv a.how, iv a.input, .bool a.spawn]
abbrev Acts := List Deed
def dgt (a : Acts) (s : Nat) : Deed := a.getD s ⟨0, 0, false⟩
def comeM (cells : List UInt8) (l : List Ent) (a : Acts) (s : Nat) : List Ent :=
  if (dgt a s).spawn = true ∧ eHero l s < 0 then
    let p := heroM cells l { statsM 1 with seat := s }
    if p.2 = true then spawnedM l p.1 else l
  else l
def comesM (cells : List UInt8) (l : List Ent) (a : Acts) : Nat → List Ent
  | 0 => l
  | s + 1 => comeM cells (comesM cells l a s) a s
def seatM (p : Wd × Bool) (a : Deed) (s : Int) : Wd × Bool :=
  let h := eHero p.1.ents s
  if h < 0 ∨ 0 < (egt p.1.ents h).stun ∨ (a.how ≠ 1 ∧ a.how ≠ 2) then p else
    let i := if a.how = 2 then robotM p.1 s else a.input
    if 1 ≤ i ∧ i ≤ 4 then (actM p.1 h i false, p.2)
    else if i = 9 then (p.1, p.2 || decide (atM p.1.cells (egt p.1.ents h).x (egt p.1.ents h).y = 4))
    else (doM p.1 s i, p.2)
def seatsM (w : Wd) (a : Acts) : Nat → Wd × Bool
  | 0 => (w, false)
  | s + 1 => seatM (seatsM w a s) (dgt a s) s
def foeM (w : Wd) (i : Nat) : Wd :=
  let e := egt w.ents i
  if e.kind = 0 ∨ e.kind = 1 ∨ 0 < e.stun then w else actM w i (monsterM w i) true
def foesW (w : Wd) : Nat → Wd
  | 0 => w
  | i + 1 => foeM (foesW w i) i
def ratM (w : Wd) : Wd :=
  if w.frame.tmod 16 = 0 then
    let up := findM w.cells 3
    if 0 ≤ up ∧ eAt w.ents (up % 24) (up / 24) < 0 then { w with ents := spawnedM w.ents { statsM 2 with x := up % 24, y := up / 24 } } else w
  else w
def keepI (x : Itm) : Itm := if x.whr = 1 ∨ x.whr = 4 then Itm.zero else x
def freeF (l : List Ent) : List Ent := l.map fun e => { Ent.zero with gen := e.gen }
def placeF (cells : List UInt8) (old l : List Ent) : Nat → List Ent
  | 0 => l
  | s + 1 =>
    let m := placeF cells old l s
    let h := eHero old s
    if h < 0 then m else m.set h.toNat (heroM cells m (egt old h)).1
def belowM (w : Wd) : Wd :=
  let m := makeM w.seed (w.floor + 1)
  stockW { w with floor := w.floor + 1, cells := m.cells, items := w.items.map keepI, ents := placeF m.cells w.ents (freeF w.ents) 4 } m
def endM (w : Wd) (had left : Bool) : Wd :=
  if someM w.ents = false then (if had then { w with state := 2 } else w)
  else if left = true ∧ w.floor = 3 then { w with state := 1 }
  else if left = true then belowM w else w
def midM (w : Wd) : Wd := ratM (ailM (foesW w 32))
def stepM (w : Wd) (a : Acts) : Wd :=
  let w1 := { w with frame := w.frame + 1 }
  if w.state ≠ 0 then w1 else
    let w2 := { w1 with ents := comesM w1.cells w1.ents a 4 }
    let p := seatsM w2 a 4
    endM (midM p.1) (someM w1.ents || someM w2.ents) p.2
end Go.Ad
namespace Go.Proofs.YtcogbkkdccohfaaGreat
open Go.RowKit Go.Ad Go.Maps
set_option linter.unusedVariables false
set_option linter.unusedSimpArgs false
section
variable {W : World}
def Itm.ok (x : Itm) : Prop := -9223372036854775808 ≤ x.b ∧ x.b ≤ 9223372036854775807
set_option maxRecDepth 100000 in
theorem pmay_d {d : Wd} {s : Ws} (hw : WAt W d s) (x : Itm) (hx : Itm.ok x) : Does Tryz.prog 159 [.agg (wv d s).toArray, .agg x.cells.toArray] W [] (fun v L => v = .bool (btw x.kind 1 4 && placedM d.cells x) ∧ L = []) := by
  obtain ⟨hx1, hx2⟩ := hx
  refine enter Tryz.func159 rfl rfl rfl (Has.start _) ?_
  refine c_seq ?_
  refine c_reg ?_
  refine s_n (N_box (cs := wv d s) rfl) rfl rfl (fun b2 _ => ?_)
  refine s_n (N_box (cs := x.cells) rfl) rfl rfl (fun b3 _ => ?_)
  refine s_y (Y_asC) rfl rfl ?_
  refine s_nil ?_
  refine q_then ?_
  refine c_seq ?_
  refine c_reg ?_
  refine s_y (Y_fa 0 rfl Tryz.underlying98 rfl sz3 rfl) rfl rfl ?_
  refine s_y (yl_ one3) rfl rfl ?_
  refine s_y (Y_geq rfl rfl) rfl rfl ?_
  refine s_y (Y_mv) rfl rfl ?_
  apply s_and 4 [9, 10, 11, 12, 13] 13 (g := 9) rfl rfl
  · intro ht4 hm
    try simp only [nrm_] at ht4
    first | refine s_y (Y_fa 0 rfl Tryz.underlying98 rfl sz3 rfl) rfl rfl ?_ | refine s_pass rfl rfl ?_
    first | refine s_y (yl_ one3) rfl rfl ?_ | refine s_pass rfl rfl ?_
    first | refine s_y (Y_leq rfl rfl) rfl rfl ?_ | refine s_pass rfl rfl ?_
    refine s_y (Y_pk rfl (Gx.tmp gt_) Gx.const) rfl rfl ?_
    first | exact hm _ ⟨rfl, trivial⟩ rfl | exact QL.sub sl_ (hm _ ⟨rfl, trivial⟩ rfl)
  · intro ht4 hm
    iterate 3 refine s_pass rfl rfl ?_
    refine s_y (Y_pk rfl (Gx.tmp gt_) Gx.const) rfl rfl ?_
    exact hm _ ⟨rfl, trivial⟩ rfl
  intro j13
  refine s_y (Y_as) rfl rfl ?_
  refine s_nil ?_
  refine q_then ?_
  refine c_seq ?_
  refine c_seq ?_
  refine c_reg ?_
  refine s_y (Y_fa 1 rfl Tryz.underlying98 rfl sz3 rfl) rfl rfl ?_
  refine s_y (yl_ one3) rfl rfl ?_
  refine s_nil ?_
  refine q_then ?_
  refine c_block ?_
  refine c_seq ?_
  refine c_block ?_
  refine c_seq ?_
  refine c_block ?_
  refine c_seq ?_
  refine c_block ?_
  refine c_seq ?_
  refine c_block ?_
  refine c_seq ?_
  refine c_seq ?_
  refine c_seq ?_
  refine c_reg ?_
  refine s_y (Y_eql rfl rfl) rfl rfl ?_
  refine s_y (Y_as) rfl rfl ?_
  refine s_nil ?_
  refine q_then ?_
  first | refine c_cond' rfl (fun hc3 => ?_) (fun hc3 => ?_) | refine c_cond rfl (fun hc3 => ?_) (fun hc3 => ?_)
  · skip
    try simp only [nrm_] at hc3
    refine c_exit ?_
    repeat with_reducible refine q_te ?_
    refine q_exit ?_
    refine q_then ?_
    refine c_seq ?_
    refine c_seq ?_
    refine c_reg ?_
    refine s_y (Y_mv) rfl rfl ?_
    refine s_y (Y_mv) rfl rfl ?_
    apply s_or 4 [25, 26, 27, 28, 29] 29 (g := 25) rfl rfl
    · intro ht2 hm
      try simp only [nrm_] at ht2
      first | refine s_y (Y_fa 0 rfl Tryz.underlying98 rfl sz3 rfl) rfl rfl ?_ | refine s_pass rfl rfl ?_
      first | refine s_y (yl_ one3) rfl rfl ?_ | refine s_pass rfl rfl ?_
      first | refine s_y (Y_eql rfl rfl) rfl rfl ?_ | refine s_pass rfl rfl ?_
      refine s_y (Y_pk rfl Gx.const (Gx.tmp gt_)) rfl rfl ?_
      first | exact hm _ ⟨rfl, trivial⟩ rfl | exact QL.sub sl_ (hm _ ⟨rfl, trivial⟩ rfl)
    · intro ht2 hm
      iterate 3 refine s_pass rfl rfl ?_
      refine s_y (Y_pk rfl Gx.const (Gx.tmp gt_)) rfl rfl ?_
      exact hm _ ⟨rfl, trivial⟩ rfl
    intro j29
    refine s_y (Y_mv) rfl rfl ?_
    apply s_and 9 [30, 31, 32, 33, 34, 35, 36, 37, 38, 39] 39 (g := 30) rfl rfl
    · intro ht7 hm
      try simp only [nrm_] at ht7
      first | refine s_y (Y_fa 4 rfl Tryz.underlying34 rfl sz24 rfl) rfl rfl ?_ | refine s_pass rfl rfl ?_
      first | refine s_y (yl_ one24) rfl rfl ?_ | refine s_pass rfl rfl ?_
      first | refine s_y (Y_fa 2 rfl Tryz.underlying98 rfl sz3 rfl) rfl rfl ?_ | refine s_pass rfl rfl ?_
      first | refine s_y (yl_ one3) rfl rfl ?_ | refine s_pass rfl rfl ?_
      first | refine s_y (Y_fa 3 rfl Tryz.underlying98 rfl sz3 rfl) rfl rfl ?_ | refine s_pass rfl rfl ?_
      first | refine s_y (yl_ one3) rfl rfl ?_ | refine s_pass rfl rfl ?_
      refine s_c (En_call (fun _ => rfl) Tryz.func157 rfl (by kernel_rfl) rfl) (fun w hH => pgat_d (hw.c.has hH)) rfl rfl ?_
      rintro _ _ ⟨rfl, rfl⟩
      refine s_c (En_call (fun _ => rfl) Tryz.func156 rfl (by kernel_rfl) rfl) (fun w hH => pwalk_d) rfl rfl ?_
      rintro _ _ ⟨rfl, rfl⟩
      refine s_y (Y_pk rfl (Gx.tmp gt_) Gx.const) rfl rfl ?_
      first | exact hm _ ⟨rfl, trivial⟩ rfl | exact QL.sub sl_ (hm _ ⟨rfl, trivial⟩ rfl)
    · intro ht7 hm
      iterate 8 refine s_pass rfl rfl ?_
      refine s_y (Y_pk rfl (Gx.tmp gt_) Gx.const) rfl rfl ?_
      exact hm _ ⟨rfl, trivial⟩ rfl
    intro j39
    refine s_y (Y_as) rfl rfl ?_
    refine s_nil ?_
    refine q_then ?_
    refine c_ret ?_
    refine q_retG1 rfl gt_ (L' := _) sl_ (⟨by
        congr 1; unfold placedM btw; rw [if_pos hc3]
        cases walkM (atM d.cells x.a x.b)
        · simp
        · rw [Bool.eq_iff_iff]; simp only [nrm_, Bool.and_true, and_true]; omega, rfl⟩)
  · skip
    try simp only [nrm_] at hc3
    refine c_skip ?_
    refine q_then ?_
    refine c_seq ?_
    refine c_seq ?_
    refine c_reg ?_
    refine s_y (Y_eql rfl rfl) rfl rfl ?_
    refine s_y (Y_as) rfl rfl ?_
    refine s_nil ?_
    refine q_then ?_
    first | refine c_cond' rfl (fun hc4 => ?_) (fun hc4 => ?_) | refine c_cond rfl (fun hc4 => ?_) (fun hc4 => ?_)
    · skip
      try simp only [nrm_] at hc4
      refine c_exit ?_
      repeat with_reducible refine q_te ?_
      refine q_past rfl ?_
      repeat with_reducible refine q_te ?_
      refine q_exit ?_
      refine q_then ?_
      refine c_seq ?_
      refine c_seq ?_
      refine c_reg ?_
      refine s_y (Y_mv) rfl rfl ?_
      refine s_y (Y_mv) rfl rfl ?_
      apply s_and 4 [41, 42, 43, 44, 45] 45 (g := 41) rfl rfl
      · intro ht2 hm
        try simp only [nrm_] at ht2
        first | refine s_y (Y_fa 2 rfl Tryz.underlying98 rfl sz3 rfl) rfl rfl ?_ | refine s_pass rfl rfl ?_
        first | refine s_y (yl_ one3) rfl rfl ?_ | refine s_pass rfl rfl ?_
        first | refine s_y (Y_geq rfl rfl) rfl rfl ?_ | refine s_pass rfl rfl ?_
        refine s_y (Y_pk rfl (Gx.tmp gt_) Gx.const) rfl rfl ?_
        first | exact hm _ ⟨rfl, trivial⟩ rfl | exact QL.sub sl_ (hm _ ⟨rfl, trivial⟩ rfl)
      · intro ht2 hm
        iterate 3 refine s_pass rfl rfl ?_
        refine s_y (Y_pk rfl (Gx.tmp gt_) Gx.const) rfl rfl ?_
        exact hm _ ⟨rfl, trivial⟩ rfl
      intro j45
      refine s_y (Y_mv) rfl rfl ?_
      apply s_and 4 [46, 47, 48, 49, 50] 50 (g := 46) rfl rfl
      · intro ht7 hm
        try simp only [nrm_] at ht7
        first | refine s_y (Y_fa 2 rfl Tryz.underlying98 rfl sz3 rfl) rfl rfl ?_ | refine s_pass rfl rfl ?_
        first | refine s_y (yl_ one3) rfl rfl ?_ | refine s_pass rfl rfl ?_
        first | refine s_y (Y_lss rfl rfl) rfl rfl ?_ | refine s_pass rfl rfl ?_
        refine s_y (Y_pk rfl (Gx.tmp gt_) Gx.const) rfl rfl ?_
        first | exact hm _ ⟨rfl, trivial⟩ rfl | exact QL.sub sl_ (hm _ ⟨rfl, trivial⟩ rfl)
      · intro ht7 hm
        iterate 3 refine s_pass rfl rfl ?_
        refine s_y (Y_pk rfl (Gx.tmp gt_) Gx.const) rfl rfl ?_
        exact hm _ ⟨rfl, trivial⟩ rfl
      intro j50
      refine s_y (Y_mv) rfl rfl ?_
      apply s_and 4 [51, 52, 53, 54, 55] 55 (g := 51) rfl rfl
      · intro ht12 hm
        try simp only [nrm_] at ht12
        first | refine s_y (Y_fa 3 rfl Tryz.underlying98 rfl sz3 rfl) rfl rfl ?_ | refine s_pass rfl rfl ?_
        first | refine s_y (yl_ one3) rfl rfl ?_ | refine s_pass rfl rfl ?_
        first | refine s_y (Y_eql rfl rfl) rfl rfl ?_ | refine s_pass rfl rfl ?_
        refine s_y (Y_pk rfl (Gx.tmp gt_) Gx.const) rfl rfl ?_
        first | exact hm _ ⟨rfl, trivial⟩ rfl | exact QL.sub sl_ (hm _ ⟨rfl, trivial⟩ rfl)
      · intro ht12 hm
        iterate 3 refine s_pass rfl rfl ?_
        refine s_y (Y_pk rfl (Gx.tmp gt_) Gx.const) rfl rfl ?_
        exact hm _ ⟨rfl, trivial⟩ rfl
      intro j55
      refine s_y (Y_as) rfl rfl ?_
      refine s_nil ?_
      refine q_then ?_
      refine c_ret ?_
      refine q_retG1 rfl gt_ (L' := _) sl_ (⟨by congr 1; unfold placedM; rw [if_neg (by omega), if_neg (by omega), if_neg (by omega), if_pos (by omega)]; unfold btw; rw [Bool.eq_iff_iff]; simp only [nrm_]; omega, rfl⟩)
    · skip
      try simp only [nrm_] at hc4
      refine c_skip ?_
      refine q_then ?_
      refine c_seq ?_
      refine c_seq ?_
      refine c_reg ?_
      refine s_y (Y_eql rfl rfl) rfl rfl ?_
      refine s_y (Y_as) rfl rfl ?_
      refine s_nil ?_
      refine q_then ?_
      first | refine c_cond' rfl (fun hc5 => ?_) (fun hc5 => ?_) | refine c_cond rfl (fun hc5 => ?_) (fun hc5 => ?_)
      · skip
        try simp only [nrm_] at hc5
        refine c_exit ?_
        repeat with_reducible refine q_te ?_
        refine q_past rfl ?_
        repeat with_reducible refine q_te ?_
        refine q_past rfl ?_
        repeat with_reducible refine q_te ?_
        refine q_exit ?_
        refine q_then ?_
        refine c_reg ?_
        refine s_y (Y_mv) rfl rfl ?_
        refine s_y (Y_mv) rfl rfl ?_
        apply s_and 4 [57, 58, 59, 60, 61] 61 (g := 57) rfl rfl
        · intro ht2 hm
          try simp only [nrm_] at ht2
          first | refine s_y (Y_fa 3 rfl Tryz.underlying98 rfl sz3 rfl) rfl rfl ?_ | refine s_pass rfl rfl ?_
          first | refine s_y (yl_ one3) rfl rfl ?_ | refine s_pass rfl rfl ?_
          first | refine s_y (Y_geq rfl rfl) rfl rfl ?_ | refine s_pass rfl rfl ?_
          refine s_y (Y_pk rfl (Gx.tmp gt_) Gx.const) rfl rfl ?_
          first | exact hm _ ⟨rfl, trivial⟩ rfl | exact QL.sub sl_ (hm _ ⟨rfl, trivial⟩ rfl)
        · intro ht2 hm
          iterate 3 refine s_pass rfl rfl ?_
          refine s_y (Y_pk rfl (Gx.tmp gt_) Gx.const) rfl rfl ?_
          exact hm _ ⟨rfl, trivial⟩ rfl
        intro j61
        refine s_y (Y_mv) rfl rfl ?_
        apply s_and 4 [62, 63, 64, 65, 66] 66 (g := 62) rfl rfl
        · intro ht7 hm
          try simp only [nrm_] at ht7
          first | refine s_y (Y_fa 3 rfl Tryz.underlying98 rfl sz3 rfl) rfl rfl ?_ | refine s_pass rfl rfl ?_
          first | refine s_y (yl_ one3) rfl rfl ?_ | refine s_pass rfl rfl ?_
          first | refine s_y (Y_lss rfl rfl) rfl rfl ?_ | refine s_pass rfl rfl ?_
          refine s_y (Y_pk rfl (Gx.tmp gt_) Gx.const) rfl rfl ?_
          first | exact hm _ ⟨rfl, trivial⟩ rfl | exact QL.sub sl_ (hm _ ⟨rfl, trivial⟩ rfl)
        · intro ht7 hm
          iterate 3 refine s_pass rfl rfl ?_
          refine s_y (Y_pk rfl (Gx.tmp gt_) Gx.const) rfl rfl ?_
          exact hm _ ⟨rfl, trivial⟩ rfl
        intro j66
        refine s_y (Y_as) rfl rfl ?_
        refine s_nil ?_
        refine q_bn ?_
        refine q_then ?_
        refine c_seq ?_
        refine c_seq ?_
        refine c_reg ?_
        refine s_y (Y_mv) rfl rfl ?_
        refine s_y (Y_mv) rfl rfl ?_
        apply s_and 4 [68, 69, 70, 71, 72] 72 (g := 68) rfl rfl
        · intro ht2 hm
          try simp only [nrm_] at ht2
          first | refine s_y (Y_fa 2 rfl Tryz.underlying98 rfl sz3 rfl) rfl rfl ?_ | refine s_pass rfl rfl ?_
          first | refine s_y (yl_ one3) rfl rfl ?_ | refine s_pass rfl rfl ?_
          first | refine s_y (Y_geq rfl rfl) rfl rfl ?_ | refine s_pass rfl rfl ?_
          refine s_y (Y_pk rfl (Gx.tmp gt_) Gx.const) rfl rfl ?_
          first | exact hm _ ⟨rfl, trivial⟩ rfl | exact QL.sub sl_ (hm _ ⟨rfl, trivial⟩ rfl)
        · intro ht2 hm
          iterate 3 refine s_pass rfl rfl ?_
          refine s_y (Y_pk rfl (Gx.tmp gt_) Gx.const) rfl rfl ?_
          exact hm _ ⟨rfl, trivial⟩ rfl
        intro j72
        refine s_y (Y_mv) rfl rfl ?_
        apply s_and 4 [73, 74, 75, 76, 77] 77 (g := 73) rfl rfl
        · intro ht7 hm
          try simp only [nrm_] at ht7
          first | refine s_y (Y_fa 2 rfl Tryz.underlying98 rfl sz3 rfl) rfl rfl ?_ | refine s_pass rfl rfl ?_
          first | refine s_y (yl_ one3) rfl rfl ?_ | refine s_pass rfl rfl ?_
          first | refine s_y (Y_lss rfl rfl) rfl rfl ?_ | refine s_pass rfl rfl ?_
          refine s_y (Y_pk rfl (Gx.tmp gt_) Gx.const) rfl rfl ?_
          first | exact hm _ ⟨rfl, trivial⟩ rfl | exact QL.sub sl_ (hm _ ⟨rfl, trivial⟩ rfl)
        · intro ht7 hm
          iterate 3 refine s_pass rfl rfl ?_
          refine s_y (Y_pk rfl (Gx.tmp gt_) Gx.const) rfl rfl ?_
          exact hm _ ⟨rfl, trivial⟩ rfl
        intro j77
        refine s_y (Y_as) rfl rfl ?_
        refine s_nil ?_
        refine q_then ?_
        refine c_seq ?_
        refine c_reg ?_
        refine s_y (Y_mv) rfl rfl ?_
        refine s_y (Y_mv) rfl rfl ?_
        apply s_and 17 [79, 80, 81, 82, 83, 84, 85, 86, 87, 88, 89, 90, 91, 92, 93, 94, 95, 96] 96 (g := 79) rfl rfl
        · intro ht2 hm
          try simp only [nrm_] at ht2
          first | refine s_y (Y_fa 1 rfl Tryz.underlying98 rfl sz3 rfl) rfl rfl ?_ | refine s_pass rfl rfl ?_
          first | refine s_y (yl_ one3) rfl rfl ?_ | refine s_pass rfl rfl ?_
          first | refine s_y (Y_eql rfl rfl) rfl rfl ?_ | refine s_pass rfl rfl ?_
          first | refine s_y (Y_mv) rfl rfl ?_ | refine s_pass rfl rfl ?_
          apply s_or 12 [83, 84, 85, 86, 87, 88, 89, 90, 91, 92, 93, 94, 95] 95 (g := 83) rfl rfl
          · intro ht6 hm
            try simp only [nrm_] at ht6
            first | refine s_y (Y_fa 0 rfl Tryz.underlying98 rfl sz3 rfl) rfl rfl ?_ | refine s_pass rfl rfl ?_
            first | refine s_y (yl_ one3) rfl rfl ?_ | refine s_pass rfl rfl ?_
            first | refine s_y (Y_fa 3 rfl Tryz.underlying98 rfl sz3 rfl) rfl rfl ?_ | refine s_pass rfl rfl ?_
            first | refine s_y (yl_ one3) rfl rfl ?_ | refine s_pass rfl rfl ?_
            first | refine s_y ad_ rfl rfl ?_ | refine s_pass rfl rfl ?_
            first | refine s_y (Y_eql rfl rfl) rfl rfl ?_ | refine s_pass rfl rfl ?_
            first | refine s_y (Y_mv) rfl rfl ?_ | refine s_pass rfl rfl ?_
            apply s_and 4 [90, 91, 92, 93, 94] 94 (g := 90) rfl rfl
            · intro ht13 hm
              try simp only [nrm_] at ht13
              first | refine s_y (Y_fa 3 rfl Tryz.underlying98 rfl sz3 rfl) rfl rfl ?_ | refine s_pass rfl rfl ?_
              first | refine s_y (yl_ one3) rfl rfl ?_ | refine s_pass rfl rfl ?_
              first | refine s_y (Y_geq rfl rfl) rfl rfl ?_ | refine s_pass rfl rfl ?_
              first | refine s_y (Y_pk rfl (Gx.tmp gt_) Gx.const) rfl rfl ?_ | refine s_pass rfl rfl ?_
              first | exact hm _ ⟨rfl, trivial⟩ rfl | exact QL.sub sl_ (hm _ ⟨rfl, trivial⟩ rfl)
            · intro ht13 hm
              iterate 3 refine s_pass rfl rfl ?_
              first | refine s_y (Y_pk rfl (Gx.tmp gt_) Gx.const) rfl rfl ?_ | refine s_pass rfl rfl ?_
              exact hm _ ⟨rfl, trivial⟩ rfl
            intro j94
            first | refine s_y (Y_pk rfl Gx.const (Gx.tmp gt_)) rfl rfl ?_ | refine s_pass rfl rfl ?_
            first | exact hm _ ⟨rfl, trivial⟩ rfl | exact QL.sub sl_ (hm _ ⟨rfl, trivial⟩ rfl)
          · intro ht6 hm
            iterate 11 refine s_pass rfl rfl ?_
            first | refine s_y (Y_pk rfl Gx.const (Gx.tmp gt_)) rfl rfl ?_ | refine s_pass rfl rfl ?_
            exact hm _ ⟨rfl, trivial⟩ rfl
          intro j95
          refine s_y (Y_pk rfl (Gx.tmp gt_) Gx.const) rfl rfl ?_
          first | exact hm _ ⟨rfl, trivial⟩ rfl | exact QL.sub sl_ (hm _ ⟨rfl, trivial⟩ rfl)
        · intro ht2 hm
          iterate 16 refine s_pass rfl rfl ?_
          refine s_y (Y_pk rfl (Gx.tmp gt_) Gx.const) rfl rfl ?_
          exact hm _ ⟨rfl, trivial⟩ rfl
        intro j96
        refine s_y (Y_as) rfl rfl ?_
        refine s_nil ?_
        refine q_then ?_
        refine c_ret ?_
        refine q_retG1 rfl gt_ (L' := _) sl_ (⟨by congr 1; unfold placedM; rw [if_neg (by omega), if_pos (by omega)]; unfold btw; rw [Bool.eq_iff_iff]; simp only [nrm_, IntKind.wrap_i64]; omega, rfl⟩)
      · skip
        try simp only [nrm_] at hc5
        refine c_skip ?_
        refine q_then ?_
        refine c_seq ?_
        refine c_reg ?_
        refine s_y (Y_eql rfl rfl) rfl rfl ?_
        refine s_y (Y_as) rfl rfl ?_
        refine s_nil ?_
        refine q_then ?_
        first | refine c_cond' rfl (fun hc6 => ?_) (fun hc6 => ?_) | refine c_cond rfl (fun hc6 => ?_) (fun hc6 => ?_)
        · skip
          try simp only [nrm_] at hc6
          refine c_exit ?_
          repeat with_reducible refine q_te ?_
          refine q_past rfl ?_
          repeat with_reducible refine q_te ?_
          refine q_past rfl ?_
          repeat with_reducible refine q_te ?_
          refine q_past rfl ?_
          repeat with_reducible refine q_te ?_
          refine q_exit ?_
          refine q_then ?_
          refine c_seq ?_
          refine c_seq ?_
          refine c_reg ?_
          refine s_y (Y_mv) rfl rfl ?_
          refine s_y (Y_mv) rfl rfl ?_
          apply s_and 4 [68, 69, 70, 71, 72] 72 (g := 68) rfl rfl
          · intro ht2 hm
            try simp only [nrm_] at ht2
            first | refine s_y (Y_fa 2 rfl Tryz.underlying98 rfl sz3 rfl) rfl rfl ?_ | refine s_pass rfl rfl ?_
            first | refine s_y (yl_ one3) rfl rfl ?_ | refine s_pass rfl rfl ?_
            first | refine s_y (Y_geq rfl rfl) rfl rfl ?_ | refine s_pass rfl rfl ?_
            refine s_y (Y_pk rfl (Gx.tmp gt_) Gx.const) rfl rfl ?_
            first | exact hm _ ⟨rfl, trivial⟩ rfl | exact QL.sub sl_ (hm _ ⟨rfl, trivial⟩ rfl)
          · intro ht2 hm
            iterate 3 refine s_pass rfl rfl ?_
            refine s_y (Y_pk rfl (Gx.tmp gt_) Gx.const) rfl rfl ?_
            exact hm _ ⟨rfl, trivial⟩ rfl
          intro j72
          refine s_y (Y_mv) rfl rfl ?_
          apply s_and 4 [73, 74, 75, 76, 77] 77 (g := 73) rfl rfl
          · intro ht7 hm
            try simp only [nrm_] at ht7
            first | refine s_y (Y_fa 2 rfl Tryz.underlying98 rfl sz3 rfl) rfl rfl ?_ | refine s_pass rfl rfl ?_
            first | refine s_y (yl_ one3) rfl rfl ?_ | refine s_pass rfl rfl ?_
            first | refine s_y (Y_lss rfl rfl) rfl rfl ?_ | refine s_pass rfl rfl ?_
            refine s_y (Y_pk rfl (Gx.tmp gt_) Gx.const) rfl rfl ?_
            first | exact hm _ ⟨rfl, trivial⟩ rfl | exact QL.sub sl_ (hm _ ⟨rfl, trivial⟩ rfl)
          · intro ht7 hm
            iterate 3 refine s_pass rfl rfl ?_
            refine s_y (Y_pk rfl (Gx.tmp gt_) Gx.const) rfl rfl ?_
            exact hm _ ⟨rfl, trivial⟩ rfl
          intro j77
          refine s_y (Y_as) rfl rfl ?_
          refine s_nil ?_
          refine q_then ?_
          refine c_seq ?_
          refine c_reg ?_
          refine s_y (Y_mv) rfl rfl ?_
          refine s_y (Y_mv) rfl rfl ?_
          apply s_and 17 [79, 80, 81, 82, 83, 84, 85, 86, 87, 88, 89, 90, 91, 92, 93, 94, 95, 96] 96 (g := 79) rfl rfl
          · intro ht2 hm
            try simp only [nrm_] at ht2
            first | refine s_y (Y_fa 1 rfl Tryz.underlying98 rfl sz3 rfl) rfl rfl ?_ | refine s_pass rfl rfl ?_
            first | refine s_y (yl_ one3) rfl rfl ?_ | refine s_pass rfl rfl ?_
            first | refine s_y (Y_eql rfl rfl) rfl rfl ?_ | refine s_pass rfl rfl ?_
            first | refine s_y (Y_mv) rfl rfl ?_ | refine s_pass rfl rfl ?_
            apply s_or 12 [83, 84, 85, 86, 87, 88, 89, 90, 91, 92, 93, 94, 95] 95 (g := 83) rfl rfl
            · intro ht6 hm
              try simp only [nrm_] at ht6
              first | refine s_y (Y_fa 0 rfl Tryz.underlying98 rfl sz3 rfl) rfl rfl ?_ | refine s_pass rfl rfl ?_
              first | refine s_y (yl_ one3) rfl rfl ?_ | refine s_pass rfl rfl ?_
              first | refine s_y (Y_fa 3 rfl Tryz.underlying98 rfl sz3 rfl) rfl rfl ?_ | refine s_pass rfl rfl ?_
              first | refine s_y (yl_ one3) rfl rfl ?_ | refine s_pass rfl rfl ?_
              first | refine s_y ad_ rfl rfl ?_ | refine s_pass rfl rfl ?_
              first | refine s_y (Y_eql rfl rfl) rfl rfl ?_ | refine s_pass rfl rfl ?_
              first | refine s_y (Y_mv) rfl rfl ?_ | refine s_pass rfl rfl ?_
              apply s_and 4 [90, 91, 92, 93, 94] 94 (g := 90) rfl rfl
              · intro ht13 hm
                try simp only [nrm_] at ht13
                first | refine s_y (Y_fa 3 rfl Tryz.underlying98 rfl sz3 rfl) rfl rfl ?_ | refine s_pass rfl rfl ?_
                first | refine s_y (yl_ one3) rfl rfl ?_ | refine s_pass rfl rfl ?_
                first | refine s_y (Y_geq rfl rfl) rfl rfl ?_ | refine s_pass rfl rfl ?_
                first | refine s_y (Y_pk rfl (Gx.tmp gt_) Gx.const) rfl rfl ?_ | refine s_pass rfl rfl ?_
                first | exact hm _ ⟨rfl, trivial⟩ rfl | exact QL.sub sl_ (hm _ ⟨rfl, trivial⟩ rfl)
              · intro ht13 hm
                iterate 3 refine s_pass rfl rfl ?_
                first | refine s_y (Y_pk rfl (Gx.tmp gt_) Gx.const) rfl rfl ?_ | refine s_pass rfl rfl ?_
                exact hm _ ⟨rfl, trivial⟩ rfl
              intro j94
              first | refine s_y (Y_pk rfl Gx.const (Gx.tmp gt_)) rfl rfl ?_ | refine s_pass rfl rfl ?_
              first | exact hm _ ⟨rfl, trivial⟩ rfl | exact QL.sub sl_ (hm _ ⟨rfl, trivial⟩ rfl)
            · intro ht6 hm
              iterate 11 refine s_pass rfl rfl ?_
              first | refine s_y (Y_pk rfl Gx.const (Gx.tmp gt_)) rfl rfl ?_ | refine s_pass rfl rfl ?_
              exact hm _ ⟨rfl, trivial⟩ rfl
            intro j95
            refine s_y (Y_pk rfl (Gx.tmp gt_) Gx.const) rfl rfl ?_
            first | exact hm _ ⟨rfl, trivial⟩ rfl | exact QL.sub sl_ (hm _ ⟨rfl, trivial⟩ rfl)
          · intro ht2 hm
            iterate 16 refine s_pass rfl rfl ?_
            refine s_y (Y_pk rfl (Gx.tmp gt_) Gx.const) rfl rfl ?_
            exact hm _ ⟨rfl, trivial⟩ rfl
          intro j96
          refine s_y (Y_as) rfl rfl ?_
          refine s_nil ?_
          refine q_then ?_
          refine c_ret ?_
          refine q_retG1 rfl gt_ (L' := _) sl_ (⟨by congr 1; unfold placedM; rw [if_neg (by omega), if_neg (by omega), if_pos (by omega)]; unfold btw; rw [Bool.eq_iff_iff]; simp only [nrm_, IntKind.wrap_i64]; omega, rfl⟩)
        · skip
          try simp only [nrm_] at hc6
          refine c_skip ?_
          refine q_then ?_
          refine c_exit ?_
          repeat with_reducible refine q_te ?_
          refine q_past rfl ?_
          repeat with_reducible refine q_te ?_
          refine q_past rfl ?_
          repeat with_reducible refine q_te ?_
          refine q_past rfl ?_
          repeat with_reducible refine q_te ?_
          refine q_past rfl ?_
          repeat with_reducible refine q_te ?_
          refine q_exit ?_
          refine q_then ?_
          refine c_seq ?_
          refine c_reg ?_
          refine s_y (Y_asC) rfl rfl ?_
          refine s_nil ?_
          refine q_then ?_
          refine c_ret ?_
          refine q_retG1 rfl gt_ (L' := _) sl_ (⟨by congr 1; unfold placedM; rw [if_neg (by omega), if_neg (by omega), if_neg (by omega), if_neg (by omega)]; simp, rfl⟩)
set_option maxRecDepth 100000 in
theorem pstats_d {k : Int} : Does Tryz.prog 129 [iv k] W [] (fun v L => v = .agg (statsM k).cells.toArray ∧ L = []) := by
  refine enter Tryz.func129 rfl rfl rfl (Has.start _) ?_
  refine c_seq ?_
  refine c_reg ?_
  refine s_n (N_alloc (z := .agg #[.int .i64 0, .int .i64 0, .int .i64 0, .int .i64 0, .int .i64 0, .int .i64 0, .int .i64 0, .int .i64 0, .int .i64 0, .int .i64 0, .int .i64 0]) (cs := [.int .i64 0, .int .i64 0, .int .i64 0, .int .i64 0, .int .i64 0, .int .i64 0, .int .i64 0, .int .i64 0, .int .i64 0, .int .i64 0, .int .i64 0]) zv93 rfl) rfl rfl (fun b2 _ => ?_)
  refine s_nil ?_
  refine q_then ?_
  refine c_seq ?_
  refine c_reg ?_
  refine s_y (Y_mv) rfl rfl ?_
  refine s_y (Y_build (cs := [_, .int .i64 0, .int .i64 0, .int .i64 0, .int .i64 0, .int .i64 0, .int .i64 0, .int .i64 0, .int .i64 0, .int .i64 0, .int .i64 0]) (by repeat (first | exact Gp.nil | apply Gp.const | apply Gp.tmp gt_)) (bld93 _ _ (by first | rfl | (simp; rfl)))) rfl rfl ?_
  refine s_n (N_alloc (z := .agg #[.int .i64 0, .int .i64 0, .int .i64 0, .int .i64 0, .int .i64 0, .int .i64 0, .int .i64 0, .int .i64 0, .int .i64 0, .int .i64 0, .int .i64 0]) (cs := [.int .i64 0, .int .i64 0, .int .i64 0, .int .i64 0, .int .i64 0, .int .i64 0, .int .i64 0, .int .i64 0, .int .i64 0, .int .i64 0, .int .i64 0]) zv93 rfl) rfl rfl (fun b3 _ => ?_)
  refine s_s ((sa_ sz93)) rfl ?_
  refine s_nil ?_
  refine q_then ?_
  refine c_seq ?_
  refine c_seq ?_
  refine c_reg ?_
  refine s_y (Y_mv) rfl rfl ?_
  refine s_nil ?_
  refine q_then ?_
  refine c_block ?_
  refine c_seq ?_
  refine c_reg ?_
  refine s_y (Y_eql rfl rfl) rfl rfl ?_
  refine s_y (Y_as) rfl rfl ?_
  refine s_nil ?_
  refine q_then ?_
  first | refine c_cond' rfl (fun hc4 => ?_) (fun hc4 => ?_) | refine c_cond rfl (fun hc4 => ?_) (fun hc4 => ?_)
  · skip
    try simp only [nrm_] at hc4
    refine c_reg ?_
    refine s_y (Y_fa 5 rfl Tryz.underlying93 rfl sz3 rfl) rfl rfl ?_
    refine s_s (S_stC rfl sz3 (by rfl) up_ (by first | (simp only [Nat.zero_add, Nat.reduceAdd, List.set_cons_succ, List.set_cons_zero]; rfl) | rfl) (by first | (simp; done) | omega)) rfl ?_
    refine s_y (Y_fa 7 rfl Tryz.underlying93 rfl sz3 rfl) rfl rfl ?_
    refine s_s (S_stC rfl sz3 (by rfl) up_ (by first | (simp only [Nat.zero_add, Nat.reduceAdd, List.set_cons_succ, List.set_cons_zero]; rfl) | rfl) (by first | (simp; done) | omega)) rfl ?_
    refine s_y (Y_fa 8 rfl Tryz.underlying93 rfl sz3 rfl) rfl rfl ?_
    refine s_s (S_stC rfl sz3 (by rfl) up_ (by first | (simp only [Nat.zero_add, Nat.reduceAdd, List.set_cons_succ, List.set_cons_zero]; rfl) | rfl) (by first | (simp; done) | omega)) rfl ?_
    refine s_nil ?_
    refine q_bn ?_
    refine q_then ?_
    refine c_seq ?_
    refine c_reg ?_
    refine s_y (Y_fa 5 rfl Tryz.underlying93 rfl sz3 rfl) rfl rfl ?_
    refine s_y (yl_ one3) rfl rfl ?_
    refine s_y (Y_fa 6 rfl Tryz.underlying93 rfl sz3 rfl) rfl rfl ?_
    refine s_s (S_st rfl gt_ sz3 (by rfl) up_ (by first | (simp only [Nat.zero_add, Nat.reduceAdd, List.set_cons_succ, List.set_cons_zero]; rfl) | rfl) (by first | (simp; done) | omega)) rfl ?_
    refine s_nil ?_
    refine q_then ?_
    refine c_seq ?_
    refine c_reg ?_
    refine s_y (ya_ many93) rfl rfl ?_
    refine s_s ((sa_ sz93)) rfl ?_
    refine s_nil ?_
    refine q_then ?_
    refine c_ret ?_
    refine q_ret1c rfl rfl many93 mm_ (by rfl) (L' := _) sl_ (⟨by first | (obtain rfl : k = 1 := by omega); rfl | (obtain rfl : k = 2 := by omega); rfl | (obtain rfl : k = 3 := by omega); rfl | (obtain rfl : k = 4 := by omega); rfl, rfl⟩)
  · skip
    try simp only [nrm_] at hc4
    refine c_seq ?_
    refine c_reg ?_
    refine s_y (Y_eql rfl rfl) rfl rfl ?_
    refine s_y (Y_as) rfl rfl ?_
    refine s_nil ?_
    refine q_then ?_
    first | refine c_cond' rfl (fun hc6 => ?_) (fun hc6 => ?_) | refine c_cond rfl (fun hc6 => ?_) (fun hc6 => ?_)
    · skip
      try simp only [nrm_] at hc6
      refine c_reg ?_
      refine s_y (Y_fa 5 rfl Tryz.underlying93 rfl sz3 rfl) rfl rfl ?_
      refine s_s (S_stC rfl sz3 (by rfl) up_ (by first | (simp only [Nat.zero_add, Nat.reduceAdd, List.set_cons_succ, List.set_cons_zero]; rfl) | rfl) (by first | (simp; done) | omega)) rfl ?_
      refine s_y (Y_fa 7 rfl Tryz.underlying93 rfl sz3 rfl) rfl rfl ?_
      refine s_s (S_stC rfl sz3 (by rfl) up_ (by first | (simp only [Nat.zero_add, Nat.reduceAdd, List.set_cons_succ, List.set_cons_zero]; rfl) | rfl) (by first | (simp; done) | omega)) rfl ?_
      refine s_nil ?_
      refine q_bn ?_
      refine q_then ?_
      refine c_seq ?_
      refine c_reg ?_
      refine s_y (Y_fa 5 rfl Tryz.underlying93 rfl sz3 rfl) rfl rfl ?_
      refine s_y (yl_ one3) rfl rfl ?_
      refine s_y (Y_fa 6 rfl Tryz.underlying93 rfl sz3 rfl) rfl rfl ?_
      refine s_s (S_st rfl gt_ sz3 (by rfl) up_ (by first | (simp only [Nat.zero_add, Nat.reduceAdd, List.set_cons_succ, List.set_cons_zero]; rfl) | rfl) (by first | (simp; done) | omega)) rfl ?_
      refine s_nil ?_
      refine q_then ?_
      refine c_seq ?_
      refine c_reg ?_
      refine s_y (ya_ many93) rfl rfl ?_
      refine s_s ((sa_ sz93)) rfl ?_
      refine s_nil ?_
      refine q_then ?_
      refine c_ret ?_
      refine q_ret1c rfl rfl many93 mm_ (by rfl) (L' := _) sl_ (⟨by first | (obtain rfl : k = 1 := by omega); rfl | (obtain rfl : k = 2 := by omega); rfl | (obtain rfl : k = 3 := by omega); rfl | (obtain rfl : k = 4 := by omega); rfl, rfl⟩)
    · skip
      try simp only [nrm_] at hc6
      refine c_seq ?_
      refine c_reg ?_
      refine s_y (Y_eql rfl rfl) rfl rfl ?_
      refine s_y (Y_as) rfl rfl ?_
      refine s_nil ?_
      refine q_then ?_
      first | refine c_cond' rfl (fun hc8 => ?_) (fun hc8 => ?_) | refine c_cond rfl (fun hc8 => ?_) (fun hc8 => ?_)
      · skip
        try simp only [nrm_] at hc8
        refine c_reg ?_
        refine s_y (Y_fa 5 rfl Tryz.underlying93 rfl sz3 rfl) rfl rfl ?_
        refine s_s (S_stC rfl sz3 (by rfl) up_ (by first | (simp only [Nat.zero_add, Nat.reduceAdd, List.set_cons_succ, List.set_cons_zero]; rfl) | rfl) (by first | (simp; done) | omega)) rfl ?_
        refine s_y (Y_fa 7 rfl Tryz.underlying93 rfl sz3 rfl) rfl rfl ?_
        refine s_s (S_stC rfl sz3 (by rfl) up_ (by first | (simp only [Nat.zero_add, Nat.reduceAdd, List.set_cons_succ, List.set_cons_zero]; rfl) | rfl) (by first | (simp; done) | omega)) rfl ?_
        refine s_y (Y_fa 8 rfl Tryz.underlying93 rfl sz3 rfl) rfl rfl ?_
        refine s_s (S_stC rfl sz3 (by rfl) up_ (by first | (simp only [Nat.zero_add, Nat.reduceAdd, List.set_cons_succ, List.set_cons_zero]; rfl) | rfl) (by first | (simp; done) | omega)) rfl ?_
        refine s_nil ?_
        refine q_bn ?_
        refine q_then ?_
        refine c_seq ?_
        refine c_reg ?_
        refine s_y (Y_fa 5 rfl Tryz.underlying93 rfl sz3 rfl) rfl rfl ?_
        refine s_y (yl_ one3) rfl rfl ?_
        refine s_y (Y_fa 6 rfl Tryz.underlying93 rfl sz3 rfl) rfl rfl ?_
        refine s_s (S_st rfl gt_ sz3 (by rfl) up_ (by first | (simp only [Nat.zero_add, Nat.reduceAdd, List.set_cons_succ, List.set_cons_zero]; rfl) | rfl) (by first | (simp; done) | omega)) rfl ?_
        refine s_nil ?_
        refine q_then ?_
        refine c_seq ?_
        refine c_reg ?_
        refine s_y (ya_ many93) rfl rfl ?_
        refine s_s ((sa_ sz93)) rfl ?_
        refine s_nil ?_
        refine q_then ?_
        refine c_ret ?_
        refine q_ret1c rfl rfl many93 mm_ (by rfl) (L' := _) sl_ (⟨by first | (obtain rfl : k = 1 := by omega); rfl | (obtain rfl : k = 2 := by omega); rfl | (obtain rfl : k = 3 := by omega); rfl | (obtain rfl : k = 4 := by omega); rfl, rfl⟩)
      · skip
        try simp only [nrm_] at hc8
        refine c_seq ?_
        refine c_reg ?_
        refine s_y (Y_eql rfl rfl) rfl rfl ?_
        refine s_y (Y_as) rfl rfl ?_
        refine s_nil ?_
        refine q_then ?_
        first | refine c_cond' rfl (fun hc10 => ?_) (fun hc10 => ?_) | refine c_cond rfl (fun hc10 => ?_) (fun hc10 => ?_)
        · skip
          try simp only [nrm_] at hc10
          refine c_reg ?_
          refine s_y (Y_fa 5 rfl Tryz.underlying93 rfl sz3 rfl) rfl rfl ?_
          refine s_s (S_stC rfl sz3 (by rfl) up_ (by first | (simp only [Nat.zero_add, Nat.reduceAdd, List.set_cons_succ, List.set_cons_zero]; rfl) | rfl) (by first | (simp; done) | omega)) rfl ?_
          refine s_y (Y_fa 7 rfl Tryz.underlying93 rfl sz3 rfl) rfl rfl ?_
          refine s_s (S_stC rfl sz3 (by rfl) up_ (by first | (simp only [Nat.zero_add, Nat.reduceAdd, List.set_cons_succ, List.set_cons_zero]; rfl) | rfl) (by first | (simp; done) | omega)) rfl ?_
          refine s_nil ?_
          refine q_bn ?_
          refine q_then ?_
          refine c_seq ?_
          refine c_reg ?_
          refine s_y (Y_fa 5 rfl Tryz.underlying93 rfl sz3 rfl) rfl rfl ?_
          refine s_y (yl_ one3) rfl rfl ?_
          refine s_y (Y_fa 6 rfl Tryz.underlying93 rfl sz3 rfl) rfl rfl ?_
          refine s_s (S_st rfl gt_ sz3 (by rfl) up_ (by first | (simp only [Nat.zero_add, Nat.reduceAdd, List.set_cons_succ, List.set_cons_zero]; rfl) | rfl) (by first | (simp; done) | omega)) rfl ?_
          refine s_nil ?_
          refine q_then ?_
          refine c_seq ?_
          refine c_reg ?_
          refine s_y (ya_ many93) rfl rfl ?_
          refine s_s ((sa_ sz93)) rfl ?_
          refine s_nil ?_
          refine q_then ?_
          refine c_ret ?_
          refine q_ret1c rfl rfl many93 mm_ (by rfl) (L' := _) sl_ (⟨by first | (obtain rfl : k = 1 := by omega); rfl | (obtain rfl : k = 2 := by omega); rfl | (obtain rfl : k = 3 := by omega); rfl | (obtain rfl : k = 4 := by omega); rfl, rfl⟩)
        · skip
          try simp only [nrm_] at hc10
          refine c_seq ?_
          refine c_reg ?_
          refine s_y (Y_build (cs := [.int .i64 0, .int .i64 0, .int .i64 0, .int .i64 0, .int .i64 0, .int .i64 0, .int .i64 0, .int .i64 0, .int .i64 0, .int .i64 0, .int .i64 0]) (by repeat (first | exact Gp.nil | apply Gp.const | apply Gp.tmp gt_)) (bld93 _ _ (by first | rfl | (simp; rfl)))) rfl rfl ?_
          refine s_s ((sa_ sz93)) rfl ?_
          refine s_nil ?_
          refine q_then ?_
          refine c_ret ?_
          refine q_ret1c rfl rfl many93 mm_ (by rfl) (L' := _) sl_ (⟨by rw [show statsM k = Ent.zero by unfold statsM; rw [if_neg (by omega), if_neg (by omega), if_neg (by omega), if_neg (by omega)]]; rfl, rfl⟩)
end
end Go.Proofs.YtcogbkkdccohfaaGreat
namespace Go.Ad
theorem ents_step {w : Wd} {i : Nat} {e : Ent} (h : w.ents[i]? = some e) : entsM w (w.ents.drop i) i = if entM w i e ≠ 0 then entM w i e else entsM w (w.ents.drop (i + 1)) (i + 1) := by
  obtain ⟨hi, rfl⟩ := List.getElem?_eq_some_iff.1 h
  rw [List.drop_eq_getElem_cons hi, entsM]
theorem items_step {cells : List UInt8} {all : List Itm} {i : Nat} {x : Itm} (h : all[i]? = some x) : itemsM cells all (all.drop i) i = if x.isZ then itemsM cells all (all.drop (i + 1)) (i + 1) else if btw x.kind 1 4 && placedM cells x && aloneM (all.take i) x then itemsM cells all (all.drop (i + 1)) (i + 1) else false := by
  obtain ⟨hi, rfl⟩ := List.getElem?_eq_some_iff.1 h
  rw [List.drop_eq_getElem_cons hi, itemsM]
theorem SlB.take {α : Type} {f : α → List Value} {k : Nat} (hk : ∀ a, (f a).length = k) {W : World} {b o n c : Nat} {l : List α} (h : SlB W b o n c k (l.flatMap f)) {i : Nat} (hi : i ≤ l.length) (hn : l.length = n) : SlB W b o i c k ((l.take i).flatMap f) :=
  ⟨by rw [fl_len hk, List.length_take, Nat.min_eq_left hi], by have := h.cap; omega, h.big, h.lt, ro_take h.ro (fl_take hk l i)⟩
theorem fits_iff {w : Wd} {i : Nat} {e : Ent} (h0 : e.kind ≠ 0) : fitsM w i e = true ↔ ((0 ≤ e.gen ∧ e.gen ≤ 255) ∧ walkM (atM w.cells e.x e.y) = true ∧ eAt (w.ents.take i) e.x e.y < 0 ∧ (1 ≤ e.hp ∧ e.hp ≤ e.max) ∧ e.max = (statsM e.kind).max ∧ e.atk = (statsM e.kind).atk ∧ e.df = (statsM e.kind).df ∧ (0 ≤ e.poison ∧ e.poison ≤ 9) ∧ (0 ≤ e.stun ∧ e.stun ≤ 9) ∧ (e.kind = 1 → (0 ≤ e.seat ∧ e.seat ≤ 3) ∧ eHero (w.ents.take i) e.seat < 0) ∧ (e.kind ≠ 1 → e.seat = 0)) := by
  simp only [fitsM, btw, if_neg h0]
  by_cases hk : e.kind = 1
  · simp [hk, and_assoc]
  · simp [hk, and_assoc]
end Go.Ad
namespace Go.Proofs.YtcogbkkdccohfaaGreat
open Go.RowKit Go.Ad Go.Maps
set_option linter.unusedVariables false
set_option linter.unusedSimpArgs false
section
variable {W : World}
def goldOk (g : Four) (k : Nat) : Bool := (List.range k).all fun i => btw (g.get i) 0 999
theorem goldOk_step (g : Four) (k : Nat) : goldOk g (k + 1) = (goldOk g k && btw (g.get k) 0 999) := by
  unfold goldOk
  rw [List.range_succ, List.all_append, List.all_cons, List.all_nil, Bool.and_true]
theorem nums_gold (w : Wd) : numsOk w = (btw w.frame 0 1073741823 && btw w.floor 1 3 && btw w.state 0 2 && goldOk w.gold 4) := by
  have : goldOk w.gold 4 = (btw w.gold.a 0 999 && btw w.gold.b 0 999 && btw w.gold.c 0 999 && btw w.gold.d 0 999) := by
    rw [goldOk_step, goldOk_step, goldOk_step, goldOk_step]
    simp only [goldOk, List.range_zero, List.all_nil, Bool.true_and]
    rfl
  rw [this, numsOk]
  simp only [Bool.and_assoc]
end
end Go.Proofs.YtcogbkkdccohfaaGreat
namespace Go.Proofs.YtcogbkkdccohfaaGreat
open Go.RowKit Go.Ad Go.Maps
set_option linter.unusedVariables false
set_option linter.unusedSimpArgs false
section
variable {W : World}
def EncP (d : Wd) (v : Value) (L : List Bk) : Prop := (checkM d ≠ 0 ∧ v = .tuple #[.slice none 0 0, iv (checkM d)] ∧ L = []) ∨ (checkM d = 0 ∧ ∃ g cap, v = .tuple #[.slice (some ⟨g, 0, none⟩) (encW d).length cap, iv 0] ∧ L = [cB g cap (encW d)] ∧ (encW d).length ≤ cap)
theorem bsnoc (ys zs : List UInt8) : ys.map bv ++ zs.map bv = (ys ++ zs).map bv := (List.map_append).symm
end
end Go.Proofs.YtcogbkkdccohfaaGreat
namespace Go.Ad
open Go.RowKit Go.Maps
set_option linter.unusedVariables false
set_option linter.unusedSimpArgs false
section
variable {P : Program} {W : World} {M : List Nat} {L : List Bk} {ρ : Operand → Value} {x y : Operand} {ty : TypeId} {v : Value}
theorem Y_idx {t e : TypeId} {len i : Nat} {cs : List Value} {k : IntKind} {n : Int} (hx : ρ x = .agg cs.toArray) (hy : ρ y = .int k n) (hu : P.underlying t = some (.array len e)) (he : Cel1 P e) (hs : (P.info? e).map (·.size) = some 1) (hn : n = (i : Int)) (hi : i < len) (hv : cs[i]? = some v) : Y P W M L ρ (.index t x y) ty v := fun w hw o ho _ => by
  subst hn
  obtain ⟨d, h1, h2⟩ := he
  unfold execOp
  rw [ho]
  have : (Instr.index t (.agg cs.toArray) (.int k (i : Int))).run P w = .ok v w := by
    simp [Instr.index, asIntOf, run_underlying hu, run_size hs, part, run_isAgg h1, h2, hi, hv, Result.andThen]
  simp [hx, hy, this, Result.andThen]
theorem Y_ext {f : FuncId} {fn : Func} {e : Array Value → Sem Value} {args : List Operand} {ts : Array TypeId} {vs : List Value} (hρ : ρ (.func f) = .func (.func f) #[] #[]) (hf : P.funcs[f]? = some fn) (hnm : (fn.name == "runtime.NumGoroutine") = false)
    (hb : fn.body.isNone = true) (hn : Extern.findNext fn = none) (he : Extern.find fn = some e) (hv : args.map ρ = vs) (h : ∀ w, Has W M L w → (e vs.toArray).run P w = .ok v w) : Y P W M L ρ (.call { callee := .value (.func f), args := args.toArray, argTypes := ts }) ty v := fun w hw o ho _ => by
  have := run_callFunc_extern hf hnm hb hn he vs.toArray w
  rw [h w hw] at this
  unfold execOp
  simp [ho, resolve, hρ, Deferred.ofValue, invoke, ← hv] at this ⊢
  simp [this, Result.andThen]
end
end Go.Ad
namespace Go.Proofs.YtcogbkkdccohfaaGreat
open Go.RowKit Go.Ad Go.Maps
set_option linter.unusedVariables false
set_option linter.unusedSimpArgs false
section
variable {W : World}
set_option maxRecDepth 100000 in
theorem pnum_d {v : Value} {B : List Bk} {ys : List UInt8} (hB : Row 5 1 v ys.length (ys.map bv) B) (hbl : ys.length ≤ 100000) (hW : ∀ x ∈ B, x.holds W) {k : Nat} (hk : k ≤ 8) {x : Int} : Does Tryz.prog 62 [v, iv k, .int .u64 x] W (B.map (·.b)) (fun v' L => Row 5 1 v' (ys ++ beM x k).length ((ys ++ beM x k).map bv) L) := by
  refine enter Tryz.func62 rfl rfl rfl (Has.starts hW hB.nodup) ?_
  refine c_seq ?_
  refine c_reg ?_
  refine s_y (Y_asC) rfl rfl ?_
  refine s_nil ?_
  refine q_then ?_
  refine c_seq ?_
  refine c_seq ?_
  refine c_reg ?_
  refine s_y (Y_mv) rfl rfl ?_
  refine s_y su_ rfl rfl ?_
  refine s_y (Y_as) rfl rfl ?_
  refine s_nil ?_
  refine q_then ?_
  refine c_block ?_
  refine c_loop [0, 7, 10, 11, 12, 13, 14, 15, 16, 17, 18, 19, 20, 21] (fun m (y : Nat × List UInt8 × Value × List Bk) => y.1 = m ∧ y.2.1 ++ beM x m = ys ++ beM x k ∧ m ≤ 8 ∧ y.2.1.length + m = ys.length + k ∧ Row 5 1 y.2.2.1 y.2.1.length (y.2.1.map bv) y.2.2.2) (fun y => [(7, iv ((y.1 : Int) - 1)), (0, y.2.2.1)]) (fun y => y.2.2.2) (k) ((k, ys, v, B)) (⟨rfl, rfl, hk, rfl, hB⟩) (by repeat (first | exact trivial | refine ⟨rfl, ?_⟩)) (fun _ h => h.sub sl_) (fun _ => rfl) ?_
  rintro m ⟨m', zs, v2, B2⟩ j ⟨hm, hz, hm8, hzl, hB2⟩ K hK
  simp only at hm hz hm8 hzl hB2 ⊢
  subst hm
  refine c_seq ?_
  refine c_seq ?_
  refine c_reg ?_
  refine s_y (Y_mv) rfl rfl ?_
  refine s_y (Y_geq rfl rfl) rfl rfl ?_
  refine s_nil ?_
  refine q_then ?_
  first | refine c_cond' rfl (fun hc2 => ?_) (fun hc2 => ?_) | refine c_cond rfl (fun hc2 => ?_) (fun hc2 => ?_)
  · skip
    try simp only [nrm_] at hc2
    refine c_skip ?_
    refine q_then ?_
    refine c_seq ?_
    refine c_block ?_
    obtain ⟨q, rfl⟩ : ∃ q, m' = q + 1 := ⟨m' - 1, by omega⟩
    refine c_reg ?_
    refine s_y (Y_mv) rfl rfl ?_
    refine s_y (Y_mv) rfl rfl ?_
    refine s_y (Y_mv) rfl rfl ?_
    refine s_y mu_ rfl rfl ?_
    refine s_y ((Y_shr rfl rfl (by omega)).num (show _ = x.fdiv (2 ^ (8 * q)) by congr 2; show min (8 * (((q + 1 : Nat) : Int) - 1)).toNat 64 = _; omega)) rfl rfl ?_
    refine s_y (Y_cb rfl Tryz.underlying96 Tryz.underlying5) rfl rfl ?_
    refine s_n (N_bs (xs := [.tmp 19]) (by repeat (first | exact Gv.nil | apply Gv.const | apply Gv.tmp gt_)) rfl Tryz.underlying24 inf5 rfl (by omega) (by omega) (by intro v hv; simp at hv; subst hv; rfl)) rfl rfl (fun b20 _ => ?_)
    refine s_n (N_appR (bytes := 1) hB2 (List.perm_append_comm (l₁ := B2) (l₂ := [_])) rfl rfl Tryz.underlying24 inf5 rfl (by omega) (src (news := [bv (byteM (x.fdiv (2 ^ (8 * q))))]) mm_) (by rfl) (by simp [Value.oneCell']) (by omega) (by omega) (by omega)) rfl rfl (fun ⟨g21, cp21⟩ hc21 => ?_)
    refine s_y (Y_as) rfl rfl ?_
    refine s_nil ?_
    refine q_bn ?_
    refine q_then ?_
    refine c_reg ?_
    refine s_y (Y_mv) rfl rfl ?_
    refine s_y su_ rfl rfl ?_
    refine s_y (Y_as) rfl rfl ?_
    refine s_nil ?_
    refine hK q (q, zs ++ [byteM (x.fdiv (2 ^ (8 * q)))], .slice (some ⟨g21, 0, none⟩) (zs.length + 1) cp21, [⟨g21, 5, 1, cp21, (zs ++ [byteM (x.fdiv (2 ^ (8 * q)))]).map bv⟩]) _ _ (by omega) ⟨rfl, by rw [beM] at hz; simp only; rw [← hz]; simp, by omega, by simp only [List.length_append, List.length_singleton]; omega, by simp only; rw [List.length_append, List.length_singleton]; exact .some hc21 (by simp)⟩ ⟨by show iv _ = iv _; congr 1; omega, rfl, trivial⟩ rfl (fun w h => ?_)
    show Has W _ [⟨g21, 5, 1, cp21, (zs ++ [byteM (x.fdiv (2 ^ (8 * q)))]).map bv⟩] w
    rw [List.map_append]
    exact h.pick ss_
  · skip
    try simp only [nrm_] at hc2
    refine c_exit ?_
    repeat with_reducible refine q_te ?_
    refine q_exit ?_
    refine q_then ?_
    refine c_seq ?_
    obtain rfl : m' = 0 := by omega
    rw [beM, List.append_nil] at hz
    subst hz
    refine c_reg ?_
    refine s_y (Y_mv) rfl rfl ?_
    refine s_y (Y_as) rfl rfl ?_
    refine s_nil ?_
    refine q_then ?_
    refine c_ret ?_
    refine q_retG1 rfl gt_ (L' := _) sl_ (hB2)
set_option maxRecDepth 100000 in
theorem psmall_d {v : Value} {B : List Bk} {ys : List UInt8} (hB : Row 5 1 v ys.length (ys.map bv) B) (hbl : ys.length ≤ 100000) (hW : ∀ x ∈ B, x.holds W) {lb lo lc n : Nat} {ns : List Int} (hl : SlB W lb lo n lc 1 (ns.map iv)) (hn : n ≤ 100000) (hlb : lb ∉ B.map (·.b)) : Does Tryz.prog 63 [v, .slice (some ⟨lb, lo, none⟩) n lc] W (B.map (·.b)) (fun v' L => Row 5 1 v' (ys ++ ns.map byteM).length ((ys ++ ns.map byteM).map bv) L) := by
  obtain rfl : n = ns.length := by have := hl.len; simpa using this.symm
  refine enter Tryz.func63 rfl rfl rfl (Has.starts hW hB.nodup) ?_
  refine c_seq ?_
  refine c_reg ?_
  refine s_y (Y_asC) rfl rfl ?_
  refine s_nil ?_
  refine q_then ?_
  refine c_seq ?_
  refine c_seq ?_
  refine c_reg ?_
  refine s_y (Y_mv) rfl rfl ?_
  refine s_y (Y_len rfl rfl Tryz.underlying23) rfl rfl ?_
  refine s_y (Y_mvC) rfl rfl ?_
  refine s_nil ?_
  refine q_then ?_
  refine c_block ?_
  refine c_loop [0, 6, 9, 10, 11, 12, 13, 14, 15, 16, 17, 18] (fun m (y : Nat × List UInt8 × Value × List Bk) => y.1 + m = ns.length ∧ y.2.1 = ys ++ (ns.take y.1).map byteM ∧ Row 5 1 y.2.2.1 y.2.1.length (y.2.1.map bv) y.2.2.2) (fun y => [(9, iv y.1), (0, y.2.2.1)]) (fun y => y.2.2.2) (ns.length) ((0, ys, v, B)) (⟨by simp only; omega, by simp, hB⟩) (by repeat (first | exact trivial | refine ⟨rfl, ?_⟩)) (fun _ h => h.sub sl_) (fun _ => rfl) ?_
  rintro m ⟨i, zs, v2, B2⟩ j ⟨hi, hz, hB2⟩ K hK
  simp only at hi hz hB2 ⊢
  have hzl : zs.length = ys.length + i := by rw [hz, List.length_append, List.length_map, List.length_take]; omega
  refine c_seq ?_
  refine c_reg ?_
  refine s_y (Y_lss rfl rfl) rfl rfl ?_
  refine s_nil ?_
  refine q_then ?_
  refine c_seq ?_
  first | refine c_cond' rfl (fun hc2 => ?_) (fun hc2 => ?_) | refine c_cond rfl (fun hc2 => ?_) (fun hc2 => ?_)
  · skip
    try simp only [nrm_] at hc2
    refine c_skip ?_
    refine q_then ?_
    refine c_seq ?_
    refine c_block ?_
    refine c_seq ?_
    obtain ⟨q, hq⟩ := take_lt (show i < ns.length by omega)
    refine c_reg ?_
    refine s_y (Y_ia1 rfl rfl Tryz.underlying23 sz3 rfl (by omega)) rfl rfl ?_
    refine s_y (Y_loadR (v := iv q) (i := i) rfl one3 hl.ro rfl (by rw [List.getElem?_map, hq]; rfl) hlb) rfl rfl ?_
    refine s_y (Y_as) rfl rfl ?_
    refine s_nil ?_
    refine q_then ?_
    refine c_reg ?_
    refine s_y (Y_mv) rfl rfl ?_
    refine s_y (Y_mv) rfl rfl ?_
    refine s_y (Y_cb rfl Tryz.underlying3 Tryz.underlying5) rfl rfl ?_
    refine s_n (N_bs (xs := [.tmp 15]) (by repeat (first | exact Gv.nil | apply Gv.const | apply Gv.tmp gt_)) rfl Tryz.underlying24 inf5 rfl (by omega) (by omega) (by first | simp [Value.oneCell'] | (intro v hv; simp at hv; subst hv; rfl))) rfl rfl (fun b16 _ => ?_)
    refine s_n (N_appR (bytes := 1) hB2 (List.perm_append_comm (l₁ := B2) (l₂ := [_])) rfl rfl Tryz.underlying24 inf5 rfl (by omega) (src (news := [bv (byteM q)]) mm_) (by rfl) (by simp [Value.oneCell']) (by omega) (by omega) (by omega)) rfl rfl (fun ⟨g17, cp17⟩ hc17 => ?_)
    refine s_y (Y_as) rfl rfl ?_
    refine s_nil ?_
    refine q_bn ?_
    refine q_then ?_
    refine c_reg ?_
    refine s_y ad_ rfl rfl ?_
    refine s_y (Y_mv) rfl rfl ?_
    refine s_nil ?_
    refine hK (m - 1) (i + 1, zs ++ [byteM q], .slice (some ⟨g17, 0, none⟩) (zs.length + 1) cp17, [cB g17 cp17 (zs ++ [byteM q])]) _ _ (by omega) ⟨by simp only; omega, by simp only; rw [hz, List.append_assoc]; congr 1; obtain ⟨hlt, rfl⟩ := List.getElem?_eq_some_iff.1 hq; rw [← List.take_append_getElem hlt, List.map_append]; rfl, by simp only; rw [List.length_append, List.length_singleton]; exact .some hc17 (by simp)⟩ ⟨rfl, rfl, trivial⟩ rfl (fun w h => ?_)
    show Has W _ [⟨g17, 5, 1, cp17, (zs ++ [byteM q]).map bv⟩] w
    rw [List.map_append]
    exact h.pick ss_
  · skip
    try simp only [nrm_] at hc2
    refine c_exit ?_
    repeat with_reducible refine q_te ?_
    refine q_exit ?_
    refine q_then ?_
    refine c_seq ?_
    obtain rfl : i = ns.length := by omega
    rw [List.take_length] at hz
    subst hz
    refine c_reg ?_
    refine s_y (Y_mv) rfl rfl ?_
    refine s_y (Y_as) rfl rfl ?_
    refine s_nil ?_
    refine q_then ?_
    refine c_ret ?_
    refine q_retG1 rfl gt_ (L' := _) sl_ (hB2)
end
end Go.Proofs.YtcogbkkdccohfaaGreat
