/- Distances: the document's, walked. -/
import Derived.Test.YtecodneffflpoaaD4
namespace Go.Proofs.Ytecodneffflpoaa
open Go.RowKit Go.Ad Go.Maps
set_option linter.unusedVariables false
set_option linter.unusedSimpArgs false
abbrev ci (i : Nat) : Value := iv (i : Int)
abbrev fB (b : Nat) (f : List Int) : Bk := ⟨b, 3, 1, 384, f.map iv⟩
theorem iv_get {f : List Int} {k : Nat} (h : k < f.length) : (f.map iv)[0 + k]? = some (iv (getI f k)) := by
  rw [Nat.zero_add, List.getElem?_map, get_getI h]; rfl
theorem iv_set (f : List Int) (k : Nat) (z : Int) : (f.map iv).set (0 + k) (iv z) = (f.set k z).map iv := by rw [Nat.zero_add, List.map_set]
def negF (i : Nat) : List Int := List.replicate i (-1) ++ List.replicate (384 - i) 0
theorem negF_set {i : Nat} (h : i < 384) : (negF i).set i (-1) = negF (i + 1) := by
  unfold negF
  rw [List.set_append_right _ _ (by simp), List.length_replicate, Nat.sub_self, show 384 - i = (384 - (i + 1)) + 1 by omega, List.replicate_succ, List.set_cons_zero, List.replicate_succ', List.append_assoc]
  rfl
theorem negF_all : negF 384 = List.replicate 384 (-1) := by
  unfold negF
  rw [Nat.sub_self, List.replicate_zero, List.append_nil]
theorem negF_len {i : Nat} (h : i ≤ 384) : (negF i).length = 384 := by unfold negF; simp; omega
/-- What may bar the way: none, or a row. -/
structure Bars (W : World) (a : Option Addr) (n : Nat) (bl : List Bool) : Prop where
  len : bl.length = n
  big : n ≤ 100000
  ro : n ≠ 0 → ∃ b o, a = some ⟨b, o, none⟩ ∧ Ro W b o (bl.map Value.bool)
theorem nb_rng {i : Nat} (h : i < 384) (d : Nat) : -1 ≤ (nbM i d).1 ∧ (nbM i d).1 ≤ 24 ∧ -1 ≤ (nbM i d).2 ∧ (nbM i d).2 ≤ 16 := by
  unfold nbM
  split <;> simp only <;> omega
theorem in_k {x y : Int} (h : inM x y = true) : (y * 24 + x).toNat < 384 ∧ 0 ≤ y * 24 + x := by
  simp only [inM, decide_eq_true_eq] at h; omega
theorem bools_get {bl : List Bool} {k : Nat} (h : k < bl.length) : (bl.map Value.bool)[k]? = some (.bool (bl.getD k false)) := by
  rw [List.getElem?_map, List.getD_eq_getElem?_getD, List.getElem?_eq_getElem h]; rfl
/-- Where nobody waits. -/
structure Mk (f : List Int) : Prop where
  len : f.length = 384
  val : ∀ v ∈ f, v = -1 ∨ v = 0
theorem negF_mk : Mk (negF 384) := by
  rw [negF_all]
  exact ⟨List.length_replicate, fun v hv => .inl (List.eq_of_mem_replicate hv)⟩
theorem Mk.mark {f : List Int} (h : Mk f) (cells : List UInt8) (t : Int) : Mk (markM cells f t) := by
  unfold markM
  split
  · refine ⟨by simp [h.len], fun v hv => ?_⟩
    rcases List.mem_or_eq_of_mem_set hv with h1 | h1
    · exact h.val v h1
    · exact .inr h1
  · exact h
theorem zeros_succ (f : List Int) (i : Nat) : zerosM f (i + 1) = if getI f i = 0 then zerosM f i ++ [i] else zerosM f i := by
  unfold zerosM
  rw [List.range_succ, List.filter_append]
  by_cases h : getI f i = 0 <;> simp [h]
theorem zeros_mem {f : List Int} {n i : Nat} (h : i ∈ zerosM f n) : i < n ∧ getI f i = 0 := by
  unfold zerosM at h
  simpa using h
theorem negs_zeros {f : List Int} (h : Mk f) : negs f + (zerosM f 384).length = 384 := by
  have key : ∀ (f : List Int), (∀ v ∈ f, v = -1 ∨ v = 0) → negs f + ((List.range f.length).filter fun i => decide (getI f i = 0)).length = f.length := by
    intro f
    induction f with
    | nil => intro _; rfl
    | cons a r ih =>
      intro hv
      have h1 := ih (fun v h => hv v (List.mem_cons_of_mem _ h))
      have h2 := hv a (List.mem_cons_self ..)
      rw [List.length_cons, List.range_succ_eq_map, List.filter_cons, List.filter_map]
      have e1 : (List.filter ((fun i => decide (getI (a :: r) i = 0)) ∘ Nat.succ) (List.range r.length)) = List.filter (fun i => decide (getI r i = 0)) (List.range r.length) := by
        congr 1
      rcases h2 with rfl | rfl
      · have e2 : negs (-1 :: r) = negs r + 1 := by simp [negs]
        have e3 : decide (getI (-1 :: r) 0 = 0) = false := rfl
        rw [e2, e3]; simp only [Bool.false_eq_true, if_false]
        rw [List.length_map, e1]; omega
      · have e2 : negs (0 :: r) = negs r := by simp [negs]
        have e3 : decide (getI (0 :: r) 0 = 0) = true := rfl
        rw [e2, e3]; simp only [if_true, List.length_cons]
        rw [List.length_map, e1]; omega
  have := key f h.val
  rw [h.len] at this
  exact this
theorem Mk.bfs {f : List Int} (h : Mk f) : Bfs f (zerosM f 384) := by
  refine ⟨h.len, fun i hi => ?_, fun v hv => ?_, negs_zeros h⟩
  · obtain ⟨h1, h2⟩ := zeros_mem hi
    exact ⟨h1, by omega⟩
  · rcases h.val v hv with rfl | rfl <;> omega
section
variable {W : World}
theorem FH {w : World} {L : List Bk} {b : Nat} (h : Has W [] ([⟨b, 3, 1, 384, List.replicate 384 (.int .i64 0)⟩]) w) : Has W [] [fB b (negF 0)] w := by
  have e : (negF 0).map iv = List.replicate 384 (.int .i64 0) := by
    unfold negF
    rw [List.map_append, List.map_replicate, List.map_replicate]; rfl
  rw [fB, e]; exact h
set_option maxRecDepth 100000 in
set_option maxHeartbeats 3200000 in
theorem rfield_d {b o n c : Nat} {cells : List UInt8} (hs : SlB W b o n c 1 (cells.map bv)) {ab : Option Addr} {nb kb : Nat} {bl : List Bool} (hbl : Bars W ab nb bl) {tb to tn tc : Nat} {ts : List Int} (ht : SlB W tb to tn tc 1 (ts.map iv)) :
    Does Try.prog 52 [.slice (some ⟨b, o, none⟩) n c, .slice ab nb kb, .slice (some ⟨tb, to, none⟩) tn tc] W [] (fun v L => ∃ g, v = .slice (some ⟨g, 0, none⟩) 384 384 ∧ L = [fB g (fieldM cells bl ts)]) := by
  obtain rfl : tn = ts.length := by have := ht.len; simp at this; omega
  have htb := ht.cap
  have htg := ht.big
  simp only [maxLen] at htg
  refine enter Try.func52 rfl rfl rfl (Has.start _) ?_
  refine c_seq ?_
  -- ref.go:75 R0
  refine c_reg ?_
  refine s_y (Y_asC) rfl rfl ?_
  refine s_nil ?_
  refine q_then ?_
  refine c_seq ?_
  -- ref.go:76 R1
  refine c_reg ?_
  refine s_n (N_make1 (n := 384) rfl rfl Try.underlying22 inf3 rfl rfl (by omega) (by omega)) rfl rfl (fun b19 _ => ?_)
  refine s_y (Y_as) rfl rfl ?_
  refine s_nil ?_
  refine q_then ?_
  refine c_seq ?_
  refine c_seq ?_
  -- ref.go:77 R2
  refine c_reg ?_
  refine s_y (Y_asC) rfl rfl ?_
  refine s_nil ?_
  refine q_then ?_
  refine c_block ?_
  refine c_loop [8, 20, 21, 22, 23, 24, 25, 26] (fun m i => i + m = 384) (fun i => [(8, iv i)]) (fun i => [fB b19 (negF i)]) (384) (0) (by omega) (by repeat (first | exact trivial | refine ⟨rfl, ?_⟩)) (fun _ h => FH (L := []) h) (fun _ => rfl) ?_
  rintro m i j hi K hK
  refine c_seq ?_
  refine c_seq ?_
  -- ref.go:77 R3
  refine c_reg ?_
  refine s_y (Y_mv) rfl rfl ?_
  refine s_y (Y_lss rfl rfl) rfl rfl ?_
  refine s_nil ?_
  refine q_then ?_
  first | refine c_cond' rfl (fun hc3 => ?_) (fun hc3 => ?_) | refine c_cond rfl (fun hc3 => ?_) (fun hc3 => ?_)
  · skip
    try simp only [nrm_] at hc3
    refine c_skip ?_
    refine q_then ?_
    refine c_seq ?_
    refine c_block ?_
    -- ref.go:78 R5
    refine c_reg ?_
    refine s_y (Y_mv) rfl rfl ?_
    refine s_y (Y_mv) rfl rfl ?_
    refine s_y (Y_ia1 rfl rfl Try.underlying22 sz3 rfl (by omega)) rfl rfl ?_
    refine s_s (S_stC (cs' := (negF (i + 1)).map iv) rfl sz3 (by rfl) (by repeat (first | exact Upd.head | apply Upd.tail)) (by rw [show Value.int IntKind.i64 (-1) = iv (-1) from rfl, iv_set, negF_set (by omega)]) (by rw [List.length_map, negF_len (by omega)]; omega)) rfl ?_
    refine s_nil ?_
    refine q_bn ?_
    refine q_then ?_
    -- ref.go:77 R4
    refine c_reg ?_
    refine s_y (Y_mv) rfl rfl ?_
    refine s_y ((by first | exact Y_add rfl rfl (by omega) | exact Y_addw rfl rfl)) rfl rfl ?_
    refine s_y (Y_as) rfl rfl ?_
    refine s_nil ?_
    refine hK (m - 1) (i + 1) _ _ (by omega) (by omega) ⟨rfl, trivial⟩ rfl (fun _ h => h)
  · skip
    try simp only [nrm_] at hc3
    refine c_exit ?_
    repeat with_reducible refine q_te ?_
    refine q_exit ?_
    refine q_then ?_
    refine c_seq ?_
    refine c_seq ?_
    -- ref.go:80 R6
    refine c_reg ?_
    refine s_y (Y_asC) rfl rfl ?_
    refine s_nil ?_
    refine q_then ?_
    refine c_block ?_
    refine c_loop [9, 10, 27, 28, 29, 30, 31, 32, 33, 34, 35, 36, 37, 38, 39, 40, 41, 42, 43, 44, 45, 46, 47, 48, 49, 50, 51, 52, 53, 54] (fun m (y : Nat × List Int) => y.1 + m = ts.length ∧ Mk y.2 ∧ (ts.drop y.1).foldl (markM cells) y.2 = marksM cells ts) (fun y => [(9, iv y.1)]) (fun y => [fB b19 y.2]) (ts.length) ((0, negF 384)) (⟨by omega, negF_mk, by rw [List.drop_zero, negF_all]; rfl⟩) (by repeat (first | exact trivial | refine ⟨rfl, ?_⟩)) (fun _ h => (show i = 384 by omega) ▸ h) (fun _ => rfl) ?_
    rintro m ⟨i, f⟩ j ⟨hi, hm, hf⟩ K hK
    simp only at hi hm hf ⊢
    refine c_seq ?_
    refine c_seq ?_
    -- ref.go:80 R7
    refine c_reg ?_
    refine s_y (Y_mv) rfl rfl ?_
    refine s_y (Y_mv) rfl rfl ?_
    refine s_y (Y_len rfl rfl Try.underlying22) rfl rfl ?_
    refine s_y (Y_lss rfl rfl) rfl rfl ?_
    refine s_nil ?_
    refine q_then ?_
    first | refine c_cond' rfl (fun hc7 => ?_) (fun hc7 => ?_) | refine c_cond rfl (fun hc7 => ?_) (fun hc7 => ?_)
    · skip
      try simp only [nrm_] at hc7
      refine c_skip ?_
      refine q_then ?_
      refine c_seq ?_
      refine c_block ?_
      refine c_seq ?_
      -- ref.go:81 R9
      obtain ⟨z, hz⟩ := take_lt (show i < ts.length by omega)
      have hlen := hm.len
      rw [List.drop_eq_getElem_cons (show i < ts.length by omega), List.foldl_cons] at hf
      obtain rfl : ts[i]'(by omega) = z := (List.getElem?_eq_some_iff.1 hz).2
      generalize ts[i]'(by omega) = z at *
      refine c_reg ?_
      refine s_y (Y_mv) rfl rfl ?_
      refine s_y (Y_mv) rfl rfl ?_
      refine s_y (Y_ia1 rfl rfl Try.underlying22 sz3 rfl (by omega)) rfl rfl ?_
      refine s_y (Y_loadR (i := i) rfl one3 ht.ro rfl (by rw [List.getElem?_map, hz]; rfl)) rfl rfl ?_
      refine s_y (Y_as) rfl rfl ?_
      refine s_nil ?_
      refine q_then ?_
      refine c_seq ?_
      -- ref.go:82 R10
      refine c_reg ?_
      refine s_y (Y_mv) rfl rfl ?_
      refine s_y (Y_geq rfl rfl) rfl rfl ?_
      refine s_y (Y_mv) rfl rfl ?_
      apply s_and 3 [39, 40, 41, 42] 42 (g := 39) rfl rfl
      · intro ht3 hm
        try simp only [nrm_] at ht3
        first | refine s_y (Y_mv) rfl rfl ?_ | refine s_pass rfl rfl ?_
        first | refine s_y (Y_lss rfl rfl) rfl rfl ?_ | refine s_pass rfl rfl ?_
        refine s_y (Y_pk rfl (Gx.tmp gt_) Gx.const) rfl rfl ?_
        first | exact hm _ ⟨rfl, trivial⟩ rfl | exact QL.sub sl_ (hm _ ⟨rfl, trivial⟩ rfl)
      · intro ht3 hm
        iterate 2 refine s_pass rfl rfl ?_
        refine s_y (Y_pk rfl (Gx.tmp gt_) Gx.const) rfl rfl ?_
        exact hm _ ⟨rfl, trivial⟩ rfl
      intro j42
      refine s_y (Y_mv) rfl rfl ?_
      apply s_and 8 [43, 44, 45, 46, 47, 48, 49, 50, 51] 51 (g := 43) rfl rfl
      · intro ht7 hm
        try simp only [nrm_] at ht7
        first | refine s_y (Y_mv) rfl rfl ?_ | refine s_pass rfl rfl ?_
        first | refine s_y (Y_mv) rfl rfl ?_ | refine s_pass rfl rfl ?_
        first | refine s_y ((by first | exact Y_rem rfl rfl (by omega) | exact Y_remw rfl rfl (by omega))) rfl rfl ?_ | refine s_pass rfl rfl ?_
        first | refine s_y (Y_mv) rfl rfl ?_ | refine s_pass rfl rfl ?_
        first | refine s_y ((by first | exact Y_quo rfl rfl (by omega) | exact Y_quow rfl rfl (by omega))) rfl rfl ?_ | refine s_pass rfl rfl ?_
        refine s_c (En_call (fun _ => rfl) Try.func47 rfl (by kernel_rfl) rfl) (fun w hH => rat_d (hs.has hH)) rfl rfl ?_
        rintro _ _ ⟨rfl, rfl⟩
        refine s_c (En_call (fun _ => rfl) Try.func15 rfl (by kernel_rfl) rfl) (fun w hH => rwalk_d) rfl rfl ?_
        rintro _ _ ⟨rfl, rfl⟩
        refine s_y (Y_pk rfl (Gx.tmp gt_) Gx.const) rfl rfl ?_
        first | exact hm _ ⟨rfl, trivial⟩ rfl | exact QL.sub sl_ (hm _ ⟨rfl, trivial⟩ rfl)
      · intro ht7 hm
        iterate 7 refine s_pass rfl rfl ?_
        refine s_y (Y_pk rfl (Gx.tmp gt_) Gx.const) rfl rfl ?_
        exact hm _ ⟨rfl, trivial⟩ rfl
      intro j51
      refine s_nil ?_
      refine q_then ?_
      first | refine c_cond' rfl (fun hc10 => ?_) (fun hc10 => ?_) | refine c_cond rfl (fun hc10 => ?_) (fun hc10 => ?_)
      · skip
        try simp only [nrm_] at hc10
        -- ref.go:83 R11
        refine c_reg ?_
        refine s_y (Y_mv) rfl rfl ?_
        refine s_y (Y_mv) rfl rfl ?_
        refine s_y (Y_ia1 (n := z.toNat) rfl rfl Try.underlying22 sz3 (by omega) (by omega)) rfl rfl ?_
        refine s_s (S_stC (cs' := (f.set z.toNat 0).map iv) rfl sz3 (by rfl) (by repeat (first | exact Upd.head | apply Upd.tail)) (iv_set _ _ _) (by rw [List.length_map]; omega)) rfl ?_
        refine s_nil ?_
        refine q_bn ?_
        refine q_then ?_
        -- ref.go:80 R8
        refine c_reg ?_
        refine s_y (Y_mv) rfl rfl ?_
        refine s_y ((by first | exact Y_add rfl rfl (by omega) | exact Y_addw rfl rfl)) rfl rfl ?_
        refine s_y (Y_as) rfl rfl ?_
        refine s_nil ?_
        have e : markM cells f z = f.set z.toNat 0 := by unfold markM; rw [if_pos ⟨by omega, by omega, hc10.2⟩]
        refine hK (m - 1) (i + 1, f.set z.toNat 0) _ _ (by omega) ⟨by simp only; omega, e ▸ hm.mark cells z, by rw [← e]; exact hf⟩ ⟨rfl, trivial⟩ rfl (fun _ h => h)
      · skip
        try simp only [nrm_] at hc10
        refine c_skip ?_
        refine q_bn ?_
        refine q_then ?_
        -- ref.go:80 R8
        refine c_reg ?_
        refine s_y (Y_mv) rfl rfl ?_
        refine s_y ((by first | exact Y_add rfl rfl (by omega) | exact Y_addw rfl rfl)) rfl rfl ?_
        refine s_y (Y_as) rfl rfl ?_
        refine s_nil ?_
        refine hK (m - 1) (i + 1, f) _ _ (by omega) ⟨by simp only; omega, hm, by rw [← hf]; congr 1; unfold markM; rw [if_neg]; rintro ⟨q1, q2, q3⟩; rcases hc10 with (h | h) | h <;> first | omega | (rw [q3] at h; cases h)⟩ ⟨rfl, trivial⟩ rfl (fun _ h => h)
    · skip
      try simp only [nrm_] at hc7
      refine c_exit ?_
      repeat with_reducible refine q_te ?_
      refine q_exit ?_
      refine q_then ?_
      refine c_seq ?_
      -- ref.go:86 R12
      obtain rfl : f = marksM cells ts := by rw [← hf, List.drop_eq_nil_of_le (by omega)]; rfl
      generalize hff : marksM cells ts = f at *
      refine c_reg ?_
      refine s_y (Y_asC) rfl rfl ?_
      refine s_nil ?_
      refine q_then ?_
      refine c_seq ?_
      refine c_seq ?_
      -- ref.go:87 R13
      refine c_reg ?_
      refine s_y (Y_asC) rfl rfl ?_
      refine s_nil ?_
      refine q_then ?_
      refine c_block ?_
      refine c_loop [11, 12, 55, 56, 57, 58, 59, 60, 61, 62, 63, 64, 65, 66, 67] (fun m (y : Nat × List Nat × Value × List Bk) => y.1 + m = 384 ∧ y.2.1 = zerosM f y.1 ∧ Row 3 1 y.2.2.1 y.2.1.length (y.2.1.map ci) y.2.2.2) (fun y => [(12, iv y.1), (11, y.2.2.1)]) (fun y => fB b19 f :: y.2.2.2) (384) ((0, [], .slice none 0 0, [])) (⟨by omega, rfl, .nil⟩) (by repeat (first | exact trivial | refine ⟨rfl, ?_⟩)) (fun _ h => h.sub sl_) (fun _ => rfl) ?_
      rintro m ⟨k, row, v, B⟩ j ⟨hk, hr0, hB⟩ K hK
      simp only at hk hr0 hB ⊢
      have hlen := hm.len
      refine c_seq ?_
      refine c_seq ?_
      -- ref.go:87 R14
      refine c_reg ?_
      refine s_y (Y_mv) rfl rfl ?_
      refine s_y (Y_lss rfl rfl) rfl rfl ?_
      refine s_nil ?_
      refine q_then ?_
      first | refine c_cond' rfl (fun hc14 => ?_) (fun hc14 => ?_) | refine c_cond rfl (fun hc14 => ?_) (fun hc14 => ?_)
      · skip
        try simp only [nrm_] at hc14
        refine c_skip ?_
        refine q_then ?_
        refine c_seq ?_
        refine c_block ?_
        refine c_seq ?_
        -- ref.go:88 R16
        refine c_reg ?_
        refine s_y (Y_mv) rfl rfl ?_
        refine s_y (Y_mv) rfl rfl ?_
        refine s_y (Y_ia1 rfl rfl Try.underlying22 sz3 rfl (by omega)) rfl rfl ?_
        refine s_y (Y_load (v := iv (getI f k)) rfl one3 mm_ (iv_get (by omega))) rfl rfl ?_
        refine s_y (Y_eql rfl rfl) rfl rfl ?_
        refine s_nil ?_
        refine q_then ?_
        first | refine c_cond' rfl (fun hc16 => ?_) (fun hc16 => ?_) | refine c_cond rfl (fun hc16 => ?_) (fun hc16 => ?_)
        · skip
          try simp only [nrm_] at hc16
          -- ref.go:89 R17
          have hrl : row.length ≤ 384 := by rw [hr0]; exact Nat.le_trans (List.length_filter_le _ _) (by rw [List.length_range]; omega)
          refine c_reg ?_
          refine s_y (Y_mv) rfl rfl ?_
          refine s_y (Y_mv) rfl rfl ?_
          refine s_n (N_bs (xs := [.tmp 65]) (by repeat (first | exact Gv.nil | apply Gv.const | apply Gv.tmp gt_)) rfl Try.underlying22 inf3 rfl (by omega) (by omega) (by first | simp [Value.oneCell'] | (intro v hv; simp at hv; subst hv; rfl))) rfl rfl (fun b66 _ => ?_)
          refine s_n (N_appR (bytes := 8) hB (List.perm_append_comm (l₁ := B) (l₂ := [_, _])) rfl rfl Try.underlying22 inf3 rfl (by omega) (src mm_) (by rfl) (by simp [Value.oneCell']) (by omega) (by omega) (by omega)) rfl rfl (fun ⟨g67, cp67⟩ hc67 => ?_)
          refine s_y (Y_as) rfl rfl ?_
          refine s_nil ?_
          refine q_bn ?_
          refine q_then ?_
          -- ref.go:87 R15
          refine c_reg ?_
          refine s_y (Y_mv) rfl rfl ?_
          refine s_y ((by first | exact Y_add rfl rfl (by omega) | exact Y_addw rfl rfl)) rfl rfl ?_
          refine s_y (Y_as) rfl rfl ?_
          refine s_nil ?_
          refine hK (m - 1) (k + 1, row ++ [k], .slice (some ⟨g67, 0, none⟩) (row.length + 1) cp67, [⟨g67, 3, 1, cp67, (row ++ [k]).map ci⟩]) _ _ (by omega) ⟨by simp only; omega, by rw [zeros_succ, if_pos hc16, ← hr0], by simp only; rw [List.length_append, List.length_singleton]; exact .some hc67 (by simp)⟩ ⟨rfl, rfl, trivial⟩ rfl (fun w h => ?_)
          show Has W [] [fB b19 f, ⟨g67, 3, 1, cp67, (row ++ [k]).map ci⟩] w
          rw [List.map_append]
          exact h.pick (by repeat (first | exact Sels.nil | apply Sels.cons (by repeat (first | exact Sel.head | apply Sel.tail))))
        · skip
          try simp only [nrm_] at hc16
          refine c_skip ?_
          refine q_bn ?_
          refine q_then ?_
          -- ref.go:87 R15
          refine c_reg ?_
          refine s_y (Y_mv) rfl rfl ?_
          refine s_y ((by first | exact Y_add rfl rfl (by omega) | exact Y_addw rfl rfl)) rfl rfl ?_
          refine s_y (Y_as) rfl rfl ?_
          refine s_nil ?_
          refine hK (m - 1) (k + 1, row, v, B) _ _ (by omega) ⟨by simp only; omega, by rw [zeros_succ, if_neg hc16]; exact hr0, hB⟩ ⟨rfl, rfl, trivial⟩ rfl (fun _ h => h)
      · skip
        try simp only [nrm_] at hc14
        refine c_exit ?_
        repeat with_reducible refine q_te ?_
        refine q_exit ?_
        refine q_then ?_
        refine c_seq ?_
        refine c_seq ?_
        -- ref.go:92 R18
        obtain rfl : k = 384 := by omega
        have hb0 : Bfs f row := hr0 ▸ hm.bfs
        clear hf
        refine c_reg ?_
        refine s_y (Y_asC) rfl rfl ?_
        refine s_nil ?_
        refine q_then ?_
        refine c_block ?_
        refine c_loop [11, 13, 14, 15, 16, 17, 18, 68, 69, 70, 71, 72, 73, 74, 75, 76, 77, 78, 79, 80, 81, 82, 83, 84, 85, 86, 87, 88, 89, 90, 91, 92, 93, 94, 95, 96, 97, 98, 99, 100, 101, 102, 103, 104, 105, 106, 107, 108, 109, 110, 111, 112, 113, 114, 115, 116, 117, 118, 119, 120, 121, 122, 123, 124, 125, 126, 127, 128, 129, 130, 131, 132, 133, 134, 135, 136, 137, 138, 139, 140, 141, 142, 143, 144, 145, 146, 147, 148] (fun m (y : Nat × List Int × List Nat × Value × List Bk) => Bfs y.2.1 y.2.2.1 ∧ bfs cells bl m y.1 (y.2.1, y.2.2.1) = fieldM cells bl ts ∧ (y.2.2.1.length - y.1) + negs y.2.1 < m ∧ Row 3 1 y.2.2.2.1 y.2.2.1.length (y.2.2.1.map ci) y.2.2.2.2) (fun y => [(13, iv y.1), (11, y.2.2.2.1)]) (fun y => fB b19 y.2.1 :: y.2.2.2.2) (385) ((0, f, row, v, B)) (⟨hb0, by rw [fieldM, hff, hr0], by have := hb0.sum; simp only; omega, hB⟩) (by repeat (first | exact trivial | refine ⟨rfl, ?_⟩)) (fun _ h => h.sub sl_) (fun _ => rfl) ?_
        rintro m ⟨k, f, row, v, B⟩ j ⟨hb, hf, hms, hB⟩ K hK
        simp only at hb hf hms hB ⊢
        have hsum := hb.sum
        refine c_seq ?_
        refine c_seq ?_
        -- ref.go:92 R19
        refine c_reg ?_
        refine s_y (Y_mv) rfl rfl ?_
        refine s_y (Y_mv) rfl rfl ?_
        refine s_y (Y_lenR hB rfl rfl Try.underlying22) rfl rfl ?_
        refine s_y (Y_lss rfl rfl) rfl rfl ?_
        refine s_nil ?_
        refine q_then ?_
        first | refine c_cond' rfl (fun hc19 => ?_) (fun hc19 => ?_) | refine c_cond rfl (fun hc19 => ?_) (fun hc19 => ?_)
        · skip
          try simp only [nrm_] at hc19
          refine c_skip ?_
          refine q_then ?_
          refine c_seq ?_
          refine c_block ?_
          refine c_seq ?_
          -- ref.go:93 R21
          obtain ⟨g, cp, rfl, rfl, hgc⟩ := hB.some_of (by omega)
          obtain ⟨i, hi⟩ := take_lt (show k < row.length by omega)
          obtain ⟨hi3, hi0⟩ := hb.rws i (List.mem_of_getElem? hi)
          obtain ⟨m, rfl⟩ : ∃ q, m = q + 1 := ⟨m - 1, by omega⟩
          rw [bfs] at hf
          simp only [hi] at hf
          refine c_reg ?_
          refine s_y (Y_mv) rfl rfl ?_
          refine s_y (Y_mv) rfl rfl ?_
          refine s_y (Y_ia1 rfl rfl Try.underlying22 sz3 rfl (by omega)) rfl rfl ?_
          refine s_y (Y_load (v := ci i) rfl one3 mm_ (by rw [Nat.zero_add, List.getElem?_map, hi]; rfl)) rfl rfl ?_
          refine s_y (Y_as) rfl rfl ?_
          refine s_nil ?_
          refine q_then ?_
          refine c_seq ?_
          -- ref.go:94 R22
          refine c_reg ?_
          refine s_y (Y_asC) rfl rfl ?_
          refine s_nil ?_
          refine q_then ?_
          refine c_block ?_
          refine c_loop [11, 15, 16, 17, 18, 78, 79, 80, 81, 82, 83, 84, 85, 86, 87, 88, 89, 90, 91, 92, 93, 94, 95, 96, 97, 98, 99, 100, 101, 102, 103, 104, 105, 106, 107, 108, 109, 110, 111, 112, 113, 114, 115, 116, 117, 118, 119, 120, 121, 122, 123, 124, 125, 126, 127, 128, 129, 130, 131, 132, 133, 134, 135, 136, 137, 138, 139, 140, 141, 142, 143, 144, 145, 146, 147, 148] (fun d2 (y : Nat × List Int × List Nat × Value × List Bk) => y.1 + d2 = 4 ∧ (y.2.1, y.2.2.1) = triesM cells bl i (f, row) y.1 ∧ Row 3 1 y.2.2.2.1 y.2.2.1.length (y.2.2.1.map ci) y.2.2.2.2) (fun y => [(15, iv y.1), (11, y.2.2.2.1)]) (fun y => fB b19 y.2.1 :: y.2.2.2.2) (4) ((0, f, row, .slice (some ⟨g, 0, none⟩) row.length cp, [⟨g, 3, 1, cp, row.map ci⟩])) (⟨rfl, rfl, hB⟩) (by repeat (first | exact trivial | refine ⟨rfl, ?_⟩)) (fun _ h => h.sub sl_) (fun _ => rfl) ?_
          rintro d2 ⟨d, f2, row2, v2, B2⟩ j2 ⟨hd, hst, hB2⟩ K2 hK2
          simp only at hd hst hB2 ⊢
          obtain ⟨hb2, h02, hpre⟩ := hb.tries hi3 hi0 cells bl d
          rw [← hst] at hb2 h02 hpre
          simp only at hb2 h02 hpre
          have hsum2 := hb2.sum
          have hl2 := hb2.len
          refine c_seq ?_
          refine c_seq ?_
          -- ref.go:94 R23
          refine c_reg ?_
          refine s_y (Y_mv) rfl rfl ?_
          refine s_y (Y_lss rfl rfl) rfl rfl ?_
          refine s_nil ?_
          refine q_then ?_
          first | refine c_cond' rfl (fun hc23 => ?_) (fun hc23 => ?_) | refine c_cond rfl (fun hc23 => ?_) (fun hc23 => ?_)
          · skip
            try simp only [nrm_] at hc23
            refine c_skip ?_
            refine q_then ?_
            refine c_seq ?_
            refine c_block ?_
            refine c_seq ?_
            -- ref.go:95 R25
            refine c_reg ?_
            refine s_y (Y_mv) rfl rfl ?_
            refine s_y ((by first | exact Y_rem rfl rfl (by omega) | exact Y_remw rfl rfl (by omega))) rfl rfl ?_
            refine s_y (Y_mv) rfl rfl ?_
            refine s_y ((by first | exact Y_quo rfl rfl (by omega) | exact Y_quow rfl rfl (by omega))) rfl rfl ?_
            refine s_y (Y_as) rfl rfl ?_
            refine s_y (Y_as) rfl rfl ?_
            refine s_nil ?_
            refine q_then ?_
            refine c_seq ?_
            refine c_meetQ (ks := [16, 17, 86, 87, 88, 89, 90, 91, 92, 93, 94, 95, 96, 97, 98, 99, 100, 101, 102]) (tr := fun p : Int × Int => [(16, iv p.1), (17, iv p.2)]) (φ := fun p => p = nbM i d) (G := fun _ => fB b19 f2 :: B2) (fun _ => rfl) ?_ ?_
            · rintro _ j35 rfl
              refine q_then ?_
              refine c_seq ?_
              -- ref.go:106 R35
              have hpb := nb_rng hi3 d
              refine c_reg ?_
              refine s_y (Y_mv) rfl rfl ?_
              refine s_y ((by first | exact Y_mul rfl rfl (by omega) | exact Y_mulw rfl rfl)) rfl rfl ?_
              refine s_y (Y_mv) rfl rfl ?_
              refine s_y ((by first | exact Y_add rfl rfl (by omega) | exact Y_addw rfl rfl)) rfl rfl ?_
              refine s_y (Y_as) rfl rfl ?_
              refine s_nil ?_
              refine q_then ?_
              refine c_seq ?_
              -- ref.go:107 R36
              refine c_reg ?_
              refine s_y (Y_mv) rfl rfl ?_
              refine s_y (Y_mv) rfl rfl ?_
              refine s_c (En_call (fun _ => rfl) Try.func64 rfl (by kernel_rfl) rfl) (fun w hH => rin_d) rfl rfl ?_
              rintro _ _ ⟨rfl, rfl⟩
              refine s_y (Y_mv) rfl rfl ?_
              apply s_and 6 [110, 111, 112, 113, 114, 115, 116] 116 (g := 110) rfl rfl
              · intro ht4 hm
                try simp only [nrm_] at ht4
                first | refine s_y (Y_mv) rfl rfl ?_ | refine s_pass rfl rfl ?_
                first | refine s_y (Y_mv) rfl rfl ?_ | refine s_pass rfl rfl ?_
                first | refine s_y (Y_ia1 (n := ((nbM i d).2 * 24 + (nbM i d).1).toNat) rfl rfl Try.underlying22 sz3 (by have := in_k ht4; omega) (by have := in_k ht4; omega)) rfl rfl ?_ | refine s_pass rfl rfl ?_
                first | refine s_y (Y_load (v := iv (getI f2 ((nbM i d).2 * 24 + (nbM i d).1).toNat)) rfl one3 mm_ (iv_get (by have := in_k ht4; omega))) rfl rfl ?_ | refine s_pass rfl rfl ?_
                first | refine s_y (Y_lss rfl rfl) rfl rfl ?_ | refine s_pass rfl rfl ?_
                refine s_y (Y_pk rfl (Gx.tmp gt_) Gx.const) rfl rfl ?_
                first | exact hm _ ⟨rfl, trivial⟩ rfl | exact QL.sub sl_ (hm _ ⟨rfl, trivial⟩ rfl)
              · intro ht4 hm
                iterate 5 refine s_pass rfl rfl ?_
                refine s_y (Y_pk rfl (Gx.tmp gt_) Gx.const) rfl rfl ?_
                exact hm _ ⟨rfl, trivial⟩ rfl
              intro j116
              refine s_y (Y_mv) rfl rfl ?_
              apply s_and 6 [117, 118, 119, 120, 121, 122, 123] 123 (g := 117) rfl rfl
              · intro ht11 hm
                try simp only [nrm_] at ht11
                first | refine s_y (Y_mv) rfl rfl ?_ | refine s_pass rfl rfl ?_
                first | refine s_y (Y_mv) rfl rfl ?_ | refine s_pass rfl rfl ?_
                first | refine s_y (Y_mv) rfl rfl ?_ | refine s_pass rfl rfl ?_
                refine s_c (En_call (fun _ => rfl) Try.func47 rfl (by kernel_rfl) rfl) (fun w hH => rat_d (hs.has hH)) rfl rfl ?_
                rintro _ _ ⟨rfl, rfl⟩
                refine s_c (En_call (fun _ => rfl) Try.func15 rfl (by kernel_rfl) rfl) (fun w hH => rwalk_d) rfl rfl ?_
                rintro _ _ ⟨rfl, rfl⟩
                refine s_y (Y_pk rfl (Gx.tmp gt_) Gx.const) rfl rfl ?_
                first | exact hm _ ⟨rfl, trivial⟩ rfl | exact QL.sub sl_ (hm _ ⟨rfl, trivial⟩ rfl)
              · intro ht11 hm
                iterate 5 refine s_pass rfl rfl ?_
                refine s_y (Y_pk rfl (Gx.tmp gt_) Gx.const) rfl rfl ?_
                exact hm _ ⟨rfl, trivial⟩ rfl
              intro j123
              refine s_y (Y_mv) rfl rfl ?_
              apply s_and 12 [124, 125, 126, 127, 128, 129, 130, 131, 132, 133, 134, 135, 136] 136 (g := 124) rfl rfl
              · intro ht18 hm
                try simp only [nrm_] at ht18
                first | refine s_y (Y_mv) rfl rfl ?_ | refine s_pass rfl rfl ?_
                first | refine s_y (Y_mv) rfl rfl ?_ | refine s_pass rfl rfl ?_
                first | refine s_y (Y_len rfl rfl Try.underlying88) rfl rfl ?_ | refine s_pass rfl rfl ?_
                first | refine s_y (Y_geq rfl rfl) rfl rfl ?_ | refine s_pass rfl rfl ?_
                first | refine s_y (Y_mv) rfl rfl ?_ | refine s_pass rfl rfl ?_
                apply s_or 6 [129, 130, 131, 132, 133, 134, 135] 135 (g := 129) rfl rfl
                · intro ht23 hm
                  try simp only [nrm_] at ht23
                  first | refine s_y (Y_mv) rfl rfl ?_ | refine s_pass rfl rfl ?_
                  first | refine s_y (Y_mv) rfl rfl ?_ | refine s_pass rfl rfl ?_
                  have hik := in_k ht18.1.1
                  have hbl1 := hbl.len
                  obtain ⟨bb, bo, hab, hbr⟩ := hbl.ro (by omega)
                  first | refine s_y (Y_ia1 (b' := bb) (off := bo) (len := nb) (cap := kb) (n := ((nbM i d).2 * 24 + (nbM i d).1).toNat) (by rw [← hab]; rfl) rfl Try.underlying88 sz4 (by omega) (by omega)) rfl rfl ?_ | refine s_pass rfl rfl ?_
                  first | refine s_y (Y_loadR (i := ((nbM i d).2 * 24 + (nbM i d).1).toNat) rfl one4 hbr rfl (bools_get (by omega))) rfl rfl ?_ | refine s_pass rfl rfl ?_
                  first | refine s_y (Y_not rfl) rfl rfl ?_ | refine s_pass rfl rfl ?_
                  first | refine s_y (Y_pk rfl Gx.const (Gx.tmp gt_)) rfl rfl ?_ | refine s_pass rfl rfl ?_
                  first | exact hm _ ⟨rfl, trivial⟩ rfl | exact QL.sub sl_ (hm _ ⟨rfl, trivial⟩ rfl)
                · intro ht23 hm
                  iterate 5 refine s_pass rfl rfl ?_
                  first | refine s_y (Y_pk rfl Gx.const (Gx.tmp gt_)) rfl rfl ?_ | refine s_pass rfl rfl ?_
                  exact hm _ ⟨rfl, trivial⟩ rfl
                intro j135
                refine s_y (Y_pk rfl (Gx.tmp gt_) Gx.const) rfl rfl ?_
                first | exact hm _ ⟨rfl, trivial⟩ rfl | exact QL.sub sl_ (hm _ ⟨rfl, trivial⟩ rfl)
              · intro ht18 hm
                iterate 11 refine s_pass rfl rfl ?_
                refine s_y (Y_pk rfl (Gx.tmp gt_) Gx.const) rfl rfl ?_
                exact hm _ ⟨rfl, trivial⟩ rfl
              intro j136
              refine s_nil ?_
              refine q_then ?_
              first | refine c_cond' rfl (fun hc36 => ?_) (fun hc36 => ?_) | refine c_cond rfl (fun hc36 => ?_) (fun hc36 => ?_)
              · skip
                try simp only [nrm_] at hc36
                refine c_seq ?_
                -- ref.go:108 R37
                have ho : opens cells bl f2 (nbM i d) = true := by
                  have hik := in_k hc36.1.1.1
                  have hbl1 := hbl.len
                  simp only [opens, nrm_]
                  refine ⟨hc36.1, ?_⟩
                  rcases hc36.2 with h | h
                  · exact .inl (by omega)
                  · exact .inr h
                have hin : inM (nbM i d).1 (nbM i d).2 = true := by simp only [opens, Bool.and_eq_true] at ho; exact ho.1.1.1
                have hik := in_k hin
                have hlow := hb2.low (getI f2 i) (List.mem_of_getElem? (get_getI (by omega)))
                refine c_reg ?_
                refine s_y (Y_mv) rfl rfl ?_
                refine s_y (Y_mv) rfl rfl ?_
                refine s_y (Y_mv) rfl rfl ?_
                refine s_y (Y_mv) rfl rfl ?_
                refine s_y (Y_ia1 rfl rfl Try.underlying22 sz3 rfl (by omega)) rfl rfl ?_
                refine s_y (Y_load (v := iv (getI f2 i)) rfl one3 mm_ (iv_get (by omega))) rfl rfl ?_
                refine s_y ((by first | exact Y_add rfl rfl (by omega) | exact Y_addw rfl rfl)) rfl rfl ?_
                refine s_y (Y_ia1 (n := ((nbM i d).2 * 24 + (nbM i d).1).toNat) rfl rfl Try.underlying22 sz3 (by omega) (by omega)) rfl rfl ?_
                refine s_s (S_st (cs' := (f2.set ((nbM i d).2 * 24 + (nbM i d).1).toNat (getI f2 i + 1)).map iv) rfl gt_ sz3 (by rfl) (by repeat (first | exact Upd.head | apply Upd.tail)) (iv_set _ _ _) (by rw [List.length_map]; omega)) rfl ?_
                refine s_nil ?_
                refine q_then ?_
                -- ref.go:109 R38
                refine c_reg ?_
                refine s_y (Y_mv) rfl rfl ?_
                refine s_y (Y_mv) rfl rfl ?_
                refine s_n (N_bs (xs := [.tmp 146]) (by repeat (first | exact Gv.nil | apply Gv.const | apply Gv.tmp gt_)) rfl Try.underlying22 inf3 rfl (by omega) (by omega) (by first | simp [Value.oneCell'] | (intro v hv; simp at hv; subst hv; rfl))) rfl rfl (fun b147 _ => ?_)
                refine s_n (N_appR (bytes := 8) hB2 (List.perm_append_comm (l₁ := B2) (l₂ := [_, _])) rfl rfl Try.underlying22 inf3 rfl (by omega) (src mm_) (by rfl) (by simp [Value.oneCell']) (by omega) (by omega) (by omega)) rfl rfl (fun ⟨g148, cp148⟩ hc148 => ?_)
                refine s_y (Y_as) rfl rfl ?_
                refine s_nil ?_
                refine q_bn ?_
                refine q_then ?_
                -- ref.go:94 R24
                refine c_reg ?_
                refine s_y (Y_mv) rfl rfl ?_
                refine s_y ((by first | exact Y_add rfl rfl (by omega) | exact Y_addw rfl rfl)) rfl rfl ?_
                refine s_y (Y_as) rfl rfl ?_
                refine s_nil ?_
                refine hK2 (d2 - 1) (d + 1, f2.set ((nbM i d).2 * 24 + (nbM i d).1).toNat (getI f2 i + 1), row2 ++ [((nbM i d).2 * 24 + (nbM i d).1).toNat], .slice (some ⟨g148, 0, none⟩) (row2.length + 1) cp148, [⟨g148, 3, 1, cp148, (row2 ++ [((nbM i d).2 * 24 + (nbM i d).1).toNat]).map ci⟩]) _ _ (by omega) ⟨by simp only; omega, by simp only; rw [triesM, ← hst, tryD, if_pos ho], by simp only; rw [List.length_append, List.length_singleton]; exact .some hc148 (by simp)⟩ ⟨rfl, rfl, trivial⟩ rfl (fun w h => ?_)
                show Has W [] [fB b19 (f2.set ((nbM i d).2 * 24 + (nbM i d).1).toNat (getI f2 i + 1)), ⟨g148, 3, 1, cp148, (row2 ++ [((nbM i d).2 * 24 + (nbM i d).1).toNat]).map ci⟩] w
                have ek : ci ((nbM i d).2 * 24 + (nbM i d).1).toNat = iv ((nbM i d).2 * 24 + (nbM i d).1) := by show Value.int .i64 _ = Value.int .i64 _; congr 1; omega
                rw [List.map_append, List.map_singleton, ek]
                exact h.pick (by repeat (first | exact Sels.nil | apply Sels.cons (by repeat (first | exact Sel.head | apply Sel.tail))))
              · skip
                try simp only [nrm_] at hc36
                refine c_skip ?_
                refine q_bn ?_
                refine q_then ?_
                -- ref.go:94 R24
                refine c_reg ?_
                refine s_y (Y_mv) rfl rfl ?_
                refine s_y ((by first | exact Y_add rfl rfl (by omega) | exact Y_addw rfl rfl)) rfl rfl ?_
                refine s_y (Y_as) rfl rfl ?_
                refine s_nil ?_
                have ho : opens cells bl f2 (nbM i d) = false := by
                  have hbl1 := hbl.len
                  simp only [opens, nrm_]
                  rcases hc36 with h | ⟨h, h2⟩
                  · exact .inl h
                  · by_cases hin : inM (nbM i d).1 (nbM i d).2 = true
                    · have hik := in_k hin
                      exact .inr ⟨by omega, h2⟩
                    · exact .inl (.inl (.inl (by simpa using hin)))
                refine hK2 (d2 - 1) (d + 1, f2, row2, v2, B2) _ _ (by omega) ⟨by simp only; omega, by simp only; rw [triesM, ← hst, tryD, if_neg (by rw [ho]; decide)], hB2⟩ ⟨rfl, rfl, trivial⟩ rfl (fun _ h => h)
            · intro go
              refine c_seq ?_
              -- ref.go:96 R26
              refine c_reg ?_
              refine s_y (Y_mv) rfl rfl ?_
              refine s_nil ?_
              refine q_then ?_
              refine c_block ?_
              refine c_seq ?_
              -- ref.go:97 R27
              refine c_reg ?_
              refine s_y (Y_eql rfl rfl) rfl rfl ?_
              refine s_y (Y_as) rfl rfl ?_
              refine s_nil ?_
              refine q_then ?_
              first | refine c_cond' rfl (fun hc27 => ?_) (fun hc27 => ?_) | refine c_cond rfl (fun hc27 => ?_) (fun hc27 => ?_)
              · skip
                try simp only [nrm_] at hc27
                -- ref.go:98 R28
                refine c_reg ?_
                refine s_y (Y_mv) rfl rfl ?_
                refine s_y ((by first | exact Y_sub rfl rfl (by omega) | exact Y_subw rfl rfl)) rfl rfl ?_
                refine s_y (Y_as) rfl rfl ?_
                refine s_nil ?_
                refine q_bn ?_
                exact go ((i : Int) % 24, (i : Int) / 24 - 1) _ _ (by rw [show d = 0 by omega]; rfl) ⟨rfl, rfl, trivial⟩ rfl (fun _ h => h)
              · skip
                try simp only [nrm_] at hc27
                refine c_seq ?_
                -- ref.go:99 R29
                refine c_reg ?_
                refine s_y (Y_eql rfl rfl) rfl rfl ?_
                refine s_y (Y_as) rfl rfl ?_
                refine s_nil ?_
                refine q_then ?_
                first | refine c_cond' rfl (fun hc29 => ?_) (fun hc29 => ?_) | refine c_cond rfl (fun hc29 => ?_) (fun hc29 => ?_)
                · skip
                  try simp only [nrm_] at hc29
                  -- ref.go:100 R30
                  refine c_reg ?_
                  refine s_y (Y_mv) rfl rfl ?_
                  refine s_y ((by first | exact Y_add rfl rfl (by omega) | exact Y_addw rfl rfl)) rfl rfl ?_
                  refine s_y (Y_as) rfl rfl ?_
                  refine s_nil ?_
                  refine q_bn ?_
                  exact go ((i : Int) % 24 + 1, (i : Int) / 24) _ _ (by rw [show d = 1 by omega]; rfl) ⟨rfl, rfl, trivial⟩ rfl (fun _ h => h)
                · skip
                  try simp only [nrm_] at hc29
                  refine c_seq ?_
                  -- ref.go:101 R31
                  refine c_reg ?_
                  refine s_y (Y_eql rfl rfl) rfl rfl ?_
                  refine s_y (Y_as) rfl rfl ?_
                  refine s_nil ?_
                  refine q_then ?_
                  first | refine c_cond' rfl (fun hc31 => ?_) (fun hc31 => ?_) | refine c_cond rfl (fun hc31 => ?_) (fun hc31 => ?_)
                  · skip
                    try simp only [nrm_] at hc31
                    -- ref.go:102 R32
                    refine c_reg ?_
                    refine s_y (Y_mv) rfl rfl ?_
                    refine s_y ((by first | exact Y_add rfl rfl (by omega) | exact Y_addw rfl rfl)) rfl rfl ?_
                    refine s_y (Y_as) rfl rfl ?_
                    refine s_nil ?_
                    refine q_bn ?_
                    exact go ((i : Int) % 24, (i : Int) / 24 + 1) _ _ (by rw [show d = 2 by omega]; rfl) ⟨rfl, rfl, trivial⟩ rfl (fun _ h => h)
                  · skip
                    try simp only [nrm_] at hc31
                    refine c_seq ?_
                    -- ref.go:103 R33
                    refine c_reg ?_
                    refine s_y (Y_eql rfl rfl) rfl rfl ?_
                    refine s_y (Y_as) rfl rfl ?_
                    refine s_nil ?_
                    refine q_then ?_
                    first | refine c_cond' rfl (fun hc33 => ?_) (fun hc33 => ?_) | refine c_cond rfl (fun hc33 => ?_) (fun hc33 => ?_)
                    · skip
                      try simp only [nrm_] at hc33
                      -- ref.go:104 R34
                      refine c_reg ?_
                      refine s_y (Y_mv) rfl rfl ?_
                      refine s_y ((by first | exact Y_sub rfl rfl (by omega) | exact Y_subw rfl rfl)) rfl rfl ?_
                      refine s_y (Y_as) rfl rfl ?_
                      refine s_nil ?_
                      refine q_bn ?_
                      exact go ((i : Int) % 24 - 1, (i : Int) / 24) _ _ (by rw [show d = 3 by omega]; rfl) ⟨rfl, rfl, trivial⟩ rfl (fun _ h => h)
                    · skip
                      try simp only [nrm_] at hc33
                      refine c_skip ?_
                      refine q_bn ?_
                      exfalso; omega
          · skip
            try simp only [nrm_] at hc23
            refine c_exit ?_
            repeat with_reducible refine q_te ?_
            refine q_exit ?_
            refine q_bn ?_
            refine q_then ?_
            -- ref.go:92 R20
            refine c_reg ?_
            refine s_y (Y_mv) rfl rfl ?_
            refine s_y ((by first | exact Y_add rfl rfl (by omega) | exact Y_addw rfl rfl)) rfl rfl ?_
            refine s_y (Y_as) rfl rfl ?_
            refine s_nil ?_
            obtain rfl : d = 4 := by omega
            refine hK (m) (k + 1, f2, row2, v2, B2) _ _ (by omega) ⟨hb2, by simp only; rw [hst]; exact hf, by simp only; have := hpre.length_le; omega, hB2⟩ ⟨rfl, rfl, trivial⟩ rfl (fun _ h => h)
        · skip
          try simp only [nrm_] at hc19
          refine c_exit ?_
          repeat with_reducible refine q_te ?_
          refine q_exit ?_
          refine q_then ?_
          refine c_seq ?_
          -- ref.go:113 R39
          refine c_reg ?_
          refine s_y (Y_mv) rfl rfl ?_
          refine s_y (Y_as) rfl rfl ?_
          refine s_nil ?_
          refine q_then ?_
          refine c_ret ?_
          obtain ⟨m, rfl⟩ : ∃ q, m = q + 1 := ⟨m - 1, by omega⟩
          rw [bfs] at hf
          simp only [show row[k]? = none from List.getElem?_eq_none (by omega)] at hf
          refine q_retG1 rfl gt_ (L' := [fB b19 f]) sl_ ⟨b19, rfl, by rw [hf]⟩
end
end Go.Proofs.Ytecodneffflpoaa
