/- Rows that are taken, items that are laid: the document's. -/
import Derived.Test.YtecodneffflpoaaD2
namespace Go.Proofs.Ytecodneffflpoaa
open Go.RowKit Go.Ad Go.Maps
set_option linter.unusedVariables false
set_option linter.unusedSimpArgs false
section
variable {W : World}
set_option maxRecDepth 100000 in
theorem rstats_d {k : Int} : Does Try.prog 17 [iv k] W [] (fun v L => v = .agg (statsM k).cells.toArray ∧ L = []) := by
  refine enter Try.func17 rfl rfl rfl (Has.start _) ?_
  refine c_seq ?_
  -- ref.go:17 R0
  refine c_reg ?_
  refine s_n (N_alloc (z := .agg #[.int .i64 0, .int .i64 0, .int .i64 0, .int .i64 0, .int .i64 0, .int .i64 0, .int .i64 0, .int .i64 0, .int .i64 0, .int .i64 0, .int .i64 0]) (cs := [.int .i64 0, .int .i64 0, .int .i64 0, .int .i64 0, .int .i64 0, .int .i64 0, .int .i64 0, .int .i64 0, .int .i64 0, .int .i64 0, .int .i64 0]) zv48 rfl) rfl rfl (fun b2 _ => ?_)
  refine s_nil ?_
  refine q_then ?_
  refine c_seq ?_
  -- ref.go:18 R1
  refine c_reg ?_
  refine s_y (Y_asC) rfl rfl ?_
  refine s_y (Y_asC) rfl rfl ?_
  refine s_y (Y_asC) rfl rfl ?_
  refine s_nil ?_
  refine q_then ?_
  refine c_seq ?_
  refine c_seq ?_
  -- ref.go:19 R2
  refine c_reg ?_
  refine s_y (Y_mv) rfl rfl ?_
  refine s_nil ?_
  refine q_then ?_
  refine c_block ?_
  refine c_seq ?_
  -- ref.go:20 R4
  refine c_reg ?_
  refine s_y (Y_eql rfl rfl) rfl rfl ?_
  refine s_y (Y_as) rfl rfl ?_
  refine s_nil ?_
  refine q_then ?_
  first | refine c_cond' rfl (fun hc4 => ?_) (fun hc4 => ?_) | refine c_cond rfl (fun hc4 => ?_) (fun hc4 => ?_)
  · skip
    try simp only [nrm_] at hc4
    -- ref.go:21 R5
    refine c_reg ?_
    refine s_y (Y_asC) rfl rfl ?_
    refine s_y (Y_asC) rfl rfl ?_
    refine s_y (Y_asC) rfl rfl ?_
    refine s_nil ?_
    refine q_bn ?_
    refine q_then ?_
    refine c_seq ?_
    -- ref.go:31 R12
    refine c_reg ?_
    refine s_y (Y_mv) rfl rfl ?_
    refine s_y (Y_mv) rfl rfl ?_
    refine s_y (Y_mv) rfl rfl ?_
    refine s_y (Y_mv) rfl rfl ?_
    refine s_y (Y_mv) rfl rfl ?_
    refine s_y (Y_build (cs := [_, .int .i64 0, .int .i64 0, .int .i64 0, .int .i64 0, _, _, _, _, .int .i64 0, .int .i64 0]) (by repeat (first | exact Gp.nil | apply Gp.const | apply Gp.tmp gt_)) (bld48 _ _ (by first | rfl | (simp; rfl)))) rfl rfl ?_
    refine s_s ((by first | exact S_storeA rfl rfl sz48 (by first | rfl | assumption) (by first | rfl | assumption) (by repeat (first | exact Upd.head | apply Upd.tail)) (by first | rfl | assumption) | exact S_storeN rfl rfl sz48 (by rfl) (by first | rfl | assumption) (by repeat (first | exact Upd.head | apply Upd.tail)) (by simp only [setAll, List.set_cons_zero, List.set_cons_succ, Nat.zero_add, Nat.reduceAdd]; rfl) (by first | rfl | assumption))) rfl ?_
    refine s_nil ?_
    refine q_then ?_
    refine c_ret ?_
    refine q_ret1c rfl rfl many48 mm_ (by rfl) (L' := _) sl_ (⟨by first | (obtain rfl := hc4; rfl) | (obtain rfl := hc6; rfl) | (obtain rfl := hc8; rfl) | (obtain rfl := hc10; rfl), rfl⟩)
  · skip
    try simp only [nrm_] at hc4
    refine c_seq ?_
    -- ref.go:22 R6
    refine c_reg ?_
    refine s_y (Y_eql rfl rfl) rfl rfl ?_
    refine s_y (Y_as) rfl rfl ?_
    refine s_nil ?_
    refine q_then ?_
    first | refine c_cond' rfl (fun hc6 => ?_) (fun hc6 => ?_) | refine c_cond rfl (fun hc6 => ?_) (fun hc6 => ?_)
    · skip
      try simp only [nrm_] at hc6
      -- ref.go:23 R7
      refine c_reg ?_
      refine s_y (Y_asC) rfl rfl ?_
      refine s_y (Y_asC) rfl rfl ?_
      refine s_nil ?_
      refine q_bn ?_
      refine q_then ?_
      refine c_seq ?_
      -- ref.go:31 R12
      refine c_reg ?_
      refine s_y (Y_mv) rfl rfl ?_
      refine s_y (Y_mv) rfl rfl ?_
      refine s_y (Y_mv) rfl rfl ?_
      refine s_y (Y_mv) rfl rfl ?_
      refine s_y (Y_mv) rfl rfl ?_
      refine s_y (Y_build (cs := [_, .int .i64 0, .int .i64 0, .int .i64 0, .int .i64 0, _, _, _, _, .int .i64 0, .int .i64 0]) (by repeat (first | exact Gp.nil | apply Gp.const | apply Gp.tmp gt_)) (bld48 _ _ (by first | rfl | (simp; rfl)))) rfl rfl ?_
      refine s_s ((by first | exact S_storeA rfl rfl sz48 (by first | rfl | assumption) (by first | rfl | assumption) (by repeat (first | exact Upd.head | apply Upd.tail)) (by first | rfl | assumption) | exact S_storeN rfl rfl sz48 (by rfl) (by first | rfl | assumption) (by repeat (first | exact Upd.head | apply Upd.tail)) (by simp only [setAll, List.set_cons_zero, List.set_cons_succ, Nat.zero_add, Nat.reduceAdd]; rfl) (by first | rfl | assumption))) rfl ?_
      refine s_nil ?_
      refine q_then ?_
      refine c_ret ?_
      refine q_ret1c rfl rfl many48 mm_ (by rfl) (L' := _) sl_ (⟨by first | (obtain rfl := hc4; rfl) | (obtain rfl := hc6; rfl) | (obtain rfl := hc8; rfl) | (obtain rfl := hc10; rfl), rfl⟩)
    · skip
      try simp only [nrm_] at hc6
      refine c_seq ?_
      -- ref.go:24 R8
      refine c_reg ?_
      refine s_y (Y_eql rfl rfl) rfl rfl ?_
      refine s_y (Y_as) rfl rfl ?_
      refine s_nil ?_
      refine q_then ?_
      first | refine c_cond' rfl (fun hc8 => ?_) (fun hc8 => ?_) | refine c_cond rfl (fun hc8 => ?_) (fun hc8 => ?_)
      · skip
        try simp only [nrm_] at hc8
        -- ref.go:25 R9
        refine c_reg ?_
        refine s_y (Y_asC) rfl rfl ?_
        refine s_y (Y_asC) rfl rfl ?_
        refine s_y (Y_asC) rfl rfl ?_
        refine s_nil ?_
        refine q_bn ?_
        refine q_then ?_
        refine c_seq ?_
        -- ref.go:31 R12
        refine c_reg ?_
        refine s_y (Y_mv) rfl rfl ?_
        refine s_y (Y_mv) rfl rfl ?_
        refine s_y (Y_mv) rfl rfl ?_
        refine s_y (Y_mv) rfl rfl ?_
        refine s_y (Y_mv) rfl rfl ?_
        refine s_y (Y_build (cs := [_, .int .i64 0, .int .i64 0, .int .i64 0, .int .i64 0, _, _, _, _, .int .i64 0, .int .i64 0]) (by repeat (first | exact Gp.nil | apply Gp.const | apply Gp.tmp gt_)) (bld48 _ _ (by first | rfl | (simp; rfl)))) rfl rfl ?_
        refine s_s ((by first | exact S_storeA rfl rfl sz48 (by first | rfl | assumption) (by first | rfl | assumption) (by repeat (first | exact Upd.head | apply Upd.tail)) (by first | rfl | assumption) | exact S_storeN rfl rfl sz48 (by rfl) (by first | rfl | assumption) (by repeat (first | exact Upd.head | apply Upd.tail)) (by simp only [setAll, List.set_cons_zero, List.set_cons_succ, Nat.zero_add, Nat.reduceAdd]; rfl) (by first | rfl | assumption))) rfl ?_
        refine s_nil ?_
        refine q_then ?_
        refine c_ret ?_
        refine q_ret1c rfl rfl many48 mm_ (by rfl) (L' := _) sl_ (⟨by first | (obtain rfl := hc4; rfl) | (obtain rfl := hc6; rfl) | (obtain rfl := hc8; rfl) | (obtain rfl := hc10; rfl), rfl⟩)
      · skip
        try simp only [nrm_] at hc8
        refine c_seq ?_
        -- ref.go:26 R10
        refine c_reg ?_
        refine s_y (Y_eql rfl rfl) rfl rfl ?_
        refine s_y (Y_as) rfl rfl ?_
        refine s_nil ?_
        refine q_then ?_
        first | refine c_cond' rfl (fun hc10 => ?_) (fun hc10 => ?_) | refine c_cond rfl (fun hc10 => ?_) (fun hc10 => ?_)
        · skip
          try simp only [nrm_] at hc10
          -- ref.go:27 R11
          refine c_reg ?_
          refine s_y (Y_asC) rfl rfl ?_
          refine s_y (Y_asC) rfl rfl ?_
          refine s_nil ?_
          refine q_bn ?_
          refine q_then ?_
          refine c_seq ?_
          -- ref.go:31 R12
          refine c_reg ?_
          refine s_y (Y_mv) rfl rfl ?_
          refine s_y (Y_mv) rfl rfl ?_
          refine s_y (Y_mv) rfl rfl ?_
          refine s_y (Y_mv) rfl rfl ?_
          refine s_y (Y_mv) rfl rfl ?_
          refine s_y (Y_build (cs := [_, .int .i64 0, .int .i64 0, .int .i64 0, .int .i64 0, _, _, _, _, .int .i64 0, .int .i64 0]) (by repeat (first | exact Gp.nil | apply Gp.const | apply Gp.tmp gt_)) (bld48 _ _ (by first | rfl | (simp; rfl)))) rfl rfl ?_
          refine s_s ((by first | exact S_storeA rfl rfl sz48 (by first | rfl | assumption) (by first | rfl | assumption) (by repeat (first | exact Upd.head | apply Upd.tail)) (by first | rfl | assumption) | exact S_storeN rfl rfl sz48 (by rfl) (by first | rfl | assumption) (by repeat (first | exact Upd.head | apply Upd.tail)) (by simp only [setAll, List.set_cons_zero, List.set_cons_succ, Nat.zero_add, Nat.reduceAdd]; rfl) (by first | rfl | assumption))) rfl ?_
          refine s_nil ?_
          refine q_then ?_
          refine c_ret ?_
          refine q_ret1c rfl rfl many48 mm_ (by rfl) (L' := _) sl_ (⟨by first | (obtain rfl := hc4; rfl) | (obtain rfl := hc6; rfl) | (obtain rfl := hc8; rfl) | (obtain rfl := hc10; rfl), rfl⟩)
        · skip
          try simp only [nrm_] at hc10
          refine c_seq ?_
          -- ref.go:29 R3
          refine c_reg ?_
          refine s_y (Y_build (cs := [.int .i64 0, .int .i64 0, .int .i64 0, .int .i64 0, .int .i64 0, .int .i64 0, .int .i64 0, .int .i64 0, .int .i64 0, .int .i64 0, .int .i64 0]) (by repeat (first | exact Gp.nil | apply Gp.const | apply Gp.tmp gt_)) (bld48 _ _ (by first | rfl | (simp; rfl)))) rfl rfl ?_
          refine s_s ((by first | exact S_storeA rfl rfl sz48 (by first | rfl | assumption) (by first | rfl | assumption) (by repeat (first | exact Upd.head | apply Upd.tail)) (by first | rfl | assumption) | exact S_storeN rfl rfl sz48 (by rfl) (by first | rfl | assumption) (by repeat (first | exact Upd.head | apply Upd.tail)) (by simp only [setAll, List.set_cons_zero, List.set_cons_succ, Nat.zero_add, Nat.reduceAdd]; rfl) (by first | rfl | assumption))) rfl ?_
          refine s_nil ?_
          refine q_then ?_
          refine c_ret ?_
          refine q_ret1c rfl rfl many48 mm_ (by rfl) (L' := _) sl_ (⟨by rw [show statsM k = Ent.zero by unfold statsM; rw [if_neg hc4, if_neg hc6, if_neg hc8, if_neg hc10]]; rfl, rfl⟩)
/-- What Spawn gives. -/
inductive SpawnP (l : List Ent) (e : Ent) : Value → List Bk → Prop
  | kind (h : ¬ (1 ≤ e.kind ∧ e.kind ≤ 4)) : SpawnP l e (.tuple #[.slice none 0 0, iv 0, iv 3]) []
  | full (h : 1 ≤ e.kind ∧ e.kind ≤ 4) (hf : freeRow l = -1) : SpawnP l e (.tuple #[.slice none 0 0, iv 0, iv 5]) []
  | ok {i g cap : Nat} {a : Ent} (h : 1 ≤ e.kind ∧ e.kind ≤ 4) (hf : freeRow l = i) (ha : l[i]? = some a) (hc : l.length ≤ cap) : SpawnP l e (.tuple #[.slice (some ⟨g, 0, none⟩) l.length cap, iv i, iv 0]) [⟨g, 48, 11, cap, ecells (l.set i { e with gen := genOf a.gen })⟩]
set_option maxRecDepth 100000 in
theorem rspawn_d {b o n c : Nat} {l : List Ent} (hs : SlB W b o n c 11 (ecells l)) (h1 : n ≤ 100000) (e : Ent) : Does Try.prog 19 [.slice (some ⟨b, o, none⟩) n c, .agg e.cells.toArray] W [] (SpawnP l e) := by
  obtain rfl : n = l.length := by have := hs.len; rw [ecells_len] at this; omega
  have hb := hs.cap
  refine enter Try.func19 rfl rfl rfl (Has.start _) ?_
  refine c_seq ?_
  -- ref.go:35 R0
  refine c_reg ?_
  refine s_n (N_box rfl) rfl rfl (fun b3 _ => ?_)
  refine s_y (Y_asC) rfl rfl ?_
  refine s_y (Y_asC) rfl rfl ?_
  refine s_y (Y_asC) rfl rfl ?_
  refine s_nil ?_
  refine q_then ?_
  refine c_seq ?_
  refine c_seq ?_
  -- ref.go:36 R1
  refine c_reg ?_
  refine s_y (Y_fa 0 rfl Try.underlying48 rfl sz3 rfl) rfl rfl ?_
  refine s_y ((by first | exact Y_load rfl one3 mm_ (by rfl) | exact Y_loadR rfl one3 hr rfl rfl | exact Y_loadR rfl one3 hr2 rfl rfl | exact Y_load rfl one3 mm_ (eget he rfl) | exact Y_load rfl one3 mm_ (iget hx rfl) | exact Y_load rfl one3 mm_ (by assumption) | exact Y_loadR rfl one3 (by assumption) rfl (by assumption))) rfl rfl ?_
  refine s_y (Y_lss rfl rfl) rfl rfl ?_
  refine s_y (Y_mv) rfl rfl ?_
  apply s_or 4 [12, 13, 14, 15, 16] 16 (g := 12) rfl rfl
  · intro ht4 hm
    try simp only [nrm_] at ht4
    first | refine s_y (Y_fa 0 rfl Try.underlying48 rfl sz3 rfl) rfl rfl ?_ | refine s_pass rfl rfl ?_
    first | refine s_y ((by first | exact Y_load rfl one3 mm_ (by rfl) | exact Y_loadR rfl one3 hr rfl rfl | exact Y_loadR rfl one3 hr2 rfl rfl | exact Y_load rfl one3 mm_ (eget he rfl) | exact Y_load rfl one3 mm_ (iget hx rfl) | exact Y_load rfl one3 mm_ (by assumption) | exact Y_loadR rfl one3 (by assumption) rfl (by assumption))) rfl rfl ?_ | refine s_pass rfl rfl ?_
    first | refine s_y (Y_gtr rfl rfl) rfl rfl ?_ | refine s_pass rfl rfl ?_
    refine s_y (Y_pk rfl Gx.const (Gx.tmp gt_)) rfl rfl ?_
    first | exact hm _ ⟨rfl, trivial⟩ rfl | exact QL.sub sl_ (hm _ ⟨rfl, trivial⟩ rfl)
  · intro ht4 hm
    iterate 3 refine s_pass rfl rfl ?_
    refine s_y (Y_pk rfl Gx.const (Gx.tmp gt_)) rfl rfl ?_
    exact hm _ ⟨rfl, trivial⟩ rfl
  intro j16
  refine s_nil ?_
  refine q_then ?_
  first | refine c_cond' rfl (fun hc1 => ?_) (fun hc1 => ?_) | refine c_cond rfl (fun hc1 => ?_) (fun hc1 => ?_)
  · skip
    try simp only [nrm_] at hc1
    refine c_seq ?_
    -- ref.go:37 R2
    refine c_reg ?_
    refine s_y (Y_asC) rfl rfl ?_
    refine s_y (Y_asC) rfl rfl ?_
    refine s_y (Y_asC) rfl rfl ?_
    refine s_nil ?_
    refine q_then ?_
    refine c_ret ?_
    refine q_retG3 rfl gt_ gt_ gt_ (L' := _) sl_ (.kind (by omega))
  · skip
    try simp only [nrm_] at hc1
    refine c_skip ?_
    refine q_then ?_
    refine c_seq ?_
    refine c_seq ?_
    -- ref.go:39 R3
    refine c_reg ?_
    refine s_y (Y_asC) rfl rfl ?_
    refine s_nil ?_
    refine q_then ?_
    refine c_block ?_
    refine c_loop [4, 5, 6, 7, 8, 17, 18, 19, 20, 21, 22, 23, 24, 25, 26, 27, 28, 29, 30, 31, 32, 33, 34, 35, 36, 37, 38, 39, 40, 41, 42, 43, 44, 45, 46, 47, 48, 49] (fun m i => i + m = min l.length 32 ∧ fnd (fun e : Ent => decide (e.kind = 0)) ((l.take 32).drop i) i = freeRow l) (fun i => [(7, iv i)]) (fun _ => [⟨b3, 48, 11, 1, e.cells⟩]) (min l.length 32) (0) (⟨by omega, rfl⟩) (by repeat (first | exact trivial | refine ⟨rfl, ?_⟩)) (fun _ h => h.sub sl_) (fun _ => rfl) ?_
    rintro m i j ⟨hi, hf⟩ K hK
    refine c_seq ?_
    refine c_seq ?_
    -- ref.go:39 R4
    refine c_reg ?_
    refine s_y (Y_mv) rfl rfl ?_
    refine s_y (Y_mv) rfl rfl ?_
    refine s_y (Y_len rfl rfl Try.underlying26) rfl rfl ?_
    refine s_y (Y_lss rfl rfl) rfl rfl ?_
    refine s_y (Y_mv) rfl rfl ?_
    apply s_and 3 [21, 22, 23, 24] 24 (g := 21) rfl rfl
    · intro ht5 hm
      try simp only [nrm_] at ht5
      first | refine s_y (Y_mv) rfl rfl ?_ | refine s_pass rfl rfl ?_
      first | refine s_y (Y_lss rfl rfl) rfl rfl ?_ | refine s_pass rfl rfl ?_
      refine s_y (Y_pk rfl (Gx.tmp gt_) Gx.const) rfl rfl ?_
      first | exact hm _ ⟨rfl, trivial⟩ rfl | exact QL.sub sl_ (hm _ ⟨rfl, trivial⟩ rfl)
    · intro ht5 hm
      iterate 2 refine s_pass rfl rfl ?_
      refine s_y (Y_pk rfl (Gx.tmp gt_) Gx.const) rfl rfl ?_
      exact hm _ ⟨rfl, trivial⟩ rfl
    intro j24
    refine s_nil ?_
    refine q_then ?_
    first | refine c_cond' rfl (fun hc4 => ?_) (fun hc4 => ?_) | refine c_cond rfl (fun hc4 => ?_) (fun hc4 => ?_)
    · skip
      try simp only [nrm_] at hc4
      refine c_skip ?_
      refine q_then ?_
      refine c_seq ?_
      refine c_block ?_
      refine c_seq ?_
      -- ref.go:40 R6
      obtain ⟨a, ha⟩ := take_lt (show i < (l.take 32).length by rw [List.length_take]; omega)
      have he : l[i]? = some a := by rw [List.getElem?_take_of_lt (by omega)] at ha; exact ha
      have hr := hs.at' Ent.len he
      refine c_reg ?_
      refine s_y (Y_mv) rfl rfl ?_
      refine s_y (Y_mv) rfl rfl ?_
      refine s_y (Y_ia rfl rfl Try.underlying26 sz48 rfl (by omega)) rfl rfl ?_
      refine s_y (Y_fa 0 rfl Try.underlying48 rfl sz3 rfl) rfl rfl ?_
      refine s_y ((by first | exact Y_load rfl one3 mm_ (by rfl) | exact Y_loadR rfl one3 hr rfl rfl | exact Y_loadR rfl one3 hr2 rfl rfl | exact Y_load rfl one3 mm_ (eget he rfl) | exact Y_load rfl one3 mm_ (iget hx rfl) | exact Y_load rfl one3 mm_ (by assumption) | exact Y_loadR rfl one3 (by assumption) rfl (by assumption))) rfl rfl ?_
      refine s_y (Y_eql rfl rfl) rfl rfl ?_
      refine s_nil ?_
      refine q_then ?_
      first | refine c_cond' rfl (fun hp => ?_) (fun hp => ?_) | refine c_cond rfl (fun hp => ?_) (fun hp => ?_)
      · skip
        try simp only [nrm_] at hp
        refine c_seq ?_
        -- ref.go:41 R7
        refine c_reg ?_
        refine s_n (N_bs0 rfl Try.underlying26 sz48) rfl rfl (fun b33 _ => ?_)
        refine s_y (Y_mv) rfl rfl ?_
        refine s_n (N_appE (news := ecells l) rfl rfl Try.underlying26 inf48 rfl (by omega) (by repeat (first | exact Sel.head | apply Sel.tail)) hs.src hs.len (one_e l) (by omega) (by omega)) rfl rfl (fun ⟨g35, cp35⟩ hc35 => ?_)
        refine s_y (Y_as) rfl rfl ?_
        refine s_nil ?_
        refine q_then ?_
        refine c_seq ?_
        -- ref.go:42 R8
        refine c_reg ?_
        refine s_y (Y_mv) rfl rfl ?_
        refine s_y (Y_mv) rfl rfl ?_
        refine s_y (Y_ia rfl rfl Try.underlying26 sz48 rfl (by omega)) rfl rfl ?_
        refine s_y (Y_fa 1 rfl Try.underlying48 rfl sz3 rfl) rfl rfl ?_
        refine s_y ((by first | exact Y_load rfl one3 mm_ (by rfl) | exact Y_loadR rfl one3 hr rfl rfl | exact Y_loadR rfl one3 hr2 rfl rfl | exact Y_load rfl one3 mm_ (eget he rfl) | exact Y_load rfl one3 mm_ (iget hx rfl) | exact Y_load rfl one3 mm_ (by assumption) | exact Y_loadR rfl one3 (by assumption) rfl (by assumption))) rfl rfl ?_
        refine s_y ((by first | exact Y_add rfl rfl (by omega) | exact Y_addw rfl rfl)) rfl rfl ?_
        refine s_y ((by first | exact Y_rem rfl rfl (by omega) | exact Y_remw rfl rfl (by omega))) rfl rfl ?_
        refine s_y (Y_fa 1 rfl Try.underlying48 rfl sz3 rfl) rfl rfl ?_
        refine s_s (S_st (cs' := ({ e with gen := genOf a.gen } : Ent).cells) rfl gt_ sz3 (by rfl) (by repeat (first | exact Upd.head | apply Upd.tail)) (by rfl) (by rw [Ent.len]; decide)) rfl ?_
        refine s_nil ?_
        refine q_then ?_
        refine c_seq ?_
        -- ref.go:43 R9
        refine c_reg ?_
        refine s_y (Y_mv) rfl rfl ?_
        refine s_y (Y_mv) rfl rfl ?_
        refine s_y ((by first | exact Y_loadAll rfl many48 mm_ (by rfl) | exact Y_loadN rfl many48 mm_ ‹_› ‹_› | exact Y_loadNR rfl many48 hr rfl | exact Y_loadNR rfl many48 hr2 rfl | exact Y_loadNR rfl many48 ‹_› rfl)) rfl rfl ?_
        refine s_y (Y_ia rfl rfl Try.underlying26 sz48 rfl (by omega)) rfl rfl ?_
        refine s_s (S_storeN (cs' := ecells (l.set i { e with gen := genOf a.gen })) rfl rfl sz48 (by rfl) (by rfl) (by repeat (first | exact Upd.head | apply Upd.tail)) (eall _ (by omega)) (by simp [ecells_len, Ent.cells]; omega)) rfl ?_
        refine s_nil ?_
        refine q_then ?_
        refine c_seq ?_
        -- ref.go:44 R10
        refine c_reg ?_
        refine s_y (Y_mv) rfl rfl ?_
        refine s_y (Y_mv) rfl rfl ?_
        refine s_y (Y_as) rfl rfl ?_
        refine s_y (Y_as) rfl rfl ?_
        refine s_y (Y_asC) rfl rfl ?_
        refine s_nil ?_
        refine q_then ?_
        refine c_ret ?_
        refine q_retG3 rfl gt_ gt_ gt_ (L' := _) sl_ (.ok (g := g35) (cap := cp35) (by omega) (by rw [← hf, fnd_here ha (by simp only [nrm_]; omega)]) he (by omega))
      · skip
        try simp only [nrm_] at hp
        refine c_skip ?_
        refine q_bn ?_
        refine q_then ?_
        -- ref.go:39 R5
        refine c_reg ?_
        refine s_y (Y_mv) rfl rfl ?_
        refine s_y ((by first | exact Y_add rfl rfl (by omega) | exact Y_addw rfl rfl)) rfl rfl ?_
        refine s_y (Y_as) rfl rfl ?_
        refine s_nil ?_
        refine hK (m - 1) (i + 1) _ _ (by omega) ⟨by omega, by rw [← fnd_step ha (by simp only [nrm_]; omega)]; exact hf⟩ ⟨rfl, trivial⟩ rfl (fun _ h => h)
    · skip
      try simp only [nrm_] at hc4
      refine c_exit ?_
      repeat with_reducible refine q_te ?_
      refine q_exit ?_
      refine q_then ?_
      refine c_seq ?_
      -- ref.go:47 R11
      refine c_reg ?_
      refine s_y (Y_asC) rfl rfl ?_
      refine s_y (Y_asC) rfl rfl ?_
      refine s_y (Y_asC) rfl rfl ?_
      refine s_nil ?_
      refine q_then ?_
      refine c_ret ?_
      refine q_retG3 rfl gt_ gt_ gt_ (L' := _) sl_ (.full (by omega) (by rw [← hf, fnd_end (by rw [List.length_take]; omega)]))
/-- A row that is the one there was, or a new one. -/
inductive EntsP (b o n c : Nat) (l l' : List Ent) : Value → List Bk → Prop
  | old (h : l' = l) : EntsP b o n c l l' (.slice (some ⟨b, o, none⟩) n c) []
  | new {g cap : Nat} (hc : l'.length ≤ cap) (hl : l'.length = n) : EntsP b o n c l l' (.slice (some ⟨g, 0, none⟩) n cap) [⟨g, 48, 11, cap, ecells l'⟩]
/-- Entities with one more, if there is room. -/
def spawnedM (l : List Ent) (e : Ent) : List Ent :=
  if 1 ≤ e.kind ∧ e.kind ≤ 4 ∧ 0 ≤ freeRow l then l.set (freeRow l).toNat { e with gen := genOf (l.getD (freeRow l).toNat Ent.zero).gen } else l
theorem spawnedM_len (l : List Ent) (e : Ent) : (spawnedM l e).length = l.length := by unfold spawnedM; split <;> simp
theorem SpawnP.open {l : List Ent} {e : Ent} {v : Value} {L : List Bk} (h : SpawnP l e v L) : ∃ sv ix er, v = .tuple #[sv, iv ix, iv er] ∧ ((er ≠ 0 ∧ spawnedM l e = l ∧ L = []) ∨ (er = 0 ∧ ∃ (g cap r : Nat), ix = r ∧ freeRow l = r ∧ l.length ≤ cap ∧ sv = .slice (some ⟨g, 0, none⟩) l.length cap ∧ L = [⟨g, 48, 11, cap, ecells (spawnedM l e)⟩])) := by
  cases h with
  | kind h => exact ⟨_, _, _, rfl, .inl ⟨by decide, by unfold spawnedM; rw [if_neg]; rintro ⟨h1, h2, _⟩; exact h ⟨h1, h2⟩, rfl⟩⟩
  | full h hf => exact ⟨_, _, _, rfl, .inl ⟨by decide, by unfold spawnedM; rw [if_neg]; rintro ⟨_, _, h3⟩; omega, rfl⟩⟩
  | @ok i g cap a h hf ha hc =>
    refine ⟨_, _, _, rfl, .inr ⟨rfl, g, cap, i, rfl, hf, hc, rfl, ?_⟩⟩
    unfold spawnedM
    rw [if_pos ⟨h.1, h.2, by omega⟩, hf, Int.toNat_natCast, List.getD_eq_getElem?_getD, ha]
    rfl
set_option maxRecDepth 100000 in
theorem rspawned_d {b o n c : Nat} {l : List Ent} (hs : SlB W b o n c 11 (ecells l)) (h1 : n ≤ 100000) (e : Ent) : Does Try.prog 54 [.slice (some ⟨b, o, none⟩) n c, .agg e.cells.toArray] W [] (EntsP b o n c l (spawnedM l e)) := by
  obtain rfl : n = l.length := by have := hs.len; rw [ecells_len] at this; omega
  refine enter Try.func54 rfl rfl rfl (Has.start _) ?_
  refine c_seq ?_
  -- ref.go:35 R0
  refine c_reg ?_
  refine s_n (N_box rfl) rfl rfl (fun b3 _ => ?_)
  refine s_y (Y_asC) rfl rfl ?_
  refine s_nil ?_
  refine q_then ?_
  refine c_seq ?_
  -- ref.go:36 R1
  refine c_reg ?_
  refine s_y (Y_mv) rfl rfl ?_
  refine s_y ((by first | exact Y_loadAll rfl many48 mm_ (by rfl) | exact Y_loadN rfl many48 mm_ ‹_› ‹_› | exact Y_loadNR rfl many48 hr rfl | exact Y_loadNR rfl many48 hr2 rfl | exact Y_loadNR rfl many48 ‹_› rfl)) rfl rfl ?_
  refine s_c (En_call (fun _ => rfl) Try.func19 rfl (by kernel_rfl) rfl) (fun w hH => rspawn_d (hs.has hH) h1 e) rfl rfl ?_
  rintro _ _ hP0
  rename_i lP
  obtain ⟨sv, ix, er, rfl, hP⟩ := hP0.open
  clear hP0
  refine s_y (Y_mv) rfl rfl ?_
  refine s_y (Y_extract rfl rfl) rfl rfl ?_
  refine s_y (Y_extract rfl rfl) rfl rfl ?_
  refine s_y (Y_extract rfl rfl) rfl rfl ?_
  refine s_y (Y_as) rfl rfl ?_
  refine s_y (Y_as) rfl rfl ?_
  refine s_y (Y_as) rfl rfl ?_
  refine s_nil ?_
  refine q_then ?_
  refine c_seq ?_
  refine c_seq ?_
  -- ref.go:37 R2
  refine c_reg ?_
  refine s_y (Y_mv) rfl rfl ?_
  refine s_y (Y_neq rfl rfl) rfl rfl ?_
  refine s_nil ?_
  refine q_then ?_
  first | refine c_cond' rfl (fun hc2 => ?_) (fun hc2 => ?_) | refine c_cond rfl (fun hc2 => ?_) (fun hc2 => ?_)
  · skip
    try simp only [nrm_] at hc2
    refine c_seq ?_
    -- ref.go:38 R3
    refine c_reg ?_
    refine s_y (Y_mv) rfl rfl ?_
    refine s_y (Y_as) rfl rfl ?_
    refine s_nil ?_
    refine q_then ?_
    refine c_ret ?_
    rcases hP with ⟨h, h2, rfl⟩ | ⟨h, _⟩
    rotate_left
    · exact absurd h hc2
    refine q_retG1 rfl gt_ (L' := []) sl_ (.old h2)
  · skip
    try simp only [nrm_] at hc2
    refine c_skip ?_
    refine q_then ?_
    refine c_seq ?_
    -- ref.go:40 R4
    refine c_reg ?_
    refine s_y (Y_mv) rfl rfl ?_
    refine s_y (Y_as) rfl rfl ?_
    refine s_nil ?_
    refine q_then ?_
    refine c_ret ?_
    rcases hP with ⟨h, _⟩ | ⟨h0, g, cap, r, h1, h2, h3, rfl, rfl⟩
    · exact absurd hc2 h
    refine q_retG1 rfl gt_ (L' := [_]) sl_ (.new (by rw [spawnedM_len]; exact h3) (spawnedM_len _ _))
end
end Go.Proofs.Ytecodneffflpoaa
