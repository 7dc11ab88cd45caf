/- Worlds are written: the program's, walked. -/
import Derived.Test.YtecodneffflpoaaE7
namespace Go.Proofs.Ytecodneffflpoaa
open Go.RowKit Go.Ad Go.Maps
set_option linter.unusedVariables false
set_option linter.unusedSimpArgs false
section
variable {W : World}
set_option maxRecDepth 100000 in
theorem pcheck_d {d : Wd} {s : Ws} (hw : WAt W d s) (hok : ∀ x ∈ d.items, Itm.ok x) : Does Try.prog 8 [.agg (wv d s).toArray] W [] (fun v L => v = iv (checkM d) ∧ L = []) := by
  have hcap := hw.e.cap
  refine enter Try.func8 rfl rfl rfl (Has.start _) ?_
  refine c_seq ?_
  -- snap.go:65 R0
  refine c_reg ?_
  refine s_n (N_box (cs := wv d s) rfl) rfl rfl (fun b1 _ => ?_)
  refine s_y (Y_asC) rfl rfl ?_
  refine s_nil ?_
  refine q_then ?_
  refine c_seq ?_
  refine c_seq ?_
  -- snap.go:66 R1
  refine c_reg ?_
  refine s_y ((by first | exact Y_loadAll rfl many29 mm_ (by rfl) | exact Y_loadN rfl many29 mm_ ‹_› ‹_› | exact Y_loadNR rfl many29 hr rfl | exact Y_loadNR rfl many29 hr2 rfl | exact Y_loadNR rfl many29 ‹_› rfl)) rfl rfl ?_
  refine s_c (En_call (fun _ => rfl) Try.func23 rfl (by kernel_rfl) rfl) (fun w hH => phead_d (hw.has hH)) rfl rfl ?_
  rintro _ _ ⟨rfl, rfl⟩
  refine s_y (Y_as) rfl rfl ?_
  refine s_nil ?_
  refine q_then ?_
  refine c_seq ?_
  -- snap.go:66 R2
  refine c_reg ?_
  refine s_y (Y_mv) rfl rfl ?_
  refine s_y (Y_neq rfl rfl) rfl rfl ?_
  refine s_nil ?_
  refine q_then ?_
  first | refine c_cond' rfl (fun hc2 => ?_) (fun hc2 => ?_) | refine c_cond rfl (fun hc2 => ?_) (fun hc2 => ?_)
  · skip
    try simp only [nrm_] at hc2
    refine c_seq ?_
    -- snap.go:67 R3
    refine c_reg ?_
    refine s_y (Y_mv) rfl rfl ?_
    refine s_y (Y_as) rfl rfl ?_
    refine s_nil ?_
    refine q_then ?_
    refine c_ret ?_
    refine q_retG1 rfl gt_ (L' := _) sl_ (⟨by unfold checkM; rw [if_pos hc2], rfl⟩)
  · skip
    try simp only [nrm_] at hc2
    refine c_skip ?_
    refine q_then ?_
    refine c_seq ?_
    refine c_seq ?_
    -- snap.go:69 R4
    have hlen : d.ents.length = 32 := by
      unfold headM at hc2
      split at hc2
      · exact absurd hc2 (by decide)
      · split at hc2
        · exact absurd hc2 (by decide)
        · rename_i _ h2
          simp only [sizesOk, decide_eq_false_iff_not, Decidable.not_not] at h2
          exact h2.2.1
    refine c_reg ?_
    refine s_y (Y_fa 5 rfl Try.underlying29 rfl sz26 rfl) rfl rfl ?_
    refine s_y ((by first | exact Y_load rfl one26 mm_ (by rfl) | exact Y_loadR rfl one26 hr rfl rfl | exact Y_loadR rfl one26 hr2 rfl rfl | exact Y_load rfl one26 mm_ (eget he rfl) | exact Y_load rfl one26 mm_ (iget hx rfl) | exact Y_load rfl one26 mm_ (by assumption) | exact Y_loadR rfl one26 (by assumption) rfl (by assumption))) rfl rfl ?_
    refine s_y (Y_len rfl rfl Try.underlying26) rfl rfl ?_
    refine s_y (Y_mvC) rfl rfl ?_
    refine s_nil ?_
    refine q_then ?_
    refine c_block ?_
    refine c_loop [2, 4, 5, 14, 15, 16, 17, 18, 19, 20, 21, 22, 23, 24, 25, 26, 27, 28, 29] (fun m i => i + m = d.ents.length ∧ entsM d (d.ents.drop i) i = entsM d d.ents 0) (fun i => [(14, iv i)]) (fun _ => [wB b1 (wv d s)]) (d.ents.length) (0) (⟨by omega, rfl⟩) (by repeat (first | exact trivial | refine ⟨rfl, ?_⟩)) (fun _ h => h.sub sl_) (fun _ => rfl) ?_
    rintro m i j ⟨hi, hf⟩ K hK
    refine c_seq ?_
    -- snap.go:69 R5
    refine c_reg ?_
    refine s_y (Y_lss rfl rfl) rfl rfl ?_
    refine s_nil ?_
    refine q_then ?_
    refine c_seq ?_
    first | refine c_cond' rfl (fun hc5 => ?_) (fun hc5 => ?_) | refine c_cond rfl (fun hc5 => ?_) (fun hc5 => ?_)
    · skip
      try simp only [nrm_] at hc5
      refine c_skip ?_
      refine q_then ?_
      refine c_seq ?_
      refine c_block ?_
      refine c_seq ?_
      -- snap.go:69 R6
      obtain ⟨e, he⟩ := take_lt (show i < d.ents.length by omega)
      have hr := hw.e.at' Ent.len he
      have hst := ents_step he
      rw [hf] at hst
      refine c_reg ?_
      refine s_y (Y_mv) rfl rfl ?_
      refine s_y (Y_ia rfl rfl Try.underlying26 sz48 rfl (by omega)) rfl rfl ?_
      refine s_y ((by first | exact Y_loadAll rfl many48 mm_ (by rfl) | exact Y_loadN rfl many48 mm_ ‹_› ‹_› | exact Y_loadNR rfl many48 hr rfl | exact Y_loadNR rfl many48 hr2 rfl | exact Y_loadNR rfl many48 ‹_› rfl)) rfl rfl ?_
      refine s_n (N_alloc (z := .agg #[.int .i64 0, .int .i64 0, .int .i64 0, .int .i64 0, .int .i64 0, .int .i64 0, .int .i64 0, .int .i64 0, .int .i64 0, .int .i64 0, .int .i64 0]) (cs := [.int .i64 0, .int .i64 0, .int .i64 0, .int .i64 0, .int .i64 0, .int .i64 0, .int .i64 0, .int .i64 0, .int .i64 0, .int .i64 0, .int .i64 0]) zv48 rfl) rfl rfl (fun b5 _ => ?_)
      refine s_y (Y_as) rfl rfl ?_
      refine s_s (S_storeA (vs := e.cells) rfl rfl sz48 (by rfl) (by rfl) (by repeat (first | exact Upd.head | apply Upd.tail)) (by rfl)) rfl ?_
      refine s_nil ?_
      refine q_then ?_
      refine c_block ?_
      refine c_seq ?_
      -- snap.go:71 R7
      refine c_reg ?_
      refine s_y (Y_fa 0 rfl Try.underlying48 rfl sz3 rfl) rfl rfl ?_
      refine s_y ((by first | exact Y_load rfl one3 mm_ (by rfl) | exact Y_loadR rfl one3 hr rfl rfl | exact Y_loadR rfl one3 hr2 rfl rfl | exact Y_load rfl one3 mm_ (eget he rfl) | exact Y_load rfl one3 mm_ (iget hx rfl) | exact Y_load rfl one3 mm_ (by assumption) | exact Y_loadR rfl one3 (by assumption) rfl (by assumption))) rfl rfl ?_
      refine s_c (En_call (fun _ => rfl) Try.func24 rfl (by kernel_rfl) rfl) (fun w hH => pwithin_d) rfl rfl ?_
      rintro _ _ ⟨rfl, rfl⟩
      refine s_y (Y_not rfl) rfl rfl ?_
      refine s_y (Y_as) rfl rfl ?_
      refine s_nil ?_
      refine q_then ?_
      first | refine c_cond' rfl (fun hc7 => ?_) (fun hc7 => ?_) | refine c_cond rfl (fun hc7 => ?_) (fun hc7 => ?_)
      · skip
        try simp only [nrm_] at hc7
        refine c_seq ?_
        -- snap.go:72 R8
        refine c_reg ?_
        refine s_y (Y_asC) rfl rfl ?_
        refine s_nil ?_
        refine q_then ?_
        refine c_ret ?_
        refine q_retG1 rfl gt_ (L' := _) sl_ (⟨by
            have h3 : entM d i e = 3 := by unfold entM; rw [if_pos (by simpa using hc7)]
            rw [h3, if_pos (by decide)] at hst; unfold checkM; rw [if_neg (fun h => h hc2), hst, if_pos (by decide)], rfl⟩)
      · skip
        try simp only [nrm_] at hc7
        refine c_seq ?_
        -- snap.go:73 R9
        refine c_reg ?_
        refine s_y ((by first | exact Y_loadAll rfl many29 mm_ (by rfl) | exact Y_loadN rfl many29 mm_ ‹_› ‹_› | exact Y_loadNR rfl many29 hr rfl | exact Y_loadNR rfl many29 hr2 rfl | exact Y_loadNR rfl many29 ‹_› rfl)) rfl rfl ?_
        refine s_y (Y_mv) rfl rfl ?_
        refine s_c (En_call (fun _ => rfl) Try.func25 rfl (by kernel_rfl) rfl) (fun w hH => pfits_d (hw.has hH) he hlen) rfl rfl ?_
        rintro _ _ ⟨rfl, rfl⟩
        refine s_y (Y_not rfl) rfl rfl ?_
        refine s_y (Y_as) rfl rfl ?_
        refine s_nil ?_
        refine q_then ?_
        first | refine c_cond' rfl (fun hc9 => ?_) (fun hc9 => ?_) | refine c_cond rfl (fun hc9 => ?_) (fun hc9 => ?_)
        · skip
          try simp only [nrm_] at hc9
          refine c_seq ?_
          -- snap.go:74 R10
          refine c_reg ?_
          refine s_y (Y_asC) rfl rfl ?_
          refine s_nil ?_
          refine q_then ?_
          refine c_ret ?_
          refine q_retG1 rfl gt_ (L' := _) sl_ (⟨by
              have h3 : entM d i e = 9 := by unfold entM; rw [if_neg (by simpa using hc7), show fitsM d i e = false by simpa using hc9]; rfl
              rw [h3, if_pos (by decide)] at hst; unfold checkM; rw [if_neg (fun h => h hc2), hst, if_pos (by decide)], rfl⟩)
        · skip
          try simp only [nrm_] at hc9
          refine c_skip ?_
          refine q_bn ?_
          refine q_bn ?_
          refine q_then ?_
          -- snap.go:69 R11
          refine c_reg ?_
          refine s_y ((by first | exact Y_add rfl rfl (by omega) | exact Y_addw rfl rfl)) rfl rfl ?_
          refine s_y (Y_mv) rfl rfl ?_
          refine s_nil ?_
          have h3 : entM d i e = 0 := by unfold entM; rw [if_neg (by simpa using hc7), show fitsM d i e = true by simpa using hc9]; rfl
          rw [h3, if_neg (fun h => h rfl)] at hst
          refine hK (m - 1) (i + 1) _ _ (by omega) ⟨by omega, hst.symm⟩ ⟨rfl, trivial⟩ rfl (fun _ h => h.sub sl_)
    · skip
      try simp only [nrm_] at hc5
      refine c_exit ?_
      repeat with_reducible refine q_te ?_
      refine q_exit ?_
      refine q_then ?_
      refine c_seq ?_
      refine c_seq ?_
      -- snap.go:77 R12
      rw [List.drop_eq_nil_of_le (by omega)] at hf
      refine c_reg ?_
      refine s_y ((by first | exact Y_loadAll rfl many29 mm_ (by rfl) | exact Y_loadN rfl many29 mm_ ‹_› ‹_› | exact Y_loadNR rfl many29 hr rfl | exact Y_loadNR rfl many29 hr2 rfl | exact Y_loadNR rfl many29 ‹_› rfl)) rfl rfl ?_
      refine s_c (En_call (fun _ => rfl) Try.func26 rfl (by kernel_rfl) rfl) (fun w hH => pgoods_d (hw.has hH) hok) rfl rfl ?_
      rintro _ _ ⟨rfl, rfl⟩
      refine s_y (Y_not rfl) rfl rfl ?_
      refine s_nil ?_
      refine q_then ?_
      first | refine c_cond' rfl (fun hc12 => ?_) (fun hc12 => ?_) | refine c_cond rfl (fun hc12 => ?_) (fun hc12 => ?_)
      · skip
        try simp only [nrm_] at hc12
        refine c_seq ?_
        -- snap.go:78 R13
        refine c_reg ?_
        refine s_y (Y_asC) rfl rfl ?_
        refine s_nil ?_
        refine q_then ?_
        refine c_ret ?_
        refine q_retG1 rfl gt_ (L' := _) sl_ (⟨by unfold checkM; rw [if_neg (fun h => h hc2), ← hf, if_neg (by simp [entsM]), if_neg (by simpa using hc12)], rfl⟩)
      · skip
        try simp only [nrm_] at hc12
        refine c_skip ?_
        refine q_then ?_
        refine c_seq ?_
        -- snap.go:80 R14
        refine c_reg ?_
        refine s_y (Y_asC) rfl rfl ?_
        refine s_nil ?_
        refine q_then ?_
        refine c_ret ?_
        refine q_retG1 rfl gt_ (L' := _) sl_ (⟨by unfold checkM; rw [if_neg (fun h => h hc2), ← hf, if_neg (by simp [entsM]), if_pos (by simpa using hc12)], rfl⟩)
theorem slOf {w : World} {M : List Nat} {L : List Bk} {b n : Nat} {ns : List Int} (hH : Has W M L w) (hm : (⟨b, 3, 1, n, ns.map iv⟩ : Bk) ∈ L) (hn : ns.length = n) : SlB w b 0 n n 1 (ns.map iv) := (hH.at' hm).sl (by rw [List.length_map, hn, Nat.mul_one]) (Nat.le_refl _)
set_option maxRecDepth 100000 in
set_option maxHeartbeats 1600000 in
theorem penc_d {d : Wd} {s : Ws} (hw : WAt W d s) (hok : ∀ x ∈ d.items, Itm.ok x) : Does Try.prog 6 [.agg (wv d s).toArray] W [] (EncP d) := by
  refine enter Try.func6 rfl rfl rfl (Has.start _) ?_
  refine c_seq ?_
  -- snap.go:100 R0
  refine c_reg ?_
  refine s_n (N_box (cs := wv d s) rfl) rfl rfl (fun b1 _ => ?_)
  refine s_y (Y_asC) rfl rfl ?_
  refine s_y (Y_asC) rfl rfl ?_
  refine s_nil ?_
  refine q_then ?_
  refine c_seq ?_
  refine c_seq ?_
  -- snap.go:101 R1
  refine c_reg ?_
  refine s_y ((by first | exact Y_loadAll rfl many29 mm_ (by rfl) | exact Y_loadN rfl many29 mm_ ‹_› ‹_› | exact Y_loadNR rfl many29 hr rfl | exact Y_loadNR rfl many29 hr2 rfl | exact Y_loadNR rfl many29 ‹_› rfl)) rfl rfl ?_
  refine s_c (En_call (fun _ => rfl) Try.func8 rfl (by kernel_rfl) rfl) (fun w hH => pcheck_d (hw.has hH) hok) rfl rfl ?_
  rintro _ _ ⟨rfl, rfl⟩
  refine s_y (Y_as) rfl rfl ?_
  refine s_nil ?_
  refine q_then ?_
  refine c_seq ?_
  -- snap.go:101 R2
  refine c_reg ?_
  refine s_y (Y_mv) rfl rfl ?_
  refine s_y (Y_neq rfl rfl) rfl rfl ?_
  refine s_nil ?_
  refine q_then ?_
  first | refine c_cond' rfl (fun hc2 => ?_) (fun hc2 => ?_) | refine c_cond rfl (fun hc2 => ?_) (fun hc2 => ?_)
  · skip
    try simp only [nrm_] at hc2
    refine c_seq ?_
    -- snap.go:102 R3
    refine c_reg ?_
    refine s_y (Y_mv) rfl rfl ?_
    refine s_y (Y_asC) rfl rfl ?_
    refine s_y (Y_as) rfl rfl ?_
    refine s_nil ?_
    refine q_then ?_
    refine c_ret ?_
    refine q_retG2 rfl gt_ gt_ (L' := _) sl_ (.inl ⟨hc2, rfl, rfl⟩)
  · skip
    try simp only [nrm_] at hc2
    refine c_skip ?_
    refine q_then ?_
    refine c_seq ?_
    -- snap.go:104 R4
    obtain ⟨hl1, hl2, hl3⟩ := check_sizes hc2
    refine c_reg ?_
    refine s_y (Y_fa 0 rfl Try.underlying29 rfl sz2 rfl) rfl rfl ?_
    refine s_y ((by first | exact Y_load rfl one2 mm_ (by rfl) | exact Y_loadR rfl one2 hr rfl rfl | exact Y_loadR rfl one2 hr2 rfl rfl | exact Y_load rfl one2 mm_ (eget he rfl) | exact Y_load rfl one2 mm_ (iget hx rfl) | exact Y_load rfl one2 mm_ (by assumption) | exact Y_loadR rfl one2 (by assumption) rfl (by assumption))) rfl rfl ?_
    refine s_y (Y_convw rfl Try.underlying2 Try.underlying54) rfl rfl ?_
    refine s_c (En_call (fun _ => rfl) Try.func20 rfl (by kernel_rfl) rfl) (fun w hH => pnum_d (k := 8) (ys := []) .nil (by simp) (by simp) (by omega)) rfl rfl ?_
    rintro _ _ hB1
    obtain ⟨g1, cp1, rfl, rfl, hcp1⟩ := hB1.some_of (by rw [List.length_append, beM_len]; omega)
    refine s_y (Y_as) rfl rfl ?_
    refine s_nil ?_
    refine q_then ?_
    refine c_seq ?_
    -- snap.go:105 R5
    refine c_reg ?_
    refine s_y (Y_mv) rfl rfl ?_
    refine s_y (Y_fa 1 rfl Try.underlying29 rfl sz3 rfl) rfl rfl ?_
    refine s_y ((by first | exact Y_load rfl one3 mm_ (by rfl) | exact Y_loadR rfl one3 hr rfl rfl | exact Y_loadR rfl one3 hr2 rfl rfl | exact Y_load rfl one3 mm_ (eget he rfl) | exact Y_load rfl one3 mm_ (iget hx rfl) | exact Y_load rfl one3 mm_ (by assumption) | exact Y_loadR rfl one3 (by assumption) rfl (by assumption))) rfl rfl ?_
    refine s_y (Y_convw rfl Try.underlying3 Try.underlying54) rfl rfl ?_
    refine s_cm [cB g1 cp1 ([] ++ beM (IntKind.u64.wrap d.seed) 8)] (En_call (fun _ => rfl) Try.func20 rfl (by kernel_rfl) rfl) (by repeat (first | exact Sels.nil | apply Sels.cons (by repeat (first | exact Sel.head | apply Sel.tail)))) (fun w hH => pnum_d (k := 4) hB1 (by rw [List.length_append, beM_len]; simp) (by intro x hx; obtain rfl := List.mem_singleton.1 hx; exact hH.at' mm_) (by omega)) rfl rfl ?_
    rintro _ _ hB2
    obtain ⟨g2, cp2, rfl, rfl, hcp2⟩ := hB2.some_of (by rw [List.length_append, beM_len]; omega)
    refine s_y (Y_as) rfl rfl ?_
    refine s_nil ?_
    refine q_then ?_
    refine c_seq ?_
    -- snap.go:106 R6
    have hz1 : ([] ++ beM (IntKind.u64.wrap d.seed) 8 ++ beM (IntKind.u64.wrap d.frame) 4) ++ [d.floor, d.state].map byteM = encA d 0 := by simp [encA, headBytes, goldBytes]
    obtain ⟨z1, hz2⟩ : ∃ q_, [] ++ beM (IntKind.u64.wrap d.seed) 8 ++ beM (IntKind.u64.wrap d.frame) 4 = q_ := ⟨_, rfl⟩
    rw [hz2] at hcp2 hB2 hz1 ⊢
    have hzl : z1.length = 12 := by rw [← hz2]; simp [beM_len]
    refine c_reg ?_
    refine s_y (Y_mv) rfl rfl ?_
    refine s_y (Y_fa 2 rfl Try.underlying29 rfl sz3 rfl) rfl rfl ?_
    refine s_y ((by first | exact Y_load rfl one3 mm_ (by rfl) | exact Y_loadR rfl one3 hr rfl rfl | exact Y_loadR rfl one3 hr2 rfl rfl | exact Y_load rfl one3 mm_ (eget he rfl) | exact Y_load rfl one3 mm_ (iget hx rfl) | exact Y_load rfl one3 mm_ (by assumption) | exact Y_loadR rfl one3 (by assumption) rfl (by assumption))) rfl rfl ?_
    refine s_y (Y_fa 3 rfl Try.underlying29 rfl sz3 rfl) rfl rfl ?_
    refine s_y ((by first | exact Y_load rfl one3 mm_ (by rfl) | exact Y_loadR rfl one3 hr rfl rfl | exact Y_loadR rfl one3 hr2 rfl rfl | exact Y_load rfl one3 mm_ (eget he rfl) | exact Y_load rfl one3 mm_ (iget hx rfl) | exact Y_load rfl one3 mm_ (by assumption) | exact Y_loadR rfl one3 (by assumption) rfl (by assumption))) rfl rfl ?_
    refine s_n (N_bs (xs := [.tmp 28, .tmp 30]) (by repeat (first | exact Gv.nil | apply Gv.const | apply Gv.tmp gt_)) rfl Try.underlying22 inf3 rfl (by omega) (by omega) (by first | simp [Value.oneCell'] | (intro v hv; simp at hv; subst hv; rfl))) rfl rfl (fun b31 _ => ?_)
    refine s_cm [cB g2 cp2 z1] (En_call (fun _ => rfl) Try.func21 rfl (by kernel_rfl) rfl) (by repeat (first | exact Sels.nil | apply Sels.cons (by repeat (first | exact Sel.head | apply Sel.tail)))) (fun w hH => psmall_d (ys := z1) (ns := [d.floor, d.state]) hB2 (by omega) (by intro x hx; obtain rfl := List.mem_singleton.1 hx; exact hH.at' mm_) (slOf hH mm_ rfl) (by omega) (by simpa using hH.nodup2 (x := ⟨b31, 3, 1, 2, [d.floor, d.state].map iv⟩) (y := cB g2 cp2 z1) (by repeat (first | exact Sels.nil | apply Sels.cons (by repeat (first | exact Sel.head | apply Sel.tail)))))) rfl rfl ?_
    rintro _ _ hB3
    rw [hz1] at hB3
    obtain ⟨g3, cp3, rfl, rfl, hcp3⟩ := hB3.some_of (by rw [encA_len]; omega)
    refine s_y (Y_as) rfl rfl ?_
    refine s_nil ?_
    refine q_then ?_
    refine c_seq ?_
    refine c_seq ?_
    -- snap.go:107 R7
    refine c_reg ?_
    refine s_y (Y_fa 7 rfl Try.underlying29 rfl sz27 rfl) rfl rfl ?_
    refine s_y (Y_loadN (vs := [iv d.gold.a, iv d.gold.b, iv d.gold.c, iv d.gold.d]) rfl many27 mm_ (by rfl) gold_sub) rfl rfl ?_
    refine s_y (Y_mvC) rfl rfl ?_
    refine s_nil ?_
    refine q_then ?_
    refine c_block ?_
    refine c_loop [5, 7, 35, 36, 37, 38, 39, 40, 41, 42] (fun m (y : Nat × Nat × Nat) => y.1 + m = 4 ∧ (encA d y.1).length ≤ y.2.2) (fun y => [(35, iv y.1), (5, .slice (some ⟨y.2.1, 0, none⟩) (encA d y.1).length y.2.2)]) (fun y => [cB y.2.1 y.2.2 (encA d y.1), wB b1 (wv d s)]) (4) ((0, g3, cp3)) (⟨rfl, hcp3⟩) (by repeat (first | exact trivial | refine ⟨rfl, ?_⟩)) (fun w h => h.pick (L' := [cB g3 cp3 (encA d 0), wB b1 (wv d s)]) (by repeat (first | exact Sels.nil | apply Sels.cons (by repeat (first | exact Sel.head | apply Sel.tail))))) (fun _ => rfl) ?_
    rintro m ⟨k, g, cp⟩ j ⟨hk, hcp⟩ K hK
    simp only at hk hcp ⊢
    have hel := encA_len d k
    refine c_seq ?_
    -- snap.go:107 R8
    refine c_reg ?_
    refine s_y (Y_lss rfl rfl) rfl rfl ?_
    refine s_nil ?_
    refine q_then ?_
    refine c_seq ?_
    first | refine c_cond' rfl (fun hc8 => ?_) (fun hc8 => ?_) | refine c_cond rfl (fun hc8 => ?_) (fun hc8 => ?_)
    · skip
      try simp only [nrm_] at hc8
      refine c_skip ?_
      refine q_then ?_
      refine c_seq ?_
      refine c_block ?_
      refine c_seq ?_
      -- snap.go:107 R9
      refine c_reg ?_
      refine s_y (Y_idx (cs := [iv d.gold.a, iv d.gold.b, iv d.gold.c, iv d.gold.d]) (i := k) rfl rfl Try.underlying27 one3 sz3 rfl (by omega) (gold_idx (by omega))) rfl rfl ?_
      refine s_y (Y_as) rfl rfl ?_
      refine s_nil ?_
      refine q_then ?_
      -- snap.go:108 R10
      refine c_reg ?_
      refine s_y (Y_mv) rfl rfl ?_
      refine s_y (Y_mv) rfl rfl ?_
      refine s_y (Y_convw rfl Try.underlying3 Try.underlying54) rfl rfl ?_
      refine s_cm [cB g cp (encA d k)] (En_call (fun _ => rfl) Try.func20 rfl (by kernel_rfl) rfl) (by repeat (first | exact Sels.nil | apply Sels.cons (by repeat (first | exact Sel.head | apply Sel.tail)))) (fun w hH => pnum_d (k := 2) (ys := encA d k) (.some hcp (by rw [List.length_map, Nat.mul_one])) (by omega) (by intro x hx; obtain rfl := List.mem_singleton.1 hx; exact hH.at' mm_) (by omega)) rfl rfl ?_
      rintro _ _ hB4
      rw [← encA_succ] at hB4
      obtain ⟨g4, cp4, rfl, rfl, hcp4⟩ := hB4.some_of (by rw [encA_len]; omega)
      refine s_y (Y_as) rfl rfl ?_
      refine s_nil ?_
      refine q_bn ?_
      refine q_then ?_
      -- snap.go:107 R11
      refine c_reg ?_
      refine s_y ((by first | exact Y_add rfl rfl (by omega) | exact Y_addw rfl rfl)) rfl rfl ?_
      refine s_y (Y_mv) rfl rfl ?_
      refine s_nil ?_
      refine hK (m - 1) (k + 1, g4, cp4) _ _ (by omega) ⟨by simp only; omega, hcp4⟩ ⟨rfl, rfl, trivial⟩ rfl (fun _ h => h.pick (by repeat (first | exact Sels.nil | apply Sels.cons (by repeat (first | exact Sel.head | apply Sel.tail)))))
    · skip
      try simp only [nrm_] at hc8
      refine c_exit ?_
      repeat with_reducible refine q_te ?_
      refine q_exit ?_
      refine q_then ?_
      refine c_seq ?_
      -- snap.go:110 R12
      obtain rfl : k = 4 := by omega
      have hcl := hw.c.len
      refine c_reg ?_
      refine s_y (Y_mv) rfl rfl ?_
      refine s_y (Y_fa 4 rfl Try.underlying29 rfl sz25 rfl) rfl rfl ?_
      refine s_y ((by first | exact Y_load rfl one25 mm_ (by rfl) | exact Y_loadR rfl one25 hr rfl rfl | exact Y_loadR rfl one25 hr2 rfl rfl | exact Y_load rfl one25 mm_ (eget he rfl) | exact Y_load rfl one25 mm_ (iget hx rfl) | exact Y_load rfl one25 mm_ (by assumption) | exact Y_loadR rfl one25 (by assumption) rfl (by assumption))) rfl rfl ?_
      refine s_n (N_app (cs := (encA d 4).map bv) (news := d.cells.map bv) rfl rfl Try.underlying25 inf5 rfl (by omega) (by repeat (first | exact Sel.head | apply Sel.tail)) (by rw [List.length_map]; omega) (by omega) (srcR hw.c.ro) hcl (bvs_one _) (by omega) (by omega)) rfl rfl (fun ⟨g46, cp46⟩ hc46 => ?_)
      refine s_y (Y_as) rfl rfl ?_
      refine s_nil ?_
      have e1 : (encA d 4).length + d.cells.length = (encB d 0).length := by rw [encB_zero, List.length_append]
      rw [bsnoc, ← encB_zero, e1]
      rw [e1] at hc46
      refine q_then ?_
      refine c_seq ?_
      refine c_seq ?_
      -- snap.go:111 R13
      refine c_reg ?_
      refine s_y (Y_fa 5 rfl Try.underlying29 rfl sz26 rfl) rfl rfl ?_
      refine s_y ((by first | exact Y_load rfl one26 mm_ (by rfl) | exact Y_loadR rfl one26 hr rfl rfl | exact Y_loadR rfl one26 hr2 rfl rfl | exact Y_load rfl one26 mm_ (eget he rfl) | exact Y_load rfl one26 mm_ (iget hx rfl) | exact Y_load rfl one26 mm_ (by assumption) | exact Y_loadR rfl one26 (by assumption) rfl (by assumption))) rfl rfl ?_
      refine s_y (Y_len rfl rfl Try.underlying26) rfl rfl ?_
      refine s_y (Y_mvC) rfl rfl ?_
      refine s_nil ?_
      refine q_then ?_
      refine c_block ?_
      refine c_loop [5, 9, 50, 51, 52, 53, 54, 55, 56, 57, 58, 59, 60, 61, 62, 63, 64, 65, 66, 67, 68, 69, 70, 71, 72, 73, 74, 75, 76, 77, 78, 79] (fun m (y : Nat × Nat × Nat) => y.1 + m = d.ents.length ∧ (encB d y.1).length ≤ y.2.2) (fun y => [(50, iv y.1), (5, .slice (some ⟨y.2.1, 0, none⟩) (encB d y.1).length y.2.2)]) (fun y => [cB y.2.1 y.2.2 (encB d y.1), wB b1 (wv d s)]) (d.ents.length) ((0, g46, cp46)) (⟨by simp only; omega, hc46⟩) (by repeat (first | exact trivial | refine ⟨rfl, ?_⟩)) (fun _ h => h.sub sl_) (fun _ => rfl) ?_
      rintro m ⟨i, g, cp⟩ j ⟨hi, hcp⟩ K hK
      simp only at hi hcp ⊢
      have hel := encB_len d i (by omega)
      refine c_seq ?_
      -- snap.go:111 R14
      refine c_reg ?_
      refine s_y (Y_lss rfl rfl) rfl rfl ?_
      refine s_nil ?_
      refine q_then ?_
      refine c_seq ?_
      first | refine c_cond' rfl (fun hc14 => ?_) (fun hc14 => ?_) | refine c_cond rfl (fun hc14 => ?_) (fun hc14 => ?_)
      · skip
        try simp only [nrm_] at hc14
        refine c_skip ?_
        refine q_then ?_
        refine c_seq ?_
        refine c_block ?_
        refine c_seq ?_
        -- snap.go:111 R15
        obtain ⟨e, he⟩ := take_lt (show i < d.ents.length by omega)
        have hr := hw.e.at' Ent.len he
        have hcap := hw.e.cap
        refine c_reg ?_
        refine s_y (Y_ia rfl rfl Try.underlying26 sz48 rfl (by omega)) rfl rfl ?_
        refine s_y ((by first | exact Y_loadAll rfl many48 mm_ (by rfl) | exact Y_loadN rfl many48 mm_ ‹_› ‹_› | exact Y_loadNR rfl many48 hr rfl | exact Y_loadNR rfl many48 hr2 rfl | exact Y_loadNR rfl many48 ‹_› rfl)) rfl rfl ?_
        refine s_n (N_alloc (z := .agg #[.int .i64 0, .int .i64 0, .int .i64 0, .int .i64 0, .int .i64 0, .int .i64 0, .int .i64 0, .int .i64 0, .int .i64 0, .int .i64 0, .int .i64 0]) (cs := [.int .i64 0, .int .i64 0, .int .i64 0, .int .i64 0, .int .i64 0, .int .i64 0, .int .i64 0, .int .i64 0, .int .i64 0, .int .i64 0, .int .i64 0]) zv48 rfl) rfl rfl (fun b9 _ => ?_)
        refine s_s (S_storeA (vs := e.cells) rfl rfl sz48 (by rfl) (by rfl) (by repeat (first | exact Upd.head | apply Upd.tail)) (by rfl)) rfl ?_
        refine s_nil ?_
        refine q_then ?_
        -- snap.go:112 R16
        refine c_reg ?_
        refine s_y (Y_mv) rfl rfl ?_
        refine s_y (Y_fa 0 rfl Try.underlying48 rfl sz3 rfl) rfl rfl ?_
        refine s_y ((by first | exact Y_load rfl one3 mm_ (by rfl) | exact Y_loadR rfl one3 hr rfl rfl | exact Y_loadR rfl one3 hr2 rfl rfl | exact Y_load rfl one3 mm_ (eget he rfl) | exact Y_load rfl one3 mm_ (iget hx rfl) | exact Y_load rfl one3 mm_ (by assumption) | exact Y_loadR rfl one3 (by assumption) rfl (by assumption))) rfl rfl ?_
        refine s_y (Y_fa 1 rfl Try.underlying48 rfl sz3 rfl) rfl rfl ?_
        refine s_y ((by first | exact Y_load rfl one3 mm_ (by rfl) | exact Y_loadR rfl one3 hr rfl rfl | exact Y_loadR rfl one3 hr2 rfl rfl | exact Y_load rfl one3 mm_ (eget he rfl) | exact Y_load rfl one3 mm_ (iget hx rfl) | exact Y_load rfl one3 mm_ (by assumption) | exact Y_loadR rfl one3 (by assumption) rfl (by assumption))) rfl rfl ?_
        refine s_y (Y_fa 2 rfl Try.underlying48 rfl sz3 rfl) rfl rfl ?_
        refine s_y ((by first | exact Y_load rfl one3 mm_ (by rfl) | exact Y_loadR rfl one3 hr rfl rfl | exact Y_loadR rfl one3 hr2 rfl rfl | exact Y_load rfl one3 mm_ (eget he rfl) | exact Y_load rfl one3 mm_ (iget hx rfl) | exact Y_load rfl one3 mm_ (by assumption) | exact Y_loadR rfl one3 (by assumption) rfl (by assumption))) rfl rfl ?_
        refine s_y (Y_fa 3 rfl Try.underlying48 rfl sz3 rfl) rfl rfl ?_
        refine s_y ((by first | exact Y_load rfl one3 mm_ (by rfl) | exact Y_loadR rfl one3 hr rfl rfl | exact Y_loadR rfl one3 hr2 rfl rfl | exact Y_load rfl one3 mm_ (eget he rfl) | exact Y_load rfl one3 mm_ (iget hx rfl) | exact Y_load rfl one3 mm_ (by assumption) | exact Y_loadR rfl one3 (by assumption) rfl (by assumption))) rfl rfl ?_
        refine s_y (Y_fa 4 rfl Try.underlying48 rfl sz3 rfl) rfl rfl ?_
        refine s_y ((by first | exact Y_load rfl one3 mm_ (by rfl) | exact Y_loadR rfl one3 hr rfl rfl | exact Y_loadR rfl one3 hr2 rfl rfl | exact Y_load rfl one3 mm_ (eget he rfl) | exact Y_load rfl one3 mm_ (iget hx rfl) | exact Y_load rfl one3 mm_ (by assumption) | exact Y_loadR rfl one3 (by assumption) rfl (by assumption))) rfl rfl ?_
        refine s_y (Y_fa 5 rfl Try.underlying48 rfl sz3 rfl) rfl rfl ?_
        refine s_y ((by first | exact Y_load rfl one3 mm_ (by rfl) | exact Y_loadR rfl one3 hr rfl rfl | exact Y_loadR rfl one3 hr2 rfl rfl | exact Y_load rfl one3 mm_ (eget he rfl) | exact Y_load rfl one3 mm_ (iget hx rfl) | exact Y_load rfl one3 mm_ (by assumption) | exact Y_loadR rfl one3 (by assumption) rfl (by assumption))) rfl rfl ?_
        refine s_y (Y_fa 6 rfl Try.underlying48 rfl sz3 rfl) rfl rfl ?_
        refine s_y ((by first | exact Y_load rfl one3 mm_ (by rfl) | exact Y_loadR rfl one3 hr rfl rfl | exact Y_loadR rfl one3 hr2 rfl rfl | exact Y_load rfl one3 mm_ (eget he rfl) | exact Y_load rfl one3 mm_ (iget hx rfl) | exact Y_load rfl one3 mm_ (by assumption) | exact Y_loadR rfl one3 (by assumption) rfl (by assumption))) rfl rfl ?_
        refine s_y (Y_fa 7 rfl Try.underlying48 rfl sz3 rfl) rfl rfl ?_
        refine s_y ((by first | exact Y_load rfl one3 mm_ (by rfl) | exact Y_loadR rfl one3 hr rfl rfl | exact Y_loadR rfl one3 hr2 rfl rfl | exact Y_load rfl one3 mm_ (eget he rfl) | exact Y_load rfl one3 mm_ (iget hx rfl) | exact Y_load rfl one3 mm_ (by assumption) | exact Y_loadR rfl one3 (by assumption) rfl (by assumption))) rfl rfl ?_
        refine s_y (Y_fa 8 rfl Try.underlying48 rfl sz3 rfl) rfl rfl ?_
        refine s_y ((by first | exact Y_load rfl one3 mm_ (by rfl) | exact Y_loadR rfl one3 hr rfl rfl | exact Y_loadR rfl one3 hr2 rfl rfl | exact Y_load rfl one3 mm_ (eget he rfl) | exact Y_load rfl one3 mm_ (iget hx rfl) | exact Y_load rfl one3 mm_ (by assumption) | exact Y_loadR rfl one3 (by assumption) rfl (by assumption))) rfl rfl ?_
        refine s_y (Y_fa 9 rfl Try.underlying48 rfl sz3 rfl) rfl rfl ?_
        refine s_y ((by first | exact Y_load rfl one3 mm_ (by rfl) | exact Y_loadR rfl one3 hr rfl rfl | exact Y_loadR rfl one3 hr2 rfl rfl | exact Y_load rfl one3 mm_ (eget he rfl) | exact Y_load rfl one3 mm_ (iget hx rfl) | exact Y_load rfl one3 mm_ (by assumption) | exact Y_loadR rfl one3 (by assumption) rfl (by assumption))) rfl rfl ?_
        refine s_y (Y_fa 10 rfl Try.underlying48 rfl sz3 rfl) rfl rfl ?_
        refine s_y ((by first | exact Y_load rfl one3 mm_ (by rfl) | exact Y_loadR rfl one3 hr rfl rfl | exact Y_loadR rfl one3 hr2 rfl rfl | exact Y_load rfl one3 mm_ (eget he rfl) | exact Y_load rfl one3 mm_ (iget hx rfl) | exact Y_load rfl one3 mm_ (by assumption) | exact Y_loadR rfl one3 (by assumption) rfl (by assumption))) rfl rfl ?_
        refine s_n (N_bs (xs := [.tmp 56, .tmp 58, .tmp 60, .tmp 62, .tmp 64, .tmp 66, .tmp 68, .tmp 70, .tmp 72, .tmp 74, .tmp 76]) (by repeat (first | exact Gv.nil | apply Gv.const | apply Gv.tmp gt_)) rfl Try.underlying22 inf3 rfl (by omega) (by omega) (by first | simp [Value.oneCell'] | (intro v hv; simp at hv; subst hv; rfl))) rfl rfl (fun b77 _ => ?_)
        refine s_cm [cB g cp (encB d i)] (En_call (fun _ => rfl) Try.func21 rfl (by kernel_rfl) rfl) (by repeat (first | exact Sels.nil | apply Sels.cons (by repeat (first | exact Sel.head | apply Sel.tail)))) (fun w hH => psmall_d (ys := encB d i) (ns := [e.kind, e.gen, e.seat, e.x, e.y, e.hp, e.max, e.atk, e.df, e.poison, e.stun]) (.some hcp (by rw [List.length_map, Nat.mul_one])) (by omega) (by intro x hx; obtain rfl := List.mem_singleton.1 hx; exact hH.at' mm_) (slOf hH mm_ rfl) (by omega) (by simpa using hH.nodup2 (x := ⟨b77, 3, 1, 11, e.cells⟩) (y := cB g cp (encB d i)) (by repeat (first | exact Sels.nil | apply Sels.cons (by repeat (first | exact Sel.head | apply Sel.tail)))))) rfl rfl ?_
        rintro _ _ hB5
        rw [show encB d i ++ [e.kind, e.gen, e.seat, e.x, e.y, e.hp, e.max, e.atk, e.df, e.poison, e.stun].map byteM = encB d (i + 1) from by rw [encB_succ he]; rfl] at hB5
        obtain ⟨g5, cp5, rfl, rfl, hcp5⟩ := hB5.some_of (by rw [encB_len _ _ (by omega)]; omega)
        refine s_y (Y_as) rfl rfl ?_
        refine s_nil ?_
        refine q_bn ?_
        refine q_then ?_
        -- snap.go:111 R17
        refine c_reg ?_
        refine s_y ((by first | exact Y_add rfl rfl (by omega) | exact Y_addw rfl rfl)) rfl rfl ?_
        refine s_y (Y_mv) rfl rfl ?_
        refine s_nil ?_
        refine hK (m - 1) (i + 1, g5, cp5) _ _ (by omega) ⟨by simp only; omega, hcp5⟩ ⟨rfl, rfl, trivial⟩ rfl (fun _ h => h.pick (by repeat (first | exact Sels.nil | apply Sels.cons (by repeat (first | exact Sel.head | apply Sel.tail)))))
      · skip
        try simp only [nrm_] at hc14
        refine c_exit ?_
        repeat with_reducible refine q_te ?_
        refine q_exit ?_
        refine q_then ?_
        refine c_seq ?_
        refine c_seq ?_
        -- snap.go:114 R18
        obtain rfl : i = d.ents.length := by omega
        rw [← encC_zero] at hcp ⊢
        refine c_reg ?_
        refine s_y (Y_fa 6 rfl Try.underlying29 rfl sz23 rfl) rfl rfl ?_
        refine s_y ((by first | exact Y_load rfl one23 mm_ (by rfl) | exact Y_loadR rfl one23 hr rfl rfl | exact Y_loadR rfl one23 hr2 rfl rfl | exact Y_load rfl one23 mm_ (eget he rfl) | exact Y_load rfl one23 mm_ (iget hx rfl) | exact Y_load rfl one23 mm_ (by assumption) | exact Y_loadR rfl one23 (by assumption) rfl (by assumption))) rfl rfl ?_
        refine s_y (Y_len rfl rfl Try.underlying23) rfl rfl ?_
        refine s_y (Y_mvC) rfl rfl ?_
        refine s_nil ?_
        refine q_then ?_
        refine c_block ?_
        refine c_loop [5, 11, 83, 84, 85, 86, 87, 88, 89, 90, 91, 92, 93, 94, 95, 96, 97, 98] (fun m (y : Nat × Nat × Nat) => y.1 + m = d.items.length ∧ (encC d y.1).length ≤ y.2.2) (fun y => [(83, iv y.1), (5, .slice (some ⟨y.2.1, 0, none⟩) (encC d y.1).length y.2.2)]) (fun y => [cB y.2.1 y.2.2 (encC d y.1), wB b1 (wv d s)]) (d.items.length) ((0, g, cp)) (⟨by simp only; omega, hcp⟩) (by repeat (first | exact trivial | refine ⟨rfl, ?_⟩)) (fun _ h => h.sub sl_) (fun _ => rfl) ?_
        rintro m2 ⟨i2, g2, cp2⟩ j2 ⟨hi2, hcp2⟩ K hK
        simp only at hi2 hcp2 ⊢
        have hel2 := encC_len d i2 (by omega)
        refine c_seq ?_
        -- snap.go:114 R19
        refine c_reg ?_
        refine s_y (Y_lss rfl rfl) rfl rfl ?_
        refine s_nil ?_
        refine q_then ?_
        refine c_seq ?_
        first | refine c_cond' rfl (fun hc19 => ?_) (fun hc19 => ?_) | refine c_cond rfl (fun hc19 => ?_) (fun hc19 => ?_)
        · skip
          try simp only [nrm_] at hc19
          refine c_skip ?_
          refine q_then ?_
          refine c_seq ?_
          refine c_block ?_
          refine c_seq ?_
          -- snap.go:114 R20
          obtain ⟨x, hx⟩ := take_lt (show i2 < d.items.length by omega)
          have hr := hw.i.at' Itm.len hx
          have hcap := hw.i.cap
          refine c_reg ?_
          refine s_y (Y_ia rfl rfl Try.underlying23 sz57 rfl (by omega)) rfl rfl ?_
          refine s_y ((by first | exact Y_loadAll rfl many57 mm_ (by rfl) | exact Y_loadN rfl many57 mm_ ‹_› ‹_› | exact Y_loadNR rfl many57 hr rfl | exact Y_loadNR rfl many57 hr2 rfl | exact Y_loadNR rfl many57 ‹_› rfl)) rfl rfl ?_
          refine s_n (N_alloc (z := .agg #[.int .i64 0, .int .i64 0, .int .i64 0, .int .i64 0]) (cs := [.int .i64 0, .int .i64 0, .int .i64 0, .int .i64 0]) zv57 rfl) rfl rfl (fun b11 _ => ?_)
          refine s_s (S_storeA (vs := x.cells) rfl rfl sz57 (by rfl) (by rfl) (by repeat (first | exact Upd.head | apply Upd.tail)) (by rfl)) rfl ?_
          refine s_nil ?_
          refine q_then ?_
          -- snap.go:115 R21
          refine c_reg ?_
          refine s_y (Y_mv) rfl rfl ?_
          refine s_y (Y_fa 0 rfl Try.underlying57 rfl sz3 rfl) rfl rfl ?_
          refine s_y ((by first | exact Y_load rfl one3 mm_ (by rfl) | exact Y_loadR rfl one3 hr rfl rfl | exact Y_loadR rfl one3 hr2 rfl rfl | exact Y_load rfl one3 mm_ (eget he rfl) | exact Y_load rfl one3 mm_ (iget hx rfl) | exact Y_load rfl one3 mm_ (by assumption) | exact Y_loadR rfl one3 (by assumption) rfl (by assumption))) rfl rfl ?_
          refine s_y (Y_fa 1 rfl Try.underlying57 rfl sz3 rfl) rfl rfl ?_
          refine s_y ((by first | exact Y_load rfl one3 mm_ (by rfl) | exact Y_loadR rfl one3 hr rfl rfl | exact Y_loadR rfl one3 hr2 rfl rfl | exact Y_load rfl one3 mm_ (eget he rfl) | exact Y_load rfl one3 mm_ (iget hx rfl) | exact Y_load rfl one3 mm_ (by assumption) | exact Y_loadR rfl one3 (by assumption) rfl (by assumption))) rfl rfl ?_
          refine s_y (Y_fa 2 rfl Try.underlying57 rfl sz3 rfl) rfl rfl ?_
          refine s_y ((by first | exact Y_load rfl one3 mm_ (by rfl) | exact Y_loadR rfl one3 hr rfl rfl | exact Y_loadR rfl one3 hr2 rfl rfl | exact Y_load rfl one3 mm_ (eget he rfl) | exact Y_load rfl one3 mm_ (iget hx rfl) | exact Y_load rfl one3 mm_ (by assumption) | exact Y_loadR rfl one3 (by assumption) rfl (by assumption))) rfl rfl ?_
          refine s_y (Y_fa 3 rfl Try.underlying57 rfl sz3 rfl) rfl rfl ?_
          refine s_y ((by first | exact Y_load rfl one3 mm_ (by rfl) | exact Y_loadR rfl one3 hr rfl rfl | exact Y_loadR rfl one3 hr2 rfl rfl | exact Y_load rfl one3 mm_ (eget he rfl) | exact Y_load rfl one3 mm_ (iget hx rfl) | exact Y_load rfl one3 mm_ (by assumption) | exact Y_loadR rfl one3 (by assumption) rfl (by assumption))) rfl rfl ?_
          refine s_n (N_bs (xs := [.tmp 89, .tmp 91, .tmp 93, .tmp 95]) (by repeat (first | exact Gv.nil | apply Gv.const | apply Gv.tmp gt_)) rfl Try.underlying22 inf3 rfl (by omega) (by omega) (by first | simp [Value.oneCell'] | (intro v hv; simp at hv; subst hv; rfl))) rfl rfl (fun b96 _ => ?_)
          refine s_cm [cB g2 cp2 (encC d i2)] (En_call (fun _ => rfl) Try.func21 rfl (by kernel_rfl) rfl) (by repeat (first | exact Sels.nil | apply Sels.cons (by repeat (first | exact Sel.head | apply Sel.tail)))) (fun w hH => psmall_d (ys := encC d i2) (ns := [x.kind, x.whr, x.a, x.b]) (.some hcp2 (by rw [List.length_map, Nat.mul_one])) (by omega) (by intro x hx; obtain rfl := List.mem_singleton.1 hx; exact hH.at' mm_) (slOf hH mm_ rfl) (by omega) (by simpa using hH.nodup2 (x := ⟨b96, 3, 1, 4, x.cells⟩) (y := cB g2 cp2 (encC d i2)) (by repeat (first | exact Sels.nil | apply Sels.cons (by repeat (first | exact Sel.head | apply Sel.tail)))))) rfl rfl ?_
          rintro _ _ hB6
          rw [show encC d i2 ++ [x.kind, x.whr, x.a, x.b].map byteM = encC d (i2 + 1) from by rw [encC_succ hx]; rfl] at hB6
          obtain ⟨g6, cp6, rfl, rfl, hcp6⟩ := hB6.some_of (by rw [encC_len _ _ (by omega)]; omega)
          refine s_y (Y_as) rfl rfl ?_
          refine s_nil ?_
          refine q_bn ?_
          refine q_then ?_
          -- snap.go:114 R22
          refine c_reg ?_
          refine s_y ((by first | exact Y_add rfl rfl (by omega) | exact Y_addw rfl rfl)) rfl rfl ?_
          refine s_y (Y_mv) rfl rfl ?_
          refine s_nil ?_
          refine hK (m2 - 1) (i2 + 1, g6, cp6) _ _ (by omega) ⟨by simp only; omega, hcp6⟩ ⟨rfl, rfl, trivial⟩ rfl (fun _ h => h.pick (by repeat (first | exact Sels.nil | apply Sels.cons (by repeat (first | exact Sel.head | apply Sel.tail)))))
        · skip
          try simp only [nrm_] at hc19
          refine c_exit ?_
          repeat with_reducible refine q_te ?_
          refine q_exit ?_
          refine q_then ?_
          refine c_seq ?_
          -- snap.go:117 R23
          obtain rfl : i2 = d.items.length := by omega
          rw [encC_all] at hcp2 ⊢
          refine c_reg ?_
          refine s_y (Y_mv) rfl rfl ?_
          refine s_y (Y_as) rfl rfl ?_
          refine s_y (Y_asC) rfl rfl ?_
          refine s_nil ?_
          refine q_then ?_
          refine c_ret ?_
          refine q_retG2 rfl gt_ gt_ (L' := _) sl_ (.inr ⟨hc2, g2, cp2, rfl, rfl, hcp2⟩)
end
end Go.Proofs.Ytecodneffflpoaa
