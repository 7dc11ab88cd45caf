/- Crowds, walked. -/
import Derived.Test.YtecodneffflpoaaE13
namespace Go.Ad
theorem stats_max {k : Int} (h : 1 ≤ k ∧ k ≤ 4) : 1 ≤ (statsM k).max ∧ (statsM k).max ≤ 20 := by
  rcases (show k = 1 ∨ k = 2 ∨ k = 3 ∨ k = 4 by omega) with rfl | rfl | rfl | rfl <;> decide
end Go.Ad
namespace Go.Proofs.Ytecodneffflpoaa
open Go.RowKit Go.Ad Go.Maps
set_option linter.unusedVariables false
set_option linter.unusedSimpArgs false
section
variable {W : World}
set_option maxRecDepth 100000 in
set_option maxHeartbeats 6400000 in
theorem lcrowd_d {seed floor frame : Int} {kv lv : Value} {nk n : Nat} {ks : List Int} {l : List Itm} (hk : SlV W 1 kv nk (ks.map iv)) (hl : SlV W 4 lv n (icells l)) : Does Try.prog 5 [iv seed, iv floor, kv, lv, iv frame] W [] SomeW := by
  obtain rfl : nk = ks.length := by have := hk.len; simpa using this.symm
  have hkl := hk.le
  simp only [maxLen] at hkl
  refine enter Try.func5 rfl rfl rfl (Has.start _) ?_
  refine c_seq ?_
  refine c_reg ?_
  refine s_n (N_alloc (z := .agg #[.int .i64 0, .int .i64 0, .int .i64 0, .int .i64 0, .slice none 0 0, .slice none 0 0, .slice none 0 0, .int .i64 0, .int .i64 0, .int .i64 0, .int .i64 0]) (cs := [.int .i64 0, .int .i64 0, .int .i64 0, .int .i64 0, .slice none 0 0, .slice none 0 0, .slice none 0 0, .int .i64 0, .int .i64 0, .int .i64 0, .int .i64 0]) zv29 rfl) rfl rfl (fun b10 _ => ?_)
  refine s_nil ?_
  refine q_then ?_
  refine c_seq ?_
  refine c_reg ?_
  refine s_y (Y_mv) rfl rfl ?_
  refine s_y (Y_mv) rfl rfl ?_
  refine s_y (Y_mv) rfl rfl ?_
  refine s_c (En_call (fun _ => rfl) Try.func13 rfl (by kernel_rfl) rfl) (fun w hH => lworld_d (hl.has hH)) rfl rfl ?_
  rintro _ _ ⟨⟨sd, fr0, flo, sta, cs, es0, its, g⟩, hok, hcl, hel0, hil, cb, cc, eb0, ec0, ib, ic, rfl, rfl, hcc, hec0, hic⟩
  simp only at hok hcl hel0 hil hcc hec0 hic
  have hwv : Value.agg (wv ⟨sd, fr0, flo, sta, cs, es0, its, g⟩ ⟨cb, 0, cc, eb0, 0, ec0, ib, 0, ic⟩).toArray = .agg (wcD sd fr0 flo sta (.slice (some ⟨cb, 0, none⟩) 384 cc) (.slice (some ⟨eb0, 0, none⟩) 32 ec0) (.slice (some ⟨ib, 0, none⟩) 40 ic) g).toArray := (wv_eq hcl hel0 hil rfl).symm
  rw [hwv]
  refine QL.pick (L' := [cB cb cc cs, eB eb0 ec0 es0, iB ib ic its, wB b10 wz]) (by repeat (first | exact Sels.nil | apply Sels.cons (by repeat (first | exact Sel.head | apply Sel.tail)))) ?_
  refine s_n (N_alloc (z := .agg #[.int .i64 0, .int .i64 0, .int .i64 0, .int .i64 0, .slice none 0 0, .slice none 0 0, .slice none 0 0, .int .i64 0, .int .i64 0, .int .i64 0, .int .i64 0]) (cs := [.int .i64 0, .int .i64 0, .int .i64 0, .int .i64 0, .slice none 0 0, .slice none 0 0, .slice none 0 0, .int .i64 0, .int .i64 0, .int .i64 0, .int .i64 0]) zv29 rfl) rfl rfl (fun b11 _ => ?_)
  refine s_s (S_storeA (vs := wcD sd fr0 flo sta (.slice (some ⟨cb, 0, none⟩) 384 cc) (.slice (some ⟨eb0, 0, none⟩) 32 ec0) (.slice (some ⟨ib, 0, none⟩) 40 ic) g) rfl rfl sz29 (by rfl) (by rfl) (by repeat (first | exact Upd.head | apply Upd.tail)) (by rfl)) rfl ?_
  refine s_nil ?_
  refine q_then ?_
  refine c_seq ?_
  refine c_reg ?_
  refine s_y (Y_mv) rfl rfl ?_
  refine s_c (En_call (fun _ => rfl) Try.func14 rfl (by kernel_rfl) rfl) (fun w hH => l8within_d (by decide)) rfl rfl ?_
  rintro _ _ ⟨rfl, rfl⟩
  obtain ⟨fr, hfr⟩ : ∃ x : Int, frame % 1048576 = x := ⟨_, rfl⟩
  rw [hfr]
  refine s_y (Y_fa 1 rfl Try.underlying29 rfl sz3 rfl) rfl rfl ?_
  refine s_s (S_st (cs' := wcD sd fr flo sta (.slice (some ⟨cb, 0, none⟩) 384 cc) (.slice (some ⟨eb0, 0, none⟩) 32 ec0) (.slice (some ⟨ib, 0, none⟩) 40 ic) g) rfl gt_ sz3 (by rfl) (by repeat (first | exact Upd.head | apply Upd.tail)) (by rfl) (by simp only [List.length_cons, List.length_nil]; omega)) rfl ?_
  refine s_nil ?_
  refine q_then ?_
  refine c_seq ?_
  refine c_reg ?_
  refine s_y (Y_asC) rfl rfl ?_
  refine s_nil ?_
  refine q_then ?_
  refine c_seq ?_
  refine c_seq ?_
  refine c_reg ?_
  refine s_y (Y_asC) rfl rfl ?_
  refine s_nil ?_
  refine q_then ?_
  refine c_block ?_
  refine c_loop [12, 13, 14, 15, 16, 17, 25, 26, 27, 28, 29, 30, 31, 32, 33, 34, 35, 36, 37, 38, 39, 40, 41, 42, 43, 44, 45, 46, 47, 48, 49, 50, 51, 52, 53, 54, 55, 56, 57, 58, 59, 60, 61, 62, 63, 64, 65, 66, 67, 68, 69, 70, 71, 72, 73, 74, 75, 76, 77, 78, 79, 80, 81, 82, 83, 84, 85, 86, 87, 88, 89, 90, 91, 92, 93, 94, 95, 96, 97, 98, 99, 100, 101, 102, 103, 104, 105, 106, 107, 108, 109, 110, 111, 112, 113, 114, 115, 116, 117, 118, 119, 120, 121, 122, 123, 124, 125, 126, 127, 128, 129, 130, 131, 132, 133, 134, 135] (fun m (y : Nat × Nat × List Ent × Nat × Nat) => y.1 + m = min ks.length 12 ∧ y.2.1 ≤ 400 ∧ y.2.2.1.length = 32 ∧ 32 ≤ y.2.2.2.2) (fun y => [(13, iv y.1), (12, iv y.2.1)]) (fun y => [wB b11 (wcD sd fr flo sta (.slice (some ⟨cb, 0, none⟩) 384 cc) (.slice (some ⟨y.2.2.2.1, 0, none⟩) 32 y.2.2.2.2) (.slice (some ⟨ib, 0, none⟩) 40 ic) g), cB cb cc cs, eB y.2.2.2.1 y.2.2.2.2 y.2.2.1, iB ib ic its, wB b10 wz]) (min ks.length 12) ((0, 0, es0, eb0, ec0)) (⟨by simp only; omega, by simp only; omega, hel0, by simp only; omega⟩) (by repeat (first | exact trivial | refine ⟨rfl, ?_⟩)) (fun w h => h.pick (L' := [wB b11 (wcD sd fr flo sta (.slice (some ⟨cb, 0, none⟩) 384 cc) (.slice (some ⟨eb0, 0, none⟩) 32 ec0) (.slice (some ⟨ib, 0, none⟩) 40 ic) g), cB cb cc cs, eB eb0 ec0 es0, iB ib ic its, wB b10 wz]) (by repeat (first | exact Sels.nil | apply Sels.cons (by repeat (first | exact Sel.head | apply Sel.tail))))) (fun _ => rfl) ?_
  rintro m ⟨i, a, es, eb, ec⟩ j5 ⟨hi, ha, hel, hec⟩ K hK
  simp only at hi ha hel hec ⊢
  refine c_seq ?_
  refine c_seq ?_
  refine c_reg ?_
  refine s_y (Y_mv) rfl rfl ?_
  refine s_y (Y_mv) rfl rfl ?_
  refine s_y (Y_lenV hk rfl rfl Try.underlying22) rfl rfl ?_
  refine s_y (Y_lss rfl rfl) rfl rfl ?_
  refine s_y (Y_mv) rfl rfl ?_
  apply s_and 3 [29, 30, 31, 32] 32 (g := 29) rfl rfl
  · intro ht5 hm
    try simp only [nrm_] at ht5
    first | refine s_y (Y_mv) rfl rfl ?_ | refine s_pass rfl rfl ?_
    first | refine s_y (Y_lss rfl rfl) rfl rfl ?_ | refine s_pass rfl rfl ?_
    refine s_y (Y_pk rfl (Gx.tmp gt_) Gx.const) rfl rfl ?_
    first | exact hm _ ⟨rfl, trivial⟩ rfl | exact QL.sub sl_ (hm _ ⟨rfl, trivial⟩ rfl)
  · intro ht5 hm
    iterate 2 refine s_pass rfl rfl ?_
    refine s_y (Y_pk rfl (Gx.tmp gt_) Gx.const) rfl rfl ?_
    exact hm _ ⟨rfl, trivial⟩ rfl
  intro j32
  refine s_nil ?_
  refine q_then ?_
  first | refine c_cond' rfl (fun hc5 => ?_) (fun hc5 => ?_) | refine c_cond rfl (fun hc5 => ?_) (fun hc5 => ?_)
  · skip
    try simp only [nrm_] at hc5
    refine c_skip ?_
    refine q_then ?_
    refine c_seq ?_
    refine c_block ?_
    refine c_seq ?_
    refine c_block ?_
    refine c_loop [12, 35, 36, 37, 38, 39, 40, 41, 42, 43, 44, 45, 46, 47, 48, 49, 50, 51, 52, 53, 54, 55, 56, 57, 58] (fun m2 k => k ≤ 400 ∧ k + m2 = 400) (fun k => [(12, iv k)]) (fun _ => [wB b11 (wcD sd fr flo sta (.slice (some ⟨cb, 0, none⟩) 384 cc) (.slice (some ⟨eb, 0, none⟩) 32 ec) (.slice (some ⟨ib, 0, none⟩) 40 ic) g), cB cb cc cs, eB eb ec es, iB ib ic its, wB b10 wz]) (400 - a) (a) (⟨by omega, by omega⟩) (by repeat (first | exact trivial | refine ⟨rfl, ?_⟩)) (fun _ h => h.sub sl_) (fun _ => rfl) ?_
    rintro m2 k j7 ⟨hk4, hkm⟩ K2 hK2
    have hbr := byteAt_rng cs k
    refine c_seq ?_
    refine c_seq ?_
    refine c_reg ?_
    refine s_y (Y_mv) rfl rfl ?_
    refine s_y (Y_lss rfl rfl) rfl rfl ?_
    refine s_y (Y_mv) rfl rfl ?_
    apply s_and 19 [37, 38, 39, 40, 41, 42, 43, 44, 45, 46, 47, 48, 49, 50, 51, 52, 53, 54, 55, 56] 56 (g := 37) rfl rfl
    · intro ht3 hm
      try simp only [nrm_] at ht3
      first | refine s_y (Y_fa 4 rfl Try.underlying29 rfl sz25 rfl) rfl rfl ?_ | refine s_pass rfl rfl ?_
      first | refine s_y ((by first | exact Y_load rfl one25 mm_ (by rfl) | exact Y_loadR rfl one25 hr rfl rfl | exact Y_loadR rfl one25 hr2 rfl rfl | exact Y_load rfl one25 mm_ (eget he rfl) | exact Y_load rfl one25 mm_ (iget hx rfl) | exact Y_load rfl one25 mm_ (by assumption) | exact Y_loadR rfl one25 (by assumption) rfl (by assumption))) rfl rfl ?_ | refine s_pass rfl rfl ?_
      first | refine s_y (Y_mv) rfl rfl ?_ | refine s_pass rfl rfl ?_
      first | refine s_y (Y_ia1 rfl rfl Try.underlying25 sz5 rfl (by omega)) rfl rfl ?_ | refine s_pass rfl rfl ?_
      first | refine s_y (Y_load (v := .int .u8 (byteAt cs k)) rfl one5 mm_ (by rw [Nat.zero_add]; exact byte_get (cells := cs) (by omega))) rfl rfl ?_ | refine s_pass rfl rfl ?_
      first | refine s_y (Y_conv rfl Try.underlying5 Try.underlying3 (i64_id (by omega))) rfl rfl ?_ | refine s_pass rfl rfl ?_
      refine s_c (En_call (fun _ => rfl) Try.func15 rfl (by kernel_rfl) rfl) (fun w hH => rwalk_d) rfl rfl ?_
      rintro _ _ ⟨rfl, rfl⟩
      first | refine s_y (Y_not rfl) rfl rfl ?_ | refine s_pass rfl rfl ?_
      first | refine s_y (Y_mv) rfl rfl ?_ | refine s_pass rfl rfl ?_
      apply s_or 9 [46, 47, 48, 49, 50, 51, 52, 53, 54, 55] 55 (g := 46) rfl rfl
      · intro ht12 hm
        try simp only [nrm_] at ht12
        first | refine s_y (Y_fa 5 rfl Try.underlying29 rfl sz26 rfl) rfl rfl ?_ | refine s_pass rfl rfl ?_
        first | refine s_y ((by first | exact Y_load rfl one26 mm_ (by rfl) | exact Y_loadR rfl one26 hr rfl rfl | exact Y_loadR rfl one26 hr2 rfl rfl | exact Y_load rfl one26 mm_ (eget he rfl) | exact Y_load rfl one26 mm_ (iget hx rfl) | exact Y_load rfl one26 mm_ (by assumption) | exact Y_loadR rfl one26 (by assumption) rfl (by assumption))) rfl rfl ?_ | refine s_pass rfl rfl ?_
        first | refine s_y (Y_mv) rfl rfl ?_ | refine s_pass rfl rfl ?_
        first | refine s_y ((by first | exact Y_rem rfl rfl (by omega) | exact Y_remw rfl rfl (by omega))) rfl rfl ?_ | refine s_pass rfl rfl ?_
        first | refine s_y (Y_mv) rfl rfl ?_ | refine s_pass rfl rfl ?_
        first | refine s_y ((by first | exact Y_quo rfl rfl (by omega) | exact Y_quow rfl rfl (by omega))) rfl rfl ?_ | refine s_pass rfl rfl ?_
        refine s_c (En_call (fun _ => rfl) Try.func16 rfl (by kernel_rfl) rfl) (fun w hH => reat_d ((hH.at' (x := eB eb ec es) mm_).sl (by rw [ecells_len]; omega) hec)) rfl rfl ?_
        rintro _ _ ⟨rfl, rfl⟩
        first | refine s_y (Y_geq rfl rfl) rfl rfl ?_ | refine s_pass rfl rfl ?_
        first | refine s_y (Y_pk rfl Gx.const (Gx.tmp gt_)) rfl rfl ?_ | refine s_pass rfl rfl ?_
        first | exact hm _ ⟨rfl, trivial⟩ rfl | exact QL.sub sl_ (hm _ ⟨rfl, trivial⟩ rfl)
      · intro ht12 hm
        iterate 8 refine s_pass rfl rfl ?_
        first | refine s_y (Y_pk rfl Gx.const (Gx.tmp gt_)) rfl rfl ?_ | refine s_pass rfl rfl ?_
        exact hm _ ⟨rfl, trivial⟩ rfl
      intro j55
      refine s_y (Y_pk rfl (Gx.tmp gt_) Gx.const) rfl rfl ?_
      first | exact hm _ ⟨rfl, trivial⟩ rfl | exact QL.sub sl_ (hm _ ⟨rfl, trivial⟩ rfl)
    · intro ht3 hm
      iterate 18 refine s_pass rfl rfl ?_
      refine s_y (Y_pk rfl (Gx.tmp gt_) Gx.const) rfl rfl ?_
      exact hm _ ⟨rfl, trivial⟩ rfl
    intro j56
    refine s_nil ?_
    refine q_then ?_
    first | refine c_cond' rfl (fun hc7 => ?_) (fun hc7 => ?_) | refine c_cond rfl (fun hc7 => ?_) (fun hc7 => ?_)
    · skip
      try simp only [nrm_] at hc7
      refine c_skip ?_
      refine q_then ?_
      refine c_block ?_
      refine c_reg ?_
      refine s_y (Y_mv) rfl rfl ?_
      refine s_y ((by first | exact Y_add rfl rfl (by omega) | exact Y_addw rfl rfl)) rfl rfl ?_
      refine s_y (Y_as) rfl rfl ?_
      refine s_nil ?_
      refine q_bn ?_
      refine hK2 (m2 - 1) (k + 1) _ _ (by omega) ⟨by omega, by omega⟩ ⟨rfl, trivial⟩ rfl (fun _ h => h)
    · skip
      try simp only [nrm_] at hc7
      refine c_exit ?_
      repeat with_reducible refine q_te ?_
      refine q_exit ?_
      refine q_then ?_
      refine c_seq ?_
      refine c_seq ?_
      refine c_reg ?_
      refine s_y (Y_mv) rfl rfl ?_
      refine s_y (Y_geq rfl rfl) rfl rfl ?_
      refine s_nil ?_
      refine q_then ?_
      first | refine c_cond' rfl (fun hc9 => ?_) (fun hc9 => ?_) | refine c_cond rfl (fun hc9 => ?_) (fun hc9 => ?_)
      · skip
        try simp only [nrm_] at hc9
        refine c_exit ?_
        repeat with_reducible refine q_te ?_
        refine q_past rfl ?_
        repeat with_reducible refine q_te ?_
        refine q_exit ?_
        refine q_then ?_
        refine c_seq ?_
        refine c_reg ?_
        refine s_y ((by first | exact Y_loadAll rfl many29 mm_ (by rfl) | exact Y_loadN rfl many29 mm_ ‹_› ‹_› | exact Y_loadNR rfl many29 hr rfl | exact Y_loadNR rfl many29 hr2 rfl | exact Y_loadNR rfl many29 ‹_› rfl)) rfl rfl ?_
        refine s_s ((by first | exact S_storeA rfl rfl sz29 (by first | rfl | assumption) (by first | rfl | assumption) (by repeat (first | exact Upd.head | apply Upd.tail)) (by first | rfl | assumption) | exact S_storeN rfl rfl sz29 (by rfl) (by first | rfl | assumption) (by repeat (first | exact Upd.head | apply Upd.tail)) (by simp only [setAll, List.set_cons_zero, List.set_cons_succ, Nat.zero_add, Nat.reduceAdd]; rfl) (by first | rfl | assumption))) rfl ?_
        refine s_nil ?_
        refine q_then ?_
        refine c_ret ?_
        refine QL.pick (L' := [wB b10 (wcD sd fr flo sta (.slice (some ⟨cb, 0, none⟩) 384 cc) (.slice (some ⟨eb, 0, none⟩) 32 ec) (.slice (some ⟨ib, 0, none⟩) 40 ic) g), cB cb cc cs, eB eb ec es, iB ib ic its]) (by repeat (first | exact Sels.nil | apply Sels.cons (by repeat (first | exact Sel.head | apply Sel.tail)))) ?_
        refine q_ret1c rfl rfl many29 mm_ (by rfl) (L' := [cB cb cc cs, eB eb ec es, iB ib ic its]) sl_ ⟨⟨sd, fr, flo, sta, cs, es, its, g⟩, hok, hcl, hel, hil, cb, cc, eb, ec, ib, ic, wv_eq (d := ⟨sd, fr, flo, sta, cs, es, its, g⟩) (s := ⟨cb, 0, cc, eb, 0, ec, ib, 0, ic⟩) hcl hel hil rfl, rfl, hcc, by show es.length ≤ ec; omega, hic⟩
      · skip
        try simp only [nrm_] at hc9
        refine c_skip ?_
        refine q_then ?_
        refine c_seq ?_
        obtain ⟨kx, hkx⟩ := take_lt (show i < ks.length by omega)
        obtain ⟨kb, ko, kc, rfl, hks⟩ := hk.some_of (by omega)
        have hkv : (ks.map iv)[i]? = some (iv kx) := by rw [List.getElem?_map, hkx]; rfl
        obtain ⟨kd, hkd⟩ : ∃ x : Int, 1 + kx % 4 = x := ⟨_, rfl⟩
        have hmx := stats_max (k := kd) (by omega)
        refine c_reg ?_
        refine s_y (Y_mv) rfl rfl ?_
        refine s_y (Y_mv) rfl rfl ?_
        refine s_y (Y_ia1 rfl rfl Try.underlying22 sz3 rfl (by omega)) rfl rfl ?_
        refine s_y (Y_loadR (v := iv kx) (i := i) rfl one3 hks.ro (by omega) hkv) rfl rfl ?_
        refine s_c (En_call (fun _ => rfl) Try.func14 rfl (by kernel_rfl) rfl) (fun w hH => l8within_d (by decide)) rfl rfl ?_
        rintro _ _ ⟨rfl, rfl⟩
        refine s_y ((Y_add rfl rfl (by omega)).num hkd) rfl rfl ?_
        refine s_c (En_call (fun _ => rfl) Try.func17 rfl (by kernel_rfl) rfl) (fun w hH => rstats_d) rfl rfl ?_
        rintro _ _ ⟨rfl, rfl⟩
        obtain ⟨st, hst⟩ : ∃ q_, statsM kd = q_ := ⟨_, rfl⟩
        rw [hst] at hmx ⊢
        refine s_n (N_alloc (z := .agg #[.int .i64 0, .int .i64 0, .int .i64 0, .int .i64 0, .int .i64 0, .int .i64 0, .int .i64 0, .int .i64 0, .int .i64 0, .int .i64 0, .int .i64 0]) (cs := [.int .i64 0, .int .i64 0, .int .i64 0, .int .i64 0, .int .i64 0, .int .i64 0, .int .i64 0, .int .i64 0, .int .i64 0, .int .i64 0, .int .i64 0]) zv48 rfl) rfl rfl (fun b14 _ => ?_)
        refine s_s (S_storeA (vs := st.cells) rfl rfl sz48 (by rfl) (by rfl) (by repeat (first | exact Upd.head | apply Upd.tail)) (by rfl)) rfl ?_
        refine s_nil ?_
        refine q_then ?_
        refine c_seq ?_
        refine c_meetQ (ks := [68, 69, 70, 71, 72, 73, 74, 75, 76, 77, 78, 79, 80, 81, 82, 83, 84]) (tr := fun _ : Ent => []) (φ := fun e => 1 ≤ e.max ∧ e.max ≤ 20) (G := fun e => [⟨b14, 48, 11, 1, e.cells⟩, wB b11 (wcD sd fr flo sta (.slice (some ⟨cb, 0, none⟩) 384 cc) (.slice (some ⟨eb, 0, none⟩) 32 ec) (.slice (some ⟨ib, 0, none⟩) 40 ic) g), cB cb cc cs, eB eb ec es, iB ib ic its, wB b10 wz]) (fun _ => rfl) ?_ ?_
        · rintro e j14 he
          refine q_then ?_
          refine c_seq ?_
          obtain ⟨ax, hax⟩ : ∃ x : Int, (k : Int) % 24 = x := ⟨_, rfl⟩
          obtain ⟨ay, hay⟩ : ∃ x : Int, (k : Int) / 24 = x := ⟨_, rfl⟩
          refine c_rordS (L0 := []) sl_ [18] [(0, true), (1, true), (2, true), (3, true), (4, true), (5, true), (6, true), (7, true), (8, true), (9, true), (10, false), (13, true), (11, false), (12, true), (14, false), (15, true), (16, false), (17, true), (18, false)] (by kernel_rfl) (by kernel_rfl) (by kernel_rfl) (by kernel_rfl) rfl (by intro c a d v w h; cases d <;> exact h) rfl ?_
          simp only [mkOrd, List.filterMap_cons, List.filterMap_nil, List.getElem?_toArray, List.getElem?_cons_zero, List.getElem?_cons_succ, Option.map_some]
          refine o_y (Y_mv) rfl rfl ?_
          refine o_y ((Y_rem rfl rfl (by omega)).num hax) rfl rfl ?_
          refine o_y (Y_mv) rfl rfl ?_
          refine o_y ((Y_quo rfl rfl (by omega)).num hay) rfl rfl ?_
          refine o_y (Y_mv) rfl rfl ?_
          refine o_y (Y_mv) rfl rfl ?_
          refine o_y (Y_ia1 rfl rfl Try.underlying22 sz3 rfl (by omega)) rfl rfl ?_
          refine o_y (Y_loadR (v := iv kx) (i := i) rfl one3 hks.ro (by omega) hkv) rfl rfl ?_
          refine o_y (Y_quow rfl rfl (by decide)) rfl rfl ?_
          refine o_y (Y_fa 6 rfl Try.underlying48 rfl sz3 rfl) rfl rfl ?_
          refine o_v (Y_load (v := iv e.max) rfl one3 mm_ (by rfl)) (by first | exact keep_no rfl | (refine keep_sub ?_; (repeat (first | exact List.Sublist.refl _ | exact List.nil_sublist _ | apply List.Sublist.cons_cons | apply List.Sublist.cons)); done) | (refine keep_sub (List.Sublist.trans ?_ (List.sublist_append_right _ _)); (repeat (first | exact List.Sublist.refl _ | exact List.nil_sublist _ | apply List.Sublist.cons_cons | apply List.Sublist.cons)); done)) rfl rfl ?_
          refine o_y (Y_fa 3 rfl Try.underlying48 rfl sz3 rfl) rfl rfl ?_
          refine o_c (En_call (fun _ => rfl) Try.func14 rfl (by kernel_rfl) rfl) (fun w hH => l8within_d (by omega)) (fun _ _ h => by obtain ⟨rfl, rfl⟩ := h; exact (by first | exact keep_no rfl | (refine keep_sub ?_; (repeat (first | exact List.Sublist.refl _ | exact List.nil_sublist _ | apply List.Sublist.cons_cons | apply List.Sublist.cons)); done) | (refine keep_sub (List.Sublist.trans ?_ (List.sublist_append_right _ _)); (repeat (first | exact List.Sublist.refl _ | exact List.nil_sublist _ | apply List.Sublist.cons_cons | apply List.Sublist.cons)); done))) rfl rfl ?_
          rintro _ _ ⟨rfl, rfl⟩
          obtain ⟨hp, hhp⟩ : ∃ x : Int, 1 + (IntKind.i64.wrap (kx.tdiv 7)) % e.max = x := ⟨_, rfl⟩
          have hp1 := Int.emod_nonneg (IntKind.i64.wrap (kx.tdiv 7)) (show e.max ≠ 0 by omega)
          have hp2 := Int.emod_lt_of_pos (IntKind.i64.wrap (kx.tdiv 7)) (show 0 < e.max by omega)
          refine o_y ((Y_add rfl rfl (by omega)).num hhp) rfl rfl ?_
          refine o_s (S_st (cs' := ({ e with x := ax } : Ent).cells) rfl gt_ sz3 (by rfl) (by repeat (first | exact Upd.head | apply Upd.tail)) (by rfl) (by rw [Ent.len]; decide)) (by first | exact keep_no rfl | (refine keep_sub ?_; (repeat (first | exact List.Sublist.refl _ | exact List.nil_sublist _ | apply List.Sublist.cons_cons | apply List.Sublist.cons)); done) | (refine keep_sub (List.Sublist.trans ?_ (List.sublist_append_right _ _)); (repeat (first | exact List.Sublist.refl _ | exact List.nil_sublist _ | apply List.Sublist.cons_cons | apply List.Sublist.cons)); done)) rfl ?_
          refine o_y (Y_fa 4 rfl Try.underlying48 rfl sz3 rfl) rfl rfl ?_
          refine o_s (S_st (cs' := ({ e with x := ax, y := ay } : Ent).cells) rfl gt_ sz3 (by rfl) (by repeat (first | exact Upd.head | apply Upd.tail)) (by rfl) (by rw [Ent.len]; decide)) (by first | exact keep_no rfl | (refine keep_sub ?_; (repeat (first | exact List.Sublist.refl _ | exact List.nil_sublist _ | apply List.Sublist.cons_cons | apply List.Sublist.cons)); done) | (refine keep_sub (List.Sublist.trans ?_ (List.sublist_append_right _ _)); (repeat (first | exact List.Sublist.refl _ | exact List.nil_sublist _ | apply List.Sublist.cons_cons | apply List.Sublist.cons)); done)) rfl ?_
          refine o_y (Y_fa 5 rfl Try.underlying48 rfl sz3 rfl) rfl rfl ?_
          refine o_s (S_st (cs' := ({ e with x := ax, y := ay, hp := hp } : Ent).cells) rfl gt_ sz3 (by rfl) (by repeat (first | exact Upd.head | apply Upd.tail)) (by rfl) (by rw [Ent.len]; decide)) (by first | exact keep_no rfl | (refine keep_sub ?_; (repeat (first | exact List.Sublist.refl _ | exact List.nil_sublist _ | apply List.Sublist.cons_cons | apply List.Sublist.cons)); done) | (refine keep_sub (List.Sublist.trans ?_ (List.sublist_append_right _ _)); (repeat (first | exact List.Sublist.refl _ | exact List.nil_sublist _ | apply List.Sublist.cons_cons | apply List.Sublist.cons)); done)) rfl ?_
          refine o_nil ?_
          obtain ⟨e2, hte⟩ : ∃ q_, ({ e with x := ax, y := ay, hp := hp } : Ent) = q_ := ⟨_, rfl⟩
          rw [hte] at ⊢
          refine q_then ?_
          refine c_seq ?_
          refine c_rordS (L0 := []) sl_ [15] [(0, true), (1, true), (2, true), (3, true), (4, true), (6, true), (7, true), (8, true), (9, true), (10, true), (5, false), (12, true), (11, false), (13, false), (14, true), (15, false)] (by kernel_rfl) (by kernel_rfl) (by kernel_rfl) (by kernel_rfl) rfl (by intro c a d v w h; cases d <;> exact h) rfl ?_
          simp only [mkOrd, List.filterMap_cons, List.filterMap_nil, List.getElem?_toArray, List.getElem?_cons_zero, List.getElem?_cons_succ, Option.map_some]
          refine o_y (Y_mv) rfl rfl ?_
          refine o_y (Y_mv) rfl rfl ?_
          refine o_y (Y_ia1 rfl rfl Try.underlying22 sz3 rfl (by omega)) rfl rfl ?_
          refine o_y (Y_loadR (v := iv kx) (i := i) rfl one3 hks.ro (by omega) hkv) rfl rfl ?_
          refine o_y (Y_quow rfl rfl (by decide)) rfl rfl ?_
          refine o_y (Y_mv) rfl rfl ?_
          refine o_y (Y_mv) rfl rfl ?_
          refine o_y (Y_ia1 rfl rfl Try.underlying22 sz3 rfl (by omega)) rfl rfl ?_
          refine o_y (Y_loadR (v := iv kx) (i := i) rfl one3 hks.ro (by omega) hkv) rfl rfl ?_
          refine o_y (Y_quow rfl rfl (by decide)) rfl rfl ?_
          refine o_c (En_call (fun _ => rfl) Try.func14 rfl (by kernel_rfl) rfl) (fun w hH => l8within_d (by decide)) (fun _ _ h => by obtain ⟨rfl, rfl⟩ := h; exact (by first | exact keep_no rfl | (refine keep_sub ?_; (repeat (first | exact List.Sublist.refl _ | exact List.nil_sublist _ | apply List.Sublist.cons_cons | apply List.Sublist.cons)); done) | (refine keep_sub (List.Sublist.trans ?_ (List.sublist_append_right _ _)); (repeat (first | exact List.Sublist.refl _ | exact List.nil_sublist _ | apply List.Sublist.cons_cons | apply List.Sublist.cons)); done))) rfl rfl ?_
          rintro _ _ ⟨rfl, rfl⟩
          refine o_y (Y_fa 9 rfl Try.underlying48 rfl sz3 rfl) rfl rfl ?_
          refine o_c (En_call (fun _ => rfl) Try.func14 rfl (by kernel_rfl) rfl) (fun w hH => l8within_d (by decide)) (fun _ _ h => by obtain ⟨rfl, rfl⟩ := h; exact (by first | exact keep_no rfl | (refine keep_sub ?_; (repeat (first | exact List.Sublist.refl _ | exact List.nil_sublist _ | apply List.Sublist.cons_cons | apply List.Sublist.cons)); done) | (refine keep_sub (List.Sublist.trans ?_ (List.sublist_append_right _ _)); (repeat (first | exact List.Sublist.refl _ | exact List.nil_sublist _ | apply List.Sublist.cons_cons | apply List.Sublist.cons)); done))) rfl rfl ?_
          rintro _ _ ⟨rfl, rfl⟩
          obtain ⟨po, hpo⟩ : ∃ x : Int, (IntKind.i64.wrap (kx.tdiv 5)) % 10 = x := ⟨_, rfl⟩
          obtain ⟨su, hsu⟩ : ∃ x : Int, (IntKind.i64.wrap (kx.tdiv 11)) % 10 = x := ⟨_, rfl⟩
          rw [hpo, hsu]
          refine o_s (S_st (cs' := ({ e2 with poison := po } : Ent).cells) rfl gt_ sz3 (by rfl) (by repeat (first | exact Upd.head | apply Upd.tail)) (by rfl) (by rw [Ent.len]; decide)) (by first | exact keep_no rfl | (refine keep_sub ?_; (repeat (first | exact List.Sublist.refl _ | exact List.nil_sublist _ | apply List.Sublist.cons_cons | apply List.Sublist.cons)); done) | (refine keep_sub (List.Sublist.trans ?_ (List.sublist_append_right _ _)); (repeat (first | exact List.Sublist.refl _ | exact List.nil_sublist _ | apply List.Sublist.cons_cons | apply List.Sublist.cons)); done)) rfl ?_
          refine o_y (Y_fa 10 rfl Try.underlying48 rfl sz3 rfl) rfl rfl ?_
          refine o_s (S_st (cs' := ({ e2 with poison := po, stun := su } : Ent).cells) rfl gt_ sz3 (by rfl) (by repeat (first | exact Upd.head | apply Upd.tail)) (by rfl) (by rw [Ent.len]; decide)) (by first | exact keep_no rfl | (refine keep_sub ?_; (repeat (first | exact List.Sublist.refl _ | exact List.nil_sublist _ | apply List.Sublist.cons_cons | apply List.Sublist.cons)); done) | (refine keep_sub (List.Sublist.trans ?_ (List.sublist_append_right _ _)); (repeat (first | exact List.Sublist.refl _ | exact List.nil_sublist _ | apply List.Sublist.cons_cons | apply List.Sublist.cons)); done)) rfl ?_
          refine o_nil ?_
          obtain ⟨e3, hte2⟩ : ∃ q_, ({ e2 with poison := po, stun := su } : Ent) = q_ := ⟨_, rfl⟩
          rw [hte2] at ⊢
          refine q_then ?_
          refine c_seq ?_
          refine c_reg ?_
          refine s_y (Y_fa 5 rfl Try.underlying29 rfl sz26 rfl) rfl rfl ?_
          refine s_y ((by first | exact Y_load rfl one26 mm_ (by rfl) | exact Y_loadR rfl one26 hr rfl rfl | exact Y_loadR rfl one26 hr2 rfl rfl | exact Y_load rfl one26 mm_ (eget he rfl) | exact Y_load rfl one26 mm_ (iget hx rfl) | exact Y_load rfl one26 mm_ (by assumption) | exact Y_loadR rfl one26 (by assumption) rfl (by assumption))) rfl rfl ?_
          refine s_y ((by first | exact Y_loadAll rfl many48 mm_ (by rfl) | exact Y_loadN rfl many48 mm_ ‹_› ‹_› | exact Y_loadNR rfl many48 hr rfl | exact Y_loadNR rfl many48 hr2 rfl | exact Y_loadNR rfl many48 ‹_› rfl)) rfl rfl ?_
          refine s_c (En_call (fun _ => rfl) Try.func19 rfl (by kernel_rfl) rfl) (fun w hH => rspawn_d ((hH.at' (x := eB eb ec es) mm_).sl (by rw [ecells_len]; omega) hec) (by omega) e3) rfl rfl ?_
          rintro _ _ hP0
          rename_i lP
          obtain ⟨sv, ix, er, rfl, hP⟩ := hP0.open
          clear hP0
          refine s_y (Y_mv) rfl rfl ?_
          refine s_y (Y_extract rfl rfl) rfl rfl ?_
          refine s_y (Y_extract rfl rfl) rfl rfl ?_
          refine s_y (Y_extract rfl rfl) rfl rfl ?_
          refine s_y (Y_as) rfl rfl ?_
          refine s_y (Y_as) rfl rfl ?_
          refine s_y (Y_as) rfl rfl ?_
          refine s_nil ?_
          refine q_then ?_
          refine c_seq ?_
          refine c_seq ?_
          refine c_reg ?_
          refine s_y (Y_mv) rfl rfl ?_
          refine s_y (Y_eql rfl rfl) rfl rfl ?_
          refine s_nil ?_
          refine q_then ?_
          first | refine c_cond' rfl (fun hc17 => ?_) (fun hc17 => ?_) | refine c_cond rfl (fun hc17 => ?_) (fun hc17 => ?_)
          · skip
            try simp only [nrm_] at hc17
            rcases hP with ⟨h, _⟩ | ⟨h0, gg, cap, r, h1, h2, h3, rfl, rfl⟩
            · exact absurd hc17 h
            rw [hel] at h3 ⊢
            refine c_reg ?_
            refine s_y (Y_mv) rfl rfl ?_
            refine s_y (Y_fa 5 rfl Try.underlying29 rfl sz26 rfl) rfl rfl ?_
            refine s_s (S_st rfl gt_ sz26 (by rfl) (by repeat (first | exact Upd.head | apply Upd.tail)) (by first | (simp only [Nat.zero_add, Nat.reduceAdd, List.set_cons_succ, List.set_cons_zero]; rfl) | rfl) (by first | (simp; done) | omega)) rfl ?_
            refine s_nil ?_
            refine q_then ?_
            obtain ⟨w, hw⟩ : ∃ x : Nat, (IntKind.i64.wrap (kx.tdiv 3)) % 4 = (x : Int) := ⟨((IntKind.i64.wrap (kx.tdiv 3)) % 4).toNat, by omega⟩
            have hwl : w < 4 := by omega
            refine c_reg ?_
            refine s_y (Y_mv) rfl rfl ?_
            refine s_y ((by first | exact Y_add rfl rfl (by omega) | exact Y_addw rfl rfl)) rfl rfl ?_
            refine s_y (Y_mv) rfl rfl ?_
            refine s_y (Y_mv) rfl rfl ?_
            refine s_y (Y_ia1 rfl rfl Try.underlying22 sz3 rfl (by omega)) rfl rfl ?_
            refine s_y (Y_loadR (v := iv kx) (i := i) rfl one3 hks.ro (by omega) hkv) rfl rfl ?_
            refine s_y (Y_quow rfl rfl (by decide)) rfl rfl ?_
            refine s_c (En_call (fun _ => rfl) Try.func14 rfl (by kernel_rfl) rfl) (fun w hH => l8within_d (by decide)) rfl rfl ?_
            rintro _ _ ⟨rfl, rfl⟩
            rw [hw]
            refine s_y ((Y_add rfl rfl (by omega)).num (show (k : Int) + 1 + w = ((k + 1 + w : Nat) : Int) by omega)) rfl rfl ?_
            refine s_y (Y_as) rfl rfl ?_
            refine s_nil ?_
            refine q_bn ?_
            refine q_then ?_
            refine c_reg ?_
            refine s_y (Y_mv) rfl rfl ?_
            refine s_y ((by first | exact Y_add rfl rfl (by omega) | exact Y_addw rfl rfl)) rfl rfl ?_
            refine s_y (Y_as) rfl rfl ?_
            refine s_nil ?_
            refine hK (m - 1) (i + 1, k + 1 + w, spawnedM es e3, gg, cap) _ _ (by omega) ⟨by simp only; omega, by simp only; omega, by simp only; rw [spawnedM_len]; exact hel, h3⟩ ⟨rfl, rfl, trivial⟩ rfl (fun w h => h.pick (by repeat (first | exact Sels.nil | apply Sels.cons (by repeat (first | exact Sel.head | apply Sel.tail)))))
          · skip
            try simp only [nrm_] at hc17
            refine c_skip ?_
            refine q_then ?_
            rcases hP with ⟨h, _, rfl⟩ | ⟨h, _⟩
            rotate_left
            · exact absurd h hc17
            obtain ⟨w, hw⟩ : ∃ x : Nat, (IntKind.i64.wrap (kx.tdiv 3)) % 4 = (x : Int) := ⟨((IntKind.i64.wrap (kx.tdiv 3)) % 4).toNat, by omega⟩
            have hwl : w < 4 := by omega
            refine c_reg ?_
            refine s_y (Y_mv) rfl rfl ?_
            refine s_y ((by first | exact Y_add rfl rfl (by omega) | exact Y_addw rfl rfl)) rfl rfl ?_
            refine s_y (Y_mv) rfl rfl ?_
            refine s_y (Y_mv) rfl rfl ?_
            refine s_y (Y_ia1 rfl rfl Try.underlying22 sz3 rfl (by omega)) rfl rfl ?_
            refine s_y (Y_loadR (v := iv kx) (i := i) rfl one3 hks.ro (by omega) hkv) rfl rfl ?_
            refine s_y (Y_quow rfl rfl (by decide)) rfl rfl ?_
            refine s_c (En_call (fun _ => rfl) Try.func14 rfl (by kernel_rfl) rfl) (fun w hH => l8within_d (by decide)) rfl rfl ?_
            rintro _ _ ⟨rfl, rfl⟩
            rw [hw]
            refine s_y ((Y_add rfl rfl (by omega)).num (show (k : Int) + 1 + w = ((k + 1 + w : Nat) : Int) by omega)) rfl rfl ?_
            refine s_y (Y_as) rfl rfl ?_
            refine s_nil ?_
            refine q_bn ?_
            refine q_then ?_
            refine c_reg ?_
            refine s_y (Y_mv) rfl rfl ?_
            refine s_y ((by first | exact Y_add rfl rfl (by omega) | exact Y_addw rfl rfl)) rfl rfl ?_
            refine s_y (Y_as) rfl rfl ?_
            refine s_nil ?_
            refine hK (m - 1) (i + 1, k + 1 + w, es, eb, ec) _ _ (by omega) ⟨by simp only; omega, by simp only; omega, hel, hec⟩ ⟨rfl, rfl, trivial⟩ rfl (fun w h => h.pick (by repeat (first | exact Sels.nil | apply Sels.cons (by repeat (first | exact Sel.head | apply Sel.tail)))))
        · intro go
          refine c_seq ?_
          refine c_reg ?_
          refine s_y (Y_fa 0 rfl Try.underlying48 rfl sz3 rfl) rfl rfl ?_
          refine s_y ((by first | exact Y_load rfl one3 mm_ (by rfl) | exact Y_loadR rfl one3 hr rfl rfl | exact Y_loadR rfl one3 hr2 rfl rfl | exact Y_load rfl one3 mm_ (eget he rfl) | exact Y_load rfl one3 mm_ (iget hx rfl) | exact Y_load rfl one3 mm_ (by assumption) | exact Y_loadR rfl one3 (by assumption) rfl (by assumption))) rfl rfl ?_
          refine s_y (Y_eql rfl rfl) rfl rfl ?_
          refine s_nil ?_
          refine q_then ?_
          first | refine c_cond' rfl (fun hc11 => ?_) (fun hc11 => ?_) | refine c_cond rfl (fun hc11 => ?_) (fun hc11 => ?_)
          · skip
            try simp only [nrm_] at hc11
            refine c_seq ?_
            refine c_reg ?_
            refine s_y (Y_mv) rfl rfl ?_
            refine s_y (Y_mv) rfl rfl ?_
            refine s_y (Y_ia1 rfl rfl Try.underlying22 sz3 rfl (by omega)) rfl rfl ?_
            refine s_y (Y_loadR (v := iv kx) (i := i) rfl one3 hks.ro (by omega) hkv) rfl rfl ?_
            refine s_y (Y_quow rfl rfl (by decide)) rfl rfl ?_
            refine s_c (En_call (fun _ => rfl) Try.func14 rfl (by kernel_rfl) rfl) (fun w hH => l8within_d (by decide)) rfl rfl ?_
            rintro _ _ ⟨rfl, rfl⟩
            obtain ⟨s2, hs2⟩ : ∃ x : Int, 1 + (IntKind.i64.wrap (kx.tdiv 4)) % 3 = x := ⟨_, rfl⟩
            refine s_y ((Y_add rfl rfl (by omega)).num hs2) rfl rfl ?_
            refine s_y (Y_fa 2 rfl Try.underlying48 rfl sz3 rfl) rfl rfl ?_
            refine s_s (S_st (cs' := ({ st with seat := s2 } : Ent).cells) rfl gt_ sz3 (by rfl) (by repeat (first | exact Upd.head | apply Upd.tail)) (by rfl) (by rw [Ent.len]; decide)) rfl ?_
            refine s_nil ?_
            refine q_then ?_
            refine c_seq ?_
            refine c_reg ?_
            refine s_y (Y_fa 5 rfl Try.underlying29 rfl sz26 rfl) rfl rfl ?_
            refine s_y ((by first | exact Y_load rfl one26 mm_ (by rfl) | exact Y_loadR rfl one26 hr rfl rfl | exact Y_loadR rfl one26 hr2 rfl rfl | exact Y_load rfl one26 mm_ (eget he rfl) | exact Y_load rfl one26 mm_ (iget hx rfl) | exact Y_load rfl one26 mm_ (by assumption) | exact Y_loadR rfl one26 (by assumption) rfl (by assumption))) rfl rfl ?_
            refine s_y (Y_fa 2 rfl Try.underlying48 rfl sz3 rfl) rfl rfl ?_
            refine s_y ((by first | exact Y_load rfl one3 mm_ (by rfl) | exact Y_loadR rfl one3 hr rfl rfl | exact Y_loadR rfl one3 hr2 rfl rfl | exact Y_load rfl one3 mm_ (eget he rfl) | exact Y_load rfl one3 mm_ (iget hx rfl) | exact Y_load rfl one3 mm_ (by assumption) | exact Y_loadR rfl one3 (by assumption) rfl (by assumption))) rfl rfl ?_
            refine s_c (En_call (fun _ => rfl) Try.func18 rfl (by kernel_rfl) rfl) (fun w hH => rhero_d ((hH.at' (x := eB eb ec es) mm_).sl (by rw [ecells_len]; omega) hec)) rfl rfl ?_
            rintro _ _ ⟨rfl, rfl⟩
            refine s_y (Y_geq rfl rfl) rfl rfl ?_
            refine s_nil ?_
            refine q_then ?_
            first | refine c_cond' rfl (fun hc13 => ?_) (fun hc13 => ?_) | refine c_cond rfl (fun hc13 => ?_) (fun hc13 => ?_)
            · skip
              try simp only [nrm_] at hc13
              refine c_exit ?_
              repeat with_reducible refine q_te ?_
              refine q_exit ?_
              refine q_then ?_
              refine c_reg ?_
              refine s_y (Y_mv) rfl rfl ?_
              refine s_y ((by first | exact Y_add rfl rfl (by omega) | exact Y_addw rfl rfl)) rfl rfl ?_
              refine s_y (Y_as) rfl rfl ?_
              refine s_nil ?_
              refine hK (m - 1) (i + 1, k, es, eb, ec) _ _ (by omega) ⟨by simp only; omega, hk4, hel, hec⟩ ⟨rfl, rfl, trivial⟩ rfl (fun w h => h.pick (by repeat (first | exact Sels.nil | apply Sels.cons (by repeat (first | exact Sel.head | apply Sel.tail)))))
            · skip
              try simp only [nrm_] at hc13
              refine c_skip ?_
              exact go { st with seat := s2 } _ _ hmx trivial rfl (fun w h => h)
          · skip
            try simp only [nrm_] at hc11
            refine c_skip ?_
            exact go st _ _ hmx trivial rfl (fun w h => h)
  · skip
    try simp only [nrm_] at hc5
    refine c_exit ?_
    repeat with_reducible refine q_te ?_
    refine q_exit ?_
    refine q_then ?_
    refine c_seq ?_
    refine c_reg ?_
    refine s_y ((by first | exact Y_loadAll rfl many29 mm_ (by rfl) | exact Y_loadN rfl many29 mm_ ‹_› ‹_› | exact Y_loadNR rfl many29 hr rfl | exact Y_loadNR rfl many29 hr2 rfl | exact Y_loadNR rfl many29 ‹_› rfl)) rfl rfl ?_
    refine s_s ((by first | exact S_storeA rfl rfl sz29 (by first | rfl | assumption) (by first | rfl | assumption) (by repeat (first | exact Upd.head | apply Upd.tail)) (by first | rfl | assumption) | exact S_storeN rfl rfl sz29 (by rfl) (by first | rfl | assumption) (by repeat (first | exact Upd.head | apply Upd.tail)) (by simp only [setAll, List.set_cons_zero, List.set_cons_succ, Nat.zero_add, Nat.reduceAdd]; rfl) (by first | rfl | assumption))) rfl ?_
    refine s_nil ?_
    refine q_then ?_
    refine c_ret ?_
    refine QL.pick (L' := [wB b10 (wcD sd fr flo sta (.slice (some ⟨cb, 0, none⟩) 384 cc) (.slice (some ⟨eb, 0, none⟩) 32 ec) (.slice (some ⟨ib, 0, none⟩) 40 ic) g), cB cb cc cs, eB eb ec es, iB ib ic its]) (by repeat (first | exact Sels.nil | apply Sels.cons (by repeat (first | exact Sel.head | apply Sel.tail)))) ?_
    refine q_ret1c rfl rfl many29 mm_ (by rfl) (L' := [cB cb cc cs, eB eb ec es, iB ib ic its]) sl_ ⟨⟨sd, fr, flo, sta, cs, es, its, g⟩, hok, hcl, hel, hil, cb, cc, eb, ec, ib, ic, wv_eq (d := ⟨sd, fr, flo, sta, cs, es, its, g⟩) (s := ⟨cb, 0, cc, eb, 0, ec, ib, 0, ic⟩) hcl hel hil rfl, rfl, hcc, by show es.length ≤ ec; omega, hic⟩
end
end Go.Proofs.Ytecodneffflpoaa
