/- Texts of this claim, laid together: part 5. -/
import Derived.Test.YtcogbkkdccohfaaGreatSB4
set_option linter.unusedVariables false
set_option linter.unusedSimpArgs false
set_option maxHeartbeats 1600000
namespace Go.Ad
open Go.RowKit Go.Maps Go.Proofs.YtcogbkkdccohfaaGreat
theorem eget_of {l : List Ent} {r : Int} (h : 0 ≤ r) (hl : r < l.length) : l[r.toNat]? = some (egt l r) := by
  unfold egt
  rw [if_pos h, List.getD_eq_getElem?_getD, List.getElem?_eq_getElem (by omega)]; rfl
theorem egt_out {l : List Ent} {r : Int} (h : ¬ (0 ≤ r ∧ r < l.length)) : (egt l r).kind = 0 := by
  unfold egt
  split
  · rw [List.getD_eq_getElem?_getD, List.getElem?_eq_none (by omega)]; rfl
  · rfl
theorem set_same {α : Type} {l : List α} {i : Nat} {a : α} (h : l[i]? = some a) : l.set i a = l := by
  obtain ⟨hi, rfl⟩ := List.getElem?_eq_some_iff.1 h
  exact List.set_getElem_self _
theorem stats_low (k : Int) : (statsM k).max ≤ 20 ∧ (statsM k).atk ≤ 5 ∧ 0 ≤ (statsM k).atk ∧ (statsM k).df ≤ 1 ∧ 0 ≤ (statsM k).df := by have := stats_rng k; omega
theorem bon_rng (l : List Itm) (s : Int) : 0 ≤ bonA l s ∧ bonA l s ≤ 3 ∧ 0 ≤ bonD l s ∧ bonD l s ≤ 2 := by
  unfold bonA bonD
  repeat' split
  all_goals omega
end Go.Ad
namespace Go.Proofs.YtcogbkkdccohfaaGreat
open Go.RowKit Go.Ad Go.Maps
set_option linter.unusedVariables false
set_option linter.unusedSimpArgs false
section
variable {W : World}
set_option maxRecDepth 100000 in
theorem rthere_d {d : Wd} {s : Ws} (hw : WL W d s) {k : Int} : Does Tryz.prog 150 [.agg (wL d s).toArray, iv k] W [] (fun v L => v = .bool (decide ((egt d.ents k).kind ≠ 0)) ∧ L = []) := by
  obtain ⟨z1, z2, z3⟩ := hw.sz
  refine enter Tryz.func150 rfl rfl rfl (Has.start _) ?_
  refine c_seq ?_
  refine c_reg ?_
  refine s_n (N_box (cs := wL d s) rfl) rfl rfl (fun b2 _ => ?_)
  refine s_y (Y_asC) rfl rfl ?_
  refine s_nil ?_
  refine q_then ?_
  refine c_seq ?_
  refine c_reg ?_
  refine s_y (Y_mv) rfl rfl ?_
  refine s_y (Y_geq rfl rfl) rfl rfl ?_
  refine s_y (Y_mv) rfl rfl ?_
  apply s_and 6 [7, 8, 9, 10, 11, 12, 13] 13 (g := 7) rfl rfl
  · intro ht3 hm
    try simp only [nrm_] at ht3
    first | refine s_y (Y_mv) rfl rfl ?_ | refine s_pass rfl rfl ?_
    first | refine s_y (Y_fa 5 rfl Tryz.underlying34 rfl sz30 rfl) rfl rfl ?_ | refine s_pass rfl rfl ?_
    first | refine s_y (yl_ one30) rfl rfl ?_ | refine s_pass rfl rfl ?_
    first | refine s_y (Y_len rfl rfl Tryz.underlying30) rfl rfl ?_ | refine s_pass rfl rfl ?_
    first | refine s_y (Y_lss rfl rfl) rfl rfl ?_ | refine s_pass rfl rfl ?_
    refine s_y (Y_pk rfl (Gx.tmp gt_) Gx.const) rfl rfl ?_
    first | exact hm _ ⟨rfl, trivial⟩ rfl | exact QL.sub sl_ (hm _ ⟨rfl, trivial⟩ rfl)
  · intro ht3 hm
    iterate 5 refine s_pass rfl rfl ?_
    refine s_y (Y_pk rfl (Gx.tmp gt_) Gx.const) rfl rfl ?_
    exact hm _ ⟨rfl, trivial⟩ rfl
  intro j13
  refine s_y (Y_mv) rfl rfl ?_
  apply s_and 8 [14, 15, 16, 17, 18, 19, 20, 21, 22] 22 (g := 14) rfl rfl
  · intro ht10 hm
    try simp only [nrm_] at ht10
    first | refine s_y (Y_fa 5 rfl Tryz.underlying34 rfl sz30 rfl) rfl rfl ?_ | refine s_pass rfl rfl ?_
    first | refine s_y (yl_ one30) rfl rfl ?_ | refine s_pass rfl rfl ?_
    first | refine s_y (Y_mv) rfl rfl ?_ | refine s_pass rfl rfl ?_
    first | refine s_y (Y_ia (n := k.toNat) rfl rfl Tryz.underlying30 sz93 (by omega) (by omega)) rfl rfl ?_ | refine s_pass rfl rfl ?_
    first | refine s_y (Y_fa 0 rfl Tryz.underlying93 rfl sz3 rfl) rfl rfl ?_ | refine s_pass rfl rfl ?_
    first | refine s_y (Y_loadR (v := iv (egt d.ents k).kind) (i := 0) rfl one3 (hw.e.at' Ent.len (eget_of (by omega) (by omega))) rfl rfl) rfl rfl ?_ | refine s_pass rfl rfl ?_
    first | refine s_y (Y_neq rfl rfl) rfl rfl ?_ | refine s_pass rfl rfl ?_
    refine s_y (Y_pk rfl (Gx.tmp gt_) Gx.const) rfl rfl ?_
    first | exact hm _ ⟨rfl, trivial⟩ rfl | exact QL.sub sl_ (hm _ ⟨rfl, trivial⟩ rfl)
  · intro ht10 hm
    iterate 7 refine s_pass rfl rfl ?_
    refine s_y (Y_pk rfl (Gx.tmp gt_) Gx.const) rfl rfl ?_
    exact hm _ ⟨rfl, trivial⟩ rfl
  intro j22
  refine s_y (Y_as) rfl rfl ?_
  refine s_nil ?_
  refine q_then ?_
  refine c_ret ?_
  refine q_retG1 rfl gt_ (L' := _) sl_ (⟨by
      congr 1
      rw [Bool.eq_iff_iff]
      simp only [nrm_]
      constructor
      · exact fun h => h.2
      · intro h
        by_cases h0 : 0 ≤ k ∧ k < d.ents.length
        · exact ⟨⟨h0.1, by omega⟩, h⟩
        · exact absurd (egt_out h0) h, rfl⟩)
set_option maxRecDepth 100000 in
theorem rhurt_d {d : Wd} {s : Ws} (hw : WL W d s) (hv : VW d) {r n : Int} : Does Tryz.prog 151 [.agg (wL d s).toArray, iv r, iv n] W [] (WN (hurtM d r n)) := by
  obtain ⟨z1, z2, z3⟩ := hw.sz
  refine enter Tryz.func151 rfl rfl rfl (Has.start _) ?_
  refine c_seq ?_
  refine c_reg ?_
  refine s_n (N_box (cs := wL d s) rfl) rfl rfl (fun b3 _ => ?_)
  refine s_n (N_alloc (z := .agg #[.int .i64 0, .int .i64 0, .int .i64 0, .int .i64 0, .slice none 0 0, .slice none 0 0, .slice none 0 0, .int .i64 0, .int .i64 0, .int .i64 0, .int .i64 0]) (cs := [.int .i64 0, .int .i64 0, .int .i64 0, .int .i64 0, .slice none 0 0, .slice none 0 0, .slice none 0 0, .int .i64 0, .int .i64 0, .int .i64 0, .int .i64 0]) zv34 rfl) rfl rfl (fun b6 _ => ?_)
  refine s_nil ?_
  refine q_then ?_
  refine c_seq ?_
  refine c_reg ?_
  refine s_y (ya_ many34) rfl rfl ?_
  refine s_c (En_call (fun _ => rfl) Tryz.func51 rfl (by kernel_rfl) rfl) (fun w hH => rtwin_d (hw.has hH)) rfl rfl ?_
  rintro _ _ ⟨cb, cc, eb, ec, ib, ic, rfl, rfl, l1, l2, l3⟩
  refine s_s (S_storeA (vs := wL d ⟨cb, 0, cc, eb, 0, ec, ib, 0, ic⟩) rfl rfl sz34 (by rfl) (by rfl) up_ (by rfl)) rfl ?_
  refine s_nil ?_
  refine q_then ?_
  refine c_seq ?_
  refine c_seq ?_
  refine c_reg ?_
  refine s_y (ya_ many34) rfl rfl ?_
  refine s_y (Y_mv) rfl rfl ?_
  refine s_c (En_call (fun _ => rfl) Tryz.func150 rfl (by kernel_rfl) rfl) (fun w hH => rthere_d (wl_of hH ⟨z1, z2, z3⟩ (cb := cb) (cc := cc) (eb := eb) (ec := ec) (ib := ib) (ic := ic) mm_ mm_ mm_ l1 l2 l3)) rfl rfl ?_
  rintro _ _ ⟨rfl, rfl⟩
  refine s_y (Y_not rfl) rfl rfl ?_
  refine s_y (Y_mv) rfl rfl ?_
  apply s_or 3 [14, 15, 16, 17] 17 (g := 14) rfl rfl
  · intro ht5 hm
    try simp only [nrm_] at ht5
    first | refine s_y (Y_mv) rfl rfl ?_ | refine s_pass rfl rfl ?_
    first | refine s_y (Y_lss rfl rfl) rfl rfl ?_ | refine s_pass rfl rfl ?_
    refine s_y (Y_pk rfl Gx.const (Gx.tmp gt_)) rfl rfl ?_
    first | exact hm _ ⟨rfl, trivial⟩ rfl | exact QL.sub sl_ (hm _ ⟨rfl, trivial⟩ rfl)
  · intro ht5 hm
    iterate 2 refine s_pass rfl rfl ?_
    refine s_y (Y_pk rfl Gx.const (Gx.tmp gt_)) rfl rfl ?_
    exact hm _ ⟨rfl, trivial⟩ rfl
  intro j17
  refine s_nil ?_
  refine q_then ?_
  first | refine c_cond' rfl (fun hc2 => ?_) (fun hc2 => ?_) | refine c_cond rfl (fun hc2 => ?_) (fun hc2 => ?_)
  · skip
    try simp only [nrm_] at hc2
    refine c_seq ?_
    rw [show hurtM d r n = d by unfold hurtM; simp only; rw [if_pos (by omega)]]
    refine c_reg ?_
    refine s_y (ya_ many34) rfl rfl ?_
    refine s_s ((sa_ sz34)) rfl ?_
    refine s_nil ?_
    refine q_then ?_
    refine c_ret ?_
    refine q_retW rfl rfl many34 ss_ l1 l2 l3
  · skip
    try simp only [nrm_] at hc2
    refine c_skip ?_
    refine q_then ?_
    refine c_seq ?_
    obtain ⟨i, rfl, he⟩ := egt_some (l := d.ents) (r := r) (by omega)
    obtain ⟨e, hee⟩ : ∃ q, egt d.ents (i : Int) = q := ⟨_, rfl⟩
    have hhu : hurtM d i n = if n < e.hp then { d with ents := d.ents.set i { e with hp := e.hp - n } } else if e.kind = 1 then sweepM { d with ents := freeE d.ents i } e.seat else { d with ents := freeE d.ents i } := by
      unfold hurtM; simp only; rw [if_neg (by omega), hee, Int.toNat_natCast]
    rw [hee] at he hc2
    have hil := lt_of_get he
    have her := hv.ev.rowOf he (by omega)
    have hep := her.hp
    have hst := stats_low e.kind
    have hmx := her.st.1
    refine c_reg ?_
    refine s_y (Y_fa 5 rfl Tryz.underlying34 rfl sz30 rfl) rfl rfl ?_
    refine s_y (yl_ one30) rfl rfl ?_
    refine s_y (Y_mv) rfl rfl ?_
    refine s_y (Y_ia (n := i) rfl rfl Tryz.underlying30 sz93 rfl (by omega)) rfl rfl ?_
    refine s_y (Y_loadN (vs := e.cells) rfl many93 mm_ (by rfl) (egetN he)) rfl rfl ?_
    refine s_n (N_alloc (z := .agg #[.int .i64 0, .int .i64 0, .int .i64 0, .int .i64 0, .int .i64 0, .int .i64 0, .int .i64 0, .int .i64 0, .int .i64 0, .int .i64 0, .int .i64 0]) (cs := [.int .i64 0, .int .i64 0, .int .i64 0, .int .i64 0, .int .i64 0, .int .i64 0, .int .i64 0, .int .i64 0, .int .i64 0, .int .i64 0, .int .i64 0]) zv93 rfl) rfl rfl (fun b7 _ => ?_)
    refine s_s (S_storeA (vs := e.cells) rfl rfl sz93 (by rfl) (by rfl) up_ (by rfl)) rfl ?_
    refine s_nil ?_
    refine q_then ?_
    refine c_seq ?_
    refine c_seq ?_
    refine c_reg ?_
    refine s_y (Y_mv) rfl rfl ?_
    refine s_y (Y_fa 5 rfl Tryz.underlying93 rfl sz3 rfl) rfl rfl ?_
    refine s_y (yl_ one3) rfl rfl ?_
    refine s_y (Y_lss rfl rfl) rfl rfl ?_
    refine s_nil ?_
    refine q_then ?_
    first | refine c_cond' rfl (fun hc5 => ?_) (fun hc5 => ?_) | refine c_cond rfl (fun hc5 => ?_) (fun hc5 => ?_)
    · skip
      try simp only [nrm_] at hc5
      refine c_seq ?_
      refine c_reg ?_
      refine s_y (Y_fa 5 rfl Tryz.underlying34 rfl sz30 rfl) rfl rfl ?_
      refine s_y (yl_ one30) rfl rfl ?_
      refine s_y (Y_mv) rfl rfl ?_
      refine s_y (Y_fa 5 rfl Tryz.underlying93 rfl sz3 rfl) rfl rfl ?_
      refine s_y (yl_ one3) rfl rfl ?_
      refine s_y (Y_mv) rfl rfl ?_
      refine s_y su_ rfl rfl ?_
      refine s_y (Y_ia (n := i) rfl rfl Tryz.underlying30 sz93 rfl (by omega)) rfl rfl ?_
      refine s_y (Y_fa 5 rfl Tryz.underlying93 rfl sz3 rfl) rfl rfl ?_
      refine s_s (S_st (cs' := ecells (d.ents.set i { e with hp := e.hp - n })) rfl gt_ sz3 (by rfl) up_ (eset { e with hp := e.hp - n } he rfl rfl) (lt_e hil (by decide))) rfl ?_
      refine s_nil ?_
      refine q_then ?_
      refine c_seq ?_
      rw [hhu, if_pos hc5]
      refine c_reg ?_
      refine s_y (ya_ many34) rfl rfl ?_
      refine s_s ((sa_ sz34)) rfl ?_
      refine s_nil ?_
      refine q_then ?_
      refine c_ret ?_
      refine q_retW rfl rfl many34 ss_ l1 l2 l3
    · skip
      try simp only [nrm_] at hc5
      refine c_skip ?_
      refine q_then ?_
      refine c_seq ?_
      refine c_reg ?_
      refine s_y (Y_fa 5 rfl Tryz.underlying34 rfl sz30 rfl) rfl rfl ?_
      refine s_y (yl_ one30) rfl rfl ?_
      refine s_y (Y_mv) rfl rfl ?_
      refine s_c (En_call (fun _ => rfl) Tryz.func152 rfl (by kernel_rfl) rfl) (fun w hH => rfree_d (eSl hH (b := eb) (c := ec) (l := d.ents) mm_ z2 l2) (by omega) (by omega)) rfl rfl ?_
      rintro _ _ ⟨fb, fc, rfl, l4, rfl⟩
      refine s_y (Y_fa 5 rfl Tryz.underlying34 rfl sz30 rfl) rfl rfl ?_
      refine s_s (S_st (cs' := wL d ⟨cb, 0, cc, fb, 0, fc, ib, 0, ic⟩) rfl gt_ sz30 (by rfl) up_ (by rfl) (by simp only [List.length_cons, List.length_nil]; omega)) rfl ?_
      refine s_nil ?_
      refine q_then ?_
      refine c_seq ?_
      refine c_seq ?_
      have hfl : (freeE d.ents i).length = 32 := by unfold Go.Ad.freeE; split <;> simp [z2]
      refine c_reg ?_
      refine s_y (Y_fa 0 rfl Tryz.underlying93 rfl sz3 rfl) rfl rfl ?_
      refine s_y (yl_ one3) rfl rfl ?_
      refine s_y (Y_eql rfl rfl) rfl rfl ?_
      refine s_nil ?_
      refine q_then ?_
      first | refine c_cond' rfl (fun hc9 => ?_) (fun hc9 => ?_) | refine c_cond rfl (fun hc9 => ?_) (fun hc9 => ?_)
      · skip
        try simp only [nrm_] at hc9
        refine c_reg ?_
        refine s_y (ya_ many34) rfl rfl ?_
        refine s_y (Y_fa 2 rfl Tryz.underlying93 rfl sz3 rfl) rfl rfl ?_
        refine s_y (yl_ one3) rfl rfl ?_
        refine s_c (En_call (fun _ => rfl) Tryz.func188 rfl (by kernel_rfl) rfl) (fun w hH => rsweep_d (d := { d with ents := freeE d.ents i }) (wl_of hH (d := { d with ents := freeE d.ents i }) (cb := cb) (cc := cc) (eb := fb) (ec := fc) (ib := ib) (ic := ic) ⟨z1, hfl, z3⟩ mm_ mm_ mm_ l1 l4 l3)) rfl rfl ?_
        rintro _ _ ⟨cb2, cc2, eb2, ec2, ib2, ic2, rfl, rfl, m1, m2, m3⟩
        refine s_s (S_storeA (vs := wL d ⟨cb2, 0, cc2, eb2, 0, ec2, ib2, 0, ic2⟩) rfl rfl sz34 (by rfl) (by rfl) up_ (by rfl)) rfl ?_
        refine s_nil ?_
        refine q_then ?_
        refine c_seq ?_
        rw [hhu, if_neg hc5, if_pos hc9]
        refine c_reg ?_
        refine s_y (ya_ many34) rfl rfl ?_
        refine s_s ((sa_ sz34)) rfl ?_
        refine s_nil ?_
        refine q_then ?_
        refine c_ret ?_
        refine q_retW rfl rfl many34 ss_ m1 m2 m3
      · skip
        try simp only [nrm_] at hc9
        refine c_skip ?_
        refine q_then ?_
        refine c_seq ?_
        rw [hhu, if_neg hc5, if_neg hc9]
        refine c_reg ?_
        refine s_y (ya_ many34) rfl rfl ?_
        refine s_s ((sa_ sz34)) rfl ?_
        refine s_nil ?_
        refine q_then ?_
        refine c_ret ?_
        refine q_retW rfl rfl many34 ss_ l1 l4 l3
set_option maxRecDepth 100000 in
set_option maxHeartbeats 1600000 in
theorem rhit_d {d : Wd} {s : Ws} (hw : WL W d s) (hv : VW d) {f t : Int} : Does Tryz.prog 143 [.agg (wL d s).toArray, iv f, iv t] W [] (WN (hitM d f t)) := by
  obtain ⟨z1, z2, z3⟩ := hw.sz
  refine enter Tryz.func143 rfl rfl rfl (Has.start _) ?_
  refine c_seq ?_
  refine c_reg ?_
  refine s_n (N_box (cs := wL d s) rfl) rfl rfl (fun b3 _ => ?_)
  refine s_n (N_alloc (z := .agg #[.int .i64 0, .int .i64 0, .int .i64 0, .int .i64 0, .slice none 0 0, .slice none 0 0, .slice none 0 0, .int .i64 0, .int .i64 0, .int .i64 0, .int .i64 0]) (cs := [.int .i64 0, .int .i64 0, .int .i64 0, .int .i64 0, .slice none 0 0, .slice none 0 0, .slice none 0 0, .int .i64 0, .int .i64 0, .int .i64 0, .int .i64 0]) zv34 rfl) rfl rfl (fun b6 _ => ?_)
  refine s_nil ?_
  refine q_then ?_
  refine c_seq ?_
  refine c_seq ?_
  refine c_reg ?_
  refine s_y (ya_ many34) rfl rfl ?_
  refine s_y (Y_mv) rfl rfl ?_
  refine s_c (En_call (fun _ => rfl) Tryz.func150 rfl (by kernel_rfl) rfl) (fun w hH => rthere_d (hw.has hH)) rfl rfl ?_
  rintro _ _ ⟨rfl, rfl⟩
  refine s_y (Y_not rfl) rfl rfl ?_
  refine s_y (Y_mv) rfl rfl ?_
  apply s_or 5 [19, 20, 21, 22, 23, 24] 24 (g := 19) rfl rfl
  · intro ht5 hm
    try simp only [nrm_] at ht5
    first | refine s_y (ya_ many34) rfl rfl ?_ | refine s_pass rfl rfl ?_
    first | refine s_y (Y_mv) rfl rfl ?_ | refine s_pass rfl rfl ?_
    refine s_c (En_call (fun _ => rfl) Tryz.func150 rfl (by kernel_rfl) rfl) (fun w hH => rthere_d (hw.has hH)) rfl rfl ?_
    rintro _ _ ⟨rfl, rfl⟩
    first | refine s_y (Y_not rfl) rfl rfl ?_ | refine s_pass rfl rfl ?_
    refine s_y (Y_pk rfl Gx.const (Gx.tmp gt_)) rfl rfl ?_
    first | exact hm _ ⟨rfl, trivial⟩ rfl | exact QL.sub sl_ (hm _ ⟨rfl, trivial⟩ rfl)
  · intro ht5 hm
    iterate 4 refine s_pass rfl rfl ?_
    refine s_y (Y_pk rfl Gx.const (Gx.tmp gt_)) rfl rfl ?_
    exact hm _ ⟨rfl, trivial⟩ rfl
  intro j24
  refine s_nil ?_
  refine q_then ?_
  first | refine c_cond' rfl (fun hc1 => ?_) (fun hc1 => ?_) | refine c_cond rfl (fun hc1 => ?_) (fun hc1 => ?_)
  · skip
    try simp only [nrm_] at hc1
    refine c_seq ?_
    refine c_reg ?_
    refine s_y (ya_ many34) rfl rfl ?_
    refine s_c (En_call (fun _ => rfl) Tryz.func51 rfl (by kernel_rfl) rfl) (fun w hH => rtwin_d (hw.has hH)) rfl rfl ?_
    rintro _ _ ⟨cb, cc, eb, ec, ib, ic, rfl, rfl, l1, l2, l3⟩
    refine s_s (S_storeA (vs := wL d ⟨cb, 0, cc, eb, 0, ec, ib, 0, ic⟩) rfl rfl sz34 (by rfl) (by rfl) up_ (by rfl)) rfl ?_
    refine s_nil ?_
    refine q_then ?_
    refine c_ret ?_
    rw [show hitM d f t = d by unfold hitM; rw [if_pos (by omega)]]
    refine q_retW rfl rfl many34 ss_ l1 l2 l3
  · skip
    try simp only [nrm_] at hc1
    refine c_skip ?_
    refine q_then ?_
    obtain ⟨i, rfl, hi⟩ := egt_some (l := d.ents) (r := f) (by omega)
    obtain ⟨k, rfl, hk⟩ := egt_some (l := d.ents) (r := t) (by omega)
    obtain ⟨a, haa⟩ : ∃ q, egt d.ents (i : Int) = q := ⟨_, rfl⟩
    obtain ⟨b, hbb⟩ : ∃ q, egt d.ents (k : Int) = q := ⟨_, rfl⟩
    have hhi : hitM d i k = marksE (hurtM d k (max 1 ((a.atk + if a.kind = 1 then bonA d.items a.seat else 0) - (b.df + if b.kind = 1 then bonD d.items b.seat else 0)) + dieM 3 d.seed [d.frame, i, k, 77])) a.kind i k := by
      unfold hitM blowM; simp only; rw [if_neg (by omega), haa, hbb]
    rw [haa] at hi hc1
    rw [hbb] at hk hc1
    rw [hhi]
    clear hhi
    have hil := lt_of_get hi
    have hkl := lt_of_get hk
    have hia := (hv.ev.rowOf hi (by omega)).st
    have hkb := (hv.ev.rowOf hk (by omega)).st
    have hsa := stats_low a.kind
    have hsb := stats_low b.kind
    have hba := bon_rng d.items a.seat
    have hbd := bon_rng d.items b.seat
    have hra := hw.e.at' Ent.len hi
    have hrb := hw.e.at' Ent.len hk
    refine c_seq ?_
    refine c_meetQ (ks := [7, 8, 27, 28, 29, 30, 31, 32, 33, 34, 35, 36]) (tr := fun y : Nat × Nat => [(7, .pointer (some ⟨y.1, 0, none⟩)), (8, .pointer (some ⟨y.2, 0, none⟩))]) (φ := fun _ => True) (G := fun y => [e1B y.1 a, e1B y.2 b, wB b3 (wL d s), wB b6 wz]) (fun _ => rfl) ?_ ?_
    · rintro ⟨ab, bb⟩ j4 _
      refine q_then ?_
      refine c_seq ?_
      refine c_rord [] [(0, true), (1, true), (2, true), (3, true), (4, true), (5, true)] (by kernel_rfl) (by kernel_rfl) (by kernel_rfl) (by kernel_rfl) rfl (by intro c a d v w h; cases d <;> exact h) rfl ?_
      simp only [mkOrd, List.filterMap_cons, List.filterMap_nil, List.getElem?_toArray, List.getElem?_cons_zero, List.getElem?_cons_succ, Option.map_some]
      refine o_y (Y_fa 7 rfl Tryz.underlying93 rfl sz3 rfl) rfl rfl ?_
      refine o_y (yl_ one3) rfl rfl ?_
      refine o_y (Y_fa 8 rfl Tryz.underlying93 rfl sz3 rfl) rfl rfl ?_
      refine o_y (yl_ one3) rfl rfl ?_
      refine o_y (Y_as) rfl rfl ?_
      refine o_y (Y_as) rfl rfl ?_
      refine o_nil ?_
      refine q_then ?_
      refine c_seq ?_
      refine c_meetQ (ks := [9, 11, 12, 41, 42, 43, 44, 45, 46, 47, 48, 49, 50, 51, 52, 53]) (tr := fun y : Int => [(9, iv y)]) (φ := fun y => y = a.atk + (if a.kind = 1 then bonA d.items a.seat else 0) ∧ 0 ≤ y ∧ y ≤ 8) (G := fun y => [e1B ab a, e1B bb b, wB b3 (wL d s), wB b6 wz]) (fun _ => rfl) ?_ ?_
      · rintro at_ j8 ⟨hat, hat1, hat2⟩
        refine q_then ?_
        refine c_seq ?_
        refine c_meetQ (ks := [10, 13, 14, 54, 55, 56, 57, 58, 59, 60, 61, 62, 63, 64, 65, 66]) (tr := fun y : Int => [(10, iv y)]) (φ := fun y => y = b.df + (if b.kind = 1 then bonD d.items b.seat else 0) ∧ 0 ≤ y ∧ y ≤ 8) (G := fun y => [e1B ab a, e1B bb b, wB b3 (wL d s), wB b6 wz]) (fun _ => rfl) ?_ ?_
        · rintro df j11 ⟨hdf, hdf1, hdf2⟩
          refine q_then ?_
          refine c_seq ?_
          rw [← hat, ← hdf]
          have hd3 := dieM_rng (n := 3) (by decide) d.seed [d.frame, i, k, 77]
          obtain ⟨die, hdie⟩ : ∃ q, dieM 3 d.seed [d.frame, i, k, 77] = q := ⟨_, rfl⟩
          rw [hdie] at hd3 ⊢
          obtain ⟨nn, hnn⟩ : ∃ q, max 1 (at_ - df) + die = q := ⟨_, rfl⟩
          rw [hnn]
          refine c_rordS (L0 := [wB b3 (wL d s)]) sl_ [15, 16] [(0, true), (1, true), (2, true), (3, true), (4, true), (5, true), (6, true), (7, true), (8, true), (9, true), (10, true), (11, true), (12, false), (13, false), (14, true), (15, false), (16, false)] (by kernel_rfl) (by kernel_rfl) (by kernel_rfl) (by kernel_rfl) rfl (by intro c a d v w h; cases d <;> exact h) rfl ?_
          simp only [mkOrd, List.filterMap_cons, List.filterMap_nil, List.getElem?_toArray, List.getElem?_cons_zero, List.getElem?_cons_succ, Option.map_some]
          refine o_y (ya_ many34) rfl rfl ?_
          refine o_y (Y_mv) rfl rfl ?_
          refine o_y (Y_mv) rfl rfl ?_
          refine o_y (Y_mv) rfl rfl ?_
          refine o_y su_ rfl rfl ?_
          refine o_y (Y_max rfl rfl) rfl rfl ?_
          refine o_y (Y_fa 0 rfl Tryz.underlying34 rfl sz2 rfl) rfl rfl ?_
          refine o_y (yl_ one2) rfl rfl ?_
          refine o_y (Y_fa 1 rfl Tryz.underlying34 rfl sz3 rfl) rfl rfl ?_
          refine o_y (yl_ one3) rfl rfl ?_
          refine o_y (Y_mv) rfl rfl ?_
          refine o_y (Y_mv) rfl rfl ?_
          refine o_n (N_bs (xs := [.tmp 76, .tmp 77, .tmp 78, .const (Value.int Go.IntKind.i64 77)]) (by repeat (first | exact Gv.nil | apply Gv.const | apply Gv.tmp gt_)) rfl Tryz.underlying23 inf3 rfl (by omega) (by omega) (by first | simp [Value.oneCell'] | (intro v hv; simp at hv; subst hv; rfl))) (fun _ => kp_) rfl rfl (fun b79 _ => ?_)
          refine o_c (En_call (fun _ => rfl) Tryz.func149 rfl (by kernel_rfl) rfl) (fun w hH => rdie_d (l := [d.frame, i, k, 77]) (by decide) ((hH.at' (x := ⟨b79, 3, 1, 4, [iv d.frame, iv i, iv k, iv 77]⟩) mm_).sl rfl (Nat.le_refl _))) (fun _ _ h => by obtain ⟨rfl, rfl⟩ := h; exact kp_) rfl rfl ?_
          rintro _ _ ⟨rfl, rfl⟩
          rw [hdie]
          refine o_y ((Y_add rfl rfl (by omega)).num hnn) rfl rfl ?_
          refine o_c (En_call (fun _ => rfl) Tryz.func151 rfl (by kernel_rfl) rfl) (fun w hH => rhurt_d (hw.has hH) hv) (fun _ _ h => by obtain ⟨cb, cc, eb, ec, ib, ic, rfl, rfl, l1, l2, l3⟩ := h; exact kp_) rfl rfl ?_
          rintro _ _ ⟨cb, cc, eb, ec, ib, ic, rfl, rfl, l1, l2, l3⟩
          refine o_s (S_storeA (vs := wL (hurtM d k nn) ⟨cb, 0, cc, eb, 0, ec, ib, 0, ic⟩) rfl rfl sz34 (by rfl) (by rfl) up_ (by rfl)) kp_ rfl ?_
          refine o_nil ?_
          have hv1 := hv.hurt k nn
          obtain ⟨w1, hw1⟩ : ∃ q, hurtM d k nn = q := ⟨_, rfl⟩
          rw [hw1] at hv1 ⊢
          obtain ⟨y1, y2, y3⟩ := hv1.sz
          refine q_then ?_
          refine c_seq ?_
          refine c_seq ?_
          refine c_reg ?_
          refine s_y (ya_ many34) rfl rfl ?_
          refine s_y (Y_mv) rfl rfl ?_
          refine s_c (En_call (fun _ => rfl) Tryz.func150 rfl (by kernel_rfl) rfl) (fun w hH => rthere_d (wl_of (d := w1) hH hv1.sz (cb := cb) (cc := cc) (eb := eb) (ec := ec) (ib := ib) (ic := ic) mm_ mm_ mm_ l1 l2 l3)) rfl rfl ?_
          rintro _ _ ⟨rfl, rfl⟩
          refine s_y (Y_not rfl) rfl rfl ?_
          refine s_nil ?_
          refine q_then ?_
          first | refine c_cond' rfl (fun hc12 => ?_) (fun hc12 => ?_) | refine c_cond rfl (fun hc12 => ?_) (fun hc12 => ?_)
          · skip
            try simp only [nrm_] at hc12
            refine c_seq ?_
            refine c_reg ?_
            refine s_y (ya_ many34) rfl rfl ?_
            refine s_s ((sa_ sz34)) rfl ?_
            refine s_nil ?_
            refine q_then ?_
            refine c_ret ?_
            rw [show marksE w1 a.kind i k = w1 by unfold marksE; simp only; rw [if_pos (by omega)]]
            refine q_retW rfl rfl many34 ss_ l1 l2 l3
          · skip
            try simp only [nrm_] at hc12
            refine c_skip ?_
            refine q_then ?_
            refine c_seq ?_
            refine c_seq ?_
            have hme : marksE w1 a.kind i k = if a.kind = 4 then { w1 with ents := w1.ents.set k { egt w1.ents k with poison := min ((egt w1.ents k).poison + 3) 9 } } else if a.kind = 3 ∧ dieM 4 w1.seed [w1.frame, i, k, 78] = 0 then { w1 with ents := w1.ents.set k { egt w1.ents k with stun := min ((egt w1.ents k).stun + 2) 9 } } else w1 := by
              unfold marksE; simp only; rw [if_neg (by omega), Int.toNat_natCast]
            have he1 := eget_of (l := w1.ents) (r := (k : Int)) (by omega) (by omega)
            rw [Int.toNat_natCast] at he1
            obtain ⟨e1, hee⟩ : ∃ q, egt w1.ents (k : Int) = q := ⟨_, rfl⟩
            rw [hee] at he1 hme hc12
            have hea := (hv1.ev.rowOf he1 (by omega)).ail
            have hd4 := dieM_rng (n := 4) (by decide) w1.seed [w1.frame, i, k, 78]
            rw [hme]
            refine c_reg ?_
            refine s_y (Y_fa 0 rfl Tryz.underlying93 rfl sz3 rfl) rfl rfl ?_
            refine s_y (yl_ one3) rfl rfl ?_
            refine s_y (Y_eql rfl rfl) rfl rfl ?_
            refine s_nil ?_
            refine q_then ?_
            first | refine c_cond' rfl (fun hc14 => ?_) (fun hc14 => ?_) | refine c_cond rfl (fun hc14 => ?_) (fun hc14 => ?_)
            · skip
              try simp only [nrm_] at hc14
              refine c_rordS (L0 := [eB eb ec w1.ents, wB b3 (wL w1 ⟨cb, 0, cc, eb, 0, ec, ib, 0, ic⟩)]) sl_ [13] [(0, true), (1, true), (2, true), (3, true), (4, true), (5, true), (6, true), (7, true), (8, true), (9, true), (10, true), (11, true), (12, true), (13, false)] (by kernel_rfl) (by kernel_rfl) (by kernel_rfl) (by kernel_rfl) rfl (by intro c a d v w h; cases d <;> exact h) rfl ?_
              simp only [mkOrd, List.filterMap_cons, List.filterMap_nil, List.getElem?_toArray, List.getElem?_cons_zero, List.getElem?_cons_succ, Option.map_some]
              refine o_y (Y_fa 5 rfl Tryz.underlying34 rfl sz30 rfl) rfl rfl ?_
              refine o_y (yl_ one30) rfl rfl ?_
              refine o_y (Y_mv) rfl rfl ?_
              refine o_y (Y_fa 5 rfl Tryz.underlying34 rfl sz30 rfl) rfl rfl ?_
              refine o_y (yl_ one30) rfl rfl ?_
              refine o_y (Y_mv) rfl rfl ?_
              refine o_y (Y_ia (n := k) rfl rfl Tryz.underlying30 sz93 rfl (by omega)) rfl rfl ?_
              refine o_y (Y_fa 9 rfl Tryz.underlying93 rfl sz3 rfl) rfl rfl ?_
              refine o_y (Y_load (v := iv e1.poison) rfl one3 mm_ (eget he1 rfl)) rfl rfl ?_
              refine o_y ad_ rfl rfl ?_
              refine o_y (Y_min rfl rfl) rfl rfl ?_
              refine o_y (Y_ia (n := k) rfl rfl Tryz.underlying30 sz93 rfl (by omega)) rfl rfl ?_
              refine o_y (Y_fa 9 rfl Tryz.underlying93 rfl sz3 rfl) rfl rfl ?_
              refine o_s (S_st (cs' := ecells (w1.ents.set k { e1 with poison := min (e1.poison + 3) 9 })) rfl gt_ sz3 (by rfl) up_ (eset { e1 with poison := min (e1.poison + 3) 9 } he1 rfl rfl) (lt_e (by omega) (by decide))) kp_ rfl ?_
              refine o_nil ?_
              refine q_then ?_
              refine c_seq ?_
              refine c_seq ?_
              refine c_reg ?_
              refine s_y (Y_fa 0 rfl Tryz.underlying93 rfl sz3 rfl) rfl rfl ?_
              refine s_y (yl_ one3) rfl rfl ?_
              refine s_y (Y_eql rfl rfl) rfl rfl ?_
              refine s_y (Y_mv) rfl rfl ?_
              apply s_and 10 [107, 108, 109, 110, 111, 112, 113, 114, 115, 116, 117] 117 (g := 107) rfl rfl
              · intro ht4 hm
                try simp only [nrm_] at ht4
                first | refine s_y (Y_fa 0 rfl Tryz.underlying34 rfl sz2 rfl) rfl rfl ?_ | refine s_pass rfl rfl ?_
                first | refine s_y (yl_ one2) rfl rfl ?_ | refine s_pass rfl rfl ?_
                first | refine s_y (Y_fa 1 rfl Tryz.underlying34 rfl sz3 rfl) rfl rfl ?_ | refine s_pass rfl rfl ?_
                first | refine s_y (yl_ one3) rfl rfl ?_ | refine s_pass rfl rfl ?_
                first | refine s_y (Y_mv) rfl rfl ?_ | refine s_pass rfl rfl ?_
                first | refine s_y (Y_mv) rfl rfl ?_ | refine s_pass rfl rfl ?_
                first | refine s_n (N_bs (xs := [.tmp 111, .tmp 112, .tmp 113, .const (Value.int Go.IntKind.i64 78)]) (by repeat (first | exact Gv.nil | apply Gv.const | apply Gv.tmp gt_)) rfl Tryz.underlying23 inf3 rfl (by omega) (by omega) (by first | simp [Value.oneCell'] | (intro v hv; simp at hv; subst hv; rfl))) rfl rfl (fun b114 _ => ?_) | refine s_pass rfl rfl ?_
                refine s_c (En_call (fun _ => rfl) Tryz.func149 rfl (by kernel_rfl) rfl) (fun w hH => rdie_d (l := [w1.frame, i, k, 78]) (by decide) ((hH.at' (x := ⟨b114, 3, 1, 4, [iv w1.frame, iv i, iv k, iv 78]⟩) mm_).sl rfl (Nat.le_refl _))) rfl rfl ?_
                rintro _ _ ⟨rfl, rfl⟩
                first | refine s_y (Y_eql rfl rfl) rfl rfl ?_ | refine s_pass rfl rfl ?_
                refine s_y (Y_pk rfl (Gx.tmp gt_) Gx.const) rfl rfl ?_
                first | exact hm _ ⟨rfl, trivial⟩ rfl | exact QL.sub sl_ (hm _ ⟨rfl, trivial⟩ rfl)
              · intro ht4 hm
                iterate 9 refine s_pass rfl rfl ?_
                refine s_y (Y_pk rfl (Gx.tmp gt_) Gx.const) rfl rfl ?_
                exact hm _ ⟨rfl, trivial⟩ rfl
              intro j117
              refine s_nil ?_
              refine q_then ?_
              refine c_F rfl ((by rw [show decide (a.kind = 3) = false by simp; omega]; rfl)) ?_
              refine c_skip ?_
              refine q_then ?_
              refine c_seq ?_
              refine c_reg ?_
              refine s_y (ya_ many34) rfl rfl ?_
              refine s_s ((sa_ sz34)) rfl ?_
              refine s_nil ?_
              refine q_then ?_
              refine c_ret ?_
              rw [if_pos hc14]
              refine q_retW rfl rfl many34 ss_ l1 l2 l3
            · skip
              try simp only [nrm_] at hc14
              refine c_skip ?_
              refine q_then ?_
              refine c_seq ?_
              refine c_seq ?_
              refine c_reg ?_
              refine s_y (Y_fa 0 rfl Tryz.underlying93 rfl sz3 rfl) rfl rfl ?_
              refine s_y (yl_ one3) rfl rfl ?_
              refine s_y (Y_eql rfl rfl) rfl rfl ?_
              refine s_y (Y_mv) rfl rfl ?_
              apply s_and 10 [107, 108, 109, 110, 111, 112, 113, 114, 115, 116, 117] 117 (g := 107) rfl rfl
              · intro ht4 hm
                try simp only [nrm_] at ht4
                first | refine s_y (Y_fa 0 rfl Tryz.underlying34 rfl sz2 rfl) rfl rfl ?_ | refine s_pass rfl rfl ?_
                first | refine s_y (yl_ one2) rfl rfl ?_ | refine s_pass rfl rfl ?_
                first | refine s_y (Y_fa 1 rfl Tryz.underlying34 rfl sz3 rfl) rfl rfl ?_ | refine s_pass rfl rfl ?_
                first | refine s_y (yl_ one3) rfl rfl ?_ | refine s_pass rfl rfl ?_
                first | refine s_y (Y_mv) rfl rfl ?_ | refine s_pass rfl rfl ?_
                first | refine s_y (Y_mv) rfl rfl ?_ | refine s_pass rfl rfl ?_
                first | refine s_n (N_bs (xs := [.tmp 111, .tmp 112, .tmp 113, .const (Value.int Go.IntKind.i64 78)]) (by repeat (first | exact Gv.nil | apply Gv.const | apply Gv.tmp gt_)) rfl Tryz.underlying23 inf3 rfl (by omega) (by omega) (by first | simp [Value.oneCell'] | (intro v hv; simp at hv; subst hv; rfl))) rfl rfl (fun b114 _ => ?_) | refine s_pass rfl rfl ?_
                refine s_c (En_call (fun _ => rfl) Tryz.func149 rfl (by kernel_rfl) rfl) (fun w hH => rdie_d (l := [w1.frame, i, k, 78]) (by decide) ((hH.at' (x := ⟨b114, 3, 1, 4, [iv w1.frame, iv i, iv k, iv 78]⟩) mm_).sl rfl (Nat.le_refl _))) rfl rfl ?_
                rintro _ _ ⟨rfl, rfl⟩
                first | refine s_y (Y_eql rfl rfl) rfl rfl ?_ | refine s_pass rfl rfl ?_
                refine s_y (Y_pk rfl (Gx.tmp gt_) Gx.const) rfl rfl ?_
                first | exact hm _ ⟨rfl, trivial⟩ rfl | exact QL.sub sl_ (hm _ ⟨rfl, trivial⟩ rfl)
              · intro ht4 hm
                iterate 9 refine s_pass rfl rfl ?_
                refine s_y (Y_pk rfl (Gx.tmp gt_) Gx.const) rfl rfl ?_
                exact hm _ ⟨rfl, trivial⟩ rfl
              intro j117
              refine s_nil ?_
              refine q_then ?_
              first | refine c_cond' rfl (fun hc16 => ?_) (fun hc16 => ?_) | refine c_cond rfl (fun hc16 => ?_) (fun hc16 => ?_)
              · skip
                try simp only [nrm_] at hc16
                refine c_rordS (L0 := [eB eb ec w1.ents, wB b3 (wL w1 ⟨cb, 0, cc, eb, 0, ec, ib, 0, ic⟩)]) sl_ [13] [(0, true), (1, true), (2, true), (3, true), (4, true), (5, true), (6, true), (7, true), (8, true), (9, true), (10, true), (11, true), (12, true), (13, false)] (by kernel_rfl) (by kernel_rfl) (by kernel_rfl) (by kernel_rfl) rfl (by intro c a d v w h; cases d <;> exact h) rfl ?_
                simp only [mkOrd, List.filterMap_cons, List.filterMap_nil, List.getElem?_toArray, List.getElem?_cons_zero, List.getElem?_cons_succ, Option.map_some]
                refine o_y (Y_fa 5 rfl Tryz.underlying34 rfl sz30 rfl) rfl rfl ?_
                refine o_y (yl_ one30) rfl rfl ?_
                refine o_y (Y_mv) rfl rfl ?_
                refine o_y (Y_fa 5 rfl Tryz.underlying34 rfl sz30 rfl) rfl rfl ?_
                refine o_y (yl_ one30) rfl rfl ?_
                refine o_y (Y_mv) rfl rfl ?_
                refine o_y (Y_ia (n := k) rfl rfl Tryz.underlying30 sz93 rfl (by omega)) rfl rfl ?_
                refine o_y (Y_fa 10 rfl Tryz.underlying93 rfl sz3 rfl) rfl rfl ?_
                refine o_y (Y_load (v := iv e1.stun) rfl one3 mm_ (eget he1 rfl)) rfl rfl ?_
                refine o_y ad_ rfl rfl ?_
                refine o_y (Y_min rfl rfl) rfl rfl ?_
                refine o_y (Y_ia (n := k) rfl rfl Tryz.underlying30 sz93 rfl (by omega)) rfl rfl ?_
                refine o_y (Y_fa 10 rfl Tryz.underlying93 rfl sz3 rfl) rfl rfl ?_
                refine o_s (S_st (cs' := ecells (w1.ents.set k { e1 with stun := min (e1.stun + 2) 9 })) rfl gt_ sz3 (by rfl) up_ (eset { e1 with stun := min (e1.stun + 2) 9 } he1 rfl rfl) (lt_e (by omega) (by decide))) kp_ rfl ?_
                refine o_nil ?_
                refine q_then ?_
                refine c_seq ?_
                refine c_reg ?_
                refine s_y (ya_ many34) rfl rfl ?_
                refine s_s ((sa_ sz34)) rfl ?_
                refine s_nil ?_
                refine q_then ?_
                refine c_ret ?_
                rw [if_neg hc14, if_pos hc16]
                refine q_retW rfl rfl many34 ss_ l1 l2 l3
              · skip
                try simp only [nrm_] at hc16
                refine c_skip ?_
                refine q_then ?_
                refine c_seq ?_
                refine c_reg ?_
                refine s_y (ya_ many34) rfl rfl ?_
                refine s_s ((sa_ sz34)) rfl ?_
                refine s_nil ?_
                refine q_then ?_
                refine c_ret ?_
                rw [if_neg hc14, if_neg (by omega)]
                refine q_retW rfl rfl many34 ss_ l1 l2 l3
        · intro go
          refine c_seq ?_
          refine c_reg ?_
          refine s_y (Y_fa 0 rfl Tryz.underlying93 rfl sz3 rfl) rfl rfl ?_
          refine s_y (yl_ one3) rfl rfl ?_
          refine s_y (Y_eql rfl rfl) rfl rfl ?_
          refine s_nil ?_
          refine q_then ?_
          first | refine c_cond' rfl (fun hc8 => ?_) (fun hc8 => ?_) | refine c_cond rfl (fun hc8 => ?_) (fun hc8 => ?_)
          · skip
            try simp only [nrm_] at hc8
            refine c_seq ?_
            refine c_reg ?_
            refine s_y (ya_ many34) rfl rfl ?_
            refine s_y (Y_fa 2 rfl Tryz.underlying93 rfl sz3 rfl) rfl rfl ?_
            refine s_y (yl_ one3) rfl rfl ?_
            refine s_c (En_call (fun _ => rfl) Tryz.func183 rfl (by kernel_rfl) rfl) (fun w hH => rbonus_d (hw.has hH)) rfl rfl ?_
            rintro _ _ ⟨rfl, rfl⟩
            refine s_y (Y_mv) rfl rfl ?_
            refine s_y (Y_extract rfl rfl) rfl rfl ?_
            refine s_y (Y_extract rfl rfl) rfl rfl ?_
            refine s_y (Y_as) rfl rfl ?_
            refine s_y (Y_as) rfl rfl ?_
            refine s_nil ?_
            refine q_then ?_
            refine c_reg ?_
            refine s_y (Y_mv) rfl rfl ?_
            refine s_y (Y_mv) rfl rfl ?_
            refine s_y ad_ rfl rfl ?_
            refine s_y (Y_as) rfl rfl ?_
            refine s_nil ?_
            exact go (b.df + bonD d.items b.seat) _ _ ⟨by rw [if_pos hc8], by omega, by omega⟩ ⟨rfl, trivial⟩ rfl (fun w h => h.pick ss_)
          · skip
            try simp only [nrm_] at hc8
            refine c_skip ?_
            exact go b.df _ _ ⟨by rw [if_neg hc8]; omega, by omega, by omega⟩ ⟨rfl, trivial⟩ rfl (fun w h => h.pick ss_)
      · intro go
        refine c_seq ?_
        refine c_reg ?_
        refine s_y (Y_fa 0 rfl Tryz.underlying93 rfl sz3 rfl) rfl rfl ?_
        refine s_y (yl_ one3) rfl rfl ?_
        refine s_y (Y_eql rfl rfl) rfl rfl ?_
        refine s_nil ?_
        refine q_then ?_
        first | refine c_cond' rfl (fun hc5 => ?_) (fun hc5 => ?_) | refine c_cond rfl (fun hc5 => ?_) (fun hc5 => ?_)
        · skip
          try simp only [nrm_] at hc5
          refine c_seq ?_
          refine c_reg ?_
          refine s_y (ya_ many34) rfl rfl ?_
          refine s_y (Y_fa 2 rfl Tryz.underlying93 rfl sz3 rfl) rfl rfl ?_
          refine s_y (yl_ one3) rfl rfl ?_
          refine s_c (En_call (fun _ => rfl) Tryz.func183 rfl (by kernel_rfl) rfl) (fun w hH => rbonus_d (hw.has hH)) rfl rfl ?_
          rintro _ _ ⟨rfl, rfl⟩
          refine s_y (Y_mv) rfl rfl ?_
          refine s_y (Y_extract rfl rfl) rfl rfl ?_
          refine s_y (Y_extract rfl rfl) rfl rfl ?_
          refine s_y (Y_as) rfl rfl ?_
          refine s_y (Y_as) rfl rfl ?_
          refine s_nil ?_
          refine q_then ?_
          refine c_reg ?_
          refine s_y (Y_mv) rfl rfl ?_
          refine s_y (Y_mv) rfl rfl ?_
          refine s_y ad_ rfl rfl ?_
          refine s_y (Y_as) rfl rfl ?_
          refine s_nil ?_
          exact go (a.atk + bonA d.items a.seat) _ _ ⟨by rw [if_pos hc5], by omega, by omega⟩ ⟨rfl, trivial⟩ rfl (fun w h => h.pick ss_)
        · skip
          try simp only [nrm_] at hc5
          refine c_skip ?_
          exact go a.atk _ _ ⟨by rw [if_neg hc5]; omega, by omega, by omega⟩ ⟨rfl, trivial⟩ rfl (fun w h => h.pick ss_)
    · intro go
      refine c_rall (L0 := [wB b3 (wL d s)]) sl_ [13] (.take 0 (.take 1 (.take 2 (.take 3 (.take 4 (.take 5 (.take 6 (.take 7 (.take 8 (.take 9 (.alt 10 (.one 11 (.one 12 (.one 13 .nil))) (.one 11 (.one 10 (.one 12 (.one 13 .nil))))))))))))))) (by kernel_rfl) (by kernel_rfl) (by kernel_rfl) (by kernel_rfl) (by kernel_rfl) (by intro c a d v w h; cases d <;> exact h) rfl ?_
      refine t_y (Y_fa 5 rfl Tryz.underlying34 rfl sz30 rfl) rfl rfl ?_
      refine t_y (yl_ one30) rfl rfl ?_
      refine t_y (Y_mv) rfl rfl ?_
      refine t_y (Y_ia (n := i) rfl rfl Tryz.underlying30 sz93 rfl (by omega)) rfl rfl ?_
      refine t_y (Y_loadNR rfl many93 hra rfl) rfl rfl ?_
      refine t_y (Y_fa 5 rfl Tryz.underlying34 rfl sz30 rfl) rfl rfl ?_
      refine t_y (yl_ one30) rfl rfl ?_
      refine t_y (Y_mv) rfl rfl ?_
      refine t_y (Y_ia (n := k) rfl rfl Tryz.underlying30 sz93 rfl (by omega)) rfl rfl ?_
      refine t_y (Y_loadNR rfl many93 hrb rfl) rfl rfl ?_
      refine t_two ?_ ?_
      · skip
        refine t_n (N_alloc (z := .agg #[.int .i64 0, .int .i64 0, .int .i64 0, .int .i64 0, .int .i64 0, .int .i64 0, .int .i64 0, .int .i64 0, .int .i64 0, .int .i64 0, .int .i64 0]) (cs := [.int .i64 0, .int .i64 0, .int .i64 0, .int .i64 0, .int .i64 0, .int .i64 0, .int .i64 0, .int .i64 0, .int .i64 0, .int .i64 0, .int .i64 0]) zv93 rfl) (fun _ => kp_) rfl rfl (fun b7 _ => ?_)
        refine t_n (N_alloc (z := .agg #[.int .i64 0, .int .i64 0, .int .i64 0, .int .i64 0, .int .i64 0, .int .i64 0, .int .i64 0, .int .i64 0, .int .i64 0, .int .i64 0, .int .i64 0]) (cs := [.int .i64 0, .int .i64 0, .int .i64 0, .int .i64 0, .int .i64 0, .int .i64 0, .int .i64 0, .int .i64 0, .int .i64 0, .int .i64 0, .int .i64 0]) zv93 rfl) (fun _ => kp_) rfl rfl (fun b8 _ => ?_)
        refine t_s (S_storeA (vs := a.cells) rfl rfl sz93 (by rfl) (by rfl) up_ (by rfl)) kp_ rfl ?_
        refine t_s (S_storeA (vs := b.cells) rfl rfl sz93 (by rfl) (by rfl) up_ (by rfl)) kp_ rfl ?_
        refine t_nil ?_
        exact go (b7, b8) _ _ trivial ⟨rfl, rfl, trivial⟩ rfl (fun w h => h.pick ss_)
      refine t_n (N_alloc (z := .agg #[.int .i64 0, .int .i64 0, .int .i64 0, .int .i64 0, .int .i64 0, .int .i64 0, .int .i64 0, .int .i64 0, .int .i64 0, .int .i64 0, .int .i64 0]) (cs := [.int .i64 0, .int .i64 0, .int .i64 0, .int .i64 0, .int .i64 0, .int .i64 0, .int .i64 0, .int .i64 0, .int .i64 0, .int .i64 0, .int .i64 0]) zv93 rfl) (fun _ => kp_) rfl rfl (fun b8 _ => ?_)
      refine t_n (N_alloc (z := .agg #[.int .i64 0, .int .i64 0, .int .i64 0, .int .i64 0, .int .i64 0, .int .i64 0, .int .i64 0, .int .i64 0, .int .i64 0, .int .i64 0, .int .i64 0]) (cs := [.int .i64 0, .int .i64 0, .int .i64 0, .int .i64 0, .int .i64 0, .int .i64 0, .int .i64 0, .int .i64 0, .int .i64 0, .int .i64 0, .int .i64 0]) zv93 rfl) (fun _ => kp_) rfl rfl (fun b7 _ => ?_)
      refine t_s (S_storeA (vs := a.cells) rfl rfl sz93 (by rfl) (by rfl) up_ (by rfl)) kp_ rfl ?_
      refine t_s (S_storeA (vs := b.cells) rfl rfl sz93 (by rfl) (by rfl) up_ (by rfl)) kp_ rfl ?_
      refine t_nil ?_
      exact go (b7, b8) _ _ trivial ⟨rfl, rfl, trivial⟩ rfl (fun w h => h.pick ss_)
theorem VW.ailMid {d : Wd} (h : VW d) {i : Nat} {e e1 : Ent} (he : d.ents[i]? = some e) (hk : e.kind ≠ 0) (h1 : e1 = if 0 < e.stun then { e with stun := e.stun - 1 } else e) (hp : 0 < e.poison) : VW { d with ents := d.ents.set i { e1 with poison := e.poison - 1 } } := by
  have hw := h.ev.rowOf he hk
  have ha := hw.ail
  refine h.ents (by simp) (h.ev.same he ?_ ?_ ?_ ?_)
  · subst h1
    split
    · exact ⟨hw.kind, hw.walk, hw.hp, hw.st, by simp only; omega, hw.gen, hw.seat⟩
    · exact ⟨hw.kind, hw.walk, hw.hp, hw.st, by simp only; omega, hw.gen, hw.seat⟩
  all_goals
    subst h1
    split <;> first | rfl | exact ⟨rfl, rfl⟩
set_option maxRecDepth 100000 in
set_option maxHeartbeats 800000 in
theorem rail_d {d : Wd} {s : Ws} (hw : WL W d s) (hv : VW d) : Does Tryz.prog 94 [.agg (wL d s).toArray] W [] (WN (ailM d)) := by
  obtain ⟨z1, z2, z3⟩ := hw.sz
  refine enter Tryz.func94 rfl rfl rfl (Has.start _) ?_
  refine c_seq ?_
  refine c_reg ?_
  refine s_n (N_box (cs := wL d s) rfl) rfl rfl (fun b1 _ => ?_)
  refine s_n (N_alloc (z := .agg #[.int .i64 0, .int .i64 0, .int .i64 0, .int .i64 0, .slice none 0 0, .slice none 0 0, .slice none 0 0, .int .i64 0, .int .i64 0, .int .i64 0, .int .i64 0]) (cs := [.int .i64 0, .int .i64 0, .int .i64 0, .int .i64 0, .slice none 0 0, .slice none 0 0, .slice none 0 0, .int .i64 0, .int .i64 0, .int .i64 0, .int .i64 0]) zv34 rfl) rfl rfl (fun b2 _ => ?_)
  refine s_nil ?_
  refine q_then ?_
  refine c_seq ?_
  refine c_reg ?_
  refine s_y (ya_ many34) rfl rfl ?_
  refine s_c (En_call (fun _ => rfl) Tryz.func51 rfl (by kernel_rfl) rfl) (fun w hH => rtwin_d (hw.has hH)) rfl rfl ?_
  rintro _ _ ⟨cb, cc, eb, ec, ib, ic, rfl, rfl, l1, l2, l3⟩
  refine s_s (S_storeA (vs := wL d ⟨cb, 0, cc, eb, 0, ec, ib, 0, ic⟩) rfl rfl sz34 (by rfl) (by rfl) up_ (by rfl)) rfl ?_
  refine s_nil ?_
  refine q_then ?_
  refine c_seq ?_
  refine c_seq ?_
  refine c_reg ?_
  refine s_y (Y_asC) rfl rfl ?_
  refine s_nil ?_
  refine q_then ?_
  refine c_block ?_
  refine c_loop [3, 6, 7, 8, 9, 10, 11, 12, 13, 14, 15, 16, 17, 18, 19, 20, 21, 22, 23, 24, 25, 26, 27, 28, 29, 30, 31, 32, 33, 34, 35, 36, 37, 38, 39, 40, 41, 42, 43, 44, 45, 46, 47, 48, 49, 50, 51] (fun m (y : Nat × Wd × Nat × Nat × Nat × Nat × Nat × Nat) => y.1 + m = 32 ∧ y.2.1 = ailF d y.1 ∧ 384 ≤ y.2.2.2.1 ∧ 32 ≤ y.2.2.2.2.2.1 ∧ 40 ≤ y.2.2.2.2.2.2.2) (fun y => [(3, iv y.1)]) (fun y => [cB y.2.2.1 y.2.2.2.1 y.2.1.cells, eB y.2.2.2.2.1 y.2.2.2.2.2.1 y.2.1.ents, iB y.2.2.2.2.2.2.1 y.2.2.2.2.2.2.2 y.2.1.items, wB b2 wz, wB b1 (wL y.2.1 ⟨y.2.2.1, 0, y.2.2.2.1, y.2.2.2.2.1, 0, y.2.2.2.2.2.1, y.2.2.2.2.2.2.1, 0, y.2.2.2.2.2.2.2⟩)]) (32) ((0, d, cb, cc, eb, ec, ib, ic)) (⟨rfl, rfl, l1, l2, l3⟩) (by repeat (first | exact trivial | refine ⟨rfl, ?_⟩)) (fun _ h => h.sub sl_) (fun _ => rfl) ?_
  rintro m ⟨i, u, cb, cc, eb, ec, ib, ic⟩ j ⟨hi, hwi, l1, l2, l3⟩ K hK
  simp only at hi hwi l1 l2 l3 ⊢
  have hv1 : VW u := by rw [hwi]; exact hv.ail i
  obtain ⟨y1, y2, y3⟩ := hv1.sz
  have hst : ailF d (i + 1) = ailOne u i := by rw [hwi]; rfl
  refine c_seq ?_
  refine c_seq ?_
  refine c_reg ?_
  refine s_y (Y_mv) rfl rfl ?_
  refine s_y (Y_fa 5 rfl Tryz.underlying34 rfl sz30 rfl) rfl rfl ?_
  refine s_y (yl_ one30) rfl rfl ?_
  refine s_y (Y_len rfl rfl Tryz.underlying30) rfl rfl ?_
  refine s_y (Y_lss rfl rfl) rfl rfl ?_
  refine s_nil ?_
  refine q_then ?_
  first | refine c_cond' rfl (fun hc3 => ?_) (fun hc3 => ?_) | refine c_cond rfl (fun hc3 => ?_) (fun hc3 => ?_)
  · skip
    try simp only [nrm_] at hc3
    refine c_skip ?_
    refine q_then ?_
    refine c_seq ?_
    refine c_block ?_
    refine c_seq ?_
    refine c_seq ?_
    refine c_reg ?_
    refine s_y (ya_ many34) rfl rfl ?_
    refine s_y (Y_mv) rfl rfl ?_
    refine s_c (En_call (fun _ => rfl) Tryz.func150 rfl (by kernel_rfl) rfl) (fun w hH => rthere_d (wl_of (d := u) hH hv1.sz (cb := cb) (cc := cc) (eb := eb) (ec := ec) (ib := ib) (ic := ic) mm_ mm_ mm_ l1 l2 l3)) rfl rfl ?_
    rintro _ _ ⟨rfl, rfl⟩
    refine s_y (Y_not rfl) rfl rfl ?_
    refine s_nil ?_
    refine q_then ?_
    first | refine c_cond' rfl (fun hc5 => ?_) (fun hc5 => ?_) | refine c_cond rfl (fun hc5 => ?_) (fun hc5 => ?_)
    · skip
      try simp only [nrm_] at hc5
      refine c_exit ?_
      repeat with_reducible refine q_te ?_
      refine q_exit ?_
      refine q_then ?_
      refine c_reg ?_
      refine s_y (Y_mv) rfl rfl ?_
      refine s_y ad_ rfl rfl ?_
      refine s_y (Y_as) rfl rfl ?_
      refine s_nil ?_
      refine hK (m - 1) (i + 1, u, cb, cc, eb, ec, ib, ic) _ _ (by omega) ⟨by simp only; omega, by simp only; rw [hst]; unfold ailOne; simp only; rw [if_pos (by omega)], l1, l2, l3⟩ ⟨rfl, trivial⟩ rfl (fun w h => h.pick ss_)
    · skip
      try simp only [nrm_] at hc5
      refine c_skip ?_
      refine q_then ?_
      have he := eget_of (l := u.ents) (r := (i : Int)) (by omega) (by omega)
      rw [Int.toNat_natCast] at he
      obtain ⟨e, hee⟩ : ∃ q, egt u.ents (i : Int) = q := ⟨_, rfl⟩
      rw [hee] at he hc5
      have hil := lt_of_get he
      have ha := (hv1.ev.rowOf he hc5).ail
      have hao : ailOne u i = if 0 < e.poison then hurtM { u with ents := u.ents.set i { (if 0 < e.stun then { e with stun := e.stun - 1 } else e : Ent) with poison := e.poison - 1 } } i 1 else { u with ents := u.ents.set i (if 0 < e.stun then { e with stun := e.stun - 1 } else e) } := by
        unfold ailOne; simp only; rw [hee, if_neg hc5]
      rw [hao] at hst
      refine c_seq ?_
      refine c_meetQ (ks := [17, 18, 19, 20, 21, 22, 23, 24, 25, 26, 27, 28, 29, 30, 31, 32]) (tr := fun _ : Ent => []) (φ := fun e1 => e1 = (if 0 < e.stun then { e with stun := e.stun - 1 } else e) ∧ e1.poison = e.poison) (G := fun e1 => [cB cb cc u.cells, eB eb ec (u.ents.set i e1), iB ib ic u.items, wB b2 wz, wB b1 (wL u ⟨cb, 0, cc, eb, 0, ec, ib, 0, ic⟩)]) (fun _ => rfl) ?_ ?_
      · rintro e1 j8 ⟨he1, hp1⟩
        refine q_then ?_
        refine c_seq ?_
        rw [← he1] at hst
        have hge := set_get (a := e1) hil
        refine c_reg ?_
        refine s_y (Y_fa 5 rfl Tryz.underlying34 rfl sz30 rfl) rfl rfl ?_
        refine s_y (yl_ one30) rfl rfl ?_
        refine s_y (Y_mv) rfl rfl ?_
        refine s_y (Y_ia (n := i) rfl rfl Tryz.underlying30 sz93 rfl (by omega)) rfl rfl ?_
        refine s_y (Y_fa 9 rfl Tryz.underlying93 rfl sz3 rfl) rfl rfl ?_
        refine s_y (Y_load (v := iv e1.poison) rfl one3 mm_ (eget hge rfl)) rfl rfl ?_
        refine s_y (Y_gtr rfl rfl) rfl rfl ?_
        refine s_nil ?_
        refine q_then ?_
        first | refine c_cond' rfl (fun hc8 => ?_) (fun hc8 => ?_) | refine c_cond rfl (fun hc8 => ?_) (fun hc8 => ?_)
        · skip
          try simp only [nrm_] at hc8
          refine c_seq ?_
          refine c_reg ?_
          refine s_y (Y_fa 5 rfl Tryz.underlying34 rfl sz30 rfl) rfl rfl ?_
          refine s_y (yl_ one30) rfl rfl ?_
          refine s_y (Y_mv) rfl rfl ?_
          refine s_y (Y_ia (n := i) rfl rfl Tryz.underlying30 sz93 rfl (by omega)) rfl rfl ?_
          refine s_y (Y_fa 9 rfl Tryz.underlying93 rfl sz3 rfl) rfl rfl ?_
          refine s_y (Y_load (v := iv e1.poison) rfl one3 mm_ (eget hge rfl)) rfl rfl ?_
          refine s_y su_ rfl rfl ?_
          refine s_y (Y_ia (n := i) rfl rfl Tryz.underlying30 sz93 rfl (by omega)) rfl rfl ?_
          refine s_y (Y_fa 9 rfl Tryz.underlying93 rfl sz3 rfl) rfl rfl ?_
          refine s_s (S_st (cs' := ecells (u.ents.set i { e1 with poison := e.poison - 1 })) rfl gt_ sz3 (by rfl) up_ (eset2 e1 { e1 with poison := e.poison - 1 } hil (by rw [← hp1]; rfl) rfl) (lt_e (by rw [List.length_set]; exact hil) (by decide))) rfl ?_
          refine s_nil ?_
          refine q_then ?_
          have hv2 := hv1.ailMid he hc5 he1 (by omega)
          refine c_reg ?_
          refine s_y (ya_ many34) rfl rfl ?_
          refine s_y (Y_mv) rfl rfl ?_
          refine s_c (En_call (fun _ => rfl) Tryz.func151 rfl (by kernel_rfl) rfl) (fun w hH => rhurt_d (d := { u with ents := u.ents.set i { e1 with poison := e.poison - 1 } }) (wl_of (d := { u with ents := u.ents.set i { e1 with poison := e.poison - 1 } }) hH hv2.sz (cb := cb) (cc := cc) (eb := eb) (ec := ec) (ib := ib) (ic := ic) mm_ mm_ mm_ l1 l2 l3) hv2) rfl rfl ?_
          rintro _ _ ⟨cb2, cc2, eb2, ec2, ib2, ic2, rfl, rfl, m1, m2, m3⟩
          refine s_s (S_storeA (vs := wL (hurtM { u with ents := u.ents.set i { e1 with poison := e.poison - 1 } } i 1) ⟨cb2, 0, cc2, eb2, 0, ec2, ib2, 0, ic2⟩) rfl rfl sz34 (by rfl) (by rfl) up_ (by rfl)) rfl ?_
          refine s_nil ?_
          refine q_bn ?_
          refine q_then ?_
          refine c_reg ?_
          refine s_y (Y_mv) rfl rfl ?_
          refine s_y ad_ rfl rfl ?_
          refine s_y (Y_as) rfl rfl ?_
          refine s_nil ?_
          refine hK (m - 1) (i + 1, hurtM { u with ents := u.ents.set i { e1 with poison := e.poison - 1 } } i 1, cb2, cc2, eb2, ec2, ib2, ic2) _ _ (by omega) ⟨by simp only; omega, by simp only; rw [hst, if_pos (by omega)], m1, m2, m3⟩ ⟨rfl, trivial⟩ rfl (fun w h => h.pick ss_)
        · skip
          try simp only [nrm_] at hc8
          refine c_skip ?_
          refine q_bn ?_
          refine q_then ?_
          refine c_reg ?_
          refine s_y (Y_mv) rfl rfl ?_
          refine s_y ad_ rfl rfl ?_
          refine s_y (Y_as) rfl rfl ?_
          refine s_nil ?_
          refine hK (m - 1) (i + 1, { u with ents := u.ents.set i e1 }, cb, cc, eb, ec, ib, ic) _ _ (by omega) ⟨by simp only; omega, by simp only; rw [hst, if_neg (by omega)], l1, l2, l3⟩ ⟨rfl, trivial⟩ rfl (fun w h => h.pick ss_)
      · intro go
        refine c_seq ?_
        refine c_reg ?_
        refine s_y (Y_fa 5 rfl Tryz.underlying34 rfl sz30 rfl) rfl rfl ?_
        refine s_y (yl_ one30) rfl rfl ?_
        refine s_y (Y_mv) rfl rfl ?_
        refine s_y (Y_ia (n := i) rfl rfl Tryz.underlying30 sz93 rfl (by omega)) rfl rfl ?_
        refine s_y (Y_fa 10 rfl Tryz.underlying93 rfl sz3 rfl) rfl rfl ?_
        refine s_y (yl_ one3) rfl rfl ?_
        refine s_y (Y_gtr rfl rfl) rfl rfl ?_
        refine s_nil ?_
        refine q_then ?_
        first | refine c_cond' rfl (fun hc6 => ?_) (fun hc6 => ?_) | refine c_cond rfl (fun hc6 => ?_) (fun hc6 => ?_)
        · skip
          try simp only [nrm_] at hc6
          refine c_reg ?_
          refine s_y (Y_fa 5 rfl Tryz.underlying34 rfl sz30 rfl) rfl rfl ?_
          refine s_y (yl_ one30) rfl rfl ?_
          refine s_y (Y_mv) rfl rfl ?_
          refine s_y (Y_ia (n := i) rfl rfl Tryz.underlying30 sz93 rfl (by omega)) rfl rfl ?_
          refine s_y (Y_fa 10 rfl Tryz.underlying93 rfl sz3 rfl) rfl rfl ?_
          refine s_y (yl_ one3) rfl rfl ?_
          refine s_y su_ rfl rfl ?_
          refine s_y (Y_ia (n := i) rfl rfl Tryz.underlying30 sz93 rfl (by omega)) rfl rfl ?_
          refine s_y (Y_fa 10 rfl Tryz.underlying93 rfl sz3 rfl) rfl rfl ?_
          refine s_s (S_st (cs' := ecells (u.ents.set i { e with stun := e.stun - 1 })) rfl gt_ sz3 (by rfl) up_ (eset { e with stun := e.stun - 1 } he rfl rfl) (lt_e hil (by decide))) rfl ?_
          refine s_nil ?_
          exact go { e with stun := e.stun - 1 } _ _ ⟨by rw [if_pos hc6], rfl⟩ trivial rfl (fun w h => h.pick ss_)
        · skip
          try simp only [nrm_] at hc6
          refine c_skip ?_
          exact go e _ _ ⟨by rw [if_neg hc6], rfl⟩ trivial rfl (fun w h => by rw [set_same he]; exact h.pick ss_)
  · skip
    try simp only [nrm_] at hc3
    refine c_exit ?_
    repeat with_reducible refine q_te ?_
    refine q_exit ?_
    refine q_then ?_
    refine c_seq ?_
    refine c_reg ?_
    refine s_y (ya_ many34) rfl rfl ?_
    refine s_s ((sa_ sz34)) rfl ?_
    refine s_nil ?_
    refine q_then ?_
    refine c_ret ?_
    rw [show ailM d = u by rw [hwi, show i = 32 by omega]; rfl]
    refine q_retW rfl rfl many34 ss_ l1 l2 l3
end
end Go.Proofs.YtcogbkkdccohfaaGreat
namespace Go.Ad
open Go.RowKit Go.Maps Go.Proofs.YtcogbkkdccohfaaGreat
theorem prey_none {c : List UInt8} {l : List Ent} {e : Ent} {s : Nat} (h : eHero l s < 0) : preyF c l e (s + 1) = preyF c l e s := by
  rw [preyF]; simp only; rw [if_pos h]
theorem prey_some {c : List UInt8} {l : List Ent} {e f : Ent} {s k : Nat} {p : Int × Int} (hk : eHero l s = (k : Int)) (hf : l[k]? = some f) (hp : preyF c l e s = p) : preyF c l e (s + 1) = if farD (f.x - e.x) (f.y - e.y) ≤ 1536 ∧ seesM c e.x e.y f.x f.y = true ∧ (p.2 < 0 ∨ farD (f.x - e.x) (f.y - e.y) < p.1) then (farD (f.x - e.x) (f.y - e.y), (k : Int)) else p := by
  rw [preyF]; simp only; rw [hk, if_neg (by omega), egt_of hf, hp]
theorem ent_in {cells : List UInt8} {e : Ent} (h : ERow cells e) : 0 ≤ e.x ∧ e.x < 24 ∧ 0 ≤ e.y ∧ e.y < 16 := lt_in (at_in h.walk)
theorem eAt_rng (l : List Ent) (x y : Int) : eAt l x y < 0 ∨ (0 ≤ eAt l x y ∧ eAt l x y < l.length) := by
  rcases fnd_lt (p := fun e : Ent => decide (e.kind ≠ 0 ∧ e.x = x ∧ e.y = y)) l 0 with h | ⟨j, x, h1, h2, _⟩
  · exact .inl h
  · have := (List.getElem?_eq_some_iff.1 h2).1
    have e : eAt l _ y = ((0 + j : Nat) : Int) := h1
    omega
end Go.Ad
namespace Go.Proofs.YtcogbkkdccohfaaGreat
open Go.RowKit Go.Ad Go.Maps
set_option linter.unusedVariables false
set_option linter.unusedSimpArgs false
section
variable {W : World}
set_option maxRecDepth 100000 in
set_option maxHeartbeats 1600000 in
theorem rmonster_d {d : Wd} {s : Ws} (hw : WL W d s) (hv : VW d) {i : Nat} (hi : i < 32) : Does Tryz.prog 93 [.agg (wL d s).toArray, iv i] W [] (fun v L => v = iv (monsterM d i) ∧ L = []) := by
  obtain ⟨z1, z2, z3⟩ := hw.sz
  obtain ⟨e, he⟩ := take_lt (show i < d.ents.length by omega)
  have hee := egt_of he
  have hre := hw.e.at' Ent.len he
  refine enter Tryz.func93 rfl rfl rfl (Has.start _) ?_
  refine c_seq ?_
  refine c_reg ?_
  refine s_n (N_box (cs := wL d s) rfl) rfl rfl (fun b2 _ => ?_)
  refine s_y (Y_asC) rfl rfl ?_
  refine s_nil ?_
  refine q_then ?_
  refine c_seq ?_
  refine c_seq ?_
  refine c_reg ?_
  refine s_y (Y_mv) rfl rfl ?_
  refine s_y (Y_lss rfl rfl) rfl rfl ?_
  refine s_y (Y_mv) rfl rfl ?_
  apply s_or 6 [21, 22, 23, 24, 25, 26, 27] 27 (g := 21) rfl rfl
  · intro ht3 hm
    try simp only [nrm_] at ht3
    first | refine s_y (Y_mv) rfl rfl ?_ | refine s_pass rfl rfl ?_
    first | refine s_y (Y_fa 5 rfl Tryz.underlying34 rfl sz30 rfl) rfl rfl ?_ | refine s_pass rfl rfl ?_
    first | refine s_y (yl_ one30) rfl rfl ?_ | refine s_pass rfl rfl ?_
    first | refine s_y (Y_len rfl rfl Tryz.underlying30) rfl rfl ?_ | refine s_pass rfl rfl ?_
    first | refine s_y (Y_geq rfl rfl) rfl rfl ?_ | refine s_pass rfl rfl ?_
    refine s_y (Y_pk rfl Gx.const (Gx.tmp gt_)) rfl rfl ?_
    first | exact hm _ ⟨rfl, trivial⟩ rfl | exact QL.sub sl_ (hm _ ⟨rfl, trivial⟩ rfl)
  · intro ht3 hm
    iterate 5 refine s_pass rfl rfl ?_
    refine s_y (Y_pk rfl Gx.const (Gx.tmp gt_)) rfl rfl ?_
    exact hm _ ⟨rfl, trivial⟩ rfl
  intro j27
  refine s_y (Y_mv) rfl rfl ?_
  apply s_or 8 [28, 29, 30, 31, 32, 33, 34, 35, 36] 36 (g := 28) rfl rfl
  · intro ht10 hm
    try simp only [nrm_] at ht10
    first | refine s_y (Y_fa 5 rfl Tryz.underlying34 rfl sz30 rfl) rfl rfl ?_ | refine s_pass rfl rfl ?_
    first | refine s_y (yl_ one30) rfl rfl ?_ | refine s_pass rfl rfl ?_
    first | refine s_y (Y_mv) rfl rfl ?_ | refine s_pass rfl rfl ?_
    first | refine s_y (Y_ia (n := i) rfl rfl Tryz.underlying30 sz93 rfl (by omega)) rfl rfl ?_ | refine s_pass rfl rfl ?_
    first | refine s_y (Y_fa 0 rfl Tryz.underlying93 rfl sz3 rfl) rfl rfl ?_ | refine s_pass rfl rfl ?_
    first | refine s_y (Y_loadR (v := iv e.kind) (i := 0) rfl one3 hre rfl rfl) rfl rfl ?_ | refine s_pass rfl rfl ?_
    first | refine s_y (Y_eql rfl rfl) rfl rfl ?_ | refine s_pass rfl rfl ?_
    refine s_y (Y_pk rfl Gx.const (Gx.tmp gt_)) rfl rfl ?_
    first | exact hm _ ⟨rfl, trivial⟩ rfl | exact QL.sub sl_ (hm _ ⟨rfl, trivial⟩ rfl)
  · intro ht10 hm
    iterate 7 refine s_pass rfl rfl ?_
    refine s_y (Y_pk rfl Gx.const (Gx.tmp gt_)) rfl rfl ?_
    exact hm _ ⟨rfl, trivial⟩ rfl
  intro j36
  refine s_y (Y_mv) rfl rfl ?_
  apply s_or 8 [37, 38, 39, 40, 41, 42, 43, 44, 45] 45 (g := 37) rfl rfl
  · intro ht19 hm
    try simp only [nrm_] at ht19
    first | refine s_y (Y_fa 5 rfl Tryz.underlying34 rfl sz30 rfl) rfl rfl ?_ | refine s_pass rfl rfl ?_
    first | refine s_y (yl_ one30) rfl rfl ?_ | refine s_pass rfl rfl ?_
    first | refine s_y (Y_mv) rfl rfl ?_ | refine s_pass rfl rfl ?_
    first | refine s_y (Y_ia (n := i) rfl rfl Tryz.underlying30 sz93 rfl (by omega)) rfl rfl ?_ | refine s_pass rfl rfl ?_
    first | refine s_y (Y_fa 0 rfl Tryz.underlying93 rfl sz3 rfl) rfl rfl ?_ | refine s_pass rfl rfl ?_
    first | refine s_y (Y_loadR (v := iv e.kind) (i := 0) rfl one3 hre rfl rfl) rfl rfl ?_ | refine s_pass rfl rfl ?_
    first | refine s_y (Y_eql rfl rfl) rfl rfl ?_ | refine s_pass rfl rfl ?_
    refine s_y (Y_pk rfl Gx.const (Gx.tmp gt_)) rfl rfl ?_
    first | exact hm _ ⟨rfl, trivial⟩ rfl | exact QL.sub sl_ (hm _ ⟨rfl, trivial⟩ rfl)
  · intro ht19 hm
    iterate 7 refine s_pass rfl rfl ?_
    refine s_y (Y_pk rfl Gx.const (Gx.tmp gt_)) rfl rfl ?_
    exact hm _ ⟨rfl, trivial⟩ rfl
  intro j45
  refine s_nil ?_
  refine q_then ?_
  first | refine c_cond' rfl (fun hc1 => ?_) (fun hc1 => ?_) | refine c_cond rfl (fun hc1 => ?_) (fun hc1 => ?_)
  · skip
    try simp only [nrm_] at hc1
    refine c_seq ?_
    refine c_reg ?_
    refine s_y (Y_asC) rfl rfl ?_
    refine s_nil ?_
    refine q_then ?_
    refine c_ret ?_
    refine q_retG1 rfl gt_ (L' := _) sl_ (⟨by unfold monsterM; simp only; rw [hee, if_pos (by omega)], rfl⟩)
  · skip
    try simp only [nrm_] at hc1
    refine c_skip ?_
    refine q_then ?_
    refine c_seq ?_
    have hk : e.kind ≠ 0 ∧ e.kind ≠ 1 := by omega
    have her := hv.ev.rowOf he hk.1
    have hxy := ent_in her
    have hmo : monsterM d i = if 0 ≤ (preyF d.cells d.ents e 4).2 then (if 0 < besideM e.x e.y (egt d.ents (preyF d.cells d.ents e 4).2).x (egt d.ents (preyF d.cells d.ents e 4).2).y then besideM e.x e.y (egt d.ents (preyF d.cells d.ents e 4).2).x (egt d.ents (preyF d.cells d.ents e 4).2).y else towardsM d.cells d.ents e.x e.y [(egt d.ents (preyF d.cells d.ents e 4).2).y * 24 + (egt d.ents (preyF d.cells d.ents e 4).2).x]) else roamM d i := by
      unfold monsterM; simp only; rw [hee, if_neg (by omega)]
    rw [hmo]
    clear hmo hc1
    refine c_reg ?_
    refine s_y (Y_fa 5 rfl Tryz.underlying34 rfl sz30 rfl) rfl rfl ?_
    refine s_y (yl_ one30) rfl rfl ?_
    refine s_y (Y_mv) rfl rfl ?_
    refine s_y (Y_ia (n := i) rfl rfl Tryz.underlying30 sz93 rfl (by omega)) rfl rfl ?_
    refine s_y (Y_loadNR rfl many93 hre rfl) rfl rfl ?_
    refine s_n (N_alloc (z := .agg #[.int .i64 0, .int .i64 0, .int .i64 0, .int .i64 0, .int .i64 0, .int .i64 0, .int .i64 0, .int .i64 0, .int .i64 0, .int .i64 0, .int .i64 0]) (cs := [.int .i64 0, .int .i64 0, .int .i64 0, .int .i64 0, .int .i64 0, .int .i64 0, .int .i64 0, .int .i64 0, .int .i64 0, .int .i64 0, .int .i64 0]) zv93 rfl) rfl rfl (fun b5 _ => ?_)
    refine s_s (S_storeA (vs := e.cells) rfl rfl sz93 (by rfl) (by rfl) up_ (by rfl)) rfl ?_
    refine s_nil ?_
    refine q_then ?_
    refine c_seq ?_
    refine c_reg ?_
    refine s_y (Y_asC) rfl rfl ?_
    refine s_y (Y_asC) rfl rfl ?_
    refine s_nil ?_
    refine q_then ?_
    refine c_seq ?_
    refine c_seq ?_
    refine c_reg ?_
    refine s_y (Y_asC) rfl rfl ?_
    refine s_nil ?_
    refine q_then ?_
    refine c_block ?_
    refine c_loop [6, 7, 8, 9, 10, 11, 12, 51, 52, 53, 54, 55, 56, 57, 58, 59, 60, 61, 62, 63, 64, 65, 66, 67, 68, 69, 70, 71, 72, 73, 74, 75, 76, 77, 78, 79, 80, 81, 82, 83, 84, 85, 86, 87, 88, 89, 90, 91, 92, 93, 94, 95, 96, 97, 98, 99, 100, 101, 102, 103, 104, 105] (fun m (y : Nat × Int × Int) => y.1 + m = 4 ∧ preyF d.cells d.ents e y.1 = (y.2.1, y.2.2) ∧ (0 ≤ y.2.2 → y.2.2 < 32 ∧ (egt d.ents y.2.2).kind = 1)) (fun y => [(8, iv y.1), (6, iv y.2.1), (7, iv y.2.2)]) (fun _ => [e1B b5 e, wB b2 (wL d s)]) (4) ((0, 0, -1)) (⟨rfl, rfl, fun h => absurd h (by simp only; decide)⟩) (by repeat (first | exact trivial | refine ⟨rfl, ?_⟩)) (fun _ h => h.sub sl_) (fun _ => rfl) ?_
    rintro m ⟨q, n, a⟩ j ⟨hq, hp, ha⟩ K hK
    simp only at hq hp ha ⊢
    refine c_seq ?_
    refine c_seq ?_
    refine c_reg ?_
    refine s_y (Y_mv) rfl rfl ?_
    refine s_y (Y_lss rfl rfl) rfl rfl ?_
    refine s_nil ?_
    refine q_then ?_
    first | refine c_cond' rfl (fun hc6 => ?_) (fun hc6 => ?_) | refine c_cond rfl (fun hc6 => ?_) (fun hc6 => ?_)
    · skip
      try simp only [nrm_] at hc6
      refine c_skip ?_
      refine q_then ?_
      refine c_seq ?_
      refine c_block ?_
      refine c_seq ?_
      refine c_reg ?_
      refine s_y (Y_fa 5 rfl Tryz.underlying34 rfl sz30 rfl) rfl rfl ?_
      refine s_y (yl_ one30) rfl rfl ?_
      refine s_y (Y_mv) rfl rfl ?_
      refine s_c (En_call (fun _ => rfl) Tryz.func54 rfl (by kernel_rfl) rfl) (fun w hH => rhero_d (hw.e.has hH)) rfl rfl ?_
      rintro _ _ ⟨rfl, rfl⟩
      refine s_y (Y_as) rfl rfl ?_
      refine s_nil ?_
      refine q_then ?_
      refine c_seq ?_
      refine c_seq ?_
      refine c_reg ?_
      refine s_y (Y_mv) rfl rfl ?_
      refine s_y (Y_lss rfl rfl) rfl rfl ?_
      refine s_nil ?_
      refine q_then ?_
      first | refine c_cond' rfl (fun hc9 => ?_) (fun hc9 => ?_) | refine c_cond rfl (fun hc9 => ?_) (fun hc9 => ?_)
      · skip
        try simp only [nrm_] at hc9
        refine c_exit ?_
        repeat with_reducible refine q_te ?_
        refine q_exit ?_
        refine q_then ?_
        refine c_reg ?_
        refine s_y (Y_mv) rfl rfl ?_
        refine s_y ad_ rfl rfl ?_
        refine s_y (Y_as) rfl rfl ?_
        refine s_nil ?_
        refine hK (m - 1) (q + 1, n, a) _ _ (by omega) ⟨by simp only; omega, by simp only; rw [prey_none hc9]; exact hp, ha⟩ ⟨rfl, rfl, rfl, trivial⟩ rfl (fun w h => h)
      · skip
        try simp only [nrm_] at hc9
        refine c_skip ?_
        refine q_then ?_
        refine c_seq ?_
        obtain ⟨k, f, hk1, hf, hf1, hf2⟩ := eHero_some (rfl : eHero d.ents q = _) (by omega)
        have hfr := ent_in (hv.ev.rowOf hf (by omega))
        have hkl := lt_of_get hf
        have hrf := hw.e.at' Ent.len hf
        have hst := prey_some hk1 hf hp
        rw [hk1]
        refine c_rord [] [(0, true), (1, true), (2, true), (3, true), (4, true), (5, true), (6, true), (7, true), (8, true), (9, true), (10, true), (11, true), (12, true), (13, true)] (by kernel_rfl) (by kernel_rfl) (by kernel_rfl) (by kernel_rfl) rfl (by intro c a d v w h; cases d <;> exact h) rfl ?_
        simp only [mkOrd, List.filterMap_cons, List.filterMap_nil, List.getElem?_toArray, List.getElem?_cons_zero, List.getElem?_cons_succ, Option.map_some]
        refine o_y (Y_fa 5 rfl Tryz.underlying34 rfl sz30 rfl) rfl rfl ?_
        refine o_y (yl_ one30) rfl rfl ?_
        refine o_y (Y_mv) rfl rfl ?_
        refine o_y (Y_ia (n := k) rfl rfl Tryz.underlying30 sz93 rfl (by omega)) rfl rfl ?_
        refine o_y (Y_fa 3 rfl Tryz.underlying93 rfl sz3 rfl) rfl rfl ?_
        refine o_y (Y_loadR (v := iv f.x) (i := 3) rfl one3 hrf rfl rfl) rfl rfl ?_
        refine o_y (Y_fa 5 rfl Tryz.underlying34 rfl sz30 rfl) rfl rfl ?_
        refine o_y (yl_ one30) rfl rfl ?_
        refine o_y (Y_mv) rfl rfl ?_
        refine o_y (Y_ia (n := k) rfl rfl Tryz.underlying30 sz93 rfl (by omega)) rfl rfl ?_
        refine o_y (Y_fa 4 rfl Tryz.underlying93 rfl sz3 rfl) rfl rfl ?_
        refine o_y (Y_loadR (v := iv f.y) (i := 4) rfl one3 hrf rfl rfl) rfl rfl ?_
        refine o_y (Y_as) rfl rfl ?_
        refine o_y (Y_as) rfl rfl ?_
        refine o_nil ?_
        refine q_then ?_
        refine c_seq ?_
        refine c_reg ?_
        refine s_y (Y_mv) rfl rfl ?_
        refine s_y (Y_fa 3 rfl Tryz.underlying93 rfl sz3 rfl) rfl rfl ?_
        refine s_y (yl_ one3) rfl rfl ?_
        refine s_y su_ rfl rfl ?_
        refine s_y (Y_mv) rfl rfl ?_
        refine s_y (Y_fa 4 rfl Tryz.underlying93 rfl sz3 rfl) rfl rfl ?_
        refine s_y (yl_ one3) rfl rfl ?_
        refine s_y su_ rfl rfl ?_
        refine s_c (En_call (fun _ => rfl) Tryz.func146 rfl (by kernel_rfl) rfl) (fun w hH => rdist_d (by omega) (by omega)) rfl rfl ?_
        rintro _ _ ⟨rfl, rfl⟩
        refine s_y (Y_as) rfl rfl ?_
        refine s_nil ?_
        obtain ⟨far, hfar⟩ : ∃ z, farD (f.x - e.x) (f.y - e.y) = z := ⟨_, rfl⟩
        rw [hfar] at hst ⊢
        refine q_then ?_
        refine c_seq ?_
        refine c_reg ?_
        refine s_y (Y_mv) rfl rfl ?_
        refine s_y (Y_leq rfl rfl) rfl rfl ?_
        refine s_y (Y_mv) rfl rfl ?_
        apply s_and 10 [84, 85, 86, 87, 88, 89, 90, 91, 92, 93, 94] 94 (g := 84) rfl rfl
        · intro ht3 hm
          try simp only [nrm_] at ht3
          first | refine s_y (Y_fa 4 rfl Tryz.underlying34 rfl sz24 rfl) rfl rfl ?_ | refine s_pass rfl rfl ?_
          first | refine s_y (yl_ one24) rfl rfl ?_ | refine s_pass rfl rfl ?_
          first | refine s_y (Y_fa 3 rfl Tryz.underlying93 rfl sz3 rfl) rfl rfl ?_ | refine s_pass rfl rfl ?_
          first | refine s_y (yl_ one3) rfl rfl ?_ | refine s_pass rfl rfl ?_
          first | refine s_y (Y_fa 4 rfl Tryz.underlying93 rfl sz3 rfl) rfl rfl ?_ | refine s_pass rfl rfl ?_
          first | refine s_y (yl_ one3) rfl rfl ?_ | refine s_pass rfl rfl ?_
          first | refine s_y (Y_mv) rfl rfl ?_ | refine s_pass rfl rfl ?_
          first | refine s_y (Y_mv) rfl rfl ?_ | refine s_pass rfl rfl ?_
          refine s_c (En_call (fun _ => rfl) Tryz.func147 rfl (by kernel_rfl) rfl) (fun w hH => rsees_d (hw.c.has hH)) rfl rfl ?_
          rintro _ _ ⟨rfl, rfl⟩
          refine s_y (Y_pk rfl (Gx.tmp gt_) Gx.const) rfl rfl ?_
          first | exact hm _ ⟨rfl, trivial⟩ rfl | exact QL.sub sl_ (hm _ ⟨rfl, trivial⟩ rfl)
        · intro ht3 hm
          iterate 9 refine s_pass rfl rfl ?_
          refine s_y (Y_pk rfl (Gx.tmp gt_) Gx.const) rfl rfl ?_
          exact hm _ ⟨rfl, trivial⟩ rfl
        intro j94
        refine s_y (Y_mv) rfl rfl ?_
        apply s_and 8 [95, 96, 97, 98, 99, 100, 101, 102, 103] 103 (g := 95) rfl rfl
        · intro ht14 hm
          try simp only [nrm_] at ht14
          first | refine s_y (Y_mv) rfl rfl ?_ | refine s_pass rfl rfl ?_
          first | refine s_y (Y_lss rfl rfl) rfl rfl ?_ | refine s_pass rfl rfl ?_
          first | refine s_y (Y_mv) rfl rfl ?_ | refine s_pass rfl rfl ?_
          apply s_or 4 [98, 99, 100, 101, 102] 102 (g := 98) rfl rfl
          · intro ht17 hm
            try simp only [nrm_] at ht17
            first | refine s_y (Y_mv) rfl rfl ?_ | refine s_pass rfl rfl ?_
            first | refine s_y (Y_mv) rfl rfl ?_ | refine s_pass rfl rfl ?_
            first | refine s_y (Y_lss rfl rfl) rfl rfl ?_ | refine s_pass rfl rfl ?_
            first | refine s_y (Y_pk rfl Gx.const (Gx.tmp gt_)) rfl rfl ?_ | refine s_pass rfl rfl ?_
            first | exact hm _ ⟨rfl, trivial⟩ rfl | exact QL.sub sl_ (hm _ ⟨rfl, trivial⟩ rfl)
          · intro ht17 hm
            iterate 3 refine s_pass rfl rfl ?_
            first | refine s_y (Y_pk rfl Gx.const (Gx.tmp gt_)) rfl rfl ?_ | refine s_pass rfl rfl ?_
            exact hm _ ⟨rfl, trivial⟩ rfl
          intro j102
          refine s_y (Y_pk rfl (Gx.tmp gt_) Gx.const) rfl rfl ?_
          first | exact hm _ ⟨rfl, trivial⟩ rfl | exact QL.sub sl_ (hm _ ⟨rfl, trivial⟩ rfl)
        · intro ht14 hm
          iterate 7 refine s_pass rfl rfl ?_
          refine s_y (Y_pk rfl (Gx.tmp gt_) Gx.const) rfl rfl ?_
          exact hm _ ⟨rfl, trivial⟩ rfl
        intro j103
        refine s_nil ?_
        refine q_then ?_
        first | refine c_cond' rfl (fun hc12 => ?_) (fun hc12 => ?_) | refine c_cond rfl (fun hc12 => ?_) (fun hc12 => ?_)
        · skip
          try simp only [nrm_] at hc12
          refine c_reg ?_
          refine s_y (Y_mv) rfl rfl ?_
          refine s_y (Y_mv) rfl rfl ?_
          refine s_y (Y_as) rfl rfl ?_
          refine s_y (Y_as) rfl rfl ?_
          refine s_nil ?_
          refine q_bn ?_
          refine q_then ?_
          refine c_reg ?_
          refine s_y (Y_mv) rfl rfl ?_
          refine s_y ad_ rfl rfl ?_
          refine s_y (Y_as) rfl rfl ?_
          refine s_nil ?_
          refine hK (m - 1) (q + 1, far, (k : Int)) _ _ (by omega) ⟨by simp only; omega, by simp only; rw [hst, if_pos ⟨hc12.1.1, hc12.1.2, hc12.2⟩], fun _ => ⟨by simp only; omega, by simp only; rw [egt_of hf]; exact hf1⟩⟩ ⟨rfl, rfl, rfl, trivial⟩ rfl (fun w h => h)
        · skip
          try simp only [nrm_] at hc12
          refine c_skip ?_
          refine q_bn ?_
          refine q_then ?_
          refine c_reg ?_
          refine s_y (Y_mv) rfl rfl ?_
          refine s_y ad_ rfl rfl ?_
          refine s_y (Y_as) rfl rfl ?_
          refine s_nil ?_
          refine hK (m - 1) (q + 1, n, a) _ _ (by omega) ⟨by simp only; omega, ?_, ha⟩ ⟨rfl, rfl, rfl, trivial⟩ rfl (fun w h => h)
          simp only; rw [hst, if_neg]
          rintro ⟨q1, q2, q3⟩
          rcases hc12 with (h | h) | h
          · exact h q1
          · rw [q2] at h; cases h
          · exact h.elim (fun a b => by omega)
    · skip
      try simp only [nrm_] at hc6
      refine c_exit ?_
      repeat with_reducible refine q_te ?_
      refine q_exit ?_
      refine q_then ?_
      refine c_seq ?_
      refine c_seq ?_
      obtain rfl : q = 4 := by omega
      rw [hp]
      simp only
      refine c_reg ?_
      refine s_y (Y_mv) rfl rfl ?_
      refine s_y (Y_geq rfl rfl) rfl rfl ?_
      refine s_nil ?_
      refine q_then ?_
      first | refine c_cond' rfl (fun hc14 => ?_) (fun hc14 => ?_) | refine c_cond rfl (fun hc14 => ?_) (fun hc14 => ?_)
      · skip
        try simp only [nrm_] at hc14
        refine c_seq ?_
        rw [if_pos hc14]
        obtain ⟨hal, hak⟩ := ha hc14
        obtain ⟨k, rfl, hf⟩ := egt_some (l := d.ents) (r := a) (by omega)
        obtain ⟨f, hff⟩ : ∃ z, egt d.ents (k : Int) = z := ⟨_, rfl⟩
        rw [hff] at hf hak ⊢
        have hfr := ent_in (hv.ev.rowOf hf (by omega))
        have hrf := hw.e.at' Ent.len hf
        refine c_rord [] [(0, true), (1, true), (2, true), (3, true), (4, true), (5, true), (6, true), (7, true), (8, true), (9, true), (10, true), (11, true), (12, true), (13, true)] (by kernel_rfl) (by kernel_rfl) (by kernel_rfl) (by kernel_rfl) rfl (by intro c a d v w h; cases d <;> exact h) rfl ?_
        simp only [mkOrd, List.filterMap_cons, List.filterMap_nil, List.getElem?_toArray, List.getElem?_cons_zero, List.getElem?_cons_succ, Option.map_some]
        refine o_y (Y_fa 5 rfl Tryz.underlying34 rfl sz30 rfl) rfl rfl ?_
        refine o_y (yl_ one30) rfl rfl ?_
        refine o_y (Y_mv) rfl rfl ?_
        refine o_y (Y_ia (n := k) rfl rfl Tryz.underlying30 sz93 rfl (by omega)) rfl rfl ?_
        refine o_y (Y_fa 3 rfl Tryz.underlying93 rfl sz3 rfl) rfl rfl ?_
        refine o_y (Y_loadR (v := iv f.x) (i := 3) rfl one3 hrf rfl rfl) rfl rfl ?_
        refine o_y (Y_fa 5 rfl Tryz.underlying34 rfl sz30 rfl) rfl rfl ?_
        refine o_y (yl_ one30) rfl rfl ?_
        refine o_y (Y_mv) rfl rfl ?_
        refine o_y (Y_ia (n := k) rfl rfl Tryz.underlying30 sz93 rfl (by omega)) rfl rfl ?_
        refine o_y (Y_fa 4 rfl Tryz.underlying93 rfl sz3 rfl) rfl rfl ?_
        refine o_y (Y_loadR (v := iv f.y) (i := 4) rfl one3 hrf rfl rfl) rfl rfl ?_
        refine o_y (Y_as) rfl rfl ?_
        refine o_y (Y_as) rfl rfl ?_
        refine o_nil ?_
        refine q_then ?_
        refine c_seq ?_
        refine c_reg ?_
        refine s_y (Y_fa 3 rfl Tryz.underlying93 rfl sz3 rfl) rfl rfl ?_
        refine s_y (yl_ one3) rfl rfl ?_
        refine s_y (Y_fa 4 rfl Tryz.underlying93 rfl sz3 rfl) rfl rfl ?_
        refine s_y (yl_ one3) rfl rfl ?_
        refine s_y (Y_mv) rfl rfl ?_
        refine s_y (Y_mv) rfl rfl ?_
        refine s_c (En_call (fun _ => rfl) Tryz.func148 rfl (by kernel_rfl) rfl) (fun w hH => rbeside_d (by omega) (by omega)) rfl rfl ?_
        rintro _ _ ⟨rfl, rfl⟩
        refine s_y (Y_as) rfl rfl ?_
        refine s_nil ?_
        refine q_then ?_
        refine c_seq ?_
        refine c_seq ?_
        refine c_reg ?_
        refine s_y (Y_mv) rfl rfl ?_
        refine s_y (Y_gtr rfl rfl) rfl rfl ?_
        refine s_nil ?_
        refine q_then ?_
        first | refine c_cond' rfl (fun hc17 => ?_) (fun hc17 => ?_) | refine c_cond rfl (fun hc17 => ?_) (fun hc17 => ?_)
        · skip
          try simp only [nrm_] at hc17
          refine c_seq ?_
          refine c_reg ?_
          refine s_y (Y_mv) rfl rfl ?_
          refine s_y (Y_as) rfl rfl ?_
          refine s_nil ?_
          refine q_then ?_
          refine c_ret ?_
          refine q_retG1 rfl gt_ (L' := _) sl_ (⟨by rw [if_pos (by omega)], rfl⟩)
        · skip
          try simp only [nrm_] at hc17
          refine c_skip ?_
          refine q_then ?_
          refine c_seq ?_
          refine c_reg ?_
          refine s_y (Y_fa 4 rfl Tryz.underlying34 rfl sz24 rfl) rfl rfl ?_
          refine s_y (yl_ one24) rfl rfl ?_
          refine s_y (Y_fa 5 rfl Tryz.underlying34 rfl sz30 rfl) rfl rfl ?_
          refine s_y (yl_ one30) rfl rfl ?_
          refine s_y (Y_fa 3 rfl Tryz.underlying93 rfl sz3 rfl) rfl rfl ?_
          refine s_y (yl_ one3) rfl rfl ?_
          refine s_y (Y_fa 4 rfl Tryz.underlying93 rfl sz3 rfl) rfl rfl ?_
          refine s_y (yl_ one3) rfl rfl ?_
          refine s_y (Y_mv) rfl rfl ?_
          refine s_y mu_ rfl rfl ?_
          refine s_y (Y_mv) rfl rfl ?_
          refine s_y ad_ rfl rfl ?_
          refine s_n (N_bs (xs := [.tmp 141]) (by repeat (first | exact Gv.nil | apply Gv.const | apply Gv.tmp gt_)) rfl Tryz.underlying23 inf3 rfl (by omega) (by omega) (by first | simp [Value.oneCell'] | (intro v hv; simp at hv; subst hv; rfl))) rfl rfl (fun b142 _ => ?_)
          refine s_c (En_call (fun _ => rfl) Tryz.func142 rfl (by kernel_rfl) rfl) (fun w hH => rtoward_nav_d (hw.c.has hH) (hw.e.has hH) (by omega) (ts := [f.y * 24 + f.x]) ((hH.at' (x := ⟨b142, 3, 1, 1, [iv (f.y * 24 + f.x)]⟩) mm_).sl rfl (Nat.le_refl _))) rfl rfl ?_
          rintro _ _ ⟨rfl, rfl⟩
          refine s_y (Y_as) rfl rfl ?_
          refine s_nil ?_
          refine q_then ?_
          refine c_ret ?_
          refine q_retG1 rfl gt_ (L' := _) sl_ (⟨by rw [if_neg (by omega)], rfl⟩)
      · skip
        try simp only [nrm_] at hc14
        refine c_skip ?_
        refine q_then ?_
        refine c_seq ?_
        rw [if_neg hc14]
        have hrm : roamM d i = if 1 ≤ dieM 8 d.seed [d.frame, i, 90] ∧ dieM 8 d.seed [d.frame, i, 90] ≤ 4 ∧ walkM (atM d.cells (e.x + wx (dieM 8 d.seed [d.frame, i, 90])) (e.y + wy (dieM 8 d.seed [d.frame, i, 90]))) = true ∧ eAt d.ents (e.x + wx (dieM 8 d.seed [d.frame, i, 90])) (e.y + wy (dieM 8 d.seed [d.frame, i, 90])) < 0 then dieM 8 d.seed [d.frame, i, 90] else 0 := by
          unfold roamM; simp only; rw [hee]
        rw [hrm]
        clear hrm
        refine c_reg ?_
        refine s_y (Y_fa 0 rfl Tryz.underlying34 rfl sz2 rfl) rfl rfl ?_
        refine s_y (yl_ one2) rfl rfl ?_
        refine s_y (Y_fa 1 rfl Tryz.underlying34 rfl sz3 rfl) rfl rfl ?_
        refine s_y (yl_ one3) rfl rfl ?_
        refine s_y (Y_mv) rfl rfl ?_
        refine s_n (N_bs (xs := [.tmp 147, .tmp 148, .const (Value.int Go.IntKind.i64 90)]) (by repeat (first | exact Gv.nil | apply Gv.const | apply Gv.tmp gt_)) rfl Tryz.underlying23 inf3 rfl (by omega) (by omega) (by first | simp [Value.oneCell'] | (intro v hv; simp at hv; subst hv; rfl))) rfl rfl (fun b149 _ => ?_)
        refine s_c (En_call (fun _ => rfl) Tryz.func149 rfl (by kernel_rfl) rfl) (fun w hH => rdie_d (l := [d.frame, i, 90]) (by decide) ((hH.at' (x := ⟨b149, 3, 1, 3, [iv d.frame, iv i, iv 90]⟩) mm_).sl rfl (Nat.le_refl _))) rfl rfl ?_
        rintro _ _ ⟨rfl, rfl⟩
        refine s_y (Y_as) rfl rfl ?_
        refine s_nil ?_
        obtain ⟨die, hdie⟩ : ∃ z, dieM 8 d.seed [d.frame, i, 90] = z := ⟨_, rfl⟩
        rw [hdie]
        have hwr := way_rng die
        refine q_then ?_
        refine c_seq ?_
        refine c_seq ?_
        refine c_reg ?_
        refine s_y (Y_mv) rfl rfl ?_
        refine s_y (Y_geq rfl rfl) rfl rfl ?_
        refine s_y (Y_mv) rfl rfl ?_
        apply s_and 3 [153, 154, 155, 156] 156 (g := 153) rfl rfl
        · intro ht3 hm
          try simp only [nrm_] at ht3
          first | refine s_y (Y_mv) rfl rfl ?_ | refine s_pass rfl rfl ?_
          first | refine s_y (Y_leq rfl rfl) rfl rfl ?_ | refine s_pass rfl rfl ?_
          refine s_y (Y_pk rfl (Gx.tmp gt_) Gx.const) rfl rfl ?_
          first | exact hm _ ⟨rfl, trivial⟩ rfl | exact QL.sub sl_ (hm _ ⟨rfl, trivial⟩ rfl)
        · intro ht3 hm
          iterate 2 refine s_pass rfl rfl ?_
          refine s_y (Y_pk rfl (Gx.tmp gt_) Gx.const) rfl rfl ?_
          exact hm _ ⟨rfl, trivial⟩ rfl
        intro j156
        refine s_nil ?_
        refine q_then ?_
        first | refine c_cond' rfl (fun hc21 => ?_) (fun hc21 => ?_) | refine c_cond rfl (fun hc21 => ?_) (fun hc21 => ?_)
        · skip
          try simp only [nrm_] at hc21
          refine c_seq ?_
          refine c_reg ?_
          refine s_y (Y_mv) rfl rfl ?_
          refine s_c (En_call (fun _ => rfl) Tryz.func140 rfl (by kernel_rfl) rfl) (fun w hH => rway_d) rfl rfl ?_
          rintro _ _ ⟨rfl, rfl⟩
          refine s_y (Y_mv) rfl rfl ?_
          refine s_y (Y_extract rfl rfl) rfl rfl ?_
          refine s_y (Y_extract rfl rfl) rfl rfl ?_
          refine s_y (Y_as) rfl rfl ?_
          refine s_y (Y_as) rfl rfl ?_
          refine s_nil ?_
          refine q_then ?_
          refine c_seq ?_
          refine c_reg ?_
          refine s_y (Y_fa 4 rfl Tryz.underlying34 rfl sz24 rfl) rfl rfl ?_
          refine s_y (yl_ one24) rfl rfl ?_
          refine s_y (Y_fa 3 rfl Tryz.underlying93 rfl sz3 rfl) rfl rfl ?_
          refine s_y (yl_ one3) rfl rfl ?_
          refine s_y (Y_mv) rfl rfl ?_
          refine s_y ad_ rfl rfl ?_
          refine s_y (Y_fa 4 rfl Tryz.underlying93 rfl sz3 rfl) rfl rfl ?_
          refine s_y (yl_ one3) rfl rfl ?_
          refine s_y (Y_mv) rfl rfl ?_
          refine s_y ad_ rfl rfl ?_
          refine s_c (En_call (fun _ => rfl) Tryz.func91 rfl (by kernel_rfl) rfl) (fun w hH => rat_d (hw.c.has hH)) rfl rfl ?_
          rintro _ _ ⟨rfl, rfl⟩
          refine s_c (En_call (fun _ => rfl) Tryz.func97 rfl (by kernel_rfl) rfl) (fun w hH => rwalk_d) rfl rfl ?_
          rintro _ _ ⟨rfl, rfl⟩
          refine s_y (Y_mv) rfl rfl ?_
          apply s_and 13 [174, 175, 176, 177, 178, 179, 180, 181, 182, 183, 184, 185, 186, 187] 187 (g := 174) rfl rfl
          · intro ht13 hm
            try simp only [nrm_] at ht13
            first | refine s_y (Y_fa 5 rfl Tryz.underlying34 rfl sz30 rfl) rfl rfl ?_ | refine s_pass rfl rfl ?_
            first | refine s_y (yl_ one30) rfl rfl ?_ | refine s_pass rfl rfl ?_
            first | refine s_y (Y_fa 3 rfl Tryz.underlying93 rfl sz3 rfl) rfl rfl ?_ | refine s_pass rfl rfl ?_
            first | refine s_y (yl_ one3) rfl rfl ?_ | refine s_pass rfl rfl ?_
            first | refine s_y (Y_mv) rfl rfl ?_ | refine s_pass rfl rfl ?_
            first | refine s_y ad_ rfl rfl ?_ | refine s_pass rfl rfl ?_
            first | refine s_y (Y_fa 4 rfl Tryz.underlying93 rfl sz3 rfl) rfl rfl ?_ | refine s_pass rfl rfl ?_
            first | refine s_y (yl_ one3) rfl rfl ?_ | refine s_pass rfl rfl ?_
            first | refine s_y (Y_mv) rfl rfl ?_ | refine s_pass rfl rfl ?_
            first | refine s_y ad_ rfl rfl ?_ | refine s_pass rfl rfl ?_
            refine s_c (En_call (fun _ => rfl) Tryz.func73 rfl (by kernel_rfl) rfl) (fun w hH => reat_d (hw.e.has hH)) rfl rfl ?_
            rintro _ _ ⟨rfl, rfl⟩
            first | refine s_y (Y_lss rfl rfl) rfl rfl ?_ | refine s_pass rfl rfl ?_
            refine s_y (Y_pk rfl (Gx.tmp gt_) Gx.const) rfl rfl ?_
            first | exact hm _ ⟨rfl, trivial⟩ rfl | exact QL.sub sl_ (hm _ ⟨rfl, trivial⟩ rfl)
          · intro ht13 hm
            iterate 12 refine s_pass rfl rfl ?_
            refine s_y (Y_pk rfl (Gx.tmp gt_) Gx.const) rfl rfl ?_
            exact hm _ ⟨rfl, trivial⟩ rfl
          intro j187
          refine s_nil ?_
          refine q_then ?_
          first | refine c_cond' rfl (fun hc23 => ?_) (fun hc23 => ?_) | refine c_cond rfl (fun hc23 => ?_) (fun hc23 => ?_)
          · skip
            try simp only [nrm_] at hc23
            refine c_seq ?_
            refine c_reg ?_
            refine s_y (Y_mv) rfl rfl ?_
            refine s_y (Y_as) rfl rfl ?_
            refine s_nil ?_
            refine q_then ?_
            refine c_ret ?_
            refine q_retG1 rfl gt_ (L' := _) sl_ (⟨by rw [if_pos ⟨hc21.1, hc21.2, hc23.1, hc23.2⟩], rfl⟩)
          · skip
            try simp only [nrm_] at hc23
            refine c_skip ?_
            refine q_then ?_
            refine c_seq ?_
            refine c_reg ?_
            refine s_y (Y_asC) rfl rfl ?_
            refine s_nil ?_
            refine q_then ?_
            refine c_ret ?_
            refine q_retG1 rfl gt_ (L' := _) sl_ (⟨by rw [if_neg (by rintro ⟨q1, q2, q3, q4⟩; rcases hc23 with h | h; rw [q3] at h; cases h; exact h q4)], rfl⟩)
        · skip
          try simp only [nrm_] at hc21
          refine c_skip ?_
          refine q_then ?_
          refine c_seq ?_
          refine c_reg ?_
          refine s_y (Y_asC) rfl rfl ?_
          refine s_nil ?_
          refine q_then ?_
          refine c_ret ?_
          refine q_retG1 rfl gt_ (L' := _) sl_ (⟨by rw [if_neg (by rintro ⟨q1, q2, q3, q4⟩; omega)], rfl⟩)
set_option maxRecDepth 100000 in
set_option maxHeartbeats 1600000 in
theorem rrobot_d {d : Wd} {s : Ws} (hw : WL W d s) (hv : VW d) {k : Int} : Does Tryz.prog 89 [.agg (wL d s).toArray, iv k] W [] (fun v L => v = iv (robotM d k) ∧ L = []) := by
  obtain ⟨z1, z2, z3⟩ := hw.sz
  refine enter Tryz.func89 rfl rfl rfl (Has.start _) ?_
  refine c_seq ?_
  refine c_reg ?_
  refine s_n (N_box (cs := wL d s) rfl) rfl rfl (fun b2 _ => ?_)
  refine s_y (Y_asC) rfl rfl ?_
  refine s_nil ?_
  refine q_then ?_
  refine c_seq ?_
  refine c_reg ?_
  refine s_y (Y_fa 5 rfl Tryz.underlying34 rfl sz30 rfl) rfl rfl ?_
  refine s_y (yl_ one30) rfl rfl ?_
  refine s_y (Y_mv) rfl rfl ?_
  refine s_c (En_call (fun _ => rfl) Tryz.func54 rfl (by kernel_rfl) rfl) (fun w hH => rhero_d (hw.e.has hH)) rfl rfl ?_
  rintro _ _ ⟨rfl, rfl⟩
  refine s_y (Y_as) rfl rfl ?_
  refine s_nil ?_
  refine q_then ?_
  refine c_seq ?_
  refine c_seq ?_
  refine c_reg ?_
  refine s_y (Y_mv) rfl rfl ?_
  refine s_y (Y_lss rfl rfl) rfl rfl ?_
  refine s_nil ?_
  refine q_then ?_
  first | refine c_cond' rfl (fun hc2 => ?_) (fun hc2 => ?_) | refine c_cond rfl (fun hc2 => ?_) (fun hc2 => ?_)
  · skip
    try simp only [nrm_] at hc2
    refine c_seq ?_
    refine c_reg ?_
    refine s_y (Y_asC) rfl rfl ?_
    refine s_nil ?_
    refine q_then ?_
    refine c_ret ?_
    refine q_retG1 rfl gt_ (L' := _) sl_ (⟨by unfold robotM; simp only; rw [if_pos hc2], rfl⟩)
  · skip
    try simp only [nrm_] at hc2
    refine c_skip ?_
    refine q_then ?_
    refine c_seq ?_
    obtain ⟨r, e, hr, he, he1, he2⟩ := eHero_some (rfl : eHero d.ents k = _) (by omega)
    have hrl := lt_of_get he
    have her := hv.ev.rowOf he (by omega)
    have hxy := ent_in her
    have hep := her.hp
    have hmx := her.st.1
    have hsl := stats_low e.kind
    have hre := hw.e.at' Ent.len he
    have hro : robotM d k = if e.hp ≤ e.max / 3 ∧ 0 ≤ hasM d.items k 1 1 then 6 else if 0 < dirM (fun d2 => foeAt d.ents (e.x + wx d2) (e.y + wy d2)) 4 1 then dirM (fun d2 => foeAt d.ents (e.x + wx d2) (e.y + wy d2)) 4 1 else if 0 ≤ iIn d.items 1 e.x e.y ∧ ((igt d.items (iIn d.items 1 e.x e.y)).kind = 4 ∨ 0 ≤ slotM d.items k) then 5 else if atM d.cells e.x e.y = 4 then 9 else towardsM d.cells d.ents e.x e.y [findM d.cells 4] := by
      unfold robotM; simp only; rw [if_neg hc2, hr, egt_of he, Int.tdiv_eq_ediv_of_nonneg (by omega)]
    rw [hro, hr]
    clear hro
    refine c_reg ?_
    refine s_y (Y_fa 5 rfl Tryz.underlying34 rfl sz30 rfl) rfl rfl ?_
    refine s_y (yl_ one30) rfl rfl ?_
    refine s_y (Y_mv) rfl rfl ?_
    refine s_y (Y_ia (n := r) rfl rfl Tryz.underlying30 sz93 rfl (by omega)) rfl rfl ?_
    refine s_y (Y_loadNR rfl many93 hre rfl) rfl rfl ?_
    refine s_n (N_alloc (z := .agg #[.int .i64 0, .int .i64 0, .int .i64 0, .int .i64 0, .int .i64 0, .int .i64 0, .int .i64 0, .int .i64 0, .int .i64 0, .int .i64 0, .int .i64 0]) (cs := [.int .i64 0, .int .i64 0, .int .i64 0, .int .i64 0, .int .i64 0, .int .i64 0, .int .i64 0, .int .i64 0, .int .i64 0, .int .i64 0, .int .i64 0]) zv93 rfl) rfl rfl (fun b6 _ => ?_)
    refine s_s (S_storeA (vs := e.cells) rfl rfl sz93 (by rfl) (by rfl) up_ (by rfl)) rfl ?_
    refine s_nil ?_
    refine q_then ?_
    refine c_seq ?_
    refine c_seq ?_
    refine c_reg ?_
    refine s_y (Y_fa 5 rfl Tryz.underlying93 rfl sz3 rfl) rfl rfl ?_
    refine s_y (yl_ one3) rfl rfl ?_
    refine s_y (Y_fa 6 rfl Tryz.underlying93 rfl sz3 rfl) rfl rfl ?_
    refine s_y (yl_ one3) rfl rfl ?_
    refine s_y ((by first | exact Y_quo rfl rfl (by omega) | exact Y_quow rfl rfl (by omega))) rfl rfl ?_
    refine s_y (Y_leq rfl rfl) rfl rfl ?_
    refine s_y (Y_mv) rfl rfl ?_
    apply s_and 6 [29, 30, 31, 32, 33, 34, 35] 35 (g := 29) rfl rfl
    · intro ht7 hm
      try simp only [nrm_] at ht7
      first | refine s_y (Y_fa 6 rfl Tryz.underlying34 rfl sz31 rfl) rfl rfl ?_ | refine s_pass rfl rfl ?_
      first | refine s_y (yl_ one31) rfl rfl ?_ | refine s_pass rfl rfl ?_
      first | refine s_y (Y_mv) rfl rfl ?_ | refine s_pass rfl rfl ?_
      refine s_c (En_call (fun _ => rfl) Tryz.func139 rfl (by kernel_rfl) rfl) (fun w hH => rpotion_d (hw.i.has hH)) rfl rfl ?_
      rintro _ _ ⟨rfl, rfl⟩
      first | refine s_y (Y_geq rfl rfl) rfl rfl ?_ | refine s_pass rfl rfl ?_
      refine s_y (Y_pk rfl (Gx.tmp gt_) Gx.const) rfl rfl ?_
      first | exact hm _ ⟨rfl, trivial⟩ rfl | exact QL.sub sl_ (hm _ ⟨rfl, trivial⟩ rfl)
    · intro ht7 hm
      iterate 5 refine s_pass rfl rfl ?_
      refine s_y (Y_pk rfl (Gx.tmp gt_) Gx.const) rfl rfl ?_
      exact hm _ ⟨rfl, trivial⟩ rfl
    intro j35
    refine s_nil ?_
    refine q_then ?_
    first | refine c_cond' rfl (fun hc5 => ?_) (fun hc5 => ?_) | refine c_cond rfl (fun hc5 => ?_) (fun hc5 => ?_)
    · skip
      try simp only [nrm_] at hc5
      refine c_seq ?_
      refine c_reg ?_
      refine s_y (Y_asC) rfl rfl ?_
      refine s_nil ?_
      refine q_then ?_
      refine c_ret ?_
      refine q_retG1 rfl gt_ (L' := _) sl_ (⟨by rw [if_pos hc5], rfl⟩)
    · skip
      try simp only [nrm_] at hc5
      refine c_skip ?_
      refine q_then ?_
      refine c_seq ?_
      refine c_seq ?_
      rw [if_neg (by omega)]
      refine c_reg ?_
      refine s_y (Y_asC) rfl rfl ?_
      refine s_nil ?_
      refine q_then ?_
      refine c_block ?_
      refine c_loop [4, 7, 8, 9, 10, 36, 37, 38, 39, 40, 41, 42, 43, 44, 45, 46, 47, 48, 49, 50, 51, 52, 53, 54, 55, 56, 57, 58, 59, 60, 61, 62, 63, 64, 65, 66, 67] (fun m (q : Nat) => q + m = 5 ∧ 1 ≤ q ∧ dirM (fun d2 => foeAt d.ents (e.x + wx d2) (e.y + wy d2)) m q = dirM (fun d2 => foeAt d.ents (e.x + wx d2) (e.y + wy d2)) 4 1) (fun q => [(7, iv q)]) (fun _ => [e1B b6 e, wB b2 (wL d s)]) (4) (1) (⟨rfl, by decide, rfl⟩) (by repeat (first | exact trivial | refine ⟨rfl, ?_⟩)) (fun _ h => h.sub sl_) (fun _ => rfl) ?_
      rintro m q j ⟨hq, hq1, hf⟩ K hK
      have hwr := way_rng q
      refine c_seq ?_
      refine c_seq ?_
      refine c_reg ?_
      refine s_y (Y_mv) rfl rfl ?_
      refine s_y (Y_leq rfl rfl) rfl rfl ?_
      refine s_nil ?_
      refine q_then ?_
      first | refine c_cond' rfl (fun hc8 => ?_) (fun hc8 => ?_) | refine c_cond rfl (fun hc8 => ?_) (fun hc8 => ?_)
      · skip
        try simp only [nrm_] at hc8
        refine c_skip ?_
        refine q_then ?_
        refine c_seq ?_
        refine c_block ?_
        refine c_seq ?_
        refine c_reg ?_
        refine s_y (Y_mv) rfl rfl ?_
        refine s_c (En_call (fun _ => rfl) Tryz.func140 rfl (by kernel_rfl) rfl) (fun w hH => rway_d) rfl rfl ?_
        rintro _ _ ⟨rfl, rfl⟩
        refine s_y (Y_mv) rfl rfl ?_
        refine s_y (Y_extract rfl rfl) rfl rfl ?_
        refine s_y (Y_extract rfl rfl) rfl rfl ?_
        refine s_y (Y_as) rfl rfl ?_
        refine s_y (Y_as) rfl rfl ?_
        refine s_nil ?_
        refine q_then ?_
        refine c_seq ?_
        refine c_reg ?_
        refine s_y (Y_fa 5 rfl Tryz.underlying34 rfl sz30 rfl) rfl rfl ?_
        refine s_y (yl_ one30) rfl rfl ?_
        refine s_y (Y_fa 3 rfl Tryz.underlying93 rfl sz3 rfl) rfl rfl ?_
        refine s_y (yl_ one3) rfl rfl ?_
        refine s_y (Y_mv) rfl rfl ?_
        refine s_y ad_ rfl rfl ?_
        refine s_y (Y_fa 4 rfl Tryz.underlying93 rfl sz3 rfl) rfl rfl ?_
        refine s_y (yl_ one3) rfl rfl ?_
        refine s_y (Y_mv) rfl rfl ?_
        refine s_y ad_ rfl rfl ?_
        refine s_c (En_call (fun _ => rfl) Tryz.func73 rfl (by kernel_rfl) rfl) (fun w hH => reat_d (hw.e.has hH)) rfl rfl ?_
        rintro _ _ ⟨rfl, rfl⟩
        refine s_y (Y_as) rfl rfl ?_
        refine s_nil ?_
        have har := eAt_rng d.ents (e.x + wx q) (e.y + wy q)
        have hfo : foeAt d.ents (e.x + wx q) (e.y + wy q) = decide (0 ≤ eAt d.ents (e.x + wx q) (e.y + wy q) ∧ (egt d.ents (eAt d.ents (e.x + wx q) (e.y + wy q))).kind ≠ 1) := rfl
        obtain ⟨a, haa⟩ : ∃ z, eAt d.ents (e.x + wx q) (e.y + wy q) = z := ⟨_, rfl⟩
        rw [haa] at har hfo ⊢
        refine q_then ?_
        refine c_seq ?_
        refine c_reg ?_
        refine s_y (Y_mv) rfl rfl ?_
        refine s_y (Y_geq rfl rfl) rfl rfl ?_
        refine s_y (Y_mv) rfl rfl ?_
        apply s_and 8 [58, 59, 60, 61, 62, 63, 64, 65, 66] 66 (g := 58) rfl rfl
        · intro ht3 hm
          try simp only [nrm_] at ht3
          first | refine s_y (Y_fa 5 rfl Tryz.underlying34 rfl sz30 rfl) rfl rfl ?_ | refine s_pass rfl rfl ?_
          first | refine s_y (yl_ one30) rfl rfl ?_ | refine s_pass rfl rfl ?_
          first | refine s_y (Y_mv) rfl rfl ?_ | refine s_pass rfl rfl ?_
          first | refine s_y (Y_ia (n := a.toNat) rfl rfl Tryz.underlying30 sz93 (by omega) (by omega)) rfl rfl ?_ | refine s_pass rfl rfl ?_
          first | refine s_y (Y_fa 0 rfl Tryz.underlying93 rfl sz3 rfl) rfl rfl ?_ | refine s_pass rfl rfl ?_
          first | refine s_y (Y_loadR (v := iv (egt d.ents a).kind) (i := 0) rfl one3 (hw.e.at' Ent.len (eget_of (by omega) (by omega))) rfl rfl) rfl rfl ?_ | refine s_pass rfl rfl ?_
          first | refine s_y (Y_neq rfl rfl) rfl rfl ?_ | refine s_pass rfl rfl ?_
          refine s_y (Y_pk rfl (Gx.tmp gt_) Gx.const) rfl rfl ?_
          first | exact hm _ ⟨rfl, trivial⟩ rfl | exact QL.sub sl_ (hm _ ⟨rfl, trivial⟩ rfl)
        · intro ht3 hm
          iterate 7 refine s_pass rfl rfl ?_
          refine s_y (Y_pk rfl (Gx.tmp gt_) Gx.const) rfl rfl ?_
          exact hm _ ⟨rfl, trivial⟩ rfl
        intro j66
        refine s_nil ?_
        refine q_then ?_
        first | refine c_cond' rfl (fun hc12 => ?_) (fun hc12 => ?_) | refine c_cond rfl (fun hc12 => ?_) (fun hc12 => ?_)
        · skip
          try simp only [nrm_] at hc12
          refine c_seq ?_
          refine c_reg ?_
          refine s_y (Y_mv) rfl rfl ?_
          refine s_y (Y_as) rfl rfl ?_
          refine s_nil ?_
          refine q_then ?_
          refine c_ret ?_
          refine q_retG1 rfl gt_ (L' := _) sl_ (⟨by rw [← hf, dirM_yes (p := fun d2 => foeAt d.ents (e.x + wx d2) (e.y + wy d2)) (by omega) (show foeAt d.ents (e.x + wx q) (e.y + wy q) = true by rw [hfo]; exact decide_eq_true hc12), if_pos (by omega)], rfl⟩)
        · skip
          try simp only [nrm_] at hc12
          refine c_skip ?_
          refine q_bn ?_
          refine q_then ?_
          refine c_reg ?_
          refine s_y (Y_mv) rfl rfl ?_
          refine s_y ad_ rfl rfl ?_
          refine s_y (Y_as) rfl rfl ?_
          refine s_nil ?_
          refine hK (m - 1) (q + 1) _ _ (by omega) ⟨by omega, by omega, by rw [← hf, dirM_no (p := fun d2 => foeAt d.ents (e.x + wx d2) (e.y + wy d2)) (n := m) (d := (q : Int)) (by omega) (show foeAt d.ents (e.x + wx q) (e.y + wy q) = false by rw [hfo]; exact decide_eq_false (by omega))]; rfl⟩ ⟨rfl, trivial⟩ rfl (fun _ h => h)
      · skip
        try simp only [nrm_] at hc8
        refine c_exit ?_
        repeat with_reducible refine q_te ?_
        refine q_exit ?_
        refine q_then ?_
        refine c_seq ?_
        rw [← hf, dirM_end (by omega), if_neg (by decide)]
        refine c_reg ?_
        refine s_y (Y_fa 6 rfl Tryz.underlying34 rfl sz31 rfl) rfl rfl ?_
        refine s_y (yl_ one31) rfl rfl ?_
        refine s_y (Y_fa 3 rfl Tryz.underlying93 rfl sz3 rfl) rfl rfl ?_
        refine s_y (yl_ one3) rfl rfl ?_
        refine s_y (Y_fa 4 rfl Tryz.underlying93 rfl sz3 rfl) rfl rfl ?_
        refine s_y (yl_ one3) rfl rfl ?_
        refine s_c (En_call (fun _ => rfl) Tryz.func103 rfl (by kernel_rfl) rfl) (fun w hH => riin_d (hw.i.has hH)) rfl rfl ?_
        rintro _ _ ⟨rfl, rfl⟩
        refine s_y (Y_as) rfl rfl ?_
        refine s_nil ?_
        have hir := iIn_rng d.items 1 e.x e.y
        obtain ⟨a, haa⟩ : ∃ z, iIn d.items 1 e.x e.y = z := ⟨_, rfl⟩
        rw [haa] at hir ⊢
        refine q_then ?_
        refine c_seq ?_
        refine c_seq ?_
        refine c_reg ?_
        refine s_y (Y_mv) rfl rfl ?_
        refine s_y (Y_geq rfl rfl) rfl rfl ?_
        refine s_y (Y_mv) rfl rfl ?_
        apply s_and 15 [77, 78, 79, 80, 81, 82, 83, 84, 85, 86, 87, 88, 89, 90, 91, 92] 92 (g := 77) rfl rfl
        · intro ht3 hm
          try simp only [nrm_] at ht3
          first | refine s_y (Y_fa 6 rfl Tryz.underlying34 rfl sz31 rfl) rfl rfl ?_ | refine s_pass rfl rfl ?_
          first | refine s_y (yl_ one31) rfl rfl ?_ | refine s_pass rfl rfl ?_
          first | refine s_y (Y_mv) rfl rfl ?_ | refine s_pass rfl rfl ?_
          first | refine s_y (Y_ia (n := a.toNat) rfl rfl Tryz.underlying31 sz98 (by omega) (by omega)) rfl rfl ?_ | refine s_pass rfl rfl ?_
          first | refine s_y (Y_fa 0 rfl Tryz.underlying98 rfl sz3 rfl) rfl rfl ?_ | refine s_pass rfl rfl ?_
          first | refine s_y (Y_loadR (v := iv (igt d.items a).kind) (i := 0) rfl one3 (hw.i.at' Itm.len (iget_of (by omega) (by omega))) rfl rfl) rfl rfl ?_ | refine s_pass rfl rfl ?_
          first | refine s_y (Y_eql rfl rfl) rfl rfl ?_ | refine s_pass rfl rfl ?_
          first | refine s_y (Y_mv) rfl rfl ?_ | refine s_pass rfl rfl ?_
          apply s_or 6 [85, 86, 87, 88, 89, 90, 91] 91 (g := 85) rfl rfl
          · intro ht11 hm
            try simp only [nrm_] at ht11
            first | refine s_y (Y_fa 6 rfl Tryz.underlying34 rfl sz31 rfl) rfl rfl ?_ | refine s_pass rfl rfl ?_
            first | refine s_y (yl_ one31) rfl rfl ?_ | refine s_pass rfl rfl ?_
            first | refine s_y (Y_mv) rfl rfl ?_ | refine s_pass rfl rfl ?_
            refine s_c (En_call (fun _ => rfl) Tryz.func141 rfl (by kernel_rfl) rfl) (fun w hH => rslot_d (hw.i.has hH)) rfl rfl ?_
            rintro _ _ ⟨rfl, rfl⟩
            first | refine s_y (Y_geq rfl rfl) rfl rfl ?_ | refine s_pass rfl rfl ?_
            first | refine s_y (Y_pk rfl Gx.const (Gx.tmp gt_)) rfl rfl ?_ | refine s_pass rfl rfl ?_
            first | exact hm _ ⟨rfl, trivial⟩ rfl | exact QL.sub sl_ (hm _ ⟨rfl, trivial⟩ rfl)
          · intro ht11 hm
            iterate 5 refine s_pass rfl rfl ?_
            first | refine s_y (Y_pk rfl Gx.const (Gx.tmp gt_)) rfl rfl ?_ | refine s_pass rfl rfl ?_
            exact hm _ ⟨rfl, trivial⟩ rfl
          intro j91
          refine s_y (Y_pk rfl (Gx.tmp gt_) Gx.const) rfl rfl ?_
          first | exact hm _ ⟨rfl, trivial⟩ rfl | exact QL.sub sl_ (hm _ ⟨rfl, trivial⟩ rfl)
        · intro ht3 hm
          iterate 14 refine s_pass rfl rfl ?_
          refine s_y (Y_pk rfl (Gx.tmp gt_) Gx.const) rfl rfl ?_
          exact hm _ ⟨rfl, trivial⟩ rfl
        intro j92
        refine s_nil ?_
        refine q_then ?_
        first | refine c_cond' rfl (fun hc15 => ?_) (fun hc15 => ?_) | refine c_cond rfl (fun hc15 => ?_) (fun hc15 => ?_)
        · skip
          try simp only [nrm_] at hc15
          refine c_seq ?_
          refine c_reg ?_
          refine s_y (Y_asC) rfl rfl ?_
          refine s_nil ?_
          refine q_then ?_
          refine c_ret ?_
          refine q_retG1 rfl gt_ (L' := _) sl_ (⟨by rw [if_pos hc15], rfl⟩)
        · skip
          try simp only [nrm_] at hc15
          refine c_skip ?_
          refine q_then ?_
          refine c_seq ?_
          refine c_seq ?_
          rw [if_neg (by omega)]
          refine c_reg ?_
          refine s_y (Y_fa 4 rfl Tryz.underlying34 rfl sz24 rfl) rfl rfl ?_
          refine s_y (yl_ one24) rfl rfl ?_
          refine s_y (Y_fa 3 rfl Tryz.underlying93 rfl sz3 rfl) rfl rfl ?_
          refine s_y (yl_ one3) rfl rfl ?_
          refine s_y (Y_fa 4 rfl Tryz.underlying93 rfl sz3 rfl) rfl rfl ?_
          refine s_y (yl_ one3) rfl rfl ?_
          refine s_c (En_call (fun _ => rfl) Tryz.func91 rfl (by kernel_rfl) rfl) (fun w hH => rat_d (hw.c.has hH)) rfl rfl ?_
          rintro _ _ ⟨rfl, rfl⟩
          refine s_y (Y_eql rfl rfl) rfl rfl ?_
          refine s_nil ?_
          refine q_then ?_
          first | refine c_cond' rfl (fun hc17 => ?_) (fun hc17 => ?_) | refine c_cond rfl (fun hc17 => ?_) (fun hc17 => ?_)
          · skip
            try simp only [nrm_] at hc17
            refine c_seq ?_
            refine c_reg ?_
            refine s_y (Y_asC) rfl rfl ?_
            refine s_nil ?_
            refine q_then ?_
            refine c_ret ?_
            refine q_retG1 rfl gt_ (L' := _) sl_ (⟨by rw [if_pos hc17], rfl⟩)
          · skip
            try simp only [nrm_] at hc17
            refine c_skip ?_
            refine q_then ?_
            refine c_seq ?_
            rw [if_neg hc17]
            refine c_rordS (L0 := [e1B b6 e, wB b2 (wL d s)]) sl_ [] [(0, true), (1, true), (2, true), (3, true), (4, true), (5, true), (6, true), (7, true), (8, true), (9, true), (10, false), (11, false), (12, false), (13, true)] (by kernel_rfl) (by kernel_rfl) (by kernel_rfl) (by kernel_rfl) rfl (by intro c a d v w h; cases d <;> exact h) rfl ?_
            simp only [mkOrd, List.filterMap_cons, List.filterMap_nil, List.getElem?_toArray, List.getElem?_cons_zero, List.getElem?_cons_succ, Option.map_some]
            refine o_y (Y_fa 4 rfl Tryz.underlying34 rfl sz24 rfl) rfl rfl ?_
            refine o_y (yl_ one24) rfl rfl ?_
            refine o_y (Y_fa 5 rfl Tryz.underlying34 rfl sz30 rfl) rfl rfl ?_
            refine o_y (yl_ one30) rfl rfl ?_
            refine o_y (Y_fa 3 rfl Tryz.underlying93 rfl sz3 rfl) rfl rfl ?_
            refine o_y (yl_ one3) rfl rfl ?_
            refine o_y (Y_fa 4 rfl Tryz.underlying93 rfl sz3 rfl) rfl rfl ?_
            refine o_y (yl_ one3) rfl rfl ?_
            refine o_y (Y_fa 4 rfl Tryz.underlying34 rfl sz24 rfl) rfl rfl ?_
            refine o_y (yl_ one24) rfl rfl ?_
            refine o_c (En_call (fun _ => rfl) Tryz.func55 rfl (by kernel_rfl) rfl) (fun w hH => rfind_d (hw.c.has hH)) (fun _ _ h => by obtain ⟨rfl, rfl⟩ := h; exact kp_) rfl rfl ?_
            rintro _ _ ⟨rfl, rfl⟩
            refine o_n (N_bs (xs := [.tmp 111]) (by repeat (first | exact Gv.nil | apply Gv.const | apply Gv.tmp gt_)) rfl Tryz.underlying23 inf3 rfl (by omega) (by omega) (by first | simp [Value.oneCell'] | (intro v hv; simp at hv; subst hv; rfl))) (fun _ => kp_) rfl rfl (fun b112 _ => ?_)
            refine o_c (En_call (fun _ => rfl) Tryz.func142 rfl (by kernel_rfl) rfl) (fun w hH => rtoward_nav_d (hw.c.has hH) (hw.e.has hH) (by omega) (ts := [findM d.cells 4]) ((hH.at' (x := ⟨b112, 3, 1, 1, [iv (findM d.cells 4)]⟩) mm_).sl rfl (Nat.le_refl _))) (fun _ _ h => by obtain ⟨rfl, rfl⟩ := h; exact kp_) rfl rfl ?_
            rintro _ _ ⟨rfl, rfl⟩
            refine o_y (Y_as) rfl rfl ?_
            refine o_nil ?_
            refine q_then ?_
            refine c_ret ?_
            refine q_retG1 rfl gt_ (L' := _) sl_ (⟨rfl, rfl⟩)
set_option maxRecDepth 100000 in
theorem rherocome_d {d : Wd} {s : Ws} (hw : WL W d s) {e : Ent} : Does Tryz.prog 87 [.agg (wL d s).toArray, .agg e.cells.toArray] W [] (fun v L => v = .tuple #[.agg (heroM d.cells d.ents e).1.cells.toArray, .bool (heroM d.cells d.ents e).2] ∧ L = []) := by
  obtain ⟨z1, z2, z3⟩ := hw.sz
  refine enter Tryz.func87 rfl rfl rfl (Has.start _) ?_
  refine c_seq ?_
  refine c_reg ?_
  refine s_n (N_box (cs := wL d s) rfl) rfl rfl (fun b2 _ => ?_)
  refine s_n (N_box (cs := e.cells) rfl) rfl rfl (fun b3 _ => ?_)
  refine s_n (N_alloc (z := .agg #[.int .i64 0, .int .i64 0, .int .i64 0, .int .i64 0, .int .i64 0, .int .i64 0, .int .i64 0, .int .i64 0, .int .i64 0, .int .i64 0, .int .i64 0]) (cs := [.int .i64 0, .int .i64 0, .int .i64 0, .int .i64 0, .int .i64 0, .int .i64 0, .int .i64 0, .int .i64 0, .int .i64 0, .int .i64 0, .int .i64 0]) zv93 rfl) rfl rfl (fun b4 _ => ?_)
  refine s_y (Y_asC) rfl rfl ?_
  refine s_nil ?_
  refine q_then ?_
  refine c_seq ?_
  refine c_reg ?_
  refine s_y (Y_fa 4 rfl Tryz.underlying34 rfl sz24 rfl) rfl rfl ?_
  refine s_y (yl_ one24) rfl rfl ?_
  refine s_c (En_call (fun _ => rfl) Tryz.func55 rfl (by kernel_rfl) rfl) (fun w hH => rfind_d (hw.c.has hH)) rfl rfl ?_
  rintro _ _ ⟨rfl, rfl⟩
  refine s_y (Y_as) rfl rfl ?_
  refine s_nil ?_
  refine q_then ?_
  refine c_seq ?_
  refine c_seq ?_
  refine c_reg ?_
  refine s_y (Y_mv) rfl rfl ?_
  refine s_y (Y_lss rfl rfl) rfl rfl ?_
  refine s_nil ?_
  refine q_then ?_
  first | refine c_cond' rfl (fun hc2 => ?_) (fun hc2 => ?_) | refine c_cond rfl (fun hc2 => ?_) (fun hc2 => ?_)
  · skip
    try simp only [nrm_] at hc2
    refine c_seq ?_
    refine c_reg ?_
    refine s_y (ya_ many93) rfl rfl ?_
    refine s_s (S_storeA (vs := e.cells) rfl rfl sz93 (by rfl) (by rfl) up_ (by rfl)) rfl ?_
    refine s_y (Y_asC) rfl rfl ?_
    refine s_nil ?_
    refine q_then ?_
    refine c_ret ?_
    have hh : heroM d.cells d.ents e = (e, false) := by unfold heroM; simp only; rw [if_pos hc2]
    rw [hh]
    refine q_ret2c rfl rfl many93 rfl mm_ (by rfl) (L' := []) sl_ ⟨rfl, rfl⟩
  · skip
    try simp only [nrm_] at hc2
    refine c_skip ?_
    refine q_then ?_
    refine c_seq ?_
    obtain ⟨u, hu, hu1, hu2, hu3⟩ := find_at (rfl : findM d.cells 3 = _) (by omega)
    have hh : heroM d.cells d.ents e = if spotM d.cells d.ents ((u : Int) % 24) ((u : Int) / 24) < 0 then (e, false) else ({ e with x := spotM d.cells d.ents ((u : Int) % 24) ((u : Int) / 24) % 24, y := spotM d.cells d.ents ((u : Int) % 24) ((u : Int) / 24) / 24 }, true) := by
      unfold heroM; simp only; rw [hu, if_neg (by omega)]
    rw [hu, hh]
    refine c_reg ?_
    refine s_y (Y_fa 4 rfl Tryz.underlying34 rfl sz24 rfl) rfl rfl ?_
    refine s_y (yl_ one24) rfl rfl ?_
    refine s_y (Y_fa 5 rfl Tryz.underlying34 rfl sz30 rfl) rfl rfl ?_
    refine s_y (yl_ one30) rfl rfl ?_
    refine s_y (Y_mv) rfl rfl ?_
    refine s_y ((by first | exact Y_rem rfl rfl (by omega) | exact Y_remw rfl rfl (by omega))) rfl rfl ?_
    refine s_y (Y_mv) rfl rfl ?_
    refine s_y ((by first | exact Y_quo rfl rfl (by omega) | exact Y_quow rfl rfl (by omega))) rfl rfl ?_
    refine s_c (En_call (fun _ => rfl) Tryz.func138 rfl (by kernel_rfl) rfl) (fun w hH => rspot_d (hw.c.has hH) (hw.e.has hH)) rfl rfl ?_
    rintro _ _ ⟨rfl, rfl⟩
    refine s_y (Y_as) rfl rfl ?_
    refine s_nil ?_
    obtain ⟨a, haa⟩ : ∃ z, spotM d.cells d.ents ((u : Int) % 24) ((u : Int) / 24) = z := ⟨_, rfl⟩
    have hsa := spot_at haa
    rw [haa]
    refine q_then ?_
    refine c_seq ?_
    refine c_seq ?_
    refine c_reg ?_
    refine s_y (Y_mv) rfl rfl ?_
    refine s_y (Y_lss rfl rfl) rfl rfl ?_
    refine s_nil ?_
    refine q_then ?_
    first | refine c_cond' rfl (fun hc5 => ?_) (fun hc5 => ?_) | refine c_cond rfl (fun hc5 => ?_) (fun hc5 => ?_)
    · skip
      try simp only [nrm_] at hc5
      refine c_seq ?_
      refine c_reg ?_
      refine s_y (ya_ many93) rfl rfl ?_
      refine s_s (S_storeA (vs := e.cells) rfl rfl sz93 (by rfl) (by rfl) up_ (by rfl)) rfl ?_
      refine s_y (Y_asC) rfl rfl ?_
      refine s_nil ?_
      refine q_then ?_
      refine c_ret ?_
      rw [if_pos hc5]
      refine q_ret2c rfl rfl many93 rfl mm_ (by rfl) (L' := []) sl_ ⟨rfl, rfl⟩
    · skip
      try simp only [nrm_] at hc5
      refine c_skip ?_
      refine q_then ?_
      refine c_seq ?_
      have hal := (hsa (by omega)).1
      refine c_reg ?_
      refine s_y (Y_mv) rfl rfl ?_
      refine s_y ((by first | exact Y_rem rfl rfl (by omega) | exact Y_remw rfl rfl (by omega))) rfl rfl ?_
      refine s_y (Y_mv) rfl rfl ?_
      refine s_y ((by first | exact Y_quo rfl rfl (by omega) | exact Y_quow rfl rfl (by omega))) rfl rfl ?_
      refine s_y (Y_fa 3 rfl Tryz.underlying93 rfl sz3 rfl) rfl rfl ?_
      refine s_s (S_st (cs' := ({ e with x := a % 24 } : Ent).cells) rfl gt_ sz3 (by rfl) up_ (by rfl) (by rw [Ent.len]; decide)) rfl ?_
      refine s_y (Y_fa 4 rfl Tryz.underlying93 rfl sz3 rfl) rfl rfl ?_
      refine s_s (S_st (cs' := ({ e with x := a % 24, y := a / 24 } : Ent).cells) rfl gt_ sz3 (by rfl) up_ (by rfl) (by rw [Ent.len]; decide)) rfl ?_
      refine s_nil ?_
      refine q_then ?_
      refine c_seq ?_
      refine c_reg ?_
      refine s_y (ya_ many93) rfl rfl ?_
      refine s_s (S_storeA (vs := ({ e with x := a % 24, y := a / 24 } : Ent).cells) rfl rfl sz93 (by rfl) (by rfl) up_ (by rfl)) rfl ?_
      refine s_y (Y_asC) rfl rfl ?_
      refine s_nil ?_
      refine q_then ?_
      refine c_ret ?_
      rw [if_neg hc5]
      refine q_ret2c rfl rfl many93 rfl mm_ (by rfl) (L' := []) sl_ ⟨rfl, rfl⟩
set_option maxRecDepth 100000 in
theorem rsome_d {d : Wd} {s : Ws} (hw : WL W d s) : Does Tryz.prog 85 [.agg (wL d s).toArray] W [] (fun v L => v = .bool (someM d.ents) ∧ L = []) := by
  have hso : someM d.ents = decide (∃ q : Nat, q < 4 ∧ 0 ≤ eHero d.ents q) := by
    rw [Bool.eq_iff_iff]
    unfold someM
    simp only [Bool.or_eq_true, decide_eq_true_eq]
    constructor
    · rintro (((h | h) | h) | h)
      · exact ⟨0, by decide, h⟩
      · exact ⟨1, by decide, h⟩
      · exact ⟨2, by decide, h⟩
      · exact ⟨3, by decide, h⟩
    · rintro ⟨q, h1, h2⟩
      rcases q with _ | _ | _ | _ | q
      · exact .inl (.inl (.inl h2))
      · exact .inl (.inl (.inr h2))
      · exact .inl (.inr h2)
      · exact .inr h2
      · omega
  rw [hso]
  refine enter Tryz.func85 rfl rfl rfl (Has.start _) ?_
  refine c_seq ?_
  refine c_reg ?_
  refine s_n (N_box (cs := wL d s) rfl) rfl rfl (fun b1 _ => ?_)
  refine s_y (Y_asC) rfl rfl ?_
  refine s_nil ?_
  refine q_then ?_
  refine c_seq ?_
  refine c_seq ?_
  refine c_reg ?_
  refine s_y (Y_asC) rfl rfl ?_
  refine s_nil ?_
  refine q_then ?_
  refine c_block ?_
  refine c_loop [2, 3, 4, 5, 6, 7, 8, 9, 10, 11, 12] (fun m (q : Nat) => q + m = 4 ∧ ∀ p : Nat, p < q → ¬ 0 ≤ eHero d.ents p) (fun q => [(3, iv q)]) (fun _ => [wB b1 (wL d s)]) (4) (0) (⟨rfl, fun p hp => by omega⟩) (by repeat (first | exact trivial | refine ⟨rfl, ?_⟩)) (fun _ h => h.sub sl_) (fun _ => rfl) ?_
  rintro m q j ⟨hq, hno⟩ K hK
  refine c_seq ?_
  refine c_seq ?_
  refine c_reg ?_
  refine s_y (Y_mv) rfl rfl ?_
  refine s_y (Y_lss rfl rfl) rfl rfl ?_
  refine s_nil ?_
  refine q_then ?_
  first | refine c_cond' rfl (fun hc2 => ?_) (fun hc2 => ?_) | refine c_cond rfl (fun hc2 => ?_) (fun hc2 => ?_)
  · skip
    try simp only [nrm_] at hc2
    refine c_skip ?_
    refine q_then ?_
    refine c_seq ?_
    refine c_block ?_
    refine c_seq ?_
    refine c_reg ?_
    refine s_y (Y_fa 5 rfl Tryz.underlying34 rfl sz30 rfl) rfl rfl ?_
    refine s_y (yl_ one30) rfl rfl ?_
    refine s_y (Y_mv) rfl rfl ?_
    refine s_c (En_call (fun _ => rfl) Tryz.func54 rfl (by kernel_rfl) rfl) (fun w hH => rhero_d (hw.e.has hH)) rfl rfl ?_
    rintro _ _ ⟨rfl, rfl⟩
    refine s_y (Y_geq rfl rfl) rfl rfl ?_
    refine s_nil ?_
    refine q_then ?_
    first | refine c_cond' rfl (fun hc4 => ?_) (fun hc4 => ?_) | refine c_cond rfl (fun hc4 => ?_) (fun hc4 => ?_)
    · skip
      try simp only [nrm_] at hc4
      refine c_seq ?_
      refine c_reg ?_
      refine s_y (Y_asC) rfl rfl ?_
      refine s_nil ?_
      refine q_then ?_
      refine c_ret ?_
      refine q_retG1 rfl gt_ (L' := _) sl_ (⟨by rw [decide_eq_true (show ∃ q : Nat, q < 4 ∧ 0 ≤ eHero d.ents q from ⟨q, by omega, hc4⟩)], rfl⟩)
    · skip
      try simp only [nrm_] at hc4
      refine c_skip ?_
      refine q_bn ?_
      refine q_then ?_
      refine c_reg ?_
      refine s_y (Y_mv) rfl rfl ?_
      refine s_y ad_ rfl rfl ?_
      refine s_y (Y_as) rfl rfl ?_
      refine s_nil ?_
      refine hK (m - 1) (q + 1) _ _ (by omega) ⟨by omega, fun p hp => ?_⟩ ⟨rfl, trivial⟩ rfl (fun _ h => h)
      by_cases h : p = q
      · subst h; exact hc4
      · exact hno p (by omega)
  · skip
    try simp only [nrm_] at hc2
    refine c_exit ?_
    repeat with_reducible refine q_te ?_
    refine q_exit ?_
    refine q_then ?_
    refine c_seq ?_
    refine c_reg ?_
    refine s_y (Y_asC) rfl rfl ?_
    refine s_nil ?_
    refine q_then ?_
    refine c_ret ?_
    refine q_retG1 rfl gt_ (L' := _) sl_ (⟨by rw [decide_eq_false (fun ⟨p, h1, h2⟩ => hno p (by omega) h2)], rfl⟩)
def ActP (d : Wd) (s : Ws) (d' : Wd) (v : Value) (L : List Bk) : Prop := (v = .agg (wL d s).toArray ∧ L = [] ∧ d' = d) ∨ WN d' v L
set_option maxRecDepth 100000 in
set_option maxHeartbeats 800000 in
theorem ract_d {d : Wd} {s : Ws} (hw : WL W d s) (hv : VW d) {r : Nat} {e : Ent} (he : d.ents[r]? = some e) (hk : e.kind ≠ 0) {k : Int} {foe : Bool} : Does Tryz.prog 90 [.agg (wL d s).toArray, iv r, iv k, .bool foe] W [] (ActP d s (actM d r k foe)) := by
  obtain ⟨z1, z2, z3⟩ := hw.sz
  have hrl := lt_of_get he
  have hxy := ent_in (hv.ev.rowOf he hk)
  have hwr := way_rng k
  have hre := hw.e.at' Ent.len he
  have hac : actM d r k foe = if wx k = 0 ∧ wy k = 0 then d else if 0 ≤ eAt d.ents (e.x + wx k) (e.y + wy k) then (if decide ((egt d.ents (eAt d.ents (e.x + wx k) (e.y + wy k))).kind = 1) = foe then hitM d r (eAt d.ents (e.x + wx k) (e.y + wy k)) else d) else if walkM (atM d.cells (e.x + wx k) (e.y + wy k)) = true then { d with ents := d.ents.set r { e with x := e.x + wx k, y := e.y + wy k } } else d := by
    unfold actM; simp only; rw [egt_of he, Int.toNat_natCast]
  rw [hac]
  clear hac
  refine enter Tryz.func90 rfl rfl rfl (Has.start _) ?_
  refine c_seq ?_
  refine c_reg ?_
  refine s_n (N_box (cs := wL d s) rfl) rfl rfl (fun b4 _ => ?_)
  refine s_n (N_alloc (z := .agg #[.int .i64 0, .int .i64 0, .int .i64 0, .int .i64 0, .slice none 0 0, .slice none 0 0, .slice none 0 0, .int .i64 0, .int .i64 0, .int .i64 0, .int .i64 0]) (cs := [.int .i64 0, .int .i64 0, .int .i64 0, .int .i64 0, .slice none 0 0, .slice none 0 0, .slice none 0 0, .int .i64 0, .int .i64 0, .int .i64 0, .int .i64 0]) zv34 rfl) rfl rfl (fun b8 _ => ?_)
  refine s_nil ?_
  refine q_then ?_
  refine c_seq ?_
  refine c_reg ?_
  refine s_y (Y_mv) rfl rfl ?_
  refine s_c (En_call (fun _ => rfl) Tryz.func140 rfl (by kernel_rfl) rfl) (fun w hH => rway_d) rfl rfl ?_
  rintro _ _ ⟨rfl, rfl⟩
  refine s_y (Y_mv) rfl rfl ?_
  refine s_y (Y_extract rfl rfl) rfl rfl ?_
  refine s_y (Y_extract rfl rfl) rfl rfl ?_
  refine s_y (Y_as) rfl rfl ?_
  refine s_y (Y_as) rfl rfl ?_
  refine s_nil ?_
  refine q_then ?_
  refine c_seq ?_
  refine c_seq ?_
  refine c_reg ?_
  refine s_y (Y_mv) rfl rfl ?_
  refine s_y (Y_eql rfl rfl) rfl rfl ?_
  refine s_y (Y_mv) rfl rfl ?_
  apply s_and 3 [21, 22, 23, 24] 24 (g := 21) rfl rfl
  · intro ht3 hm
    try simp only [nrm_] at ht3
    first | refine s_y (Y_mv) rfl rfl ?_ | refine s_pass rfl rfl ?_
    first | refine s_y (Y_eql rfl rfl) rfl rfl ?_ | refine s_pass rfl rfl ?_
    refine s_y (Y_pk rfl (Gx.tmp gt_) Gx.const) rfl rfl ?_
    first | exact hm _ ⟨rfl, trivial⟩ rfl | exact QL.sub sl_ (hm _ ⟨rfl, trivial⟩ rfl)
  · intro ht3 hm
    iterate 2 refine s_pass rfl rfl ?_
    refine s_y (Y_pk rfl (Gx.tmp gt_) Gx.const) rfl rfl ?_
    exact hm _ ⟨rfl, trivial⟩ rfl
  intro j24
  refine s_nil ?_
  refine q_then ?_
  first | refine c_cond' rfl (fun hc2 => ?_) (fun hc2 => ?_) | refine c_cond rfl (fun hc2 => ?_) (fun hc2 => ?_)
  · skip
    try simp only [nrm_] at hc2
    refine c_seq ?_
    refine c_reg ?_
    refine s_y (ya_ many34) rfl rfl ?_
    refine s_s (S_storeA (vs := wL d s) rfl rfl sz34 (by rfl) (by rfl) up_ (by rfl)) rfl ?_
    refine s_nil ?_
    refine q_then ?_
    refine c_ret ?_
    rw [if_pos hc2]
    refine q_ret1c rfl rfl many34 mm_ (by rfl) (L' := []) sl_ (.inl ⟨rfl, rfl, rfl⟩)
  · skip
    try simp only [nrm_] at hc2
    refine c_skip ?_
    refine q_then ?_
    refine c_seq ?_
    rw [if_neg (by omega)]
    refine c_rord [] [(0, true), (1, true), (2, true), (3, true), (4, true), (5, true), (6, true), (7, true), (8, true), (9, true), (10, true), (11, true), (12, true), (13, true), (14, true), (15, true), (16, true), (17, true)] (by kernel_rfl) (by kernel_rfl) (by kernel_rfl) (by kernel_rfl) rfl (by intro c a d v w h; cases d <;> exact h) rfl ?_
    simp only [mkOrd, List.filterMap_cons, List.filterMap_nil, List.getElem?_toArray, List.getElem?_cons_zero, List.getElem?_cons_succ, Option.map_some]
    refine o_y (Y_fa 5 rfl Tryz.underlying34 rfl sz30 rfl) rfl rfl ?_
    refine o_y (yl_ one30) rfl rfl ?_
    refine o_y (Y_mv) rfl rfl ?_
    refine o_y (Y_ia (n := r) rfl rfl Tryz.underlying30 sz93 rfl (by omega)) rfl rfl ?_
    refine o_y (Y_fa 3 rfl Tryz.underlying93 rfl sz3 rfl) rfl rfl ?_
    refine o_y (Y_loadR (v := iv e.x) (i := 3) rfl one3 hre rfl rfl) rfl rfl ?_
    refine o_y (Y_mv) rfl rfl ?_
    refine o_y ad_ rfl rfl ?_
    refine o_y (Y_fa 5 rfl Tryz.underlying34 rfl sz30 rfl) rfl rfl ?_
    refine o_y (yl_ one30) rfl rfl ?_
    refine o_y (Y_mv) rfl rfl ?_
    refine o_y (Y_ia (n := r) rfl rfl Tryz.underlying30 sz93 rfl (by omega)) rfl rfl ?_
    refine o_y (Y_fa 4 rfl Tryz.underlying93 rfl sz3 rfl) rfl rfl ?_
    refine o_y (Y_loadR (v := iv e.y) (i := 4) rfl one3 hre rfl rfl) rfl rfl ?_
    refine o_y (Y_mv) rfl rfl ?_
    refine o_y ad_ rfl rfl ?_
    refine o_y (Y_as) rfl rfl ?_
    refine o_y (Y_as) rfl rfl ?_
    refine o_nil ?_
    refine q_then ?_
    refine c_seq ?_
    refine c_reg ?_
    refine s_y (Y_fa 5 rfl Tryz.underlying34 rfl sz30 rfl) rfl rfl ?_
    refine s_y (yl_ one30) rfl rfl ?_
    refine s_y (Y_mv) rfl rfl ?_
    refine s_y (Y_mv) rfl rfl ?_
    refine s_c (En_call (fun _ => rfl) Tryz.func73 rfl (by kernel_rfl) rfl) (fun w hH => reat_d (hw.e.has hH)) rfl rfl ?_
    rintro _ _ ⟨rfl, rfl⟩
    refine s_y (Y_as) rfl rfl ?_
    refine s_nil ?_
    have har := eAt_rng d.ents (e.x + wx k) (e.y + wy k)
    obtain ⟨a, haa⟩ : ∃ z, eAt d.ents (e.x + wx k) (e.y + wy k) = z := ⟨_, rfl⟩
    rw [haa] at har ⊢
    refine q_then ?_
    refine c_seq ?_
    refine c_seq ?_
    refine c_reg ?_
    refine s_y (Y_mv) rfl rfl ?_
    refine s_y (Y_geq rfl rfl) rfl rfl ?_
    refine s_nil ?_
    refine q_then ?_
    first | refine c_cond' rfl (fun hc6 => ?_) (fun hc6 => ?_) | refine c_cond rfl (fun hc6 => ?_) (fun hc6 => ?_)
    · skip
      try simp only [nrm_] at hc6
      refine c_seq ?_
      refine c_seq ?_
      rw [if_pos hc6]
      refine c_reg ?_
      refine s_y (Y_fa 5 rfl Tryz.underlying34 rfl sz30 rfl) rfl rfl ?_
      refine s_y (yl_ one30) rfl rfl ?_
      refine s_y (Y_mv) rfl rfl ?_
      refine s_y (Y_ia (n := a.toNat) rfl rfl Tryz.underlying30 sz93 (by omega) (by omega)) rfl rfl ?_
      refine s_y (Y_fa 0 rfl Tryz.underlying93 rfl sz3 rfl) rfl rfl ?_
      refine s_y (Y_loadR (v := iv (egt d.ents a).kind) (i := 0) rfl one3 (hw.e.at' Ent.len (eget_of (by omega) (by omega))) rfl rfl) rfl rfl ?_
      refine s_y (Y_eql rfl rfl) rfl rfl ?_
      refine s_y (Y_mv) rfl rfl ?_
      refine s_y (Y_eqB rfl rfl Tryz.underlying4) rfl rfl ?_
      refine s_nil ?_
      refine q_then ?_
      first | refine c_cond' rfl (fun hc7 => ?_) (fun hc7 => ?_) | refine c_cond rfl (fun hc7 => ?_) (fun hc7 => ?_)
      · skip
        try simp only [nrm_] at hc7
        refine c_reg ?_
        refine s_y (ya_ many34) rfl rfl ?_
        refine s_y (Y_mv) rfl rfl ?_
        refine s_y (Y_mv) rfl rfl ?_
        refine s_c (En_call (fun _ => rfl) Tryz.func143 rfl (by kernel_rfl) rfl) (fun w hH => rhit_d (hw.has hH) hv) rfl rfl ?_
        rintro _ _ ⟨cb, cc, eb, ec, ib, ic, rfl, rfl, l1, l2, l3⟩
        refine s_s (S_storeA (vs := wL (hitM d r a) ⟨cb, 0, cc, eb, 0, ec, ib, 0, ic⟩) rfl rfl sz34 (by rfl) (by rfl) up_ (by rfl)) rfl ?_
        refine s_nil ?_
        refine q_then ?_
        refine c_seq ?_
        refine c_reg ?_
        refine s_y (ya_ many34) rfl rfl ?_
        refine s_s (S_storeA (vs := wL (hitM d r a) ⟨cb, 0, cc, eb, 0, ec, ib, 0, ic⟩) rfl rfl sz34 (by rfl) (by rfl) up_ (by rfl)) rfl ?_
        refine s_nil ?_
        refine q_then ?_
        refine c_ret ?_
        rw [if_pos (by simpa using hc7)]
        refine QL.pick (L' := [wB b8 (wL (hitM d r a) ⟨cb, 0, cc, eb, 0, ec, ib, 0, ic⟩), cB cb cc (hitM d r a).cells, eB eb ec (hitM d r a).ents, iB ib ic (hitM d r a).items]) ss_ ?_
        refine q_ret1c rfl rfl many34 (List.Mem.head _) rfl (List.Sublist.cons _ (List.Sublist.refl _)) (.inr ⟨cb, cc, eb, ec, ib, ic, rfl, rfl, l1, l2, l3⟩)
      · skip
        try simp only [nrm_] at hc7
        refine c_skip ?_
        refine q_then ?_
        refine c_seq ?_
        refine c_reg ?_
        refine s_y (ya_ many34) rfl rfl ?_
        refine s_s (S_storeA (vs := wL d s) rfl rfl sz34 (by rfl) (by rfl) up_ (by rfl)) rfl ?_
        refine s_nil ?_
        refine q_then ?_
        refine c_ret ?_
        rw [if_neg (by simpa using hc7)]
        refine q_ret1c rfl rfl many34 mm_ (by rfl) (L' := []) sl_ (.inl ⟨rfl, rfl, rfl⟩)
    · skip
      try simp only [nrm_] at hc6
      refine c_skip ?_
      refine q_then ?_
      refine c_seq ?_
      refine c_seq ?_
      rw [if_neg hc6]
      refine c_reg ?_
      refine s_y (Y_fa 4 rfl Tryz.underlying34 rfl sz24 rfl) rfl rfl ?_
      refine s_y (yl_ one24) rfl rfl ?_
      refine s_y (Y_mv) rfl rfl ?_
      refine s_y (Y_mv) rfl rfl ?_
      refine s_c (En_call (fun _ => rfl) Tryz.func91 rfl (by kernel_rfl) rfl) (fun w hH => rat_d (hw.c.has hH)) rfl rfl ?_
      rintro _ _ ⟨rfl, rfl⟩
      refine s_c (En_call (fun _ => rfl) Tryz.func97 rfl (by kernel_rfl) rfl) (fun w hH => rwalk_d) rfl rfl ?_
      rintro _ _ ⟨rfl, rfl⟩
      refine s_nil ?_
      refine q_then ?_
      refine c_cond (t := (walkM (atM d.cells (e.x + wx k) (e.y + wy k)))) rfl (fun hc10 => ?_) (fun hc10 => ?_)
      · skip
        try simp only [nrm_] at hc10
        refine c_seq ?_
        refine c_reg ?_
        refine s_y (ya_ many34) rfl rfl ?_
        refine s_c (En_call (fun _ => rfl) Tryz.func51 rfl (by kernel_rfl) rfl) (fun w hH => rtwin_d (hw.has hH)) rfl rfl ?_
        rintro _ _ ⟨cb, cc, eb, ec, ib, ic, rfl, rfl, l1, l2, l3⟩
        refine s_s (S_storeA (vs := wL d ⟨cb, 0, cc, eb, 0, ec, ib, 0, ic⟩) rfl rfl sz34 (by rfl) (by rfl) up_ (by rfl)) rfl ?_
        refine s_nil ?_
        refine q_then ?_
        refine c_rordS (L0 := [wB b4 (wL d ⟨cb, 0, cc, eb, 0, ec, ib, 0, ic⟩)]) sl_ [13] [(0, true), (1, true), (2, true), (3, true), (4, true), (5, true), (6, true), (7, true), (8, true), (9, true), (10, false), (11, true), (12, true), (13, false)] (by kernel_rfl) (by kernel_rfl) (by kernel_rfl) (by kernel_rfl) rfl (by intro c a d v w h; cases d <;> exact h) rfl ?_
        simp only [mkOrd, List.filterMap_cons, List.filterMap_nil, List.getElem?_toArray, List.getElem?_cons_zero, List.getElem?_cons_succ, Option.map_some]
        refine o_y (Y_fa 5 rfl Tryz.underlying34 rfl sz30 rfl) rfl rfl ?_
        refine o_y (yl_ one30) rfl rfl ?_
        refine o_y (Y_mv) rfl rfl ?_
        refine o_y (Y_fa 5 rfl Tryz.underlying34 rfl sz30 rfl) rfl rfl ?_
        refine o_y (yl_ one30) rfl rfl ?_
        refine o_y (Y_mv) rfl rfl ?_
        refine o_y (Y_mv) rfl rfl ?_
        refine o_y (Y_mv) rfl rfl ?_
        refine o_y (Y_ia (n := r) rfl rfl Tryz.underlying30 sz93 rfl (by omega)) rfl rfl ?_
        refine o_y (Y_fa 3 rfl Tryz.underlying93 rfl sz3 rfl) rfl rfl ?_
        refine o_s (S_st (cs' := ecells (d.ents.set r { e with x := e.x + wx k })) rfl gt_ sz3 (by rfl) up_ (eset { e with x := e.x + wx k } he rfl rfl) (lt_e hrl (by decide))) kp_ rfl ?_
        refine o_y (Y_ia (n := r) rfl rfl Tryz.underlying30 sz93 rfl (by omega)) rfl rfl ?_
        refine o_y (Y_fa 4 rfl Tryz.underlying93 rfl sz3 rfl) rfl rfl ?_
        refine o_s (S_st (cs' := ecells (d.ents.set r { e with x := e.x + wx k, y := e.y + wy k })) rfl gt_ sz3 (by rfl) up_ (eset2 { e with x := e.x + wx k } { e with x := e.x + wx k, y := e.y + wy k } hrl rfl rfl) (lt_e (by rw [List.length_set]; exact hrl) (by decide))) kp_ rfl ?_
        refine o_nil ?_
        refine q_then ?_
        refine c_seq ?_
        refine c_reg ?_
        refine s_y (ya_ many34) rfl rfl ?_
        refine s_s (S_storeA (vs := wL d ⟨cb, 0, cc, eb, 0, ec, ib, 0, ic⟩) rfl rfl sz34 (by rfl) (by rfl) up_ (by rfl)) rfl ?_
        refine s_nil ?_
        refine q_then ?_
        refine c_ret ?_
        rw [if_pos hc10]
        refine QL.pick (L' := [wB b8 (wL d ⟨cb, 0, cc, eb, 0, ec, ib, 0, ic⟩), cB cb cc d.cells, eB eb ec (d.ents.set r { e with x := e.x + wx k, y := e.y + wy k }), iB ib ic d.items]) ss_ ?_
        refine q_ret1c rfl rfl many34 (List.Mem.head _) rfl (List.Sublist.cons _ (List.Sublist.refl _)) (.inr ⟨cb, cc, eb, ec, ib, ic, rfl, rfl, l1, l2, l3⟩)
      · skip
        try simp only [nrm_] at hc10
        refine c_skip ?_
        refine q_then ?_
        refine c_seq ?_
        refine c_reg ?_
        refine s_y (ya_ many34) rfl rfl ?_
        refine s_s (S_storeA (vs := wL d s) rfl rfl sz34 (by rfl) (by rfl) up_ (by rfl)) rfl ?_
        refine s_nil ?_
        refine q_then ?_
        refine c_ret ?_
        rw [if_neg (by rw [hc10]; decide)]
        refine q_ret1c rfl rfl many34 mm_ (by rfl) (L' := []) sl_ (.inl ⟨rfl, rfl, rfl⟩)
end
end Go.Proofs.YtcogbkkdccohfaaGreat
namespace Go.Ad
open Go.RowKit Go.Maps Go.Proofs.YtcogbkkdccohfaaGreat
abbrev frE (e : Ent) : Ent := { Ent.zero with gen := e.gen }
theorem freeE_map {l : List Ent} {i : Nat} (h : i < l.length) : freeE (mapI frE l i) i = mapI frE l (i + 1) := by
  obtain ⟨e, he⟩ := take_lt h
  unfold freeE
  rw [if_pos (by omega), Int.toNat_natCast, egt_of (mapI_get he), mapI_succ he]
theorem freeF_map (l : List Ent) {i : Nat} (h : l.length ≤ i) : mapI frE l i = freeF l := mapI_all frE l h
theorem SlB.hasM {W w : World} {M : List Nat} {L : List Bk} {b o n c k : Nat} {cs : List Value} (h : SlB W b o n c k cs) (hM : b ∉ M) (hH : Has W M L w) : SlB w b o n c k cs := h.has hH hM
theorem WL.at' {W : World} {d : Wd} {s : Ws} (h : WL W d s) : WAt W d s := by
  obtain ⟨z1, z2, z3⟩ := h.sz
  exact ⟨by rw [z1]; exact h.c, by rw [z2]; exact h.e, by rw [z3]; exact h.i⟩
theorem wv_wL {d : Wd} {s : Ws} (h : d.cells.length = 384 ∧ d.ents.length = 32 ∧ d.items.length = 40) : wv d s = wL d s := by
  unfold wv; rw [h.1, h.2.1, h.2.2]
end Go.Ad
namespace Go.Proofs.YtcogbkkdccohfaaGreat
open Go.RowKit Go.Ad Go.Maps
set_option linter.unusedVariables false
set_option linter.unusedSimpArgs false
theorem EntsP.atM {b o n c : Nat} {l l' : List Ent} {v : Value} {B : List Bk} (h : EntsP b o n c l l' v B) : ∃ b' o' c', v = .slice (some ⟨b', o', none⟩) n c' ∧ ∀ {W w : World} {M : List Nat} {L : List Bk}, SlB W b o n c 11 (ecells l) → b ∉ M → Has W M L w → (∀ x ∈ B, x ∈ L) → SlB w b' o' n c' 11 (ecells l') := by
  cases h with
  | old h => subst h; exact ⟨b, o, c, rfl, fun hs hM hH _ => hs.has hH hM⟩
  | @new g cap h1 h2 => exact ⟨g, 0, cap, rfl, fun hs hM hH hB => (hH.at' (hB _ (List.Mem.head _))).sl (by rw [ecells_len, h2]) (by rw [← h2]; exact h1)⟩
theorem placeF_step (cells : List UInt8) (old l : List Ent) (n : Nat) : placeF cells old l (n + 1) = if eHero old n < 0 then placeF cells old l n else (placeF cells old l n).set (eHero old n).toNat (heroM cells (placeF cells old l n) (egt old (eHero old n))).1 := rfl
def StockL (d : Wd) (s : Ws) (d' : Wd) (v : Value) (L : List Bk) : Prop := ∃ ev B ig ic, v = .agg #[iv d.seed, iv d.frame, iv d.floor, iv d.state, .slice (some ⟨s.cb, s.co, none⟩) 384 s.cc, ev, .slice (some ⟨ig, 0, none⟩) 40 ic, iv d.gold.a, iv d.gold.b, iv d.gold.c, iv d.gold.d] ∧ EntsP s.eb s.eo 32 s.ec d.ents d'.ents ev B ∧ 40 ≤ ic ∧ L = iB ig ic d'.items :: B
section
variable {W : World}
theorem rstockL_d {d : Wd} {s : Ws} (hw : WL W d s) {m : Lvl} {cv mev miv : Value} (hc : cv.oneCell' = true) (hme : SlV W 11 mev m.ents.length (ecells m.ents)) (hmi : SlV W 4 miv m.items.length (icells m.items)) :
    Does Tryz.prog 76 [.agg (wL d s).toArray, .agg #[cv, mev, miv]] W [] (StockL d s (stockW d m)) := by
  obtain ⟨z1, z2, z3⟩ := hw.sz
  have h := rstock_d hw.at' ⟨by omega, by omega⟩ hc hme hmi
  rw [wv_wL ⟨z1, z2, z3⟩] at h
  refine h.post fun v L => ?_
  rintro ⟨ev, B, ig, ic, h1, h2, h3, h4⟩
  rw [z1, z3] at h1
  rw [z2] at h2
  rw [z3] at h3
  exact ⟨ev, B, ig, ic, h1, h2, h3, h4⟩
set_option maxRecDepth 100000 in
set_option maxHeartbeats 1600000 in
theorem rbelow_d {d : Wd} {cb co cc eb eo ec ib ic : Nat} (he : SlB W eb eo 32 ec 11 (ecells d.ents)) (hx : (iB ib ic d.items).holds W) (hne : eb ≠ ib) (l3 : 40 ≤ ic) (hv : VW d) (hf : d.floor ≤ 2) :
    Does Tryz.prog 95 [.agg (wL d ⟨cb, co, cc, eb, eo, ec, ib, 0, ic⟩).toArray] W [ib] (WN (belowM d)) := by
  obtain ⟨z1, z2, z3⟩ := hv.sz
  have hfn := hv.nums.1
  have hM : eb ∉ [ib] := by simpa using hne
  obtain ⟨fl, hfl⟩ : ∃ q, d.floor + 1 = q := ⟨_, rfl⟩
  have hml := make_len d.seed fl
  have hbe : belowM d = stockW { d with floor := fl, cells := (makeM d.seed fl).cells, items := d.items.map keepI, ents := placeF (makeM d.seed fl).cells d.ents (freeF d.ents) 4 } (makeM d.seed fl) := by rw [← hfl]; rfl
  have hmk := @rmake_d (floor := fl) (seed := d.seed)
  obtain ⟨m, hm⟩ : ∃ q, makeM d.seed fl = q := ⟨_, rfl⟩
  rw [hm] at hml hbe
  simp only [hm] at hmk
  rw [hbe]
  clear hbe hm
  refine enter Tryz.func95 rfl rfl rfl (Has.start1 hx) ?_
  refine c_seq ?_
  refine c_reg ?_
  refine s_n (N_box (cs := wL d ⟨cb, co, cc, eb, eo, ec, ib, 0, ic⟩) rfl) rfl rfl (fun b1 _ => ?_)
  refine s_n (N_alloc (z := .agg #[.int .i64 0, .int .i64 0, .int .i64 0, .int .i64 0, .slice none 0 0, .slice none 0 0, .slice none 0 0, .int .i64 0, .int .i64 0, .int .i64 0, .int .i64 0]) (cs := [.int .i64 0, .int .i64 0, .int .i64 0, .int .i64 0, .slice none 0 0, .slice none 0 0, .slice none 0 0, .int .i64 0, .int .i64 0, .int .i64 0, .int .i64 0]) zv34 rfl) rfl rfl (fun b2 _ => ?_)
  refine s_nil ?_
  refine q_then ?_
  refine c_seq ?_
  refine c_reg ?_
  refine s_y (Y_fa 2 rfl Tryz.underlying34 rfl sz3 rfl) rfl rfl ?_
  refine s_y (yl_ one3) rfl rfl ?_
  refine s_y ((Y_add rfl rfl (by omega)).num hfl) rfl rfl ?_
  refine s_y (Y_fa 2 rfl Tryz.underlying34 rfl sz3 rfl) rfl rfl ?_
  refine s_s (S_st (cs' := wL { d with floor := fl } ⟨cb, co, cc, eb, eo, ec, ib, 0, ic⟩) rfl gt_ sz3 (by rfl) up_ (by rfl) (by simp only [List.length_cons, List.length_nil]; omega)) rfl ?_
  refine s_nil ?_
  refine q_then ?_
  refine c_seq ?_
  refine c_reg ?_
  refine s_y (Y_fa 0 rfl Tryz.underlying34 rfl sz2 rfl) rfl rfl ?_
  refine s_y (yl_ one2) rfl rfl ?_
  refine s_y (Y_fa 2 rfl Tryz.underlying34 rfl sz3 rfl) rfl rfl ?_
  refine s_y (yl_ one3) rfl rfl ?_
  refine s_c (En_call (fun _ => rfl) Tryz.func75 rfl (by kernel_rfl) rfl) (fun w hH => hmk w (by omega)) rfl rfl ?_
  rintro _ _ ⟨cb2, ev, E, iv', I, rfl, hE, hI, rfl⟩
  refine QL.perm (List.perm_append_comm.cons _) ?_
  refine s_n (N_alloc (z := .agg #[.slice none 0 0, .slice none 0 0, .slice none 0 0]) (cs := [.slice none 0 0, .slice none 0 0, .slice none 0 0]) zv138 rfl) rfl rfl (fun b3 _ => ?_)
  refine s_s (S_storeA (vs := [.slice (some ⟨cb2, 0, none⟩) 384 384, ev, iv']) rfl rfl sz138 (by rfl) (by simp only [List.all_cons, List.all_nil, hE.one, hI.one]; rfl) up_ (by rfl)) rfl ?_
  refine s_nil ?_
  refine q_then ?_
  refine c_seq ?_
  refine c_reg ?_
  refine s_y (Y_fa 0 rfl Tryz.underlying138 rfl sz24 rfl) rfl rfl ?_
  refine s_y (yl_ one24) rfl rfl ?_
  refine s_y (Y_fa 4 rfl Tryz.underlying34 rfl sz24 rfl) rfl rfl ?_
  refine s_s (S_st (cs' := wL { d with floor := fl } ⟨cb2, 0, 384, eb, eo, ec, ib, 0, ic⟩) rfl gt_ sz24 (by rfl) up_ (by rfl) (by simp only [List.length_cons, List.length_nil]; omega)) rfl ?_
  refine s_nil ?_
  refine q_then ?_
  refine c_seq ?_
  refine c_seq ?_
  refine c_reg ?_
  refine s_y (Y_asC) rfl rfl ?_
  refine s_nil ?_
  refine q_then ?_
  refine c_block ?_
  refine c_loop [4, 23, 24, 25, 26, 27, 28, 29, 30, 31, 32, 33, 34, 35, 36, 37, 38, 39, 40, 41, 42, 43, 44, 45, 46, 47, 48, 49, 50] (fun m2 (i : Nat) => i + m2 = 40) (fun i => [(4, iv i)]) (fun i => lB b3 [.slice (some ⟨cb2, 0, none⟩) 384 384, ev, iv'] :: cB cb2 384 m.cells :: wB b2 wz :: wB b1 (wL { d with floor := fl } ⟨cb2, 0, 384, eb, eo, ec, ib, 0, ic⟩) :: iB ib ic (mapI keepI d.items i) :: (I ++ E)) (40) (0) (rfl) (by repeat (first | exact trivial | refine ⟨rfl, ?_⟩)) (fun w h => by rw [mapI_zero]; exact h) (fun _ => rfl) ?_
  rintro m2 i j hi K hK
  refine c_seq ?_
  refine c_seq ?_
  refine c_reg ?_
  refine s_y (Y_mv) rfl rfl ?_
  refine s_y (Y_fa 6 rfl Tryz.underlying34 rfl sz31 rfl) rfl rfl ?_
  refine s_y (yl_ one31) rfl rfl ?_
  refine s_y (Y_len rfl rfl Tryz.underlying31) rfl rfl ?_
  refine s_y (Y_lss rfl rfl) rfl rfl ?_
  refine s_nil ?_
  refine q_then ?_
  first | refine c_cond' rfl (fun hc5 => ?_) (fun hc5 => ?_) | refine c_cond rfl (fun hc5 => ?_) (fun hc5 => ?_)
  · skip
    try simp only [nrm_] at hc5
    refine c_skip ?_
    refine q_then ?_
    refine c_seq ?_
    refine c_block ?_
    refine c_seq ?_
    obtain ⟨x, hx0⟩ := take_lt (show i < d.items.length by omega)
    have hx := mapI_get (f := keepI) hx0
    have hml := mapI_len keepI d.items i
    refine c_reg ?_
    refine s_y (Y_fa 6 rfl Tryz.underlying34 rfl sz31 rfl) rfl rfl ?_
    refine s_y (yl_ one31) rfl rfl ?_
    refine s_y (Y_mv) rfl rfl ?_
    refine s_y (Y_ia rfl rfl Tryz.underlying31 sz98 rfl (by omega)) rfl rfl ?_
    refine s_y (Y_fa 1 rfl Tryz.underlying98 rfl sz3 rfl) rfl rfl ?_
    refine s_y (yl_ one3) rfl rfl ?_
    refine s_y (Y_eql rfl rfl) rfl rfl ?_
    refine s_y (Y_mv) rfl rfl ?_
    apply s_or 8 [37, 38, 39, 40, 41, 42, 43, 44, 45] 45 (g := 37) rfl rfl
    · intro ht8 hm
      try simp only [nrm_] at ht8
      first | refine s_y (Y_fa 6 rfl Tryz.underlying34 rfl sz31 rfl) rfl rfl ?_ | refine s_pass rfl rfl ?_
      first | refine s_y (yl_ one31) rfl rfl ?_ | refine s_pass rfl rfl ?_
      first | refine s_y (Y_mv) rfl rfl ?_ | refine s_pass rfl rfl ?_
      first | refine s_y (Y_ia rfl rfl Tryz.underlying31 sz98 rfl (by omega)) rfl rfl ?_ | refine s_pass rfl rfl ?_
      first | refine s_y (Y_fa 1 rfl Tryz.underlying98 rfl sz3 rfl) rfl rfl ?_ | refine s_pass rfl rfl ?_
      first | refine s_y (yl_ one3) rfl rfl ?_ | refine s_pass rfl rfl ?_
      first | refine s_y (Y_eql rfl rfl) rfl rfl ?_ | refine s_pass rfl rfl ?_
      refine s_y (Y_pk rfl Gx.const (Gx.tmp gt_)) rfl rfl ?_
      first | exact hm _ ⟨rfl, trivial⟩ rfl | exact QL.sub sl_ (hm _ ⟨rfl, trivial⟩ rfl)
    · intro ht8 hm
      iterate 7 refine s_pass rfl rfl ?_
      refine s_y (Y_pk rfl Gx.const (Gx.tmp gt_)) rfl rfl ?_
      exact hm _ ⟨rfl, trivial⟩ rfl
    intro j45
    refine s_nil ?_
    refine q_then ?_
    first | refine c_cond' rfl (fun hc7 => ?_) (fun hc7 => ?_) | refine c_cond rfl (fun hc7 => ?_) (fun hc7 => ?_)
    · skip
      try simp only [nrm_] at hc7
      refine c_reg ?_
      refine s_y (Y_fa 6 rfl Tryz.underlying34 rfl sz31 rfl) rfl rfl ?_
      refine s_y (yl_ one31) rfl rfl ?_
      refine s_y (Y_mv) rfl rfl ?_
      refine s_y (Y_build (cs := [.int .i64 0, .int .i64 0, .int .i64 0, .int .i64 0]) (by repeat (first | exact Gp.nil | apply Gp.const | apply Gp.tmp gt_)) (bld98 _ _ (by first | rfl | (simp; rfl)))) rfl rfl ?_
      refine s_y (Y_ia rfl rfl Tryz.underlying31 sz98 rfl (by omega)) rfl rfl ?_
      refine s_s (S_storeN (cs' := icells ((mapI keepI d.items i).set i Itm.zero)) rfl rfl sz98 (by rfl) (by rfl) up_ (iall Itm.zero (by omega)) (ble_i (by omega))) rfl ?_
      refine s_nil ?_
      refine q_bn ?_
      refine q_then ?_
      refine c_reg ?_
      refine s_y (Y_mv) rfl rfl ?_
      refine s_y ad_ rfl rfl ?_
      refine s_y (Y_as) rfl rfl ?_
      refine s_nil ?_
      have hs : keepI x = Itm.zero := by unfold keepI; rw [if_pos (by omega)]
      refine hK (m2 - 1) (i + 1) _ _ (by omega) (by omega) ⟨rfl, trivial⟩ rfl (fun w h => ?_)
      simp only; rw [mapI_succ hx0, hs]; exact h
    · skip
      try simp only [nrm_] at hc7
      refine c_skip ?_
      refine q_bn ?_
      refine q_then ?_
      refine c_reg ?_
      refine s_y (Y_mv) rfl rfl ?_
      refine s_y ad_ rfl rfl ?_
      refine s_y (Y_as) rfl rfl ?_
      refine s_nil ?_
      have hs : keepI x = x := by unfold keepI; rw [if_neg (by omega)]
      refine hK (m2 - 1) (i + 1) _ _ (by omega) (by omega) ⟨rfl, trivial⟩ rfl (fun w h => ?_)
      simp only; rw [mapI_same hx0 hs]; exact h
  · skip
    try simp only [nrm_] at hc5
    refine c_exit ?_
    repeat with_reducible refine q_te ?_
    refine q_exit ?_
    refine q_then ?_
    refine c_seq ?_
    rw [mapI_all keepI d.items (show d.items.length ≤ i by omega)]
    refine c_reg ?_
    refine s_y (Y_fa 5 rfl Tryz.underlying34 rfl sz30 rfl) rfl rfl ?_
    refine s_y (yl_ one30) rfl rfl ?_
    refine s_y (Y_as) rfl rfl ?_
    refine s_nil ?_
    refine q_then ?_
    refine c_seq ?_
    refine c_seq ?_
    refine c_reg ?_
    refine s_y (Y_asC) rfl rfl ?_
    refine s_nil ?_
    refine q_then ?_
    refine c_block ?_
    refine c_loop [6, 53, 54, 55, 56, 57, 58, 59, 60, 61, 62, 63] (fun m2 (y : Nat × Value × List Bk) => y.1 + m2 = 32 ∧ EntsP eb eo 32 ec d.ents (mapI frE d.ents y.1) y.2.1 y.2.2 ∧ (y.1 ≠ 0 → ∃ g cap, y.2.1 = .slice (some ⟨g, 0, none⟩) 32 cap ∧ 32 ≤ cap ∧ y.2.2 = [eB g cap (mapI frE d.ents y.1)])) (fun y => [(6, iv y.1)]) (fun y => lB b3 [.slice (some ⟨cb2, 0, none⟩) 384 384, ev, iv'] :: cB cb2 384 m.cells :: wB b2 wz :: wB b1 [iv d.seed, iv d.frame, iv fl, iv d.state, .slice (some ⟨cb2, 0, none⟩) 384 384, y.2.1, .slice (some ⟨ib, 0, none⟩) 40 ic, iv d.gold.a, iv d.gold.b, iv d.gold.c, iv d.gold.d] :: iB ib ic (d.items.map keepI) :: (y.2.2 ++ (I ++ E))) (32) ((0, .slice (some ⟨eb, eo, none⟩) 32 ec, [])) (⟨rfl, .old (mapI_zero _ _), fun h => absurd rfl h⟩) (by repeat (first | exact trivial | refine ⟨rfl, ?_⟩)) (fun _ h => h.sub sl_) (fun _ => rfl) ?_
    rintro m2 ⟨i, v, B⟩ j ⟨hi, hP, hnew⟩ K hK
    simp only at hi hP hnew ⊢
    obtain ⟨eb1, eo1, ec1, rfl, hsl⟩ := hP.atM
    have hln := mapI_len frE d.ents i
    refine c_seq ?_
    refine c_seq ?_
    refine c_reg ?_
    refine s_y (Y_mv) rfl rfl ?_
    refine s_y (Y_mv) rfl rfl ?_
    refine s_y (Y_len rfl rfl Tryz.underlying30) rfl rfl ?_
    refine s_y (Y_lss rfl rfl) rfl rfl ?_
    refine s_nil ?_
    refine q_then ?_
    first | refine c_cond' rfl (fun hc11 => ?_) (fun hc11 => ?_) | refine c_cond rfl (fun hc11 => ?_) (fun hc11 => ?_)
    · skip
      try simp only [nrm_] at hc11
      refine c_skip ?_
      refine q_then ?_
      refine c_seq ?_
      refine c_block ?_
      refine c_reg ?_
      refine s_y (Y_fa 5 rfl Tryz.underlying34 rfl sz30 rfl) rfl rfl ?_
      refine s_y (yl_ one30) rfl rfl ?_
      refine s_y (Y_mv) rfl rfl ?_
      refine s_c (En_call (fun _ => rfl) Tryz.func152 rfl (by kernel_rfl) rfl) (fun w hH => rfree_d (hsl he hM hH (fun x hx => by repeat (first | exact hx | exact List.mem_append_left _ hx | exact List.mem_append_right _ hx | apply List.Mem.tail | apply List.mem_append_right))) (by omega) (by omega)) rfl rfl ?_
      rintro _ _ ⟨g, cap, rfl, hcap, rfl⟩
      rw [freeE_map (l := d.ents) (i := i) (by omega)]
      refine s_y (Y_fa 5 rfl Tryz.underlying34 rfl sz30 rfl) rfl rfl ?_
      refine s_s (S_st (cs' := wL { d with floor := fl } ⟨cb2, 0, 384, g, 0, cap, ib, 0, ic⟩) rfl gt_ sz30 (by rfl) up_ (by rfl) (by simp only [List.length_cons, List.length_nil]; omega)) rfl ?_
      refine s_nil ?_
      refine q_bn ?_
      refine q_then ?_
      refine c_reg ?_
      refine s_y (Y_mv) rfl rfl ?_
      refine s_y ad_ rfl rfl ?_
      refine s_y (Y_as) rfl rfl ?_
      refine s_nil ?_
      refine hK (m2 - 1) (i + 1, .slice (some ⟨g, 0, none⟩) 32 cap, [eB g cap (mapI frE d.ents (i + 1))]) _ _ (by omega) ⟨by simp only; omega, .new (by rw [mapI_len]; omega) (by rw [mapI_len]; exact z2), fun _ => ⟨g, cap, rfl, hcap, rfl⟩⟩ ⟨rfl, trivial⟩ rfl (fun w h => ?_)
      exact h.pick2 (xs := [lB b3 [.slice (some ⟨cb2, 0, none⟩) 384 384, ev, iv'], cB cb2 384 m.cells, wB b2 wz, wB b1 (wL { d with floor := fl } ⟨cb2, 0, 384, g, 0, cap, ib, 0, ic⟩), iB ib ic (d.items.map keepI), eB g cap (mapI frE d.ents (i + 1))]) (R := B ++ (I ++ E)) ss_ (List.sublist_append_right _ _)
    · skip
      try simp only [nrm_] at hc11
      refine c_exit ?_
      repeat with_reducible refine q_te ?_
      refine q_exit ?_
      refine q_then ?_
      refine c_seq ?_
      refine c_seq ?_
      obtain ⟨g0, cap0, hv0, hc0, rfl⟩ := hnew (by omega)
      cases hv0
      rw [freeF_map d.ents (show d.ents.length ≤ i by omega)]
      clear hsl hln hP hnew
      refine c_reg ?_
      refine s_y (Y_asC) rfl rfl ?_
      refine s_nil ?_
      refine q_then ?_
      refine c_block ?_
      refine c_loop [7, 8, 9, 10, 64, 65, 66, 67, 68, 69, 70, 71, 72, 73, 74, 75, 76, 77, 78, 79, 80, 81, 82, 83, 84, 85, 86, 87, 88, 89, 90, 91] (fun m2 (y : Nat × List Ent × Nat × Nat) => y.1 + m2 = 4 ∧ y.2.1 = placeF m.cells d.ents (freeF d.ents) y.1 ∧ 32 ≤ y.2.2.2) (fun y => [(7, iv y.1)]) (fun y => lB b3 [.slice (some ⟨cb2, 0, none⟩) 384 384, ev, iv'] :: cB cb2 384 m.cells :: wB b2 wz :: wB b1 (wL { d with floor := fl } ⟨cb2, 0, 384, y.2.2.1, 0, y.2.2.2, ib, 0, ic⟩) :: iB ib ic (d.items.map keepI) :: eB y.2.2.1 y.2.2.2 y.2.1 :: (I ++ E)) (4) ((0, freeF d.ents, eb1, ec1)) (⟨rfl, rfl, hc0⟩) (by repeat (first | exact trivial | refine ⟨rfl, ?_⟩)) (fun _ h => h.sub sl_) (fun _ => rfl) ?_
      rintro m2 ⟨q, l, gb, gc⟩ j2 ⟨hq, hl, hgc⟩ K hK
      simp only at hq hl hgc ⊢
      have hll : l.length = 32 := by rw [hl, placeF_len]; unfold freeF; rw [List.length_map]; exact z2
      have hst := placeF_step m.cells d.ents (freeF d.ents) q
      rw [← hl] at hst
      refine c_seq ?_
      refine c_seq ?_
      refine c_reg ?_
      refine s_y (Y_mv) rfl rfl ?_
      refine s_y (Y_lss rfl rfl) rfl rfl ?_
      refine s_nil ?_
      refine q_then ?_
      first | refine c_cond' rfl (fun hc15 => ?_) (fun hc15 => ?_) | refine c_cond rfl (fun hc15 => ?_) (fun hc15 => ?_)
      · skip
        try simp only [nrm_] at hc15
        refine c_skip ?_
        refine q_then ?_
        refine c_seq ?_
        refine c_block ?_
        refine c_seq ?_
        refine c_reg ?_
        refine s_y (Y_mv) rfl rfl ?_
        refine s_y (Y_mv) rfl rfl ?_
        refine s_c (En_call (fun _ => rfl) Tryz.func54 rfl (by kernel_rfl) rfl) (fun w hH => rhero_d (he.hasM hM hH)) rfl rfl ?_
        rintro _ _ ⟨rfl, rfl⟩
        refine s_y (Y_as) rfl rfl ?_
        refine s_nil ?_
        refine q_then ?_
        refine c_seq ?_
        refine c_seq ?_
        refine c_reg ?_
        refine s_y (Y_mv) rfl rfl ?_
        refine s_y (Y_lss rfl rfl) rfl rfl ?_
        refine s_nil ?_
        refine q_then ?_
        first | refine c_cond' rfl (fun hc18 => ?_) (fun hc18 => ?_) | refine c_cond rfl (fun hc18 => ?_) (fun hc18 => ?_)
        · skip
          try simp only [nrm_] at hc18
          refine c_exit ?_
          repeat with_reducible refine q_te ?_
          refine q_exit ?_
          refine q_then ?_
          refine c_reg ?_
          refine s_y (Y_mv) rfl rfl ?_
          refine s_y ad_ rfl rfl ?_
          refine s_y (Y_as) rfl rfl ?_
          refine s_nil ?_
          refine hK (m2 - 1) (q + 1, l, gb, gc) _ _ (by omega) ⟨by simp only; omega, by simp only; rw [hst, if_pos hc18], hgc⟩ ⟨rfl, trivial⟩ rfl (fun w h => h)
        · skip
          try simp only [nrm_] at hc18
          refine c_skip ?_
          refine q_then ?_
          obtain ⟨r, e, hr, hre, he1, he2⟩ := eHero_some (rfl : eHero d.ents q = _) (by omega)
          have hrl := lt_of_get hre
          rw [hr, if_neg (by omega), egt_of hre, Int.toNat_natCast] at hst
          rw [hr]
          have hro := he.at' Ent.len hre
          obtain ⟨e2, hhe⟩ : ∃ z, (heroM m.cells l e).1 = z := ⟨_, rfl⟩
          rw [hhe] at hst
          refine c_seq ?_
          refine c_meetQ (ks := [9, 10, 73, 74, 75, 76, 77, 78, 79, 80, 81]) (tr := fun y : Nat => [(9, .pointer (some ⟨y, 0, none⟩))]) (φ := fun _ => True) (G := fun y => e1B y e2 :: lB b3 [.slice (some ⟨cb2, 0, none⟩) 384 384, ev, iv'] :: cB cb2 384 m.cells :: wB b2 wz :: wB b1 (wL { d with floor := fl } ⟨cb2, 0, 384, gb, 0, gc, ib, 0, ic⟩) :: iB ib ic (d.items.map keepI) :: eB gb gc l :: (I ++ E)) (fun _ => rfl) ?_ ?_
          · rintro bb j20 _
            refine q_then ?_
            refine c_seq ?_
            refine c_reg ?_
            refine s_n (N_bs0 rfl Tryz.underlying30 sz93) rfl rfl (fun b82 _ => ?_)
            refine s_y (Y_fa 5 rfl Tryz.underlying34 rfl sz30 rfl) rfl rfl ?_
            refine s_y (yl_ one30) rfl rfl ?_
            refine s_n (N_appE (m := 32) (news := ecells l) rfl rfl Tryz.underlying30 inf93 rfl (by omega) se_ (fun w hH => (eSl hH (b := gb) (c := gc) (l := l) mm_ hll hgc).src w (Has.start w)) (by rw [ecells_len, hll]) (one_e _) (by omega) (by omega)) rfl rfl (fun ⟨g85, cp85⟩ hc85 => ?_)
            refine s_y (Y_fa 5 rfl Tryz.underlying34 rfl sz30 rfl) rfl rfl ?_
            refine s_s (S_st (cs' := wL { d with floor := fl } ⟨cb2, 0, 384, g85, 0, cp85, ib, 0, ic⟩) rfl gt_ sz30 (by rfl) up_ (by rfl) (by simp only [List.length_cons, List.length_nil]; omega)) rfl ?_
            refine s_nil ?_
            refine q_then ?_
            refine c_reg ?_
            refine s_y (Y_fa 5 rfl Tryz.underlying34 rfl sz30 rfl) rfl rfl ?_
            refine s_y (yl_ one30) rfl rfl ?_
            refine s_y (Y_mv) rfl rfl ?_
            refine s_y (ya_ many93) rfl rfl ?_
            refine s_y (Y_ia (n := r) rfl rfl Tryz.underlying30 sz93 rfl (by omega)) rfl rfl ?_
            refine s_s (S_storeN (cs' := ecells (l.set r e2)) rfl rfl sz93 (by rfl) (by rfl) up_ (eall e2 (by omega)) (ble_e (by omega))) rfl ?_
            refine s_nil ?_
            refine q_bn ?_
            refine q_then ?_
            refine c_reg ?_
            refine s_y (Y_mv) rfl rfl ?_
            refine s_y ad_ rfl rfl ?_
            refine s_y (Y_as) rfl rfl ?_
            refine s_nil ?_
            refine hK (m2 - 1) (q + 1, l.set r e2, g85, cp85) _ _ (by omega) ⟨by simp only; omega, by simp only; exact hst.symm, hc85⟩ ⟨rfl, trivial⟩ rfl (fun w h => ?_)
            exact h.pick2 (xs := [lB b3 [.slice (some ⟨cb2, 0, none⟩) 384 384, ev, iv'], cB cb2 384 m.cells, wB b2 wz, wB b1 (wL { d with floor := fl } ⟨cb2, 0, 384, g85, 0, cp85, ib, 0, ic⟩), iB ib ic (d.items.map keepI), eB g85 cp85 (l.set r e2)]) (R := e1B bb e2 :: eB gb gc l :: (I ++ E)) ss_ (((List.Sublist.refl _).cons _).cons _)
          · intro go
            refine c_rall (L0 := [wB b1 (wL { d with floor := fl } ⟨cb2, 0, 384, gb, 0, gc, ib, 0, ic⟩)]) sl_ [] (.take 0 (.take 1 (.take 2 (.take 3 (.take 4 (.alt 5 (.take 6 (.take 7 (.take 8 (.one 9 (.one 10 (.take 11 .nil)))))) (.one 9 (.one 5 (.take 6 (.take 7 (.take 8 (.one 10 (.take 11 .nil))))))))))))) (by kernel_rfl) (by kernel_rfl) (by kernel_rfl) (by kernel_rfl) (by kernel_rfl) (by intro c a d v w h; cases d <;> exact h) rfl ?_
            refine t_y (ya_ many34) rfl rfl ?_
            refine t_y (Y_mv) rfl rfl ?_
            refine t_y (Y_mv) rfl rfl ?_
            refine t_y (Y_ia (n := r) rfl rfl Tryz.underlying30 sz93 rfl (by omega)) rfl rfl ?_
            refine t_y (Y_loadNR rfl many93 hro rfl hM) rfl rfl ?_
            refine t_two ?_ ?_
            · skip
              refine t_c (En_call (fun _ => rfl) Tryz.func87 rfl (by kernel_rfl) rfl) (fun w hH => rherocome_d (d := { d with floor := fl, cells := m.cells, items := d.items.map keepI, ents := l }) (s := ⟨cb2, 0, 384, gb, 0, gc, ib, 0, ic⟩) ⟨cSl hH (b := cb2) (c := 384) (l := m.cells) mm_ hml (by omega), eSl hH (b := gb) (c := gc) (l := l) mm_ hll hgc, iSl hH (b := ib) (c := ic) (l := d.items.map keepI) mm_ (by rw [List.length_map]; exact z3) l3⟩ (e := e)) (fun _ _ h => by obtain ⟨rfl, rfl⟩ := h; exact kp_) rfl rfl ?_
              rintro _ _ ⟨rfl, rfl⟩
              refine t_y (Y_mv) rfl rfl ?_
              refine t_y (Y_extract rfl rfl) rfl rfl ?_
              refine t_y (Y_extract rfl rfl) rfl rfl ?_
              refine t_n (N_alloc (z := .agg #[.int .i64 0, .int .i64 0, .int .i64 0, .int .i64 0, .int .i64 0, .int .i64 0, .int .i64 0, .int .i64 0, .int .i64 0, .int .i64 0, .int .i64 0]) (cs := [.int .i64 0, .int .i64 0, .int .i64 0, .int .i64 0, .int .i64 0, .int .i64 0, .int .i64 0, .int .i64 0, .int .i64 0, .int .i64 0, .int .i64 0]) zv93 rfl) (fun _ => kp_) rfl rfl (fun b9 _ => ?_)
              refine t_s (S_storeA (vs := e2.cells) rfl (by rw [← hhe]; rfl) sz93 (by rfl) (by rfl) up_ (by rfl)) kp_ rfl ?_
              refine t_y (Y_as) rfl rfl ?_
              refine t_nil ?_
              exact go b9 _ _ trivial ⟨rfl, trivial⟩ rfl (fun w h => h)
            refine t_n (N_alloc (z := .agg #[.int .i64 0, .int .i64 0, .int .i64 0, .int .i64 0, .int .i64 0, .int .i64 0, .int .i64 0, .int .i64 0, .int .i64 0, .int .i64 0, .int .i64 0]) (cs := [.int .i64 0, .int .i64 0, .int .i64 0, .int .i64 0, .int .i64 0, .int .i64 0, .int .i64 0, .int .i64 0, .int .i64 0, .int .i64 0, .int .i64 0]) zv93 rfl) (fun _ => kp_) rfl rfl (fun b9 _ => ?_)
            refine t_c (En_call (fun _ => rfl) Tryz.func87 rfl (by kernel_rfl) rfl) (fun w hH => rherocome_d (d := { d with floor := fl, cells := m.cells, items := d.items.map keepI, ents := l }) (s := ⟨cb2, 0, 384, gb, 0, gc, ib, 0, ic⟩) ⟨cSl hH (b := cb2) (c := 384) (l := m.cells) mm_ hml (by omega), eSl hH (b := gb) (c := gc) (l := l) mm_ hll hgc, iSl hH (b := ib) (c := ic) (l := d.items.map keepI) mm_ (by rw [List.length_map]; exact z3) l3⟩ (e := e)) (fun _ _ h => by obtain ⟨rfl, rfl⟩ := h; exact kp_) rfl rfl ?_
            rintro _ _ ⟨rfl, rfl⟩
            refine t_y (Y_mv) rfl rfl ?_
            refine t_y (Y_extract rfl rfl) rfl rfl ?_
            refine t_y (Y_extract rfl rfl) rfl rfl ?_
            refine t_s (S_storeA (vs := e2.cells) rfl (by rw [← hhe]; rfl) sz93 (by rfl) (by rfl) up_ (by rfl)) kp_ rfl ?_
            refine t_y (Y_as) rfl rfl ?_
            refine t_nil ?_
            exact go b9 _ _ trivial ⟨rfl, trivial⟩ rfl (fun w h => h)
      · skip
        try simp only [nrm_] at hc15
        refine c_exit ?_
        repeat with_reducible refine q_te ?_
        refine q_exit ?_
        refine q_then ?_
        refine c_seq ?_
        rw [show q = 4 by omega] at hl
        rw [← hl]
        obtain ⟨dd, hdd⟩ : ∃ z : Wd, ({ d with floor := fl, cells := m.cells, items := d.items.map keepI, ents := l } : Wd) = z := ⟨_, rfl⟩
        have hw5 : (stockW dd m).seed = d.seed ∧ (stockW dd m).cells = m.cells ∧ (stockW dd m).ents.length = 32 := by rw [← hdd]; exact ⟨rfl, rfl, by show (stockEnts _ _).length = 32; rw [stockEnts_len]; exact hll⟩
        refine c_reg ?_
        refine s_y (ya_ many34) rfl rfl ?_
        refine s_y (ya_ many138) rfl rfl ?_
        refine s_c (En_call (fun _ => rfl) Tryz.func76 rfl (by kernel_rfl) rfl) (fun w hH => rstockL_d (d := { d with floor := fl, cells := m.cells, items := d.items.map keepI, ents := l }) (s := ⟨cb2, 0, 384, gb, 0, gc, ib, 0, ic⟩) (m := m) ⟨cSl hH (b := cb2) (c := 384) (l := m.cells) mm_ hml (by omega), eSl hH (b := gb) (c := gc) (l := l) mm_ hll hgc, iSl hH (b := ib) (c := ic) (l := d.items.map keepI) mm_ (by rw [List.length_map]; exact z3) l3⟩ rfl (hE.slv hH (fun x hx => by repeat (first | exact hx | exact List.mem_append_left _ hx | exact List.mem_append_right _ hx | apply List.Mem.tail | apply List.mem_append_right))) (hI.slv hH (fun x hx => by repeat (first | exact hx | exact List.mem_append_left _ hx | exact List.mem_append_right _ hx | apply List.Mem.tail | apply List.mem_append_right)))) rfl rfl ?_
        rintro _ _ ⟨ev3, B3, ig, ic2, rfl, hP3, l4, rfl⟩
        obtain ⟨eb3, ec3, rfl, hB⟩ := hP3.open
        have hec : 32 ≤ ec3 := by
          rcases hB with ⟨_, _, h, _⟩ | ⟨h, h2, _⟩
          · have h : ec3 = gc := h
            omega
          · rw [h2] at h; exact h
        refine QL.conv (L' := [wB b2 wz, cB cb2 384 m.cells, eB eb3 ec3 (stockW { d with floor := fl, cells := m.cells, items := d.items.map keepI, ents := l } m).ents, iB ig ic2 (stockW { d with floor := fl, cells := m.cells, items := d.items.map keepI, ents := l } m).items]) (fun w hw => ?_) ?_
        · rcases hB with ⟨h1, rfl, rfl, rfl⟩ | ⟨_, _, rfl⟩
          · rw [h1]; exact hw.pick ss_
          · exact hw.pick ss_
        refine s_s (S_storeA (vs := wL (stockW { d with floor := fl, cells := m.cells, items := d.items.map keepI, ents := l } m) ⟨cb2, 0, 384, eb3, 0, ec3, ig, 0, ic2⟩) rfl rfl sz34 (by rfl) (by rfl) up_ (by rfl)) rfl ?_
        refine s_nil ?_
        refine q_then ?_
        refine c_ret ?_
        refine q_retW rfl rfl many34 ss_ (Nat.le_refl _) hec l4
end
end Go.Proofs.YtcogbkkdccohfaaGreat
namespace Go.Ad
open Go.RowKit Go.Maps Go.Proofs.YtcogbkkdccohfaaGreat
def acells (a : Acts) : List Value := a.flatMap Deed.cells
theorem Deed.len (a : Deed) : a.cells.length = 3 := rfl
theorem acells_len (a : Acts) : (acells a).length = a.length * 3 := fl_len Deed.len a
theorem dgt_of {a : Acts} {s : Nat} (h : s < a.length) : a[s]? = some (dgt a s) := by
  unfold dgt
  rw [List.getD_eq_getElem?_getD, List.getElem?_eq_getElem h]; rfl
theorem aget {a : Acts} {s j : Nat} {v : Value} (h : s < a.length) (hj : (dgt a s).cells[j]? = some v) : (acells a)[0 + s * 3 + j]? = some v := by rw [Nat.zero_add]; exact fl_get Deed.len (dgt_of h) hj
theorem Has.ne {W w : World} {M : List Nat} {L R : List Bk} {x y : Bk} (hH : Has W M L w) (hs : Sels [x, y] L R) : x.b ≠ y.b := by
  have h := (hH.pick hs).nd
  simp only [List.map_cons, List.map_nil, List.nodup_cons, List.mem_singleton] at h
  exact h.1
theorem find_rng (cells : List UInt8) (k : Int) : findM cells k < 0 ∨ (0 ≤ findM cells k ∧ findM cells k < 384) := by
  by_cases h : 0 ≤ findM cells k
  · obtain ⟨i, h1, h2, _⟩ := find_at rfl h
    exact .inr (by omega)
  · exact .inl (by omega)
end Go.Ad
namespace Go.Proofs.YtcogbkkdccohfaaGreat
open Go.RowKit Go.Ad Go.Maps
set_option linter.unusedVariables false
set_option linter.unusedSimpArgs false
theorem ActP.open {d d' : Wd} {cb cc eb ec ib ic : Nat} {v : Value} {B : List Bk} (h : ActP d ⟨cb, 0, cc, eb, 0, ec, ib, 0, ic⟩ d' v B) (l1 : 384 ≤ cc) (l2 : 32 ≤ ec) (l3 : 40 ≤ ic) :
    ∃ cb1 cc1 eb1 ec1 ib1 ic1, v = .agg (wL d' ⟨cb1, 0, cc1, eb1, 0, ec1, ib1, 0, ic1⟩).toArray ∧ 384 ≤ cc1 ∧ 32 ≤ ec1 ∧ 40 ≤ ic1 ∧ ∀ {W w : World} {M : List Nat} {R : List Bk}, Has W M (B ++ (cB cb cc d.cells :: eB eb ec d.ents :: iB ib ic d.items :: R)) w → Has W M (cB cb1 cc1 d'.cells :: eB eb1 ec1 d'.ents :: iB ib1 ic1 d'.items :: R) w := by
  rcases h with ⟨rfl, rfl, rfl⟩ | ⟨cb1, cc1, eb1, ec1, ib1, ic1, rfl, rfl, m1, m2, m3⟩
  · exact ⟨cb, cc, eb, ec, ib, ic, rfl, l1, l2, l3, fun h => h⟩
  · exact ⟨cb1, cc1, eb1, ec1, ib1, ic1, rfl, m1, m2, m3, fun h => h.pick2 (xs := [cB cb1 cc1 d'.cells, eB eb1 ec1 d'.ents, iB ib1 ic1 d'.items]) ss_ (((List.Sublist.refl _).cons _).cons _ |>.cons _)⟩
theorem EntsP.conv {b c : Nat} {l l' : List Ent} {v : Value} {B : List Bk} (h : EntsP b 0 32 c l l' v B) (hc : 32 ≤ c) : ∃ b1 c1, v = .slice (some ⟨b1, 0, none⟩) 32 c1 ∧ 32 ≤ c1 ∧ ∀ {W w : World} {M : List Nat} {R : List Bk}, Has W M (B ++ (eB b c l :: R)) w → Has W M (eB b1 c1 l' :: R) w := by
  obtain ⟨b1, c1, rfl, k⟩ := h.open
  rcases k with ⟨rfl, rfl, rfl, rfl⟩ | ⟨h1, h2, rfl⟩
  · exact ⟨b1, c1, rfl, hc, fun h => h⟩
  · exact ⟨b1, c1, rfl, by omega, fun h => h.pick2 (xs := [eB b1 c1 l']) ss_ ((List.Sublist.refl _).cons _)⟩
abbrev actB (b : Nat) (a : Acts) : Bk := ⟨b, 79, (acells a).length, 1, acells a⟩
theorem comesM_step (cells : List UInt8) (l : List Ent) (a : Acts) (s : Nat) : comesM cells l a (s + 1) = comeM cells (comesM cells l a s) a s := rfl
theorem seatsM_step (w : Wd) (a : Acts) (s : Nat) : seatsM w a (s + 1) = seatM (seatsM w a s) (dgt a s) s := rfl
theorem foesW_step (w : Wd) (i : Nat) : foesW w (i + 1) = foeM (foesW w i) i := rfl
section
variable {W : World}
set_option maxRecDepth 100000 in
set_option maxHeartbeats 6400000 in
theorem rstep_d {d : Wd} {s : Ws} (hw : WL W d s) (hv : VW d) (hf : -1000000000000 ≤ d.frame ∧ d.frame ≤ 1000000000000) {a : Acts} (ha : a.length = 4) : Does Tryz.prog 49 [.agg (wL d s).toArray, .agg (acells a).toArray] W [] (WN (stepM d a)) := by
  obtain ⟨z1, z2, z3⟩ := hw.sz
  obtain ⟨fr, hfr⟩ : ∃ q, d.frame + 1 = q := ⟨_, rfl⟩
  have hst : stepM d a = if d.state ≠ 0 then { d with frame := fr } else endM (midM (seatsM { d with frame := fr, ents := comesM d.cells d.ents a 4 } a 4).1) (someM d.ents || someM (comesM d.cells d.ents a 4)) (seatsM { d with frame := fr, ents := comesM d.cells d.ents a 4 } a 4).2 := by rw [← hfr]; rfl
  have hv1 : VW { d with frame := fr } := hv.frames fr
  rw [hst]
  clear hst
  have hal : (acells a).length = 12 := by rw [acells_len, ha]
  refine enter Tryz.func49 rfl rfl rfl (Has.start _) ?_
  refine c_seq ?_
  refine c_reg ?_
  refine s_n (N_box (cs := wL d s) rfl) rfl rfl (fun b2 _ => ?_)
  refine s_n (N_box (cs := acells a) rfl) rfl rfl (fun b3 _ => ?_)
  refine s_n (N_alloc (z := .agg #[.int .i64 0, .int .i64 0, .int .i64 0, .int .i64 0, .slice none 0 0, .slice none 0 0, .slice none 0 0, .int .i64 0, .int .i64 0, .int .i64 0, .int .i64 0]) (cs := [.int .i64 0, .int .i64 0, .int .i64 0, .int .i64 0, .slice none 0 0, .slice none 0 0, .slice none 0 0, .int .i64 0, .int .i64 0, .int .i64 0, .int .i64 0]) zv34 rfl) rfl rfl (fun b4 _ => ?_)
  refine s_nil ?_
  refine q_then ?_
  refine c_seq ?_
  refine c_reg ?_
  refine s_y (ya_ many34) rfl rfl ?_
  refine s_c (En_call (fun _ => rfl) Tryz.func51 rfl (by kernel_rfl) rfl) (fun w hH => rtwin_d (hw.has hH)) rfl rfl ?_
  rintro _ _ ⟨cb, cc, eb, ec, ib, ic, rfl, rfl, l1, l2, l3⟩
  refine s_s (S_storeA (vs := wL d ⟨cb, 0, cc, eb, 0, ec, ib, 0, ic⟩) rfl rfl sz34 (by rfl) (by rfl) up_ (by rfl)) rfl ?_
  refine s_nil ?_
  refine q_then ?_
  refine c_seq ?_
  refine c_reg ?_
  refine s_y (Y_fa 1 rfl Tryz.underlying34 rfl sz3 rfl) rfl rfl ?_
  refine s_y (yl_ one3) rfl rfl ?_
  refine s_y ((Y_add rfl rfl (by omega)).num hfr) rfl rfl ?_
  refine s_y (Y_fa 1 rfl Tryz.underlying34 rfl sz3 rfl) rfl rfl ?_
  refine s_s (S_st (cs' := wL { d with frame := fr } ⟨cb, 0, cc, eb, 0, ec, ib, 0, ic⟩) rfl gt_ sz3 (by rfl) up_ (by rfl) (by simp only [List.length_cons, List.length_nil]; omega)) rfl ?_
  refine s_nil ?_
  refine q_then ?_
  refine c_seq ?_
  refine c_seq ?_
  refine c_reg ?_
  refine s_y (Y_fa 3 rfl Tryz.underlying34 rfl sz3 rfl) rfl rfl ?_
  refine s_y (yl_ one3) rfl rfl ?_
  refine s_y (Y_neq rfl rfl) rfl rfl ?_
  refine s_nil ?_
  refine q_then ?_
  first | refine c_cond' rfl (fun hc3 => ?_) (fun hc3 => ?_) | refine c_cond rfl (fun hc3 => ?_) (fun hc3 => ?_)
  · skip
    try simp only [nrm_] at hc3
    refine c_seq ?_
    refine c_reg ?_
    refine s_y (ya_ many34) rfl rfl ?_
    refine s_s ((sa_ sz34)) rfl ?_
    refine s_nil ?_
    refine q_then ?_
    refine c_ret ?_
    rw [if_pos hc3]
    refine q_retW rfl rfl many34 ss_ l1 l2 l3
  · skip
    try simp only [nrm_] at hc3
    refine c_skip ?_
    refine q_then ?_
    refine c_seq ?_
    rw [if_neg (by omega)]
    refine c_reg ?_
    refine s_y (ya_ many34) rfl rfl ?_
    refine s_c (En_call (fun _ => rfl) Tryz.func85 rfl (by kernel_rfl) rfl) (fun w hH => rsome_d (d := { d with frame := fr }) (wl_of (d := { d with frame := fr }) hH ⟨z1, z2, z3⟩ (cb := cb) (cc := cc) (eb := eb) (ec := ec) (ib := ib) (ic := ic) mm_ mm_ mm_ l1 l2 l3)) rfl rfl ?_
    rintro _ _ ⟨rfl, rfl⟩
    refine s_y (Y_as) rfl rfl ?_
    refine s_nil ?_
    refine q_then ?_
    refine c_seq ?_
    refine c_seq ?_
    refine c_reg ?_
    refine s_y (Y_asC) rfl rfl ?_
    refine s_nil ?_
    refine q_then ?_
    refine c_block ?_
    refine c_loop [6, 7, 8, 29, 30, 31, 32, 33, 34, 35, 36, 37, 38, 39, 40, 41, 42, 43, 44, 45, 46, 47, 48, 49, 50, 51, 52, 53, 54, 55, 56, 57, 58] (fun m (y : Nat × List Ent × Nat × Nat) => y.1 + m = 4 ∧ y.2.1 = comesM d.cells d.ents a y.1 ∧ 32 ≤ y.2.2.2) (fun y => [(6, iv y.1)]) (fun y => [eB y.2.2.1 y.2.2.2 y.2.1, cB cb cc d.cells, iB ib ic d.items, wB b4 wz, actB b3 a, wB b2 (wL { d with frame := fr } ⟨cb, 0, cc, y.2.2.1, 0, y.2.2.2, ib, 0, ic⟩)]) (4) ((0, d.ents, eb, ec)) (⟨rfl, rfl, l2⟩) (by repeat (first | exact trivial | refine ⟨rfl, ?_⟩)) (fun w h => h.pick ss_) (fun _ => rfl) ?_
    rintro m ⟨q, l, eb, ec⟩ j ⟨hq, hl, l2⟩ K hK
    simp only at hq hl l2 ⊢
    have hll : l.length = 32 := by rw [hl, comes_len]; exact z2
    have hcs := comesM_step d.cells d.ents a q
    rw [← hl] at hcs
    obtain ⟨x, hx⟩ : ∃ z, dgt a q = z := ⟨_, rfl⟩
    refine c_seq ?_
    refine c_seq ?_
    refine c_reg ?_
    refine s_y (Y_mv) rfl rfl ?_
    refine s_y (Y_lss rfl rfl) rfl rfl ?_
    refine s_nil ?_
    refine q_then ?_
    first | refine c_cond' rfl (fun hc7 => ?_) (fun hc7 => ?_) | refine c_cond rfl (fun hc7 => ?_) (fun hc7 => ?_)
    · skip
      try simp only [nrm_] at hc7
      refine c_skip ?_
      refine q_then ?_
      refine c_seq ?_
      refine c_block ?_
      refine c_seq ?_
      refine c_reg ?_
      refine s_y (Y_mv) rfl rfl ?_
      refine s_y (Y_iaA (n := q) rfl rfl Tryz.underlying79 sz77 rfl (by omega)) rfl rfl ?_
      refine s_y (Y_fa 2 rfl Tryz.underlying77 rfl sz4 rfl) rfl rfl ?_
      refine s_y (Y_load (v := .bool x.spawn) rfl one4 mm_ (aget (by omega) (by rw [hx]; rfl))) rfl rfl ?_
      refine s_y (Y_mv) rfl rfl ?_
      apply s_and 6 [37, 38, 39, 40, 41, 42, 43] 43 (g := 37) rfl rfl
      · intro ht5 hm
        try simp only [nrm_] at ht5
        first | refine s_y (Y_fa 5 rfl Tryz.underlying34 rfl sz30 rfl) rfl rfl ?_ | refine s_pass rfl rfl ?_
        first | refine s_y (yl_ one30) rfl rfl ?_ | refine s_pass rfl rfl ?_
        first | refine s_y (Y_mv) rfl rfl ?_ | refine s_pass rfl rfl ?_
        refine s_c (En_call (fun _ => rfl) Tryz.func54 rfl (by kernel_rfl) rfl) (fun w hH => rhero_d (eSl hH (b := eb) (c := ec) (l := l) mm_ hll l2)) rfl rfl ?_
        rintro _ _ ⟨rfl, rfl⟩
        first | refine s_y (Y_lss rfl rfl) rfl rfl ?_ | refine s_pass rfl rfl ?_
        refine s_y (Y_pk rfl (Gx.tmp gt_) Gx.const) rfl rfl ?_
        first | exact hm _ ⟨rfl, trivial⟩ rfl | exact QL.sub sl_ (hm _ ⟨rfl, trivial⟩ rfl)
      · intro ht5 hm
        iterate 5 refine s_pass rfl rfl ?_
        refine s_y (Y_pk rfl (Gx.tmp gt_) Gx.const) rfl rfl ?_
        exact hm _ ⟨rfl, trivial⟩ rfl
      intro j43
      refine s_nil ?_
      refine q_then ?_
      first | refine c_cond' rfl (fun hc9 => ?_) (fun hc9 => ?_) | refine c_cond rfl (fun hc9 => ?_) (fun hc9 => ?_)
      · skip
        try simp only [nrm_] at hc9
        refine c_seq ?_
        have hcm : comeM d.cells l a q = if (heroM d.cells l { statsM 1 with seat := q }).2 = true then spawnedM l (heroM d.cells l { statsM 1 with seat := q }).1 else l := by
          unfold comeM
          rw [hx, if_pos hc9]
        rw [hcm] at hcs
        clear hcm
        refine c_reg ?_
        refine s_c (En_call (fun _ => rfl) Tryz.func86 rfl (by kernel_rfl) rfl) (fun w hH => rstats_d) rfl rfl ?_
        rintro _ _ ⟨rfl, rfl⟩
        refine s_n (N_alloc (z := .agg #[.int .i64 0, .int .i64 0, .int .i64 0, .int .i64 0, .int .i64 0, .int .i64 0, .int .i64 0, .int .i64 0, .int .i64 0, .int .i64 0, .int .i64 0]) (cs := [.int .i64 0, .int .i64 0, .int .i64 0, .int .i64 0, .int .i64 0, .int .i64 0, .int .i64 0, .int .i64 0, .int .i64 0, .int .i64 0, .int .i64 0]) zv93 rfl) rfl rfl (fun b7 _ => ?_)
        refine s_s (S_storeA (vs := (statsM 1).cells) rfl rfl sz93 (by rfl) (by rfl) up_ (by rfl)) rfl ?_
        refine s_nil ?_
        refine q_then ?_
        refine c_seq ?_
        refine c_reg ?_
        refine s_y (Y_mv) rfl rfl ?_
        refine s_y (Y_fa 2 rfl Tryz.underlying93 rfl sz3 rfl) rfl rfl ?_
        refine s_s (S_st (cs' := ({ statsM 1 with seat := q } : Ent).cells) rfl gt_ sz3 (by rfl) up_ (by rfl) (by rw [Ent.len]; decide)) rfl ?_
        refine s_nil ?_
        obtain ⟨e0, he0⟩ : ∃ z : Ent, ({ statsM 1 with seat := q } : Ent) = z := ⟨_, rfl⟩
        rw [he0] at hcs ⊢
        refine q_then ?_
        refine c_seq ?_
        refine c_reg ?_
        refine s_y (ya_ many34) rfl rfl ?_
        refine s_y (ya_ many93) rfl rfl ?_
        refine s_c (En_call (fun _ => rfl) Tryz.func87 rfl (by kernel_rfl) rfl) (fun w hH => rherocome_d (d := { d with frame := fr, ents := l }) (e := e0) (wl_of (d := { d with frame := fr, ents := l }) hH ⟨z1, hll, z3⟩ (cb := cb) (cc := cc) (eb := eb) (ec := ec) (ib := ib) (ic := ic) mm_ mm_ mm_ l1 l2 l3)) rfl rfl ?_
        rintro _ _ ⟨rfl, rfl⟩
        obtain ⟨e1, he1⟩ : ∃ z, (heroM d.cells l e0).1 = z := ⟨_, rfl⟩
        obtain ⟨is, his⟩ : ∃ z, (heroM d.cells l e0).2 = z := ⟨_, rfl⟩
        simp only [he1, his] at hcs ⊢
        refine s_y (Y_mv) rfl rfl ?_
        refine s_y (Y_extract rfl rfl) rfl rfl ?_
        refine s_y (Y_extract rfl rfl) rfl rfl ?_
        refine s_s (S_storeA (vs := e1.cells) rfl rfl sz93 (by rfl) (by rfl) up_ (by rfl)) rfl ?_
        refine s_y (Y_as) rfl rfl ?_
        refine s_nil ?_
        refine q_then ?_
        refine c_seq ?_
        refine c_reg ?_
        refine s_y (Y_mv) rfl rfl ?_
        refine s_nil ?_
        refine q_then ?_
        refine c_cond (t := is) rfl (fun hc13 => ?_) (fun hc13 => ?_)
        · skip
          try simp only [nrm_] at hc13
          refine QL.pick (L' := [eB eb ec l, cB cb cc d.cells, iB ib ic d.items, wB b4 wz, actB b3 a, wB b2 (wL { d with frame := fr } ⟨cb, 0, cc, eb, 0, ec, ib, 0, ic⟩), e1B b7 e1]) ss_ ?_
          refine c_reg ?_
          refine s_y (Y_fa 5 rfl Tryz.underlying34 rfl sz30 rfl) rfl rfl ?_
          refine s_y (yl_ one30) rfl rfl ?_
          refine s_y (ya_ many93) rfl rfl ?_
          refine s_c (En_call (fun _ => rfl) Tryz.func88 rfl (by kernel_rfl) rfl) (fun w hH => rspawned_d (eSl hH (b := eb) (c := ec) (l := l) mm_ hll l2) (by omega) e1) rfl rfl ?_
          rintro _ _ hP
          rename_i B
          obtain ⟨eb1, ec1, rfl, m2, hc⟩ := hP.conv l2
          refine QL.conv (fun w hw => hc hw) ?_
          refine s_y (Y_fa 5 rfl Tryz.underlying34 rfl sz30 rfl) rfl rfl ?_
          refine s_s (S_st (cs' := wL { d with frame := fr } ⟨cb, 0, cc, eb1, 0, ec1, ib, 0, ic⟩) rfl gt_ sz30 (by rfl) up_ (by rfl) (by simp only [List.length_cons, List.length_nil]; omega)) rfl ?_
          refine s_nil ?_
          refine q_bn ?_
          refine q_then ?_
          refine c_reg ?_
          refine s_y (Y_mv) rfl rfl ?_
          refine s_y ad_ rfl rfl ?_
          refine s_y (Y_as) rfl rfl ?_
          refine s_nil ?_
          rw [if_pos hc13] at hcs
          refine hK (m - 1) (q + 1, spawnedM l e1, eb1, ec1) _ _ (by omega) ⟨by simp only; omega, by simp only; exact hcs.symm, m2⟩ ⟨rfl, trivial⟩ rfl (fun w h => h.pick ss_)
        · skip
          try simp only [nrm_] at hc13
          refine c_skip ?_
          refine q_bn ?_
          refine q_then ?_
          refine c_reg ?_
          refine s_y (Y_mv) rfl rfl ?_
          refine s_y ad_ rfl rfl ?_
          refine s_y (Y_as) rfl rfl ?_
          refine s_nil ?_
          rw [if_neg (by rw [hc13]; decide)] at hcs
          refine hK (m - 1) (q + 1, l, eb, ec) _ _ (by omega) ⟨by simp only; omega, by simp only; exact hcs.symm, l2⟩ ⟨rfl, trivial⟩ rfl (fun w h => h.pick ss_)
      · skip
        try simp only [nrm_] at hc9
        refine c_skip ?_
        refine q_bn ?_
        refine q_then ?_
        refine c_reg ?_
        refine s_y (Y_mv) rfl rfl ?_
        refine s_y ad_ rfl rfl ?_
        refine s_y (Y_as) rfl rfl ?_
        refine s_nil ?_
        have hcm : comeM d.cells l a q = l := by
          unfold comeM
          rw [hx, if_neg (by rintro ⟨q1, q2⟩; rcases hc9 with h | h; rw [q1] at h; cases h; exact h q2)]
        rw [hcm] at hcs
        refine hK (m - 1) (q + 1, l, eb, ec) _ _ (by omega) ⟨by simp only; omega, by simp only; exact hcs.symm, l2⟩ ⟨rfl, trivial⟩ rfl (fun w h => h)
    · skip
      try simp only [nrm_] at hc7
      refine c_exit ?_
      repeat with_reducible refine q_te ?_
      refine q_exit ?_
      refine q_then ?_
      refine c_seq ?_
      rw [show q = 4 by omega] at hl
      clear hcs hx
      have hv2 : VW { d with frame := fr, ents := l } := by rw [hl]; exact hv1.come a
      rw [← hl]
      refine c_reg ?_
      refine s_y (Y_mv) rfl rfl ?_
      refine s_y (Y_mv) rfl rfl ?_
      apply s_or 3 [60, 61, 62, 63] 63 (g := 60) rfl rfl
      · intro ht2 hm
        try simp only [nrm_] at ht2
        first | refine s_y (ya_ many34) rfl rfl ?_ | refine s_pass rfl rfl ?_
        refine s_c (En_call (fun _ => rfl) Tryz.func85 rfl (by kernel_rfl) rfl) (fun w hH => rsome_d (d := { d with frame := fr, ents := l }) (wl_of (d := { d with frame := fr, ents := l }) hH ⟨z1, hll, z3⟩ (cb := cb) (cc := cc) (eb := eb) (ec := ec) (ib := ib) (ic := ic) mm_ mm_ mm_ l1 l2 l3)) rfl rfl ?_
        rintro _ _ ⟨rfl, rfl⟩
        refine s_y (Y_pk rfl Gx.const (Gx.tmp gt_)) rfl rfl ?_
        first | exact hm _ ⟨rfl, trivial⟩ rfl | exact QL.sub sl_ (hm _ ⟨rfl, trivial⟩ rfl)
      · intro ht2 hm
        iterate 2 refine s_pass rfl rfl ?_
        refine s_y (Y_pk rfl Gx.const (Gx.tmp gt_)) rfl rfl ?_
        exact hm _ ⟨rfl, trivial⟩ rfl
      intro j63
      refine s_y (Y_as) rfl rfl ?_
      refine s_nil ?_
      obtain ⟨had, hhad⟩ : ∃ z, (someM d.ents || someM l) = z := ⟨_, rfl⟩
      simp only [hhad]
      obtain ⟨d2, hd2⟩ : ∃ z : Wd, ({ d with frame := fr, ents := l } : Wd) = z := ⟨_, rfl⟩
      have hs2 : d.cells = d2.cells ∧ l = d2.ents ∧ d.items = d2.items ∧ (∀ s, wL { d with frame := fr } s = wL d2 s) := by rw [← hd2]; exact ⟨rfl, rfl, rfl, fun _ => rfl⟩
      obtain ⟨y1, y2, y3, y4⟩ := hs2
      rw [hd2] at hv2 ⊢
      rw [y4 ⟨cb, 0, cc, eb, 0, ec, ib, 0, ic⟩, y1, y3, y2]
      clear y1 y3 y4 hd2 hl
      refine q_then ?_
      refine c_seq ?_
      refine c_reg ?_
      refine s_y (Y_asC) rfl rfl ?_
      refine s_nil ?_
      refine q_then ?_
      refine c_seq ?_
      refine c_seq ?_
      refine c_reg ?_
      refine s_y (Y_asC) rfl rfl ?_
      refine s_nil ?_
      refine q_then ?_
      refine c_block ?_
      refine c_loop [9, 10, 11, 12, 64, 65, 66, 67, 68, 69, 70, 71, 72, 73, 74, 75, 76, 77, 78, 79, 80, 81, 82, 83, 84, 85, 86, 87, 88, 89, 90, 91, 92, 93, 94, 95, 96, 97, 98, 99, 100, 101, 102, 103, 104, 105, 106, 107, 108, 109, 110, 111, 112, 113, 114, 115, 116, 117, 118, 119, 120, 121, 122, 123, 124, 125, 126, 127, 128, 129, 130, 131, 132, 133, 134, 135, 136, 137, 138, 139, 140, 141, 142, 143, 144, 145] (fun m (y : Nat × Wd × Bool × Nat × Nat × Nat × Nat × Nat × Nat) => y.1 + m = 4 ∧ seatsM d2 a y.1 = (y.2.1, y.2.2.1) ∧ 384 ≤ y.2.2.2.2.1 ∧ 32 ≤ y.2.2.2.2.2.2.1 ∧ 40 ≤ y.2.2.2.2.2.2.2.2) (fun y => [(10, iv y.1), (9, .bool y.2.2.1)]) (fun y => [cB y.2.2.2.1 y.2.2.2.2.1 y.2.1.cells, eB y.2.2.2.2.2.1 y.2.2.2.2.2.2.1 y.2.1.ents, iB y.2.2.2.2.2.2.2.1 y.2.2.2.2.2.2.2.2 y.2.1.items, wB b4 wz, actB b3 a, wB b2 (wL y.2.1 ⟨y.2.2.2.1, 0, y.2.2.2.2.1, y.2.2.2.2.2.1, 0, y.2.2.2.2.2.2.1, y.2.2.2.2.2.2.2.1, 0, y.2.2.2.2.2.2.2.2⟩)]) (4) ((0, d2, false, cb, cc, eb, ec, ib, ic)) (⟨rfl, rfl, l1, l2, l3⟩) (by repeat (first | exact trivial | refine ⟨rfl, ?_⟩)) (fun w h => h.pick ss_) (fun _ => rfl) ?_
      rintro m ⟨s, u, left, cb, cc, eb, ec, ib, ic⟩ j2 ⟨hs, hu, l1, l2, l3⟩ K hK
      simp only at hs hu l1 l2 l3 ⊢
      have hvu : VW u := by
        have := hv2.seats a s
        rw [hu] at this; exact this
      obtain ⟨u1, u2, u3⟩ := hvu.sz
      have hss := seatsM_step d2 a s
      rw [hu] at hss
      obtain ⟨x, hx⟩ : ∃ z, dgt a s = z := ⟨_, rfl⟩
      rw [hx] at hss
      refine c_seq ?_
      refine c_seq ?_
      refine c_reg ?_
      refine s_y (Y_mv) rfl rfl ?_
      refine s_y (Y_lss rfl rfl) rfl rfl ?_
      refine s_nil ?_
      refine q_then ?_
      first | refine c_cond' rfl (fun hc18 => ?_) (fun hc18 => ?_) | refine c_cond rfl (fun hc18 => ?_) (fun hc18 => ?_)
      · skip
        try simp only [nrm_] at hc18
        refine c_skip ?_
        refine q_then ?_
        refine c_seq ?_
        refine c_block ?_
        refine c_seq ?_
        refine c_reg ?_
        refine s_y (Y_fa 5 rfl Tryz.underlying34 rfl sz30 rfl) rfl rfl ?_
        refine s_y (yl_ one30) rfl rfl ?_
        refine s_y (Y_mv) rfl rfl ?_
        refine s_c (En_call (fun _ => rfl) Tryz.func54 rfl (by kernel_rfl) rfl) (fun w hH => rhero_d (eSl hH (b := eb) (c := ec) (l := u.ents) mm_ u2 l2)) rfl rfl ?_
        rintro _ _ ⟨rfl, rfl⟩
        refine s_y (Y_as) rfl rfl ?_
        refine s_nil ?_
        have hhr : eHero u.ents s < 0 ∨ (0 ≤ eHero u.ents s ∧ eHero u.ents s < 32) := by
          by_cases h : 0 ≤ eHero u.ents s
          · obtain ⟨r, e, h1, h2, _⟩ := eHero_some rfl h
            have := lt_of_get h2
            exact .inr (by omega)
          · exact .inl (by omega)
        have hsm : seatM (u, left) x s = if eHero u.ents s < 0 ∨ 0 < (egt u.ents (eHero u.ents s)).stun ∨ (x.how ≠ 1 ∧ x.how ≠ 2) then (u, left) else
            (if 1 ≤ (if x.how = 2 then robotM u s else x.input) ∧ (if x.how = 2 then robotM u s else x.input) ≤ 4 then (actM u (eHero u.ents s) (if x.how = 2 then robotM u s else x.input) false, left)
            else if (if x.how = 2 then robotM u s else x.input) = 9 then (u, left || decide (atM u.cells (egt u.ents (eHero u.ents s)).x (egt u.ents (eHero u.ents s)).y = 4))
            else (doM u s (if x.how = 2 then robotM u s else x.input), left)) := rfl
        rw [hsm] at hss
        clear hsm
        obtain ⟨h, hh⟩ : ∃ z, eHero u.ents s = z := ⟨_, rfl⟩
        rw [hh] at hss hhr ⊢
        refine q_then ?_
        refine c_seq ?_
        refine c_seq ?_
        refine c_reg ?_
        refine s_y (Y_mv) rfl rfl ?_
        refine s_y (Y_lss rfl rfl) rfl rfl ?_
        refine s_y (Y_mv) rfl rfl ?_
        apply s_or 8 [74, 75, 76, 77, 78, 79, 80, 81, 82] 82 (g := 74) rfl rfl
        · intro ht3 hm
          try simp only [nrm_] at ht3
          first | refine s_y (Y_fa 5 rfl Tryz.underlying34 rfl sz30 rfl) rfl rfl ?_ | refine s_pass rfl rfl ?_
          first | refine s_y (yl_ one30) rfl rfl ?_ | refine s_pass rfl rfl ?_
          first | refine s_y (Y_mv) rfl rfl ?_ | refine s_pass rfl rfl ?_
          first | refine s_y (Y_ia (n := h.toNat) rfl rfl Tryz.underlying30 sz93 (by omega) (by omega)) rfl rfl ?_ | refine s_pass rfl rfl ?_
          first | refine s_y (Y_fa 10 rfl Tryz.underlying93 rfl sz3 rfl) rfl rfl ?_ | refine s_pass rfl rfl ?_
          first | refine s_y (Y_load (v := iv (egt u.ents h).stun) rfl one3 mm_ (eget (eget_of (by omega) (by omega)) rfl)) rfl rfl ?_ | refine s_pass rfl rfl ?_
          first | refine s_y (Y_gtr rfl rfl) rfl rfl ?_ | refine s_pass rfl rfl ?_
          refine s_y (Y_pk rfl Gx.const (Gx.tmp gt_)) rfl rfl ?_
          first | exact hm _ ⟨rfl, trivial⟩ rfl | exact QL.sub sl_ (hm _ ⟨rfl, trivial⟩ rfl)
        · intro ht3 hm
          iterate 7 refine s_pass rfl rfl ?_
          refine s_y (Y_pk rfl Gx.const (Gx.tmp gt_)) rfl rfl ?_
          exact hm _ ⟨rfl, trivial⟩ rfl
        intro j82
        refine s_y (Y_mv) rfl rfl ?_
        apply s_or 13 [83, 84, 85, 86, 87, 88, 89, 90, 91, 92, 93, 94, 95, 96] 96 (g := 83) rfl rfl
        · intro ht12 hm
          try simp only [nrm_] at ht12
          first | refine s_y (Y_mv) rfl rfl ?_ | refine s_pass rfl rfl ?_
          first | refine s_y (Y_iaA (n := s) rfl rfl Tryz.underlying79 sz77 rfl (by omega)) rfl rfl ?_ | refine s_pass rfl rfl ?_
          first | refine s_y (Y_fa 0 rfl Tryz.underlying77 rfl sz3 rfl) rfl rfl ?_ | refine s_pass rfl rfl ?_
          first | refine s_y (Y_load (v := iv x.how) rfl one3 mm_ (aget (by omega) (by rw [hx]; rfl))) rfl rfl ?_ | refine s_pass rfl rfl ?_
          first | refine s_y (Y_neq rfl rfl) rfl rfl ?_ | refine s_pass rfl rfl ?_
          first | refine s_y (Y_mv) rfl rfl ?_ | refine s_pass rfl rfl ?_
          apply s_and 6 [89, 90, 91, 92, 93, 94, 95] 95 (g := 89) rfl rfl
          · intro ht18 hm
            try simp only [nrm_] at ht18
            first | refine s_y (Y_mv) rfl rfl ?_ | refine s_pass rfl rfl ?_
            first | refine s_y (Y_iaA (n := s) rfl rfl Tryz.underlying79 sz77 rfl (by omega)) rfl rfl ?_ | refine s_pass rfl rfl ?_
            first | refine s_y (Y_fa 0 rfl Tryz.underlying77 rfl sz3 rfl) rfl rfl ?_ | refine s_pass rfl rfl ?_
            first | refine s_y (Y_load (v := iv x.how) rfl one3 mm_ (aget (by omega) (by rw [hx]; rfl))) rfl rfl ?_ | refine s_pass rfl rfl ?_
            first | refine s_y (Y_neq rfl rfl) rfl rfl ?_ | refine s_pass rfl rfl ?_
            first | refine s_y (Y_pk rfl (Gx.tmp gt_) Gx.const) rfl rfl ?_ | refine s_pass rfl rfl ?_
            first | exact hm _ ⟨rfl, trivial⟩ rfl | exact QL.sub sl_ (hm _ ⟨rfl, trivial⟩ rfl)
          · intro ht18 hm
            iterate 5 refine s_pass rfl rfl ?_
            first | refine s_y (Y_pk rfl (Gx.tmp gt_) Gx.const) rfl rfl ?_ | refine s_pass rfl rfl ?_
            exact hm _ ⟨rfl, trivial⟩ rfl
          intro j95
          refine s_y (Y_pk rfl Gx.const (Gx.tmp gt_)) rfl rfl ?_
          first | exact hm _ ⟨rfl, trivial⟩ rfl | exact QL.sub sl_ (hm _ ⟨rfl, trivial⟩ rfl)
        · intro ht12 hm
          iterate 12 refine s_pass rfl rfl ?_
          refine s_y (Y_pk rfl Gx.const (Gx.tmp gt_)) rfl rfl ?_
          exact hm _ ⟨rfl, trivial⟩ rfl
        intro j96
        refine s_nil ?_
        refine q_then ?_
        first | refine c_cond' rfl (fun hc21 => ?_) (fun hc21 => ?_) | refine c_cond rfl (fun hc21 => ?_) (fun hc21 => ?_)
        · skip
          try simp only [nrm_] at hc21
          refine c_exit ?_
          repeat with_reducible refine q_te ?_
          refine q_exit ?_
          refine q_then ?_
          refine c_reg ?_
          refine s_y (Y_mv) rfl rfl ?_
          refine s_y ad_ rfl rfl ?_
          refine s_y (Y_as) rfl rfl ?_
          refine s_nil ?_
          rw [if_pos (by omega)] at hss
          refine hK (m - 1) (s + 1, u, left, cb, cc, eb, ec, ib, ic) _ _ (by omega) ⟨by simp only; omega, by simp only; exact hss, l1, l2, l3⟩ ⟨rfl, rfl, trivial⟩ rfl (fun w h => h)
        · skip
          try simp only [nrm_] at hc21
          refine c_skip ?_
          refine q_then ?_
          refine c_seq ?_
          rw [if_neg (by omega)] at hss
          obtain ⟨r, e, hr, hre, he1, he2⟩ := eHero_some hh (by omega)
          subst hr
          have hrl := lt_of_get hre
          have heg := egt_of hre
          refine c_reg ?_
          refine s_y (Y_mv) rfl rfl ?_
          refine s_y (Y_iaA (n := s) rfl rfl Tryz.underlying79 sz77 rfl (by omega)) rfl rfl ?_
          refine s_y (Y_fa 1 rfl Tryz.underlying77 rfl sz3 rfl) rfl rfl ?_
          refine s_y (Y_load (v := iv x.input) rfl one3 mm_ (aget (by omega) (by rw [hx]; rfl))) rfl rfl ?_
          refine s_y (Y_as) rfl rfl ?_
          refine s_nil ?_
          refine q_then ?_
          refine c_seq ?_
          refine c_meetQ (ks := [12, 101, 102, 103, 104, 105, 106, 107, 108]) (tr := fun y : Int => [(12, iv y)]) (φ := fun y => y = if x.how = 2 then robotM u s else x.input) (G := fun _ => [cB cb cc u.cells, eB eb ec u.ents, iB ib ic u.items, wB b4 wz, actB b3 a, wB b2 (wL u ⟨cb, 0, cc, eb, 0, ec, ib, 0, ic⟩)]) (fun _ => rfl) ?_ ?_
          · rintro inp j26 hinp
            refine q_then ?_
            refine c_block ?_
            refine c_seq ?_
            rw [← hinp] at hss
            clear hinp
            refine c_reg ?_
            refine s_y (Y_mv) rfl rfl ?_
            refine s_y (Y_geq rfl rfl) rfl rfl ?_
            refine s_y (Y_mv) rfl rfl ?_
            apply s_and 3 [116, 117, 118, 119] 119 (g := 116) rfl rfl
            · intro ht3 hm
              try simp only [nrm_] at ht3
              first | refine s_y (Y_mv) rfl rfl ?_ | refine s_pass rfl rfl ?_
              first | refine s_y (Y_leq rfl rfl) rfl rfl ?_ | refine s_pass rfl rfl ?_
              refine s_y (Y_pk rfl (Gx.tmp gt_) Gx.const) rfl rfl ?_
              first | exact hm _ ⟨rfl, trivial⟩ rfl | exact QL.sub sl_ (hm _ ⟨rfl, trivial⟩ rfl)
            · intro ht3 hm
              iterate 2 refine s_pass rfl rfl ?_
              refine s_y (Y_pk rfl (Gx.tmp gt_) Gx.const) rfl rfl ?_
              exact hm _ ⟨rfl, trivial⟩ rfl
            intro j119
            refine s_y (Y_as) rfl rfl ?_
            refine s_nil ?_
            refine q_then ?_
            first | refine c_cond' rfl (fun hc26 => ?_) (fun hc26 => ?_) | refine c_cond rfl (fun hc26 => ?_) (fun hc26 => ?_)
            · skip
              try simp only [nrm_] at hc26
              refine c_reg ?_
              refine s_y (ya_ many34) rfl rfl ?_
              refine s_y (Y_mv) rfl rfl ?_
              refine s_y (Y_mv) rfl rfl ?_
              refine s_c (En_call (fun _ => rfl) Tryz.func90 rfl (by kernel_rfl) rfl) (fun w hH => ract_d (wl_of (d := u) hH ⟨u1, u2, u3⟩ (cb := cb) (cc := cc) (eb := eb) (ec := ec) (ib := ib) (ic := ic) mm_ mm_ mm_ l1 l2 l3) hvu hre (by omega)) rfl rfl ?_
              rintro _ _ hA
              rename_i B
              obtain ⟨cb1, cc1, eb1, ec1, ib1, ic1, rfl, m1, m2, m3, hc⟩ := hA.open l1 l2 l3
              refine QL.conv (fun w hw => hc hw) ?_
              refine s_s (S_storeA (vs := wL (actM u r inp false) ⟨cb1, 0, cc1, eb1, 0, ec1, ib1, 0, ic1⟩) rfl rfl sz34 (by rfl) (by rfl) up_ (by rfl)) rfl ?_
              refine s_nil ?_
              refine q_bn ?_
              refine q_bn ?_
              refine q_then ?_
              refine c_reg ?_
              refine s_y (Y_mv) rfl rfl ?_
              refine s_y ad_ rfl rfl ?_
              refine s_y (Y_as) rfl rfl ?_
              refine s_nil ?_
              rw [if_pos hc26] at hss
              refine hK (m - 1) (s + 1, actM u r inp false, left, cb1, cc1, eb1, ec1, ib1, ic1) _ _ (by omega) ⟨by simp only; omega, by simp only; exact hss, m1, m2, m3⟩ ⟨rfl, rfl, trivial⟩ rfl (fun w h => h.pick ss_)
            · skip
              try simp only [nrm_] at hc26
              refine c_seq ?_
              rw [if_neg (by omega), heg] at hss
              refine c_reg ?_
              refine s_y (Y_mv) rfl rfl ?_
              refine s_y (Y_eql rfl rfl) rfl rfl ?_
              refine s_y (Y_as) rfl rfl ?_
              refine s_nil ?_
              refine q_then ?_
              first | refine c_cond' rfl (fun hc28 => ?_) (fun hc28 => ?_) | refine c_cond rfl (fun hc28 => ?_) (fun hc28 => ?_)
              · skip
                try simp only [nrm_] at hc28
                refine c_rordS (L0 := [cB cb cc u.cells, eB eb ec u.ents, wB b2 (wL u ⟨cb, 0, cc, eb, 0, ec, ib, 0, ic⟩)]) sl_ [] [(0, true), (1, true), (2, true), (3, true), (4, true), (5, true), (6, true), (7, true), (8, true), (9, true), (10, true), (11, true), (12, true), (13, true), (14, true), (15, true), (16, false), (17, true), (18, true), (19, true)] (by kernel_rfl) (by kernel_rfl) (by kernel_rfl) (by kernel_rfl) rfl (by intro c a d v w h; cases d <;> exact h) rfl ?_
                simp only [mkOrd, List.filterMap_cons, List.filterMap_nil, List.getElem?_toArray, List.getElem?_cons_zero, List.getElem?_cons_succ, Option.map_some]
                refine o_y (Y_mv) rfl rfl ?_
                refine o_y (Y_mv) rfl rfl ?_
                apply o_or 17 [128, 129, 130, 131, 132, 133, 134, 135, 136, 137, 138, 139, 140, 141, 142, 143, 144, 145] 145 (g := 128) rfl rfl
                · intro ht2 hm
                  try simp only [nrm_] at ht2
                  first | refine o_y (Y_fa 4 rfl Tryz.underlying34 rfl sz24 rfl) rfl rfl ?_ | refine o_pass rfl rfl ?_
                  first | refine o_y (yl_ one24) rfl rfl ?_ | refine o_pass rfl rfl ?_
                  first | refine o_y (Y_fa 5 rfl Tryz.underlying34 rfl sz30 rfl) rfl rfl ?_ | refine o_pass rfl rfl ?_
                  first | refine o_y (yl_ one30) rfl rfl ?_ | refine o_pass rfl rfl ?_
                  first | refine o_y (Y_mv) rfl rfl ?_ | refine o_pass rfl rfl ?_
                  first | refine o_y (Y_ia (n := r) rfl rfl Tryz.underlying30 sz93 rfl (by omega)) rfl rfl ?_ | refine o_pass rfl rfl ?_
                  first | refine o_y (Y_fa 3 rfl Tryz.underlying93 rfl sz3 rfl) rfl rfl ?_ | refine o_pass rfl rfl ?_
                  first | refine o_y (Y_load (v := iv e.x) rfl one3 mm_ (eget hre rfl)) rfl rfl ?_ | refine o_pass rfl rfl ?_
                  first | refine o_y (Y_fa 5 rfl Tryz.underlying34 rfl sz30 rfl) rfl rfl ?_ | refine o_pass rfl rfl ?_
                  first | refine o_y (yl_ one30) rfl rfl ?_ | refine o_pass rfl rfl ?_
                  first | refine o_y (Y_mv) rfl rfl ?_ | refine o_pass rfl rfl ?_
                  first | refine o_y (Y_ia (n := r) rfl rfl Tryz.underlying30 sz93 rfl (by omega)) rfl rfl ?_ | refine o_pass rfl rfl ?_
                  first | refine o_y (Y_fa 4 rfl Tryz.underlying93 rfl sz3 rfl) rfl rfl ?_ | refine o_pass rfl rfl ?_
                  first | refine o_y (Y_load (v := iv e.y) rfl one3 mm_ (eget hre rfl)) rfl rfl ?_ | refine o_pass rfl rfl ?_
                  refine o_c (En_call (fun _ => rfl) Tryz.func91 rfl (by kernel_rfl) rfl) (fun w hH => rat_d (cSl hH (b := cb) (c := cc) (l := u.cells) mm_ u1 l1)) (fun _ _ h => by obtain ⟨rfl, rfl⟩ := h; exact kp_) rfl rfl ?_
                  rintro _ _ ⟨rfl, rfl⟩
                  first | refine o_y (Y_eql rfl rfl) rfl rfl ?_ | refine o_pass rfl rfl ?_
                  refine o_y (Y_pk rfl Gx.const (Gx.tmp gt_)) rfl rfl ?_
                  first | exact hm _ ⟨rfl, trivial⟩ rfl | exact QL.sub sl_ (hm _ ⟨rfl, trivial⟩ rfl)
                · intro ht2 hm
                  iterate 14 refine o_pass rfl rfl ?_
                  refine o_none kp_ rfl rfl ?_
                  iterate 1 refine o_pass rfl rfl ?_
                  refine o_y (Y_pk rfl Gx.const (Gx.tmp gt_)) rfl rfl ?_
                  exact hm _ ⟨rfl, trivial⟩ rfl
                intro j145
                refine o_y (Y_as) rfl rfl ?_
                refine o_nil ?_
                refine q_bn ?_
                refine q_bn ?_
                refine q_then ?_
                refine c_reg ?_
                refine s_y (Y_mv) rfl rfl ?_
                refine s_y ad_ rfl rfl ?_
                refine s_y (Y_as) rfl rfl ?_
                refine s_nil ?_
                rw [if_pos hc28] at hss
                refine hK (m - 1) (s + 1, u, left || decide (atM u.cells e.x e.y = 4), cb, cc, eb, ec, ib, ic) _ _ (by omega) ⟨by simp only; omega, by simp only; exact hss, l1, l2, l3⟩ ⟨rfl, rfl, trivial⟩ rfl (fun w h => h.pick ss_)
              · skip
                try simp only [nrm_] at hc28
                refine c_reg ?_
                refine s_y (ya_ many34) rfl rfl ?_
                refine s_y (Y_mv) rfl rfl ?_
                refine s_y (Y_mv) rfl rfl ?_
                refine s_c (En_call (fun _ => rfl) Tryz.func92 rfl (by kernel_rfl) rfl) (fun w hH => rdo_d (wl_of (d := u) hH ⟨u1, u2, u3⟩ (cb := cb) (cc := cc) (eb := eb) (ec := ec) (ib := ib) (ic := ic) mm_ mm_ mm_ l1 l2 l3) hvu) rfl rfl ?_
                rintro _ _ ⟨cb1, cc1, eb1, ec1, ib1, ic1, rfl, rfl, m1, m2, m3⟩
                refine s_s (S_storeA (vs := wL (doM u s inp) ⟨cb1, 0, cc1, eb1, 0, ec1, ib1, 0, ic1⟩) rfl rfl sz34 (by rfl) (by rfl) up_ (by rfl)) rfl ?_
                refine s_nil ?_
                refine q_bn ?_
                refine q_bn ?_
                refine q_then ?_
                refine c_reg ?_
                refine s_y (Y_mv) rfl rfl ?_
                refine s_y ad_ rfl rfl ?_
                refine s_y (Y_as) rfl rfl ?_
                refine s_nil ?_
                rw [if_neg hc28] at hss
                refine hK (m - 1) (s + 1, doM u s inp, left, cb1, cc1, eb1, ec1, ib1, ic1) _ _ (by omega) ⟨by simp only; omega, by simp only; exact hss, m1, m2, m3⟩ ⟨rfl, rfl, trivial⟩ rfl (fun w h => h.pick ss_)
          · intro go
            refine c_seq ?_
            refine c_reg ?_
            refine s_y (Y_mv) rfl rfl ?_
            refine s_y (Y_iaA (n := s) rfl rfl Tryz.underlying79 sz77 rfl (by omega)) rfl rfl ?_
            refine s_y (Y_fa 0 rfl Tryz.underlying77 rfl sz3 rfl) rfl rfl ?_
            refine s_y (Y_load (v := iv x.how) rfl one3 mm_ (aget (by omega) (by rw [hx]; rfl))) rfl rfl ?_
            refine s_y (Y_eql rfl rfl) rfl rfl ?_
            refine s_nil ?_
            refine q_then ?_
            first | refine c_cond' rfl (fun hc23 => ?_) (fun hc23 => ?_) | refine c_cond rfl (fun hc23 => ?_) (fun hc23 => ?_)
            · skip
              try simp only [nrm_] at hc23
              refine c_reg ?_
              refine s_y (ya_ many34) rfl rfl ?_
              refine s_y (Y_mv) rfl rfl ?_
              refine s_c (En_call (fun _ => rfl) Tryz.func89 rfl (by kernel_rfl) rfl) (fun w hH => rrobot_d (wl_of (d := u) hH ⟨u1, u2, u3⟩ (cb := cb) (cc := cc) (eb := eb) (ec := ec) (ib := ib) (ic := ic) mm_ mm_ mm_ l1 l2 l3) hvu) rfl rfl ?_
              rintro _ _ ⟨rfl, rfl⟩
              refine s_y (Y_as) rfl rfl ?_
              refine s_nil ?_
              exact go (robotM u s) _ _ (by rw [if_pos hc23]) ⟨rfl, trivial⟩ rfl (fun w h => h.pick ss_)
            · skip
              try simp only [nrm_] at hc23
              refine c_skip ?_
              exact go x.input _ _ (by rw [if_neg hc23]) ⟨rfl, trivial⟩ rfl (fun w h => h.pick ss_)
      · skip
        try simp only [nrm_] at hc18
        refine c_exit ?_
        repeat with_reducible refine q_te ?_
        refine q_exit ?_
        refine q_then ?_
        refine c_seq ?_
        refine c_seq ?_
        rw [show s = 4 by omega] at hu
        rw [hu]
        simp only
        clear hss hx u1 u2 u3 hv2
        obtain ⟨d3, hd3⟩ : ∃ z : Wd, u = z := ⟨_, rfl⟩
        subst hd3
        refine c_reg ?_
        refine s_y (Y_asC) rfl rfl ?_
        refine s_nil ?_
        refine q_then ?_
        refine c_block ?_
        refine c_loop [13, 14, 146, 147, 148, 149, 150, 151, 152, 153, 154, 155, 156, 157, 158, 159, 160, 161, 162, 163, 164, 165, 166, 167, 168, 169, 170, 171, 172, 173, 174, 175, 176] (fun m (y : Nat × Wd × Nat × Nat × Nat × Nat × Nat × Nat) => y.1 + m = 32 ∧ y.2.1 = foesW u y.1 ∧ 384 ≤ y.2.2.2.1 ∧ 32 ≤ y.2.2.2.2.2.1 ∧ 40 ≤ y.2.2.2.2.2.2.2) (fun y => [(13, iv y.1)]) (fun y => [cB y.2.2.1 y.2.2.2.1 y.2.1.cells, eB y.2.2.2.2.1 y.2.2.2.2.2.1 y.2.1.ents, iB y.2.2.2.2.2.2.1 y.2.2.2.2.2.2.2 y.2.1.items, wB b4 wz, wB b2 (wL y.2.1 ⟨y.2.2.1, 0, y.2.2.2.1, y.2.2.2.2.1, 0, y.2.2.2.2.2.1, y.2.2.2.2.2.2.1, 0, y.2.2.2.2.2.2.2⟩)]) (32) ((0, u, cb, cc, eb, ec, ib, ic)) (⟨rfl, rfl, l1, l2, l3⟩) (by repeat (first | exact trivial | refine ⟨rfl, ?_⟩)) (fun _ h => h.sub sl_) (fun _ => rfl) ?_
        rintro mm ⟨i, t, cb, cc, eb, ec, ib, ic⟩ j3 ⟨hi, ht, l1, l2, l3⟩ K hK
        simp only at hi ht l1 l2 l3 ⊢
        have hvt : VW t := by rw [ht]; exact hvu.foes i
        obtain ⟨u1, u2, u3⟩ := hvt.sz
        have hfs := foesW_step u i
        rw [← ht] at hfs
        refine c_seq ?_
        refine c_seq ?_
        refine c_reg ?_
        refine s_y (Y_mv) rfl rfl ?_
        refine s_y (Y_fa 5 rfl Tryz.underlying34 rfl sz30 rfl) rfl rfl ?_
        refine s_y (yl_ one30) rfl rfl ?_
        refine s_y (Y_len rfl rfl Tryz.underlying30) rfl rfl ?_
        refine s_y (Y_lss rfl rfl) rfl rfl ?_
        refine s_nil ?_
        refine q_then ?_
        first | refine c_cond' rfl (fun hc31 => ?_) (fun hc31 => ?_) | refine c_cond rfl (fun hc31 => ?_) (fun hc31 => ?_)
        · skip
          try simp only [nrm_] at hc31
          refine c_skip ?_
          refine q_then ?_
          refine c_seq ?_
          refine c_block ?_
          refine c_seq ?_
          obtain ⟨e, he⟩ := take_lt (show i < t.ents.length by omega)
          have heg := egt_of he
          have hfm : foeM t i = if e.kind = 0 ∨ e.kind = 1 ∨ 0 < e.stun then t else actM t i (monsterM t i) true := by unfold foeM; simp only; rw [heg]
          rw [hfm] at hfs
          clear hfm
          refine c_reg ?_
          refine s_y (Y_fa 5 rfl Tryz.underlying34 rfl sz30 rfl) rfl rfl ?_
          refine s_y (yl_ one30) rfl rfl ?_
          refine s_y (Y_mv) rfl rfl ?_
          refine s_y (Y_ia (n := i) rfl rfl Tryz.underlying30 sz93 rfl (by omega)) rfl rfl ?_
          refine s_y (Y_loadN (vs := e.cells) rfl many93 mm_ (by rfl) (egetN he)) rfl rfl ?_
          refine s_n (N_alloc (z := .agg #[.int .i64 0, .int .i64 0, .int .i64 0, .int .i64 0, .int .i64 0, .int .i64 0, .int .i64 0, .int .i64 0, .int .i64 0, .int .i64 0, .int .i64 0]) (cs := [.int .i64 0, .int .i64 0, .int .i64 0, .int .i64 0, .int .i64 0, .int .i64 0, .int .i64 0, .int .i64 0, .int .i64 0, .int .i64 0, .int .i64 0]) zv93 rfl) rfl rfl (fun b14 _ => ?_)
          refine s_s (S_storeA (vs := e.cells) rfl rfl sz93 (by rfl) (by rfl) up_ (by rfl)) rfl ?_
          refine s_nil ?_
          refine q_then ?_
          refine c_seq ?_
          refine c_seq ?_
          refine c_reg ?_
          refine s_y (Y_fa 0 rfl Tryz.underlying93 rfl sz3 rfl) rfl rfl ?_
          refine s_y (yl_ one3) rfl rfl ?_
          refine s_y (Y_eql rfl rfl) rfl rfl ?_
          refine s_y (Y_mv) rfl rfl ?_
          apply s_or 4 [161, 162, 163, 164, 165] 165 (g := 161) rfl rfl
          · intro ht4 hm
            try simp only [nrm_] at ht4
            first | refine s_y (Y_fa 0 rfl Tryz.underlying93 rfl sz3 rfl) rfl rfl ?_ | refine s_pass rfl rfl ?_
            first | refine s_y (yl_ one3) rfl rfl ?_ | refine s_pass rfl rfl ?_
            first | refine s_y (Y_eql rfl rfl) rfl rfl ?_ | refine s_pass rfl rfl ?_
            refine s_y (Y_pk rfl Gx.const (Gx.tmp gt_)) rfl rfl ?_
            first | exact hm _ ⟨rfl, trivial⟩ rfl | exact QL.sub sl_ (hm _ ⟨rfl, trivial⟩ rfl)
          · intro ht4 hm
            iterate 3 refine s_pass rfl rfl ?_
            refine s_y (Y_pk rfl Gx.const (Gx.tmp gt_)) rfl rfl ?_
            exact hm _ ⟨rfl, trivial⟩ rfl
          intro j165
          refine s_y (Y_mv) rfl rfl ?_
          apply s_or 4 [166, 167, 168, 169, 170] 170 (g := 166) rfl rfl
          · intro ht9 hm
            try simp only [nrm_] at ht9
            first | refine s_y (Y_fa 10 rfl Tryz.underlying93 rfl sz3 rfl) rfl rfl ?_ | refine s_pass rfl rfl ?_
            first | refine s_y (yl_ one3) rfl rfl ?_ | refine s_pass rfl rfl ?_
            first | refine s_y (Y_gtr rfl rfl) rfl rfl ?_ | refine s_pass rfl rfl ?_
            refine s_y (Y_pk rfl Gx.const (Gx.tmp gt_)) rfl rfl ?_
            first | exact hm _ ⟨rfl, trivial⟩ rfl | exact QL.sub sl_ (hm _ ⟨rfl, trivial⟩ rfl)
          · intro ht9 hm
            iterate 3 refine s_pass rfl rfl ?_
            refine s_y (Y_pk rfl Gx.const (Gx.tmp gt_)) rfl rfl ?_
            exact hm _ ⟨rfl, trivial⟩ rfl
          intro j170
          refine s_nil ?_
          refine q_then ?_
          first | refine c_cond' rfl (fun hc34 => ?_) (fun hc34 => ?_) | refine c_cond rfl (fun hc34 => ?_) (fun hc34 => ?_)
          · skip
            try simp only [nrm_] at hc34
            refine c_exit ?_
            repeat with_reducible refine q_te ?_
            refine q_exit ?_
            refine q_then ?_
            refine c_reg ?_
            refine s_y (Y_mv) rfl rfl ?_
            refine s_y ad_ rfl rfl ?_
            refine s_y (Y_as) rfl rfl ?_
            refine s_nil ?_
            rw [if_pos (by omega)] at hfs
            refine hK (mm - 1) (i + 1, t, cb, cc, eb, ec, ib, ic) _ _ (by omega) ⟨by simp only; omega, by simp only; exact hfs.symm, l1, l2, l3⟩ ⟨rfl, trivial⟩ rfl (fun w h => h.pick ss_)
          · skip
            try simp only [nrm_] at hc34
            refine c_skip ?_
            refine q_then ?_
            rw [if_neg (by omega)] at hfs
            refine QL.pick (L' := [cB cb cc t.cells, eB eb ec t.ents, iB ib ic t.items, wB b4 wz, wB b2 (wL t ⟨cb, 0, cc, eb, 0, ec, ib, 0, ic⟩)]) ss_ ?_
            refine c_rordS (L0 := [wB b2 (wL t ⟨cb, 0, cc, eb, 0, ec, ib, 0, ic⟩)]) sl_ [5, 6] [(0, true), (1, true), (2, true), (3, true), (4, false), (5, false), (6, false)] (by kernel_rfl) (by kernel_rfl) (by kernel_rfl) (by kernel_rfl) rfl (by intro c a d v w h; cases d <;> exact h) rfl ?_
            simp only [mkOrd, List.filterMap_cons, List.filterMap_nil, List.getElem?_toArray, List.getElem?_cons_zero, List.getElem?_cons_succ, Option.map_some]
            refine o_y (ya_ many34) rfl rfl ?_
            refine o_y (Y_mv) rfl rfl ?_
            refine o_y (ya_ many34) rfl rfl ?_
            refine o_y (Y_mv) rfl rfl ?_
            refine o_c (En_call (fun _ => rfl) Tryz.func93 rfl (by kernel_rfl) rfl) (fun w hH => rmonster_d (wl_of (d := t) hH ⟨u1, u2, u3⟩ (cb := cb) (cc := cc) (eb := eb) (ec := ec) (ib := ib) (ic := ic) mm_ mm_ mm_ l1 l2 l3) hvt (by omega)) (fun _ _ h => by obtain ⟨rfl, rfl⟩ := h; exact kp_) rfl rfl ?_
            rintro _ _ ⟨rfl, rfl⟩
            refine o_c (En_call (fun _ => rfl) Tryz.func90 rfl (by kernel_rfl) rfl) (fun w hH => ract_d (wl_of (d := t) hH ⟨u1, u2, u3⟩ (cb := cb) (cc := cc) (eb := eb) (ec := ec) (ib := ib) (ic := ic) mm_ mm_ mm_ l1 l2 l3) hvt he (by omega)) (fun _ _ h => kp_) rfl rfl ?_
            rintro _ B hA
            obtain ⟨cb1, cc1, eb1, ec1, ib1, ic1, rfl, m1, m2, m3, hc⟩ := hA.open l1 l2 l3
            refine QL.conv (fun w hw => hc hw) ?_
            refine o_s (S_storeA (vs := wL (actM t i (monsterM t i) true) ⟨cb1, 0, cc1, eb1, 0, ec1, ib1, 0, ic1⟩) rfl rfl sz34 (by rfl) (by rfl) up_ (by rfl)) kp_ rfl ?_
            refine o_nil ?_
            refine q_bn ?_
            refine q_then ?_
            refine c_reg ?_
            refine s_y (Y_mv) rfl rfl ?_
            refine s_y ad_ rfl rfl ?_
            refine s_y (Y_as) rfl rfl ?_
            refine s_nil ?_
            refine hK (mm - 1) (i + 1, actM t i (monsterM t i) true, cb1, cc1, eb1, ec1, ib1, ic1) _ _ (by omega) ⟨by simp only; omega, by simp only; exact hfs.symm, m1, m2, m3⟩ ⟨rfl, trivial⟩ rfl (fun w h => h.pick ss_)
        · skip
          try simp only [nrm_] at hc31
          refine c_exit ?_
          repeat with_reducible refine q_te ?_
          refine q_exit ?_
          refine q_then ?_
          refine c_seq ?_
          rw [show i = 32 by omega] at ht
          have hmi : midM u = ratM (ailM t) := by rw [ht]; rfl
          rw [hmi]
          clear hmi hfs ht
          have hva : VW (ailM t) := hvt.ail 32
          refine c_reg ?_
          refine s_y (ya_ many34) rfl rfl ?_
          refine s_c (En_call (fun _ => rfl) Tryz.func94 rfl (by kernel_rfl) rfl) (fun w hH => rail_d (wl_of (d := t) hH ⟨u1, u2, u3⟩ (cb := cb) (cc := cc) (eb := eb) (ec := ec) (ib := ib) (ic := ic) mm_ mm_ mm_ l1 l2 l3) hvt) rfl rfl ?_
          rintro _ _ ⟨cb1, cc1, eb1, ec1, ib1, ic1, rfl, rfl, m1, m2, m3⟩
          refine s_s (S_storeA (vs := wL (ailM t) ⟨cb1, 0, cc1, eb1, 0, ec1, ib1, 0, ic1⟩) rfl rfl sz34 (by rfl) (by rfl) up_ (by rfl)) rfl ?_
          refine s_nil ?_
          refine q_then ?_
          obtain ⟨v, hv3⟩ : ∃ z, ailM t = z := ⟨_, rfl⟩
          rw [hv3] at hva ⊢
          obtain ⟨v1, v2, v3⟩ := hva.sz
          have hrt : ratM v = if v.frame.tmod 16 = 0 then (if 0 ≤ findM v.cells 3 ∧ eAt v.ents (findM v.cells 3 % 24) (findM v.cells 3 / 24) < 0 then { v with ents := spawnedM v.ents { statsM 2 with x := findM v.cells 3 % 24, y := findM v.cells 3 / 24 } } else v) else v := rfl
          refine c_seq ?_
          refine c_meetQ (ks := [15, 16, 179, 180, 181, 182, 183, 184, 185, 186, 187, 188, 189, 190, 191, 192, 193, 194, 195, 196, 197, 198, 199, 200, 201, 202, 203, 204, 205, 206, 207, 208, 209]) (tr := fun _ : Wd × Nat × Nat => []) (φ := fun y => y.1 = ratM v ∧ 32 ≤ y.2.2) (G := fun y => [cB cb1 cc1 y.1.cells, eB y.2.1 y.2.2 y.1.ents, iB ib1 ic1 y.1.items, wB b4 wz, wB b2 (wL y.1 ⟨cb1, 0, cc1, y.2.1, 0, y.2.2, ib1, 0, ic1⟩)]) (fun _ => rfl) ?_ ?_
          · rintro ⟨z, ebz, ecz⟩ j43 ⟨hz, m2z⟩
            refine q_then ?_
            refine c_seq ?_
            refine c_block ?_
            refine c_seq ?_
            simp only at hz m2z ⊢
            have hvz : VW z := by rw [hz]; exact hva.rat
            rw [← hz]
            clear hz hrt
            obtain ⟨w1, w2, w3⟩ := hvz.sz
            have hen : endM z had left = if someM z.ents = false then (if had = true then { z with state := 2 } else z) else if left = true ∧ z.floor = 3 then { z with state := 1 } else if left = true then belowM z else z := rfl
            rw [hen]
            clear hen
            refine c_reg ?_
            refine s_y (ya_ many34) rfl rfl ?_
            refine s_c (En_call (fun _ => rfl) Tryz.func85 rfl (by kernel_rfl) rfl) (fun w hH => rsome_d (wl_of (d := z) hH ⟨w1, w2, w3⟩ (cb := cb1) (cc := cc1) (eb := ebz) (ec := ecz) (ib := ib1) (ic := ic1) mm_ mm_ mm_ m1 m2z m3)) rfl rfl ?_
            rintro _ _ ⟨rfl, rfl⟩
            refine s_y (Y_not rfl) rfl rfl ?_
            refine s_y (Y_as) rfl rfl ?_
            refine s_nil ?_
            refine q_then ?_
            refine c_cond (t := (!someM z.ents)) rfl (fun hc43 => ?_) (fun hc43 => ?_)
            · skip
              try simp only [nrm_] at hc43
              refine c_seq ?_
              rw [if_pos (by simpa using hc43)]
              refine c_reg ?_
              refine s_y (Y_mv) rfl rfl ?_
              refine s_nil ?_
              refine q_then ?_
              refine c_cond (t := had) rfl (fun hc44 => ?_) (fun hc44 => ?_)
              · skip
                try simp only [nrm_] at hc44
                refine c_reg ?_
                refine s_y (Y_fa 3 rfl Tryz.underlying34 rfl sz3 rfl) rfl rfl ?_
                refine s_s (S_stC (cs' := wL { z with state := 2 } ⟨cb1, 0, cc1, ebz, 0, ecz, ib1, 0, ic1⟩) rfl sz3 (by rfl) up_ (by rfl) (by simp only [List.length_cons, List.length_nil]; omega)) rfl ?_
                refine s_nil ?_
                refine q_bn ?_
                refine q_then ?_
                refine c_seq ?_
                refine c_reg ?_
                refine s_y (ya_ many34) rfl rfl ?_
                refine s_s ((sa_ sz34)) rfl ?_
                refine s_nil ?_
                refine q_then ?_
                refine c_ret ?_
                rw [if_pos hc44]
                refine q_retW rfl rfl many34 ss_ m1 m2z m3
              · skip
                try simp only [nrm_] at hc44
                refine c_skip ?_
                refine q_bn ?_
                refine q_then ?_
                refine c_seq ?_
                refine c_reg ?_
                refine s_y (ya_ many34) rfl rfl ?_
                refine s_s ((sa_ sz34)) rfl ?_
                refine s_nil ?_
                refine q_then ?_
                refine c_ret ?_
                rw [if_neg (by rw [hc44]; decide)]
                refine q_retW rfl rfl many34 ss_ m1 m2z m3
            · skip
              try simp only [nrm_] at hc43
              refine c_seq ?_
              rw [if_neg (by simpa using hc43)]
              refine c_reg ?_
              refine s_y (Y_mv) rfl rfl ?_
              refine s_y (Y_mv) rfl rfl ?_
              apply s_and 4 [218, 219, 220, 221, 222] 222 (g := 218) rfl rfl
              · intro ht2 hm
                try simp only [nrm_] at ht2
                first | refine s_y (Y_fa 2 rfl Tryz.underlying34 rfl sz3 rfl) rfl rfl ?_ | refine s_pass rfl rfl ?_
                first | refine s_y (yl_ one3) rfl rfl ?_ | refine s_pass rfl rfl ?_
                first | refine s_y (Y_eql rfl rfl) rfl rfl ?_ | refine s_pass rfl rfl ?_
                refine s_y (Y_pk rfl (Gx.tmp gt_) Gx.const) rfl rfl ?_
                first | exact hm _ ⟨rfl, trivial⟩ rfl | exact QL.sub sl_ (hm _ ⟨rfl, trivial⟩ rfl)
              · intro ht2 hm
                iterate 3 refine s_pass rfl rfl ?_
                refine s_y (Y_pk rfl (Gx.tmp gt_) Gx.const) rfl rfl ?_
                exact hm _ ⟨rfl, trivial⟩ rfl
              intro j222
              refine s_y (Y_as) rfl rfl ?_
              refine s_nil ?_
              refine q_then ?_
              first | refine c_cond' rfl (fun hc46 => ?_) (fun hc46 => ?_) | refine c_cond rfl (fun hc46 => ?_) (fun hc46 => ?_)
              · skip
                try simp only [nrm_] at hc46
                refine c_reg ?_
                refine s_y (Y_fa 3 rfl Tryz.underlying34 rfl sz3 rfl) rfl rfl ?_
                refine s_s (S_stC (cs' := wL { z with state := 1 } ⟨cb1, 0, cc1, ebz, 0, ecz, ib1, 0, ic1⟩) rfl sz3 (by rfl) up_ (by rfl) (by simp only [List.length_cons, List.length_nil]; omega)) rfl ?_
                refine s_nil ?_
                refine q_bn ?_
                refine q_then ?_
                refine c_seq ?_
                refine c_reg ?_
                refine s_y (ya_ many34) rfl rfl ?_
                refine s_s ((sa_ sz34)) rfl ?_
                refine s_nil ?_
                refine q_then ?_
                refine c_ret ?_
                rw [if_pos hc46]
                refine q_retW rfl rfl many34 ss_ m1 m2z m3
              · skip
                try simp only [nrm_] at hc46
                refine c_seq ?_
                rw [if_neg (by rintro ⟨q1, q2⟩; rcases hc46 with h | h; rw [q1] at h; cases h; exact h q2)]
                refine c_reg ?_
                refine s_y (Y_mv) rfl rfl ?_
                refine s_y (Y_as) rfl rfl ?_
                refine s_nil ?_
                refine q_then ?_
                refine c_cond (t := left) rfl (fun hc48 => ?_) (fun hc48 => ?_)
                · skip
                  try simp only [nrm_] at hc48
                  have hf2 : z.floor ≤ 2 := by
                    have := hvz.nums.1
                    rcases hc46 with h | h
                    · rw [hc48] at h; cases h
                    · omega
                  refine c_reg ?_
                  refine s_y (ya_ many34) rfl rfl ?_
                  refine s_cm [iB ib1 ic1 z.items] (En_call (fun _ => rfl) Tryz.func95 rfl (by kernel_rfl) rfl) ss_ (fun w hH => rbelow_d (d := z) (eSl hH (b := ebz) (c := ecz) (l := z.ents) mm_ w2 m2z) (hH.at' (x := iB ib1 ic1 z.items) mm_) (Has.ne hH (x := eB ebz ecz z.ents) (y := iB ib1 ic1 z.items) ss_) m3 hvz hf2) rfl rfl ?_
                  rintro _ _ ⟨cb5, cc5, eb5, ec5, ib5, ic5, rfl, rfl, n1, n2, n3⟩
                  refine s_s (S_storeA (vs := wL (belowM z) ⟨cb5, 0, cc5, eb5, 0, ec5, ib5, 0, ic5⟩) rfl rfl sz34 (by rfl) (by rfl) up_ (by rfl)) rfl ?_
                  refine s_nil ?_
                  refine q_bn ?_
                  refine q_then ?_
                  refine c_seq ?_
                  refine c_reg ?_
                  refine s_y (ya_ many34) rfl rfl ?_
                  refine s_s ((sa_ sz34)) rfl ?_
                  refine s_nil ?_
                  refine q_then ?_
                  refine c_ret ?_
                  rw [if_pos hc48]
                  refine q_retW rfl rfl many34 ss_ n1 n2 n3
                · skip
                  try simp only [nrm_] at hc48
                  refine c_skip ?_
                  refine q_bn ?_
                  refine q_then ?_
                  refine c_seq ?_
                  refine c_reg ?_
                  refine s_y (ya_ many34) rfl rfl ?_
                  refine s_s ((sa_ sz34)) rfl ?_
                  refine s_nil ?_
                  refine q_then ?_
                  refine c_ret ?_
                  rw [if_neg (by rw [hc48]; decide)]
                  refine q_retW rfl rfl many34 ss_ m1 m2z m3
          · intro go
            refine c_seq ?_
            refine c_reg ?_
            refine s_y (Y_fa 1 rfl Tryz.underlying34 rfl sz3 rfl) rfl rfl ?_
            refine s_y (yl_ one3) rfl rfl ?_
            refine s_y (Y_remw rfl rfl (by omega)) rfl rfl ?_
            refine s_y (Y_eql rfl rfl) rfl rfl ?_
            refine s_nil ?_
            refine q_then ?_
            first | refine c_cond' rfl (fun hc37 => ?_) (fun hc37 => ?_) | refine c_cond rfl (fun hc37 => ?_) (fun hc37 => ?_)
            · skip
              try simp only [nrm_] at hc37
              refine c_seq ?_
              refine c_reg ?_
              refine s_y (Y_fa 4 rfl Tryz.underlying34 rfl sz24 rfl) rfl rfl ?_
              refine s_y (yl_ one24) rfl rfl ?_
              refine s_c (En_call (fun _ => rfl) Tryz.func55 rfl (by kernel_rfl) rfl) (fun w hH => rfind_d (cSl hH (b := cb1) (c := cc1) (l := v.cells) mm_ v1 m1)) rfl rfl ?_
              rintro _ _ ⟨rfl, rfl⟩
              refine s_y (Y_as) rfl rfl ?_
              refine s_nil ?_
              rw [if_pos hc37] at hrt
              have hfg := find_rng v.cells 3
              obtain ⟨up, hup⟩ : ∃ z, findM v.cells 3 = z := ⟨_, rfl⟩
              rw [hup] at hrt hfg ⊢
              refine q_then ?_
              refine c_seq ?_
              refine c_reg ?_
              refine s_y (Y_mv) rfl rfl ?_
              refine s_y (Y_geq rfl rfl) rfl rfl ?_
              refine s_y (Y_mv) rfl rfl ?_
              apply s_and 9 [188, 189, 190, 191, 192, 193, 194, 195, 196, 197] 197 (g := 188) rfl rfl
              · intro ht3 hm
                try simp only [nrm_] at ht3
                first | refine s_y (Y_fa 5 rfl Tryz.underlying34 rfl sz30 rfl) rfl rfl ?_ | refine s_pass rfl rfl ?_
                first | refine s_y (yl_ one30) rfl rfl ?_ | refine s_pass rfl rfl ?_
                first | refine s_y (Y_mv) rfl rfl ?_ | refine s_pass rfl rfl ?_
                first | refine s_y ((by first | exact Y_rem rfl rfl (by omega) | exact Y_remw rfl rfl (by omega))) rfl rfl ?_ | refine s_pass rfl rfl ?_
                first | refine s_y (Y_mv) rfl rfl ?_ | refine s_pass rfl rfl ?_
                first | refine s_y ((by first | exact Y_quo rfl rfl (by omega) | exact Y_quow rfl rfl (by omega))) rfl rfl ?_ | refine s_pass rfl rfl ?_
                refine s_c (En_call (fun _ => rfl) Tryz.func73 rfl (by kernel_rfl) rfl) (fun w hH => reat_d (eSl hH (b := eb1) (c := ec1) (l := v.ents) mm_ v2 m2)) rfl rfl ?_
                rintro _ _ ⟨rfl, rfl⟩
                first | refine s_y (Y_lss rfl rfl) rfl rfl ?_ | refine s_pass rfl rfl ?_
                refine s_y (Y_pk rfl (Gx.tmp gt_) Gx.const) rfl rfl ?_
                first | exact hm _ ⟨rfl, trivial⟩ rfl | exact QL.sub sl_ (hm _ ⟨rfl, trivial⟩ rfl)
              · intro ht3 hm
                iterate 8 refine s_pass rfl rfl ?_
                refine s_y (Y_pk rfl (Gx.tmp gt_) Gx.const) rfl rfl ?_
                exact hm _ ⟨rfl, trivial⟩ rfl
              intro j197
              refine s_nil ?_
              refine q_then ?_
              first | refine c_cond' rfl (fun hc39 => ?_) (fun hc39 => ?_) | refine c_cond rfl (fun hc39 => ?_) (fun hc39 => ?_)
              · skip
                try simp only [nrm_] at hc39
                refine c_seq ?_
                refine c_reg ?_
                refine s_c (En_call (fun _ => rfl) Tryz.func86 rfl (by kernel_rfl) rfl) (fun w hH => rstats_d) rfl rfl ?_
                rintro _ _ ⟨rfl, rfl⟩
                refine s_n (N_alloc (z := .agg #[.int .i64 0, .int .i64 0, .int .i64 0, .int .i64 0, .int .i64 0, .int .i64 0, .int .i64 0, .int .i64 0, .int .i64 0, .int .i64 0, .int .i64 0]) (cs := [.int .i64 0, .int .i64 0, .int .i64 0, .int .i64 0, .int .i64 0, .int .i64 0, .int .i64 0, .int .i64 0, .int .i64 0, .int .i64 0, .int .i64 0]) zv93 rfl) rfl rfl (fun b16 _ => ?_)
                refine s_s (S_storeA (vs := (statsM 2).cells) rfl rfl sz93 (by rfl) (by rfl) up_ (by rfl)) rfl ?_
                refine s_nil ?_
                refine q_then ?_
                refine c_seq ?_
                refine c_reg ?_
                refine s_y (Y_mv) rfl rfl ?_
                refine s_y ((by first | exact Y_rem rfl rfl (by omega) | exact Y_remw rfl rfl (by omega))) rfl rfl ?_
                refine s_y (Y_mv) rfl rfl ?_
                refine s_y ((by first | exact Y_quo rfl rfl (by omega) | exact Y_quow rfl rfl (by omega))) rfl rfl ?_
                refine s_y (Y_fa 3 rfl Tryz.underlying93 rfl sz3 rfl) rfl rfl ?_
                refine s_s (S_st (cs' := ({ statsM 2 with x := up % 24 } : Ent).cells) rfl gt_ sz3 (by rfl) up_ (by rfl) (by rw [Ent.len]; decide)) rfl ?_
                refine s_y (Y_fa 4 rfl Tryz.underlying93 rfl sz3 rfl) rfl rfl ?_
                refine s_s (S_st (cs' := ({ statsM 2 with x := up % 24, y := up / 24 } : Ent).cells) rfl gt_ sz3 (by rfl) up_ (by rfl) (by rw [Ent.len]; decide)) rfl ?_
                refine s_nil ?_
                rw [if_pos hc39] at hrt
                obtain ⟨e9, he9⟩ : ∃ z : Ent, ({ statsM 2 with x := up % 24, y := up / 24 } : Ent) = z := ⟨_, rfl⟩
                rw [he9] at hrt ⊢
                refine QL.pick (L' := [eB eb1 ec1 v.ents, cB cb1 cc1 v.cells, iB ib1 ic1 v.items, wB b4 wz, wB b2 (wL v ⟨cb1, 0, cc1, eb1, 0, ec1, ib1, 0, ic1⟩), e1B b16 e9]) ss_ ?_
                refine q_then ?_
                refine c_reg ?_
                refine s_y (Y_fa 5 rfl Tryz.underlying34 rfl sz30 rfl) rfl rfl ?_
                refine s_y (yl_ one30) rfl rfl ?_
                refine s_y (ya_ many93) rfl rfl ?_
                refine s_c (En_call (fun _ => rfl) Tryz.func88 rfl (by kernel_rfl) rfl) (fun w hH => rspawned_d (eSl hH (b := eb1) (c := ec1) (l := v.ents) mm_ v2 m2) (by omega) e9) rfl rfl ?_
                rintro _ _ hP
                rename_i B
                obtain ⟨eb2, ec2, rfl, m4, hc⟩ := hP.conv m2
                refine QL.conv (fun w hw => hc hw) ?_
                refine s_y (Y_fa 5 rfl Tryz.underlying34 rfl sz30 rfl) rfl rfl ?_
                refine s_s (S_st (cs' := wL v ⟨cb1, 0, cc1, eb2, 0, ec2, ib1, 0, ic1⟩) rfl gt_ sz30 (by rfl) up_ (by rfl) (by simp only [List.length_cons, List.length_nil]; omega)) rfl ?_
                refine s_nil ?_
                exact go ({ v with ents := spawnedM v.ents e9 }, eb2, ec2) _ _ ⟨hrt.symm, m4⟩ trivial rfl (fun w h => h.pick ss_)
              · skip
                try simp only [nrm_] at hc39
                refine c_skip ?_
                exact go (v, eb1, ec1) _ _ ⟨by rw [hrt, if_neg (by omega)], m2⟩ trivial rfl (fun w h => h.pick ss_)
            · skip
              try simp only [nrm_] at hc37
              refine c_skip ?_
              exact go (v, eb1, ec1) _ _ ⟨by rw [hrt, if_neg hc37], m2⟩ trivial rfl (fun w h => h.pick ss_)
end
end Go.Proofs.YtcogbkkdccohfaaGreat
namespace Go.Proofs.YtcogbkkdccohfaaGreat
open Go.RowKit Go.Ad Go.Maps
set_option linter.unusedVariables false
set_option linter.unusedSimpArgs false
def hdr (w : Wd) : Int × Int × Int × Int := (w.seed, w.frame, w.floor, w.state)
theorem hdr_do (w : Wd) (s i : Int) : hdr (doM w s i) = hdr w := by
  unfold doM pickD useD wearD dropD buyD
  simp only
  repeat' split
  all_goals rfl
theorem hdr_hurt (w : Wd) (r n : Int) : hdr (hurtM w r n) = hdr w := by
  unfold hurtM
  simp only
  repeat' split
  all_goals rfl
theorem hdr_marks (w : Wd) (k f t : Int) : hdr (marksE w k f t) = hdr w := by
  unfold marksE
  simp only
  repeat' split
  all_goals rfl
theorem hdr_hit (w : Wd) (f t : Int) : hdr (hitM w f t) = hdr w := by
  unfold hitM
  split
  · rfl
  · rw [hdr_marks, hdr_hurt]
theorem hdr_act (w : Wd) (r k : Int) (foe : Bool) : hdr (actM w r k foe) = hdr w := by
  unfold actM
  simp only
  split
  · rfl
  · split
    · split
      · exact hdr_hit _ _ _
      · rfl
    · split <;> rfl
theorem hdr_ailOne (w : Wd) (i : Nat) : hdr (ailOne w i) = hdr w := by
  unfold ailOne
  simp only
  split
  · rfl
  · split
    · rw [hdr_hurt]; rfl
    · rfl
theorem hdr_ail (w : Wd) : ∀ n, hdr (ailF w n) = hdr w
  | 0 => rfl
  | n + 1 => by rw [ailF, hdr_ailOne, hdr_ail w n]
theorem hdr_foe (w : Wd) (i : Nat) : hdr (foeM w i) = hdr w := by
  unfold foeM
  simp only
  split
  · rfl
  · exact hdr_act _ _ _ _
theorem hdr_foes (w : Wd) : ∀ n, hdr (foesW w n) = hdr w
  | 0 => rfl
  | n + 1 => by rw [foesW, hdr_foe, hdr_foes w n]
theorem hdr_seat (p : Wd × Bool) (a : Deed) (s : Int) : hdr (seatM p a s).1 = hdr p.1 := by
  unfold seatM
  simp only
  split
  · rfl
  · generalize (if a.how = 2 then robotM p.1 s else a.input) = q
    split
    · exact hdr_act _ _ _ _
    · split
      · rfl
      · exact hdr_do _ _ _
theorem hdr_seats (w : Wd) (a : Acts) : ∀ n, hdr (seatsM w a n).1 = hdr w
  | 0 => rfl
  | n + 1 => by rw [seatsM, hdr_seat, hdr_seats w a n]
theorem hdr_rat (w : Wd) : hdr (ratM w) = hdr w := by
  unfold ratM
  simp only
  split
  · split <;> rfl
  · rfl
theorem hdr_mid (w : Wd) : hdr (midM w) = hdr w := by unfold midM; rw [hdr_rat, show ailM (foesW w 32) = ailF (foesW w 32) 32 from rfl, hdr_ail, hdr_foes]
theorem end_hdr (w : Wd) (had left : Bool) : (endM w had left).seed = w.seed ∧ (endM w had left).frame = w.frame ∧ ((endM w had left).floor = w.floor ∨ (left = true ∧ w.floor ≠ 3 ∧ (endM w had left).floor = w.floor + 1)) := by
  unfold endM
  split
  · split
    · exact ⟨rfl, rfl, .inl rfl⟩
    · exact ⟨rfl, rfl, .inl rfl⟩
  · split
    · exact ⟨rfl, rfl, .inl rfl⟩
    · rename_i hc
      split
      · rename_i hl
        exact ⟨rfl, rfl, .inr ⟨hl, fun h => hc ⟨hl, h⟩, rfl⟩⟩
      · exact ⟨rfl, rfl, .inl rfl⟩
theorem step_hdr (d : Wd) (a : Acts) : (stepM d a).seed = d.seed ∧ (stepM d a).frame = d.frame + 1 ∧ d.floor ≤ (stepM d a).floor ∧ (stepM d a).floor ≤ d.floor + 1 := by
  unfold stepM
  simp only
  split
  · exact ⟨rfl, rfl, Int.le_refl _, by simp only; omega⟩
  · obtain ⟨d2, hd2⟩ : ∃ z : Wd, ({ d with frame := d.frame + 1, ents := comesM d.cells d.ents a 4 } : Wd) = z := ⟨_, rfl⟩
    have h0 : hdr d2 = (d.seed, d.frame + 1, d.floor, d.state) := by rw [← hd2]; rfl
    rw [hd2]
    have h1 := hdr_seats d2 a 4
    have h2 := hdr_mid (seatsM d2 a 4).1
    obtain ⟨d3, hd3⟩ : ∃ z, midM (seatsM d2 a 4).1 = z := ⟨_, rfl⟩
    rw [hd3] at h2 ⊢
    rw [h1, h0] at h2
    simp only [hdr, Prod.mk.injEq] at h2
    obtain ⟨e1, e2, e3, e4⟩ := h2
    generalize (someM d.ents || someM (comesM d.cells d.ents a 4)) = had
    obtain ⟨k1, k2, k3⟩ := end_hdr d3 had (seatsM d2 a 4).2
    refine ⟨by rw [k1, e1], by rw [k2, e2], ?_, ?_⟩ <;> rcases k3 with k | ⟨_, _, k⟩ <;> rw [k] <;> omega
end Go.Proofs.YtcogbkkdccohfaaGreat
namespace Go.Ad
open Go.RowKit Go.Maps Go.Proofs.YtcogbkkdccohfaaGreat
def Lls (W : World) (v : Value) (ls : List (List Int)) : Prop := ∃ vs : List Value, SlV W 1 v ls.length vs ∧ ∀ (i : Nat) (l : List Int), ls[i]? = some l → ∃ vi, vs[i]? = some vi ∧ SlV W 1 vi l.length (l.map iv)
theorem Lls.has {W w : World} {L : List Bk} {v : Value} {ls : List (List Int)} (h : Lls W v ls) (hH : Has W [] L w) : Lls w v ls := by
  obtain ⟨vs, h1, h2⟩ := h
  exact ⟨vs, h1.has hH, fun i l hi => by obtain ⟨vi, h3, h4⟩ := h2 i l hi; exact ⟨vi, h3, h4.has hH⟩⟩
def wcs (ps : List (Wd × Ws)) : List Value := ps.flatMap fun p => wL p.1 p.2
theorem wcs_len (ps : List (Wd × Ws)) : (wcs ps).length = ps.length * 11 := fl_len (c := fun p : Wd × Ws => wL p.1 p.2) (fun _ => rfl) ps
theorem wcs_snoc (ps : List (Wd × Ws)) (p : Wd × Ws) : wcs ps ++ wL p.1 p.2 = wcs (ps ++ [p]) := by simp [wcs]
theorem wcs_at {ps : List (Wd × Ws)} {i : Nat} {p : Wd × Ws} (h : ps[i]? = some p) : ∀ j v, (wL p.1 p.2)[j]? = some v → (wcs ps)[0 + i * 11 + j]? = some v := fun j v hj => by rw [Nat.zero_add]; exact fl_get (c := fun p : Wd × Ws => wL p.1 p.2) (fun _ => rfl) h hj
def Own (p : Wd × Ws) (B : List Bk) : Prop := ∃ cb cc eb ec ib ic, p.2 = ⟨cb, 0, cc, eb, 0, ec, ib, 0, ic⟩ ∧ cB cb cc p.1.cells ∈ B ∧ eB eb ec p.1.ents ∈ B ∧ iB ib ic p.1.items ∈ B ∧ 384 ≤ cc ∧ 32 ≤ ec ∧ 40 ≤ ic
theorem Own.mono {p : Wd × Ws} {B B' : List Bk} (h : Own p B) (hs : ∀ x ∈ B, x ∈ B') : Own p B' := by
  obtain ⟨cb, cc, eb, ec, ib, ic, h1, h2, h3, h4, h5⟩ := h
  exact ⟨cb, cc, eb, ec, ib, ic, h1, hs _ h2, hs _ h3, hs _ h4, h5⟩
theorem Own.wl {p : Wd × Ws} {B : List Bk} (h : Own p B) (hz : p.1.cells.length = 384 ∧ p.1.ents.length = 32 ∧ p.1.items.length = 40) {W0 w : World} {M : List Nat} {L : List Bk} (hH : Has W0 M L w) (hs : ∀ x ∈ B, x ∈ L) : WL w p.1 p.2 := by
  obtain ⟨cb, cc, eb, ec, ib, ic, h1, h2, h3, h4, l1, l2, l3⟩ := h
  rw [h1]
  exact wl_of hH hz (hs _ h2) (hs _ h3) (hs _ h4) l1 l2 l3
structure TaleW (seed : Int) (n : Nat) (d : Wd) : Prop where
  vw : VW d
  fr : 0 ≤ d.frame ∧ d.frame ≤ n
  sd : d.seed = seed
theorem TaleW.step {seed : Int} {n : Nat} {d : Wd} (h : TaleW seed n d) (a : Acts) : TaleW seed (n + 1) (stepM d a) := by
  obtain ⟨h1, h2, _⟩ := step_hdr d a
  have := h.fr
  exact ⟨h.vw.step a, by omega, by rw [h1]; exact h.sd⟩
theorem TaleW.new (seed : Int) : TaleW seed 0 (newM seed) := ⟨VW.new seed, by rw [show (newM seed).frame = 0 from rfl]; omega, rfl⟩
theorem TaleW.more {seed : Int} {n m : Nat} {d : Wd} (h : TaleW seed n d) (hm : n ≤ m) : TaleW seed m d := ⟨h.vw, by have := h.fr; omega, h.sd⟩
theorem aall {al : Acts} {s : Nat} (x : Deed) (h : s < al.length) : setAll (acells al) (0 + s * 3) x.cells = acells (al.set s x) := by rw [Nat.zero_add]; exact fl_all Deed.len h x
theorem ble_a {al : Acts} {s : Nat} (h : s < al.length) : Nat.ble (0 + s * 3 + 3) (acells al).length = true := by
  rw [acells_len]
  exact Nat.ble_eq_true_of_le (by omega)
theorem one_w (d : Wd) (s : Ws) : ∀ u ∈ wL d s, u.oneCell' = true := fun u hu => List.all_eq_true.1 (show (wL d s).all (·.oneCell') = true from rfl) u hu
end Go.Ad
namespace Go.Proofs.YtcogbkkdccohfaaGreat
open Go.RowKit Go.Ad Go.Maps
set_option linter.unusedVariables false
set_option linter.unusedSimpArgs false
structure Tale (seed : Int) (ps : List (Wd × Ws)) (B : List Bk) : Prop where
  told : ∀ p ∈ ps, TaleW seed 30 p.1 ∧ Own p B
def StoryP (seed : Int) (n : Nat) (v : Value) (L : List Bk) : Prop := ∃ ps g cap B, ps.length = n ∧ Tale seed ps B ∧ v = .slice (some ⟨g, 0, none⟩) n cap ∧ n ≤ cap ∧ L = ⟨g, 34, 11, cap, wcs ps⟩ :: B
section
variable {W : World}
set_option maxRecDepth 100000 in
theorem l11within_d {a n : Int} (hn : 1 ≤ n ∧ n ≤ 1000000000000) : Does Tryz.prog 18 [iv a, iv n] W [] (fun v L => v = iv (a % n) ∧ L = []) := by
  have hc := tmod_cases a (n := n) (by omega)
  have h2 := Int.emod_lt_of_pos a (show 0 < n by omega)
  have h1 := Int.emod_nonneg a (show n ≠ 0 by omega)
  refine enter Tryz.func18 rfl rfl rfl (Has.start _) ?_
  refine c_seq ?_
  refine c_reg ?_
  refine s_y (Y_asC) rfl rfl ?_
  refine s_nil ?_
  refine q_then ?_
  refine c_seq ?_
  refine c_reg ?_
  refine s_y (Y_mv) rfl rfl ?_
  refine s_y (Y_mv) rfl rfl ?_
  refine s_y (Y_remw rfl rfl (by omega)) rfl rfl ?_
  refine s_y (Y_as) rfl rfl ?_
  refine s_nil ?_
  refine q_then ?_
  refine c_seq ?_
  refine c_seq ?_
  refine c_reg ?_
  refine s_y (Y_mv) rfl rfl ?_
  refine s_y (Y_lss rfl rfl) rfl rfl ?_
  refine s_nil ?_
  refine q_then ?_
  first | refine c_cond' rfl (fun hc2 => ?_) (fun hc2 => ?_) | refine c_cond rfl (fun hc2 => ?_) (fun hc2 => ?_)
  · skip
    try simp only [nrm_] at hc2
    refine c_reg ?_
    refine s_y (Y_mv) rfl rfl ?_
    refine s_y (Y_mv) rfl rfl ?_
    refine s_y ((Y_add rfl rfl (by omega)).num (show _ = a % n by omega)) rfl rfl ?_
    refine s_y (Y_as) rfl rfl ?_
    refine s_nil ?_
    refine q_then ?_
    refine c_seq ?_
    refine c_reg ?_
    refine s_y (Y_mv) rfl rfl ?_
    refine s_y (Y_as) rfl rfl ?_
    refine s_nil ?_
    refine q_then ?_
    refine c_ret ?_
    refine q_retG1 rfl gt_ (L' := _) sl_ (⟨rfl, rfl⟩)
  · skip
    try simp only [nrm_] at hc2
    refine c_skip ?_
    refine q_then ?_
    refine c_seq ?_
    refine c_reg ?_
    refine s_y (Y_mv) rfl rfl ?_
    refine s_y (Y_as) rfl rfl ?_
    refine s_nil ?_
    refine q_then ?_
    refine c_ret ?_
    refine q_retG1 rfl gt_ (L' := _) sl_ (⟨by congr 1; omega, rfl⟩)
set_option maxRecDepth 100000 in
set_option maxHeartbeats 1600000 in
theorem lstory_d {seed : Int} {lv : Value} {ls : List (List Int)} (hl : Lls W lv ls) : Does Tryz.prog 16 [iv seed, lv] W [] (StoryP seed (1 + min ls.length 30)) := by
  obtain ⟨vs, hlv, hli⟩ := hl
  have hll := hlv.le
  simp only [maxLen] at hll
  refine enter Tryz.func16 rfl rfl rfl (Has.start _) ?_
  refine c_seq ?_
  refine c_reg ?_
  refine s_y (Y_asC) rfl rfl ?_
  refine s_nil ?_
  refine q_then ?_
  refine c_seq ?_
  refine c_reg ?_
  refine s_y (Y_mv) rfl rfl ?_
  refine s_c (En_call (fun _ => rfl) Tryz.func45 rfl (by kernel_rfl) rfl) (fun w hH => rnew_d) rfl rfl ?_
  rintro _ _ ⟨cb, cc, eb, ec, ib, ic, rfl, rfl, l1, l2, l3⟩
  have hn := VW.new seed
  have hnt := TaleW.new seed
  obtain ⟨d0, hd0⟩ : ∃ z, newM seed = z := ⟨_, rfl⟩
  rw [hd0] at hn hnt l1 l2 l3 ⊢
  obtain ⟨z1, z2, z3⟩ := hn.sz
  rw [wv_wL ⟨z1, z2, z3⟩]
  rw [z1] at l1
  rw [z2] at l2
  rw [z3] at l3
  refine s_n (N_alloc (z := .agg #[.int .i64 0, .int .i64 0, .int .i64 0, .int .i64 0, .slice none 0 0, .slice none 0 0, .slice none 0 0, .int .i64 0, .int .i64 0, .int .i64 0, .int .i64 0]) (cs := [.int .i64 0, .int .i64 0, .int .i64 0, .int .i64 0, .slice none 0 0, .slice none 0 0, .slice none 0 0, .int .i64 0, .int .i64 0, .int .i64 0, .int .i64 0]) zv34 rfl) rfl rfl (fun b5 _ => ?_)
  refine s_s (S_storeA (vs := wL d0 ⟨cb, 0, cc, eb, 0, ec, ib, 0, ic⟩) rfl rfl sz34 (by rfl) (by rfl) up_ (by rfl)) rfl ?_
  refine s_nil ?_
  refine q_then ?_
  refine c_seq ?_
  refine c_reg ?_
  refine s_y (ya_ many34) rfl rfl ?_
  refine s_n (N_bsA gt_ Tryz.underlying26 inf34 rfl rfl (by omega) (by omega)) rfl rfl (fun b13 _ => ?_)
  refine s_y (Y_as) rfl rfl ?_
  refine s_nil ?_
  refine q_then ?_
  refine c_seq ?_
  refine c_seq ?_
  refine c_reg ?_
  refine s_y (Y_asC) rfl rfl ?_
  refine s_nil ?_
  refine q_then ?_
  refine c_block ?_
  refine c_loop [6, 7, 8, 9, 14, 15, 16, 17, 18, 19, 20, 21, 22, 23, 24, 25, 26, 27, 28, 29, 30, 31, 32, 33, 34, 35, 36, 37, 38, 39, 40, 41, 42, 43, 44, 45, 46, 47, 48, 49, 50, 51, 52, 53, 54, 55, 56, 57, 58, 59, 60, 61, 62, 63, 64, 65, 66, 67, 68, 69, 70, 71, 72, 73] (fun m (y : Nat × Wd × Ws × List (Wd × Ws) × Nat × Nat × List Bk) => y.1 + m = min ls.length 30 ∧ y.2.2.2.1.length = y.1 + 1 ∧ y.1 + 1 ≤ y.2.2.2.2.2.1 ∧ (∀ p ∈ y.2.2.2.1, TaleW seed 30 p.1 ∧ Own p y.2.2.2.2.2.2) ∧ TaleW seed y.1 y.2.1 ∧ Own (y.2.1, y.2.2.1) y.2.2.2.2.2.2) (fun y => [(7, iv y.1), (6, .slice (some ⟨y.2.2.2.2.1, 0, none⟩) (y.1 + 1) y.2.2.2.2.2.1)]) (fun y => ⟨y.2.2.2.2.1, 34, 11, y.2.2.2.2.2.1, wcs y.2.2.2.1⟩ :: wB b5 (wL y.2.1 y.2.2.1) :: y.2.2.2.2.2.2) (min ls.length 30) ((0, d0, ⟨cb, 0, cc, eb, 0, ec, ib, 0, ic⟩, [(d0, ⟨cb, 0, cc, eb, 0, ec, ib, 0, ic⟩)], b13, 1, [cB cb cc d0.cells, eB eb ec d0.ents, iB ib ic d0.items])) (⟨by simp only; omega, rfl, by simp only; omega, fun p hp => by obtain rfl := List.mem_singleton.1 hp; exact ⟨hnt.more (by omega), cb, cc, eb, ec, ib, ic, rfl, mm_, mm_, mm_, l1, l2, l3⟩, hnt, cb, cc, eb, ec, ib, ic, rfl, mm_, mm_, mm_, l1, l2, l3⟩) (by repeat (first | exact trivial | refine ⟨rfl, ?_⟩)) (fun w h => h.pick ss_) (fun _ => rfl) ?_
  rintro m ⟨i, d, s, ps, g, cap, B⟩ j ⟨hi, hpl, hcap, hps, hd, how⟩ K hK
  simp only at hi hpl hcap hps hd how ⊢
  refine c_seq ?_
  refine c_seq ?_
  refine c_reg ?_
  refine s_y (Y_mv) rfl rfl ?_
  refine s_y (Y_mv) rfl rfl ?_
  refine s_y (Y_lenV hlv rfl rfl Tryz.underlying22) rfl rfl ?_
  refine s_y (Y_lss rfl rfl) rfl rfl ?_
  refine s_y (Y_mv) rfl rfl ?_
  apply s_and 3 [18, 19, 20, 21] 21 (g := 18) rfl rfl
  · intro ht5 hm
    try simp only [nrm_] at ht5
    first | refine s_y (Y_mv) rfl rfl ?_ | refine s_pass rfl rfl ?_
    first | refine s_y (Y_lss rfl rfl) rfl rfl ?_ | refine s_pass rfl rfl ?_
    refine s_y (Y_pk rfl (Gx.tmp gt_) Gx.const) rfl rfl ?_
    first | exact hm _ ⟨rfl, trivial⟩ rfl | exact QL.sub sl_ (hm _ ⟨rfl, trivial⟩ rfl)
  · intro ht5 hm
    iterate 2 refine s_pass rfl rfl ?_
    refine s_y (Y_pk rfl (Gx.tmp gt_) Gx.const) rfl rfl ?_
    exact hm _ ⟨rfl, trivial⟩ rfl
  intro j21
  refine s_nil ?_
  refine q_then ?_
  first | refine c_cond' rfl (fun hc4 => ?_) (fun hc4 => ?_) | refine c_cond rfl (fun hc4 => ?_) (fun hc4 => ?_)
  · skip
    try simp only [nrm_] at hc4
    refine c_skip ?_
    refine q_then ?_
    refine c_seq ?_
    refine c_block ?_
    refine c_seq ?_
    obtain ⟨row, hrow⟩ := take_lt (show i < ls.length by omega)
    obtain ⟨rv, hrv, hrl⟩ := hli i row hrow
    obtain ⟨lb, lo, lc, rfl, hls⟩ := hlv.some_of (by omega)
    have hrle := hrl.le
    simp only [maxLen] at hrle
    refine c_reg ?_
    refine s_n (N_alloc (z := .agg #[.int .i64 0, .int .i64 0, .bool false, .int .i64 0, .int .i64 0, .bool false, .int .i64 0, .int .i64 0, .bool false, .int .i64 0, .int .i64 0, .bool false]) (cs := [.int .i64 0, .int .i64 0, .bool false, .int .i64 0, .int .i64 0, .bool false, .int .i64 0, .int .i64 0, .bool false, .int .i64 0, .int .i64 0, .bool false]) zv79 rfl) rfl rfl (fun b8 _ => ?_)
    refine s_nil ?_
    refine q_then ?_
    refine c_seq ?_
    refine c_seq ?_
    refine c_reg ?_
    refine s_y (Y_asC) rfl rfl ?_
    refine s_nil ?_
    refine q_then ?_
    refine c_block ?_
    refine c_loop [9, 24, 25, 26, 27, 28, 29, 30, 31, 32, 33, 34, 35, 36, 37, 38, 39, 40, 41, 42, 43, 44, 45, 46, 47, 48, 49, 50, 51, 52, 53, 54, 55, 56, 57, 58, 59, 60, 61, 62, 63, 64, 65, 66] (fun m2 (y : Nat × Acts) => y.1 + m2 = min 4 row.length ∧ y.2.length = 4) (fun y => [(9, iv y.1)]) (fun y => ⟨b8, 79, 12, 1, acells y.2⟩ :: ⟨g, 34, 11, cap, wcs ps⟩ :: wB b5 (wL d s) :: B) (min 4 row.length) ((0, [⟨0, 0, false⟩, ⟨0, 0, false⟩, ⟨0, 0, false⟩, ⟨0, 0, false⟩])) (⟨by simp only; omega, rfl⟩) (by repeat (first | exact trivial | refine ⟨rfl, ?_⟩)) (fun w h => h) (fun _ => rfl) ?_
    rintro m2 ⟨q, al⟩ j2 ⟨hq, hal⟩ K2 hK2
    simp only at hq hal ⊢
    refine c_seq ?_
    refine c_seq ?_
    refine c_reg ?_
    refine s_y (Y_mv) rfl rfl ?_
    refine s_y (Y_lss rfl rfl) rfl rfl ?_
    refine s_y (Y_mv) rfl rfl ?_
    apply s_and 8 [26, 27, 28, 29, 30, 31, 32, 33, 34] 34 (g := 26) rfl rfl
    · intro ht3 hm
      try simp only [nrm_] at ht3
      first | refine s_y (Y_mv) rfl rfl ?_ | refine s_pass rfl rfl ?_
      first | refine s_y (Y_mv) rfl rfl ?_ | refine s_pass rfl rfl ?_
      first | refine s_y (Y_mv) rfl rfl ?_ | refine s_pass rfl rfl ?_
      first | refine s_y (Y_ia1 (n := i) rfl rfl Tryz.underlying22 sz23 rfl (by omega)) rfl rfl ?_ | refine s_pass rfl rfl ?_
      first | refine s_y (Y_loadR (v := rv) (i := i) rfl one23 hls.ro (by omega) hrv) rfl rfl ?_ | refine s_pass rfl rfl ?_
      first | refine s_y (Y_lenV hrl rfl rfl Tryz.underlying23) rfl rfl ?_ | refine s_pass rfl rfl ?_
      first | refine s_y (Y_lss rfl rfl) rfl rfl ?_ | refine s_pass rfl rfl ?_
      refine s_y (Y_pk rfl (Gx.tmp gt_) Gx.const) rfl rfl ?_
      first | exact hm _ ⟨rfl, trivial⟩ rfl | exact QL.sub sl_ (hm _ ⟨rfl, trivial⟩ rfl)
    · intro ht3 hm
      iterate 7 refine s_pass rfl rfl ?_
      refine s_y (Y_pk rfl (Gx.tmp gt_) Gx.const) rfl rfl ?_
      exact hm _ ⟨rfl, trivial⟩ rfl
    intro j34
    refine s_nil ?_
    refine q_then ?_
    first | refine c_cond' rfl (fun hc8 => ?_) (fun hc8 => ?_) | refine c_cond rfl (fun hc8 => ?_) (fun hc8 => ?_)
    · skip
      try simp only [nrm_] at hc8
      refine c_skip ?_
      refine q_then ?_
      refine c_seq ?_
      refine c_block ?_
      obtain ⟨z, hz⟩ := take_lt (show q < row.length by omega)
      obtain ⟨rb, ro, rc, rfl, hrs⟩ := hrl.some_of (by omega)
      have hzv : (row.map iv)[q]? = some (iv z) := by rw [List.getElem?_map, hz]; rfl
      refine c_rordS (L0 := []) sl_ [30] [(0, true), (1, true), (2, true), (3, true), (4, true), (5, true), (6, true), (7, true), (9, true), (10, true), (11, true), (12, true), (13, true), (14, true), (15, true), (16, true), (18, true), (19, true), (20, true), (21, true), (22, true), (23, true), (24, true), (25, true), (8, false), (17, false), (26, false), (27, true), (28, true), (29, true), (30, false)] (by kernel_rfl) (by kernel_rfl) (by kernel_rfl) (by kernel_rfl) rfl (by intro c a d v w h; cases d <;> exact h) rfl ?_
      simp only [mkOrd, List.filterMap_cons, List.filterMap_nil, List.getElem?_toArray, List.getElem?_cons_zero, List.getElem?_cons_succ, Option.map_some]
      refine o_y (Y_mv) rfl rfl ?_
      refine o_y (Y_mv) rfl rfl ?_
      refine o_y (Y_mv) rfl rfl ?_
      refine o_y (Y_ia1 (n := i) rfl rfl Tryz.underlying22 sz23 rfl (by omega)) rfl rfl ?_
      refine o_y (Y_loadR (v := .slice (some ⟨rb, ro, none⟩) row.length rc) (i := i) rfl one23 hls.ro (by omega) hrv) rfl rfl ?_
      refine o_y (Y_mv) rfl rfl ?_
      refine o_y (Y_ia1 (n := q) rfl rfl Tryz.underlying23 sz3 rfl (by omega)) rfl rfl ?_
      refine o_y (Y_loadR (v := iv z) (i := q) rfl one3 hrs.ro (by omega) hzv) rfl rfl ?_
      refine o_y (Y_mv) rfl rfl ?_
      refine o_y (Y_mv) rfl rfl ?_
      refine o_y (Y_ia1 (n := i) rfl rfl Tryz.underlying22 sz23 rfl (by omega)) rfl rfl ?_
      refine o_y (Y_loadR (v := .slice (some ⟨rb, ro, none⟩) row.length rc) (i := i) rfl one23 hls.ro (by omega) hrv) rfl rfl ?_
      refine o_y (Y_mv) rfl rfl ?_
      refine o_y (Y_ia1 (n := q) rfl rfl Tryz.underlying23 sz3 rfl (by omega)) rfl rfl ?_
      refine o_y (Y_loadR (v := iv z) (i := q) rfl one3 hrs.ro (by omega) hzv) rfl rfl ?_
      refine o_y (Y_quow rfl rfl (by decide)) rfl rfl ?_
      refine o_y (Y_mv) rfl rfl ?_
      refine o_y (Y_mv) rfl rfl ?_
      refine o_y (Y_ia1 (n := i) rfl rfl Tryz.underlying22 sz23 rfl (by omega)) rfl rfl ?_
      refine o_y (Y_loadR (v := .slice (some ⟨rb, ro, none⟩) row.length rc) (i := i) rfl one23 hls.ro (by omega) hrv) rfl rfl ?_
      refine o_y (Y_mv) rfl rfl ?_
      refine o_y (Y_ia1 (n := q) rfl rfl Tryz.underlying23 sz3 rfl (by omega)) rfl rfl ?_
      refine o_y (Y_loadR (v := iv z) (i := q) rfl one3 hrs.ro (by omega) hzv) rfl rfl ?_
      refine o_y (Y_quow rfl rfl (by decide)) rfl rfl ?_
      refine o_c (En_call (fun _ => rfl) Tryz.func18 rfl (by kernel_rfl) rfl) (fun w hH => l11within_d (by decide)) (fun _ _ h => by obtain ⟨rfl, rfl⟩ := h; exact kp_) rfl rfl ?_
      rintro _ _ ⟨rfl, rfl⟩
      refine o_c (En_call (fun _ => rfl) Tryz.func18 rfl (by kernel_rfl) rfl) (fun w hH => l11within_d (by decide)) (fun _ _ h => by obtain ⟨rfl, rfl⟩ := h; exact kp_) rfl rfl ?_
      rintro _ _ ⟨rfl, rfl⟩
      refine o_c (En_call (fun _ => rfl) Tryz.func18 rfl (by kernel_rfl) rfl) (fun w hH => l11within_d (by decide)) (fun _ _ h => by obtain ⟨rfl, rfl⟩ := h; exact kp_) rfl rfl ?_
      rintro _ _ ⟨rfl, rfl⟩
      refine o_y (Y_eql rfl rfl) rfl rfl ?_
      refine o_y (Y_build (cs := [_, _, _]) (by repeat (first | exact Gp.nil | apply Gp.const | apply Gp.tmp gt_)) (bld77 _ _ (by first | rfl | (simp; rfl)))) rfl rfl ?_
      refine o_y (Y_iaA (n := q) rfl rfl Tryz.underlying79 sz77 rfl (by omega)) rfl rfl ?_
      refine o_s (S_storeN (cs' := acells (al.set q ⟨z % 3, IntKind.i64.wrap (z.tdiv 3) % 11, decide (IntKind.i64.wrap (z.tdiv 33) % 3 = 0)⟩)) rfl rfl sz77 (by rfl) (by rfl) up_ (aall ⟨z % 3, IntKind.i64.wrap (z.tdiv 3) % 11, decide (IntKind.i64.wrap (z.tdiv 33) % 3 = 0)⟩ (by omega)) (ble_a (by omega))) kp_ rfl ?_
      refine o_nil ?_
      refine q_bn ?_
      refine q_then ?_
      refine c_reg ?_
      refine s_y (Y_mv) rfl rfl ?_
      refine s_y ad_ rfl rfl ?_
      refine s_y (Y_as) rfl rfl ?_
      refine s_nil ?_
      refine hK2 (m2 - 1) (q + 1, al.set q ⟨z % 3, IntKind.i64.wrap (z.tdiv 3) % 11, decide (IntKind.i64.wrap (z.tdiv 33) % 3 = 0)⟩) _ _ (by omega) ⟨by simp only; omega, by simp only; rw [List.length_set]; exact hal⟩ ⟨rfl, trivial⟩ rfl (fun w h => h)
    · skip
      try simp only [nrm_] at hc8
      refine c_exit ?_
      repeat with_reducible refine q_te ?_
      refine q_exit ?_
      refine q_then ?_
      refine c_seq ?_
      have hac : (acells al).length = 12 := by rw [acells_len, hal]
      refine c_reg ?_
      refine s_y (ya_ many34) rfl rfl ?_
      refine s_y (Y_loadAll rfl many79 mm_ hac) rfl rfl ?_
      refine s_c (En_call (fun _ => rfl) Tryz.func49 rfl (by kernel_rfl) rfl) (fun w hH => rstep_d (how.wl hd.vw.sz hH (fun x hx => by repeat (first | exact hx | exact List.mem_append_left _ hx | exact List.mem_append_right _ hx | apply List.Mem.tail | apply List.mem_append_right))) hd.vw (by have := hd.fr; simp only; omega) hal) rfl rfl ?_
      rintro _ _ ⟨cb1, cc1, eb1, ec1, ib1, ic1, rfl, rfl, m1, m2, m3⟩
      have hd1 := hd.step al
      obtain ⟨d1, hd1e⟩ : ∃ z, stepM d al = z := ⟨_, rfl⟩
      rw [hd1e] at hd1 ⊢
      refine s_s (S_storeA (vs := wL d1 ⟨cb1, 0, cc1, eb1, 0, ec1, ib1, 0, ic1⟩) rfl rfl sz34 (by rfl) (by rfl) up_ (by rfl)) rfl ?_
      refine s_nil ?_
      refine q_then ?_
      refine c_reg ?_
      refine s_y (Y_mv) rfl rfl ?_
      refine s_y (ya_ many34) rfl rfl ?_
      refine s_n (N_bsA gt_ Tryz.underlying26 inf34 rfl rfl (by omega) (by omega)) rfl rfl (fun b72 _ => ?_)
      refine s_n (N_app rfl rfl Tryz.underlying26 inf34 rfl (by omega) se_ (by rw [wcs_len]; omega) (by omega) (src mm_) (by rfl) (one_w _ _) (by omega) (by omega)) rfl rfl (fun ⟨g73, cp73⟩ hc73 => ?_)
      refine s_y (Y_as) rfl rfl ?_
      refine s_nil ?_
      refine q_bn ?_
      refine q_then ?_
      refine c_reg ?_
      refine s_y (Y_mv) rfl rfl ?_
      refine s_y ad_ rfl rfl ?_
      refine s_y (Y_as) rfl rfl ?_
      refine s_nil ?_
      refine hK (m - 1) (i + 1, d1, ⟨cb1, 0, cc1, eb1, 0, ec1, ib1, 0, ic1⟩, ps ++ [(d1, ⟨cb1, 0, cc1, eb1, 0, ec1, ib1, 0, ic1⟩)], g73, cp73, cB cb1 cc1 d1.cells :: eB eb1 ec1 d1.ents :: iB ib1 ic1 d1.items :: B) _ _ (by omega) ⟨by simp only; omega, by simp only; rw [List.length_append, List.length_singleton]; omega, by simp only; omega, fun p hp => ?_, hd1, cb1, cc1, eb1, ec1, ib1, ic1, rfl, mm_, mm_, mm_, m1, m2, m3⟩ ⟨rfl, rfl, trivial⟩ rfl (fun w h => ?_)
      · rcases List.mem_append.1 hp with k | k
        · exact ⟨(hps p k).1, (hps p k).2.mono (fun x hx => List.mem_cons_of_mem _ (List.mem_cons_of_mem _ (List.mem_cons_of_mem _ hx)))⟩
        · obtain rfl := List.mem_singleton.1 k
          exact ⟨hd1.more (by omega), cb1, cc1, eb1, ec1, ib1, ic1, rfl, mm_, mm_, mm_, m1, m2, m3⟩
      · simp only
        rw [← wcs_snoc ps (d1, ⟨cb1, 0, cc1, eb1, 0, ec1, ib1, 0, ic1⟩)]
        exact h.pick2 (xs := [⟨g73, 34, 11, cp73, wcs ps ++ wL d1 ⟨cb1, 0, cc1, eb1, 0, ec1, ib1, 0, ic1⟩⟩, wB b5 (wL d1 ⟨cb1, 0, cc1, eb1, 0, ec1, ib1, 0, ic1⟩), cB cb1 cc1 d1.cells, eB eb1 ec1 d1.ents, iB ib1 ic1 d1.items]) (R' := B) ss_ sl_
  · skip
    try simp only [nrm_] at hc4
    refine c_exit ?_
    repeat with_reducible refine q_te ?_
    refine q_exit ?_
    refine q_then ?_
    refine c_seq ?_
    refine c_reg ?_
    refine s_y (Y_mv) rfl rfl ?_
    refine s_y (Y_as) rfl rfl ?_
    refine s_nil ?_
    refine q_then ?_
    refine c_ret ?_
    refine QL.sub (L' := ⟨g, 34, 11, cap, wcs ps⟩ :: B) ((List.Sublist.refl _).cons _ |>.cons_cons _) ?_
    refine q_retG1 rfl gt_ (L' := _) (List.Sublist.refl _) ⟨ps, g, cap, B, by omega, ⟨hps⟩, by rw [show i + 1 = 1 + min ls.length 30 by omega], by omega, rfl⟩
end
end Go.Proofs.YtcogbkkdccohfaaGreat
namespace Go.Ad
open Go.RowKit Go.Maps Go.Proofs.YtcogbkkdccohfaaGreat
theorem slAt_lt {b o cap l k : Nat} (h : l < cap) : slAt (some ⟨b, o, none⟩) cap l k = some ⟨b, o + l * k, none⟩ := by
  unfold slAt
  rw [if_neg (by omega)]
  show some (Addr.add ⟨b, o, none⟩ (l * k)) = _
  rw [Addr.add_mid]
theorem Y_slM {P : Program} {W : World} {M : List Nat} {L : List Bk} {ρ : Operand → Value} {x lo hi : Operand} {ty : TypeId} {b o n cap l h m : Nat} {ik jk : IntKind} {z y' : Int} {e u : TypeId} (hx : ρ x = .slice (some ⟨b, o, none⟩) n cap) (hh : ρ lo = .int ik z) (hh2 : ρ hi = .int jk y') (hu : P.underlying u = some (.slice e)) (hs : (P.info? e).map (·.size) = some 1) (hz : z = (l : Int)) (hy : y' = (h : Int)) (hm : l + m = h) (h0 : 0 < m) (hc : h ≤ cap) :
    Y P W M L ρ (.slice u x (some lo) (some hi) none) ty (.slice (some ⟨b, o + l, none⟩) m (cap - l)) := by
  have := Y_slLH (P := P) (W := W) (M := M) (L := L) (ty := ty) hx hh hh2 hu hs hz hy (by omega) hc
  rw [slAt_lt (by omega), Nat.mul_one, show h - l = m by omega] at this
  exact this
theorem byte_at {bs : List UInt8} {i : Nat} (h : i < bs.length) : (bs.map bv)[i]? = some (.int .u8 (byteAt bs i)) := byte_get h
def entL (bs : List UInt8) (i : Nat) : List Ent := (List.range i).map fun i => entAt bs (406 + i * 11)
def itmL (bs : List UInt8) (i : Nat) : List Itm := (List.range i).map fun i => itmAt bs (758 + i * 4)
theorem entL_succ (bs : List UInt8) (i : Nat) : entL bs (i + 1) = entL bs i ++ [entAt bs (406 + i * 11)] := by unfold entL; rw [List.range_succ, List.map_append]; rfl
theorem itmL_succ (bs : List UInt8) (i : Nat) : itmL bs (i + 1) = itmL bs i ++ [itmAt bs (758 + i * 4)] := by unfold itmL; rw [List.range_succ, List.map_append]; rfl
theorem entL_len (bs : List UInt8) (i : Nat) : (entL bs i).length = i := by unfold entL; simp
theorem itmL_len (bs : List UInt8) (i : Nat) : (itmL bs i).length = i := by unfold itmL; simp
end Go.Ad
namespace Go.Proofs.YtcogbkkdccohfaaGreat
open Go.RowKit Go.Ad Go.Maps
set_option linter.unusedVariables false
set_option linter.unusedSimpArgs false
section
variable {W : World}
set_option maxRecDepth 100000 in
theorem rget_d {bb o n c k m : Nat} {bs : List UInt8} (hs : SlB W bb o n c 1 (bs.map bv)) (hm : 0 < m ∧ m ≤ 8) (hk : k + m ≤ n) : Does Tryz.prog 61 [.slice (some ⟨bb, o, none⟩) n c, iv k, iv m] W [] (fun z L => z = .int .u64 (numM ((bs.drop k).take m) : Nat) ∧ L = []) := by
  have hcap := hs.cap
  have hbig := hs.big
  simp only [maxLen] at hbig
  have hbl : bs.length = n := by have := hs.len; simpa using this
  have hll : ((bs.drop k).take m).length = m := by rw [List.length_take, List.length_drop]; omega
  refine enter Tryz.func61 rfl rfl rfl (Has.start _) ?_
  refine c_seq ?_
  refine c_reg ?_
  refine s_y (Y_asC) rfl rfl ?_
  refine s_nil ?_
  refine q_then ?_
  refine c_seq ?_
  refine c_reg ?_
  refine s_y (Y_asC) rfl rfl ?_
  refine s_nil ?_
  refine q_then ?_
  refine c_seq ?_
  refine c_seq ?_
  refine c_reg ?_
  refine s_y (Y_asC) rfl rfl ?_
  refine s_nil ?_
  refine q_then ?_
  refine c_block ?_
  refine c_loop [7, 8, 9, 10, 11, 12, 13, 14, 15, 16, 17, 18, 19, 20, 21, 22, 23] (fun q i => i + q = m) (fun i => [(8, iv i), (7, .int .u64 (numM (((bs.drop k).take m).take i) : Nat))]) (fun _ => []) (m) (0) (by omega) (by repeat (first | exact trivial | refine ⟨rfl, ?_⟩)) (fun _ h => h.sub sl_) (fun _ => rfl) ?_
  rintro q i j hi K hK
  refine c_seq ?_
  refine c_seq ?_
  refine c_reg ?_
  refine s_y (Y_mv) rfl rfl ?_
  refine s_y (Y_mv) rfl rfl ?_
  refine s_y (Y_lss rfl rfl) rfl rfl ?_
  refine s_nil ?_
  refine q_then ?_
  first | refine c_cond' rfl (fun hc3 => ?_) (fun hc3 => ?_) | refine c_cond rfl (fun hc3 => ?_) (fun hc3 => ?_)
  · skip
    try simp only [nrm_] at hc3
    refine c_skip ?_
    refine q_then ?_
    refine c_seq ?_
    refine c_block ?_
    obtain ⟨x, hx2⟩ := take_lt (show i < ((bs.drop k).take m).length by omega)
    have hx3 : bs[k + i]? = some x := by rw [List.getElem?_take_of_lt (by omega), List.getElem?_drop] at hx2; exact hx2
    have hnl := numM_lt (((bs.drop k).take m).take i)
    have hil : (((bs.drop k).take m).take i).length = i := by rw [List.length_take]; omega
    rw [hil] at hnl
    have hp : 256 ^ i ≤ 256 ^ 7 := Nat.pow_le_pow_right (by omega) (by omega)
    have hxl := x.toNat_lt
    refine c_reg ?_
    refine s_y (Y_mv) rfl rfl ?_
    refine s_y (Y_shl rfl rfl (by decide)) rfl rfl ?_
    refine s_y (Y_mv) rfl rfl ?_
    refine s_y (Y_mv) rfl rfl ?_
    refine s_y (Y_mv) rfl rfl ?_
    refine s_y ad_ rfl rfl ?_
    refine s_y (Y_ia1 (n := k + i) rfl rfl Tryz.underlying24 sz5 (by omega) (by omega)) rfl rfl ?_
    refine s_y (Y_loadR (v := bv x) (i := k + i) rfl one5 hs.ro (by omega) (by rw [List.getElem?_map, hx3]; rfl)) rfl rfl ?_
    refine s_y ((by first | exact Y_conv rfl Tryz.underlying5 Tryz.underlying96 (by first | exact i64_u8 _ | exact u64_u8 _ | exact i64_id (by omega) | exact u64_id (by omega) | exact u8_id (by omega) | exact u32_id (by omega)) | exact Y_convw rfl Tryz.underlying5 Tryz.underlying96)) rfl rfl ?_
    refine s_y ((Y_bits rfl rfl rfl (by simp)).num (show _ = ((numM (((bs.drop k).take m).take (i + 1)) : Nat) : Int) by rw [num_step hx2]; exact shl_or8 _ _ (by omega) (by omega))) rfl rfl ?_
    refine s_y (Y_as) rfl rfl ?_
    refine s_nil ?_
    refine q_bn ?_
    refine q_then ?_
    refine c_reg ?_
    refine s_y (Y_mv) rfl rfl ?_
    refine s_y ad_ rfl rfl ?_
    refine s_y (Y_as) rfl rfl ?_
    refine s_nil ?_
    refine hK (q - 1) (i + 1) _ _ (by omega) (by omega) ⟨rfl, rfl, trivial⟩ rfl (fun _ h => h)
  · skip
    try simp only [nrm_] at hc3
    refine c_exit ?_
    repeat with_reducible refine q_te ?_
    refine q_exit ?_
    refine q_then ?_
    refine c_seq ?_
    obtain rfl : i = m := by omega
    rw [List.take_of_length_le (Nat.le_of_eq hll)]
    refine c_reg ?_
    refine s_y (Y_mv) rfl rfl ?_
    refine s_y (Y_as) rfl rfl ?_
    refine s_nil ?_
    refine q_then ?_
    refine c_ret ?_
    refine q_retG1 rfl gt_ (L' := _) sl_ (⟨rfl, rfl⟩)
set_option maxRecDepth 100000 in
set_option maxHeartbeats 3200000 in
theorem rdec_d {bb o n c : Nat} {bs : List UInt8} (hs : SlB W bb o n c 1 (bs.map bv)) (hn : n ≤ 100000000) : Does Tryz.prog 20 [.slice (some ⟨bb, o, none⟩) n c] W [] (DecP bs) := by
  obtain rfl : n = bs.length := by have := hs.len; simpa using this.symm
  have hcap := hs.cap
  have hbig := hs.big
  simp only [maxLen] at hbig
  refine enter Tryz.func20 rfl rfl rfl (Has.start _) ?_
  refine c_seq ?_
  refine c_reg ?_
  refine s_n (N_alloc (z := .agg #[.int .i64 0, .int .i64 0, .int .i64 0, .int .i64 0, .slice none 0 0, .slice none 0 0, .slice none 0 0, .int .i64 0, .int .i64 0, .int .i64 0, .int .i64 0]) (cs := [.int .i64 0, .int .i64 0, .int .i64 0, .int .i64 0, .slice none 0 0, .slice none 0 0, .slice none 0 0, .int .i64 0, .int .i64 0, .int .i64 0, .int .i64 0]) zv34 rfl) rfl rfl (fun b2 _ => ?_)
  refine s_y (Y_asC) rfl rfl ?_
  refine s_nil ?_
  refine q_then ?_
  refine c_seq ?_
  refine c_seq ?_
  refine c_reg ?_
  refine s_y (Y_mv) rfl rfl ?_
  refine s_y (Y_len rfl rfl Tryz.underlying24) rfl rfl ?_
  refine s_y (Y_lss rfl rfl) rfl rfl ?_
  refine s_nil ?_
  refine q_then ?_
  first | refine c_cond' rfl (fun hc1 => ?_) (fun hc1 => ?_) | refine c_cond rfl (fun hc1 => ?_) (fun hc1 => ?_)
  · skip
    try simp only [nrm_] at hc1
    refine c_seq ?_
    refine c_reg ?_
    refine s_y (Y_build (cs := [.int .i64 0, .int .i64 0, .int .i64 0, .int .i64 0, .slice none 0 0, .slice none 0 0, .slice none 0 0, .int .i64 0, .int .i64 0, .int .i64 0, .int .i64 0]) (by repeat (first | exact Gp.nil | apply Gp.const | apply Gp.tmp gt_)) (bld34 _ _ (by kernel_rfl))) rfl rfl ?_
    refine s_s (S_storeA (vs := wz) rfl rfl sz34 (by rfl) (by rfl) up_ (by rfl)) rfl ?_
    refine s_y (Y_asC) rfl rfl ?_
    refine s_nil ?_
    refine q_then ?_
    refine c_ret ?_
    refine q_ret2c rfl rfl many34 rfl mm_ (by rfl) (L' := []) sl_ (.inl ⟨7, by decide, rfl, rfl, by rw [if_pos (by omega)]⟩)
  · skip
    try simp only [nrm_] at hc1
    refine c_skip ?_
    refine q_then ?_
    refine c_seq ?_
    refine c_seq ?_
    refine c_reg ?_
    refine s_y (Y_mv) rfl rfl ?_
    refine s_y (Y_len rfl rfl Tryz.underlying24) rfl rfl ?_
    refine s_y (Y_gtr rfl rfl) rfl rfl ?_
    refine s_nil ?_
    refine q_then ?_
    first | refine c_cond' rfl (fun hc3 => ?_) (fun hc3 => ?_) | refine c_cond rfl (fun hc3 => ?_) (fun hc3 => ?_)
    · skip
      try simp only [nrm_] at hc3
      refine c_seq ?_
      refine c_reg ?_
      refine s_y (Y_build (cs := [.int .i64 0, .int .i64 0, .int .i64 0, .int .i64 0, .slice none 0 0, .slice none 0 0, .slice none 0 0, .int .i64 0, .int .i64 0, .int .i64 0, .int .i64 0]) (by repeat (first | exact Gp.nil | apply Gp.const | apply Gp.tmp gt_)) (bld34 _ _ (by kernel_rfl))) rfl rfl ?_
      refine s_s (S_storeA (vs := wz) rfl rfl sz34 (by rfl) (by rfl) up_ (by rfl)) rfl ?_
      refine s_y (Y_asC) rfl rfl ?_
      refine s_nil ?_
      refine q_then ?_
      refine c_ret ?_
      refine q_ret2c rfl rfl many34 rfl mm_ (by rfl) (L' := []) sl_ (.inl ⟨8, by decide, rfl, rfl, by rw [if_neg (by omega), if_pos (by omega)]⟩)
    · skip
      try simp only [nrm_] at hc3
      refine c_skip ?_
      refine q_then ?_
      have hl : bs.length = 918 := by omega
      have hb8 := numM_lt ((bs.drop 8).take 4)
      rw [show ((bs.drop 8).take 4).length = 4 by rw [List.length_take, List.length_drop]; omega] at hb8
      refine c_seq ?_
      refine c_meetQ (ks := [4, 20, 21, 22, 23, 24, 25, 26, 27, 28, 29, 30, 31, 32, 33, 34]) (tr := fun y : Nat => [(4, .pointer (some ⟨y, 0, none⟩))]) (φ := fun _ => True) (G := fun y => [wB y (wcD (decM bs).seed (decM bs).frame (decM bs).floor (decM bs).state (.slice none 0 0) (.slice none 0 0) (.slice none 0 0) ⟨0, 0, 0, 0⟩), wB b2 wz]) (fun _ => rfl) ?_ ?_
      · rintro b4 j6 _
        refine q_then ?_
        refine c_seq ?_
        refine c_seq ?_
        refine c_reg ?_
        refine s_y (Y_asC) rfl rfl ?_
        refine s_nil ?_
        refine q_then ?_
        refine c_block ?_
        refine c_loop [5, 35, 36, 37, 38, 39, 40, 41, 42, 43, 44, 45, 46, 47] (fun m (i : Nat) => i + m = 4) (fun i => [(5, iv i)]) (fun i => [wB b4 (wcD (decM bs).seed (decM bs).frame (decM bs).floor (decM bs).state (.slice none 0 0) (.slice none 0 0) (.slice none 0 0) (goldD bs i)), wB b2 wz]) (4) (0) (rfl) (by repeat (first | exact trivial | refine ⟨rfl, ?_⟩)) (fun _ h => h.sub sl_) (fun _ => rfl) ?_
        rintro m i j hi K hK
        refine c_seq ?_
        refine c_seq ?_
        refine c_reg ?_
        refine s_y (Y_mv) rfl rfl ?_
        refine s_y (Y_lss rfl rfl) rfl rfl ?_
        refine s_nil ?_
        refine q_then ?_
        first | refine c_cond' rfl (fun hc7 => ?_) (fun hc7 => ?_) | refine c_cond rfl (fun hc7 => ?_) (fun hc7 => ?_)
        · skip
          try simp only [nrm_] at hc7
          refine c_skip ?_
          refine q_then ?_
          refine c_seq ?_
          refine c_block ?_
          have hb2 := numM_lt ((bs.drop (14 + 2 * i)).take 2)
          rw [show ((bs.drop (14 + 2 * i)).take 2).length = 2 by rw [List.length_take, List.length_drop]; omega] at hb2
          refine c_reg ?_
          refine s_y (Y_mv) rfl rfl ?_
          refine s_y (Y_mv) rfl rfl ?_
          refine s_y (Y_mv) rfl rfl ?_
          refine s_y mu_ rfl rfl ?_
          refine s_y ((Y_add rfl rfl (by omega)).num (show _ = ((14 + 2 * i : Nat) : Int) by omega)) rfl rfl ?_
          refine s_c (En_call (fun _ => rfl) Tryz.func61 rfl (by kernel_rfl) rfl) (fun w hH => rget_d (k := 14 + 2 * i) (m := 2) (hs.has hH) (by decide) (by omega)) rfl rfl ?_
          rintro _ _ ⟨rfl, rfl⟩
          refine s_y (Y_conv rfl Tryz.underlying96 Tryz.underlying3 (i64_id (by omega))) rfl rfl ?_
          refine s_y (Y_fa 7 rfl Tryz.underlying34 rfl sz32 rfl) rfl rfl ?_
          refine s_y (Y_iaA (n := i) rfl rfl Tryz.underlying32 sz3 rfl (by omega)) rfl rfl ?_
          refine s_s (S_st (cs' := wcD (decM bs).seed (decM bs).frame (decM bs).floor (decM bs).state (.slice none 0 0) (.slice none 0 0) (.slice none 0 0) (goldD bs (i + 1))) rfl gt_ sz3 (by rfl) up_ (wcD_gold (by omega)) (by simp only [List.length_cons, List.length_nil]; omega)) rfl ?_
          refine s_nil ?_
          refine q_bn ?_
          refine q_then ?_
          refine c_reg ?_
          refine s_y (Y_mv) rfl rfl ?_
          refine s_y ad_ rfl rfl ?_
          refine s_y (Y_as) rfl rfl ?_
          refine s_nil ?_
          refine hK (m - 1) (i + 1) _ _ (by omega) (by omega) ⟨rfl, trivial⟩ rfl (fun _ h => h)
        · skip
          try simp only [nrm_] at hc7
          refine c_exit ?_
          repeat with_reducible refine q_te ?_
          refine q_exit ?_
          refine q_then ?_
          refine c_seq ?_
          obtain rfl : i = 4 := by omega
          refine c_reg ?_
          refine s_y (Y_asC) rfl rfl ?_
          refine s_nil ?_
          refine q_then ?_
          refine c_seq ?_
          refine c_reg ?_
          refine s_n (N_bs0 rfl Tryz.underlying24 sz5) rfl rfl (fun b48 _ => ?_)
          refine s_y (Y_mv) rfl rfl ?_
          refine s_y (Y_mv) rfl rfl ?_
          refine s_y (Y_mv) rfl rfl ?_
          refine s_y ad_ rfl rfl ?_
          refine s_y (Y_slM (l := 22) (h := 406) (m := 384) rfl rfl rfl Tryz.underlying24 sz5 rfl rfl rfl (by decide) (by omega)) rfl rfl ?_
          refine s_n (N_appE (m := 384) (news := ((bs.drop 22).take 384).map bv) rfl rfl Tryz.underlying24 inf5 rfl (by omega) se_ (hs.sub (k := 22) (m := 384) (by omega)).src (hs.sub (k := 22) (m := 384) (by omega)).len (bvs_one _) (by omega) (by omega)) rfl rfl (fun ⟨g54, cp54⟩ hc54 => ?_)
          refine s_y (Y_fa 4 rfl Tryz.underlying34 rfl sz24 rfl) rfl rfl ?_
          refine s_s (S_st (cs' := wcD (decM bs).seed (decM bs).frame (decM bs).floor (decM bs).state (.slice (some ⟨g54, 0, none⟩) 384 cp54) (.slice none 0 0) (.slice none 0 0) (goldD bs 4)) rfl gt_ sz24 (by rfl) up_ (by rfl) (by simp only [List.length_cons, List.length_nil]; omega)) rfl ?_
          refine s_nil ?_
          refine q_then ?_
          refine c_seq ?_
          refine c_reg ?_
          refine s_y (Y_mv) rfl rfl ?_
          refine s_y ad_ rfl rfl ?_
          refine s_y (Y_as) rfl rfl ?_
          refine s_nil ?_
          refine q_then ?_
          refine c_seq ?_
          refine c_seq ?_
          refine c_reg ?_
          refine s_y (Y_asC) rfl rfl ?_
          refine s_nil ?_
          refine q_then ?_
          refine c_block ?_
          refine c_loop [7, 8, 58, 59, 60, 61, 62, 63, 64, 65, 66, 67, 68, 69, 70, 71, 72, 73, 74, 75, 76, 77, 78, 79, 80, 81, 82, 83, 84, 85, 86, 87, 88, 89, 90, 91, 92, 93, 94, 95, 96, 97, 98, 99, 100, 101, 102, 103, 104, 105, 106, 107, 108, 109, 110, 111, 112, 113, 114, 115, 116, 117, 118, 119, 120, 121, 122] (fun m (y : Nat × Value × List Bk) => y.1 + m = 32 ∧ Row 93 11 y.2.1 (entL bs y.1).length (ecells (entL bs y.1)) y.2.2) (fun y => [(7, iv y.1)]) (fun y => wB b4 (wcD (decM bs).seed (decM bs).frame (decM bs).floor (decM bs).state (.slice (some ⟨g54, 0, none⟩) 384 cp54) y.2.1 (.slice none 0 0) (goldD bs 4)) :: cB g54 cp54 ((bs.drop 22).take 384) :: wB b2 wz :: y.2.2) (32) ((0, .slice none 0 0, [])) (⟨rfl, .nil⟩) (by repeat (first | exact trivial | refine ⟨rfl, ?_⟩)) (fun w h => h.pick ss_) (fun _ => rfl) ?_
          rintro m ⟨i, v, B⟩ j ⟨hi, hB⟩ K hK
          simp only at hi hB ⊢
          have hel := entL_len bs i
          rw [hel] at hB
          refine c_seq ?_
          refine c_seq ?_
          refine c_reg ?_
          refine s_y (Y_mv) rfl rfl ?_
          refine s_y (Y_lss rfl rfl) rfl rfl ?_
          refine s_nil ?_
          refine q_then ?_
          first | refine c_cond' rfl (fun hc14 => ?_) (fun hc14 => ?_) | refine c_cond rfl (fun hc14 => ?_) (fun hc14 => ?_)
          · skip
            try simp only [nrm_] at hc14
            refine c_skip ?_
            refine q_then ?_
            refine c_seq ?_
            refine c_block ?_
            refine c_seq ?_
            refine c_reg ?_
            refine s_y (Y_mv) rfl rfl ?_
            refine s_y (Y_mv) rfl rfl ?_
            refine s_y (Y_mv) rfl rfl ?_
            refine s_y mu_ rfl rfl ?_
            refine s_y ad_ rfl rfl ?_
            refine s_y (Y_mv) rfl rfl ?_
            refine s_y (Y_mv) rfl rfl ?_
            refine s_y mu_ rfl rfl ?_
            refine s_y ad_ rfl rfl ?_
            refine s_y ad_ rfl rfl ?_
            refine s_y (Y_slM (l := 406 + i * 11) (h := 406 + i * 11 + 11) (m := 11) rfl rfl rfl Tryz.underlying24 sz5 (by omega) (by omega) rfl (by decide) (by omega)) rfl rfl ?_
            refine s_y (Y_as) rfl rfl ?_
            refine s_nil ?_
            refine q_then ?_
            obtain ⟨⟨k0, k1, k2, k3, k4, k5, k6, k7, k8, k9, k10⟩, he⟩ : ∃ z, entAt bs (406 + i * 11) = z := ⟨_, rfl⟩
            have hb0 : byteAt bs (406 + i * 11 + 0) = k0 := congrArg Ent.kind he
            have r0 := byteAt_rng bs (406 + i * 11 + 0)
            rw [hb0] at r0
            have hb1 : byteAt bs (406 + i * 11 + 1) = k1 := congrArg Ent.gen he
            have r1 := byteAt_rng bs (406 + i * 11 + 1)
            rw [hb1] at r1
            have hb2 : byteAt bs (406 + i * 11 + 2) = k2 := congrArg Ent.seat he
            have r2 := byteAt_rng bs (406 + i * 11 + 2)
            rw [hb2] at r2
            have hb3 : byteAt bs (406 + i * 11 + 3) = k3 := congrArg Ent.x he
            have r3 := byteAt_rng bs (406 + i * 11 + 3)
            rw [hb3] at r3
            have hb4 : byteAt bs (406 + i * 11 + 4) = k4 := congrArg Ent.y he
            have r4 := byteAt_rng bs (406 + i * 11 + 4)
            rw [hb4] at r4
            have hb5 : byteAt bs (406 + i * 11 + 5) = k5 := congrArg Ent.hp he
            have r5 := byteAt_rng bs (406 + i * 11 + 5)
            rw [hb5] at r5
            have hb6 : byteAt bs (406 + i * 11 + 6) = k6 := congrArg Ent.max he
            have r6 := byteAt_rng bs (406 + i * 11 + 6)
            rw [hb6] at r6
            have hb7 : byteAt bs (406 + i * 11 + 7) = k7 := congrArg Ent.atk he
            have r7 := byteAt_rng bs (406 + i * 11 + 7)
            rw [hb7] at r7
            have hb8 : byteAt bs (406 + i * 11 + 8) = k8 := congrArg Ent.df he
            have r8 := byteAt_rng bs (406 + i * 11 + 8)
            rw [hb8] at r8
            have hb9 : byteAt bs (406 + i * 11 + 9) = k9 := congrArg Ent.poison he
            have r9 := byteAt_rng bs (406 + i * 11 + 9)
            rw [hb9] at r9
            have hb10 : byteAt bs (406 + i * 11 + 10) = k10 := congrArg Ent.stun he
            have r10 := byteAt_rng bs (406 + i * 11 + 10)
            rw [hb10] at r10
            refine c_rordS (L0 := [wB b4 (wcD (decM bs).seed (decM bs).frame (decM bs).floor (decM bs).state (.slice (some ⟨g54, 0, none⟩) 384 cp54) v (.slice none 0 0) (goldD bs 4))]) sl_ [50] [(0, true), (1, true), (2, true), (3, true), (4, true), (5, true), (6, true), (7, true), (8, true), (9, true), (10, true), (11, true), (12, true), (13, true), (14, true), (15, true), (16, true), (17, true), (18, true), (19, true), (20, true), (21, true), (22, true), (23, true), (24, true), (25, true), (26, true), (27, true), (28, true), (29, true), (30, true), (31, true), (32, true), (33, true), (34, true), (35, true), (36, true), (37, true), (38, true), (39, true), (40, true), (41, true), (42, true), (43, true), (44, true), (45, true), (46, true), (47, false), (48, false), (49, true), (50, false)] (by kernel_rfl) (by kernel_rfl) (by kernel_rfl) (by kernel_rfl) rfl (by intro c a d v w h; cases d <;> exact h) rfl ?_
            simp only [mkOrd, List.filterMap_cons, List.filterMap_nil, List.getElem?_toArray, List.getElem?_cons_zero, List.getElem?_cons_succ, Option.map_some]
            refine o_y (Y_fa 5 rfl Tryz.underlying34 rfl sz30 rfl) rfl rfl ?_
            refine o_y (yl_ one30) rfl rfl ?_
            refine o_y (Y_mv) rfl rfl ?_
            refine o_y (Y_ia1 (n := 0) rfl rfl Tryz.underlying24 sz5 rfl (by omega)) rfl rfl ?_
            refine o_y (Y_loadR (v := .int .u8 k0) (i := 406 + i * 11 + 0) rfl one5 hs.ro (by omega) (by rw [← hb0]; exact byte_at (by omega))) rfl rfl ?_
            refine o_y (Y_conv rfl Tryz.underlying5 Tryz.underlying3 (i64_id (by omega))) rfl rfl ?_
            refine o_y (Y_mv) rfl rfl ?_
            refine o_y (Y_ia1 (n := 1) rfl rfl Tryz.underlying24 sz5 rfl (by omega)) rfl rfl ?_
            refine o_y (Y_loadR (v := .int .u8 k1) (i := 406 + i * 11 + 1) rfl one5 hs.ro (by omega) (by rw [← hb1]; exact byte_at (by omega))) rfl rfl ?_
            refine o_y (Y_conv rfl Tryz.underlying5 Tryz.underlying3 (i64_id (by omega))) rfl rfl ?_
            refine o_y (Y_mv) rfl rfl ?_
            refine o_y (Y_ia1 (n := 2) rfl rfl Tryz.underlying24 sz5 rfl (by omega)) rfl rfl ?_
            refine o_y (Y_loadR (v := .int .u8 k2) (i := 406 + i * 11 + 2) rfl one5 hs.ro (by omega) (by rw [← hb2]; exact byte_at (by omega))) rfl rfl ?_
            refine o_y (Y_conv rfl Tryz.underlying5 Tryz.underlying3 (i64_id (by omega))) rfl rfl ?_
            refine o_y (Y_mv) rfl rfl ?_
            refine o_y (Y_ia1 (n := 3) rfl rfl Tryz.underlying24 sz5 rfl (by omega)) rfl rfl ?_
            refine o_y (Y_loadR (v := .int .u8 k3) (i := 406 + i * 11 + 3) rfl one5 hs.ro (by omega) (by rw [← hb3]; exact byte_at (by omega))) rfl rfl ?_
            refine o_y (Y_conv rfl Tryz.underlying5 Tryz.underlying3 (i64_id (by omega))) rfl rfl ?_
            refine o_y (Y_mv) rfl rfl ?_
            refine o_y (Y_ia1 (n := 4) rfl rfl Tryz.underlying24 sz5 rfl (by omega)) rfl rfl ?_
            refine o_y (Y_loadR (v := .int .u8 k4) (i := 406 + i * 11 + 4) rfl one5 hs.ro (by omega) (by rw [← hb4]; exact byte_at (by omega))) rfl rfl ?_
            refine o_y (Y_conv rfl Tryz.underlying5 Tryz.underlying3 (i64_id (by omega))) rfl rfl ?_
            refine o_y (Y_mv) rfl rfl ?_
            refine o_y (Y_ia1 (n := 5) rfl rfl Tryz.underlying24 sz5 rfl (by omega)) rfl rfl ?_
            refine o_y (Y_loadR (v := .int .u8 k5) (i := 406 + i * 11 + 5) rfl one5 hs.ro (by omega) (by rw [← hb5]; exact byte_at (by omega))) rfl rfl ?_
            refine o_y (Y_conv rfl Tryz.underlying5 Tryz.underlying3 (i64_id (by omega))) rfl rfl ?_
            refine o_y (Y_mv) rfl rfl ?_
            refine o_y (Y_ia1 (n := 6) rfl rfl Tryz.underlying24 sz5 rfl (by omega)) rfl rfl ?_
            refine o_y (Y_loadR (v := .int .u8 k6) (i := 406 + i * 11 + 6) rfl one5 hs.ro (by omega) (by rw [← hb6]; exact byte_at (by omega))) rfl rfl ?_
            refine o_y (Y_conv rfl Tryz.underlying5 Tryz.underlying3 (i64_id (by omega))) rfl rfl ?_
            refine o_y (Y_mv) rfl rfl ?_
            refine o_y (Y_ia1 (n := 7) rfl rfl Tryz.underlying24 sz5 rfl (by omega)) rfl rfl ?_
            refine o_y (Y_loadR (v := .int .u8 k7) (i := 406 + i * 11 + 7) rfl one5 hs.ro (by omega) (by rw [← hb7]; exact byte_at (by omega))) rfl rfl ?_
            refine o_y (Y_conv rfl Tryz.underlying5 Tryz.underlying3 (i64_id (by omega))) rfl rfl ?_
            refine o_y (Y_mv) rfl rfl ?_
            refine o_y (Y_ia1 (n := 8) rfl rfl Tryz.underlying24 sz5 rfl (by omega)) rfl rfl ?_
            refine o_y (Y_loadR (v := .int .u8 k8) (i := 406 + i * 11 + 8) rfl one5 hs.ro (by omega) (by rw [← hb8]; exact byte_at (by omega))) rfl rfl ?_
            refine o_y (Y_conv rfl Tryz.underlying5 Tryz.underlying3 (i64_id (by omega))) rfl rfl ?_
            refine o_y (Y_mv) rfl rfl ?_
            refine o_y (Y_ia1 (n := 9) rfl rfl Tryz.underlying24 sz5 rfl (by omega)) rfl rfl ?_
            refine o_y (Y_loadR (v := .int .u8 k9) (i := 406 + i * 11 + 9) rfl one5 hs.ro (by omega) (by rw [← hb9]; exact byte_at (by omega))) rfl rfl ?_
            refine o_y (Y_conv rfl Tryz.underlying5 Tryz.underlying3 (i64_id (by omega))) rfl rfl ?_
            refine o_y (Y_mv) rfl rfl ?_
            refine o_y (Y_ia1 (n := 10) rfl rfl Tryz.underlying24 sz5 rfl (by omega)) rfl rfl ?_
            refine o_y (Y_loadR (v := .int .u8 k10) (i := 406 + i * 11 + 10) rfl one5 hs.ro (by omega) (by rw [← hb10]; exact byte_at (by omega))) rfl rfl ?_
            refine o_y (Y_conv rfl Tryz.underlying5 Tryz.underlying3 (i64_id (by omega))) rfl rfl ?_
            refine o_y (Y_build (cs := (⟨k0, k1, k2, k3, k4, k5, k6, k7, k8, k9, k10⟩ : Ent).cells) (by repeat (first | exact Gp.nil | apply Gp.const | apply Gp.tmp gt_)) (bld93 _ _ (by kernel_rfl))) rfl rfl ?_
            refine o_n (N_bsA gt_ Tryz.underlying30 inf93 rfl rfl (by omega) (by omega)) (fun _ => kp_) rfl rfl (fun b120 _ => ?_)
            refine o_n (N_appR (bytes := 88) hB (List.perm_append_comm (l₁ := B) (l₂ := [_, _, _, _])) rfl rfl Tryz.underlying30 inf93 rfl (by omega) (src mm_) (by rfl) (one_e1 ⟨k0, k1, k2, k3, k4, k5, k6, k7, k8, k9, k10⟩) (by omega) (by omega) (by omega)) (fun _ => kp_) rfl rfl (fun ⟨g121, cp121⟩ hc121 => ?_)
            refine o_y (Y_fa 5 rfl Tryz.underlying34 rfl sz30 rfl) rfl rfl ?_
            refine o_s (S_st (cs' := wcD (decM bs).seed (decM bs).frame (decM bs).floor (decM bs).state (.slice (some ⟨g54, 0, none⟩) 384 cp54) (.slice (some ⟨g121, 0, none⟩) (i + 1) cp121) (.slice none 0 0) (goldD bs 4)) rfl gt_ sz30 (by rfl) up_ (by rfl) (by simp only [List.length_cons, List.length_nil]; omega)) kp_ rfl ?_
            refine o_nil ?_
            refine q_bn ?_
            refine q_then ?_
            refine c_reg ?_
            refine s_y (Y_mv) rfl rfl ?_
            refine s_y ad_ rfl rfl ?_
            refine s_y (Y_as) rfl rfl ?_
            refine s_nil ?_
            refine hK (m - 1) (i + 1, .slice (some ⟨g121, 0, none⟩) (i + 1) cp121, [eB g121 cp121 (entL bs (i + 1))]) _ _ (by omega) ⟨by simp only; omega, by simp only; rw [entL_len]; exact .some hc121 (by rw [ecells_len, entL_len])⟩ ⟨rfl, trivial⟩ rfl (fun w h => ?_)
            simp only
            rw [eB, entL_succ, ← ecells_snoc, he]
            exact h.pick ss_
          · skip
            try simp only [nrm_] at hc14
            refine c_exit ?_
            repeat with_reducible refine q_te ?_
            refine q_exit ?_
            refine q_then ?_
            refine c_seq ?_
            obtain rfl : i = 32 := by omega
            obtain ⟨g9, cp9, rfl, rfl, hc9⟩ := hB.some_of (by decide)
            refine c_reg ?_
            refine s_y (Y_mv) rfl rfl ?_
            refine s_y ad_ rfl rfl ?_
            refine s_y (Y_as) rfl rfl ?_
            refine s_nil ?_
            refine q_then ?_
            refine c_seq ?_
            refine c_seq ?_
            refine c_reg ?_
            refine s_y (Y_asC) rfl rfl ?_
            refine s_nil ?_
            refine q_then ?_
            refine c_block ?_
            refine c_loop [9, 10, 125, 126, 127, 128, 129, 130, 131, 132, 133, 134, 135, 136, 137, 138, 139, 140, 141, 142, 143, 144, 145, 146, 147, 148, 149, 150, 151, 152, 153, 154, 155, 156, 157, 158, 159, 160, 161] (fun m (y : Nat × Value × List Bk) => y.1 + m = 40 ∧ Row 98 4 y.2.1 (itmL bs y.1).length (icells (itmL bs y.1)) y.2.2) (fun y => [(9, iv y.1)]) (fun y => wB b4 (wcD (decM bs).seed (decM bs).frame (decM bs).floor (decM bs).state (.slice (some ⟨g54, 0, none⟩) 384 cp54) (.slice (some ⟨g9, 0, none⟩) 32 cp9) y.2.1 (goldD bs 4)) :: cB g54 cp54 ((bs.drop 22).take 384) :: eB g9 cp9 (entL bs 32) :: wB b2 wz :: y.2.2) (40) ((0, .slice none 0 0, [])) (⟨rfl, .nil⟩) (by repeat (first | exact trivial | refine ⟨rfl, ?_⟩)) (fun w h => h.pick ss_) (fun _ => rfl) ?_
            rintro m ⟨i, v, B⟩ j9 ⟨hi, hB⟩ K hK
            simp only at hi hB ⊢
            have hil := itmL_len bs i
            rw [hil] at hB
            refine c_seq ?_
            refine c_seq ?_
            refine c_reg ?_
            refine s_y (Y_mv) rfl rfl ?_
            refine s_y (Y_lss rfl rfl) rfl rfl ?_
            refine s_nil ?_
            refine q_then ?_
            first | refine c_cond' rfl (fun hc20 => ?_) (fun hc20 => ?_) | refine c_cond rfl (fun hc20 => ?_) (fun hc20 => ?_)
            · skip
              try simp only [nrm_] at hc20
              refine c_skip ?_
              refine q_then ?_
              refine c_seq ?_
              refine c_block ?_
              refine c_seq ?_
              refine c_reg ?_
              refine s_y (Y_mv) rfl rfl ?_
              refine s_y (Y_mv) rfl rfl ?_
              refine s_y (Y_mv) rfl rfl ?_
              refine s_y mu_ rfl rfl ?_
              refine s_y ad_ rfl rfl ?_
              refine s_y (Y_mv) rfl rfl ?_
              refine s_y (Y_mv) rfl rfl ?_
              refine s_y mu_ rfl rfl ?_
              refine s_y ad_ rfl rfl ?_
              refine s_y ad_ rfl rfl ?_
              refine s_y (Y_slM (l := 758 + i * 4) (h := 758 + i * 4 + 4) (m := 4) rfl rfl rfl Tryz.underlying24 sz5 (by omega) (by omega) rfl (by decide) (by omega)) rfl rfl ?_
              refine s_y (Y_as) rfl rfl ?_
              refine s_nil ?_
              refine q_then ?_
              obtain ⟨⟨k0, k1, k2, k3⟩, he⟩ : ∃ z, itmAt bs (758 + i * 4) = z := ⟨_, rfl⟩
              have hb0 : byteAt bs (758 + i * 4 + 0) = k0 := congrArg Itm.kind he
              have r0 := byteAt_rng bs (758 + i * 4 + 0)
              rw [hb0] at r0
              have hb1 : byteAt bs (758 + i * 4 + 1) = k1 := congrArg Itm.whr he
              have r1 := byteAt_rng bs (758 + i * 4 + 1)
              rw [hb1] at r1
              have hb2 : byteAt bs (758 + i * 4 + 2) = k2 := congrArg Itm.a he
              have r2 := byteAt_rng bs (758 + i * 4 + 2)
              rw [hb2] at r2
              have hb3 : byteAt bs (758 + i * 4 + 3) = k3 := congrArg Itm.b he
              have r3 := byteAt_rng bs (758 + i * 4 + 3)
              rw [hb3] at r3
              refine c_rordS (L0 := [wB b4 (wcD (decM bs).seed (decM bs).frame (decM bs).floor (decM bs).state (.slice (some ⟨g54, 0, none⟩) 384 cp54) (.slice (some ⟨g9, 0, none⟩) 32 cp9) v (goldD bs 4))]) sl_ [22] [(0, true), (1, true), (2, true), (3, true), (4, true), (5, true), (6, true), (7, true), (8, true), (9, true), (10, true), (11, true), (12, true), (13, true), (14, true), (15, true), (16, true), (17, true), (18, true), (19, false), (20, false), (21, true), (22, false)] (by kernel_rfl) (by kernel_rfl) (by kernel_rfl) (by kernel_rfl) rfl (by intro c a d v w h; cases d <;> exact h) rfl ?_
              simp only [mkOrd, List.filterMap_cons, List.filterMap_nil, List.getElem?_toArray, List.getElem?_cons_zero, List.getElem?_cons_succ, Option.map_some]
              refine o_y (Y_fa 6 rfl Tryz.underlying34 rfl sz31 rfl) rfl rfl ?_
              refine o_y (yl_ one31) rfl rfl ?_
              refine o_y (Y_mv) rfl rfl ?_
              refine o_y (Y_ia1 (n := 0) rfl rfl Tryz.underlying24 sz5 rfl (by omega)) rfl rfl ?_
              refine o_y (Y_loadR (v := .int .u8 k0) (i := 758 + i * 4 + 0) rfl one5 hs.ro (by omega) (by rw [← hb0]; exact byte_at (by omega))) rfl rfl ?_
              refine o_y (Y_conv rfl Tryz.underlying5 Tryz.underlying3 (i64_id (by omega))) rfl rfl ?_
              refine o_y (Y_mv) rfl rfl ?_
              refine o_y (Y_ia1 (n := 1) rfl rfl Tryz.underlying24 sz5 rfl (by omega)) rfl rfl ?_
              refine o_y (Y_loadR (v := .int .u8 k1) (i := 758 + i * 4 + 1) rfl one5 hs.ro (by omega) (by rw [← hb1]; exact byte_at (by omega))) rfl rfl ?_
              refine o_y (Y_conv rfl Tryz.underlying5 Tryz.underlying3 (i64_id (by omega))) rfl rfl ?_
              refine o_y (Y_mv) rfl rfl ?_
              refine o_y (Y_ia1 (n := 2) rfl rfl Tryz.underlying24 sz5 rfl (by omega)) rfl rfl ?_
              refine o_y (Y_loadR (v := .int .u8 k2) (i := 758 + i * 4 + 2) rfl one5 hs.ro (by omega) (by rw [← hb2]; exact byte_at (by omega))) rfl rfl ?_
              refine o_y (Y_conv rfl Tryz.underlying5 Tryz.underlying3 (i64_id (by omega))) rfl rfl ?_
              refine o_y (Y_mv) rfl rfl ?_
              refine o_y (Y_ia1 (n := 3) rfl rfl Tryz.underlying24 sz5 rfl (by omega)) rfl rfl ?_
              refine o_y (Y_loadR (v := .int .u8 k3) (i := 758 + i * 4 + 3) rfl one5 hs.ro (by omega) (by rw [← hb3]; exact byte_at (by omega))) rfl rfl ?_
              refine o_y (Y_conv rfl Tryz.underlying5 Tryz.underlying3 (i64_id (by omega))) rfl rfl ?_
              refine o_y (Y_build (cs := (⟨k0, k1, k2, k3⟩ : Itm).cells) (by repeat (first | exact Gp.nil | apply Gp.const | apply Gp.tmp gt_)) (bld98 _ _ (by kernel_rfl))) rfl rfl ?_
              refine o_n (N_bsA gt_ Tryz.underlying31 inf98 rfl rfl (by omega) (by omega)) (fun _ => kp_) rfl rfl (fun b159 _ => ?_)
              refine o_n (N_appR (bytes := 32) hB (List.perm_append_comm (l₁ := B) (l₂ := [_, _, _, _, _])) rfl rfl Tryz.underlying31 inf98 rfl (by omega) (src mm_) (by rfl) (one_i1 ⟨k0, k1, k2, k3⟩) (by omega) (by omega) (by omega)) (fun _ => kp_) rfl rfl (fun ⟨g160, cp160⟩ hc160 => ?_)
              refine o_y (Y_fa 6 rfl Tryz.underlying34 rfl sz31 rfl) rfl rfl ?_
              refine o_s (S_st (cs' := wcD (decM bs).seed (decM bs).frame (decM bs).floor (decM bs).state (.slice (some ⟨g54, 0, none⟩) 384 cp54) (.slice (some ⟨g9, 0, none⟩) 32 cp9) (.slice (some ⟨g160, 0, none⟩) (i + 1) cp160) (goldD bs 4)) rfl gt_ sz31 (by rfl) up_ (by rfl) (by simp only [List.length_cons, List.length_nil]; omega)) kp_ rfl ?_
              refine o_nil ?_
              refine q_bn ?_
              refine q_then ?_
              refine c_reg ?_
              refine s_y (Y_mv) rfl rfl ?_
              refine s_y ad_ rfl rfl ?_
              refine s_y (Y_as) rfl rfl ?_
              refine s_nil ?_
              refine hK (m - 1) (i + 1, .slice (some ⟨g160, 0, none⟩) (i + 1) cp160, [iB g160 cp160 (itmL bs (i + 1))]) _ _ (by omega) ⟨by simp only; omega, by simp only; rw [itmL_len]; exact .some hc160 (by rw [icells_len, itmL_len])⟩ ⟨rfl, trivial⟩ rfl (fun w h => ?_)
              simp only
              rw [iB, itmL_succ, ← icells_snoc, he]
              exact h.pick ss_
            · skip
              try simp only [nrm_] at hc20
              refine c_exit ?_
              repeat with_reducible refine q_te ?_
              refine q_exit ?_
              refine q_then ?_
              refine c_seq ?_
              obtain rfl : i = 40 := by omega
              obtain ⟨g8, cp8, rfl, rfl, hc8⟩ := hB.some_of (by decide)
              have l1 : (decM bs).cells.length = 384 := by show ((bs.drop 22).take 384).length = 384; rw [List.length_take, List.length_drop]; omega
              have l2 : (decM bs).ents.length = 32 := entL_len bs 32
              have l3 : (decM bs).items.length = 40 := itmL_len bs 40
              have hwv : Value.agg (wcD (decM bs).seed (decM bs).frame (decM bs).floor (decM bs).state (.slice (some ⟨g54, 0, none⟩) 384 cp54) (.slice (some ⟨g9, 0, none⟩) 32 cp9) (.slice (some ⟨g8, 0, none⟩) 40 cp8) (goldD bs 4)).toArray = .agg (wv (decM bs) ⟨g54, 0, cp54, g9, 0, cp9, g8, 0, cp8⟩).toArray := by unfold wv; rw [l1, l2, l3]; rfl
              refine QL.conv (L' := [wB b4 (wcD (decM bs).seed (decM bs).frame (decM bs).floor (decM bs).state (.slice (some ⟨g54, 0, none⟩) 384 cp54) (.slice (some ⟨g9, 0, none⟩) 32 cp9) (.slice (some ⟨g8, 0, none⟩) 40 cp8) (goldD bs 4)), cB g54 cp54 (decM bs).cells, eB g9 cp9 (decM bs).ents, iB g8 cp8 (decM bs).items, wB b2 wz]) (fun w h => h.pick ss_) ?_
              refine c_reg ?_
              refine s_y (Y_loadN (vs := wv (decM bs) ⟨g54, 0, cp54, g9, 0, cp9, g8, 0, cp8⟩) rfl many34 mm_ (by rfl) (by intro i v h; rw [Nat.zero_add]; unfold wv at h; rw [l1, l2, l3] at h; exact h)) rfl rfl ?_
              refine s_c (En_call (fun _ => rfl) Tryz.func52 rfl (by kernel_rfl) rfl) (fun w hH => rcheck_d (d := decM bs) (s := ⟨g54, 0, cp54, g9, 0, cp9, g8, 0, cp8⟩) (wAt_of hH mm_ mm_ mm_ (by omega) (by omega) (by omega))) rfl rfl ?_
              rintro _ _ ⟨rfl, rfl⟩
              refine s_y (Y_as) rfl rfl ?_
              refine s_nil ?_
              refine q_then ?_
              refine c_seq ?_
              refine c_seq ?_
              refine c_reg ?_
              refine s_y (Y_mv) rfl rfl ?_
              refine s_y (Y_neq rfl rfl) rfl rfl ?_
              refine s_nil ?_
              refine q_then ?_
              first | refine c_cond' rfl (fun hc25 => ?_) (fun hc25 => ?_) | refine c_cond rfl (fun hc25 => ?_) (fun hc25 => ?_)
              · skip
                try simp only [nrm_] at hc25
                refine c_seq ?_
                refine c_reg ?_
                refine s_y (Y_build (cs := [.int .i64 0, .int .i64 0, .int .i64 0, .int .i64 0, .slice none 0 0, .slice none 0 0, .slice none 0 0, .int .i64 0, .int .i64 0, .int .i64 0, .int .i64 0]) (by repeat (first | exact Gp.nil | apply Gp.const | apply Gp.tmp gt_)) (bld34 _ _ (by kernel_rfl))) rfl rfl ?_
                refine s_y (Y_mv) rfl rfl ?_
                refine s_s (S_storeA (vs := wz) rfl rfl sz34 (by rfl) (by rfl) up_ (by rfl)) rfl ?_
                refine s_y (Y_as) rfl rfl ?_
                refine s_nil ?_
                refine q_then ?_
                refine c_ret ?_
                refine q_ret2c rfl rfl many34 rfl mm_ (by rfl) (L' := []) sl_ (.inl ⟨_, hc25, rfl, rfl, by rw [if_neg (by omega), if_neg (by omega)]⟩)
              · skip
                try simp only [nrm_] at hc25
                refine c_skip ?_
                refine q_then ?_
                refine c_seq ?_
                refine c_reg ?_
                refine s_y (ya_ many34) rfl rfl ?_
                refine s_s (S_storeA (vs := (wcD (decM bs).seed (decM bs).frame (decM bs).floor (decM bs).state (.slice (some ⟨g54, 0, none⟩) 384 cp54) (.slice (some ⟨g9, 0, none⟩) 32 cp9) (.slice (some ⟨g8, 0, none⟩) 40 cp8) (goldD bs 4))) rfl rfl sz34 (by rfl) (by rfl) up_ (by rfl)) rfl ?_
                refine s_y (Y_asC) rfl rfl ?_
                refine s_nil ?_
                refine q_then ?_
                refine c_ret ?_
                refine QL.pick (L' := [wB b2 (wcD (decM bs).seed (decM bs).frame (decM bs).floor (decM bs).state (.slice (some ⟨g54, 0, none⟩) 384 cp54) (.slice (some ⟨g9, 0, none⟩) 32 cp9) (.slice (some ⟨g8, 0, none⟩) 40 cp8) (goldD bs 4)), cB g54 cp54 (decM bs).cells, eB g9 cp9 (decM bs).ents, iB g8 cp8 (decM bs).items]) ss_ ?_
                refine q_ret2c rfl rfl many34 rfl mm_ (by rfl) (L' := [cB g54 cp54 (decM bs).cells, eB g9 cp9 (decM bs).ents, iB g8 cp8 (decM bs).items]) sl_ (.inr ⟨hl, by simpa using hc25, g54, cp54, g9, cp9, g8, cp8, by rw [hwv]; rfl, rfl, by omega, by omega, by omega⟩)
      · intro go
        refine c_rall (L0 := []) sl_ [16] (.take 0 (.take 3 (.take 6 (.take 7 (.take 8 (.take 9 (.take 10 (.take 11 (.take 12 (.take 13 (.alt 1 (.take 2 (.alt 4 (.take 5 (.take 14 (.one 15 (.one 16 .nil)))) (.one 15 (.one 4 (.take 5 (.take 14 (.one 16 .nil))))))) (.one 15 (.one 1 (.take 2 (.one 4 (.take 5 (.take 14 (.one 16 .nil)))))))))))))))))) (by kernel_rfl) (by kernel_rfl) (by kernel_rfl) (by kernel_rfl) (by kernel_rfl) (by intro c a d v w h; cases d <;> exact h) rfl ?_
        refine t_y (Y_mv) rfl rfl ?_
        refine t_y (Y_mv) rfl rfl ?_
        refine t_y (Y_mv) rfl rfl ?_
        refine t_y (Y_ia1 (n := 12) rfl rfl Tryz.underlying24 sz5 rfl (by omega)) rfl rfl ?_
        refine t_y (Y_loadR (v := .int .u8 (byteAt bs (12 + 0))) (i := 12) rfl one5 hs.ro rfl (byte_at (by omega))) rfl rfl ?_
        refine t_y (Y_conv rfl Tryz.underlying5 Tryz.underlying3 (i64_id (by have := byteAt_rng bs (12 + 0); omega))) rfl rfl ?_
        refine t_y (Y_mv) rfl rfl ?_
        refine t_y (Y_ia1 (n := 13) rfl rfl Tryz.underlying24 sz5 rfl (by omega)) rfl rfl ?_
        refine t_y (Y_loadR (v := .int .u8 (byteAt bs (12 + 1))) (i := 13) rfl one5 hs.ro rfl (byte_at (by omega))) rfl rfl ?_
        refine t_y (Y_conv rfl Tryz.underlying5 Tryz.underlying3 (i64_id (by have := byteAt_rng bs (12 + 1); omega))) rfl rfl ?_
        refine t_two ?_ ?_
        · skip
          refine t_c (En_call (fun _ => rfl) Tryz.func61 rfl (by kernel_rfl) rfl) (fun w hH => rget_d (k := 0) (m := 8) (hs.has hH) (by decide) (by omega)) (fun _ _ h => by obtain ⟨rfl, rfl⟩ := h; exact kp_) rfl rfl ?_
          rintro _ _ ⟨rfl, rfl⟩
          refine t_y (Y_convw rfl Tryz.underlying96 Tryz.underlying2) rfl rfl ?_
          refine t_two ?_ ?_
          · skip
            refine t_c (En_call (fun _ => rfl) Tryz.func61 rfl (by kernel_rfl) rfl) (fun w hH => rget_d (k := 8) (m := 4) (hs.has hH) (by decide) (by omega)) (fun _ _ h => by obtain ⟨rfl, rfl⟩ := h; exact kp_) rfl rfl ?_
            rintro _ _ ⟨rfl, rfl⟩
            refine t_y (Y_conv rfl Tryz.underlying96 Tryz.underlying3 (i64_id (by omega))) rfl rfl ?_
            refine t_y (Y_build (cs := wcD (decM bs).seed (decM bs).frame (decM bs).floor (decM bs).state (.slice none 0 0) (.slice none 0 0) (.slice none 0 0) ⟨0, 0, 0, 0⟩) (by repeat (first | exact Gp.nil | apply Gp.const | apply Gp.tmp gt_)) (bld34 _ _ (by kernel_rfl))) rfl rfl ?_
            refine t_n (N_alloc (z := .agg #[.int .i64 0, .int .i64 0, .int .i64 0, .int .i64 0, .slice none 0 0, .slice none 0 0, .slice none 0 0, .int .i64 0, .int .i64 0, .int .i64 0, .int .i64 0]) (cs := [.int .i64 0, .int .i64 0, .int .i64 0, .int .i64 0, .slice none 0 0, .slice none 0 0, .slice none 0 0, .int .i64 0, .int .i64 0, .int .i64 0, .int .i64 0]) zv34 rfl) (fun _ => kp_) rfl rfl (fun b4 _ => ?_)
            refine t_s (S_storeA (vs := wcD (decM bs).seed (decM bs).frame (decM bs).floor (decM bs).state (.slice none 0 0) (.slice none 0 0) (.slice none 0 0) ⟨0, 0, 0, 0⟩) rfl rfl sz34 (by rfl) (by rfl) up_ (by rfl)) kp_ rfl ?_
            refine t_nil ?_
            exact go b4 _ _ trivial ⟨rfl, trivial⟩ rfl (fun w h => h.pick ss_)
          refine t_n (N_alloc (z := .agg #[.int .i64 0, .int .i64 0, .int .i64 0, .int .i64 0, .slice none 0 0, .slice none 0 0, .slice none 0 0, .int .i64 0, .int .i64 0, .int .i64 0, .int .i64 0]) (cs := [.int .i64 0, .int .i64 0, .int .i64 0, .int .i64 0, .slice none 0 0, .slice none 0 0, .slice none 0 0, .int .i64 0, .int .i64 0, .int .i64 0, .int .i64 0]) zv34 rfl) (fun _ => kp_) rfl rfl (fun b4 _ => ?_)
          refine t_c (En_call (fun _ => rfl) Tryz.func61 rfl (by kernel_rfl) rfl) (fun w hH => rget_d (k := 8) (m := 4) (hs.has hH) (by decide) (by omega)) (fun _ _ h => by obtain ⟨rfl, rfl⟩ := h; exact kp_) rfl rfl ?_
          rintro _ _ ⟨rfl, rfl⟩
          refine t_y (Y_conv rfl Tryz.underlying96 Tryz.underlying3 (i64_id (by omega))) rfl rfl ?_
          refine t_y (Y_build (cs := wcD (decM bs).seed (decM bs).frame (decM bs).floor (decM bs).state (.slice none 0 0) (.slice none 0 0) (.slice none 0 0) ⟨0, 0, 0, 0⟩) (by repeat (first | exact Gp.nil | apply Gp.const | apply Gp.tmp gt_)) (bld34 _ _ (by kernel_rfl))) rfl rfl ?_
          refine t_s (S_storeA (vs := wcD (decM bs).seed (decM bs).frame (decM bs).floor (decM bs).state (.slice none 0 0) (.slice none 0 0) (.slice none 0 0) ⟨0, 0, 0, 0⟩) rfl rfl sz34 (by rfl) (by rfl) up_ (by rfl)) kp_ rfl ?_
          refine t_nil ?_
          exact go b4 _ _ trivial ⟨rfl, trivial⟩ rfl (fun w h => h.pick ss_)
        refine t_n (N_alloc (z := .agg #[.int .i64 0, .int .i64 0, .int .i64 0, .int .i64 0, .slice none 0 0, .slice none 0 0, .slice none 0 0, .int .i64 0, .int .i64 0, .int .i64 0, .int .i64 0]) (cs := [.int .i64 0, .int .i64 0, .int .i64 0, .int .i64 0, .slice none 0 0, .slice none 0 0, .slice none 0 0, .int .i64 0, .int .i64 0, .int .i64 0, .int .i64 0]) zv34 rfl) (fun _ => kp_) rfl rfl (fun b4 _ => ?_)
        refine t_c (En_call (fun _ => rfl) Tryz.func61 rfl (by kernel_rfl) rfl) (fun w hH => rget_d (k := 0) (m := 8) (hs.has hH) (by decide) (by omega)) (fun _ _ h => by obtain ⟨rfl, rfl⟩ := h; exact kp_) rfl rfl ?_
        rintro _ _ ⟨rfl, rfl⟩
        refine t_y (Y_convw rfl Tryz.underlying96 Tryz.underlying2) rfl rfl ?_
        refine t_c (En_call (fun _ => rfl) Tryz.func61 rfl (by kernel_rfl) rfl) (fun w hH => rget_d (k := 8) (m := 4) (hs.has hH) (by decide) (by omega)) (fun _ _ h => by obtain ⟨rfl, rfl⟩ := h; exact kp_) rfl rfl ?_
        rintro _ _ ⟨rfl, rfl⟩
        refine t_y (Y_conv rfl Tryz.underlying96 Tryz.underlying3 (i64_id (by omega))) rfl rfl ?_
        refine t_y (Y_build (cs := wcD (decM bs).seed (decM bs).frame (decM bs).floor (decM bs).state (.slice none 0 0) (.slice none 0 0) (.slice none 0 0) ⟨0, 0, 0, 0⟩) (by repeat (first | exact Gp.nil | apply Gp.const | apply Gp.tmp gt_)) (bld34 _ _ (by kernel_rfl))) rfl rfl ?_
        refine t_s (S_storeA (vs := wcD (decM bs).seed (decM bs).frame (decM bs).floor (decM bs).state (.slice none 0 0) (.slice none 0 0) (.slice none 0 0) ⟨0, 0, 0, 0⟩) rfl rfl sz34 (by rfl) (by rfl) up_ (by rfl)) kp_ rfl ?_
        refine t_nil ?_
        exact go b4 _ _ trivial ⟨rfl, trivial⟩ rfl (fun w h => h.pick ss_)
end
end Go.Proofs.YtcogbkkdccohfaaGreat
