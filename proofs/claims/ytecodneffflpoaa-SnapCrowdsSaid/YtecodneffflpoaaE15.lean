/- SnapCrowds, walked. -/
import Derived.Test.YtecodneffflpoaaE14
namespace Go.Proofs.Ytecodneffflpoaa
open Go.RowKit Go.Ad Go.Maps
set_option linter.unusedVariables false
set_option linter.unusedSimpArgs false
theorem EncP.open {d : Wd} {v : Value} {L : List Bk} (h : EncP d v L) : ∃ a n c, v = .tuple #[.slice a n c, iv (checkM d)] ∧ ∀ {W w : World} {M : List Nat} {L' : List Bk}, Has W M L' w → (∀ x ∈ L, x ∈ L') → BytesAt w a n (if checkM d = 0 then encW d else []) := by
  rcases h with ⟨h1, rfl, rfl⟩ | ⟨h1, g, cap, rfl, rfl, h2⟩
  · refine ⟨none, 0, 0, rfl, fun hH _ => ?_⟩
    rw [if_neg h1]
    exact ⟨rfl, .inl rfl⟩
  · refine ⟨_, _, cap, by rw [h1], fun hH hL => ?_⟩
    rw [if_pos h1]
    exact bytesL (hL _ (List.Mem.head _)) hH
section
variable {W : World}
set_option maxRecDepth 100000 in
theorem known_d (hnew : checkM (newM 1) = 0) (hit : ∀ x ∈ (newM 1).items, Itm.ok x) (hde : decM (encW (newM 1)) = newM 1) (hlen : (encW (newM 1)).length = 918) : Does Try.prog 4 [] W [] (fun v L => v = .bool true ∧ L = []) := by
  obtain ⟨d, hd⟩ : ∃ q, newM 1 = q := ⟨_, rfl⟩
  rw [hd] at hnew hit hde hlen
  refine enter Try.func4 rfl rfl rfl (Has.start _) ?_
  refine c_seq ?_
  refine c_reg ?_
  refine s_y (Y_asC) rfl rfl ?_
  refine s_nil ?_
  refine q_then ?_
  refine c_seq ?_
  refine c_reg ?_
  refine s_c (En_call (fun _ => rfl) Try.func10 rfl (by kernel_rfl) rfl) (fun w hH => rnew_d) rfl rfl ?_
  rintro _ _ ⟨cb, cc, eb, ec, ib, ic, rfl, rfl, l1, l2, l3⟩
  rw [hd] at l1 l2 l3 ⊢
  refine s_n (N_alloc (z := .agg #[.int .i64 0, .int .i64 0, .int .i64 0, .int .i64 0, .slice none 0 0, .slice none 0 0, .slice none 0 0, .int .i64 0, .int .i64 0, .int .i64 0, .int .i64 0]) (cs := [.int .i64 0, .int .i64 0, .int .i64 0, .int .i64 0, .slice none 0 0, .slice none 0 0, .slice none 0 0, .int .i64 0, .int .i64 0, .int .i64 0, .int .i64 0]) zv29 rfl) rfl rfl (fun b1 _ => ?_)
  refine s_s (S_storeA (vs := wv d ⟨cb, 0, cc, eb, 0, ec, ib, 0, ic⟩) rfl rfl sz29 (by rfl) (by rfl) (by repeat (first | exact Upd.head | apply Upd.tail)) (by rfl)) rfl ?_
  refine s_nil ?_
  refine q_then ?_
  refine c_seq ?_
  refine c_reg ?_
  refine s_y ((by first | exact Y_loadAll rfl many29 mm_ (by rfl) | exact Y_loadN rfl many29 mm_ ‹_› ‹_› | exact Y_loadNR rfl many29 hr rfl | exact Y_loadNR rfl many29 hr2 rfl | exact Y_loadNR rfl many29 ‹_› rfl)) rfl rfl ?_
  refine s_c (En_call (fun _ => rfl) Try.func6 rfl (by kernel_rfl) rfl) (fun w hH => penc_d (wAt_of hH mm_ mm_ mm_ l1 l2 l3) hit) rfl rfl ?_
  rintro _ _ hE
  rcases hE with ⟨h, _⟩ | ⟨_, g, cap, rfl, rfl, hcap⟩
  · exact absurd hnew h
  refine s_y (Y_mv) rfl rfl ?_
  refine s_y (Y_extract rfl rfl) rfl rfl ?_
  refine s_y (Y_extract rfl rfl) rfl rfl ?_
  refine s_y (Y_as) rfl rfl ?_
  refine s_y (Y_as) rfl rfl ?_
  refine s_nil ?_
  refine q_then ?_
  refine c_seq ?_
  refine c_reg ?_
  refine s_y (Y_mv) rfl rfl ?_
  refine s_c (En_call (fun _ => rfl) Try.func11 rfl (by kernel_rfl) rfl) (fun w hH => pdec_d ((hH.at' (x := cB g cap (encW d)) mm_).sl (by rw [List.length_map, Nat.mul_one]) hcap) (by omega)) rfl rfl ?_
  rintro _ _ hD
  rcases hD with ⟨e, he, _, _, h⟩ | ⟨_, _, cb2, cc2, eb2, ec2, ib2, ic2, rfl, rfl, m1, m2, m3⟩
  · rw [if_neg (by omega), if_neg (by omega), hde, hnew] at h
    exact absurd h he
  rw [hde] at m1 m2 m3 ⊢
  refine QL.sub (L' := cB cb2 cc2 d.cells :: eB eb2 ec2 d.ents :: iB ib2 ic2 d.items :: _) (List.Sublist.refl _) ?_
  refine s_y (Y_mv) rfl rfl ?_
  refine s_y (Y_extract rfl rfl) rfl rfl ?_
  refine s_y (Y_extract rfl rfl) rfl rfl ?_
  refine s_n (N_alloc (z := .agg #[.int .i64 0, .int .i64 0, .int .i64 0, .int .i64 0, .slice none 0 0, .slice none 0 0, .slice none 0 0, .int .i64 0, .int .i64 0, .int .i64 0, .int .i64 0]) (cs := [.int .i64 0, .int .i64 0, .int .i64 0, .int .i64 0, .slice none 0 0, .slice none 0 0, .slice none 0 0, .int .i64 0, .int .i64 0, .int .i64 0, .int .i64 0]) zv29 rfl) rfl rfl (fun b4 _ => ?_)
  refine s_s (S_storeA (vs := wv d ⟨cb2, 0, cc2, eb2, 0, ec2, ib2, 0, ic2⟩) rfl rfl sz29 (by rfl) (by rfl) (by repeat (first | exact Upd.head | apply Upd.tail)) (by rfl)) rfl ?_
  refine s_y (Y_as) rfl rfl ?_
  refine s_nil ?_
  refine q_then ?_
  refine c_seq ?_
  refine c_reg ?_
  refine s_y (Y_mv) rfl rfl ?_
  refine s_y (Y_eql rfl rfl) rfl rfl ?_
  refine s_y (Y_mv) rfl rfl ?_
  apply s_and 4 [19, 20, 21, 22, 23] 23 (g := 19) rfl rfl
  · intro ht3 hm
    try simp only [nrm_] at ht3
    first | refine s_y (Y_mv) rfl rfl ?_ | refine s_pass rfl rfl ?_
    first | refine s_y (Y_len rfl rfl Try.underlying25) rfl rfl ?_ | refine s_pass rfl rfl ?_
    first | refine s_y (Y_eql rfl rfl) rfl rfl ?_ | refine s_pass rfl rfl ?_
    refine s_y (Y_pk rfl (Gx.tmp gt_) Gx.const) rfl rfl ?_
    first | exact hm _ ⟨rfl, trivial⟩ rfl | exact QL.sub sl_ (hm _ ⟨rfl, trivial⟩ rfl)
  · intro ht3 hm
    iterate 3 refine s_pass rfl rfl ?_
    refine s_y (Y_pk rfl (Gx.tmp gt_) Gx.const) rfl rfl ?_
    exact hm _ ⟨rfl, trivial⟩ rfl
  intro j23
  refine s_y (Y_mv) rfl rfl ?_
  apply s_and 3 [24, 25, 26, 27] 27 (g := 24) rfl rfl
  · intro ht8 hm
    try simp only [nrm_] at ht8
    first | refine s_y (Y_mv) rfl rfl ?_ | refine s_pass rfl rfl ?_
    first | refine s_y (Y_eql rfl rfl) rfl rfl ?_ | refine s_pass rfl rfl ?_
    refine s_y (Y_pk rfl (Gx.tmp gt_) Gx.const) rfl rfl ?_
    first | exact hm _ ⟨rfl, trivial⟩ rfl | exact QL.sub sl_ (hm _ ⟨rfl, trivial⟩ rfl)
  · intro ht8 hm
    iterate 2 refine s_pass rfl rfl ?_
    refine s_y (Y_pk rfl (Gx.tmp gt_) Gx.const) rfl rfl ?_
    exact hm _ ⟨rfl, trivial⟩ rfl
  intro j27
  refine s_y (Y_mv) rfl rfl ?_
  apply s_and 4 [28, 29, 30, 31, 32] 32 (g := 28) rfl rfl
  · intro ht12 hm
    try simp only [nrm_] at ht12
    first | refine s_y (Y_loadAll rfl many29 mm_ (by rfl)) rfl rfl ?_ | refine s_pass rfl rfl ?_
    first | refine s_y (Y_loadAll rfl many29 mm_ (by rfl)) rfl rfl ?_ | refine s_pass rfl rfl ?_
    refine s_c (En_call (fun _ => rfl) Try.func12 rfl (by kernel_rfl) rfl) (fun w hH => lsame_d (wAt_of hH (d := d) (cb := cb2) (cc := cc2) (eb := eb2) (ec := ec2) (ib := ib2) (ic := ic2) mm_ mm_ mm_ m1 m2 m3).v (wAt_of hH (d := d) (cb := cb) (cc := cc) (eb := eb) (ec := ec) (ib := ib) (ic := ic) mm_ mm_ mm_ l1 l2 l3).v) rfl rfl ?_
    rintro _ _ ⟨⟨q, rfl, hq⟩, rfl⟩
    obtain rfl : q = true := hq.2 rfl
    refine s_y (Y_pk rfl (Gx.tmp gt_) Gx.const) rfl rfl ?_
    first | exact hm _ ⟨rfl, trivial⟩ rfl | exact QL.sub sl_ (hm _ ⟨rfl, trivial⟩ rfl)
  · intro ht12 hm
    iterate 3 refine s_pass rfl rfl ?_
    refine s_y (Y_pk rfl (Gx.tmp gt_) Gx.const) rfl rfl ?_
    exact hm _ ⟨rfl, trivial⟩ rfl
  intro j32
  refine s_y (Y_mv) rfl rfl ?_
  refine s_y (Y_pk rfl Gx.const Gx.const) rfl rfl ?_
  refine s_y (Y_as) rfl rfl ?_
  refine s_nil ?_
  refine q_then ?_
  refine c_ret ?_
  refine q_retG1 rfl gt_ (L' := _) sl_ (⟨by rw [hlen]; rfl, rfl⟩)
theorem Does.law {f : FuncId} {args : List Value} (h : Does Try.prog f args W [] (fun v L => v = .bool true ∧ L = [])) : Calls Try.prog f args.toArray W fun e w' => e = .returned (.bool true) ∧ Ex [] W w' :=
  Calls.mono h fun _ _ ⟨v, L, h1, h2, h3, _⟩ => ⟨by rw [h1, h3], h2.ex⟩
set_option maxRecDepth 100000 in
theorem crowds_d (hnew : checkM (newM 1) = 0) (hit : ∀ x ∈ (newM 1).items, Itm.ok x) (hde : decM (encW (newM 1)) = newM 1) (hlen : (encW (newM 1)).length = 918) {seed floor frame : Int} {kv lv : Value} {nk n : Nat} {ks : List Int} {l : List Itm} (hk : SlV W 1 kv nk (ks.map iv)) (hl : SlV W 4 lv n (icells l)) : Does Try.prog 3 [iv seed, iv floor, kv, lv, iv frame] W [] (fun v L => v = .bool true ∧ L = []) := by
  refine enter Try.func3 rfl rfl rfl (Has.start _) ?_
  refine c_seq ?_
  refine c_reg ?_
  refine s_y (Y_asC) rfl rfl ?_
  refine s_nil ?_
  refine q_then ?_
  refine c_seq ?_
  refine c_seq ?_
  refine c_reg ?_
  refine s_c (En_call (fun _ => rfl) Try.func4 rfl (by kernel_rfl) rfl) (fun w hH => known_d hnew hit hde hlen) rfl rfl ?_
  rintro _ _ ⟨rfl, rfl⟩
  refine s_y (Y_not rfl) rfl rfl ?_
  refine s_nil ?_
  refine q_then ?_
  refine c_F rfl (rfl) ?_
  refine c_skip ?_
  refine q_then ?_
  refine c_seq ?_
  refine c_reg ?_
  refine s_y (Y_mv) rfl rfl ?_
  refine s_y (Y_mv) rfl rfl ?_
  refine s_y (Y_mv) rfl rfl ?_
  refine s_y (Y_mv) rfl rfl ?_
  refine s_y (Y_mv) rfl rfl ?_
  refine s_c (En_call (fun _ => rfl) Try.func5 rfl (by kernel_rfl) rfl) (fun w hH => lcrowd_d (hk.has hH) (hl.has hH)) rfl rfl ?_
  rintro _ _ ⟨d, hok, _, _, _, cb, cc, eb, ec, ib, ic, rfl, rfl, l1, l2, l3⟩
  refine s_n (N_alloc (z := .agg #[.int .i64 0, .int .i64 0, .int .i64 0, .int .i64 0, .slice none 0 0, .slice none 0 0, .slice none 0 0, .int .i64 0, .int .i64 0, .int .i64 0, .int .i64 0]) (cs := [.int .i64 0, .int .i64 0, .int .i64 0, .int .i64 0, .slice none 0 0, .slice none 0 0, .slice none 0 0, .int .i64 0, .int .i64 0, .int .i64 0, .int .i64 0]) zv29 rfl) rfl rfl (fun b11 _ => ?_)
  refine s_s (S_storeA (vs := wv d ⟨cb, 0, cc, eb, 0, ec, ib, 0, ic⟩) rfl rfl sz29 (by rfl) (by rfl) (by repeat (first | exact Upd.head | apply Upd.tail)) (by rfl)) rfl ?_
  refine s_nil ?_
  refine q_then ?_
  refine c_seq ?_
  refine c_reg ?_
  refine s_y ((by first | exact Y_loadAll rfl many29 mm_ (by rfl) | exact Y_loadN rfl many29 mm_ ‹_› ‹_› | exact Y_loadNR rfl many29 hr rfl | exact Y_loadNR rfl many29 hr2 rfl | exact Y_loadNR rfl many29 ‹_› rfl)) rfl rfl ?_
  refine s_c (En_call (fun _ => rfl) Try.func6 rfl (by kernel_rfl) rfl) (fun w hH => penc_d (wAt_of hH mm_ mm_ mm_ l1 l2 l3) hok) rfl rfl ?_
  rintro _ _ hE1
  rename_i lE1
  obtain ⟨a1, n1, c1, rfl, hb1⟩ := hE1.open
  refine s_y (Y_mv) rfl rfl ?_
  refine s_y (Y_extract rfl rfl) rfl rfl ?_
  refine s_y (Y_extract rfl rfl) rfl rfl ?_
  refine s_y (Y_as) rfl rfl ?_
  refine s_y (Y_as) rfl rfl ?_
  refine s_nil ?_
  refine q_then ?_
  refine c_seq ?_
  refine c_reg ?_
  refine s_y ((by first | exact Y_loadAll rfl many29 mm_ (by rfl) | exact Y_loadN rfl many29 mm_ ‹_› ‹_› | exact Y_loadNR rfl many29 hr rfl | exact Y_loadNR rfl many29 hr2 rfl | exact Y_loadNR rfl many29 ‹_› rfl)) rfl rfl ?_
  refine s_c (En_call (fun _ => rfl) Try.func7 rfl (by kernel_rfl) rfl) (fun w hH => renc_d (wAt_of hH (d := d) (cb := cb) (cc := cc) (eb := eb) (ec := ec) (ib := ib) (ic := ic) mm_ mm_ mm_ l1 l2 l3)) rfl rfl ?_
  rintro _ _ hE2
  rename_i lE2
  obtain ⟨a2, n2, c2, rfl, hb2⟩ := hE2.open
  refine s_y (Y_mv) rfl rfl ?_
  refine s_y (Y_extract rfl rfl) rfl rfl ?_
  refine s_y (Y_extract rfl rfl) rfl rfl ?_
  refine s_y (Y_as) rfl rfl ?_
  refine s_y (Y_as) rfl rfl ?_
  refine s_nil ?_
  refine q_then ?_
  refine c_seq ?_
  refine c_rord [] [(0, true), (2, true), (1, false), (3, false), (4, true), (5, true), (6, true), (7, true), (8, true), (9, true), (10, true), (11, true), (12, true), (13, true), (14, true), (15, true), (16, true), (17, true)] (by kernel_rfl) (by kernel_rfl) (by kernel_rfl) (by kernel_rfl) rfl (by intro c a d v w h; cases d <;> exact h) rfl ?_
  simp only [mkOrd, List.filterMap_cons, List.filterMap_nil, List.getElem?_toArray, List.getElem?_cons_zero, List.getElem?_cons_succ, Option.map_some]
  refine o_y ((by first | exact Y_loadAll rfl many29 mm_ (by rfl) | exact Y_loadN rfl many29 mm_ ‹_› ‹_› | exact Y_loadNR rfl many29 hr rfl | exact Y_loadNR rfl many29 hr2 rfl | exact Y_loadNR rfl many29 ‹_› rfl)) rfl rfl ?_
  refine o_y ((by first | exact Y_loadAll rfl many29 mm_ (by rfl) | exact Y_loadN rfl many29 mm_ ‹_› ‹_› | exact Y_loadNR rfl many29 hr rfl | exact Y_loadNR rfl many29 hr2 rfl | exact Y_loadNR rfl many29 ‹_› rfl)) rfl rfl ?_
  refine o_c (En_call (fun _ => rfl) Try.func8 rfl (by kernel_rfl) rfl) (fun w hH => pcheck_d (wAt_of hH (d := d) (cb := cb) (cc := cc) (eb := eb) (ec := ec) (ib := ib) (ic := ic) mm_ mm_ mm_ l1 l2 l3) hok) (fun _ _ h => by obtain ⟨rfl, rfl⟩ := h; exact (by first | exact keep_no rfl | (refine keep_sub ?_; (repeat (first | exact List.Sublist.refl _ | exact List.nil_sublist _ | apply List.Sublist.cons_cons | apply List.Sublist.cons)); done) | (refine keep_sub (List.Sublist.trans ?_ (List.sublist_append_right _ _)); (repeat (first | exact List.Sublist.refl _ | exact List.nil_sublist _ | apply List.Sublist.cons_cons | apply List.Sublist.cons)); done))) rfl rfl ?_
  rintro _ _ ⟨rfl, rfl⟩
  refine o_c (En_call (fun _ => rfl) Try.func9 rfl (by kernel_rfl) rfl) (fun w hH => rcheck_d (wAt_of hH (d := d) (cb := cb) (cc := cc) (eb := eb) (ec := ec) (ib := ib) (ic := ic) mm_ mm_ mm_ l1 l2 l3)) (fun _ _ h => by obtain ⟨rfl, rfl⟩ := h; exact (by first | exact keep_no rfl | (refine keep_sub ?_; (repeat (first | exact List.Sublist.refl _ | exact List.nil_sublist _ | apply List.Sublist.cons_cons | apply List.Sublist.cons)); done) | (refine keep_sub (List.Sublist.trans ?_ (List.sublist_append_right _ _)); (repeat (first | exact List.Sublist.refl _ | exact List.nil_sublist _ | apply List.Sublist.cons_cons | apply List.Sublist.cons)); done))) rfl rfl ?_
  rintro _ _ ⟨rfl, rfl⟩
  refine o_y (Y_eql rfl rfl) rfl rfl ?_
  refine o_y (Y_mv) rfl rfl ?_
  apply o_and 6 [39, 40, 41, 42, 43, 44, 45] 45 (g := 39) rfl rfl
  · intro ht6 hm
    try simp only [nrm_] at ht6
    first | refine o_y (Y_mv) rfl rfl ?_ | refine o_pass rfl rfl ?_
    first | refine o_y (Y_bs rfl Try.underlying25 Try.underlying5 Try.underlying9 (fun w hH => hb1 hH (fun x hx => by repeat (first | exact hx | exact List.mem_append_left _ hx | exact List.mem_append_right _ hx | apply List.Mem.tail | apply List.mem_append_right)))) rfl rfl ?_ | refine o_pass rfl rfl ?_
    first | refine o_y (Y_mv) rfl rfl ?_ | refine o_pass rfl rfl ?_
    first | refine o_y (Y_bs rfl Try.underlying25 Try.underlying5 Try.underlying9 (fun w hH => hb2 hH (fun x hx => by repeat (first | exact hx | exact List.mem_append_left _ hx | exact List.mem_append_right _ hx | apply List.Mem.tail | apply List.mem_append_right)))) rfl rfl ?_ | refine o_pass rfl rfl ?_
    first | refine o_y (Y_eqS rfl rfl) rfl rfl ?_ | refine o_pass rfl rfl ?_
    refine o_y (Y_pk rfl (Gx.tmp gt_) Gx.const) rfl rfl ?_
    first | exact hm _ ⟨rfl, trivial⟩ rfl | exact QL.sub sl_ (hm _ ⟨rfl, trivial⟩ rfl)
  · intro ht6 hm
    iterate 5 refine o_pass rfl rfl ?_
    refine o_y (Y_pk rfl (Gx.tmp gt_) Gx.const) rfl rfl ?_
    exact hm _ ⟨rfl, trivial⟩ rfl
  intro j45
  refine o_y (Y_mv) rfl rfl ?_
  apply o_and 4 [46, 47, 48, 49, 50] 50 (g := 46) rfl rfl
  · intro ht13 hm
    try simp only [nrm_] at ht13
    first | refine o_y (Y_mv) rfl rfl ?_ | refine o_pass rfl rfl ?_
    first | refine o_y (Y_mv) rfl rfl ?_ | refine o_pass rfl rfl ?_
    first | refine o_y (Y_eql rfl rfl) rfl rfl ?_ | refine o_pass rfl rfl ?_
    refine o_y (Y_pk rfl (Gx.tmp gt_) Gx.const) rfl rfl ?_
    first | exact hm _ ⟨rfl, trivial⟩ rfl | exact QL.sub sl_ (hm _ ⟨rfl, trivial⟩ rfl)
  · intro ht13 hm
    iterate 3 refine o_pass rfl rfl ?_
    refine o_y (Y_pk rfl (Gx.tmp gt_) Gx.const) rfl rfl ?_
    exact hm _ ⟨rfl, trivial⟩ rfl
  intro j50
  refine o_y (Y_as) rfl rfl ?_
  refine o_nil ?_
  refine q_then ?_
  refine c_ret ?_
  refine q_retG1 rfl gt_ (L' := _) sl_ (⟨by simp, rfl⟩)
end
end Go.Proofs.Ytecodneffflpoaa
