/- WireBack, walked. -/
import Derived.Test.YtfnedfacapgoaaaRW
namespace Go.Proofs.Ytfnedfacapgoaaa
open Go.RowKit Go.Ad Go.Maps
set_option linter.unusedVariables false
set_option linter.unusedSimpArgs false
abbrev mBk (b : Nat) (m : MsgD) : Bk := ⟨b, 29, 30, 1, (msgCells m).toList⟩
set_option maxRecDepth 100000 in
theorem wireBack_d {W : World} {m : MsgD} (ML : MsgL m) (MV : tot m < 2000 → MsgV W m) (hdc : m.dl ≤ m.dc) : Does Try.prog 6 [.agg (msgCells m)] W [] (fun v L => v = .bool true) := by
  refine enter Try.func6 rfl rfl rfl (Has.start _) ?_
  refine c_seq ?_
  -- law.go:89
  refine c_reg ?_
  refine s_n (N_box rfl) rfl rfl (fun b1 _ => ?_)
  refine s_y (Y_asC) rfl rfl ?_
  refine s_nil ?_
  refine q_then ?_
  refine c_seq ?_
  refine c_seq ?_
  -- law.go:90
  refine c_reg ?_
  refine s_c (En_call (fun _ => rfl) Try.func7 rfl (by kernel_rfl) rfl) (fun w hH => Does.old (args := []) (known15 w)) rfl rfl ?_
  rintro _ _ ⟨rfl, rfl⟩
  refine s_y (Y_not rfl) rfl rfl ?_
  refine s_nil ?_
  refine q_then ?_
  refine c_F rfl (by simp) ?_
  refine c_skip ?_
  refine q_then ?_
  refine c_seq ?_
  refine c_seq ?_
  -- law.go:93
  refine c_reg ?_
  refine s_y ((by first | exact Y_loadAll rfl many29 (by repeat (first | exact List.Mem.head _ | assumption | apply List.Mem.tail)) (by rfl) | exact Y_loadN rfl many29 (by repeat (first | exact List.Mem.head _ | assumption | apply List.Mem.tail)) ‹_› ‹_› | exact Y_loadNR rfl many29 ‹_› rfl)) rfl rfl ?_
  refine s_c (En_call (fun _ => rfl) Try.func8 rfl (by kernel_rfl) rfl) (fun w hH => Does.old (args := [.agg (msgCells m)]) (few15 ML)) rfl rfl ?_
  rintro _ _ ⟨rfl, rfl⟩
  refine s_y (Y_not rfl) rfl rfl ?_
  refine s_nil ?_
  refine q_then ?_
  by_cases hfew : (tot m : Int) < 2000
  · have M := MV (by omega)
    refine c_F rfl (by simp [hfew]) ?_
    refine c_skip ?_
    refine q_then ?_
    refine c_seq ?_
    -- law.go:96
    refine c_reg ?_
    refine s_y ((by first | exact Y_loadAll rfl many29 (by repeat (first | exact List.Mem.head _ | assumption | apply List.Mem.tail)) (by rfl) | exact Y_loadN rfl many29 (by repeat (first | exact List.Mem.head _ | assumption | apply List.Mem.tail)) ‹_› ‹_› | exact Y_loadNR rfl many29 ‹_› rfl)) rfl rfl ?_
    refine s_cF (Φ := fun w v w1 => ∃ g, v = .agg (msgCells g) ∧ Good g ∧ ∀ (l : List Nat) (wz : World), Ex l w1 wz → (∀ k ∈ l, k < w.heap.size ∧ (m.data = [] ∨ ∀ o, m.da ≠ some ⟨k, o, none⟩)) → MsgV wz g) (En_call (fun _ => rfl) Try.func9 rfl (by kernel_rfl) rfl) (fun w hH => ?_) rfl rfl ?_
    · refine Calls.mono (good15 (M.has (by simp) hH) hdc) ?_
      rintro e w' ⟨g, rfl, h1, h2, h3⟩
      exact ⟨_, rfl, h3, g, rfl, h2, h1⟩
    rintro w v w3 hHw hH3 hX3 ⟨g, rfl, G, hMz⟩
    have hb1 : W.heap.size ≤ b1 ∧ b1 < w.heap.size := by
      have h1 := hHw.bk (mBk b1 m) (by repeat (first | exact List.Mem.head _ | assumption | apply List.Mem.tail))
      refine ⟨?_, h1.1.lt⟩
      rcases h1.2 with h2 | h2
      · simp at h2
      · exact h2
    have hEx3 : Ex [] W w3 := hH3.ex
    refine s_s ((by first | exact S_storeA rfl rfl sz29 (by first | rfl | assumption) (by first | rfl | assumption) (by repeat (first | exact Upd.head | apply Upd.tail)) (by first | rfl | assumption) | exact S_storeN rfl rfl sz29 (by rfl) (by first | rfl | assumption) (by repeat (first | exact Upd.head | apply Upd.tail)) (by simp only [setAll, List.set_cons_zero, List.set_cons_succ, Nat.zero_add, Nat.reduceAdd]; rfl) (by first | rfl | assumption))) rfl ?_
    refine s_nil ?_
    refine QL.rebase (fun W1 hH1 => ?_)
    have hW1 : Ex [] W W1 := hEx3.own hH1.ex (fun k hk => by
      simp at hk
      exact .inr (by omega))
    have Mg : MsgV W1 g := hMz _ W1 hH1.ex (fun k hk => by
      simp at hk
      subst hk
      refine ⟨hb1.2, ?_⟩
      rcases M.dat.2 with h | ⟨db, o, h1, h2, _⟩
      · exact .inl h
      · refine .inr (fun o' h => ?_)
        rw [h1] at h; cases h; omega)
    have r1 : Ro W1 b1 0 (msgCells g).toList := (hH1.at' (x := mBk b1 g) (by repeat (first | exact List.Mem.head _ | assumption | apply List.Mem.tail))).ro
    clear hMz hH3 hHw hX3 hH1 hEx3
    refine q_then ?_
    refine c_seq ?_
    have hok := good_ok G Mg.dat.1
    have hda := G.data
    have hdl := Mg.dat.1
    have hfl : fLen g ≤ 900000 := by
      have hi1 := G.inputs.1; have hst := G.stream.1
      have hil := Mg.il; have hrl := Mg.rl
      have hs0 := Mg.sl 0 (by omega); have hs1 := Mg.sl 1 (by omega); have hs2 := Mg.sl 2 (by omega); have hs3 := Mg.sl 3 (by omega)
      have hq0 := (G.seats 0 (by omega)).1; have hq1 := (G.seats 1 (by omega)).1; have hq2 := (G.seats 2 (by omega)).1; have hq3 := (G.seats 3 (by omega)).1
      have hsum : slSum g 4 = g.sl 0 + (g.sl 1 + (g.sl 2 + g.sl 3)) := by simp [slSum, List.range_succ] <;> omega
      unfold fLen; omega
    have hkk := G.kind
    -- law.go:97
    refine c_reg ?_
    refine s_y (Y_loadNR rfl many29 r1 rfl) rfl rfl ?_
    refine s_c (En_call (fun _ => rfl) Try.func10 rfl (by kernel_rfl) rfl) (fun w hH => encode_does (Mg.has (by simp) hH) hkk hfl hok) rfl rfl ?_
    rintro _ _ ⟨ga, cap, hcap, hmax, rfl, rfl⟩
    refine s_y (Y_mv (by repeat (first | exact Gt.here | apply Gt.there (by rfl) | exact Gt.base (by rfl)))) rfl rfl ?_
    refine s_y (Y_extract rfl rfl) rfl rfl ?_
    refine s_y (Y_extract rfl rfl) rfl rfl ?_
    refine s_y (Y_as (by repeat (first | exact Gt.here | apply Gt.there (by rfl) | exact Gt.base (by rfl)))) rfl rfl ?_
    refine s_y (Y_as (by repeat (first | exact Gt.here | apply Gt.there (by rfl) | exact Gt.base (by rfl)))) rfl rfl ?_
    refine s_nil ?_
    refine q_then ?_
    refine c_seq ?_
    -- law.go:98
    refine c_reg ?_
    refine s_y (Y_mv (by repeat (first | exact Gt.here | apply Gt.there (by rfl) | exact Gt.base (by rfl)))) rfl rfl ?_
    refine s_c (En_call (fun _ => rfl) Try.func14 rfl (by kernel_rfl) rfl) (fun w hH => parse_d (bs := encB g) ⟨rfl, hcap, by unfold maxLen at hmax; omega, fun _ => ⟨ga, 0, rfl, (hH.at' (x := ⟨ga, 5, 1, cap, (encB g).map bv⟩) (by repeat (first | exact List.Mem.head _ | assumption | apply List.Mem.tail))).ro, by simp, (hH.at' (x := ⟨ga, 5, 1, cap, (encB g).map bv⟩) (by repeat (first | exact List.Mem.head _ | assumption | apply List.Mem.tail))).lt⟩⟩) rfl rfl ?_
    rintro _ _ hP
    rename_i bl
    obtain ⟨o, rfl, S, Z, hMo, heo, hoo, hko, hdo, hlo⟩ := parse_enc G Mg hP
    refine s_y (Y_mv (by repeat (first | exact Gt.here | apply Gt.there (by rfl) | exact Gt.base (by rfl)))) rfl rfl ?_
    refine s_y (Y_extract rfl rfl) rfl rfl ?_
    refine s_y (Y_extract rfl rfl) rfl rfl ?_
    refine s_n (N_alloc (z := .agg #[.int .i64 0, .int .i64 0, .int .i64 0, .bool false, .int .u32 0, .int .i64 0, .int .i64 0, .int .i64 0, .int .i64 0, .int .i64 0, .int .i64 0, .int .i64 0, .slice none 0 0, .int .i64 0, .int .i64 0, .int .i64 0, .int .i64 0, .slice none 0 0, .int .i64 0, .int .i64 0, .int .i64 0, .int .i64 0, .slice none 0 0, .slice none 0 0, .slice none 0 0, .slice none 0 0, .int .i64 0, .int .i64 0, .int .i64 0, .slice none 0 0]) (cs := [.int .i64 0, .int .i64 0, .int .i64 0, .bool false, .int .u32 0, .int .i64 0, .int .i64 0, .int .i64 0, .int .i64 0, .int .i64 0, .int .i64 0, .int .i64 0, .slice none 0 0, .int .i64 0, .int .i64 0, .int .i64 0, .int .i64 0, .slice none 0 0, .int .i64 0, .int .i64 0, .int .i64 0, .int .i64 0, .slice none 0 0, .slice none 0 0, .slice none 0 0, .slice none 0 0, .int .i64 0, .int .i64 0, .int .i64 0, .slice none 0 0]) zv29 rfl) rfl rfl (fun b5 _ => ?_)
    refine s_s ((by first | exact S_storeA rfl rfl sz29 (by first | rfl | assumption) (by first | rfl | assumption) (by repeat (first | exact Upd.head | apply Upd.tail)) (by first | rfl | assumption) | exact S_storeN rfl rfl sz29 (by rfl) (by first | rfl | assumption) (by repeat (first | exact Upd.head | apply Upd.tail)) (by simp only [setAll, List.set_cons_zero, List.set_cons_succ, Nat.zero_add, Nat.reduceAdd]; rfl) (by first | rfl | assumption))) rfl ?_
    refine s_y (Y_as (by repeat (first | exact Gt.here | apply Gt.there (by rfl) | exact Gt.base (by rfl)))) rfl rfl ?_
    refine s_nil ?_
    refine q_then ?_
    refine c_seq ?_
    refine c_seq ?_
    -- law.go:99 GUARDS (op, want): [(2, False), (6, False)] slots [28, 32]
    refine c_reg ?_
    refine s_y (Y_mv (by repeat (first | exact Gt.here | apply Gt.there (by rfl) | exact Gt.base (by rfl)))) rfl rfl ?_
    refine s_y (Y_neq rfl rfl) rfl rfl ?_
    refine s_y (Y_mv (by repeat (first | exact Gt.here | apply Gt.there (by rfl) | exact Gt.base (by rfl)))) rfl rfl ?_
    refine s_known (d := 28) rfl rfl ?_
    first | refine s_y (Y_mv (by repeat (first | exact Gt.here | apply Gt.there (by rfl) | exact Gt.base (by rfl)))) rfl rfl ?_ | refine s_pass rfl rfl ?_
    first | refine s_y (Y_neq rfl rfl) rfl rfl ?_ | refine s_pass rfl rfl ?_
    refine s_y (Y_pk rfl Gx.const (Gx.tmp (by repeat (first | exact Gt.here | apply Gt.there (by rfl) | exact Gt.base (by rfl))))) rfl rfl ?_
    refine s_y (Y_mv (by repeat (first | exact Gt.here | apply Gt.there (by rfl) | exact Gt.base (by rfl)))) rfl rfl ?_
    refine s_known (d := 32) rfl rfl ?_
    first | refine s_y (Y_loadNR rfl many29 r1 rfl) rfl rfl ?_ | refine s_pass rfl rfl ?_
    first | refine s_y ((by first | exact Y_loadAll rfl many29 (by repeat (first | exact List.Mem.head _ | assumption | apply List.Mem.tail)) (by rfl) | exact Y_loadN rfl many29 (by repeat (first | exact List.Mem.head _ | assumption | apply List.Mem.tail)) ‹_› ‹_› | exact Y_loadNR rfl many29 ‹_› rfl)) rfl rfl ?_ | refine s_pass rfl rfl ?_
    refine s_c (En_call (fun _ => rfl) Try.func17 rfl (by kernel_rfl) rfl) (fun w hH => same_d (Mg.has (by simp) hH) (hMo w (fun x hx => hH.at' (by simp [hx]))) S hkk (fun r hr => by have := G.stream.2 r hr; omega) ⟨hdl.symm, hdo.symm⟩) rfl rfl ?_
    rintro _ _ ⟨rfl, rfl⟩
    first | refine s_y (Y_not rfl) rfl rfl ?_ | refine s_pass rfl rfl ?_
    refine s_y (Y_pk rfl Gx.const (Gx.tmp (by repeat (first | exact Gt.here | apply Gt.there (by rfl) | exact Gt.base (by rfl))))) rfl rfl ?_
    refine s_nil ?_
    refine q_then ?_
    refine c_F rfl (by rfl) ?_
    refine c_skip ?_
    refine q_then ?_
    refine c_seq ?_
    -- law.go:102
    refine c_reg ?_
    refine s_y ((by first | exact Y_loadAll rfl many29 (by repeat (first | exact List.Mem.head _ | assumption | apply List.Mem.tail)) (by rfl) | exact Y_loadN rfl many29 (by repeat (first | exact List.Mem.head _ | assumption | apply List.Mem.tail)) ‹_› ‹_› | exact Y_loadNR rfl many29 ‹_› rfl)) rfl rfl ?_
    refine s_c (En_call (fun _ => rfl) Try.func10 rfl (by kernel_rfl) rfl) (fun w hH => encode_does (hMo w (fun x hx => hH.at' (by simp [hx]))) (by omega) hlo hoo) rfl rfl ?_
    rintro _ _ ⟨ga2, cap2, hcap2, _, rfl, rfl⟩
    rw [heo]
    refine s_y (Y_mv (by repeat (first | exact Gt.here | apply Gt.there (by rfl) | exact Gt.base (by rfl)))) rfl rfl ?_
    refine s_y (Y_extract rfl rfl) rfl rfl ?_
    refine s_y (Y_extract rfl rfl) rfl rfl ?_
    refine s_y (Y_as (by repeat (first | exact Gt.here | apply Gt.there (by rfl) | exact Gt.base (by rfl)))) rfl rfl ?_
    refine s_y (Y_as (by repeat (first | exact Gt.here | apply Gt.there (by rfl) | exact Gt.base (by rfl)))) rfl rfl ?_
    refine s_nil ?_
    refine q_then ?_
    refine c_seq ?_
    refine c_seq ?_
    -- law.go:103 GUARDS (op, want): [(2, False)] slots [45]
    refine c_reg ?_
    refine s_y (Y_mv (by repeat (first | exact Gt.here | apply Gt.there (by rfl) | exact Gt.base (by rfl)))) rfl rfl ?_
    refine s_y (Y_neq rfl rfl) rfl rfl ?_
    refine s_y (Y_mv (by repeat (first | exact Gt.here | apply Gt.there (by rfl) | exact Gt.base (by rfl)))) rfl rfl ?_
    refine s_known (d := 45) rfl rfl ?_
    first | refine s_y (Y_mv (by repeat (first | exact Gt.here | apply Gt.there (by rfl) | exact Gt.base (by rfl)))) rfl rfl ?_ | refine s_pass rfl rfl ?_
    first | refine s_y (Y_bs rfl Try.underlying27 Try.underlying5 Try.underlying9 (fun w hH => bytesL (t := 5) (k := 1) (cap := cap2) (by repeat (first | exact List.Mem.head _ | assumption | apply List.Mem.tail)) hH)) rfl rfl ?_ | refine s_pass rfl rfl ?_
    first | refine s_y (Y_mv (by repeat (first | exact Gt.here | apply Gt.there (by rfl) | exact Gt.base (by rfl)))) rfl rfl ?_ | refine s_pass rfl rfl ?_
    first | refine s_y (Y_bs rfl Try.underlying27 Try.underlying5 Try.underlying9 (fun w hH => bytesL (t := 5) (k := 1) (cap := cap) (by simp) hH)) rfl rfl ?_ | refine s_pass rfl rfl ?_
    first | refine s_y (Y_neS rfl rfl) rfl rfl ?_ | refine s_pass rfl rfl ?_
    refine s_y (Y_pk rfl Gx.const (Gx.tmp (by repeat (first | exact Gt.here | apply Gt.there (by rfl) | exact Gt.base (by rfl))))) rfl rfl ?_
    refine s_nil ?_
    refine q_then ?_
    refine c_F (t := decide ((⟨(encB g).toArray⟩ : ByteArray).toList ≠ (⟨(encB g).toArray⟩ : ByteArray).toList)) (by rfl) (by simp) ?_
    refine c_skip ?_
    refine q_then ?_
    refine c_seq ?_
    refine c_seq ?_
    have hX1 : ∀ w, Ex [] W1 w → Ex [] W w := fun w h => hW1.trans h
    -- law.go:106
    refine c_reg ?_
    refine s_y (Y_fa 0 rfl Try.underlying29 rfl sz3 rfl) rfl rfl ?_
    refine s_y (Y_loadR (i := 0) rfl one3 r1 rfl rfl) rfl rfl ?_
    refine s_y (Y_eql rfl rfl) rfl rfl ?_
    refine s_nil ?_
    refine q_then ?_
    by_cases hk1 : g.kind = 1
    · obtain ⟨z1, z2, z3, z4, z5⟩ := Z.join (by omega)
      refine c_T rfl (by simp [hk1]) ?_
      refine c_seq ?_
      refine c_reg ?_
      refine s_y (Y_fa 1 rfl Try.underlying29 rfl sz3 rfl) rfl rfl ?_
      refine s_y ((by first | exact Y_load rfl one3 (by repeat (first | exact List.Mem.head _ | assumption | apply List.Mem.tail)) (by rfl) | exact Y_load rfl one3 (by repeat (first | exact List.Mem.head _ | assumption | apply List.Mem.tail)) (by assumption) | exact Y_loadR rfl one3 (by assumption) rfl (by assumption))) rfl rfl ?_
      refine s_y (Y_eql rfl rfl) rfl rfl ?_
      refine s_y (Y_mv (by repeat (first | exact Gt.here | apply Gt.there (by rfl) | exact Gt.base (by rfl)))) rfl rfl ?_
      refine s_known (d := 58) rfl (decide_eq_true z1) ?_
      first | refine s_y (Y_fa 4 rfl Try.underlying29 rfl sz22 rfl) rfl rfl ?_ | refine s_pass rfl rfl ?_
      first | refine s_y ((by first | exact Y_load rfl one22 (by repeat (first | exact List.Mem.head _ | assumption | apply List.Mem.tail)) (by rfl) | exact Y_load rfl one22 (by repeat (first | exact List.Mem.head _ | assumption | apply List.Mem.tail)) (by assumption) | exact Y_loadR rfl one22 (by assumption) rfl (by assumption))) rfl rfl ?_ | refine s_pass rfl rfl ?_
      first | refine s_y (Y_eql rfl rfl) rfl rfl ?_ | refine s_pass rfl rfl ?_
      refine s_y (Y_pk rfl (Gx.tmp (by repeat (first | exact Gt.here | apply Gt.there (by rfl) | exact Gt.base (by rfl)))) Gx.const) rfl rfl ?_
      refine s_y (Y_mv (by repeat (first | exact Gt.here | apply Gt.there (by rfl) | exact Gt.base (by rfl)))) rfl rfl ?_
      refine s_known (d := 63) rfl (decide_eq_true (by rw [z2]; rfl)) ?_
      first | refine s_y (Y_fa 17 rfl Try.underlying29 rfl sz25 rfl) rfl rfl ?_ | refine s_pass rfl rfl ?_
      first | refine s_y ((by first | exact Y_load rfl one25 (by repeat (first | exact List.Mem.head _ | assumption | apply List.Mem.tail)) (by rfl) | exact Y_load rfl one25 (by repeat (first | exact List.Mem.head _ | assumption | apply List.Mem.tail)) (by assumption) | exact Y_loadR rfl one25 (by assumption) rfl (by assumption))) rfl rfl ?_ | refine s_pass rfl rfl ?_
      first | refine s_y (Y_len rfl rfl Try.underlying25) rfl rfl ?_ | refine s_pass rfl rfl ?_
      first | refine s_y (Y_eql rfl rfl) rfl rfl ?_ | refine s_pass rfl rfl ?_
      refine s_y (Y_pk rfl (Gx.tmp (by repeat (first | exact Gt.here | apply Gt.there (by rfl) | exact Gt.base (by rfl)))) Gx.const) rfl rfl ?_
      refine s_y (Y_mv (by repeat (first | exact Gt.here | apply Gt.there (by rfl) | exact Gt.base (by rfl)))) rfl rfl ?_
      refine s_known (d := 69) rfl (decide_eq_true (by rw [z3]; rfl)) ?_
      first | refine s_y (Y_fa 29 rfl Try.underlying29 rfl sz27 rfl) rfl rfl ?_ | refine s_pass rfl rfl ?_
      first | refine s_y ((by first | exact Y_load rfl one27 (by repeat (first | exact List.Mem.head _ | assumption | apply List.Mem.tail)) (by rfl) | exact Y_load rfl one27 (by repeat (first | exact List.Mem.head _ | assumption | apply List.Mem.tail)) (by assumption) | exact Y_loadR rfl one27 (by assumption) rfl (by assumption))) rfl rfl ?_ | refine s_pass rfl rfl ?_
      first | refine s_y (Y_len rfl rfl Try.underlying27) rfl rfl ?_ | refine s_pass rfl rfl ?_
      first | refine s_y (Y_eql rfl rfl) rfl rfl ?_ | refine s_pass rfl rfl ?_
      refine s_y (Y_pk rfl (Gx.tmp (by repeat (first | exact Gt.here | apply Gt.there (by rfl) | exact Gt.base (by rfl)))) Gx.const) rfl rfl ?_
      refine s_y (Y_mv (by repeat (first | exact Gt.here | apply Gt.there (by rfl) | exact Gt.base (by rfl)))) rfl rfl ?_
      refine s_known (d := 75) rfl (decide_eq_true (by rw [z4]; rfl)) ?_
      first | refine s_y (Y_fa 26 rfl Try.underlying29 rfl sz3 rfl) rfl rfl ?_ | refine s_pass rfl rfl ?_
      first | refine s_y ((by first | exact Y_load rfl one3 (by repeat (first | exact List.Mem.head _ | assumption | apply List.Mem.tail)) (by rfl) | exact Y_load rfl one3 (by repeat (first | exact List.Mem.head _ | assumption | apply List.Mem.tail)) (by assumption) | exact Y_loadR rfl one3 (by assumption) rfl (by assumption))) rfl rfl ?_ | refine s_pass rfl rfl ?_
      first | refine s_y (Y_eql rfl rfl) rfl rfl ?_ | refine s_pass rfl rfl ?_
      refine s_y (Y_pk rfl (Gx.tmp (by repeat (first | exact Gt.here | apply Gt.there (by rfl) | exact Gt.base (by rfl)))) Gx.const) rfl rfl ?_
      refine s_y (Y_as (by repeat (first | exact Gt.here | apply Gt.there (by rfl) | exact Gt.base (by rfl)))) rfl rfl ?_
      refine s_nil ?_
      refine q_then ?_
      refine c_ret ?_
      exact q_ret1W (.bool true) hX1 rfl (by simp [Ov.get, z5]) rfl
    · refine c_F rfl (by simp [hk1]) ?_
      refine c_skip ?_
      refine q_then ?_
      refine c_seq ?_
      refine c_seq ?_
      -- law.go:109
      refine c_reg ?_
      refine s_y (Y_fa 0 rfl Try.underlying29 rfl sz3 rfl) rfl rfl ?_
      refine s_y (Y_loadR (i := 0) rfl one3 r1 rfl rfl) rfl rfl ?_
      refine s_y (Y_eql rfl rfl) rfl rfl ?_
      refine s_nil ?_
      refine q_then ?_
      by_cases hk4 : g.kind = 4
      · obtain ⟨z1, z2, z3, z4, z5⟩ := Z.chunk (by omega)
        refine c_T rfl (by simp [hk4]) ?_
        refine c_seq ?_
        refine c_reg ?_
        refine s_y (Y_fa 3 rfl Try.underlying29 rfl sz4 rfl) rfl rfl ?_
        refine s_y ((by first | exact Y_load rfl one4 (by repeat (first | exact List.Mem.head _ | assumption | apply List.Mem.tail)) (by rfl) | exact Y_load rfl one4 (by repeat (first | exact List.Mem.head _ | assumption | apply List.Mem.tail)) (by assumption) | exact Y_loadR rfl one4 (by assumption) rfl (by assumption))) rfl rfl ?_
        refine s_y (Y_not rfl) rfl rfl ?_
        refine s_y (Y_mv (by repeat (first | exact Gt.here | apply Gt.there (by rfl) | exact Gt.base (by rfl)))) rfl rfl ?_
        refine s_known (d := 86) (u := true) rfl (by rw [z1]; rfl) ?_
        first | refine s_y (Y_fa 5 rfl Try.underlying29 rfl sz3 rfl) rfl rfl ?_ | refine s_pass rfl rfl ?_
        first | refine s_y ((by first | exact Y_load rfl one3 (by repeat (first | exact List.Mem.head _ | assumption | apply List.Mem.tail)) (by rfl) | exact Y_load rfl one3 (by repeat (first | exact List.Mem.head _ | assumption | apply List.Mem.tail)) (by assumption) | exact Y_loadR rfl one3 (by assumption) rfl (by assumption))) rfl rfl ?_ | refine s_pass rfl rfl ?_
        first | refine s_y (Y_eql rfl rfl) rfl rfl ?_ | refine s_pass rfl rfl ?_
        refine s_y (Y_pk rfl (Gx.tmp (by repeat (first | exact Gt.here | apply Gt.there (by rfl) | exact Gt.base (by rfl)))) Gx.const) rfl rfl ?_
        refine s_y (Y_mv (by repeat (first | exact Gt.here | apply Gt.there (by rfl) | exact Gt.base (by rfl)))) rfl rfl ?_
        refine s_known (d := 91) rfl (decide_eq_true z2) ?_
        first | refine s_y (Y_fa 12 rfl Try.underlying29 rfl sz24 rfl) rfl rfl ?_ | refine s_pass rfl rfl ?_
        first | refine s_y ((by first | exact Y_load rfl one24 (by repeat (first | exact List.Mem.head _ | assumption | apply List.Mem.tail)) (by rfl) | exact Y_load rfl one24 (by repeat (first | exact List.Mem.head _ | assumption | apply List.Mem.tail)) (by assumption) | exact Y_loadR rfl one24 (by assumption) rfl (by assumption))) rfl rfl ?_ | refine s_pass rfl rfl ?_
        first | refine s_y (Y_len rfl rfl Try.underlying24) rfl rfl ?_ | refine s_pass rfl rfl ?_
        first | refine s_y (Y_eql rfl rfl) rfl rfl ?_ | refine s_pass rfl rfl ?_
        refine s_y (Y_pk rfl (Gx.tmp (by repeat (first | exact Gt.here | apply Gt.there (by rfl) | exact Gt.base (by rfl)))) Gx.const) rfl rfl ?_
        refine s_y (Y_mv (by repeat (first | exact Gt.here | apply Gt.there (by rfl) | exact Gt.base (by rfl)))) rfl rfl ?_
        refine s_known (d := 97) rfl (decide_eq_true (by rw [z3]; rfl)) ?_
        first | refine s_y (Y_fa 13 rfl Try.underlying29 rfl sz3 rfl) rfl rfl ?_ | refine s_pass rfl rfl ?_
        first | refine s_y ((by first | exact Y_load rfl one3 (by repeat (first | exact List.Mem.head _ | assumption | apply List.Mem.tail)) (by rfl) | exact Y_load rfl one3 (by repeat (first | exact List.Mem.head _ | assumption | apply List.Mem.tail)) (by assumption) | exact Y_loadR rfl one3 (by assumption) rfl (by assumption))) rfl rfl ?_ | refine s_pass rfl rfl ?_
        first | refine s_y (Y_eql rfl rfl) rfl rfl ?_ | refine s_pass rfl rfl ?_
        refine s_y (Y_pk rfl (Gx.tmp (by repeat (first | exact Gt.here | apply Gt.there (by rfl) | exact Gt.base (by rfl)))) Gx.const) rfl rfl ?_
        refine s_y (Y_mv (by repeat (first | exact Gt.here | apply Gt.there (by rfl) | exact Gt.base (by rfl)))) rfl rfl ?_
        refine s_known (d := 102) rfl (decide_eq_true z4) ?_
        first | refine s_y (Y_fa 14 rfl Try.underlying29 rfl sz3 rfl) rfl rfl ?_ | refine s_pass rfl rfl ?_
        first | refine s_y ((by first | exact Y_load rfl one3 (by repeat (first | exact List.Mem.head _ | assumption | apply List.Mem.tail)) (by rfl) | exact Y_load rfl one3 (by repeat (first | exact List.Mem.head _ | assumption | apply List.Mem.tail)) (by assumption) | exact Y_loadR rfl one3 (by assumption) rfl (by assumption))) rfl rfl ?_ | refine s_pass rfl rfl ?_
        first | refine s_y (Y_eql rfl rfl) rfl rfl ?_ | refine s_pass rfl rfl ?_
        refine s_y (Y_pk rfl (Gx.tmp (by repeat (first | exact Gt.here | apply Gt.there (by rfl) | exact Gt.base (by rfl)))) Gx.const) rfl rfl ?_
        refine s_y (Y_as (by repeat (first | exact Gt.here | apply Gt.there (by rfl) | exact Gt.base (by rfl)))) rfl rfl ?_
        refine s_nil ?_
        refine q_then ?_
        refine c_ret ?_
        exact q_ret1W (.bool true) hX1 rfl (by simp [Ov.get, z5]) rfl
      · obtain ⟨z1, z2⟩ := Z.mid (by omega) (by omega)
        refine c_F rfl (by simp [hk4]) ?_
        refine c_skip ?_
        refine q_then ?_
        refine c_seq ?_
        refine c_reg ?_
        refine s_y (Y_fa 29 rfl Try.underlying29 rfl sz27 rfl) rfl rfl ?_
        refine s_y ((by first | exact Y_load rfl one27 (by repeat (first | exact List.Mem.head _ | assumption | apply List.Mem.tail)) (by rfl) | exact Y_load rfl one27 (by repeat (first | exact List.Mem.head _ | assumption | apply List.Mem.tail)) (by assumption) | exact Y_loadR rfl one27 (by assumption) rfl (by assumption))) rfl rfl ?_
        refine s_y (Y_len rfl rfl Try.underlying27) rfl rfl ?_
        refine s_y (Y_eql rfl rfl) rfl rfl ?_
        refine s_y (Y_mv (by repeat (first | exact Gt.here | apply Gt.there (by rfl) | exact Gt.base (by rfl)))) rfl rfl ?_
        refine s_known (d := 111) rfl (decide_eq_true (by rw [z1]; rfl)) ?_
        first | refine s_y (Y_fa 28 rfl Try.underlying29 rfl sz3 rfl) rfl rfl ?_ | refine s_pass rfl rfl ?_
        first | refine s_y ((by first | exact Y_load rfl one3 (by repeat (first | exact List.Mem.head _ | assumption | apply List.Mem.tail)) (by rfl) | exact Y_load rfl one3 (by repeat (first | exact List.Mem.head _ | assumption | apply List.Mem.tail)) (by assumption) | exact Y_loadR rfl one3 (by assumption) rfl (by assumption))) rfl rfl ?_ | refine s_pass rfl rfl ?_
        first | refine s_y (Y_eql rfl rfl) rfl rfl ?_ | refine s_pass rfl rfl ?_
        refine s_y (Y_pk rfl (Gx.tmp (by repeat (first | exact Gt.here | apply Gt.there (by rfl) | exact Gt.base (by rfl)))) Gx.const) rfl rfl ?_
        refine s_y (Y_as (by repeat (first | exact Gt.here | apply Gt.there (by rfl) | exact Gt.base (by rfl)))) rfl rfl ?_
        refine s_nil ?_
        refine q_then ?_
        refine c_ret ?_
        exact q_ret1W (.bool true) hX1 rfl (by simp [Ov.get, z2]) rfl
  · refine c_T rfl (by simp [hfew]) ?_
    refine c_seq ?_
    -- law.go:94
    refine c_reg ?_
    refine s_y (Y_asC) rfl rfl ?_
    refine s_nil ?_
    refine q_then ?_
    refine c_ret ?_
    refine q_ret1 rfl rfl (L' := []) (by repeat (first | exact List.Sublist.refl _ | exact List.nil_sublist _ | apply List.Sublist.cons_cons | apply List.Sublist.cons)) rfl
theorem wireBack_walk {W : World} {m : MsgD} (ML : MsgL m) (MV : tot m < 2000 → MsgV W m) (hdc : m.dl ≤ m.dc) :
    Calls Try.prog 6 #[.agg (msgCells m)] W fun e w' => e = .returned (.bool true) ∧ Ex [] W w' :=
  Calls.mono (wireBack_d ML MV hdc) fun _ _ ⟨v, L, h1, h2, h3⟩ => ⟨by rw [h1, h3], h2.ex⟩
end Go.Proofs.Ytfnedfacapgoaaa
