/- WireTurns, walked. -/
import Derived.Test.YtphmdhbhoakcaaaWT0
import Derived.Test.YtphmdhbhoakcaaaWireA
namespace Go.Proofs.Ytphmdhbhoakcaaa
open Go.RowKit Go.Ad Go.Maps
set_option linter.unusedVariables false
set_option linter.unusedSimpArgs false
abbrev mBk (b : Nat) (m : MsgD) : Bk := ⟨b, 29, 30, 1, (msgCells m).toList⟩
abbrev rBk (b : Nat) (m : MsgD) : Bk := ⟨b, 42, 30, 1, (msgCells m).toList⟩
abbrev yB (b cp : Nat) (xs : List UInt8) : Bk := ⟨b, 5, 1, cp, xs.map bv⟩
set_option maxRecDepth 100000 in
set_option maxHeartbeats 6400000 in
theorem wireTurns_d {W : World} {m : MsgD} (ML : MsgL m) (MV : tot m < 2000 → MsgV W m) (hdc : m.dl ≤ m.dc) {a1 a2 a4 : Option Addr} {n1 n2 n4 c1 c2 c4 : Nat} {ats : List Int} {bys mores : List UInt8} {cut : Int}
    (hat : IntsAt W a1 ats) (hatl : ats.length = n1) (hby : BytesAt W a2 n2 bys) (hmo : BytesAt W a4 n4 mores) (hmn : a4 = none → n4 = 0 ∧ c4 = 0) :
    Does Try.prog 5 [.agg (msgCells m), .slice a1 n1 c1, .slice a2 n2 c2, .int .i64 cut, .slice a4 n4 c4] W [] (fun v L => v = .bool true) := by
  have hml := hmo.1
  refine enter Try.func5 rfl rfl rfl (Has.start _) ?_
  refine c_seq ?_
  -- law.go:116 R0
  refine c_reg ?_
  refine s_n (N_box rfl) rfl rfl (fun b5 _ => ?_)
  refine s_y (Y_asC) rfl rfl ?_
  refine s_nil ?_
  refine q_then ?_
  refine c_seq ?_
  refine c_seq ?_
  -- law.go:117 R1
  refine c_reg ?_
  refine s_c (En_call (fun _ => rfl) Try.func7 rfl (by kernel_rfl) rfl) (fun w hH => Does.old (args := []) (known15 w)) rfl rfl ?_
  rintro _ _ ⟨rfl, rfl⟩
  refine s_y (Y_not rfl) rfl rfl ?_
  refine s_nil ?_
  refine q_then ?_
  refine c_F rfl ((by simp)) ?_
  refine c_skip ?_
  refine q_then ?_
  refine c_seq ?_
  refine c_seq ?_
  -- law.go:120 R3
  refine c_reg ?_
  refine s_y ((by first | exact Y_loadAll rfl many29 (by repeat (first | exact List.Mem.head _ | assumption | apply List.Mem.tail | apply List.mem_append_right)) (by rfl) | exact Y_loadN rfl many29 (by repeat (first | exact List.Mem.head _ | assumption | apply List.Mem.tail | apply List.mem_append_right)) ‹_› ‹_› | exact Y_loadNR rfl many29 ‹_› rfl)) rfl rfl ?_
  refine s_c (En_call (fun _ => rfl) Try.func8 rfl (by kernel_rfl) rfl) (fun w hH => Does.old (args := [.agg (msgCells m)]) (few15 ML)) rfl rfl ?_
  rintro _ _ ⟨rfl, rfl⟩
  refine s_y (Y_not rfl) rfl rfl ?_
  refine s_y (Y_mv) rfl rfl ?_
  refine s_meet 4 [26, 27, 28, 29, 30] (fun q : Bool => [(30, .bool q)]) (fun q => q = decide (¬ ((tot m : Int) < 2000) ∨ (n4 : Int) > 100)) (fun _ => rfl) (fun hm => ?_) ?_
  · refine s_split (d := 26) rfl (fun ht => ?_) (fun ht => ?_)
    · skip
      first | refine s_y (Y_mv) rfl rfl ?_ | refine s_pass rfl rfl ?_
      first | refine s_y (Y_len rfl rfl Try.underlying27) rfl rfl ?_ | refine s_pass rfl rfl ?_
      first | refine s_y (Y_gtr rfl rfl) rfl rfl ?_ | refine s_pass rfl rfl ?_
      refine s_y (Y_pk rfl Gx.const (Gx.tmp (by repeat (first | exact Gt.here | apply Gt.there (by rfl) | exact Gt.base (by rfl))))) rfl rfl ?_
      refine s_nil ?_
      exact hm _ _ (by (try simp only [Bool.not_eq_true', Bool.not_eq_false', Bool.not_not, Bool.not_true, Bool.not_false, decide_eq_true_eq, decide_eq_false_iff_not] at ht); first | exact decide_eq_decide.2 (by omega) | exact (decide_eq_false (by omega)).symm | exact (decide_eq_true (by omega)).symm | simp_all) ⟨rfl, trivial⟩ rfl
    · skip
      first | refine s_y (Y_mv) rfl rfl ?_ | refine s_pass rfl rfl ?_
      first | refine s_y (Y_len rfl rfl Try.underlying27) rfl rfl ?_ | refine s_pass rfl rfl ?_
      first | refine s_y (Y_gtr rfl rfl) rfl rfl ?_ | refine s_pass rfl rfl ?_
      refine s_y (Y_pk rfl Gx.const (Gx.tmp (by repeat (first | exact Gt.here | apply Gt.there (by rfl) | exact Gt.base (by rfl))))) rfl rfl ?_
      refine s_nil ?_
      exact hm _ _ (by (try simp only [Bool.not_eq_true', Bool.not_eq_false', Bool.not_not, Bool.not_true, Bool.not_false, decide_eq_true_eq, decide_eq_false_iff_not] at ht); first | exact decide_eq_decide.2 (by omega) | exact (decide_eq_false (by omega)).symm | exact (decide_eq_true (by omega)).symm | simp_all) ⟨rfl, trivial⟩ rfl
  rintro _ j30 rfl
  refine s_nil ?_
  refine q_then ?_
  refine c_cond' rfl (fun hfew => ?_) (fun hfew => ?_)
  · skip
    refine c_seq ?_
    -- law.go:121 R4
    refine c_reg ?_
    refine s_y (Y_asC) rfl rfl ?_
    refine s_nil ?_
    refine q_then ?_
    refine c_ret ?_
    refine q_ret1 rfl rfl (L' := _) (by repeat (first | exact List.Sublist.refl _ | exact List.nil_sublist _ | apply List.Sublist.cons_cons | apply List.Sublist.cons)) (rfl)
  · skip
    refine c_skip ?_
    refine q_then ?_
    refine c_seq ?_
    -- law.go:123 R5
    refine c_reg ?_
    refine s_y ((by first | exact Y_loadAll rfl many29 (by repeat (first | exact List.Mem.head _ | assumption | apply List.Mem.tail | apply List.mem_append_right)) (by rfl) | exact Y_loadN rfl many29 (by repeat (first | exact List.Mem.head _ | assumption | apply List.Mem.tail | apply List.mem_append_right)) ‹_› ‹_› | exact Y_loadNR rfl many29 ‹_› rfl)) rfl rfl ?_
    have M := MV (by omega)
    refine s_cF (Φ := fun w v w1 => ∃ g, v = .agg (msgCells g) ∧ Good g ∧ ∀ (l : List Nat) (wz : World), Ex l w1 wz → (∀ k ∈ l, k < w.heap.size ∧ (m.data = [] ∨ ∀ o, m.da ≠ some ⟨k, o, none⟩)) → MsgV wz g) (En_call (fun _ => rfl) Try.func9 rfl (by kernel_rfl) rfl) (fun w hH => ?_) rfl rfl ?_
    · refine Calls.mono (good15 (M.has (by simp) hH) hdc) ?_
      rintro e w' ⟨g, rfl, h1, h2, h3⟩
      exact ⟨_, rfl, h3, g, rfl, h2, h1⟩
    rintro w v w3 hHw hH3 hX3 ⟨g, rfl, G, hMz⟩
    have hb1 : W.heap.size ≤ b5 ∧ b5 < w.heap.size := by
      have h1 := hHw.bk (mBk b5 m) (by repeat (first | exact List.Mem.head _ | assumption | apply List.Mem.tail | apply List.mem_append_right))
      refine ⟨?_, h1.1.lt⟩
      rcases h1.2 with h2 | h2
      · simp at h2
      · exact h2
    have hEx3 : Ex [] W w3 := hH3.ex
    refine QL.rebase (fun W1 hH1 => ?_)
    have hW1 : Ex [] W W1 := hEx3.own hH1.ex (fun k hk => by
      simp at hk
      exact .inr (by omega))
    have Mg : MsgV W1 g := hMz _ W1 hH1.ex (fun k hk => by
      simp at hk
      subst hk
      refine ⟨hb1.2, ?_⟩
      rcases M.dat.2 with h | ⟨db, o, h1, h2, _⟩
      · exact .inl h
      · refine .inr (fun o' h => ?_)
        rw [h1] at h; cases h; omega)
    clear hMz hH3 hHw hX3 hH1 hEx3
    replace hat := hat.ex hW1
    replace hby : BytesAt W1 a2 n2 bys := hby.ex hW1 (by simp)
    replace hmo : BytesAt W1 a4 n4 mores := hmo.ex hW1 (by simp)
    have hX1 : ∀ w, Ex [] W1 w → Ex [] W w := fun w h => hW1.trans h
    refine s_c (En_call (fun _ => rfl) Try.func13 rfl (by kernel_rfl) rfl) (fun w hH => told_d) rfl rfl ?_
    rintro _ _ ⟨rfl, rfl⟩
    refine s_c (En_call (fun _ => rfl) Try.func12 rfl (by kernel_rfl) rfl) (fun w hH => refenc_d (Mg.has (by simp) hH) G) rfl rfl ?_
    rintro _ _ ⟨xs, gb, cp, hx1, hx6, hxc, rfl, rfl⟩
    refine s_y (Y_mv) rfl rfl ?_
    refine s_y (Y_extract rfl rfl) rfl rfl ?_
    refine s_y (Y_extract rfl rfl) rfl rfl ?_
    refine s_y (Y_as) rfl rfl ?_
    refine s_y (Y_as) rfl rfl ?_
    refine s_nil ?_
    refine q_then ?_
    refine c_seq ?_
    refine c_seq ?_
    -- law.go:124 R6
    refine c_reg ?_
    refine s_y (Y_mv) rfl rfl ?_
    refine s_y (Y_neq rfl rfl) rfl rfl ?_
    refine s_nil ?_
    refine q_then ?_
    refine c_F rfl ((by simp)) ?_
    refine c_skip ?_
    refine q_then ?_
    refine c_seq ?_
    refine c_seq ?_
    -- law.go:127 R8
    refine c_reg ?_
    refine s_y (Y_asC) rfl rfl ?_
    refine s_nil ?_
    refine q_then ?_
    refine c_block ?_
    refine c_loop [13, 14, 40, 41, 42, 43, 44, 45, 46, 47, 48, 49, 50, 51, 52, 53, 54, 55, 56, 57, 58, 59, 60, 61, 62, 63, 64, 65, 66, 67, 68, 69, 70, 71, 72, 73, 74] (fun n (y : Nat × List UInt8) => y.1 + n = 4 ∧ y.2.length = xs.length) (fun y => [(13, .int .i64 (y.1 : Int))]) (fun y => [yB gb cp y.2]) (4) ((0, xs)) (⟨by omega, rfl⟩) (by repeat (first | exact trivial | refine ⟨rfl, ?_⟩)) (fun _ h => h.sub (by repeat (first | exact List.Sublist.refl _ | exact List.nil_sublist _ | apply List.Sublist.cons_cons | apply List.Sublist.cons))) (fun _ => rfl) ?_
    rintro n ⟨i, ys⟩ j ⟨hi, hyl⟩ K hK
    simp only at hi hyl ⊢
    refine c_seq ?_
    refine c_seq ?_
    -- law.go:127 R9
    refine c_reg ?_
    refine s_y (Y_mv) rfl rfl ?_
    refine s_y (Y_mv) rfl rfl ?_
    refine s_y (Y_len rfl rfl Try.underlying24) rfl rfl ?_
    refine s_y (Y_lss rfl rfl) rfl rfl ?_
    refine s_y (Y_mv) rfl rfl ?_
    refine s_meet 5 [44, 45, 46, 47, 48, 49] (fun q : Bool => [(49, .bool q)]) (fun q => q = decide ((i : Int) < n1 ∧ (i : Int) < n2)) (fun _ => rfl) (fun hm => ?_) ?_
    · refine s_split (d := 44) rfl (fun ht => ?_) (fun ht => ?_)
      · skip
        first | refine s_y (Y_mv) rfl rfl ?_ | refine s_pass rfl rfl ?_
        first | refine s_y (Y_mv) rfl rfl ?_ | refine s_pass rfl rfl ?_
        first | refine s_y (Y_len rfl rfl Try.underlying27) rfl rfl ?_ | refine s_pass rfl rfl ?_
        first | refine s_y (Y_lss rfl rfl) rfl rfl ?_ | refine s_pass rfl rfl ?_
        refine s_y (Y_pk rfl (Gx.tmp (by repeat (first | exact Gt.here | apply Gt.there (by rfl) | exact Gt.base (by rfl)))) Gx.const) rfl rfl ?_
        exact hm _ _ (by (try simp only [Bool.not_eq_true', Bool.not_eq_false', Bool.not_not, Bool.not_true, Bool.not_false, decide_eq_true_eq, decide_eq_false_iff_not] at ht); first | exact decide_eq_decide.2 (by omega) | exact (decide_eq_false (by omega)).symm | exact (decide_eq_true (by omega)).symm | simp_all) ⟨rfl, trivial⟩ rfl
      · skip
        first | refine s_y (Y_mv) rfl rfl ?_ | refine s_pass rfl rfl ?_
        first | refine s_y (Y_mv) rfl rfl ?_ | refine s_pass rfl rfl ?_
        first | refine s_y (Y_len rfl rfl Try.underlying27) rfl rfl ?_ | refine s_pass rfl rfl ?_
        first | refine s_y (Y_lss rfl rfl) rfl rfl ?_ | refine s_pass rfl rfl ?_
        refine s_y (Y_pk rfl (Gx.tmp (by repeat (first | exact Gt.here | apply Gt.there (by rfl) | exact Gt.base (by rfl)))) Gx.const) rfl rfl ?_
        exact hm _ _ (by (try simp only [Bool.not_eq_true', Bool.not_eq_false', Bool.not_not, Bool.not_true, Bool.not_false, decide_eq_true_eq, decide_eq_false_iff_not] at ht); first | exact decide_eq_decide.2 (by omega) | exact (decide_eq_false (by omega)).symm | exact (decide_eq_true (by omega)).symm | simp_all) ⟨rfl, trivial⟩ rfl
    rintro _ j49 rfl
    refine s_y (Y_mv) rfl rfl ?_
    refine s_meet 3 [50, 51, 52, 53] (fun q : Bool => [(53, .bool q)]) (fun q => q = decide ((i : Int) < n1 ∧ (i : Int) < n2 ∧ (i : Int) < 4)) (fun _ => rfl) (fun hm => ?_) ?_
    · refine s_split (d := 50) rfl (fun ht => ?_) (fun ht => ?_)
      · skip
        first | refine s_y (Y_mv) rfl rfl ?_ | refine s_pass rfl rfl ?_
        first | refine s_y (Y_lss rfl rfl) rfl rfl ?_ | refine s_pass rfl rfl ?_
        refine s_y (Y_pk rfl (Gx.tmp (by repeat (first | exact Gt.here | apply Gt.there (by rfl) | exact Gt.base (by rfl)))) Gx.const) rfl rfl ?_
        refine s_nil ?_
        exact hm _ _ (by (try simp only [Bool.not_eq_true', Bool.not_eq_false', Bool.not_not, Bool.not_true, Bool.not_false, decide_eq_true_eq, decide_eq_false_iff_not] at ht); first | exact decide_eq_decide.2 (by omega) | exact (decide_eq_false (by omega)).symm | exact (decide_eq_true (by omega)).symm | simp_all) ⟨rfl, trivial⟩ rfl
      · skip
        first | refine s_y (Y_mv) rfl rfl ?_ | refine s_pass rfl rfl ?_
        first | refine s_y (Y_lss rfl rfl) rfl rfl ?_ | refine s_pass rfl rfl ?_
        refine s_y (Y_pk rfl (Gx.tmp (by repeat (first | exact Gt.here | apply Gt.there (by rfl) | exact Gt.base (by rfl)))) Gx.const) rfl rfl ?_
        refine s_nil ?_
        exact hm _ _ (by (try simp only [Bool.not_eq_true', Bool.not_eq_false', Bool.not_not, Bool.not_true, Bool.not_false, decide_eq_true_eq, decide_eq_false_iff_not] at ht); first | exact decide_eq_decide.2 (by omega) | exact (decide_eq_false (by omega)).symm | exact (decide_eq_true (by omega)).symm | simp_all) ⟨rfl, trivial⟩ rfl
    rintro _ j53 rfl
    refine s_nil ?_
    refine q_then ?_
    refine c_cond' rfl (fun h => ?_) (fun h => ?_)
    · skip
      refine c_skip ?_
      refine q_then ?_
      refine c_seq ?_
      refine c_block ?_
      refine c_seq ?_
      -- law.go:128 R11
      obtain ⟨z, hz1⟩ : ∃ z, ats[i]? = some z := ⟨ats[i]'(by omega), by simp⟩
      obtain ⟨ab, ao, rfl, har, hav⟩ := hat.at' hz1
      have hbl := hby.1
      obtain ⟨q, hq1⟩ : ∃ q, bys[i]? = some q := ⟨bys[i]'(by omega), by simp⟩
      obtain ⟨bb, bo, rfl, hbr⟩ := BytesAt.at' hby hq1
      refine c_reg ?_
      refine s_y (Y_mv) rfl rfl ?_
      refine s_y (Y_mv) rfl rfl ?_
      refine s_y (Y_ia1 rfl rfl Try.underlying24 sz3 rfl (by omega)) rfl rfl ?_
      refine s_y (Y_loadR (i := i) rfl one3 har rfl hav) rfl rfl ?_
      refine s_y (Y_mv) rfl rfl ?_
      refine s_y (Y_len rfl rfl Try.underlying27) rfl rfl ?_
      refine s_c (En_call (fun _ => rfl) Try.func11 rfl (by kernel_rfl) rfl) (fun w hH => within_n (N := xs.length) z rfl (by omega) (by omega)) rfl rfl ?_
      rintro _ _ ⟨k, hk, rfl, rfl⟩
      refine s_y (Y_as) rfl rfl ?_
      refine s_nil ?_
      refine q_then ?_
      -- law.go:129 R12
      obtain ⟨p, hp1⟩ : ∃ p, ys[k]? = some p := ⟨ys[k]'(by omega), by simp⟩
      have hkl : 0 + k < (List.map bv ys).length := by simp; omega
      obtain ⟨s, hs1⟩ := u8_any ((p.toNat : Int) + (q.toNat : Int))
      refine c_rord [12] [(0, true), (1, true), (2, true), (3, true), (4, true), (5, true), (6, true), (7, true), (8, true), (9, true), (10, true), (11, true), (12, false)] (by kernel_rfl) (by kernel_rfl) (by kernel_rfl) (by kernel_rfl) rfl (by intro c a d v w h; cases d <;> exact h) rfl ?_
      simp only [mkOrd, List.filterMap_cons, List.filterMap_nil, List.getElem?_toArray, List.getElem?_cons_zero, List.getElem?_cons_succ, Option.map_some]
      refine o_y (Y_mv) rfl rfl ?_
      refine o_y (Y_mv) rfl rfl ?_
      refine o_y (Y_mv) rfl rfl ?_
      refine o_y (Y_mv) rfl rfl ?_
      refine o_y (Y_ia1 rfl rfl Try.underlying27 sz5 rfl (by omega)) rfl rfl ?_
      refine o_y (Y_load (v := bv p) rfl one5 (by repeat (first | exact List.Mem.head _ | assumption | apply List.Mem.tail | apply List.mem_append_right)) (by simp only [Nat.zero_add, List.getElem?_map, hp1]; rfl)) rfl rfl ?_
      refine o_y (Y_mv) rfl rfl ?_
      refine o_y (Y_mv) rfl rfl ?_
      refine o_y (Y_ia1 rfl rfl Try.underlying27 sz5 rfl (by omega)) rfl rfl ?_
      refine o_y (Y_loadR (i := i) rfl one5 hbr rfl (by rw [List.getElem?_map, hq1]; rfl)) rfl rfl ?_
      refine o_y (Y_addw rfl rfl) rfl rfl ?_
      refine o_y (Y_ia1 rfl rfl Try.underlying27 sz5 rfl (by omega)) rfl rfl ?_
      refine o_s (S_st rfl (by repeat (first | exact Gt.here | apply Gt.there (by rfl) | exact Gt.base (by rfl))) sz5 (by rfl) (by repeat (first | exact Upd.head | apply Upd.tail)) (by first | (simp only [Nat.zero_add, Nat.reduceAdd, List.set_cons_succ, List.set_cons_zero]; rfl) | rfl) (by first | (simp; done) | omega)) (by first | exact keep_no rfl | exact keep_sub (by repeat (first | exact List.Sublist.refl _ | exact List.nil_sublist _ | apply List.Sublist.cons_cons | apply List.Sublist.cons))) rfl ?_
      refine o_nil ?_
      refine q_bn ?_
      refine q_then ?_
      -- law.go:127 R10
      refine c_reg ?_
      refine s_y (Y_mv) rfl rfl ?_
      refine s_y ((by first | exact Y_add rfl rfl (by omega) | exact Y_addw rfl rfl)) rfl rfl ?_
      refine s_y (Y_as) rfl rfl ?_
      refine s_nil ?_
      refine hK (n - 1) (i + 1, ys.set k s) _ _ (by omega) ⟨by simp only; omega, by simp only [List.length_set]; exact hyl⟩ ⟨rfl, trivial⟩ rfl (fun w hw => ?_)
      have e1 : yB gb cp (ys.set k s) = ⟨gb, 5, 1, cp, (ys.map bv).set k (.int .u8 (IntKind.u8.wrap ((p.toNat : Int) + (q.toNat : Int))))⟩ := by
        rw [hs1, ← List.map_set]
      show Has W1 [] [yB gb cp (ys.set k s)] w
      rw [e1]
      exact hw
    · skip
      refine c_exit ?_
      repeat with_reducible refine q_te ?_
      refine q_exit ?_
      refine q_then ?_
      refine c_seq ?_
      refine c_meetQ (ks := [11, 75, 76, 77, 78, 79, 80, 81, 82, 83, 84, 85, 86]) (tr := fun zs : List UInt8 => [(11, .slice (some ⟨gb, 0, none⟩) zs.length cp)]) (φ := fun zs => zs.length ≤ xs.length) (G := fun zs => [yB gb cp zs]) (fun _ => rfl) ?_ ?_
      · rintro zs j15 hzl
        refine q_then ?_
        refine c_seq ?_
        -- law.go:134 R15
        refine c_reg ?_
        refine s_y (Y_mv) rfl rfl ?_
        refine s_y (Y_mv) rfl rfl ?_
        refine s_n (N_appA (a2 := a4) (news := mores.map bv) rfl rfl Try.underlying27 inf5 rfl (by omega) (by repeat (first | exact Sel.head | apply Sel.tail)) (by simp) (by omega) hmn (BytesAt.cells hmo) (by simp [hml]) (by simp [Value.oneCell', bv]) (by omega) (by omega)) rfl rfl (fun ⟨g89, cp89⟩ hc89 => ?_)
        refine s_y (Y_as) rfl rfl ?_
        refine s_nil ?_
        refine QL.pick (L' := [⟨g89, 5, 1, cp89, zs.map bv ++ mores.map bv⟩]) (by repeat (first | exact Sels.nil | apply Sels.cons (by repeat (first | exact Sel.head | apply Sel.tail)))) ?_
        rw [← List.map_append]
        obtain ⟨bs, hbs⟩ : ∃ bs, bs = zs ++ mores := ⟨_, rfl⟩
        have hbl : bs.length = zs.length + n4 := by rw [hbs, List.length_append, hml]
        rw [← hbs]
        clear hbs
        refine q_then ?_
        refine c_seq ?_
        -- law.go:135 R16
        refine c_reg ?_
        refine s_n (N_bs0 rfl Try.underlying27 sz5) rfl rfl (fun b91 _ => ?_)
        refine s_y (Y_mv) rfl rfl ?_
        refine s_n (N_app (cs := []) (m := zs.length + n4) (news := bs.map bv) rfl rfl Try.underlying27 inf5 rfl (by omega) (by repeat (first | exact Sel.head | apply Sel.tail)) rfl (by omega) (src (by repeat (first | exact List.Mem.head _ | assumption | apply List.Mem.tail | apply List.mem_append_right))) (by simp [hbl]) (by simp [Value.oneCell', bv]) (by omega) (by omega)) rfl rfl (fun ⟨g93, cp93⟩ hc93 => ?_)
        refine s_c (En_call (fun _ => rfl) Try.func14 rfl (by kernel_rfl) rfl) (fun w hH => parse_d (bs := bs) (srcOf (by omega) (hH.at' (x := ⟨g93, 5, 1, cp93, [] ++ bs.map bv⟩) (by repeat (first | exact List.Mem.head _ | assumption | apply List.Mem.tail | apply List.mem_append_right))) hc93)) rfl rfl ?_
        rintro _ _ hP
        rename_i lP
        obtain ⟨o, e, rfl, P⟩ := got_p hP
        refine s_y (Y_mv) rfl rfl ?_
        refine s_y (Y_extract rfl rfl) rfl rfl ?_
        refine s_y (Y_extract rfl rfl) rfl rfl ?_
        refine s_n (N_alloc (z := .agg #[.int .i64 0, .int .i64 0, .int .i64 0, .bool false, .int .u32 0, .int .i64 0, .int .i64 0, .int .i64 0, .int .i64 0, .int .i64 0, .int .i64 0, .int .i64 0, .slice none 0 0, .int .i64 0, .int .i64 0, .int .i64 0, .int .i64 0, .slice none 0 0, .int .i64 0, .int .i64 0, .int .i64 0, .int .i64 0, .slice none 0 0, .slice none 0 0, .slice none 0 0, .slice none 0 0, .int .i64 0, .int .i64 0, .int .i64 0, .slice none 0 0]) (cs := [.int .i64 0, .int .i64 0, .int .i64 0, .bool false, .int .u32 0, .int .i64 0, .int .i64 0, .int .i64 0, .int .i64 0, .int .i64 0, .int .i64 0, .int .i64 0, .slice none 0 0, .int .i64 0, .int .i64 0, .int .i64 0, .int .i64 0, .slice none 0 0, .int .i64 0, .int .i64 0, .int .i64 0, .int .i64 0, .slice none 0 0, .slice none 0 0, .slice none 0 0, .slice none 0 0, .int .i64 0, .int .i64 0, .int .i64 0, .slice none 0 0]) zv29 rfl) rfl rfl (fun b15 _ => ?_)
        refine s_s ((by first | exact S_storeA rfl rfl sz29 (by first | rfl | assumption) (by first | rfl | assumption) (by repeat (first | exact Upd.head | apply Upd.tail)) (by first | rfl | assumption) | exact S_storeN rfl rfl sz29 (by rfl) (by first | rfl | assumption) (by repeat (first | exact Upd.head | apply Upd.tail)) (by simp only [setAll, List.set_cons_zero, List.set_cons_succ, Nat.zero_add, Nat.reduceAdd]; rfl) (by first | rfl | assumption))) rfl ?_
        refine s_y (Y_as) rfl rfl ?_
        refine s_nil ?_
        refine q_then ?_
        refine c_seq ?_
        -- law.go:136 R17
        refine c_reg ?_
        refine s_y (Y_mv) rfl rfl ?_
        refine s_c (En_call (fun _ => rfl) Try.func15 rfl (by kernel_rfl) rfl) (fun w hH => refparse_d (bs := bs) (srcOf (by omega) (hH.at' (x := ⟨g89, 5, 1, cp89, bs.map bv⟩) (by simp)) hc89)) rfl rfl ?_
        rintro _ _ hR
        rename_i lR
        obtain ⟨q, f, rfl, R⟩ := got_r hR
        obtain rfl : f = e := R.err.trans P.err.symm
        refine s_y (Y_mv) rfl rfl ?_
        refine s_y (Y_extract rfl rfl) rfl rfl ?_
        refine s_y (Y_extract rfl rfl) rfl rfl ?_
        refine s_n (N_alloc (z := .agg #[.int .i64 0, .int .i64 0, .int .i64 0, .bool false, .int .u32 0, .int .i64 0, .int .i64 0, .int .i64 0, .int .i64 0, .int .i64 0, .int .i64 0, .int .i64 0, .slice none 0 0, .int .i64 0, .int .i64 0, .int .i64 0, .int .i64 0, .slice none 0 0, .int .i64 0, .int .i64 0, .int .i64 0, .int .i64 0, .slice none 0 0, .slice none 0 0, .slice none 0 0, .slice none 0 0, .int .i64 0, .int .i64 0, .int .i64 0, .slice none 0 0]) (cs := [.int .i64 0, .int .i64 0, .int .i64 0, .bool false, .int .u32 0, .int .i64 0, .int .i64 0, .int .i64 0, .int .i64 0, .int .i64 0, .int .i64 0, .int .i64 0, .slice none 0 0, .int .i64 0, .int .i64 0, .int .i64 0, .int .i64 0, .slice none 0 0, .int .i64 0, .int .i64 0, .int .i64 0, .int .i64 0, .slice none 0 0, .slice none 0 0, .slice none 0 0, .slice none 0 0, .int .i64 0, .int .i64 0, .int .i64 0, .slice none 0 0]) zv42 rfl) rfl rfl (fun b17 _ => ?_)
        refine s_s ((by first | exact S_storeA rfl rfl sz42 (by first | rfl | assumption) (by first | rfl | assumption) (by repeat (first | exact Upd.head | apply Upd.tail)) (by first | rfl | assumption) | exact S_storeN rfl rfl sz42 (by rfl) (by first | rfl | assumption) (by repeat (first | exact Upd.head | apply Upd.tail)) (by simp only [setAll, List.set_cons_zero, List.set_cons_succ, Nat.zero_add, Nat.reduceAdd]; rfl) (by first | rfl | assumption))) rfl ?_
        refine s_y (Y_as) rfl rfl ?_
        refine s_nil ?_
        refine q_then ?_
        refine c_seq ?_
        refine c_seq ?_
        -- law.go:137 R18
        refine c_rord [] [(0, true), (1, true), (2, true), (3, true), (4, true), (6, true), (5, false), (7, false), (8, true), (9, true)] (by kernel_rfl) (by kernel_rfl) (by kernel_rfl) (by kernel_rfl) rfl (by intro c a d v w h; cases d <;> exact h) rfl ?_
        simp only [mkOrd, List.filterMap_cons, List.filterMap_nil, List.getElem?_toArray, List.getElem?_cons_zero, List.getElem?_cons_succ, Option.map_some]
        refine o_y (Y_mv) rfl rfl ?_
        refine o_y (Y_mv) rfl rfl ?_
        refine o_y (Y_neq rfl rfl) rfl rfl ?_
        refine o_y (Y_mv) rfl rfl ?_
        refine QL.known (d := 105) (t := decide (f ≠ f)) rfl (decide_eq_false (by simp)) ?_
        first | refine o_y ((by first | exact Y_loadAll rfl many29 (by repeat (first | exact List.Mem.head _ | assumption | apply List.Mem.tail | apply List.mem_append_right)) (by rfl) | exact Y_loadN rfl many29 (by repeat (first | exact List.Mem.head _ | assumption | apply List.Mem.tail | apply List.mem_append_right)) ‹_› ‹_› | exact Y_loadNR rfl many29 ‹_› rfl)) rfl rfl ?_ | refine o_pass rfl rfl ?_
        first | refine o_y ((by first | exact Y_loadAll rfl many42 (by repeat (first | exact List.Mem.head _ | assumption | apply List.Mem.tail | apply List.mem_append_right)) (by rfl) | exact Y_loadN rfl many42 (by repeat (first | exact List.Mem.head _ | assumption | apply List.Mem.tail | apply List.mem_append_right)) ‹_› ‹_› | exact Y_loadNR rfl many42 ‹_› rfl)) rfl rfl ?_ | refine o_pass rfl rfl ?_
        refine o_c (En_call (fun _ => rfl) Try.func13 rfl (by kernel_rfl) rfl) (fun w hH => told_d) (fun _ _ h => by obtain ⟨rfl, rfl⟩ := h; exact (by first | exact keep_no rfl | exact keep_sub (by repeat (first | exact List.Sublist.refl _ | exact List.nil_sublist _ | apply List.Sublist.cons_cons | apply List.Sublist.cons)))) rfl rfl ?_
        rintro _ _ ⟨rfl, rfl⟩
        refine o_c (En_call (fun _ => rfl) Try.func16 rfl (by kernel_rfl) rfl) (fun w hH => refsame2 P R (hM := fun x hx => hH.at' (by simp [hx])) (hR := fun x hx => hH.at' (by simp [hx]))) (fun _ _ h => by obtain ⟨rfl, rfl⟩ := h; exact (by first | exact keep_no rfl | exact keep_sub (by repeat (first | exact List.Sublist.refl _ | exact List.nil_sublist _ | apply List.Sublist.cons_cons | apply List.Sublist.cons)))) rfl rfl ?_
        rintro _ _ ⟨rfl, rfl⟩
        first | refine o_y (Y_not rfl) rfl rfl ?_ | refine o_pass rfl rfl ?_
        refine o_y (Y_pk rfl Gx.const (Gx.tmp (by repeat (first | exact Gt.here | apply Gt.there (by rfl) | exact Gt.base (by rfl))))) rfl rfl ?_
        refine o_nil ?_
        refine q_then ?_
        refine c_F rfl ((by rfl)) ?_
        refine c_skip ?_
        refine q_then ?_
        refine c_seq ?_
        refine c_seq ?_
        -- law.go:140 R20
        refine c_reg ?_
        refine s_y (Y_mv) rfl rfl ?_
        refine s_y (Y_neq rfl rfl) rfl rfl ?_
        refine s_nil ?_
        refine q_then ?_
        refine c_cond' rfl (fun he => ?_) (fun he => ?_)
        · skip
          refine c_seq ?_
          -- law.go:141 R21
          refine c_reg ?_
          refine s_y (Y_asC) rfl rfl ?_
          refine s_nil ?_
          refine q_then ?_
          refine c_ret ?_
          exact q_ret1W (.bool true) hX1 rfl rfl rfl
        · skip
          refine c_skip ?_
          refine q_then ?_
          refine c_seq ?_
          -- law.go:143 R22
          have he0 : f = 0 := by simpa using he
          obtain ⟨en1, en2, en3, en4, en5⟩ := P.enc he0
          refine c_reg ?_
          refine s_y ((by first | exact Y_loadAll rfl many29 (by repeat (first | exact List.Mem.head _ | assumption | apply List.Mem.tail | apply List.mem_append_right)) (by rfl) | exact Y_loadN rfl many29 (by repeat (first | exact List.Mem.head _ | assumption | apply List.Mem.tail | apply List.mem_append_right)) ‹_› ‹_› | exact Y_loadNR rfl many29 ‹_› rfl)) rfl rfl ?_
          refine s_c (En_call (fun _ => rfl) Try.func10 rfl (by kernel_rfl) rfl) (fun w hH => encode_does (P.val he0 w (fun x hx => hH.at' (by simp [hx]))) en3 en5 en2) rfl rfl ?_
          rintro _ _ ⟨ga2, cap2, hcap2, _, rfl, rfl⟩
          rw [en1]
          refine s_y (Y_mv) rfl rfl ?_
          refine s_y (Y_extract rfl rfl) rfl rfl ?_
          refine s_y (Y_extract rfl rfl) rfl rfl ?_
          refine s_y (Y_as) rfl rfl ?_
          refine s_y (Y_as) rfl rfl ?_
          refine s_nil ?_
          refine q_then ?_
          refine c_seq ?_
          -- law.go:144 R23
          refine c_reg ?_
          refine s_y (Y_mv) rfl rfl ?_
          refine s_y (Y_eql rfl rfl) rfl rfl ?_
          refine s_y (Y_mv) rfl rfl ?_
          refine s_known (d := 121) rfl rfl ?_
          first | refine s_y (Y_mv) rfl rfl ?_ | refine s_pass rfl rfl ?_
          first | refine s_y (Y_bs rfl Try.underlying27 Try.underlying5 Try.underlying9 (fun w hH => bytesL (t := 5) (k := 1) (cap := cap2) (by repeat (first | exact List.Mem.head _ | assumption | apply List.Mem.tail | apply List.mem_append_right)) hH)) rfl rfl ?_ | refine s_pass rfl rfl ?_
          first | refine s_y (Y_mv) rfl rfl ?_ | refine s_pass rfl rfl ?_
          first | refine s_y (Y_bs (xs := bs) rfl Try.underlying27 Try.underlying5 Try.underlying9 (fun w hH => ⟨hbl, (bytesL (g := g89) (t := 5) (k := 1) (cap := cp89) (xs := bs) (by simp) hH).2⟩)) rfl rfl ?_ | refine s_pass rfl rfl ?_
          first | refine s_y (Y_eqS rfl rfl) rfl rfl ?_ | refine s_pass rfl rfl ?_
          refine s_y (Y_pk rfl (Gx.tmp (by repeat (first | exact Gt.here | apply Gt.there (by rfl) | exact Gt.base (by rfl)))) Gx.const) rfl rfl ?_
          refine s_y (Y_as) rfl rfl ?_
          refine s_nil ?_
          refine q_then ?_
          refine c_ret ?_
          exact q_ret1W (.bool true) hX1 rfl (by simp [Ov.get]) rfl
      · intro go
        refine c_seq ?_
        -- law.go:131 R13
        refine c_reg ?_
        refine s_y (Y_mv) rfl rfl ?_
        refine s_y (Y_gtr rfl rfl) rfl rfl ?_
        refine s_nil ?_
        refine q_then ?_
        refine c_cond' rfl (fun hcut => ?_) (fun hcut => ?_)
        · skip
          -- law.go:132 R14
          refine c_reg ?_
          refine s_y (Y_mv) rfl rfl ?_
          refine s_y (Y_mv) rfl rfl ?_
          refine s_y (Y_len rfl rfl Try.underlying27) rfl rfl ?_
          refine s_y (Y_mv) rfl rfl ?_
          refine s_y (Y_mv) rfl rfl ?_
          refine s_y (Y_len rfl rfl Try.underlying27) rfl rfl ?_
          refine s_y ((by first | exact Y_add rfl rfl (by omega) | exact Y_addw rfl rfl)) rfl rfl ?_
          refine s_c (En_call (fun _ => rfl) Try.func11 rfl (by kernel_rfl) rfl) (fun w hH => within_n (N := xs.length + 1) cut (by omega) (by omega) (by omega)) rfl rfl ?_
          rintro _ _ ⟨k, hk, rfl, rfl⟩
          refine s_y ((by first | exact Y_sub rfl rfl (by omega) | exact Y_subw rfl rfl)) rfl rfl ?_
          refine s_y (Y_slHi (h := xs.length - k) rfl rfl Try.underlying27 sz5 (by omega) (by omega)) rfl rfl ?_
          refine s_y (Y_as) rfl rfl ?_
          refine s_nil ?_
          refine go (ys.take (xs.length - k)) _ _ (by rw [List.length_take]; omega) ⟨by rw [List.length_take, Nat.min_eq_left (by omega)]; rfl, trivial⟩ rfl (fun w h => h.shrink (by rw [List.map_take]; exact List.take_prefix _ _))
        · skip
          refine c_skip ?_
          exact go ys _ _ (by omega) ⟨by rw [hyl]; rfl, trivial⟩ rfl (fun _ h => h)
theorem wireTurns_walk {W : World} {m : MsgD} (ML : MsgL m) (MV : tot m < 2000 → MsgV W m) (hdc : m.dl ≤ m.dc) {a1 a2 a4 : Option Addr} {n1 n2 n4 c1 c2 c4 : Nat} {ats : List Int} {bys mores : List UInt8} {cut : Int}
    (hat : IntsAt W a1 ats) (hatl : ats.length = n1) (hby : BytesAt W a2 n2 bys) (hmo : BytesAt W a4 n4 mores) (hmn : a4 = none → n4 = 0 ∧ c4 = 0) :
    Calls Try.prog 5 #[.agg (msgCells m), .slice a1 n1 c1, .slice a2 n2 c2, .int .i64 cut, .slice a4 n4 c4] W fun e w' => e = .returned (.bool true) ∧ Ex [] W w' :=
  Calls.mono (wireTurns_d ML MV hdc hat hatl hby hmo hmn) fun _ _ ⟨v, L, h1, h2, h3⟩ => ⟨by rw [h1, h3], h2.ex⟩
theorem slice_nil {H : Type} {enc : TypeId × Value → H} {W : World} {base : Nat} {sp : Nat → Bool} {held : Bool} {fuel : Nat} {t e : TypeId} (ht : Try.prog.underlying t = some (.slice e)) {a : Option Addr} {len cap : Nat} {x : DataW H × List MemPlace} (h : DataW.trod enc Try.prog W base sp held fuel t [.slice a len cap] = some x) : a = none → len = 0 ∧ cap = 0 := by
  intro hn
  rcases slice_inv ht h with ⟨z1, z2, z3, _⟩ | ⟨ad2, ds2, rest2, f2, z1, _⟩
  · exact ⟨z2, z3⟩
  · rw [hn] at z1; cases z1
end Go.Proofs.Ytphmdhbhoakcaaa
