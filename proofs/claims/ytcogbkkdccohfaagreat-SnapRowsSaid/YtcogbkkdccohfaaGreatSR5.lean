/- Texts of this claim, laid together: part 5. -/
import Derived.Test.YtcogbkkdccohfaaGreatSR4
import Derived.ChangeArms
set_option linter.unusedVariables false
set_option linter.unusedSimpArgs false
set_option maxHeartbeats 1600000
namespace Go.Ad
open Go.RowKit Go.Maps Go.Proofs.YtcogbkkdccohfaaGreat
abbrev frE (e : Ent) : Ent := { Ent.zero with gen := e.gen }
theorem freeE_map {l : List Ent} {i : Nat} (h : i < l.length) : freeE (mapI frE l i) i = mapI frE l (i + 1) := by
  obtain ⟨e, he⟩ := take_lt h
  unfold freeE
  rw [if_pos (by omega), Int.toNat_natCast, egt_of (mapI_get he), mapI_succ he]
theorem freeF_map (l : List Ent) {i : Nat} (h : l.length ≤ i) : mapI frE l i = freeF l := mapI_all frE l h
theorem SlB.hasM {W w : World} {M : List Nat} {L : List Bk} {b o n c k : Nat} {cs : List Value} (h : SlB W b o n c k cs) (hM : b ∉ M) (hH : Has W M L w) : SlB w b o n c k cs := h.has hH hM
theorem WL.at' {W : World} {d : Wd} {s : Ws} (h : WL W d s) : WAt W d s := by
  obtain ⟨z1, z2, z3⟩ := h.sz
  exact ⟨by rw [z1]; exact h.c, by rw [z2]; exact h.e, by rw [z3]; exact h.i⟩
theorem wv_wL {d : Wd} {s : Ws} (h : d.cells.length = 384 ∧ d.ents.length = 32 ∧ d.items.length = 40) : wv d s = wL d s := by
  unfold wv; rw [h.1, h.2.1, h.2.2]
end Go.Ad
namespace Go.Proofs.YtcogbkkdccohfaaGreat
open Go.RowKit Go.Ad Go.Maps
set_option linter.unusedVariables false
set_option linter.unusedSimpArgs false
theorem EntsP.atM {b o n c : Nat} {l l' : List Ent} {v : Value} {B : List Bk} (h : EntsP b o n c l l' v B) : ∃ b' o' c', v = .slice (some ⟨b', o', none⟩) n c' ∧ ∀ {W w : World} {M : List Nat} {L : List Bk}, SlB W b o n c 11 (ecells l) → b ∉ M → Has W M L w → (∀ x ∈ B, x ∈ L) → SlB w b' o' n c' 11 (ecells l') := by
  cases h with
  | old h => subst h; exact ⟨b, o, c, rfl, fun hs hM hH _ => hs.has hH hM⟩
  | @new g cap h1 h2 => exact ⟨g, 0, cap, rfl, fun hs hM hH hB => (hH.at' (hB _ (List.Mem.head _))).sl (by rw [ecells_len, h2]) (by rw [← h2]; exact h1)⟩
theorem placeF_step (cells : List UInt8) (old l : List Ent) (n : Nat) : placeF cells old l (n + 1) = if eHero old n < 0 then placeF cells old l n else (placeF cells old l n).set (eHero old n).toNat (heroM cells (placeF cells old l n) (egt old (eHero old n))).1 := rfl
def StockL (d : Wd) (s : Ws) (d' : Wd) (v : Value) (L : List Bk) : Prop := ∃ ev B ig ic, v = .agg #[iv d.seed, iv d.frame, iv d.floor, iv d.state, .slice (some ⟨s.cb, s.co, none⟩) 384 s.cc, ev, .slice (some ⟨ig, 0, none⟩) 40 ic, iv d.gold.a, iv d.gold.b, iv d.gold.c, iv d.gold.d] ∧ EntsP s.eb s.eo 32 s.ec d.ents d'.ents ev B ∧ 40 ≤ ic ∧ L = iB ig ic d'.items :: B
section
variable {W : World}
theorem rstockL_d {d : Wd} {s : Ws} (hw : WL W d s) {m : Lvl} {cv mev miv : Value} (hc : cv.oneCell' = true) (hme : SlV W 11 mev m.ents.length (ecells m.ents)) (hmi : SlV W 4 miv m.items.length (icells m.items)) :
    Does Tryz.prog 76 [.agg (wL d s).toArray, .agg #[cv, mev, miv]] W [] (StockL d s (stockW d m)) := by
  obtain ⟨z1, z2, z3⟩ := hw.sz
  have h := rstock_d hw.at' ⟨by omega, by omega⟩ hc hme hmi
  rw [wv_wL ⟨z1, z2, z3⟩] at h
  refine h.post fun v L => ?_
  rintro ⟨ev, B, ig, ic, h1, h2, h3, h4⟩
  rw [z1, z3] at h1
  rw [z2] at h2
  rw [z3] at h3
  exact ⟨ev, B, ig, ic, h1, h2, h3, h4⟩
set_option maxRecDepth 100000 in
set_option maxHeartbeats 1600000 in
theorem rbelow_d {d : Wd} {cb co cc eb eo ec ib ic : Nat} (he : SlB W eb eo 32 ec 11 (ecells d.ents)) (hx : (iB ib ic d.items).holds W) (hne : eb ≠ ib) (l3 : 40 ≤ ic) (hv : VW d) (hf : d.floor ≤ 2) :
    Does Tryz.prog 95 [.agg (wL d ⟨cb, co, cc, eb, eo, ec, ib, 0, ic⟩).toArray] W [ib] (WN (belowM d)) := by
  obtain ⟨z1, z2, z3⟩ := hv.sz
  have hfn := hv.nums.1
  have hM : eb ∉ [ib] := by simpa using hne
  obtain ⟨fl, hfl⟩ : ∃ q, d.floor + 1 = q := ⟨_, rfl⟩
  have hml := make_len d.seed fl
  have hbe : belowM d = stockW { d with floor := fl, cells := (makeM d.seed fl).cells, items := d.items.map keepI, ents := placeF (makeM d.seed fl).cells d.ents (freeF d.ents) 4 } (makeM d.seed fl) := by rw [← hfl]; rfl
  have hmk := @rmake_d (floor := fl) (seed := d.seed)
  obtain ⟨m, hm⟩ : ∃ q, makeM d.seed fl = q := ⟨_, rfl⟩
  rw [hm] at hml hbe
  simp only [hm] at hmk
  rw [hbe]
  clear hbe hm
  refine enter Tryz.func95 rfl rfl rfl (Has.start1 hx) ?_
  refine c_seq ?_
  refine c_reg ?_
  refine s_n (N_box (cs := wL d ⟨cb, co, cc, eb, eo, ec, ib, 0, ic⟩) rfl) rfl rfl (fun b1 _ => ?_)
  refine s_n (N_alloc (z := .agg #[.int .i64 0, .int .i64 0, .int .i64 0, .int .i64 0, .slice none 0 0, .slice none 0 0, .slice none 0 0, .int .i64 0, .int .i64 0, .int .i64 0, .int .i64 0]) (cs := [.int .i64 0, .int .i64 0, .int .i64 0, .int .i64 0, .slice none 0 0, .slice none 0 0, .slice none 0 0, .int .i64 0, .int .i64 0, .int .i64 0, .int .i64 0]) zv34 rfl) rfl rfl (fun b2 _ => ?_)
  refine s_nil ?_
  refine q_then ?_
  refine c_seq ?_
  refine c_reg ?_
  refine s_y (Y_fa 2 rfl Tryz.underlying34 rfl sz3 rfl) rfl rfl ?_
  refine s_y (yl_ one3) rfl rfl ?_
  refine s_y ((Y_add rfl rfl (by omega)).num hfl) rfl rfl ?_
  refine s_y (Y_fa 2 rfl Tryz.underlying34 rfl sz3 rfl) rfl rfl ?_
  refine s_s (S_st (cs' := wL { d with floor := fl } ⟨cb, co, cc, eb, eo, ec, ib, 0, ic⟩) rfl gt_ sz3 (by rfl) up_ (by rfl) (by simp only [List.length_cons, List.length_nil]; omega)) rfl ?_
  refine s_nil ?_
  refine q_then ?_
  refine c_seq ?_
  refine c_reg ?_
  refine s_y (Y_fa 0 rfl Tryz.underlying34 rfl sz2 rfl) rfl rfl ?_
  refine s_y (yl_ one2) rfl rfl ?_
  refine s_y (Y_fa 2 rfl Tryz.underlying34 rfl sz3 rfl) rfl rfl ?_
  refine s_y (yl_ one3) rfl rfl ?_
  refine s_c (En_call (fun _ => rfl) Tryz.func75 rfl (by kernel_rfl) rfl) (fun w hH => hmk w (by omega)) rfl rfl ?_
  rintro _ _ ⟨cb2, ev, E, iv', I, rfl, hE, hI, rfl⟩
  refine QL.perm (List.perm_append_comm.cons _) ?_
  refine s_n (N_alloc (z := .agg #[.slice none 0 0, .slice none 0 0, .slice none 0 0]) (cs := [.slice none 0 0, .slice none 0 0, .slice none 0 0]) zv138 rfl) rfl rfl (fun b3 _ => ?_)
  refine s_s (S_storeA (vs := [.slice (some ⟨cb2, 0, none⟩) 384 384, ev, iv']) rfl rfl sz138 (by rfl) (by simp only [List.all_cons, List.all_nil, hE.one, hI.one]; rfl) up_ (by rfl)) rfl ?_
  refine s_nil ?_
  refine q_then ?_
  refine c_seq ?_
  refine c_reg ?_
  refine s_y (Y_fa 0 rfl Tryz.underlying138 rfl sz24 rfl) rfl rfl ?_
  refine s_y (yl_ one24) rfl rfl ?_
  refine s_y (Y_fa 4 rfl Tryz.underlying34 rfl sz24 rfl) rfl rfl ?_
  refine s_s (S_st (cs' := wL { d with floor := fl } ⟨cb2, 0, 384, eb, eo, ec, ib, 0, ic⟩) rfl gt_ sz24 (by rfl) up_ (by rfl) (by simp only [List.length_cons, List.length_nil]; omega)) rfl ?_
  refine s_nil ?_
  refine q_then ?_
  refine c_seq ?_
  refine c_seq ?_
  refine c_reg ?_
  refine s_y (Y_asC) rfl rfl ?_
  refine s_nil ?_
  refine q_then ?_
  refine c_block ?_
  refine c_loop [4, 23, 24, 25, 26, 27, 28, 29, 30, 31, 32, 33, 34, 35, 36, 37, 38, 39, 40, 41, 42, 43, 44, 45, 46, 47, 48, 49, 50] (fun m2 (i : Nat) => i + m2 = 40) (fun i => [(4, iv i)]) (fun i => lB b3 [.slice (some ⟨cb2, 0, none⟩) 384 384, ev, iv'] :: cB cb2 384 m.cells :: wB b2 wz :: wB b1 (wL { d with floor := fl } ⟨cb2, 0, 384, eb, eo, ec, ib, 0, ic⟩) :: iB ib ic (mapI keepI d.items i) :: (I ++ E)) (40) (0) (rfl) (by repeat (first | exact trivial | refine ⟨rfl, ?_⟩)) (fun w h => by rw [mapI_zero]; exact h) (fun _ => rfl) ?_
  rintro m2 i j hi K hK
  refine c_seq ?_
  refine c_seq ?_
  refine c_reg ?_
  refine s_y (Y_mv) rfl rfl ?_
  refine s_y (Y_fa 6 rfl Tryz.underlying34 rfl sz31 rfl) rfl rfl ?_
  refine s_y (yl_ one31) rfl rfl ?_
  refine s_y (Y_len rfl rfl Tryz.underlying31) rfl rfl ?_
  refine s_y (Y_lss rfl rfl) rfl rfl ?_
  refine s_nil ?_
  refine q_then ?_
  first | refine c_cond' rfl (fun hc5 => ?_) (fun hc5 => ?_) | refine c_cond rfl (fun hc5 => ?_) (fun hc5 => ?_)
  · skip
    try simp only [nrm_] at hc5
    refine c_skip ?_
    refine q_then ?_
    refine c_seq ?_
    refine c_block ?_
    refine c_seq ?_
    obtain ⟨x, hx0⟩ := take_lt (show i < d.items.length by omega)
    have hx := mapI_get (f := keepI) hx0
    have hml := mapI_len keepI d.items i
    refine c_reg ?_
    refine s_y (Y_fa 6 rfl Tryz.underlying34 rfl sz31 rfl) rfl rfl ?_
    refine s_y (yl_ one31) rfl rfl ?_
    refine s_y (Y_mv) rfl rfl ?_
    refine s_y (Y_ia rfl rfl Tryz.underlying31 sz98 rfl (by omega)) rfl rfl ?_
    refine s_y (Y_fa 1 rfl Tryz.underlying98 rfl sz3 rfl) rfl rfl ?_
    refine s_y (yl_ one3) rfl rfl ?_
    refine s_y (Y_eql rfl rfl) rfl rfl ?_
    refine s_y (Y_mv) rfl rfl ?_
    apply s_or 8 [37, 38, 39, 40, 41, 42, 43, 44, 45] 45 (g := 37) rfl rfl
    · intro ht8 hm
      try simp only [nrm_] at ht8
      first | refine s_y (Y_fa 6 rfl Tryz.underlying34 rfl sz31 rfl) rfl rfl ?_ | refine s_pass rfl rfl ?_
      first | refine s_y (yl_ one31) rfl rfl ?_ | refine s_pass rfl rfl ?_
      first | refine s_y (Y_mv) rfl rfl ?_ | refine s_pass rfl rfl ?_
      first | refine s_y (Y_ia rfl rfl Tryz.underlying31 sz98 rfl (by omega)) rfl rfl ?_ | refine s_pass rfl rfl ?_
      first | refine s_y (Y_fa 1 rfl Tryz.underlying98 rfl sz3 rfl) rfl rfl ?_ | refine s_pass rfl rfl ?_
      first | refine s_y (yl_ one3) rfl rfl ?_ | refine s_pass rfl rfl ?_
      first | refine s_y (Y_eql rfl rfl) rfl rfl ?_ | refine s_pass rfl rfl ?_
      refine s_y (Y_pk rfl Gx.const (Gx.tmp gt_)) rfl rfl ?_
      first | exact hm _ ⟨rfl, trivial⟩ rfl | exact QL.sub sl_ (hm _ ⟨rfl, trivial⟩ rfl)
    · intro ht8 hm
      iterate 7 refine s_pass rfl rfl ?_
      refine s_y (Y_pk rfl Gx.const (Gx.tmp gt_)) rfl rfl ?_
      exact hm _ ⟨rfl, trivial⟩ rfl
    intro j45
    refine s_nil ?_
    refine q_then ?_
    first | refine c_cond' rfl (fun hc7 => ?_) (fun hc7 => ?_) | refine c_cond rfl (fun hc7 => ?_) (fun hc7 => ?_)
    · skip
      try simp only [nrm_] at hc7
      refine c_reg ?_
      refine s_y (Y_fa 6 rfl Tryz.underlying34 rfl sz31 rfl) rfl rfl ?_
      refine s_y (yl_ one31) rfl rfl ?_
      refine s_y (Y_mv) rfl rfl ?_
      refine s_y (Y_build (cs := [.int .i64 0, .int .i64 0, .int .i64 0, .int .i64 0]) (by repeat (first | exact Gp.nil | apply Gp.const | apply Gp.tmp gt_)) (bld98 _ _ (by first | rfl | (simp; rfl)))) rfl rfl ?_
      refine s_y (Y_ia rfl rfl Tryz.underlying31 sz98 rfl (by omega)) rfl rfl ?_
      refine s_s (S_storeN (cs' := icells ((mapI keepI d.items i).set i Itm.zero)) rfl rfl sz98 (by rfl) (by rfl) up_ (iall Itm.zero (by omega)) (ble_i (by omega))) rfl ?_
      refine s_nil ?_
      refine q_bn ?_
      refine q_then ?_
      refine c_reg ?_
      refine s_y (Y_mv) rfl rfl ?_
      refine s_y ad_ rfl rfl ?_
      refine s_y (Y_as) rfl rfl ?_
      refine s_nil ?_
      have hs : keepI x = Itm.zero := by unfold keepI; rw [if_pos (by omega)]
      refine hK (m2 - 1) (i + 1) _ _ (by omega) (by omega) ⟨rfl, trivial⟩ rfl (fun w h => ?_)
      simp only; rw [mapI_succ hx0, hs]; exact h
    · skip
      try simp only [nrm_] at hc7
      refine c_skip ?_
      refine q_bn ?_
      refine q_then ?_
      refine c_reg ?_
      refine s_y (Y_mv) rfl rfl ?_
      refine s_y ad_ rfl rfl ?_
      refine s_y (Y_as) rfl rfl ?_
      refine s_nil ?_
      have hs : keepI x = x := by unfold keepI; rw [if_neg (by omega)]
      refine hK (m2 - 1) (i + 1) _ _ (by omega) (by omega) ⟨rfl, trivial⟩ rfl (fun w h => ?_)
      simp only; rw [mapI_same hx0 hs]; exact h
  · skip
    try simp only [nrm_] at hc5
    refine c_exit ?_
    repeat with_reducible refine q_te ?_
    refine q_exit ?_
    refine q_then ?_
    refine c_seq ?_
    rw [mapI_all keepI d.items (show d.items.length ≤ i by omega)]
    refine c_reg ?_
    refine s_y (Y_fa 5 rfl Tryz.underlying34 rfl sz30 rfl) rfl rfl ?_
    refine s_y (yl_ one30) rfl rfl ?_
    refine s_y (Y_as) rfl rfl ?_
    refine s_nil ?_
    refine q_then ?_
    refine c_seq ?_
    refine c_seq ?_
    refine c_reg ?_
    refine s_y (Y_asC) rfl rfl ?_
    refine s_nil ?_
    refine q_then ?_
    refine c_block ?_
    refine c_loop [6, 53, 54, 55, 56, 57, 58, 59, 60, 61, 62, 63] (fun m2 (y : Nat × Value × List Bk) => y.1 + m2 = 32 ∧ EntsP eb eo 32 ec d.ents (mapI frE d.ents y.1) y.2.1 y.2.2 ∧ (y.1 ≠ 0 → ∃ g cap, y.2.1 = .slice (some ⟨g, 0, none⟩) 32 cap ∧ 32 ≤ cap ∧ y.2.2 = [eB g cap (mapI frE d.ents y.1)])) (fun y => [(6, iv y.1)]) (fun y => lB b3 [.slice (some ⟨cb2, 0, none⟩) 384 384, ev, iv'] :: cB cb2 384 m.cells :: wB b2 wz :: wB b1 [iv d.seed, iv d.frame, iv fl, iv d.state, .slice (some ⟨cb2, 0, none⟩) 384 384, y.2.1, .slice (some ⟨ib, 0, none⟩) 40 ic, iv d.gold.a, iv d.gold.b, iv d.gold.c, iv d.gold.d] :: iB ib ic (d.items.map keepI) :: (y.2.2 ++ (I ++ E))) (32) ((0, .slice (some ⟨eb, eo, none⟩) 32 ec, [])) (⟨rfl, .old (mapI_zero _ _), fun h => absurd rfl h⟩) (by repeat (first | exact trivial | refine ⟨rfl, ?_⟩)) (fun _ h => h.sub sl_) (fun _ => rfl) ?_
    rintro m2 ⟨i, v, B⟩ j ⟨hi, hP, hnew⟩ K hK
    simp only at hi hP hnew ⊢
    obtain ⟨eb1, eo1, ec1, rfl, hsl⟩ := hP.atM
    have hln := mapI_len frE d.ents i
    refine c_seq ?_
    refine c_seq ?_
    refine c_reg ?_
    refine s_y (Y_mv) rfl rfl ?_
    refine s_y (Y_mv) rfl rfl ?_
    refine s_y (Y_len rfl rfl Tryz.underlying30) rfl rfl ?_
    refine s_y (Y_lss rfl rfl) rfl rfl ?_
    refine s_nil ?_
    refine q_then ?_
    first | refine c_cond' rfl (fun hc11 => ?_) (fun hc11 => ?_) | refine c_cond rfl (fun hc11 => ?_) (fun hc11 => ?_)
    · skip
      try simp only [nrm_] at hc11
      refine c_skip ?_
      refine q_then ?_
      refine c_seq ?_
      refine c_block ?_
      refine c_reg ?_
      refine s_y (Y_fa 5 rfl Tryz.underlying34 rfl sz30 rfl) rfl rfl ?_
      refine s_y (yl_ one30) rfl rfl ?_
      refine s_y (Y_mv) rfl rfl ?_
      refine s_c (En_call (fun _ => rfl) Tryz.func152 rfl (by kernel_rfl) rfl) (fun w hH => rfree_d (hsl he hM hH (fun x hx => by repeat (first | exact hx | exact List.mem_append_left _ hx | exact List.mem_append_right _ hx | apply List.Mem.tail | apply List.mem_append_right))) (by omega) (by omega)) rfl rfl ?_
      rintro _ _ ⟨g, cap, rfl, hcap, rfl⟩
      rw [freeE_map (l := d.ents) (i := i) (by omega)]
      refine s_y (Y_fa 5 rfl Tryz.underlying34 rfl sz30 rfl) rfl rfl ?_
      refine s_s (S_st (cs' := wL { d with floor := fl } ⟨cb2, 0, 384, g, 0, cap, ib, 0, ic⟩) rfl gt_ sz30 (by rfl) up_ (by rfl) (by simp only [List.length_cons, List.length_nil]; omega)) rfl ?_
      refine s_nil ?_
      refine q_bn ?_
      refine q_then ?_
      refine c_reg ?_
      refine s_y (Y_mv) rfl rfl ?_
      refine s_y ad_ rfl rfl ?_
      refine s_y (Y_as) rfl rfl ?_
      refine s_nil ?_
      refine hK (m2 - 1) (i + 1, .slice (some ⟨g, 0, none⟩) 32 cap, [eB g cap (mapI frE d.ents (i + 1))]) _ _ (by omega) ⟨by simp only; omega, .new (by rw [mapI_len]; omega) (by rw [mapI_len]; exact z2), fun _ => ⟨g, cap, rfl, hcap, rfl⟩⟩ ⟨rfl, trivial⟩ rfl (fun w h => ?_)
      exact h.pick2 (xs := [lB b3 [.slice (some ⟨cb2, 0, none⟩) 384 384, ev, iv'], cB cb2 384 m.cells, wB b2 wz, wB b1 (wL { d with floor := fl } ⟨cb2, 0, 384, g, 0, cap, ib, 0, ic⟩), iB ib ic (d.items.map keepI), eB g cap (mapI frE d.ents (i + 1))]) (R := B ++ (I ++ E)) ss_ (List.sublist_append_right _ _)
    · skip
      try simp only [nrm_] at hc11
      refine c_exit ?_
      repeat with_reducible refine q_te ?_
      refine q_exit ?_
      refine q_then ?_
      refine c_seq ?_
      refine c_seq ?_
      obtain ⟨g0, cap0, hv0, hc0, rfl⟩ := hnew (by omega)
      cases hv0
      rw [freeF_map d.ents (show d.ents.length ≤ i by omega)]
      clear hsl hln hP hnew
      refine c_reg ?_
      refine s_y (Y_asC) rfl rfl ?_
      refine s_nil ?_
      refine q_then ?_
      refine c_block ?_
      refine c_loop [7, 8, 9, 10, 64, 65, 66, 67, 68, 69, 70, 71, 72, 73, 74, 75, 76, 77, 78, 79, 80, 81, 82, 83, 84, 85, 86, 87, 88, 89, 90, 91] (fun m2 (y : Nat × List Ent × Nat × Nat) => y.1 + m2 = 4 ∧ y.2.1 = placeF m.cells d.ents (freeF d.ents) y.1 ∧ 32 ≤ y.2.2.2) (fun y => [(7, iv y.1)]) (fun y => lB b3 [.slice (some ⟨cb2, 0, none⟩) 384 384, ev, iv'] :: cB cb2 384 m.cells :: wB b2 wz :: wB b1 (wL { d with floor := fl } ⟨cb2, 0, 384, y.2.2.1, 0, y.2.2.2, ib, 0, ic⟩) :: iB ib ic (d.items.map keepI) :: eB y.2.2.1 y.2.2.2 y.2.1 :: (I ++ E)) (4) ((0, freeF d.ents, eb1, ec1)) (⟨rfl, rfl, hc0⟩) (by repeat (first | exact trivial | refine ⟨rfl, ?_⟩)) (fun _ h => h.sub sl_) (fun _ => rfl) ?_
      rintro m2 ⟨q, l, gb, gc⟩ j2 ⟨hq, hl, hgc⟩ K hK
      simp only at hq hl hgc ⊢
      have hll : l.length = 32 := by rw [hl, placeF_len]; unfold freeF; rw [List.length_map]; exact z2
      have hst := placeF_step m.cells d.ents (freeF d.ents) q
      rw [← hl] at hst
      refine c_seq ?_
      refine c_seq ?_
      refine c_reg ?_
      refine s_y (Y_mv) rfl rfl ?_
      refine s_y (Y_lss rfl rfl) rfl rfl ?_
      refine s_nil ?_
      refine q_then ?_
      first | refine c_cond' rfl (fun hc15 => ?_) (fun hc15 => ?_) | refine c_cond rfl (fun hc15 => ?_) (fun hc15 => ?_)
      · skip
        try simp only [nrm_] at hc15
        refine c_skip ?_
        refine q_then ?_
        refine c_seq ?_
        refine c_block ?_
        refine c_seq ?_
        refine c_reg ?_
        refine s_y (Y_mv) rfl rfl ?_
        refine s_y (Y_mv) rfl rfl ?_
        refine s_c (En_call (fun _ => rfl) Tryz.func54 rfl (by kernel_rfl) rfl) (fun w hH => rhero_d (he.hasM hM hH)) rfl rfl ?_
        rintro _ _ ⟨rfl, rfl⟩
        refine s_y (Y_as) rfl rfl ?_
        refine s_nil ?_
        refine q_then ?_
        refine c_seq ?_
        refine c_seq ?_
        refine c_reg ?_
        refine s_y (Y_mv) rfl rfl ?_
        refine s_y (Y_lss rfl rfl) rfl rfl ?_
        refine s_nil ?_
        refine q_then ?_
        first | refine c_cond' rfl (fun hc18 => ?_) (fun hc18 => ?_) | refine c_cond rfl (fun hc18 => ?_) (fun hc18 => ?_)
        · skip
          try simp only [nrm_] at hc18
          refine c_exit ?_
          repeat with_reducible refine q_te ?_
          refine q_exit ?_
          refine q_then ?_
          refine c_reg ?_
          refine s_y (Y_mv) rfl rfl ?_
          refine s_y ad_ rfl rfl ?_
          refine s_y (Y_as) rfl rfl ?_
          refine s_nil ?_
          refine hK (m2 - 1) (q + 1, l, gb, gc) _ _ (by omega) ⟨by simp only; omega, by simp only; rw [hst, if_pos hc18], hgc⟩ ⟨rfl, trivial⟩ rfl (fun w h => h)
        · skip
          try simp only [nrm_] at hc18
          refine c_skip ?_
          refine q_then ?_
          obtain ⟨r, e, hr, hre, he1, he2⟩ := eHero_some (rfl : eHero d.ents q = _) (by omega)
          have hrl := lt_of_get hre
          rw [hr, if_neg (by omega), egt_of hre, Int.toNat_natCast] at hst
          rw [hr]
          have hro := he.at' Ent.len hre
          obtain ⟨e2, hhe⟩ : ∃ z, (heroM m.cells l e).1 = z := ⟨_, rfl⟩
          rw [hhe] at hst
          refine c_seq ?_
          refine c_meetQ (ks := [9, 10, 73, 74, 75, 76, 77, 78, 79, 80, 81]) (tr := fun y : Nat => [(9, .pointer (some ⟨y, 0, none⟩))]) (φ := fun _ => True) (G := fun y => e1B y e2 :: lB b3 [.slice (some ⟨cb2, 0, none⟩) 384 384, ev, iv'] :: cB cb2 384 m.cells :: wB b2 wz :: wB b1 (wL { d with floor := fl } ⟨cb2, 0, 384, gb, 0, gc, ib, 0, ic⟩) :: iB ib ic (d.items.map keepI) :: eB gb gc l :: (I ++ E)) (fun _ => rfl) ?_ ?_
          · rintro bb j20 _
            refine q_then ?_
            refine c_seq ?_
            refine c_reg ?_
            refine s_n (N_bs0 rfl Tryz.underlying30 sz93) rfl rfl (fun b82 _ => ?_)
            refine s_y (Y_fa 5 rfl Tryz.underlying34 rfl sz30 rfl) rfl rfl ?_
            refine s_y (yl_ one30) rfl rfl ?_
            refine s_n (N_appE (m := 32) (news := ecells l) rfl rfl Tryz.underlying30 inf93 rfl (by omega) se_ (fun w hH => (eSl hH (b := gb) (c := gc) (l := l) mm_ hll hgc).src w (Has.start w)) (by rw [ecells_len, hll]) (one_e _) (by omega) (by omega)) rfl rfl (fun ⟨g85, cp85⟩ hc85 => ?_)
            refine s_y (Y_fa 5 rfl Tryz.underlying34 rfl sz30 rfl) rfl rfl ?_
            refine s_s (S_st (cs' := wL { d with floor := fl } ⟨cb2, 0, 384, g85, 0, cp85, ib, 0, ic⟩) rfl gt_ sz30 (by rfl) up_ (by rfl) (by simp only [List.length_cons, List.length_nil]; omega)) rfl ?_
            refine s_nil ?_
            refine q_then ?_
            refine c_reg ?_
            refine s_y (Y_fa 5 rfl Tryz.underlying34 rfl sz30 rfl) rfl rfl ?_
            refine s_y (yl_ one30) rfl rfl ?_
            refine s_y (Y_mv) rfl rfl ?_
            refine s_y (ya_ many93) rfl rfl ?_
            refine s_y (Y_ia (n := r) rfl rfl Tryz.underlying30 sz93 rfl (by omega)) rfl rfl ?_
            refine s_s (S_storeN (cs' := ecells (l.set r e2)) rfl rfl sz93 (by rfl) (by rfl) up_ (eall e2 (by omega)) (ble_e (by omega))) rfl ?_
            refine s_nil ?_
            refine q_bn ?_
            refine q_then ?_
            refine c_reg ?_
            refine s_y (Y_mv) rfl rfl ?_
            refine s_y ad_ rfl rfl ?_
            refine s_y (Y_as) rfl rfl ?_
            refine s_nil ?_
            refine hK (m2 - 1) (q + 1, l.set r e2, g85, cp85) _ _ (by omega) ⟨by simp only; omega, by simp only; exact hst.symm, hc85⟩ ⟨rfl, trivial⟩ rfl (fun w h => ?_)
            exact h.pick2 (xs := [lB b3 [.slice (some ⟨cb2, 0, none⟩) 384 384, ev, iv'], cB cb2 384 m.cells, wB b2 wz, wB b1 (wL { d with floor := fl } ⟨cb2, 0, 384, g85, 0, cp85, ib, 0, ic⟩), iB ib ic (d.items.map keepI), eB g85 cp85 (l.set r e2)]) (R := e1B bb e2 :: eB gb gc l :: (I ++ E)) ss_ (((List.Sublist.refl _).cons _).cons _)
          · intro go
            refine c_rall (L0 := [wB b1 (wL { d with floor := fl } ⟨cb2, 0, 384, gb, 0, gc, ib, 0, ic⟩)]) sl_ [] (.take 0 (.take 1 (.take 2 (.take 3 (.take 4 (.alt 5 (.take 6 (.take 7 (.take 8 (.one 9 (.one 10 (.take 11 .nil)))))) (.one 9 (.one 5 (.take 6 (.take 7 (.take 8 (.one 10 (.take 11 .nil))))))))))))) (by kernel_rfl) (by kernel_rfl) (by kernel_rfl) (by kernel_rfl) (by kernel_rfl) (by intro c a d v w h; cases d <;> exact h) rfl ?_
            refine t_y (ya_ many34) rfl rfl ?_
            refine t_y (Y_mv) rfl rfl ?_
            refine t_y (Y_mv) rfl rfl ?_
            refine t_y (Y_ia (n := r) rfl rfl Tryz.underlying30 sz93 rfl (by omega)) rfl rfl ?_
            refine t_y (Y_loadNR rfl many93 hro rfl hM) rfl rfl ?_
            refine t_two ?_ ?_
            · skip
              refine t_c (En_call (fun _ => rfl) Tryz.func87 rfl (by kernel_rfl) rfl) (fun w hH => rherocome_d (d := { d with floor := fl, cells := m.cells, items := d.items.map keepI, ents := l }) (s := ⟨cb2, 0, 384, gb, 0, gc, ib, 0, ic⟩) ⟨cSl hH (b := cb2) (c := 384) (l := m.cells) mm_ hml (by omega), eSl hH (b := gb) (c := gc) (l := l) mm_ hll hgc, iSl hH (b := ib) (c := ic) (l := d.items.map keepI) mm_ (by rw [List.length_map]; exact z3) l3⟩ (e := e)) (fun _ _ h => by obtain ⟨rfl, rfl⟩ := h; exact kp_) rfl rfl ?_
              rintro _ _ ⟨rfl, rfl⟩
              refine t_y (Y_mv) rfl rfl ?_
              refine t_y (Y_extract rfl rfl) rfl rfl ?_
              refine t_y (Y_extract rfl rfl) rfl rfl ?_
              refine t_n (N_alloc (z := .agg #[.int .i64 0, .int .i64 0, .int .i64 0, .int .i64 0, .int .i64 0, .int .i64 0, .int .i64 0, .int .i64 0, .int .i64 0, .int .i64 0, .int .i64 0]) (cs := [.int .i64 0, .int .i64 0, .int .i64 0, .int .i64 0, .int .i64 0, .int .i64 0, .int .i64 0, .int .i64 0, .int .i64 0, .int .i64 0, .int .i64 0]) zv93 rfl) (fun _ => kp_) rfl rfl (fun b9 _ => ?_)
              refine t_s (S_storeA (vs := e2.cells) rfl (by rw [← hhe]; rfl) sz93 (by rfl) (by rfl) up_ (by rfl)) kp_ rfl ?_
              refine t_y (Y_as) rfl rfl ?_
              refine t_nil ?_
              exact go b9 _ _ trivial ⟨rfl, trivial⟩ rfl (fun w h => h)
            refine t_n (N_alloc (z := .agg #[.int .i64 0, .int .i64 0, .int .i64 0, .int .i64 0, .int .i64 0, .int .i64 0, .int .i64 0, .int .i64 0, .int .i64 0, .int .i64 0, .int .i64 0]) (cs := [.int .i64 0, .int .i64 0, .int .i64 0, .int .i64 0, .int .i64 0, .int .i64 0, .int .i64 0, .int .i64 0, .int .i64 0, .int .i64 0, .int .i64 0]) zv93 rfl) (fun _ => kp_) rfl rfl (fun b9 _ => ?_)
            refine t_c (En_call (fun _ => rfl) Tryz.func87 rfl (by kernel_rfl) rfl) (fun w hH => rherocome_d (d := { d with floor := fl, cells := m.cells, items := d.items.map keepI, ents := l }) (s := ⟨cb2, 0, 384, gb, 0, gc, ib, 0, ic⟩) ⟨cSl hH (b := cb2) (c := 384) (l := m.cells) mm_ hml (by omega), eSl hH (b := gb) (c := gc) (l := l) mm_ hll hgc, iSl hH (b := ib) (c := ic) (l := d.items.map keepI) mm_ (by rw [List.length_map]; exact z3) l3⟩ (e := e)) (fun _ _ h => by obtain ⟨rfl, rfl⟩ := h; exact kp_) rfl rfl ?_
            rintro _ _ ⟨rfl, rfl⟩
            refine t_y (Y_mv) rfl rfl ?_
            refine t_y (Y_extract rfl rfl) rfl rfl ?_
            refine t_y (Y_extract rfl rfl) rfl rfl ?_
            refine t_s (S_storeA (vs := e2.cells) rfl (by rw [← hhe]; rfl) sz93 (by rfl) (by rfl) up_ (by rfl)) kp_ rfl ?_
            refine t_y (Y_as) rfl rfl ?_
            refine t_nil ?_
            exact go b9 _ _ trivial ⟨rfl, trivial⟩ rfl (fun w h => h)
      · skip
        try simp only [nrm_] at hc15
        refine c_exit ?_
        repeat with_reducible refine q_te ?_
        refine q_exit ?_
        refine q_then ?_
        refine c_seq ?_
        rw [show q = 4 by omega] at hl
        rw [← hl]
        obtain ⟨dd, hdd⟩ : ∃ z : Wd, ({ d with floor := fl, cells := m.cells, items := d.items.map keepI, ents := l } : Wd) = z := ⟨_, rfl⟩
        have hw5 : (stockW dd m).seed = d.seed ∧ (stockW dd m).cells = m.cells ∧ (stockW dd m).ents.length = 32 := by rw [← hdd]; exact ⟨rfl, rfl, by show (stockEnts _ _).length = 32; rw [stockEnts_len]; exact hll⟩
        refine c_reg ?_
        refine s_y (ya_ many34) rfl rfl ?_
        refine s_y (ya_ many138) rfl rfl ?_
        refine s_c (En_call (fun _ => rfl) Tryz.func76 rfl (by kernel_rfl) rfl) (fun w hH => rstockL_d (d := { d with floor := fl, cells := m.cells, items := d.items.map keepI, ents := l }) (s := ⟨cb2, 0, 384, gb, 0, gc, ib, 0, ic⟩) (m := m) ⟨cSl hH (b := cb2) (c := 384) (l := m.cells) mm_ hml (by omega), eSl hH (b := gb) (c := gc) (l := l) mm_ hll hgc, iSl hH (b := ib) (c := ic) (l := d.items.map keepI) mm_ (by rw [List.length_map]; exact z3) l3⟩ rfl (hE.slv hH (fun x hx => by repeat (first | exact hx | exact List.mem_append_left _ hx | exact List.mem_append_right _ hx | apply List.Mem.tail | apply List.mem_append_right))) (hI.slv hH (fun x hx => by repeat (first | exact hx | exact List.mem_append_left _ hx | exact List.mem_append_right _ hx | apply List.Mem.tail | apply List.mem_append_right)))) rfl rfl ?_
        rintro _ _ ⟨ev3, B3, ig, ic2, rfl, hP3, l4, rfl⟩
        obtain ⟨eb3, ec3, rfl, hB⟩ := hP3.open
        have hec : 32 ≤ ec3 := by
          rcases hB with ⟨_, _, h, _⟩ | ⟨h, h2, _⟩
          · have h : ec3 = gc := h
            omega
          · rw [h2] at h; exact h
        refine QL.conv (L' := [wB b2 wz, cB cb2 384 m.cells, eB eb3 ec3 (stockW { d with floor := fl, cells := m.cells, items := d.items.map keepI, ents := l } m).ents, iB ig ic2 (stockW { d with floor := fl, cells := m.cells, items := d.items.map keepI, ents := l } m).items]) (fun w hw => ?_) ?_
        · rcases hB with ⟨h1, rfl, rfl, rfl⟩ | ⟨_, _, rfl⟩
          · rw [h1]; exact hw.pick ss_
          · exact hw.pick ss_
        refine s_s (S_storeA (vs := wL (stockW { d with floor := fl, cells := m.cells, items := d.items.map keepI, ents := l } m) ⟨cb2, 0, 384, eb3, 0, ec3, ig, 0, ic2⟩) rfl rfl sz34 (by rfl) (by rfl) up_ (by rfl)) rfl ?_
        refine s_nil ?_
        refine q_then ?_
        refine c_ret ?_
        refine q_retW rfl rfl many34 ss_ (Nat.le_refl _) hec l4
end
end Go.Proofs.YtcogbkkdccohfaaGreat
namespace Go.Ad
open Go.RowKit Go.Maps Go.Proofs.YtcogbkkdccohfaaGreat
def acells (a : Acts) : List Value := a.flatMap Deed.cells
theorem Deed.len (a : Deed) : a.cells.length = 3 := rfl
theorem acells_len (a : Acts) : (acells a).length = a.length * 3 := fl_len Deed.len a
theorem dgt_of {a : Acts} {s : Nat} (h : s < a.length) : a[s]? = some (dgt a s) := by
  unfold dgt
  rw [List.getD_eq_getElem?_getD, List.getElem?_eq_getElem h]; rfl
theorem aget {a : Acts} {s j : Nat} {v : Value} (h : s < a.length) (hj : (dgt a s).cells[j]? = some v) : (acells a)[0 + s * 3 + j]? = some v := by rw [Nat.zero_add]; exact fl_get Deed.len (dgt_of h) hj
theorem Has.ne {W w : World} {M : List Nat} {L R : List Bk} {x y : Bk} (hH : Has W M L w) (hs : Sels [x, y] L R) : x.b ≠ y.b := by
  have h := (hH.pick hs).nd
  simp only [List.map_cons, List.map_nil, List.nodup_cons, List.mem_singleton] at h
  exact h.1
theorem find_rng (cells : List UInt8) (k : Int) : findM cells k < 0 ∨ (0 ≤ findM cells k ∧ findM cells k < 384) := by
  by_cases h : 0 ≤ findM cells k
  · obtain ⟨i, h1, h2, _⟩ := find_at rfl h
    exact .inr (by omega)
  · exact .inl (by omega)
end Go.Ad
namespace Go.Proofs.YtcogbkkdccohfaaGreat
open Go.RowKit Go.Ad Go.Maps
set_option linter.unusedVariables false
set_option linter.unusedSimpArgs false
theorem ActP.open {d d' : Wd} {cb cc eb ec ib ic : Nat} {v : Value} {B : List Bk} (h : ActP d ⟨cb, 0, cc, eb, 0, ec, ib, 0, ic⟩ d' v B) (l1 : 384 ≤ cc) (l2 : 32 ≤ ec) (l3 : 40 ≤ ic) :
    ∃ cb1 cc1 eb1 ec1 ib1 ic1, v = .agg (wL d' ⟨cb1, 0, cc1, eb1, 0, ec1, ib1, 0, ic1⟩).toArray ∧ 384 ≤ cc1 ∧ 32 ≤ ec1 ∧ 40 ≤ ic1 ∧ ∀ {W w : World} {M : List Nat} {R : List Bk}, Has W M (B ++ (cB cb cc d.cells :: eB eb ec d.ents :: iB ib ic d.items :: R)) w → Has W M (cB cb1 cc1 d'.cells :: eB eb1 ec1 d'.ents :: iB ib1 ic1 d'.items :: R) w := by
  rcases h with ⟨rfl, rfl, rfl⟩ | ⟨cb1, cc1, eb1, ec1, ib1, ic1, rfl, rfl, m1, m2, m3⟩
  · exact ⟨cb, cc, eb, ec, ib, ic, rfl, l1, l2, l3, fun h => h⟩
  · exact ⟨cb1, cc1, eb1, ec1, ib1, ic1, rfl, m1, m2, m3, fun h => h.pick2 (xs := [cB cb1 cc1 d'.cells, eB eb1 ec1 d'.ents, iB ib1 ic1 d'.items]) ss_ (((List.Sublist.refl _).cons _).cons _ |>.cons _)⟩
theorem EntsP.conv {b c : Nat} {l l' : List Ent} {v : Value} {B : List Bk} (h : EntsP b 0 32 c l l' v B) (hc : 32 ≤ c) : ∃ b1 c1, v = .slice (some ⟨b1, 0, none⟩) 32 c1 ∧ 32 ≤ c1 ∧ ∀ {W w : World} {M : List Nat} {R : List Bk}, Has W M (B ++ (eB b c l :: R)) w → Has W M (eB b1 c1 l' :: R) w := by
  obtain ⟨b1, c1, rfl, k⟩ := h.open
  rcases k with ⟨rfl, rfl, rfl, rfl⟩ | ⟨h1, h2, rfl⟩
  · exact ⟨b1, c1, rfl, hc, fun h => h⟩
  · exact ⟨b1, c1, rfl, by omega, fun h => h.pick2 (xs := [eB b1 c1 l']) ss_ ((List.Sublist.refl _).cons _)⟩
abbrev actB (b : Nat) (a : Acts) : Bk := ⟨b, 79, (acells a).length, 1, acells a⟩
theorem comesM_step (cells : List UInt8) (l : List Ent) (a : Acts) (s : Nat) : comesM cells l a (s + 1) = comeM cells (comesM cells l a s) a s := rfl
theorem seatsM_step (w : Wd) (a : Acts) (s : Nat) : seatsM w a (s + 1) = seatM (seatsM w a s) (dgt a s) s := rfl
theorem foesW_step (w : Wd) (i : Nat) : foesW w (i + 1) = foeM (foesW w i) i := rfl
section
variable {W : World}
set_option maxRecDepth 100000 in
set_option maxHeartbeats 6400000 in
theorem rstep_d {d : Wd} {s : Ws} (hw : WL W d s) (hv : VW d) (hf : -1000000000000 ≤ d.frame ∧ d.frame ≤ 1000000000000) {a : Acts} (ha : a.length = 4) : Does Tryz.prog 49 [.agg (wL d s).toArray, .agg (acells a).toArray] W [] (WN (stepM d a)) := by
  obtain ⟨z1, z2, z3⟩ := hw.sz
  obtain ⟨fr, hfr⟩ : ∃ q, d.frame + 1 = q := ⟨_, rfl⟩
  have hst : stepM d a = if d.state ≠ 0 then { d with frame := fr } else endM (midM (seatsM { d with frame := fr, ents := comesM d.cells d.ents a 4 } a 4).1) (someM d.ents || someM (comesM d.cells d.ents a 4)) (seatsM { d with frame := fr, ents := comesM d.cells d.ents a 4 } a 4).2 := by rw [← hfr]; rfl
  have hv1 : VW { d with frame := fr } := hv.frames fr
  rw [hst]
  clear hst
  have hal : (acells a).length = 12 := by rw [acells_len, ha]
  refine enter Tryz.func49 rfl rfl rfl (Has.start _) ?_
  refine c_seq ?_
  refine c_reg ?_
  refine s_n (N_box (cs := wL d s) rfl) rfl rfl (fun b2 _ => ?_)
  refine s_n (N_box (cs := acells a) rfl) rfl rfl (fun b3 _ => ?_)
  refine s_n (N_alloc (z := .agg #[.int .i64 0, .int .i64 0, .int .i64 0, .int .i64 0, .slice none 0 0, .slice none 0 0, .slice none 0 0, .int .i64 0, .int .i64 0, .int .i64 0, .int .i64 0]) (cs := [.int .i64 0, .int .i64 0, .int .i64 0, .int .i64 0, .slice none 0 0, .slice none 0 0, .slice none 0 0, .int .i64 0, .int .i64 0, .int .i64 0, .int .i64 0]) zv34 rfl) rfl rfl (fun b4 _ => ?_)
  refine s_nil ?_
  refine q_then ?_
  refine c_seq ?_
  refine c_reg ?_
  refine s_y (ya_ many34) rfl rfl ?_
  refine s_c (En_call (fun _ => rfl) Tryz.func51 rfl (by kernel_rfl) rfl) (fun w hH => rtwin_d (hw.has hH)) rfl rfl ?_
  rintro _ _ ⟨cb, cc, eb, ec, ib, ic, rfl, rfl, l1, l2, l3⟩
  refine s_s (S_storeA (vs := wL d ⟨cb, 0, cc, eb, 0, ec, ib, 0, ic⟩) rfl rfl sz34 (by rfl) (by rfl) up_ (by rfl)) rfl ?_
  refine s_nil ?_
  refine q_then ?_
  refine c_seq ?_
  refine c_reg ?_
  refine s_y (Y_fa 1 rfl Tryz.underlying34 rfl sz3 rfl) rfl rfl ?_
  refine s_y (yl_ one3) rfl rfl ?_
  refine s_y ((Y_add rfl rfl (by omega)).num hfr) rfl rfl ?_
  refine s_y (Y_fa 1 rfl Tryz.underlying34 rfl sz3 rfl) rfl rfl ?_
  refine s_s (S_st (cs' := wL { d with frame := fr } ⟨cb, 0, cc, eb, 0, ec, ib, 0, ic⟩) rfl gt_ sz3 (by rfl) up_ (by rfl) (by simp only [List.length_cons, List.length_nil]; omega)) rfl ?_
  refine s_nil ?_
  refine q_then ?_
  refine c_seq ?_
  refine c_seq ?_
  refine c_reg ?_
  refine s_y (Y_fa 3 rfl Tryz.underlying34 rfl sz3 rfl) rfl rfl ?_
  refine s_y (yl_ one3) rfl rfl ?_
  refine s_y (Y_neq rfl rfl) rfl rfl ?_
  refine s_nil ?_
  refine q_then ?_
  first | refine c_cond' rfl (fun hc3 => ?_) (fun hc3 => ?_) | refine c_cond rfl (fun hc3 => ?_) (fun hc3 => ?_)
  · skip
    try simp only [nrm_] at hc3
    refine c_seq ?_
    refine c_reg ?_
    refine s_y (ya_ many34) rfl rfl ?_
    refine s_s ((sa_ sz34)) rfl ?_
    refine s_nil ?_
    refine q_then ?_
    refine c_ret ?_
    rw [if_pos hc3]
    refine q_retW rfl rfl many34 ss_ l1 l2 l3
  · skip
    try simp only [nrm_] at hc3
    refine c_skip ?_
    refine q_then ?_
    refine c_seq ?_
    rw [if_neg (by omega)]
    refine c_reg ?_
    refine s_y (ya_ many34) rfl rfl ?_
    refine s_c (En_call (fun _ => rfl) Tryz.func85 rfl (by kernel_rfl) rfl) (fun w hH => rsome_d (d := { d with frame := fr }) (wl_of (d := { d with frame := fr }) hH ⟨z1, z2, z3⟩ (cb := cb) (cc := cc) (eb := eb) (ec := ec) (ib := ib) (ic := ic) mm_ mm_ mm_ l1 l2 l3)) rfl rfl ?_
    rintro _ _ ⟨rfl, rfl⟩
    refine s_y (Y_as) rfl rfl ?_
    refine s_nil ?_
    refine q_then ?_
    refine c_seq ?_
    refine c_seq ?_
    refine c_reg ?_
    refine s_y (Y_asC) rfl rfl ?_
    refine s_nil ?_
    refine q_then ?_
    refine c_block ?_
    refine c_loop [6, 7, 8, 29, 30, 31, 32, 33, 34, 35, 36, 37, 38, 39, 40, 41, 42, 43, 44, 45, 46, 47, 48, 49, 50, 51, 52, 53, 54, 55, 56, 57, 58] (fun m (y : Nat × List Ent × Nat × Nat) => y.1 + m = 4 ∧ y.2.1 = comesM d.cells d.ents a y.1 ∧ 32 ≤ y.2.2.2) (fun y => [(6, iv y.1)]) (fun y => [eB y.2.2.1 y.2.2.2 y.2.1, cB cb cc d.cells, iB ib ic d.items, wB b4 wz, actB b3 a, wB b2 (wL { d with frame := fr } ⟨cb, 0, cc, y.2.2.1, 0, y.2.2.2, ib, 0, ic⟩)]) (4) ((0, d.ents, eb, ec)) (⟨rfl, rfl, l2⟩) (by repeat (first | exact trivial | refine ⟨rfl, ?_⟩)) (fun w h => h.pick ss_) (fun _ => rfl) ?_
    rintro m ⟨q, l, eb, ec⟩ j ⟨hq, hl, l2⟩ K hK
    simp only at hq hl l2 ⊢
    have hll : l.length = 32 := by rw [hl, comes_len]; exact z2
    have hcs := comesM_step d.cells d.ents a q
    rw [← hl] at hcs
    obtain ⟨x, hx⟩ : ∃ z, dgt a q = z := ⟨_, rfl⟩
    refine c_seq ?_
    refine c_seq ?_
    refine c_reg ?_
    refine s_y (Y_mv) rfl rfl ?_
    refine s_y (Y_lss rfl rfl) rfl rfl ?_
    refine s_nil ?_
    refine q_then ?_
    first | refine c_cond' rfl (fun hc7 => ?_) (fun hc7 => ?_) | refine c_cond rfl (fun hc7 => ?_) (fun hc7 => ?_)
    · skip
      try simp only [nrm_] at hc7
      refine c_skip ?_
      refine q_then ?_
      refine c_seq ?_
      refine c_block ?_
      refine c_seq ?_
      refine c_reg ?_
      refine s_y (Y_mv) rfl rfl ?_
      refine s_y (Y_iaA (n := q) rfl rfl Tryz.underlying79 sz77 rfl (by omega)) rfl rfl ?_
      refine s_y (Y_fa 2 rfl Tryz.underlying77 rfl sz4 rfl) rfl rfl ?_
      refine s_y (Y_load (v := .bool x.spawn) rfl one4 mm_ (aget (by omega) (by rw [hx]; rfl))) rfl rfl ?_
      refine s_y (Y_mv) rfl rfl ?_
      apply s_and 6 [37, 38, 39, 40, 41, 42, 43] 43 (g := 37) rfl rfl
      · intro ht5 hm
        try simp only [nrm_] at ht5
        first | refine s_y (Y_fa 5 rfl Tryz.underlying34 rfl sz30 rfl) rfl rfl ?_ | refine s_pass rfl rfl ?_
        first | refine s_y (yl_ one30) rfl rfl ?_ | refine s_pass rfl rfl ?_
        first | refine s_y (Y_mv) rfl rfl ?_ | refine s_pass rfl rfl ?_
        refine s_c (En_call (fun _ => rfl) Tryz.func54 rfl (by kernel_rfl) rfl) (fun w hH => rhero_d (eSl hH (b := eb) (c := ec) (l := l) mm_ hll l2)) rfl rfl ?_
        rintro _ _ ⟨rfl, rfl⟩
        first | refine s_y (Y_lss rfl rfl) rfl rfl ?_ | refine s_pass rfl rfl ?_
        refine s_y (Y_pk rfl (Gx.tmp gt_) Gx.const) rfl rfl ?_
        first | exact hm _ ⟨rfl, trivial⟩ rfl | exact QL.sub sl_ (hm _ ⟨rfl, trivial⟩ rfl)
      · intro ht5 hm
        iterate 5 refine s_pass rfl rfl ?_
        refine s_y (Y_pk rfl (Gx.tmp gt_) Gx.const) rfl rfl ?_
        exact hm _ ⟨rfl, trivial⟩ rfl
      intro j43
      refine s_nil ?_
      refine q_then ?_
      first | refine c_cond' rfl (fun hc9 => ?_) (fun hc9 => ?_) | refine c_cond rfl (fun hc9 => ?_) (fun hc9 => ?_)
      · skip
        try simp only [nrm_] at hc9
        refine c_seq ?_
        have hcm : comeM d.cells l a q = if (heroM d.cells l { statsM 1 with seat := q }).2 = true then spawnedM l (heroM d.cells l { statsM 1 with seat := q }).1 else l := by
          unfold comeM
          rw [hx, if_pos hc9]
        rw [hcm] at hcs
        clear hcm
        refine c_reg ?_
        refine s_c (En_call (fun _ => rfl) Tryz.func86 rfl (by kernel_rfl) rfl) (fun w hH => rstats_d) rfl rfl ?_
        rintro _ _ ⟨rfl, rfl⟩
        refine s_n (N_alloc (z := .agg #[.int .i64 0, .int .i64 0, .int .i64 0, .int .i64 0, .int .i64 0, .int .i64 0, .int .i64 0, .int .i64 0, .int .i64 0, .int .i64 0, .int .i64 0]) (cs := [.int .i64 0, .int .i64 0, .int .i64 0, .int .i64 0, .int .i64 0, .int .i64 0, .int .i64 0, .int .i64 0, .int .i64 0, .int .i64 0, .int .i64 0]) zv93 rfl) rfl rfl (fun b7 _ => ?_)
        refine s_s (S_storeA (vs := (statsM 1).cells) rfl rfl sz93 (by rfl) (by rfl) up_ (by rfl)) rfl ?_
        refine s_nil ?_
        refine q_then ?_
        refine c_seq ?_
        refine c_reg ?_
        refine s_y (Y_mv) rfl rfl ?_
        refine s_y (Y_fa 2 rfl Tryz.underlying93 rfl sz3 rfl) rfl rfl ?_
        refine s_s (S_st (cs' := ({ statsM 1 with seat := q } : Ent).cells) rfl gt_ sz3 (by rfl) up_ (by rfl) (by rw [Ent.len]; decide)) rfl ?_
        refine s_nil ?_
        obtain ⟨e0, he0⟩ : ∃ z : Ent, ({ statsM 1 with seat := q } : Ent) = z := ⟨_, rfl⟩
        rw [he0] at hcs ⊢
        refine q_then ?_
        refine c_seq ?_
        refine c_reg ?_
        refine s_y (ya_ many34) rfl rfl ?_
        refine s_y (ya_ many93) rfl rfl ?_
        refine s_c (En_call (fun _ => rfl) Tryz.func87 rfl (by kernel_rfl) rfl) (fun w hH => rherocome_d (d := { d with frame := fr, ents := l }) (e := e0) (wl_of (d := { d with frame := fr, ents := l }) hH ⟨z1, hll, z3⟩ (cb := cb) (cc := cc) (eb := eb) (ec := ec) (ib := ib) (ic := ic) mm_ mm_ mm_ l1 l2 l3)) rfl rfl ?_
        rintro _ _ ⟨rfl, rfl⟩
        obtain ⟨e1, he1⟩ : ∃ z, (heroM d.cells l e0).1 = z := ⟨_, rfl⟩
        obtain ⟨is, his⟩ : ∃ z, (heroM d.cells l e0).2 = z := ⟨_, rfl⟩
        simp only [he1, his] at hcs ⊢
        refine s_y (Y_mv) rfl rfl ?_
        refine s_y (Y_extract rfl rfl) rfl rfl ?_
        refine s_y (Y_extract rfl rfl) rfl rfl ?_
        refine s_s (S_storeA (vs := e1.cells) rfl rfl sz93 (by rfl) (by rfl) up_ (by rfl)) rfl ?_
        refine s_y (Y_as) rfl rfl ?_
        refine s_nil ?_
        refine q_then ?_
        refine c_seq ?_
        refine c_reg ?_
        refine s_y (Y_mv) rfl rfl ?_
        refine s_nil ?_
        refine q_then ?_
        refine c_cond (t := is) rfl (fun hc13 => ?_) (fun hc13 => ?_)
        · skip
          try simp only [nrm_] at hc13
          refine QL.pick (L' := [eB eb ec l, cB cb cc d.cells, iB ib ic d.items, wB b4 wz, actB b3 a, wB b2 (wL { d with frame := fr } ⟨cb, 0, cc, eb, 0, ec, ib, 0, ic⟩), e1B b7 e1]) ss_ ?_
          refine c_reg ?_
          refine s_y (Y_fa 5 rfl Tryz.underlying34 rfl sz30 rfl) rfl rfl ?_
          refine s_y (yl_ one30) rfl rfl ?_
          refine s_y (ya_ many93) rfl rfl ?_
          refine s_c (En_call (fun _ => rfl) Tryz.func88 rfl (by kernel_rfl) rfl) (fun w hH => rspawned_d (eSl hH (b := eb) (c := ec) (l := l) mm_ hll l2) (by omega) e1) rfl rfl ?_
          rintro _ _ hP
          rename_i B
          obtain ⟨eb1, ec1, rfl, m2, hc⟩ := hP.conv l2
          refine QL.conv (fun w hw => hc hw) ?_
          refine s_y (Y_fa 5 rfl Tryz.underlying34 rfl sz30 rfl) rfl rfl ?_
          refine s_s (S_st (cs' := wL { d with frame := fr } ⟨cb, 0, cc, eb1, 0, ec1, ib, 0, ic⟩) rfl gt_ sz30 (by rfl) up_ (by rfl) (by simp only [List.length_cons, List.length_nil]; omega)) rfl ?_
          refine s_nil ?_
          refine q_bn ?_
          refine q_then ?_
          refine c_reg ?_
          refine s_y (Y_mv) rfl rfl ?_
          refine s_y ad_ rfl rfl ?_
          refine s_y (Y_as) rfl rfl ?_
          refine s_nil ?_
          rw [if_pos hc13] at hcs
          refine hK (m - 1) (q + 1, spawnedM l e1, eb1, ec1) _ _ (by omega) ⟨by simp only; omega, by simp only; exact hcs.symm, m2⟩ ⟨rfl, trivial⟩ rfl (fun w h => h.pick ss_)
        · skip
          try simp only [nrm_] at hc13
          refine c_skip ?_
          refine q_bn ?_
          refine q_then ?_
          refine c_reg ?_
          refine s_y (Y_mv) rfl rfl ?_
          refine s_y ad_ rfl rfl ?_
          refine s_y (Y_as) rfl rfl ?_
          refine s_nil ?_
          rw [if_neg (by rw [hc13]; decide)] at hcs
          refine hK (m - 1) (q + 1, l, eb, ec) _ _ (by omega) ⟨by simp only; omega, by simp only; exact hcs.symm, l2⟩ ⟨rfl, trivial⟩ rfl (fun w h => h.pick ss_)
      · skip
        try simp only [nrm_] at hc9
        refine c_skip ?_
        refine q_bn ?_
        refine q_then ?_
        refine c_reg ?_
        refine s_y (Y_mv) rfl rfl ?_
        refine s_y ad_ rfl rfl ?_
        refine s_y (Y_as) rfl rfl ?_
        refine s_nil ?_
        have hcm : comeM d.cells l a q = l := by
          unfold comeM
          rw [hx, if_neg (by rintro ⟨q1, q2⟩; rcases hc9 with h | h; rw [q1] at h; cases h; exact h q2)]
        rw [hcm] at hcs
        refine hK (m - 1) (q + 1, l, eb, ec) _ _ (by omega) ⟨by simp only; omega, by simp only; exact hcs.symm, l2⟩ ⟨rfl, trivial⟩ rfl (fun w h => h)
    · skip
      try simp only [nrm_] at hc7
      refine c_exit ?_
      repeat with_reducible refine q_te ?_
      refine q_exit ?_
      refine q_then ?_
      refine c_seq ?_
      rw [show q = 4 by omega] at hl
      clear hcs hx
      have hv2 : VW { d with frame := fr, ents := l } := by rw [hl]; exact hv1.come a
      rw [← hl]
      refine c_reg ?_
      refine s_y (Y_mv) rfl rfl ?_
      refine s_y (Y_mv) rfl rfl ?_
      apply s_or 3 [60, 61, 62, 63] 63 (g := 60) rfl rfl
      · intro ht2 hm
        try simp only [nrm_] at ht2
        first | refine s_y (ya_ many34) rfl rfl ?_ | refine s_pass rfl rfl ?_
        refine s_c (En_call (fun _ => rfl) Tryz.func85 rfl (by kernel_rfl) rfl) (fun w hH => rsome_d (d := { d with frame := fr, ents := l }) (wl_of (d := { d with frame := fr, ents := l }) hH ⟨z1, hll, z3⟩ (cb := cb) (cc := cc) (eb := eb) (ec := ec) (ib := ib) (ic := ic) mm_ mm_ mm_ l1 l2 l3)) rfl rfl ?_
        rintro _ _ ⟨rfl, rfl⟩
        refine s_y (Y_pk rfl Gx.const (Gx.tmp gt_)) rfl rfl ?_
        first | exact hm _ ⟨rfl, trivial⟩ rfl | exact QL.sub sl_ (hm _ ⟨rfl, trivial⟩ rfl)
      · intro ht2 hm
        iterate 2 refine s_pass rfl rfl ?_
        refine s_y (Y_pk rfl Gx.const (Gx.tmp gt_)) rfl rfl ?_
        exact hm _ ⟨rfl, trivial⟩ rfl
      intro j63
      refine s_y (Y_as) rfl rfl ?_
      refine s_nil ?_
      obtain ⟨had, hhad⟩ : ∃ z, (someM d.ents || someM l) = z := ⟨_, rfl⟩
      simp only [hhad]
      obtain ⟨d2, hd2⟩ : ∃ z : Wd, ({ d with frame := fr, ents := l } : Wd) = z := ⟨_, rfl⟩
      have hs2 : d.cells = d2.cells ∧ l = d2.ents ∧ d.items = d2.items ∧ (∀ s, wL { d with frame := fr } s = wL d2 s) := by rw [← hd2]; exact ⟨rfl, rfl, rfl, fun _ => rfl⟩
      obtain ⟨y1, y2, y3, y4⟩ := hs2
      rw [hd2] at hv2 ⊢
      rw [y4 ⟨cb, 0, cc, eb, 0, ec, ib, 0, ic⟩, y1, y3, y2]
      clear y1 y3 y4 hd2 hl
      refine q_then ?_
      refine c_seq ?_
      refine c_reg ?_
      refine s_y (Y_asC) rfl rfl ?_
      refine s_nil ?_
      refine q_then ?_
      refine c_seq ?_
      refine c_seq ?_
      refine c_reg ?_
      refine s_y (Y_asC) rfl rfl ?_
      refine s_nil ?_
      refine q_then ?_
      refine c_block ?_
      refine c_loop [9, 10, 11, 12, 64, 65, 66, 67, 68, 69, 70, 71, 72, 73, 74, 75, 76, 77, 78, 79, 80, 81, 82, 83, 84, 85, 86, 87, 88, 89, 90, 91, 92, 93, 94, 95, 96, 97, 98, 99, 100, 101, 102, 103, 104, 105, 106, 107, 108, 109, 110, 111, 112, 113, 114, 115, 116, 117, 118, 119, 120, 121, 122, 123, 124, 125, 126, 127, 128, 129, 130, 131, 132, 133, 134, 135, 136, 137, 138, 139, 140, 141, 142, 143, 144, 145] (fun m (y : Nat × Wd × Bool × Nat × Nat × Nat × Nat × Nat × Nat) => y.1 + m = 4 ∧ seatsM d2 a y.1 = (y.2.1, y.2.2.1) ∧ 384 ≤ y.2.2.2.2.1 ∧ 32 ≤ y.2.2.2.2.2.2.1 ∧ 40 ≤ y.2.2.2.2.2.2.2.2) (fun y => [(10, iv y.1), (9, .bool y.2.2.1)]) (fun y => [cB y.2.2.2.1 y.2.2.2.2.1 y.2.1.cells, eB y.2.2.2.2.2.1 y.2.2.2.2.2.2.1 y.2.1.ents, iB y.2.2.2.2.2.2.2.1 y.2.2.2.2.2.2.2.2 y.2.1.items, wB b4 wz, actB b3 a, wB b2 (wL y.2.1 ⟨y.2.2.2.1, 0, y.2.2.2.2.1, y.2.2.2.2.2.1, 0, y.2.2.2.2.2.2.1, y.2.2.2.2.2.2.2.1, 0, y.2.2.2.2.2.2.2.2⟩)]) (4) ((0, d2, false, cb, cc, eb, ec, ib, ic)) (⟨rfl, rfl, l1, l2, l3⟩) (by repeat (first | exact trivial | refine ⟨rfl, ?_⟩)) (fun w h => h.pick ss_) (fun _ => rfl) ?_
      rintro m ⟨s, u, left, cb, cc, eb, ec, ib, ic⟩ j2 ⟨hs, hu, l1, l2, l3⟩ K hK
      simp only at hs hu l1 l2 l3 ⊢
      have hvu : VW u := by
        have := hv2.seats a s
        rw [hu] at this; exact this
      obtain ⟨u1, u2, u3⟩ := hvu.sz
      have hss := seatsM_step d2 a s
      rw [hu] at hss
      obtain ⟨x, hx⟩ : ∃ z, dgt a s = z := ⟨_, rfl⟩
      rw [hx] at hss
      refine c_seq ?_
      refine c_seq ?_
      refine c_reg ?_
      refine s_y (Y_mv) rfl rfl ?_
      refine s_y (Y_lss rfl rfl) rfl rfl ?_
      refine s_nil ?_
      refine q_then ?_
      first | refine c_cond' rfl (fun hc18 => ?_) (fun hc18 => ?_) | refine c_cond rfl (fun hc18 => ?_) (fun hc18 => ?_)
      · skip
        try simp only [nrm_] at hc18
        refine c_skip ?_
        refine q_then ?_
        refine c_seq ?_
        refine c_block ?_
        refine c_seq ?_
        refine c_reg ?_
        refine s_y (Y_fa 5 rfl Tryz.underlying34 rfl sz30 rfl) rfl rfl ?_
        refine s_y (yl_ one30) rfl rfl ?_
        refine s_y (Y_mv) rfl rfl ?_
        refine s_c (En_call (fun _ => rfl) Tryz.func54 rfl (by kernel_rfl) rfl) (fun w hH => rhero_d (eSl hH (b := eb) (c := ec) (l := u.ents) mm_ u2 l2)) rfl rfl ?_
        rintro _ _ ⟨rfl, rfl⟩
        refine s_y (Y_as) rfl rfl ?_
        refine s_nil ?_
        have hhr : eHero u.ents s < 0 ∨ (0 ≤ eHero u.ents s ∧ eHero u.ents s < 32) := by
          by_cases h : 0 ≤ eHero u.ents s
          · obtain ⟨r, e, h1, h2, _⟩ := eHero_some rfl h
            have := lt_of_get h2
            exact .inr (by omega)
          · exact .inl (by omega)
        have hsm : seatM (u, left) x s = if eHero u.ents s < 0 ∨ 0 < (egt u.ents (eHero u.ents s)).stun ∨ (x.how ≠ 1 ∧ x.how ≠ 2) then (u, left) else
            (if 1 ≤ (if x.how = 2 then robotM u s else x.input) ∧ (if x.how = 2 then robotM u s else x.input) ≤ 4 then (actM u (eHero u.ents s) (if x.how = 2 then robotM u s else x.input) false, left)
            else if (if x.how = 2 then robotM u s else x.input) = 9 then (u, left || decide (atM u.cells (egt u.ents (eHero u.ents s)).x (egt u.ents (eHero u.ents s)).y = 4))
            else (doM u s (if x.how = 2 then robotM u s else x.input), left)) := rfl
        rw [hsm] at hss
        clear hsm
        obtain ⟨h, hh⟩ : ∃ z, eHero u.ents s = z := ⟨_, rfl⟩
        rw [hh] at hss hhr ⊢
        refine q_then ?_
        refine c_seq ?_
        refine c_seq ?_
        refine c_reg ?_
        refine s_y (Y_mv) rfl rfl ?_
        refine s_y (Y_lss rfl rfl) rfl rfl ?_
        refine s_y (Y_mv) rfl rfl ?_
        apply s_or 8 [74, 75, 76, 77, 78, 79, 80, 81, 82] 82 (g := 74) rfl rfl
        · intro ht3 hm
          try simp only [nrm_] at ht3
          first | refine s_y (Y_fa 5 rfl Tryz.underlying34 rfl sz30 rfl) rfl rfl ?_ | refine s_pass rfl rfl ?_
          first | refine s_y (yl_ one30) rfl rfl ?_ | refine s_pass rfl rfl ?_
          first | refine s_y (Y_mv) rfl rfl ?_ | refine s_pass rfl rfl ?_
          first | refine s_y (Y_ia (n := h.toNat) rfl rfl Tryz.underlying30 sz93 (by omega) (by omega)) rfl rfl ?_ | refine s_pass rfl rfl ?_
          first | refine s_y (Y_fa 10 rfl Tryz.underlying93 rfl sz3 rfl) rfl rfl ?_ | refine s_pass rfl rfl ?_
          first | refine s_y (Y_load (v := iv (egt u.ents h).stun) rfl one3 mm_ (eget (eget_of (by omega) (by omega)) rfl)) rfl rfl ?_ | refine s_pass rfl rfl ?_
          first | refine s_y (Y_gtr rfl rfl) rfl rfl ?_ | refine s_pass rfl rfl ?_
          refine s_y (Y_pk rfl Gx.const (Gx.tmp gt_)) rfl rfl ?_
          first | exact hm _ ⟨rfl, trivial⟩ rfl | exact QL.sub sl_ (hm _ ⟨rfl, trivial⟩ rfl)
        · intro ht3 hm
          iterate 7 refine s_pass rfl rfl ?_
          refine s_y (Y_pk rfl Gx.const (Gx.tmp gt_)) rfl rfl ?_
          exact hm _ ⟨rfl, trivial⟩ rfl
        intro j82
        refine s_y (Y_mv) rfl rfl ?_
        apply s_or 13 [83, 84, 85, 86, 87, 88, 89, 90, 91, 92, 93, 94, 95, 96] 96 (g := 83) rfl rfl
        · intro ht12 hm
          try simp only [nrm_] at ht12
          first | refine s_y (Y_mv) rfl rfl ?_ | refine s_pass rfl rfl ?_
          first | refine s_y (Y_iaA (n := s) rfl rfl Tryz.underlying79 sz77 rfl (by omega)) rfl rfl ?_ | refine s_pass rfl rfl ?_
          first | refine s_y (Y_fa 0 rfl Tryz.underlying77 rfl sz3 rfl) rfl rfl ?_ | refine s_pass rfl rfl ?_
          first | refine s_y (Y_load (v := iv x.how) rfl one3 mm_ (aget (by omega) (by rw [hx]; rfl))) rfl rfl ?_ | refine s_pass rfl rfl ?_
          first | refine s_y (Y_neq rfl rfl) rfl rfl ?_ | refine s_pass rfl rfl ?_
          first | refine s_y (Y_mv) rfl rfl ?_ | refine s_pass rfl rfl ?_
          apply s_and 6 [89, 90, 91, 92, 93, 94, 95] 95 (g := 89) rfl rfl
          · intro ht18 hm
            try simp only [nrm_] at ht18
            first | refine s_y (Y_mv) rfl rfl ?_ | refine s_pass rfl rfl ?_
            first | refine s_y (Y_iaA (n := s) rfl rfl Tryz.underlying79 sz77 rfl (by omega)) rfl rfl ?_ | refine s_pass rfl rfl ?_
            first | refine s_y (Y_fa 0 rfl Tryz.underlying77 rfl sz3 rfl) rfl rfl ?_ | refine s_pass rfl rfl ?_
            first | refine s_y (Y_load (v := iv x.how) rfl one3 mm_ (aget (by omega) (by rw [hx]; rfl))) rfl rfl ?_ | refine s_pass rfl rfl ?_
            first | refine s_y (Y_neq rfl rfl) rfl rfl ?_ | refine s_pass rfl rfl ?_
            first | refine s_y (Y_pk rfl (Gx.tmp gt_) Gx.const) rfl rfl ?_ | refine s_pass rfl rfl ?_
            first | exact hm _ ⟨rfl, trivial⟩ rfl | exact QL.sub sl_ (hm _ ⟨rfl, trivial⟩ rfl)
          · intro ht18 hm
            iterate 5 refine s_pass rfl rfl ?_
            first | refine s_y (Y_pk rfl (Gx.tmp gt_) Gx.const) rfl rfl ?_ | refine s_pass rfl rfl ?_
            exact hm _ ⟨rfl, trivial⟩ rfl
          intro j95
          refine s_y (Y_pk rfl Gx.const (Gx.tmp gt_)) rfl rfl ?_
          first | exact hm _ ⟨rfl, trivial⟩ rfl | exact QL.sub sl_ (hm _ ⟨rfl, trivial⟩ rfl)
        · intro ht12 hm
          iterate 12 refine s_pass rfl rfl ?_
          refine s_y (Y_pk rfl Gx.const (Gx.tmp gt_)) rfl rfl ?_
          exact hm _ ⟨rfl, trivial⟩ rfl
        intro j96
        refine s_nil ?_
        refine q_then ?_
        first | refine c_cond' rfl (fun hc21 => ?_) (fun hc21 => ?_) | refine c_cond rfl (fun hc21 => ?_) (fun hc21 => ?_)
        · skip
          try simp only [nrm_] at hc21
          refine c_exit ?_
          repeat with_reducible refine q_te ?_
          refine q_exit ?_
          refine q_then ?_
          refine c_reg ?_
          refine s_y (Y_mv) rfl rfl ?_
          refine s_y ad_ rfl rfl ?_
          refine s_y (Y_as) rfl rfl ?_
          refine s_nil ?_
          rw [if_pos (by omega)] at hss
          refine hK (m - 1) (s + 1, u, left, cb, cc, eb, ec, ib, ic) _ _ (by omega) ⟨by simp only; omega, by simp only; exact hss, l1, l2, l3⟩ ⟨rfl, rfl, trivial⟩ rfl (fun w h => h)
        · skip
          try simp only [nrm_] at hc21
          refine c_skip ?_
          refine q_then ?_
          refine c_seq ?_
          rw [if_neg (by omega)] at hss
          obtain ⟨r, e, hr, hre, he1, he2⟩ := eHero_some hh (by omega)
          subst hr
          have hrl := lt_of_get hre
          have heg := egt_of hre
          refine c_reg ?_
          refine s_y (Y_mv) rfl rfl ?_
          refine s_y (Y_iaA (n := s) rfl rfl Tryz.underlying79 sz77 rfl (by omega)) rfl rfl ?_
          refine s_y (Y_fa 1 rfl Tryz.underlying77 rfl sz3 rfl) rfl rfl ?_
          refine s_y (Y_load (v := iv x.input) rfl one3 mm_ (aget (by omega) (by rw [hx]; rfl))) rfl rfl ?_
          refine s_y (Y_as) rfl rfl ?_
          refine s_nil ?_
          refine q_then ?_
          refine c_seq ?_
          refine c_meetQ (ks := [12, 101, 102, 103, 104, 105, 106, 107, 108]) (tr := fun y : Int => [(12, iv y)]) (φ := fun y => y = if x.how = 2 then robotM u s else x.input) (G := fun _ => [cB cb cc u.cells, eB eb ec u.ents, iB ib ic u.items, wB b4 wz, actB b3 a, wB b2 (wL u ⟨cb, 0, cc, eb, 0, ec, ib, 0, ic⟩)]) (fun _ => rfl) ?_ ?_
          · rintro inp j26 hinp
            refine q_then ?_
            refine c_block ?_
            refine c_seq ?_
            rw [← hinp] at hss
            clear hinp
            refine c_reg ?_
            refine s_y (Y_mv) rfl rfl ?_
            refine s_y (Y_geq rfl rfl) rfl rfl ?_
            refine s_y (Y_mv) rfl rfl ?_
            apply s_and 3 [116, 117, 118, 119] 119 (g := 116) rfl rfl
            · intro ht3 hm
              try simp only [nrm_] at ht3
              first | refine s_y (Y_mv) rfl rfl ?_ | refine s_pass rfl rfl ?_
              first | refine s_y (Y_leq rfl rfl) rfl rfl ?_ | refine s_pass rfl rfl ?_
              refine s_y (Y_pk rfl (Gx.tmp gt_) Gx.const) rfl rfl ?_
              first | exact hm _ ⟨rfl, trivial⟩ rfl | exact QL.sub sl_ (hm _ ⟨rfl, trivial⟩ rfl)
            · intro ht3 hm
              iterate 2 refine s_pass rfl rfl ?_
              refine s_y (Y_pk rfl (Gx.tmp gt_) Gx.const) rfl rfl ?_
              exact hm _ ⟨rfl, trivial⟩ rfl
            intro j119
            refine s_y (Y_as) rfl rfl ?_
            refine s_nil ?_
            refine q_then ?_
            first | refine c_cond' rfl (fun hc26 => ?_) (fun hc26 => ?_) | refine c_cond rfl (fun hc26 => ?_) (fun hc26 => ?_)
            · skip
              try simp only [nrm_] at hc26
              refine c_reg ?_
              refine s_y (ya_ many34) rfl rfl ?_
              refine s_y (Y_mv) rfl rfl ?_
              refine s_y (Y_mv) rfl rfl ?_
              refine s_c (En_call (fun _ => rfl) Tryz.func90 rfl (by kernel_rfl) rfl) (fun w hH => ract_d (wl_of (d := u) hH ⟨u1, u2, u3⟩ (cb := cb) (cc := cc) (eb := eb) (ec := ec) (ib := ib) (ic := ic) mm_ mm_ mm_ l1 l2 l3) hvu hre (by omega)) rfl rfl ?_
              rintro _ _ hA
              rename_i B
              obtain ⟨cb1, cc1, eb1, ec1, ib1, ic1, rfl, m1, m2, m3, hc⟩ := hA.open l1 l2 l3
              refine QL.conv (fun w hw => hc hw) ?_
              refine s_s (S_storeA (vs := wL (actM u r inp false) ⟨cb1, 0, cc1, eb1, 0, ec1, ib1, 0, ic1⟩) rfl rfl sz34 (by rfl) (by rfl) up_ (by rfl)) rfl ?_
              refine s_nil ?_
              refine q_bn ?_
              refine q_bn ?_
              refine q_then ?_
              refine c_reg ?_
              refine s_y (Y_mv) rfl rfl ?_
              refine s_y ad_ rfl rfl ?_
              refine s_y (Y_as) rfl rfl ?_
              refine s_nil ?_
              rw [if_pos hc26] at hss
              refine hK (m - 1) (s + 1, actM u r inp false, left, cb1, cc1, eb1, ec1, ib1, ic1) _ _ (by omega) ⟨by simp only; omega, by simp only; exact hss, m1, m2, m3⟩ ⟨rfl, rfl, trivial⟩ rfl (fun w h => h.pick ss_)
            · skip
              try simp only [nrm_] at hc26
              refine c_seq ?_
              rw [if_neg (by omega), heg] at hss
              refine c_reg ?_
              refine s_y (Y_mv) rfl rfl ?_
              refine s_y (Y_eql rfl rfl) rfl rfl ?_
              refine s_y (Y_as) rfl rfl ?_
              refine s_nil ?_
              refine q_then ?_
              first | refine c_cond' rfl (fun hc28 => ?_) (fun hc28 => ?_) | refine c_cond rfl (fun hc28 => ?_) (fun hc28 => ?_)
              · skip
                try simp only [nrm_] at hc28
                refine c_rordS (L0 := [cB cb cc u.cells, eB eb ec u.ents, wB b2 (wL u ⟨cb, 0, cc, eb, 0, ec, ib, 0, ic⟩)]) sl_ [] [(0, true), (1, true), (2, true), (3, true), (4, true), (5, true), (6, true), (7, true), (8, true), (9, true), (10, true), (11, true), (12, true), (13, true), (14, true), (15, true), (16, false), (17, true), (18, true), (19, true)] (by kernel_rfl) (by kernel_rfl) (by kernel_rfl) (by kernel_rfl) rfl (by intro c a d v w h; cases d <;> exact h) rfl ?_
                simp only [mkOrd, List.filterMap_cons, List.filterMap_nil, List.getElem?_toArray, List.getElem?_cons_zero, List.getElem?_cons_succ, Option.map_some]
                refine o_y (Y_mv) rfl rfl ?_
                refine o_y (Y_mv) rfl rfl ?_
                apply o_or 17 [128, 129, 130, 131, 132, 133, 134, 135, 136, 137, 138, 139, 140, 141, 142, 143, 144, 145] 145 (g := 128) rfl rfl
                · intro ht2 hm
                  try simp only [nrm_] at ht2
                  first | refine o_y (Y_fa 4 rfl Tryz.underlying34 rfl sz24 rfl) rfl rfl ?_ | refine o_pass rfl rfl ?_
                  first | refine o_y (yl_ one24) rfl rfl ?_ | refine o_pass rfl rfl ?_
                  first | refine o_y (Y_fa 5 rfl Tryz.underlying34 rfl sz30 rfl) rfl rfl ?_ | refine o_pass rfl rfl ?_
                  first | refine o_y (yl_ one30) rfl rfl ?_ | refine o_pass rfl rfl ?_
                  first | refine o_y (Y_mv) rfl rfl ?_ | refine o_pass rfl rfl ?_
                  first | refine o_y (Y_ia (n := r) rfl rfl Tryz.underlying30 sz93 rfl (by omega)) rfl rfl ?_ | refine o_pass rfl rfl ?_
                  first | refine o_y (Y_fa 3 rfl Tryz.underlying93 rfl sz3 rfl) rfl rfl ?_ | refine o_pass rfl rfl ?_
                  first | refine o_y (Y_load (v := iv e.x) rfl one3 mm_ (eget hre rfl)) rfl rfl ?_ | refine o_pass rfl rfl ?_
                  first | refine o_y (Y_fa 5 rfl Tryz.underlying34 rfl sz30 rfl) rfl rfl ?_ | refine o_pass rfl rfl ?_
                  first | refine o_y (yl_ one30) rfl rfl ?_ | refine o_pass rfl rfl ?_
                  first | refine o_y (Y_mv) rfl rfl ?_ | refine o_pass rfl rfl ?_
                  first | refine o_y (Y_ia (n := r) rfl rfl Tryz.underlying30 sz93 rfl (by omega)) rfl rfl ?_ | refine o_pass rfl rfl ?_
                  first | refine o_y (Y_fa 4 rfl Tryz.underlying93 rfl sz3 rfl) rfl rfl ?_ | refine o_pass rfl rfl ?_
                  first | refine o_y (Y_load (v := iv e.y) rfl one3 mm_ (eget hre rfl)) rfl rfl ?_ | refine o_pass rfl rfl ?_
                  refine o_c (En_call (fun _ => rfl) Tryz.func91 rfl (by kernel_rfl) rfl) (fun w hH => rat_d (cSl hH (b := cb) (c := cc) (l := u.cells) mm_ u1 l1)) (fun _ _ h => by obtain ⟨rfl, rfl⟩ := h; exact kp_) rfl rfl ?_
                  rintro _ _ ⟨rfl, rfl⟩
                  first | refine o_y (Y_eql rfl rfl) rfl rfl ?_ | refine o_pass rfl rfl ?_
                  refine o_y (Y_pk rfl Gx.const (Gx.tmp gt_)) rfl rfl ?_
                  first | exact hm _ ⟨rfl, trivial⟩ rfl | exact QL.sub sl_ (hm _ ⟨rfl, trivial⟩ rfl)
                · intro ht2 hm
                  iterate 14 refine o_pass rfl rfl ?_
                  refine o_none kp_ rfl rfl ?_
                  iterate 1 refine o_pass rfl rfl ?_
                  refine o_y (Y_pk rfl Gx.const (Gx.tmp gt_)) rfl rfl ?_
                  exact hm _ ⟨rfl, trivial⟩ rfl
                intro j145
                refine o_y (Y_as) rfl rfl ?_
                refine o_nil ?_
                refine q_bn ?_
                refine q_bn ?_
                refine q_then ?_
                refine c_reg ?_
                refine s_y (Y_mv) rfl rfl ?_
                refine s_y ad_ rfl rfl ?_
                refine s_y (Y_as) rfl rfl ?_
                refine s_nil ?_
                rw [if_pos hc28] at hss
                refine hK (m - 1) (s + 1, u, left || decide (atM u.cells e.x e.y = 4), cb, cc, eb, ec, ib, ic) _ _ (by omega) ⟨by simp only; omega, by simp only; exact hss, l1, l2, l3⟩ ⟨rfl, rfl, trivial⟩ rfl (fun w h => h.pick ss_)
              · skip
                try simp only [nrm_] at hc28
                refine c_reg ?_
                refine s_y (ya_ many34) rfl rfl ?_
                refine s_y (Y_mv) rfl rfl ?_
                refine s_y (Y_mv) rfl rfl ?_
                refine s_c (En_call (fun _ => rfl) Tryz.func92 rfl (by kernel_rfl) rfl) (fun w hH => rdo_d (wl_of (d := u) hH ⟨u1, u2, u3⟩ (cb := cb) (cc := cc) (eb := eb) (ec := ec) (ib := ib) (ic := ic) mm_ mm_ mm_ l1 l2 l3) hvu) rfl rfl ?_
                rintro _ _ ⟨cb1, cc1, eb1, ec1, ib1, ic1, rfl, rfl, m1, m2, m3⟩
                refine s_s (S_storeA (vs := wL (doM u s inp) ⟨cb1, 0, cc1, eb1, 0, ec1, ib1, 0, ic1⟩) rfl rfl sz34 (by rfl) (by rfl) up_ (by rfl)) rfl ?_
                refine s_nil ?_
                refine q_bn ?_
                refine q_bn ?_
                refine q_then ?_
                refine c_reg ?_
                refine s_y (Y_mv) rfl rfl ?_
                refine s_y ad_ rfl rfl ?_
                refine s_y (Y_as) rfl rfl ?_
                refine s_nil ?_
                rw [if_neg hc28] at hss
                refine hK (m - 1) (s + 1, doM u s inp, left, cb1, cc1, eb1, ec1, ib1, ic1) _ _ (by omega) ⟨by simp only; omega, by simp only; exact hss, m1, m2, m3⟩ ⟨rfl, rfl, trivial⟩ rfl (fun w h => h.pick ss_)
          · intro go
            refine c_seq ?_
            refine c_reg ?_
            refine s_y (Y_mv) rfl rfl ?_
            refine s_y (Y_iaA (n := s) rfl rfl Tryz.underlying79 sz77 rfl (by omega)) rfl rfl ?_
            refine s_y (Y_fa 0 rfl Tryz.underlying77 rfl sz3 rfl) rfl rfl ?_
            refine s_y (Y_load (v := iv x.how) rfl one3 mm_ (aget (by omega) (by rw [hx]; rfl))) rfl rfl ?_
            refine s_y (Y_eql rfl rfl) rfl rfl ?_
            refine s_nil ?_
            refine q_then ?_
            first | refine c_cond' rfl (fun hc23 => ?_) (fun hc23 => ?_) | refine c_cond rfl (fun hc23 => ?_) (fun hc23 => ?_)
            · skip
              try simp only [nrm_] at hc23
              refine c_reg ?_
              refine s_y (ya_ many34) rfl rfl ?_
              refine s_y (Y_mv) rfl rfl ?_
              refine s_c (En_call (fun _ => rfl) Tryz.func89 rfl (by kernel_rfl) rfl) (fun w hH => rrobot_d (wl_of (d := u) hH ⟨u1, u2, u3⟩ (cb := cb) (cc := cc) (eb := eb) (ec := ec) (ib := ib) (ic := ic) mm_ mm_ mm_ l1 l2 l3) hvu) rfl rfl ?_
              rintro _ _ ⟨rfl, rfl⟩
              refine s_y (Y_as) rfl rfl ?_
              refine s_nil ?_
              exact go (robotM u s) _ _ (by rw [if_pos hc23]) ⟨rfl, trivial⟩ rfl (fun w h => h.pick ss_)
            · skip
              try simp only [nrm_] at hc23
              refine c_skip ?_
              exact go x.input _ _ (by rw [if_neg hc23]) ⟨rfl, trivial⟩ rfl (fun w h => h.pick ss_)
      · skip
        try simp only [nrm_] at hc18
        refine c_exit ?_
        repeat with_reducible refine q_te ?_
        refine q_exit ?_
        refine q_then ?_
        refine c_seq ?_
        refine c_seq ?_
        rw [show s = 4 by omega] at hu
        rw [hu]
        simp only
        clear hss hx u1 u2 u3 hv2
        obtain ⟨d3, hd3⟩ : ∃ z : Wd, u = z := ⟨_, rfl⟩
        subst hd3
        refine c_reg ?_
        refine s_y (Y_asC) rfl rfl ?_
        refine s_nil ?_
        refine q_then ?_
        refine c_block ?_
        refine c_loop [13, 14, 146, 147, 148, 149, 150, 151, 152, 153, 154, 155, 156, 157, 158, 159, 160, 161, 162, 163, 164, 165, 166, 167, 168, 169, 170, 171, 172, 173, 174, 175, 176] (fun m (y : Nat × Wd × Nat × Nat × Nat × Nat × Nat × Nat) => y.1 + m = 32 ∧ y.2.1 = foesW u y.1 ∧ 384 ≤ y.2.2.2.1 ∧ 32 ≤ y.2.2.2.2.2.1 ∧ 40 ≤ y.2.2.2.2.2.2.2) (fun y => [(13, iv y.1)]) (fun y => [cB y.2.2.1 y.2.2.2.1 y.2.1.cells, eB y.2.2.2.2.1 y.2.2.2.2.2.1 y.2.1.ents, iB y.2.2.2.2.2.2.1 y.2.2.2.2.2.2.2 y.2.1.items, wB b4 wz, wB b2 (wL y.2.1 ⟨y.2.2.1, 0, y.2.2.2.1, y.2.2.2.2.1, 0, y.2.2.2.2.2.1, y.2.2.2.2.2.2.1, 0, y.2.2.2.2.2.2.2⟩)]) (32) ((0, u, cb, cc, eb, ec, ib, ic)) (⟨rfl, rfl, l1, l2, l3⟩) (by repeat (first | exact trivial | refine ⟨rfl, ?_⟩)) (fun _ h => h.sub sl_) (fun _ => rfl) ?_
        rintro mm ⟨i, t, cb, cc, eb, ec, ib, ic⟩ j3 ⟨hi, ht, l1, l2, l3⟩ K hK
        simp only at hi ht l1 l2 l3 ⊢
        have hvt : VW t := by rw [ht]; exact hvu.foes i
        obtain ⟨u1, u2, u3⟩ := hvt.sz
        have hfs := foesW_step u i
        rw [← ht] at hfs
        refine c_seq ?_
        refine c_seq ?_
        refine c_reg ?_
        refine s_y (Y_mv) rfl rfl ?_
        refine s_y (Y_fa 5 rfl Tryz.underlying34 rfl sz30 rfl) rfl rfl ?_
        refine s_y (yl_ one30) rfl rfl ?_
        refine s_y (Y_len rfl rfl Tryz.underlying30) rfl rfl ?_
        refine s_y (Y_lss rfl rfl) rfl rfl ?_
        refine s_nil ?_
        refine q_then ?_
        first | refine c_cond' rfl (fun hc31 => ?_) (fun hc31 => ?_) | refine c_cond rfl (fun hc31 => ?_) (fun hc31 => ?_)
        · skip
          try simp only [nrm_] at hc31
          refine c_skip ?_
          refine q_then ?_
          refine c_seq ?_
          refine c_block ?_
          refine c_seq ?_
          obtain ⟨e, he⟩ := take_lt (show i < t.ents.length by omega)
          have heg := egt_of he
          have hfm : foeM t i = if e.kind = 0 ∨ e.kind = 1 ∨ 0 < e.stun then t else actM t i (monsterM t i) true := by unfold foeM; simp only; rw [heg]
          rw [hfm] at hfs
          clear hfm
          refine c_reg ?_
          refine s_y (Y_fa 5 rfl Tryz.underlying34 rfl sz30 rfl) rfl rfl ?_
          refine s_y (yl_ one30) rfl rfl ?_
          refine s_y (Y_mv) rfl rfl ?_
          refine s_y (Y_ia (n := i) rfl rfl Tryz.underlying30 sz93 rfl (by omega)) rfl rfl ?_
          refine s_y (Y_loadN (vs := e.cells) rfl many93 mm_ (by rfl) (egetN he)) rfl rfl ?_
          refine s_n (N_alloc (z := .agg #[.int .i64 0, .int .i64 0, .int .i64 0, .int .i64 0, .int .i64 0, .int .i64 0, .int .i64 0, .int .i64 0, .int .i64 0, .int .i64 0, .int .i64 0]) (cs := [.int .i64 0, .int .i64 0, .int .i64 0, .int .i64 0, .int .i64 0, .int .i64 0, .int .i64 0, .int .i64 0, .int .i64 0, .int .i64 0, .int .i64 0]) zv93 rfl) rfl rfl (fun b14 _ => ?_)
          refine s_s (S_storeA (vs := e.cells) rfl rfl sz93 (by rfl) (by rfl) up_ (by rfl)) rfl ?_
          refine s_nil ?_
          refine q_then ?_
          refine c_seq ?_
          refine c_seq ?_
          refine c_reg ?_
          refine s_y (Y_fa 0 rfl Tryz.underlying93 rfl sz3 rfl) rfl rfl ?_
          refine s_y (yl_ one3) rfl rfl ?_
          refine s_y (Y_eql rfl rfl) rfl rfl ?_
          refine s_y (Y_mv) rfl rfl ?_
          apply s_or 4 [161, 162, 163, 164, 165] 165 (g := 161) rfl rfl
          · intro ht4 hm
            try simp only [nrm_] at ht4
            first | refine s_y (Y_fa 0 rfl Tryz.underlying93 rfl sz3 rfl) rfl rfl ?_ | refine s_pass rfl rfl ?_
            first | refine s_y (yl_ one3) rfl rfl ?_ | refine s_pass rfl rfl ?_
            first | refine s_y (Y_eql rfl rfl) rfl rfl ?_ | refine s_pass rfl rfl ?_
            refine s_y (Y_pk rfl Gx.const (Gx.tmp gt_)) rfl rfl ?_
            first | exact hm _ ⟨rfl, trivial⟩ rfl | exact QL.sub sl_ (hm _ ⟨rfl, trivial⟩ rfl)
          · intro ht4 hm
            iterate 3 refine s_pass rfl rfl ?_
            refine s_y (Y_pk rfl Gx.const (Gx.tmp gt_)) rfl rfl ?_
            exact hm _ ⟨rfl, trivial⟩ rfl
          intro j165
          refine s_y (Y_mv) rfl rfl ?_
          apply s_or 4 [166, 167, 168, 169, 170] 170 (g := 166) rfl rfl
          · intro ht9 hm
            try simp only [nrm_] at ht9
            first | refine s_y (Y_fa 10 rfl Tryz.underlying93 rfl sz3 rfl) rfl rfl ?_ | refine s_pass rfl rfl ?_
            first | refine s_y (yl_ one3) rfl rfl ?_ | refine s_pass rfl rfl ?_
            first | refine s_y (Y_gtr rfl rfl) rfl rfl ?_ | refine s_pass rfl rfl ?_
            refine s_y (Y_pk rfl Gx.const (Gx.tmp gt_)) rfl rfl ?_
            first | exact hm _ ⟨rfl, trivial⟩ rfl | exact QL.sub sl_ (hm _ ⟨rfl, trivial⟩ rfl)
          · intro ht9 hm
            iterate 3 refine s_pass rfl rfl ?_
            refine s_y (Y_pk rfl Gx.const (Gx.tmp gt_)) rfl rfl ?_
            exact hm _ ⟨rfl, trivial⟩ rfl
          intro j170
          refine s_nil ?_
          refine q_then ?_
          first | refine c_cond' rfl (fun hc34 => ?_) (fun hc34 => ?_) | refine c_cond rfl (fun hc34 => ?_) (fun hc34 => ?_)
          · skip
            try simp only [nrm_] at hc34
            refine c_exit ?_
            repeat with_reducible refine q_te ?_
            refine q_exit ?_
            refine q_then ?_
            refine c_reg ?_
            refine s_y (Y_mv) rfl rfl ?_
            refine s_y ad_ rfl rfl ?_
            refine s_y (Y_as) rfl rfl ?_
            refine s_nil ?_
            rw [if_pos (by omega)] at hfs
            refine hK (mm - 1) (i + 1, t, cb, cc, eb, ec, ib, ic) _ _ (by omega) ⟨by simp only; omega, by simp only; exact hfs.symm, l1, l2, l3⟩ ⟨rfl, trivial⟩ rfl (fun w h => h.pick ss_)
          · skip
            try simp only [nrm_] at hc34
            refine c_skip ?_
            refine q_then ?_
            rw [if_neg (by omega)] at hfs
            refine QL.pick (L' := [cB cb cc t.cells, eB eb ec t.ents, iB ib ic t.items, wB b4 wz, wB b2 (wL t ⟨cb, 0, cc, eb, 0, ec, ib, 0, ic⟩)]) ss_ ?_
            refine c_rordS (L0 := [wB b2 (wL t ⟨cb, 0, cc, eb, 0, ec, ib, 0, ic⟩)]) sl_ [5, 6] [(0, true), (1, true), (2, true), (3, true), (4, false), (5, false), (6, false)] (by kernel_rfl) (by kernel_rfl) (by kernel_rfl) (by kernel_rfl) rfl (by intro c a d v w h; cases d <;> exact h) rfl ?_
            simp only [mkOrd, List.filterMap_cons, List.filterMap_nil, List.getElem?_toArray, List.getElem?_cons_zero, List.getElem?_cons_succ, Option.map_some]
            refine o_y (ya_ many34) rfl rfl ?_
            refine o_y (Y_mv) rfl rfl ?_
            refine o_y (ya_ many34) rfl rfl ?_
            refine o_y (Y_mv) rfl rfl ?_
            refine o_c (En_call (fun _ => rfl) Tryz.func93 rfl (by kernel_rfl) rfl) (fun w hH => rmonster_d (wl_of (d := t) hH ⟨u1, u2, u3⟩ (cb := cb) (cc := cc) (eb := eb) (ec := ec) (ib := ib) (ic := ic) mm_ mm_ mm_ l1 l2 l3) hvt (by omega)) (fun _ _ h => by obtain ⟨rfl, rfl⟩ := h; exact kp_) rfl rfl ?_
            rintro _ _ ⟨rfl, rfl⟩
            refine o_c (En_call (fun _ => rfl) Tryz.func90 rfl (by kernel_rfl) rfl) (fun w hH => ract_d (wl_of (d := t) hH ⟨u1, u2, u3⟩ (cb := cb) (cc := cc) (eb := eb) (ec := ec) (ib := ib) (ic := ic) mm_ mm_ mm_ l1 l2 l3) hvt he (by omega)) (fun _ _ h => kp_) rfl rfl ?_
            rintro _ B hA
            obtain ⟨cb1, cc1, eb1, ec1, ib1, ic1, rfl, m1, m2, m3, hc⟩ := hA.open l1 l2 l3
            refine QL.conv (fun w hw => hc hw) ?_
            refine o_s (S_storeA (vs := wL (actM t i (monsterM t i) true) ⟨cb1, 0, cc1, eb1, 0, ec1, ib1, 0, ic1⟩) rfl rfl sz34 (by rfl) (by rfl) up_ (by rfl)) kp_ rfl ?_
            refine o_nil ?_
            refine q_bn ?_
            refine q_then ?_
            refine c_reg ?_
            refine s_y (Y_mv) rfl rfl ?_
            refine s_y ad_ rfl rfl ?_
            refine s_y (Y_as) rfl rfl ?_
            refine s_nil ?_
            refine hK (mm - 1) (i + 1, actM t i (monsterM t i) true, cb1, cc1, eb1, ec1, ib1, ic1) _ _ (by omega) ⟨by simp only; omega, by simp only; exact hfs.symm, m1, m2, m3⟩ ⟨rfl, trivial⟩ rfl (fun w h => h.pick ss_)
        · skip
          try simp only [nrm_] at hc31
          refine c_exit ?_
          repeat with_reducible refine q_te ?_
          refine q_exit ?_
          refine q_then ?_
          refine c_seq ?_
          rw [show i = 32 by omega] at ht
          have hmi : midM u = ratM (ailM t) := by rw [ht]; rfl
          rw [hmi]
          clear hmi hfs ht
          have hva : VW (ailM t) := hvt.ail 32
          refine c_reg ?_
          refine s_y (ya_ many34) rfl rfl ?_
          refine s_c (En_call (fun _ => rfl) Tryz.func94 rfl (by kernel_rfl) rfl) (fun w hH => rail_d (wl_of (d := t) hH ⟨u1, u2, u3⟩ (cb := cb) (cc := cc) (eb := eb) (ec := ec) (ib := ib) (ic := ic) mm_ mm_ mm_ l1 l2 l3) hvt) rfl rfl ?_
          rintro _ _ ⟨cb1, cc1, eb1, ec1, ib1, ic1, rfl, rfl, m1, m2, m3⟩
          refine s_s (S_storeA (vs := wL (ailM t) ⟨cb1, 0, cc1, eb1, 0, ec1, ib1, 0, ic1⟩) rfl rfl sz34 (by rfl) (by rfl) up_ (by rfl)) rfl ?_
          refine s_nil ?_
          refine q_then ?_
          obtain ⟨v, hv3⟩ : ∃ z, ailM t = z := ⟨_, rfl⟩
          rw [hv3] at hva ⊢
          obtain ⟨v1, v2, v3⟩ := hva.sz
          have hrt : ratM v = if v.frame.tmod 16 = 0 then (if 0 ≤ findM v.cells 3 ∧ eAt v.ents (findM v.cells 3 % 24) (findM v.cells 3 / 24) < 0 then { v with ents := spawnedM v.ents { statsM 2 with x := findM v.cells 3 % 24, y := findM v.cells 3 / 24 } } else v) else v := rfl
          refine c_seq ?_
          refine c_meetQ (ks := [15, 16, 179, 180, 181, 182, 183, 184, 185, 186, 187, 188, 189, 190, 191, 192, 193, 194, 195, 196, 197, 198, 199, 200, 201, 202, 203, 204, 205, 206, 207, 208, 209]) (tr := fun _ : Wd × Nat × Nat => []) (φ := fun y => y.1 = ratM v ∧ 32 ≤ y.2.2) (G := fun y => [cB cb1 cc1 y.1.cells, eB y.2.1 y.2.2 y.1.ents, iB ib1 ic1 y.1.items, wB b4 wz, wB b2 (wL y.1 ⟨cb1, 0, cc1, y.2.1, 0, y.2.2, ib1, 0, ic1⟩)]) (fun _ => rfl) ?_ ?_
          · rintro ⟨z, ebz, ecz⟩ j43 ⟨hz, m2z⟩
            refine q_then ?_
            refine c_seq ?_
            refine c_block ?_
            refine c_seq ?_
            simp only at hz m2z ⊢
            have hvz : VW z := by rw [hz]; exact hva.rat
            rw [← hz]
            clear hz hrt
            obtain ⟨w1, w2, w3⟩ := hvz.sz
            have hen : endM z had left = if someM z.ents = false then (if had = true then { z with state := 2 } else z) else if left = true ∧ z.floor = 3 then { z with state := 1 } else if left = true then belowM z else z := rfl
            rw [hen]
            clear hen
            refine c_reg ?_
            refine s_y (ya_ many34) rfl rfl ?_
            refine s_c (En_call (fun _ => rfl) Tryz.func85 rfl (by kernel_rfl) rfl) (fun w hH => rsome_d (wl_of (d := z) hH ⟨w1, w2, w3⟩ (cb := cb1) (cc := cc1) (eb := ebz) (ec := ecz) (ib := ib1) (ic := ic1) mm_ mm_ mm_ m1 m2z m3)) rfl rfl ?_
            rintro _ _ ⟨rfl, rfl⟩
            refine s_y (Y_not rfl) rfl rfl ?_
            refine s_y (Y_as) rfl rfl ?_
            refine s_nil ?_
            refine q_then ?_
            refine c_cond (t := (!someM z.ents)) rfl (fun hc43 => ?_) (fun hc43 => ?_)
            · skip
              try simp only [nrm_] at hc43
              refine c_seq ?_
              rw [if_pos (by simpa using hc43)]
              refine c_reg ?_
              refine s_y (Y_mv) rfl rfl ?_
              refine s_nil ?_
              refine q_then ?_
              refine c_cond (t := had) rfl (fun hc44 => ?_) (fun hc44 => ?_)
              · skip
                try simp only [nrm_] at hc44
                refine c_reg ?_
                refine s_y (Y_fa 3 rfl Tryz.underlying34 rfl sz3 rfl) rfl rfl ?_
                refine s_s (S_stC (cs' := wL { z with state := 2 } ⟨cb1, 0, cc1, ebz, 0, ecz, ib1, 0, ic1⟩) rfl sz3 (by rfl) up_ (by rfl) (by simp only [List.length_cons, List.length_nil]; omega)) rfl ?_
                refine s_nil ?_
                refine q_bn ?_
                refine q_then ?_
                refine c_seq ?_
                refine c_reg ?_
                refine s_y (ya_ many34) rfl rfl ?_
                refine s_s ((sa_ sz34)) rfl ?_
                refine s_nil ?_
                refine q_then ?_
                refine c_ret ?_
                rw [if_pos hc44]
                refine q_retW rfl rfl many34 ss_ m1 m2z m3
              · skip
                try simp only [nrm_] at hc44
                refine c_skip ?_
                refine q_bn ?_
                refine q_then ?_
                refine c_seq ?_
                refine c_reg ?_
                refine s_y (ya_ many34) rfl rfl ?_
                refine s_s ((sa_ sz34)) rfl ?_
                refine s_nil ?_
                refine q_then ?_
                refine c_ret ?_
                rw [if_neg (by rw [hc44]; decide)]
                refine q_retW rfl rfl many34 ss_ m1 m2z m3
            · skip
              try simp only [nrm_] at hc43
              refine c_seq ?_
              rw [if_neg (by simpa using hc43)]
              refine c_reg ?_
              refine s_y (Y_mv) rfl rfl ?_
              refine s_y (Y_mv) rfl rfl ?_
              apply s_and 4 [218, 219, 220, 221, 222] 222 (g := 218) rfl rfl
              · intro ht2 hm
                try simp only [nrm_] at ht2
                first | refine s_y (Y_fa 2 rfl Tryz.underlying34 rfl sz3 rfl) rfl rfl ?_ | refine s_pass rfl rfl ?_
                first | refine s_y (yl_ one3) rfl rfl ?_ | refine s_pass rfl rfl ?_
                first | refine s_y (Y_eql rfl rfl) rfl rfl ?_ | refine s_pass rfl rfl ?_
                refine s_y (Y_pk rfl (Gx.tmp gt_) Gx.const) rfl rfl ?_
                first | exact hm _ ⟨rfl, trivial⟩ rfl | exact QL.sub sl_ (hm _ ⟨rfl, trivial⟩ rfl)
              · intro ht2 hm
                iterate 3 refine s_pass rfl rfl ?_
                refine s_y (Y_pk rfl (Gx.tmp gt_) Gx.const) rfl rfl ?_
                exact hm _ ⟨rfl, trivial⟩ rfl
              intro j222
              refine s_y (Y_as) rfl rfl ?_
              refine s_nil ?_
              refine q_then ?_
              first | refine c_cond' rfl (fun hc46 => ?_) (fun hc46 => ?_) | refine c_cond rfl (fun hc46 => ?_) (fun hc46 => ?_)
              · skip
                try simp only [nrm_] at hc46
                refine c_reg ?_
                refine s_y (Y_fa 3 rfl Tryz.underlying34 rfl sz3 rfl) rfl rfl ?_
                refine s_s (S_stC (cs' := wL { z with state := 1 } ⟨cb1, 0, cc1, ebz, 0, ecz, ib1, 0, ic1⟩) rfl sz3 (by rfl) up_ (by rfl) (by simp only [List.length_cons, List.length_nil]; omega)) rfl ?_
                refine s_nil ?_
                refine q_bn ?_
                refine q_then ?_
                refine c_seq ?_
                refine c_reg ?_
                refine s_y (ya_ many34) rfl rfl ?_
                refine s_s ((sa_ sz34)) rfl ?_
                refine s_nil ?_
                refine q_then ?_
                refine c_ret ?_
                rw [if_pos hc46]
                refine q_retW rfl rfl many34 ss_ m1 m2z m3
              · skip
                try simp only [nrm_] at hc46
                refine c_seq ?_
                rw [if_neg (by rintro ⟨q1, q2⟩; rcases hc46 with h | h; rw [q1] at h; cases h; exact h q2)]
                refine c_reg ?_
                refine s_y (Y_mv) rfl rfl ?_
                refine s_y (Y_as) rfl rfl ?_
                refine s_nil ?_
                refine q_then ?_
                refine c_cond (t := left) rfl (fun hc48 => ?_) (fun hc48 => ?_)
                · skip
                  try simp only [nrm_] at hc48
                  have hf2 : z.floor ≤ 2 := by
                    have := hvz.nums.1
                    rcases hc46 with h | h
                    · rw [hc48] at h; cases h
                    · omega
                  refine c_reg ?_
                  refine s_y (ya_ many34) rfl rfl ?_
                  refine s_cm [iB ib1 ic1 z.items] (En_call (fun _ => rfl) Tryz.func95 rfl (by kernel_rfl) rfl) ss_ (fun w hH => rbelow_d (d := z) (eSl hH (b := ebz) (c := ecz) (l := z.ents) mm_ w2 m2z) (hH.at' (x := iB ib1 ic1 z.items) mm_) (Has.ne hH (x := eB ebz ecz z.ents) (y := iB ib1 ic1 z.items) ss_) m3 hvz hf2) rfl rfl ?_
                  rintro _ _ ⟨cb5, cc5, eb5, ec5, ib5, ic5, rfl, rfl, n1, n2, n3⟩
                  refine s_s (S_storeA (vs := wL (belowM z) ⟨cb5, 0, cc5, eb5, 0, ec5, ib5, 0, ic5⟩) rfl rfl sz34 (by rfl) (by rfl) up_ (by rfl)) rfl ?_
                  refine s_nil ?_
                  refine q_bn ?_
                  refine q_then ?_
                  refine c_seq ?_
                  refine c_reg ?_
                  refine s_y (ya_ many34) rfl rfl ?_
                  refine s_s ((sa_ sz34)) rfl ?_
                  refine s_nil ?_
                  refine q_then ?_
                  refine c_ret ?_
                  rw [if_pos hc48]
                  refine q_retW rfl rfl many34 ss_ n1 n2 n3
                · skip
                  try simp only [nrm_] at hc48
                  refine c_skip ?_
                  refine q_bn ?_
                  refine q_then ?_
                  refine c_seq ?_
                  refine c_reg ?_
                  refine s_y (ya_ many34) rfl rfl ?_
                  refine s_s ((sa_ sz34)) rfl ?_
                  refine s_nil ?_
                  refine q_then ?_
                  refine c_ret ?_
                  rw [if_neg (by rw [hc48]; decide)]
                  refine q_retW rfl rfl many34 ss_ m1 m2z m3
          · intro go
            refine c_seq ?_
            refine c_reg ?_
            refine s_y (Y_fa 1 rfl Tryz.underlying34 rfl sz3 rfl) rfl rfl ?_
            refine s_y (yl_ one3) rfl rfl ?_
            refine s_y (Y_remw rfl rfl (by omega)) rfl rfl ?_
            refine s_y (Y_eql rfl rfl) rfl rfl ?_
            refine s_nil ?_
            refine q_then ?_
            first | refine c_cond' rfl (fun hc37 => ?_) (fun hc37 => ?_) | refine c_cond rfl (fun hc37 => ?_) (fun hc37 => ?_)
            · skip
              try simp only [nrm_] at hc37
              refine c_seq ?_
              refine c_reg ?_
              refine s_y (Y_fa 4 rfl Tryz.underlying34 rfl sz24 rfl) rfl rfl ?_
              refine s_y (yl_ one24) rfl rfl ?_
              refine s_c (En_call (fun _ => rfl) Tryz.func55 rfl (by kernel_rfl) rfl) (fun w hH => rfind_d (cSl hH (b := cb1) (c := cc1) (l := v.cells) mm_ v1 m1)) rfl rfl ?_
              rintro _ _ ⟨rfl, rfl⟩
              refine s_y (Y_as) rfl rfl ?_
              refine s_nil ?_
              rw [if_pos hc37] at hrt
              have hfg := find_rng v.cells 3
              obtain ⟨up, hup⟩ : ∃ z, findM v.cells 3 = z := ⟨_, rfl⟩
              rw [hup] at hrt hfg ⊢
              refine q_then ?_
              refine c_seq ?_
              refine c_reg ?_
              refine s_y (Y_mv) rfl rfl ?_
              refine s_y (Y_geq rfl rfl) rfl rfl ?_
              refine s_y (Y_mv) rfl rfl ?_
              apply s_and 9 [188, 189, 190, 191, 192, 193, 194, 195, 196, 197] 197 (g := 188) rfl rfl
              · intro ht3 hm
                try simp only [nrm_] at ht3
                first | refine s_y (Y_fa 5 rfl Tryz.underlying34 rfl sz30 rfl) rfl rfl ?_ | refine s_pass rfl rfl ?_
                first | refine s_y (yl_ one30) rfl rfl ?_ | refine s_pass rfl rfl ?_
                first | refine s_y (Y_mv) rfl rfl ?_ | refine s_pass rfl rfl ?_
                first | refine s_y ((by first | exact Y_rem rfl rfl (by omega) | exact Y_remw rfl rfl (by omega))) rfl rfl ?_ | refine s_pass rfl rfl ?_
                first | refine s_y (Y_mv) rfl rfl ?_ | refine s_pass rfl rfl ?_
                first | refine s_y ((by first | exact Y_quo rfl rfl (by omega) | exact Y_quow rfl rfl (by omega))) rfl rfl ?_ | refine s_pass rfl rfl ?_
                refine s_c (En_call (fun _ => rfl) Tryz.func73 rfl (by kernel_rfl) rfl) (fun w hH => reat_d (eSl hH (b := eb1) (c := ec1) (l := v.ents) mm_ v2 m2)) rfl rfl ?_
                rintro _ _ ⟨rfl, rfl⟩
                first | refine s_y (Y_lss rfl rfl) rfl rfl ?_ | refine s_pass rfl rfl ?_
                refine s_y (Y_pk rfl (Gx.tmp gt_) Gx.const) rfl rfl ?_
                first | exact hm _ ⟨rfl, trivial⟩ rfl | exact QL.sub sl_ (hm _ ⟨rfl, trivial⟩ rfl)
              · intro ht3 hm
                iterate 8 refine s_pass rfl rfl ?_
                refine s_y (Y_pk rfl (Gx.tmp gt_) Gx.const) rfl rfl ?_
                exact hm _ ⟨rfl, trivial⟩ rfl
              intro j197
              refine s_nil ?_
              refine q_then ?_
              first | refine c_cond' rfl (fun hc39 => ?_) (fun hc39 => ?_) | refine c_cond rfl (fun hc39 => ?_) (fun hc39 => ?_)
              · skip
                try simp only [nrm_] at hc39
                refine c_seq ?_
                refine c_reg ?_
                refine s_c (En_call (fun _ => rfl) Tryz.func86 rfl (by kernel_rfl) rfl) (fun w hH => rstats_d) rfl rfl ?_
                rintro _ _ ⟨rfl, rfl⟩
                refine s_n (N_alloc (z := .agg #[.int .i64 0, .int .i64 0, .int .i64 0, .int .i64 0, .int .i64 0, .int .i64 0, .int .i64 0, .int .i64 0, .int .i64 0, .int .i64 0, .int .i64 0]) (cs := [.int .i64 0, .int .i64 0, .int .i64 0, .int .i64 0, .int .i64 0, .int .i64 0, .int .i64 0, .int .i64 0, .int .i64 0, .int .i64 0, .int .i64 0]) zv93 rfl) rfl rfl (fun b16 _ => ?_)
                refine s_s (S_storeA (vs := (statsM 2).cells) rfl rfl sz93 (by rfl) (by rfl) up_ (by rfl)) rfl ?_
                refine s_nil ?_
                refine q_then ?_
                refine c_seq ?_
                refine c_reg ?_
                refine s_y (Y_mv) rfl rfl ?_
                refine s_y ((by first | exact Y_rem rfl rfl (by omega) | exact Y_remw rfl rfl (by omega))) rfl rfl ?_
                refine s_y (Y_mv) rfl rfl ?_
                refine s_y ((by first | exact Y_quo rfl rfl (by omega) | exact Y_quow rfl rfl (by omega))) rfl rfl ?_
                refine s_y (Y_fa 3 rfl Tryz.underlying93 rfl sz3 rfl) rfl rfl ?_
                refine s_s (S_st (cs' := ({ statsM 2 with x := up % 24 } : Ent).cells) rfl gt_ sz3 (by rfl) up_ (by rfl) (by rw [Ent.len]; decide)) rfl ?_
                refine s_y (Y_fa 4 rfl Tryz.underlying93 rfl sz3 rfl) rfl rfl ?_
                refine s_s (S_st (cs' := ({ statsM 2 with x := up % 24, y := up / 24 } : Ent).cells) rfl gt_ sz3 (by rfl) up_ (by rfl) (by rw [Ent.len]; decide)) rfl ?_
                refine s_nil ?_
                rw [if_pos hc39] at hrt
                obtain ⟨e9, he9⟩ : ∃ z : Ent, ({ statsM 2 with x := up % 24, y := up / 24 } : Ent) = z := ⟨_, rfl⟩
                rw [he9] at hrt ⊢
                refine QL.pick (L' := [eB eb1 ec1 v.ents, cB cb1 cc1 v.cells, iB ib1 ic1 v.items, wB b4 wz, wB b2 (wL v ⟨cb1, 0, cc1, eb1, 0, ec1, ib1, 0, ic1⟩), e1B b16 e9]) ss_ ?_
                refine q_then ?_
                refine c_reg ?_
                refine s_y (Y_fa 5 rfl Tryz.underlying34 rfl sz30 rfl) rfl rfl ?_
                refine s_y (yl_ one30) rfl rfl ?_
                refine s_y (ya_ many93) rfl rfl ?_
                refine s_c (En_call (fun _ => rfl) Tryz.func88 rfl (by kernel_rfl) rfl) (fun w hH => rspawned_d (eSl hH (b := eb1) (c := ec1) (l := v.ents) mm_ v2 m2) (by omega) e9) rfl rfl ?_
                rintro _ _ hP
                rename_i B
                obtain ⟨eb2, ec2, rfl, m4, hc⟩ := hP.conv m2
                refine QL.conv (fun w hw => hc hw) ?_
                refine s_y (Y_fa 5 rfl Tryz.underlying34 rfl sz30 rfl) rfl rfl ?_
                refine s_s (S_st (cs' := wL v ⟨cb1, 0, cc1, eb2, 0, ec2, ib1, 0, ic1⟩) rfl gt_ sz30 (by rfl) up_ (by rfl) (by simp only [List.length_cons, List.length_nil]; omega)) rfl ?_
                refine s_nil ?_
                exact go ({ v with ents := spawnedM v.ents e9 }, eb2, ec2) _ _ ⟨hrt.symm, m4⟩ trivial rfl (fun w h => h.pick ss_)
              · skip
                try simp only [nrm_] at hc39
                refine c_skip ?_
                exact go (v, eb1, ec1) _ _ ⟨by rw [hrt, if_neg (by omega)], m2⟩ trivial rfl (fun w h => h.pick ss_)
            · skip
              try simp only [nrm_] at hc37
              refine c_skip ?_
              exact go (v, eb1, ec1) _ _ ⟨by rw [hrt, if_neg hc37], m2⟩ trivial rfl (fun w h => h.pick ss_)
end
end Go.Proofs.YtcogbkkdccohfaaGreat
namespace Go.Proofs.YtcogbkkdccohfaaGreat
open Go.RowKit Go.Ad Go.Maps
set_option linter.unusedVariables false
set_option linter.unusedSimpArgs false
def hdr (w : Wd) : Int × Int × Int × Int := (w.seed, w.frame, w.floor, w.state)
theorem hdr_do (w : Wd) (s i : Int) : hdr (doM w s i) = hdr w := by
  unfold doM pickD useD wearD dropD buyD
  simp only
  repeat' split
  all_goals rfl
theorem hdr_hurt (w : Wd) (r n : Int) : hdr (hurtM w r n) = hdr w := by
  unfold hurtM
  simp only
  repeat' split
  all_goals rfl
theorem hdr_marks (w : Wd) (k f t : Int) : hdr (marksE w k f t) = hdr w := by
  unfold marksE
  simp only
  repeat' split
  all_goals rfl
theorem hdr_hit (w : Wd) (f t : Int) : hdr (hitM w f t) = hdr w := by
  unfold hitM
  split
  · rfl
  · rw [hdr_marks, hdr_hurt]
theorem hdr_act (w : Wd) (r k : Int) (foe : Bool) : hdr (actM w r k foe) = hdr w := by
  unfold actM
  simp only
  split
  · rfl
  · split
    · split
      · exact hdr_hit _ _ _
      · rfl
    · split <;> rfl
theorem hdr_ailOne (w : Wd) (i : Nat) : hdr (ailOne w i) = hdr w := by
  unfold ailOne
  simp only
  split
  · rfl
  · split
    · rw [hdr_hurt]; rfl
    · rfl
theorem hdr_ail (w : Wd) : ∀ n, hdr (ailF w n) = hdr w
  | 0 => rfl
  | n + 1 => by rw [ailF, hdr_ailOne, hdr_ail w n]
theorem hdr_foe (w : Wd) (i : Nat) : hdr (foeM w i) = hdr w := by
  unfold foeM
  simp only
  split
  · rfl
  · exact hdr_act _ _ _ _
theorem hdr_foes (w : Wd) : ∀ n, hdr (foesW w n) = hdr w
  | 0 => rfl
  | n + 1 => by rw [foesW, hdr_foe, hdr_foes w n]
theorem hdr_seat (p : Wd × Bool) (a : Deed) (s : Int) : hdr (seatM p a s).1 = hdr p.1 := by
  unfold seatM
  simp only
  split
  · rfl
  · generalize (if a.how = 2 then robotM p.1 s else a.input) = q
    split
    · exact hdr_act _ _ _ _
    · split
      · rfl
      · exact hdr_do _ _ _
theorem hdr_seats (w : Wd) (a : Acts) : ∀ n, hdr (seatsM w a n).1 = hdr w
  | 0 => rfl
  | n + 1 => by rw [seatsM, hdr_seat, hdr_seats w a n]
theorem hdr_rat (w : Wd) : hdr (ratM w) = hdr w := by
  unfold ratM
  simp only
  split
  · split <;> rfl
  · rfl
theorem hdr_mid (w : Wd) : hdr (midM w) = hdr w := by unfold midM; rw [hdr_rat, show ailM (foesW w 32) = ailF (foesW w 32) 32 from rfl, hdr_ail, hdr_foes]
theorem end_hdr (w : Wd) (had left : Bool) : (endM w had left).seed = w.seed ∧ (endM w had left).frame = w.frame ∧ ((endM w had left).floor = w.floor ∨ (left = true ∧ w.floor ≠ 3 ∧ (endM w had left).floor = w.floor + 1)) := by
  unfold endM
  split
  · split
    · exact ⟨rfl, rfl, .inl rfl⟩
    · exact ⟨rfl, rfl, .inl rfl⟩
  · split
    · exact ⟨rfl, rfl, .inl rfl⟩
    · rename_i hc
      split
      · rename_i hl
        exact ⟨rfl, rfl, .inr ⟨hl, fun h => hc ⟨hl, h⟩, rfl⟩⟩
      · exact ⟨rfl, rfl, .inl rfl⟩
theorem step_hdr (d : Wd) (a : Acts) : (stepM d a).seed = d.seed ∧ (stepM d a).frame = d.frame + 1 ∧ d.floor ≤ (stepM d a).floor ∧ (stepM d a).floor ≤ d.floor + 1 := by
  unfold stepM
  simp only
  split
  · exact ⟨rfl, rfl, Int.le_refl _, by simp only; omega⟩
  · obtain ⟨d2, hd2⟩ : ∃ z : Wd, ({ d with frame := d.frame + 1, ents := comesM d.cells d.ents a 4 } : Wd) = z := ⟨_, rfl⟩
    have h0 : hdr d2 = (d.seed, d.frame + 1, d.floor, d.state) := by rw [← hd2]; rfl
    rw [hd2]
    have h1 := hdr_seats d2 a 4
    have h2 := hdr_mid (seatsM d2 a 4).1
    obtain ⟨d3, hd3⟩ : ∃ z, midM (seatsM d2 a 4).1 = z := ⟨_, rfl⟩
    rw [hd3] at h2 ⊢
    rw [h1, h0] at h2
    simp only [hdr, Prod.mk.injEq] at h2
    obtain ⟨e1, e2, e3, e4⟩ := h2
    generalize (someM d.ents || someM (comesM d.cells d.ents a 4)) = had
    obtain ⟨k1, k2, k3⟩ := end_hdr d3 had (seatsM d2 a 4).2
    refine ⟨by rw [k1, e1], by rw [k2, e2], ?_, ?_⟩ <;> rcases k3 with k | ⟨_, _, k⟩ <;> rw [k] <;> omega
end Go.Proofs.YtcogbkkdccohfaaGreat
namespace Go.Ad
open Go.RowKit Go.Maps Go.Proofs.YtcogbkkdccohfaaGreat
def Lls (W : World) (v : Value) (ls : List (List Int)) : Prop := ∃ vs : List Value, SlV W 1 v ls.length vs ∧ ∀ (i : Nat) (l : List Int), ls[i]? = some l → ∃ vi, vs[i]? = some vi ∧ SlV W 1 vi l.length (l.map iv)
theorem Lls.has {W w : World} {L : List Bk} {v : Value} {ls : List (List Int)} (h : Lls W v ls) (hH : Has W [] L w) : Lls w v ls := by
  obtain ⟨vs, h1, h2⟩ := h
  exact ⟨vs, h1.has hH, fun i l hi => by obtain ⟨vi, h3, h4⟩ := h2 i l hi; exact ⟨vi, h3, h4.has hH⟩⟩
def wcs (ps : List (Wd × Ws)) : List Value := ps.flatMap fun p => wL p.1 p.2
theorem wcs_len (ps : List (Wd × Ws)) : (wcs ps).length = ps.length * 11 := fl_len (c := fun p : Wd × Ws => wL p.1 p.2) (fun _ => rfl) ps
theorem wcs_snoc (ps : List (Wd × Ws)) (p : Wd × Ws) : wcs ps ++ wL p.1 p.2 = wcs (ps ++ [p]) := by simp [wcs]
theorem wcs_at {ps : List (Wd × Ws)} {i : Nat} {p : Wd × Ws} (h : ps[i]? = some p) : ∀ j v, (wL p.1 p.2)[j]? = some v → (wcs ps)[0 + i * 11 + j]? = some v := fun j v hj => by rw [Nat.zero_add]; exact fl_get (c := fun p : Wd × Ws => wL p.1 p.2) (fun _ => rfl) h hj
def Own (p : Wd × Ws) (B : List Bk) : Prop := ∃ cb cc eb ec ib ic, p.2 = ⟨cb, 0, cc, eb, 0, ec, ib, 0, ic⟩ ∧ cB cb cc p.1.cells ∈ B ∧ eB eb ec p.1.ents ∈ B ∧ iB ib ic p.1.items ∈ B ∧ 384 ≤ cc ∧ 32 ≤ ec ∧ 40 ≤ ic
theorem Own.mono {p : Wd × Ws} {B B' : List Bk} (h : Own p B) (hs : ∀ x ∈ B, x ∈ B') : Own p B' := by
  obtain ⟨cb, cc, eb, ec, ib, ic, h1, h2, h3, h4, h5⟩ := h
  exact ⟨cb, cc, eb, ec, ib, ic, h1, hs _ h2, hs _ h3, hs _ h4, h5⟩
theorem Own.wl {p : Wd × Ws} {B : List Bk} (h : Own p B) (hz : p.1.cells.length = 384 ∧ p.1.ents.length = 32 ∧ p.1.items.length = 40) {W0 w : World} {M : List Nat} {L : List Bk} (hH : Has W0 M L w) (hs : ∀ x ∈ B, x ∈ L) : WL w p.1 p.2 := by
  obtain ⟨cb, cc, eb, ec, ib, ic, h1, h2, h3, h4, l1, l2, l3⟩ := h
  rw [h1]
  exact wl_of hH hz (hs _ h2) (hs _ h3) (hs _ h4) l1 l2 l3
structure TaleW (seed : Int) (n : Nat) (d : Wd) : Prop where
  vw : VW d
  fr : 0 ≤ d.frame ∧ d.frame ≤ n
  sd : d.seed = seed
theorem TaleW.step {seed : Int} {n : Nat} {d : Wd} (h : TaleW seed n d) (a : Acts) : TaleW seed (n + 1) (stepM d a) := by
  obtain ⟨h1, h2, _⟩ := step_hdr d a
  have := h.fr
  exact ⟨h.vw.step a, by omega, by rw [h1]; exact h.sd⟩
theorem TaleW.new (seed : Int) : TaleW seed 0 (newM seed) := ⟨VW.new seed, by rw [show (newM seed).frame = 0 from rfl]; omega, rfl⟩
theorem TaleW.more {seed : Int} {n m : Nat} {d : Wd} (h : TaleW seed n d) (hm : n ≤ m) : TaleW seed m d := ⟨h.vw, by have := h.fr; omega, h.sd⟩
theorem aall {al : Acts} {s : Nat} (x : Deed) (h : s < al.length) : setAll (acells al) (0 + s * 3) x.cells = acells (al.set s x) := by rw [Nat.zero_add]; exact fl_all Deed.len h x
theorem ble_a {al : Acts} {s : Nat} (h : s < al.length) : Nat.ble (0 + s * 3 + 3) (acells al).length = true := by
  rw [acells_len]
  exact Nat.ble_eq_true_of_le (by omega)
theorem one_w (d : Wd) (s : Ws) : ∀ u ∈ wL d s, u.oneCell' = true := fun u hu => List.all_eq_true.1 (show (wL d s).all (·.oneCell') = true from rfl) u hu
end Go.Ad
namespace Go.Proofs.YtcogbkkdccohfaaGreat
open Go.RowKit Go.Ad Go.Maps
set_option linter.unusedVariables false
set_option linter.unusedSimpArgs false
structure Tale (seed : Int) (ps : List (Wd × Ws)) (B : List Bk) : Prop where
  told : ∀ p ∈ ps, TaleW seed 30 p.1 ∧ Own p B
def StoryP (seed : Int) (n : Nat) (v : Value) (L : List Bk) : Prop := ∃ ps g cap B, ps.length = n ∧ Tale seed ps B ∧ v = .slice (some ⟨g, 0, none⟩) n cap ∧ n ≤ cap ∧ L = ⟨g, 34, 11, cap, wcs ps⟩ :: B
section
variable {W : World}
set_option maxRecDepth 100000 in
theorem l11within_d {a n : Int} (hn : 1 ≤ n ∧ n ≤ 1000000000000) : Does Tryz.prog 18 [iv a, iv n] W [] (fun v L => v = iv (a % n) ∧ L = []) := by
  have hc := tmod_cases a (n := n) (by omega)
  have h2 := Int.emod_lt_of_pos a (show 0 < n by omega)
  have h1 := Int.emod_nonneg a (show n ≠ 0 by omega)
  refine enter Tryz.func18 rfl rfl rfl (Has.start _) ?_
  refine c_seq ?_
  refine c_reg ?_
  refine s_y (Y_asC) rfl rfl ?_
  refine s_nil ?_
  refine q_then ?_
  refine c_seq ?_
  refine c_reg ?_
  refine s_y (Y_mv) rfl rfl ?_
  refine s_y (Y_mv) rfl rfl ?_
  refine s_y (Y_remw rfl rfl (by omega)) rfl rfl ?_
  refine s_y (Y_as) rfl rfl ?_
  refine s_nil ?_
  refine q_then ?_
  refine c_seq ?_
  refine c_seq ?_
  refine c_reg ?_
  refine s_y (Y_mv) rfl rfl ?_
  refine s_y (Y_lss rfl rfl) rfl rfl ?_
  refine s_nil ?_
  refine q_then ?_
  first | refine c_cond' rfl (fun hc2 => ?_) (fun hc2 => ?_) | refine c_cond rfl (fun hc2 => ?_) (fun hc2 => ?_)
  · skip
    try simp only [nrm_] at hc2
    refine c_reg ?_
    refine s_y (Y_mv) rfl rfl ?_
    refine s_y (Y_mv) rfl rfl ?_
    refine s_y ((Y_add rfl rfl (by omega)).num (show _ = a % n by omega)) rfl rfl ?_
    refine s_y (Y_as) rfl rfl ?_
    refine s_nil ?_
    refine q_then ?_
    refine c_seq ?_
    refine c_reg ?_
    refine s_y (Y_mv) rfl rfl ?_
    refine s_y (Y_as) rfl rfl ?_
    refine s_nil ?_
    refine q_then ?_
    refine c_ret ?_
    refine q_retG1 rfl gt_ (L' := _) sl_ (⟨rfl, rfl⟩)
  · skip
    try simp only [nrm_] at hc2
    refine c_skip ?_
    refine q_then ?_
    refine c_seq ?_
    refine c_reg ?_
    refine s_y (Y_mv) rfl rfl ?_
    refine s_y (Y_as) rfl rfl ?_
    refine s_nil ?_
    refine q_then ?_
    refine c_ret ?_
    refine q_retG1 rfl gt_ (L' := _) sl_ (⟨by congr 1; omega, rfl⟩)
set_option maxRecDepth 100000 in
set_option maxHeartbeats 1600000 in
theorem lstory_d {seed : Int} {lv : Value} {ls : List (List Int)} (hl : Lls W lv ls) : Does Tryz.prog 16 [iv seed, lv] W [] (StoryP seed (1 + min ls.length 30)) := by
  obtain ⟨vs, hlv, hli⟩ := hl
  have hll := hlv.le
  simp only [maxLen] at hll
  refine enter Tryz.func16 rfl rfl rfl (Has.start _) ?_
  refine c_seq ?_
  refine c_reg ?_
  refine s_y (Y_asC) rfl rfl ?_
  refine s_nil ?_
  refine q_then ?_
  refine c_seq ?_
  refine c_reg ?_
  refine s_y (Y_mv) rfl rfl ?_
  refine s_c (En_call (fun _ => rfl) Tryz.func45 rfl (by kernel_rfl) rfl) (fun w hH => rnew_d) rfl rfl ?_
  rintro _ _ ⟨cb, cc, eb, ec, ib, ic, rfl, rfl, l1, l2, l3⟩
  have hn := VW.new seed
  have hnt := TaleW.new seed
  obtain ⟨d0, hd0⟩ : ∃ z, newM seed = z := ⟨_, rfl⟩
  rw [hd0] at hn hnt l1 l2 l3 ⊢
  obtain ⟨z1, z2, z3⟩ := hn.sz
  rw [wv_wL ⟨z1, z2, z3⟩]
  rw [z1] at l1
  rw [z2] at l2
  rw [z3] at l3
  refine s_n (N_alloc (z := .agg #[.int .i64 0, .int .i64 0, .int .i64 0, .int .i64 0, .slice none 0 0, .slice none 0 0, .slice none 0 0, .int .i64 0, .int .i64 0, .int .i64 0, .int .i64 0]) (cs := [.int .i64 0, .int .i64 0, .int .i64 0, .int .i64 0, .slice none 0 0, .slice none 0 0, .slice none 0 0, .int .i64 0, .int .i64 0, .int .i64 0, .int .i64 0]) zv34 rfl) rfl rfl (fun b5 _ => ?_)
  refine s_s (S_storeA (vs := wL d0 ⟨cb, 0, cc, eb, 0, ec, ib, 0, ic⟩) rfl rfl sz34 (by rfl) (by rfl) up_ (by rfl)) rfl ?_
  refine s_nil ?_
  refine q_then ?_
  refine c_seq ?_
  refine c_reg ?_
  refine s_y (ya_ many34) rfl rfl ?_
  refine s_n (N_bsA gt_ Tryz.underlying26 inf34 rfl rfl (by omega) (by omega)) rfl rfl (fun b13 _ => ?_)
  refine s_y (Y_as) rfl rfl ?_
  refine s_nil ?_
  refine q_then ?_
  refine c_seq ?_
  refine c_seq ?_
  refine c_reg ?_
  refine s_y (Y_asC) rfl rfl ?_
  refine s_nil ?_
  refine q_then ?_
  refine c_block ?_
  refine c_loop [6, 7, 8, 9, 14, 15, 16, 17, 18, 19, 20, 21, 22, 23, 24, 25, 26, 27, 28, 29, 30, 31, 32, 33, 34, 35, 36, 37, 38, 39, 40, 41, 42, 43, 44, 45, 46, 47, 48, 49, 50, 51, 52, 53, 54, 55, 56, 57, 58, 59, 60, 61, 62, 63, 64, 65, 66, 67, 68, 69, 70, 71, 72, 73] (fun m (y : Nat × Wd × Ws × List (Wd × Ws) × Nat × Nat × List Bk) => y.1 + m = min ls.length 30 ∧ y.2.2.2.1.length = y.1 + 1 ∧ y.1 + 1 ≤ y.2.2.2.2.2.1 ∧ (∀ p ∈ y.2.2.2.1, TaleW seed 30 p.1 ∧ Own p y.2.2.2.2.2.2) ∧ TaleW seed y.1 y.2.1 ∧ Own (y.2.1, y.2.2.1) y.2.2.2.2.2.2) (fun y => [(7, iv y.1), (6, .slice (some ⟨y.2.2.2.2.1, 0, none⟩) (y.1 + 1) y.2.2.2.2.2.1)]) (fun y => ⟨y.2.2.2.2.1, 34, 11, y.2.2.2.2.2.1, wcs y.2.2.2.1⟩ :: wB b5 (wL y.2.1 y.2.2.1) :: y.2.2.2.2.2.2) (min ls.length 30) ((0, d0, ⟨cb, 0, cc, eb, 0, ec, ib, 0, ic⟩, [(d0, ⟨cb, 0, cc, eb, 0, ec, ib, 0, ic⟩)], b13, 1, [cB cb cc d0.cells, eB eb ec d0.ents, iB ib ic d0.items])) (⟨by simp only; omega, rfl, by simp only; omega, fun p hp => by obtain rfl := List.mem_singleton.1 hp; exact ⟨hnt.more (by omega), cb, cc, eb, ec, ib, ic, rfl, mm_, mm_, mm_, l1, l2, l3⟩, hnt, cb, cc, eb, ec, ib, ic, rfl, mm_, mm_, mm_, l1, l2, l3⟩) (by repeat (first | exact trivial | refine ⟨rfl, ?_⟩)) (fun w h => h.pick ss_) (fun _ => rfl) ?_
  rintro m ⟨i, d, s, ps, g, cap, B⟩ j ⟨hi, hpl, hcap, hps, hd, how⟩ K hK
  simp only at hi hpl hcap hps hd how ⊢
  refine c_seq ?_
  refine c_seq ?_
  refine c_reg ?_
  refine s_y (Y_mv) rfl rfl ?_
  refine s_y (Y_mv) rfl rfl ?_
  refine s_y (Y_lenV hlv rfl rfl Tryz.underlying22) rfl rfl ?_
  refine s_y (Y_lss rfl rfl) rfl rfl ?_
  refine s_y (Y_mv) rfl rfl ?_
  apply s_and 3 [18, 19, 20, 21] 21 (g := 18) rfl rfl
  · intro ht5 hm
    try simp only [nrm_] at ht5
    first | refine s_y (Y_mv) rfl rfl ?_ | refine s_pass rfl rfl ?_
    first | refine s_y (Y_lss rfl rfl) rfl rfl ?_ | refine s_pass rfl rfl ?_
    refine s_y (Y_pk rfl (Gx.tmp gt_) Gx.const) rfl rfl ?_
    first | exact hm _ ⟨rfl, trivial⟩ rfl | exact QL.sub sl_ (hm _ ⟨rfl, trivial⟩ rfl)
  · intro ht5 hm
    iterate 2 refine s_pass rfl rfl ?_
    refine s_y (Y_pk rfl (Gx.tmp gt_) Gx.const) rfl rfl ?_
    exact hm _ ⟨rfl, trivial⟩ rfl
  intro j21
  refine s_nil ?_
  refine q_then ?_
  first | refine c_cond' rfl (fun hc4 => ?_) (fun hc4 => ?_) | refine c_cond rfl (fun hc4 => ?_) (fun hc4 => ?_)
  · skip
    try simp only [nrm_] at hc4
    refine c_skip ?_
    refine q_then ?_
    refine c_seq ?_
    refine c_block ?_
    refine c_seq ?_
    obtain ⟨row, hrow⟩ := take_lt (show i < ls.length by omega)
    obtain ⟨rv, hrv, hrl⟩ := hli i row hrow
    obtain ⟨lb, lo, lc, rfl, hls⟩ := hlv.some_of (by omega)
    have hrle := hrl.le
    simp only [maxLen] at hrle
    refine c_reg ?_
    refine s_n (N_alloc (z := .agg #[.int .i64 0, .int .i64 0, .bool false, .int .i64 0, .int .i64 0, .bool false, .int .i64 0, .int .i64 0, .bool false, .int .i64 0, .int .i64 0, .bool false]) (cs := [.int .i64 0, .int .i64 0, .bool false, .int .i64 0, .int .i64 0, .bool false, .int .i64 0, .int .i64 0, .bool false, .int .i64 0, .int .i64 0, .bool false]) zv79 rfl) rfl rfl (fun b8 _ => ?_)
    refine s_nil ?_
    refine q_then ?_
    refine c_seq ?_
    refine c_seq ?_
    refine c_reg ?_
    refine s_y (Y_asC) rfl rfl ?_
    refine s_nil ?_
    refine q_then ?_
    refine c_block ?_
    refine c_loop [9, 24, 25, 26, 27, 28, 29, 30, 31, 32, 33, 34, 35, 36, 37, 38, 39, 40, 41, 42, 43, 44, 45, 46, 47, 48, 49, 50, 51, 52, 53, 54, 55, 56, 57, 58, 59, 60, 61, 62, 63, 64, 65, 66] (fun m2 (y : Nat × Acts) => y.1 + m2 = min 4 row.length ∧ y.2.length = 4) (fun y => [(9, iv y.1)]) (fun y => ⟨b8, 79, 12, 1, acells y.2⟩ :: ⟨g, 34, 11, cap, wcs ps⟩ :: wB b5 (wL d s) :: B) (min 4 row.length) ((0, [⟨0, 0, false⟩, ⟨0, 0, false⟩, ⟨0, 0, false⟩, ⟨0, 0, false⟩])) (⟨by simp only; omega, rfl⟩) (by repeat (first | exact trivial | refine ⟨rfl, ?_⟩)) (fun w h => h) (fun _ => rfl) ?_
    rintro m2 ⟨q, al⟩ j2 ⟨hq, hal⟩ K2 hK2
    simp only at hq hal ⊢
    refine c_seq ?_
    refine c_seq ?_
    refine c_reg ?_
    refine s_y (Y_mv) rfl rfl ?_
    refine s_y (Y_lss rfl rfl) rfl rfl ?_
    refine s_y (Y_mv) rfl rfl ?_
    apply s_and 8 [26, 27, 28, 29, 30, 31, 32, 33, 34] 34 (g := 26) rfl rfl
    · intro ht3 hm
      try simp only [nrm_] at ht3
      first | refine s_y (Y_mv) rfl rfl ?_ | refine s_pass rfl rfl ?_
      first | refine s_y (Y_mv) rfl rfl ?_ | refine s_pass rfl rfl ?_
      first | refine s_y (Y_mv) rfl rfl ?_ | refine s_pass rfl rfl ?_
      first | refine s_y (Y_ia1 (n := i) rfl rfl Tryz.underlying22 sz23 rfl (by omega)) rfl rfl ?_ | refine s_pass rfl rfl ?_
      first | refine s_y (Y_loadR (v := rv) (i := i) rfl one23 hls.ro (by omega) hrv) rfl rfl ?_ | refine s_pass rfl rfl ?_
      first | refine s_y (Y_lenV hrl rfl rfl Tryz.underlying23) rfl rfl ?_ | refine s_pass rfl rfl ?_
      first | refine s_y (Y_lss rfl rfl) rfl rfl ?_ | refine s_pass rfl rfl ?_
      refine s_y (Y_pk rfl (Gx.tmp gt_) Gx.const) rfl rfl ?_
      first | exact hm _ ⟨rfl, trivial⟩ rfl | exact QL.sub sl_ (hm _ ⟨rfl, trivial⟩ rfl)
    · intro ht3 hm
      iterate 7 refine s_pass rfl rfl ?_
      refine s_y (Y_pk rfl (Gx.tmp gt_) Gx.const) rfl rfl ?_
      exact hm _ ⟨rfl, trivial⟩ rfl
    intro j34
    refine s_nil ?_
    refine q_then ?_
    first | refine c_cond' rfl (fun hc8 => ?_) (fun hc8 => ?_) | refine c_cond rfl (fun hc8 => ?_) (fun hc8 => ?_)
    · skip
      try simp only [nrm_] at hc8
      refine c_skip ?_
      refine q_then ?_
      refine c_seq ?_
      refine c_block ?_
      obtain ⟨z, hz⟩ := take_lt (show q < row.length by omega)
      obtain ⟨rb, ro, rc, rfl, hrs⟩ := hrl.some_of (by omega)
      have hzv : (row.map iv)[q]? = some (iv z) := by rw [List.getElem?_map, hz]; rfl
      refine c_rordS (L0 := []) sl_ [30] [(0, true), (1, true), (2, true), (3, true), (4, true), (5, true), (6, true), (7, true), (9, true), (10, true), (11, true), (12, true), (13, true), (14, true), (15, true), (16, true), (18, true), (19, true), (20, true), (21, true), (22, true), (23, true), (24, true), (25, true), (8, false), (17, false), (26, false), (27, true), (28, true), (29, true), (30, false)] (by kernel_rfl) (by kernel_rfl) (by kernel_rfl) (by kernel_rfl) rfl (by intro c a d v w h; cases d <;> exact h) rfl ?_
      simp only [mkOrd, List.filterMap_cons, List.filterMap_nil, List.getElem?_toArray, List.getElem?_cons_zero, List.getElem?_cons_succ, Option.map_some]
      refine o_y (Y_mv) rfl rfl ?_
      refine o_y (Y_mv) rfl rfl ?_
      refine o_y (Y_mv) rfl rfl ?_
      refine o_y (Y_ia1 (n := i) rfl rfl Tryz.underlying22 sz23 rfl (by omega)) rfl rfl ?_
      refine o_y (Y_loadR (v := .slice (some ⟨rb, ro, none⟩) row.length rc) (i := i) rfl one23 hls.ro (by omega) hrv) rfl rfl ?_
      refine o_y (Y_mv) rfl rfl ?_
      refine o_y (Y_ia1 (n := q) rfl rfl Tryz.underlying23 sz3 rfl (by omega)) rfl rfl ?_
      refine o_y (Y_loadR (v := iv z) (i := q) rfl one3 hrs.ro (by omega) hzv) rfl rfl ?_
      refine o_y (Y_mv) rfl rfl ?_
      refine o_y (Y_mv) rfl rfl ?_
      refine o_y (Y_ia1 (n := i) rfl rfl Tryz.underlying22 sz23 rfl (by omega)) rfl rfl ?_
      refine o_y (Y_loadR (v := .slice (some ⟨rb, ro, none⟩) row.length rc) (i := i) rfl one23 hls.ro (by omega) hrv) rfl rfl ?_
      refine o_y (Y_mv) rfl rfl ?_
      refine o_y (Y_ia1 (n := q) rfl rfl Tryz.underlying23 sz3 rfl (by omega)) rfl rfl ?_
      refine o_y (Y_loadR (v := iv z) (i := q) rfl one3 hrs.ro (by omega) hzv) rfl rfl ?_
      refine o_y (Y_quow rfl rfl (by decide)) rfl rfl ?_
      refine o_y (Y_mv) rfl rfl ?_
      refine o_y (Y_mv) rfl rfl ?_
      refine o_y (Y_ia1 (n := i) rfl rfl Tryz.underlying22 sz23 rfl (by omega)) rfl rfl ?_
      refine o_y (Y_loadR (v := .slice (some ⟨rb, ro, none⟩) row.length rc) (i := i) rfl one23 hls.ro (by omega) hrv) rfl rfl ?_
      refine o_y (Y_mv) rfl rfl ?_
      refine o_y (Y_ia1 (n := q) rfl rfl Tryz.underlying23 sz3 rfl (by omega)) rfl rfl ?_
      refine o_y (Y_loadR (v := iv z) (i := q) rfl one3 hrs.ro (by omega) hzv) rfl rfl ?_
      refine o_y (Y_quow rfl rfl (by decide)) rfl rfl ?_
      refine o_c (En_call (fun _ => rfl) Tryz.func18 rfl (by kernel_rfl) rfl) (fun w hH => l11within_d (by decide)) (fun _ _ h => by obtain ⟨rfl, rfl⟩ := h; exact kp_) rfl rfl ?_
      rintro _ _ ⟨rfl, rfl⟩
      refine o_c (En_call (fun _ => rfl) Tryz.func18 rfl (by kernel_rfl) rfl) (fun w hH => l11within_d (by decide)) (fun _ _ h => by obtain ⟨rfl, rfl⟩ := h; exact kp_) rfl rfl ?_
      rintro _ _ ⟨rfl, rfl⟩
      refine o_c (En_call (fun _ => rfl) Tryz.func18 rfl (by kernel_rfl) rfl) (fun w hH => l11within_d (by decide)) (fun _ _ h => by obtain ⟨rfl, rfl⟩ := h; exact kp_) rfl rfl ?_
      rintro _ _ ⟨rfl, rfl⟩
      refine o_y (Y_eql rfl rfl) rfl rfl ?_
      refine o_y (Y_build (cs := [_, _, _]) (by repeat (first | exact Gp.nil | apply Gp.const | apply Gp.tmp gt_)) (bld77 _ _ (by first | rfl | (simp; rfl)))) rfl rfl ?_
      refine o_y (Y_iaA (n := q) rfl rfl Tryz.underlying79 sz77 rfl (by omega)) rfl rfl ?_
      refine o_s (S_storeN (cs' := acells (al.set q ⟨z % 3, IntKind.i64.wrap (z.tdiv 3) % 11, decide (IntKind.i64.wrap (z.tdiv 33) % 3 = 0)⟩)) rfl rfl sz77 (by rfl) (by rfl) up_ (aall ⟨z % 3, IntKind.i64.wrap (z.tdiv 3) % 11, decide (IntKind.i64.wrap (z.tdiv 33) % 3 = 0)⟩ (by omega)) (ble_a (by omega))) kp_ rfl ?_
      refine o_nil ?_
      refine q_bn ?_
      refine q_then ?_
      refine c_reg ?_
      refine s_y (Y_mv) rfl rfl ?_
      refine s_y ad_ rfl rfl ?_
      refine s_y (Y_as) rfl rfl ?_
      refine s_nil ?_
      refine hK2 (m2 - 1) (q + 1, al.set q ⟨z % 3, IntKind.i64.wrap (z.tdiv 3) % 11, decide (IntKind.i64.wrap (z.tdiv 33) % 3 = 0)⟩) _ _ (by omega) ⟨by simp only; omega, by simp only; rw [List.length_set]; exact hal⟩ ⟨rfl, trivial⟩ rfl (fun w h => h)
    · skip
      try simp only [nrm_] at hc8
      refine c_exit ?_
      repeat with_reducible refine q_te ?_
      refine q_exit ?_
      refine q_then ?_
      refine c_seq ?_
      have hac : (acells al).length = 12 := by rw [acells_len, hal]
      refine c_reg ?_
      refine s_y (ya_ many34) rfl rfl ?_
      refine s_y (Y_loadAll rfl many79 mm_ hac) rfl rfl ?_
      refine s_c (En_call (fun _ => rfl) Tryz.func49 rfl (by kernel_rfl) rfl) (fun w hH => rstep_d (how.wl hd.vw.sz hH (fun x hx => by repeat (first | exact hx | exact List.mem_append_left _ hx | exact List.mem_append_right _ hx | apply List.Mem.tail | apply List.mem_append_right))) hd.vw (by have := hd.fr; simp only; omega) hal) rfl rfl ?_
      rintro _ _ ⟨cb1, cc1, eb1, ec1, ib1, ic1, rfl, rfl, m1, m2, m3⟩
      have hd1 := hd.step al
      obtain ⟨d1, hd1e⟩ : ∃ z, stepM d al = z := ⟨_, rfl⟩
      rw [hd1e] at hd1 ⊢
      refine s_s (S_storeA (vs := wL d1 ⟨cb1, 0, cc1, eb1, 0, ec1, ib1, 0, ic1⟩) rfl rfl sz34 (by rfl) (by rfl) up_ (by rfl)) rfl ?_
      refine s_nil ?_
      refine q_then ?_
      refine c_reg ?_
      refine s_y (Y_mv) rfl rfl ?_
      refine s_y (ya_ many34) rfl rfl ?_
      refine s_n (N_bsA gt_ Tryz.underlying26 inf34 rfl rfl (by omega) (by omega)) rfl rfl (fun b72 _ => ?_)
      refine s_n (N_app rfl rfl Tryz.underlying26 inf34 rfl (by omega) se_ (by rw [wcs_len]; omega) (by omega) (src mm_) (by rfl) (one_w _ _) (by omega) (by omega)) rfl rfl (fun ⟨g73, cp73⟩ hc73 => ?_)
      refine s_y (Y_as) rfl rfl ?_
      refine s_nil ?_
      refine q_bn ?_
      refine q_then ?_
      refine c_reg ?_
      refine s_y (Y_mv) rfl rfl ?_
      refine s_y ad_ rfl rfl ?_
      refine s_y (Y_as) rfl rfl ?_
      refine s_nil ?_
      refine hK (m - 1) (i + 1, d1, ⟨cb1, 0, cc1, eb1, 0, ec1, ib1, 0, ic1⟩, ps ++ [(d1, ⟨cb1, 0, cc1, eb1, 0, ec1, ib1, 0, ic1⟩)], g73, cp73, cB cb1 cc1 d1.cells :: eB eb1 ec1 d1.ents :: iB ib1 ic1 d1.items :: B) _ _ (by omega) ⟨by simp only; omega, by simp only; rw [List.length_append, List.length_singleton]; omega, by simp only; omega, fun p hp => ?_, hd1, cb1, cc1, eb1, ec1, ib1, ic1, rfl, mm_, mm_, mm_, m1, m2, m3⟩ ⟨rfl, rfl, trivial⟩ rfl (fun w h => ?_)
      · rcases List.mem_append.1 hp with k | k
        · exact ⟨(hps p k).1, (hps p k).2.mono (fun x hx => List.mem_cons_of_mem _ (List.mem_cons_of_mem _ (List.mem_cons_of_mem _ hx)))⟩
        · obtain rfl := List.mem_singleton.1 k
          exact ⟨hd1.more (by omega), cb1, cc1, eb1, ec1, ib1, ic1, rfl, mm_, mm_, mm_, m1, m2, m3⟩
      · simp only
        rw [← wcs_snoc ps (d1, ⟨cb1, 0, cc1, eb1, 0, ec1, ib1, 0, ic1⟩)]
        exact h.pick2 (xs := [⟨g73, 34, 11, cp73, wcs ps ++ wL d1 ⟨cb1, 0, cc1, eb1, 0, ec1, ib1, 0, ic1⟩⟩, wB b5 (wL d1 ⟨cb1, 0, cc1, eb1, 0, ec1, ib1, 0, ic1⟩), cB cb1 cc1 d1.cells, eB eb1 ec1 d1.ents, iB ib1 ic1 d1.items]) (R' := B) ss_ sl_
  · skip
    try simp only [nrm_] at hc4
    refine c_exit ?_
    repeat with_reducible refine q_te ?_
    refine q_exit ?_
    refine q_then ?_
    refine c_seq ?_
    refine c_reg ?_
    refine s_y (Y_mv) rfl rfl ?_
    refine s_y (Y_as) rfl rfl ?_
    refine s_nil ?_
    refine q_then ?_
    refine c_ret ?_
    refine QL.sub (L' := ⟨g, 34, 11, cap, wcs ps⟩ :: B) ((List.Sublist.refl _).cons _ |>.cons_cons _) ?_
    refine q_retG1 rfl gt_ (L' := _) (List.Sublist.refl _) ⟨ps, g, cap, B, by omega, ⟨hps⟩, by rw [show i + 1 = 1 + min ls.length 30 by omega], by omega, rfl⟩
end
end Go.Proofs.YtcogbkkdccohfaaGreat
namespace Go.Ad
open Go.RowKit Go.Maps
abbrev rC (p : Int × Int) : List Value := [iv p.1, iv p.2]
def rcs (l : List (Int × Int)) : List Value := l.flatMap rC
theorem rcs_len (l : List (Int × Int)) : (rcs l).length = l.length * 2 := fl_len (c := rC) (fun _ => rfl) l
theorem rcs_snoc (l : List (Int × Int)) (p : Int × Int) : rcs l ++ rC p = rcs (l ++ [p]) := by simp [rcs]
theorem one_rc (p : Int × Int) : ∀ u ∈ rC p, u.oneCell' = true := fun u hu => List.all_eq_true.1 (show (rC p).all (·.oneCell') = true from rfl) u hu
def entX (d : Wd) (k : Nat) : Ent := d.ents.getD k Ent.zero
def itmX (d : Wd) (k : Nat) : Itm := d.items.getD k ⟨0, 0, 0, 0⟩
def entR (a b : Wd) (i : Nat) : List (Int × Int) := ((List.range i).filter fun k : Nat => !decide ((entX a k).nums = (entX b k).nums)).map fun k : Nat => ((2 : Int), (k : Int))
def itmR (a b : Wd) (i : Nat) : List (Int × Int) := ((List.range i).filter fun k : Nat => !decide ((itmX a k).nums = (itmX b k).nums)).map fun k : Nat => ((3 : Int), (k : Int))
def headE (a b : Wd) : Prop := a.seed = b.seed ∧ a.frame = b.frame ∧ a.floor = b.floor ∧ a.state = b.state ∧ a.gold.nums = b.gold.nums
instance (a b : Wd) : Decidable (headE a b) := by unfold headE; exact inferInstance
def headR (a b : Wd) : List (Int × Int) := if headE a b then [] else [(0, 0)]
def cellR (a b : Wd) : List (Int × Int) := if a.cells = b.cells then [] else [(1, 0)]
def rowsM (a b : Wd) : List (Int × Int) := headR a b ++ cellR a b ++ entR a b 32 ++ itmR a b 40
theorem ent_getX {d : Wd} {k : Nat} {x : Ent} (h : d.ents[k]? = some x) : entX d k = x := by unfold entX; rw [List.getD_eq_getElem?_getD, h]; rfl
theorem itm_getX {d : Wd} {k : Nat} {x : Itm} (h : d.items[k]? = some x) : itmX d k = x := by unfold itmX; rw [List.getD_eq_getElem?_getD, h]; rfl
theorem filt_succ (p : Nat → Bool) (i : Nat) : (List.range (i + 1)).filter p = if p i = true then (List.range i).filter p ++ [i] else (List.range i).filter p := by
  rw [List.range_succ, List.filter_append]
  cases h : p i
  · rw [List.filter_cons, if_neg (by rw [h]; simp), List.filter_nil, List.append_nil, if_neg (by simp)]
  · rw [List.filter_cons, if_pos h, List.filter_nil, if_pos rfl]
theorem entR_yes {a b : Wd} {i : Nat} {x y : Ent} (hx : a.ents[i]? = some x) (hy : b.ents[i]? = some y) (h : x.nums ≠ y.nums) : entR a b (i + 1) = entR a b i ++ [(2, (i : Int))] := by
  unfold entR
  rw [filt_succ, if_pos (by rw [ent_getX hx, ent_getX hy]; simp [h]), List.map_append]; rfl
theorem entR_no {a b : Wd} {i : Nat} {x y : Ent} (hx : a.ents[i]? = some x) (hy : b.ents[i]? = some y) (h : x.nums = y.nums) : entR a b (i + 1) = entR a b i := by
  unfold entR
  rw [filt_succ, if_neg (by rw [ent_getX hx, ent_getX hy]; simp [h])]
theorem itmR_yes {a b : Wd} {i : Nat} {x y : Itm} (hx : a.items[i]? = some x) (hy : b.items[i]? = some y) (h : x.nums ≠ y.nums) : itmR a b (i + 1) = itmR a b i ++ [(3, (i : Int))] := by
  unfold itmR
  rw [filt_succ, if_pos (by rw [itm_getX hx, itm_getX hy]; simp [h]), List.map_append]; rfl
theorem itmR_no {a b : Wd} {i : Nat} {x y : Itm} (hx : a.items[i]? = some x) (hy : b.items[i]? = some y) (h : x.nums = y.nums) : itmR a b (i + 1) = itmR a b i := by
  unfold itmR
  rw [filt_succ, if_neg (by rw [itm_getX hx, itm_getX hy]; simp [h])]
theorem filt_len (p : Nat → Bool) (i : Nat) : ((List.range i).filter p).length ≤ i := Nat.le_trans (List.length_filter_le _ _) (by rw [List.length_range]; omega)
theorem entR_len (a b : Wd) (i : Nat) : (entR a b i).length ≤ i := by unfold entR; rw [List.length_map]; exact filt_len _ _
theorem itmR_len (a b : Wd) (i : Nat) : (itmR a b i).length ≤ i := by unfold itmR; rw [List.length_map]; exact filt_len _ _
theorem headR_len (a b : Wd) : (headR a b).length ≤ 1 := by unfold headR; split <;> simp
theorem cellR_len (a b : Wd) : (cellR a b).length ≤ 1 := by unfold cellR; split <;> simp
theorem entR_zero (a b : Wd) : entR a b 0 = [] := rfl
theorem itmR_zero (a b : Wd) : itmR a b 0 = [] := rfl
theorem rows_nil {a b : Wd} (ha : a.cells.length = 384 ∧ a.ents.length = 32 ∧ a.items.length = 40) (hb : b.cells.length = 384 ∧ b.ents.length = 32 ∧ b.items.length = 40) : (rowsM a b).length = 0 ↔ a = b := by
  constructor
  · intro h
    have h : rowsM a b = [] := List.eq_nil_of_length_eq_zero h
    unfold rowsM at h
    simp only [List.append_eq_nil_iff] at h
    obtain ⟨⟨⟨h1, h2⟩, h3⟩, h4⟩ := h
    unfold headR at h1
    unfold cellR at h2
    replace h1 : headE a b := by
      split at h1
      · assumption
      · cases h1
    replace h2 : a.cells = b.cells := by
      split at h2
      · assumption
      · cases h2
    replace h3 : a.ents = b.ents := by
      refine List.ext_getElem? fun k => ?_
      by_cases hk : k < 32
      · obtain ⟨x, hx⟩ := take_lt (show k < a.ents.length by omega)
        obtain ⟨y, hy⟩ := take_lt (show k < b.ents.length by omega)
        unfold entR at h3
        rw [List.map_eq_nil_iff, List.filter_eq_nil_iff] at h3
        have h5 := h3 k (List.mem_range.2 hk)
        rw [ent_getX hx, ent_getX hy] at h5
        have h6 : x.nums = y.nums := by simpa using h5
        rw [hx, hy, Ent.nums_inj h6]
      · rw [List.getElem?_eq_none (by omega), List.getElem?_eq_none (by omega)]
    replace h4 : a.items = b.items := by
      refine List.ext_getElem? fun k => ?_
      by_cases hk : k < 40
      · obtain ⟨x, hx⟩ := take_lt (show k < a.items.length by omega)
        obtain ⟨y, hy⟩ := take_lt (show k < b.items.length by omega)
        unfold itmR at h4
        rw [List.map_eq_nil_iff, List.filter_eq_nil_iff] at h4
        have h5 := h4 k (List.mem_range.2 hk)
        rw [itm_getX hx, itm_getX hy] at h5
        have h6 : x.nums = y.nums := by simpa using h5
        rw [hx, hy, Itm.nums_inj h6]
      · rw [List.getElem?_eq_none (by omega), List.getElem?_eq_none (by omega)]
    obtain ⟨e1, e2, e3, e4, e5⟩ := h1
    replace e5 := Four.nums_inj e5
    cases a; cases b
    simp only at e1 e2 e3 e4 e5 h2 h3 h4
    subst e1 e2 e3 e4 e5 h2 h3 h4
    rfl
  · rintro rfl
    unfold rowsM headR cellR entR itmR
    rw [if_pos (show headE a a from ⟨rfl, rfl, rfl, rfl, rfl⟩), if_pos rfl, List.filter_eq_nil_iff.2 (by simp), List.filter_eq_nil_iff.2 (by simp)]
    rfl
theorem WL.bytes {W : World} {d : Wd} {s : Ws} (h : WL W d s) : BytesAt W (some ⟨s.cb, s.co, none⟩) 384 d.cells := ⟨h.sz.1, .inr ⟨_, _, rfl, h.c.lt, h.c.ro⟩⟩
theorem gold_subL {d : Wd} {s : Ws} : ∀ i v, ([iv d.gold.a, iv d.gold.b, iv d.gold.c, iv d.gold.d] : List Value)[i]? = some v → (wL d s)[0 + 7 + i]? = some v
  | 0, v, h => h
  | 1, v, h => h
  | 2, v, h => h
  | 3, v, h => h
  | n + 4, v, h => by simp at h
end Go.Ad
namespace Go.Proofs.YtcogbkkdccohfaaGreat
open Go.RowKit Go.Ad Go.Maps
set_option linter.unusedVariables false
set_option linter.unusedSimpArgs false
def RowsP (l : List (Int × Int)) (v : Value) (L : List Bk) : Prop := Row 116 2 v l.length (rcs l) L
section
variable {W : World}
set_option maxRecDepth 100000 in
set_option maxHeartbeats 1600000 in
theorem rrows_d {d1 d2 : Wd} {s1 s2 : Ws} (h1 : WL W d1 s1) (h2 : WL W d2 s2) : Does Tryz.prog 25 [.agg (wL d1 s1).toArray, .agg (wL d2 s2).toArray] W [] (RowsP (rowsM d1 d2)) := by
  have hb1 := h1.bytes
  have hb2 := h2.bytes
  obtain ⟨z1, z2, z3⟩ := h1.sz
  obtain ⟨y1, y2, y3⟩ := h2.sz
  have l1 := headR_len d1 d2
  have l2 := cellR_len d1 d2
  refine enter Tryz.func25 rfl rfl rfl (Has.start _) ?_
  refine c_seq ?_
  refine c_reg ?_
  refine s_n (N_box (cs := wL d1 s1) rfl) rfl rfl (fun b2 _ => ?_)
  refine s_n (N_box (cs := wL d2 s2) rfl) rfl rfl (fun b3 _ => ?_)
  refine s_y (Y_asC) rfl rfl ?_
  refine s_nil ?_
  refine q_then ?_
  refine c_seq ?_
  refine c_reg ?_
  refine s_y (Y_asC) rfl rfl ?_
  refine s_nil ?_
  refine q_then ?_
  refine c_seq ?_
  refine c_meetQ (ks := [5, 8, 9, 10, 11, 12, 13, 14, 15, 16, 17, 18, 19, 20, 21, 22, 23, 24, 25, 26, 27, 28, 29, 30, 31, 32, 33, 34, 35, 36, 37, 38, 39, 40, 41, 42, 43, 44]) (tr := fun y : List (Int × Int) × Value × List Bk => [(5, y.2.1)]) (φ := fun y => y.1 = headR d1 d2 ∧ Row 116 2 y.2.1 y.1.length (rcs y.1) y.2.2) (G := fun y => wB b3 (wL d2 s2) :: wB b2 (wL d1 s1) :: y.2.2) (fun _ => rfl) ?_ ?_
  · rintro ⟨l, v, B⟩ j4 ⟨hl, hB⟩
    refine q_then ?_
    refine c_seq ?_
    refine c_meetQ (ks := [5, 45, 46, 47, 48, 49, 50, 51, 52, 53, 54, 55]) (tr := fun y : List (Int × Int) × Value × List Bk => [(5, y.2.1)]) (φ := fun y => y.1 = headR d1 d2 ++ cellR d1 d2 ∧ Row 116 2 y.2.1 y.1.length (rcs y.1) y.2.2) (G := fun y => wB b3 (wL d2 s2) :: wB b2 (wL d1 s1) :: y.2.2) (fun _ => rfl) ?_ ?_
    · rintro ⟨r, u, C⟩ j6 ⟨hr, hC⟩
      refine q_then ?_
      refine c_seq ?_
      refine c_seq ?_
      simp only at hr hC ⊢
      have l3 : r.length ≤ 2 := by rw [hr, List.length_append]; omega
      refine c_reg ?_
      refine s_y (Y_asC) rfl rfl ?_
      refine s_nil ?_
      refine q_then ?_
      refine c_block ?_
      refine c_loop [5, 6, 56, 57, 58, 59, 60, 61, 62, 63, 64, 65, 66, 67, 68, 69, 70, 71, 72, 73, 74, 75, 76, 77, 78, 79, 80, 81, 82, 83, 84, 85] (fun m (y : Nat × List (Int × Int) × Value × List Bk) => y.1 + m = 32 ∧ y.2.1 = headR d1 d2 ++ cellR d1 d2 ++ entR d1 d2 y.1 ∧ Row 116 2 y.2.2.1 y.2.1.length (rcs y.2.1) y.2.2.2) (fun y => [(6, iv y.1), (5, y.2.2.1)]) (fun y => wB b3 (wL d2 s2) :: wB b2 (wL d1 s1) :: y.2.2.2) (32) ((0, r, u, C)) (⟨rfl, by rw [hr, entR_zero, List.append_nil], hC⟩) (by repeat (first | exact trivial | refine ⟨rfl, ?_⟩)) (fun _ h => h.sub sl_) (fun _ => rfl) ?_
      rintro m ⟨i, q, x5, D⟩ j ⟨hi, hq, hD⟩ K hK
      simp only at hi hq hD ⊢
      have l4 := entR_len d1 d2 i
      have l5 : q.length ≤ 2 + i := by rw [hq, ← hr, List.length_append]; omega
      refine c_seq ?_
      refine c_seq ?_
      refine c_reg ?_
      refine s_y (Y_mv) rfl rfl ?_
      refine s_y (Y_fa 5 rfl Tryz.underlying34 rfl sz30 rfl) rfl rfl ?_
      refine s_y (yl_ one30) rfl rfl ?_
      refine s_y (Y_len rfl rfl Tryz.underlying30) rfl rfl ?_
      refine s_y (Y_lss rfl rfl) rfl rfl ?_
      refine s_y (Y_mv) rfl rfl ?_
      apply s_and 6 [61, 62, 63, 64, 65, 66, 67] 67 (g := 61) rfl rfl
      · intro ht6 hm
        try simp only [nrm_] at ht6
        first | refine s_y (Y_mv) rfl rfl ?_ | refine s_pass rfl rfl ?_
        first | refine s_y (Y_fa 5 rfl Tryz.underlying34 rfl sz30 rfl) rfl rfl ?_ | refine s_pass rfl rfl ?_
        first | refine s_y (yl_ one30) rfl rfl ?_ | refine s_pass rfl rfl ?_
        first | refine s_y (Y_len rfl rfl Tryz.underlying30) rfl rfl ?_ | refine s_pass rfl rfl ?_
        first | refine s_y (Y_lss rfl rfl) rfl rfl ?_ | refine s_pass rfl rfl ?_
        refine s_y (Y_pk rfl (Gx.tmp gt_) Gx.const) rfl rfl ?_
        first | exact hm _ ⟨rfl, trivial⟩ rfl | exact QL.sub sl_ (hm _ ⟨rfl, trivial⟩ rfl)
      · intro ht6 hm
        iterate 5 refine s_pass rfl rfl ?_
        refine s_y (Y_pk rfl (Gx.tmp gt_) Gx.const) rfl rfl ?_
        exact hm _ ⟨rfl, trivial⟩ rfl
      intro j67
      refine s_nil ?_
      refine q_then ?_
      first | refine c_cond' rfl (fun hc7 => ?_) (fun hc7 => ?_) | refine c_cond rfl (fun hc7 => ?_) (fun hc7 => ?_)
      · skip
        try simp only [nrm_] at hc7
        refine c_skip ?_
        refine q_then ?_
        refine c_seq ?_
        refine c_block ?_
        refine c_seq ?_
        obtain ⟨x, hx⟩ := take_lt (show i < d1.ents.length by omega)
        obtain ⟨y, hy⟩ := take_lt (show i < d2.ents.length by omega)
        have hrr := h1.e.at' Ent.len hx
        have hrr2 := h2.e.at' Ent.len hy
        refine c_rord [] [(0, true), (1, true), (2, true), (3, true), (4, true), (5, true), (6, true), (7, true), (8, true), (9, true), (10, true)] (by kernel_rfl) (by kernel_rfl) (by kernel_rfl) (by kernel_rfl) rfl (by intro c a d v w h; cases d <;> exact h) rfl ?_
        simp only [mkOrd, List.filterMap_cons, List.filterMap_nil, List.getElem?_toArray, List.getElem?_cons_zero, List.getElem?_cons_succ, Option.map_some]
        refine o_y (Y_fa 5 rfl Tryz.underlying34 rfl sz30 rfl) rfl rfl ?_
        refine o_y (yl_ one30) rfl rfl ?_
        refine o_y (Y_mv) rfl rfl ?_
        refine o_y (Y_ia rfl rfl Tryz.underlying30 sz93 rfl (by omega)) rfl rfl ?_
        refine o_y (Y_loadNR (vs := x.cells) rfl many93 hrr rfl) rfl rfl ?_
        refine o_y (Y_fa 5 rfl Tryz.underlying34 rfl sz30 rfl) rfl rfl ?_
        refine o_y (yl_ one30) rfl rfl ?_
        refine o_y (Y_mv) rfl rfl ?_
        refine o_y (Y_ia rfl rfl Tryz.underlying30 sz93 rfl (by omega)) rfl rfl ?_
        refine o_y (Y_loadNR (vs := y.cells) rfl many93 hrr2 rfl) rfl rfl ?_
        refine o_y (Y_neF (zs := x.nums) (zs' := y.nums) rfl rfl flat93 rfl rfl) rfl rfl ?_
        refine o_nil ?_
        refine q_then ?_
        first | refine c_cond' rfl (fun hc9 => ?_) (fun hc9 => ?_) | refine c_cond rfl (fun hc9 => ?_) (fun hc9 => ?_)
        · skip
          try simp only [nrm_] at hc9
          refine c_reg ?_
          refine s_y (Y_mv) rfl rfl ?_
          refine s_y (Y_mv) rfl rfl ?_
          refine s_y (Y_build (cs := rC (2, (i : Int))) ((by repeat (first | exact Gp.nil | apply Gp.const | apply Gp.tmp gt_))) (bld116 _ _ (by kernel_rfl))) rfl rfl ?_
          refine s_n (N_bsA gt_ Tryz.underlying45 inf116 rfl rfl (by omega) (by omega)) rfl rfl (fun b84 _ => ?_)
          refine s_n (N_appR (bytes := 16) hD (List.perm_append_comm (l₁ := D) (l₂ := [_, _, _])) rfl rfl Tryz.underlying45 inf116 rfl (by omega) (src (news := rC (2, (i : Int))) mm_) (by rfl) (one_rc _) (by omega) (by omega) (by omega)) rfl rfl (fun ⟨g85, cp85⟩ hc85 => ?_)
          refine s_y (Y_as) rfl rfl ?_
          refine s_nil ?_
          refine q_bn ?_
          refine q_then ?_
          refine c_reg ?_
          refine s_y (Y_mv) rfl rfl ?_
          refine s_y ad_ rfl rfl ?_
          refine s_y (Y_as) rfl rfl ?_
          refine s_nil ?_
          refine hK (m - 1) (i + 1, q ++ [(2, (i : Int))], .slice (some ⟨g85, 0, none⟩) (q.length + 1) cp85, [⟨g85, 116, 2, cp85, rcs (q ++ [(2, (i : Int))])⟩]) _ _ (by omega) ⟨by simp only; omega, by simp only; rw [entR_yes hx hy hc9, hq]; simp, by simp only; rw [List.length_append, List.length_singleton]; exact .some hc85 (by rw [rcs_len]; simp)⟩ ⟨rfl, rfl, trivial⟩ rfl (fun w h => ?_)
          simp only
          rw [← rcs_snoc]
          exact h.pick ss_
        · skip
          try simp only [nrm_] at hc9
          refine c_skip ?_
          refine q_bn ?_
          refine q_then ?_
          refine c_reg ?_
          refine s_y (Y_mv) rfl rfl ?_
          refine s_y ad_ rfl rfl ?_
          refine s_y (Y_as) rfl rfl ?_
          refine s_nil ?_
          refine hK (m - 1) (i + 1, q, x5, D) _ _ (by omega) ⟨by simp only; omega, by simp only; rw [entR_no hx hy hc9]; exact hq, hD⟩ ⟨rfl, rfl, trivial⟩ rfl (fun w h => h)
      · skip
        try simp only [nrm_] at hc7
        refine c_exit ?_
        repeat with_reducible refine q_te ?_
        refine q_exit ?_
        refine q_then ?_
        refine c_seq ?_
        refine c_seq ?_
        obtain rfl : i = 32 := by omega
        refine c_reg ?_
        refine s_y (Y_asC) rfl rfl ?_
        refine s_nil ?_
        refine q_then ?_
        refine c_block ?_
        refine c_loop [5, 7, 86, 87, 88, 89, 90, 91, 92, 93, 94, 95, 96, 97, 98, 99, 100, 101, 102, 103, 104, 105, 106, 107, 108, 109, 110, 111, 112, 113, 114, 115] (fun m (y : Nat × List (Int × Int) × Value × List Bk) => y.1 + m = 40 ∧ y.2.1 = headR d1 d2 ++ cellR d1 d2 ++ entR d1 d2 32 ++ itmR d1 d2 y.1 ∧ Row 116 2 y.2.2.1 y.2.1.length (rcs y.2.1) y.2.2.2) (fun y => [(7, iv y.1), (5, y.2.2.1)]) (fun y => wB b3 (wL d2 s2) :: wB b2 (wL d1 s1) :: y.2.2.2) (40) ((0, q, x5, D)) (⟨rfl, by simp only; rw [hq, itmR_zero, List.append_nil], hD⟩) (by repeat (first | exact trivial | refine ⟨rfl, ?_⟩)) (fun _ h => h.sub sl_) (fun _ => rfl) ?_
        rintro m2 ⟨k, p, x6, E⟩ j2 ⟨hk, hp, hE⟩ K hK
        simp only at hk hp hE ⊢
        have l6 := itmR_len d1 d2 k
        have l7 : p.length ≤ 34 + k := by rw [hp, ← hq, List.length_append]; omega
        refine c_seq ?_
        refine c_seq ?_
        refine c_reg ?_
        refine s_y (Y_mv) rfl rfl ?_
        refine s_y (Y_fa 6 rfl Tryz.underlying34 rfl sz31 rfl) rfl rfl ?_
        refine s_y (yl_ one31) rfl rfl ?_
        refine s_y (Y_len rfl rfl Tryz.underlying31) rfl rfl ?_
        refine s_y (Y_lss rfl rfl) rfl rfl ?_
        refine s_y (Y_mv) rfl rfl ?_
        apply s_and 6 [91, 92, 93, 94, 95, 96, 97] 97 (g := 91) rfl rfl
        · intro ht6 hm
          try simp only [nrm_] at ht6
          first | refine s_y (Y_mv) rfl rfl ?_ | refine s_pass rfl rfl ?_
          first | refine s_y (Y_fa 6 rfl Tryz.underlying34 rfl sz31 rfl) rfl rfl ?_ | refine s_pass rfl rfl ?_
          first | refine s_y (yl_ one31) rfl rfl ?_ | refine s_pass rfl rfl ?_
          first | refine s_y (Y_len rfl rfl Tryz.underlying31) rfl rfl ?_ | refine s_pass rfl rfl ?_
          first | refine s_y (Y_lss rfl rfl) rfl rfl ?_ | refine s_pass rfl rfl ?_
          refine s_y (Y_pk rfl (Gx.tmp gt_) Gx.const) rfl rfl ?_
          first | exact hm _ ⟨rfl, trivial⟩ rfl | exact QL.sub sl_ (hm _ ⟨rfl, trivial⟩ rfl)
        · intro ht6 hm
          iterate 5 refine s_pass rfl rfl ?_
          refine s_y (Y_pk rfl (Gx.tmp gt_) Gx.const) rfl rfl ?_
          exact hm _ ⟨rfl, trivial⟩ rfl
        intro j97
        refine s_nil ?_
        refine q_then ?_
        first | refine c_cond' rfl (fun hc12 => ?_) (fun hc12 => ?_) | refine c_cond rfl (fun hc12 => ?_) (fun hc12 => ?_)
        · skip
          try simp only [nrm_] at hc12
          refine c_skip ?_
          refine q_then ?_
          refine c_seq ?_
          refine c_block ?_
          refine c_seq ?_
          obtain ⟨x, hx⟩ := take_lt (show k < d1.items.length by omega)
          obtain ⟨y, hy⟩ := take_lt (show k < d2.items.length by omega)
          have hrr := h1.i.at' Itm.len hx
          have hrr2 := h2.i.at' Itm.len hy
          refine c_rord [] [(0, true), (1, true), (2, true), (3, true), (4, true), (5, true), (6, true), (7, true), (8, true), (9, true), (10, true)] (by kernel_rfl) (by kernel_rfl) (by kernel_rfl) (by kernel_rfl) rfl (by intro c a d v w h; cases d <;> exact h) rfl ?_
          simp only [mkOrd, List.filterMap_cons, List.filterMap_nil, List.getElem?_toArray, List.getElem?_cons_zero, List.getElem?_cons_succ, Option.map_some]
          refine o_y (Y_fa 6 rfl Tryz.underlying34 rfl sz31 rfl) rfl rfl ?_
          refine o_y (yl_ one31) rfl rfl ?_
          refine o_y (Y_mv) rfl rfl ?_
          refine o_y (Y_ia rfl rfl Tryz.underlying31 sz98 rfl (by omega)) rfl rfl ?_
          refine o_y (Y_loadNR (vs := x.cells) rfl many98 hrr rfl) rfl rfl ?_
          refine o_y (Y_fa 6 rfl Tryz.underlying34 rfl sz31 rfl) rfl rfl ?_
          refine o_y (yl_ one31) rfl rfl ?_
          refine o_y (Y_mv) rfl rfl ?_
          refine o_y (Y_ia rfl rfl Tryz.underlying31 sz98 rfl (by omega)) rfl rfl ?_
          refine o_y (Y_loadNR (vs := y.cells) rfl many98 hrr2 rfl) rfl rfl ?_
          refine o_y (Y_neF (zs := x.nums) (zs' := y.nums) rfl rfl flat98 rfl rfl) rfl rfl ?_
          refine o_nil ?_
          refine q_then ?_
          first | refine c_cond' rfl (fun hc14 => ?_) (fun hc14 => ?_) | refine c_cond rfl (fun hc14 => ?_) (fun hc14 => ?_)
          · skip
            try simp only [nrm_] at hc14
            refine c_reg ?_
            refine s_y (Y_mv) rfl rfl ?_
            refine s_y (Y_mv) rfl rfl ?_
            refine s_y (Y_build (cs := rC (3, (k : Int))) ((by repeat (first | exact Gp.nil | apply Gp.const | apply Gp.tmp gt_))) (bld116 _ _ (by kernel_rfl))) rfl rfl ?_
            refine s_n (N_bsA gt_ Tryz.underlying45 inf116 rfl rfl (by omega) (by omega)) rfl rfl (fun b114 _ => ?_)
            refine s_n (N_appR (bytes := 16) hE (List.perm_append_comm (l₁ := E) (l₂ := [_, _, _])) rfl rfl Tryz.underlying45 inf116 rfl (by omega) (src (news := rC (3, (k : Int))) mm_) (by rfl) (one_rc _) (by omega) (by omega) (by omega)) rfl rfl (fun ⟨g115, cp115⟩ hc115 => ?_)
            refine s_y (Y_as) rfl rfl ?_
            refine s_nil ?_
            refine q_bn ?_
            refine q_then ?_
            refine c_reg ?_
            refine s_y (Y_mv) rfl rfl ?_
            refine s_y ad_ rfl rfl ?_
            refine s_y (Y_as) rfl rfl ?_
            refine s_nil ?_
            refine hK (m2 - 1) (k + 1, p ++ [(3, (k : Int))], .slice (some ⟨g115, 0, none⟩) (p.length + 1) cp115, [⟨g115, 116, 2, cp115, rcs (p ++ [(3, (k : Int))])⟩]) _ _ (by omega) ⟨by simp only; omega, by simp only; rw [itmR_yes hx hy hc14, hp]; simp, by simp only; rw [List.length_append, List.length_singleton]; exact .some hc115 (by rw [rcs_len]; simp)⟩ ⟨rfl, rfl, trivial⟩ rfl (fun w h => ?_)
            simp only
            rw [← rcs_snoc]
            exact h.pick ss_
          · skip
            try simp only [nrm_] at hc14
            refine c_skip ?_
            refine q_bn ?_
            refine q_then ?_
            refine c_reg ?_
            refine s_y (Y_mv) rfl rfl ?_
            refine s_y ad_ rfl rfl ?_
            refine s_y (Y_as) rfl rfl ?_
            refine s_nil ?_
            refine hK (m2 - 1) (k + 1, p, x6, E) _ _ (by omega) ⟨by simp only; omega, by simp only; rw [itmR_no hx hy hc14]; exact hp, hE⟩ ⟨rfl, rfl, trivial⟩ rfl (fun w h => h)
        · skip
          try simp only [nrm_] at hc12
          refine c_exit ?_
          repeat with_reducible refine q_te ?_
          refine q_exit ?_
          refine q_then ?_
          refine c_seq ?_
          obtain rfl : k = 40 := by omega
          refine c_reg ?_
          refine s_y (Y_mv) rfl rfl ?_
          refine s_y (Y_as) rfl rfl ?_
          refine s_nil ?_
          refine QL.conv (L' := E) (fun w h => h.sub (List.Sublist.cons _ (List.Sublist.cons _ (List.Sublist.refl _)))) ?_
          refine q_then ?_
          refine c_ret ?_
          refine q_retG1 rfl gt_ (L' := _) sl_ (by unfold RowsP; rw [← show p = rowsM d1 d2 from hp]; exact hE)
    · intro go
      refine c_seq ?_
      simp only at hl hB ⊢
      rw [← hl] at l1
      refine c_reg ?_
      refine s_y (Y_fa 4 rfl Tryz.underlying34 rfl sz24 rfl) rfl rfl ?_
      refine s_y (yl_ one24) rfl rfl ?_
      refine s_y (Y_bs rfl Tryz.underlying24 Tryz.underlying5 Tryz.underlying9 (fun w hH => hb1.has (by simp) hH)) rfl rfl ?_
      refine s_y (Y_fa 4 rfl Tryz.underlying34 rfl sz24 rfl) rfl rfl ?_
      refine s_y (yl_ one24) rfl rfl ?_
      refine s_y (Y_bs rfl Tryz.underlying24 Tryz.underlying5 Tryz.underlying9 (fun w hH => hb2.has (by simp) hH)) rfl rfl ?_
      refine s_y (Y_neS rfl rfl) rfl rfl ?_
      refine s_nil ?_
      refine q_then ?_
      first | refine c_cond' rfl (fun hc4 => ?_) (fun hc4 => ?_) | refine c_cond rfl (fun hc4 => ?_) (fun hc4 => ?_)
      · skip
        try simp only [nrm_] at hc4
        refine c_reg ?_
        refine s_y (Y_mv) rfl rfl ?_
        refine s_y (Y_build (cs := rC (1, 0)) ((by repeat (first | exact Gp.nil | apply Gp.const | apply Gp.tmp gt_))) (bld116 _ _ (by kernel_rfl))) rfl rfl ?_
        refine s_n (N_bsA gt_ Tryz.underlying45 inf116 rfl rfl (by omega) (by omega)) rfl rfl (fun b54 _ => ?_)
        refine s_n (N_appR (bytes := 16) hB (List.perm_append_comm (l₁ := B) (l₂ := [_, _, _])) rfl rfl Tryz.underlying45 inf116 rfl (by omega) (src (news := rC (1, 0)) mm_) (by rfl) (one_rc _) (by omega) (by omega) (by omega)) rfl rfl (fun ⟨g55, cp55⟩ hc55 => ?_)
        refine s_y (Y_as) rfl rfl ?_
        refine s_nil ?_
        refine go (l ++ [(1, 0)], _, [⟨g55, 116, 2, cp55, rcs (l ++ [(1, 0)])⟩]) _ _ ⟨by rw [hl]; unfold cellR; rw [if_neg]; intro e; simp [e] at hc4, by simp only; rw [List.length_append, List.length_singleton]; exact .some hc55 (by rw [rcs_len]; simp)⟩ ⟨rfl, trivial⟩ rfl (fun w h => ?_)
        rw [← rcs_snoc]
        exact h.pick ss_
      · skip
        try simp only [nrm_] at hc4
        refine c_skip ?_
        exact go (l, v, B) _ _ ⟨by rw [hl]; unfold cellR; rw [if_pos (bytes_injL hc4)]; simp, hB⟩ ⟨rfl, trivial⟩ rfl (fun w h => h)
  · intro go
    refine c_seq ?_
    refine c_reg ?_
    refine s_y (Y_fa 0 rfl Tryz.underlying34 rfl sz2 rfl) rfl rfl ?_
    refine s_y (yl_ one2) rfl rfl ?_
    refine s_y (Y_fa 0 rfl Tryz.underlying34 rfl sz2 rfl) rfl rfl ?_
    refine s_y (yl_ one2) rfl rfl ?_
    refine s_y (Y_neq rfl rfl) rfl rfl ?_
    refine s_y (Y_mv) rfl rfl ?_
    apply s_or 6 [13, 14, 15, 16, 17, 18, 19] 19 (g := 13) rfl rfl
    · intro ht6 hm
      try simp only [nrm_] at ht6
      first | refine s_y (Y_fa 1 rfl Tryz.underlying34 rfl sz3 rfl) rfl rfl ?_ | refine s_pass rfl rfl ?_
      first | refine s_y (yl_ one3) rfl rfl ?_ | refine s_pass rfl rfl ?_
      first | refine s_y (Y_fa 1 rfl Tryz.underlying34 rfl sz3 rfl) rfl rfl ?_ | refine s_pass rfl rfl ?_
      first | refine s_y (yl_ one3) rfl rfl ?_ | refine s_pass rfl rfl ?_
      first | refine s_y (Y_neq rfl rfl) rfl rfl ?_ | refine s_pass rfl rfl ?_
      refine s_y (Y_pk rfl Gx.const (Gx.tmp gt_)) rfl rfl ?_
      first | exact hm _ ⟨rfl, trivial⟩ rfl | exact QL.sub sl_ (hm _ ⟨rfl, trivial⟩ rfl)
    · intro ht6 hm
      iterate 5 refine s_pass rfl rfl ?_
      refine s_y (Y_pk rfl Gx.const (Gx.tmp gt_)) rfl rfl ?_
      exact hm _ ⟨rfl, trivial⟩ rfl
    intro j19
    refine s_y (Y_mv) rfl rfl ?_
    apply s_or 6 [20, 21, 22, 23, 24, 25, 26] 26 (g := 20) rfl rfl
    · intro ht13 hm
      try simp only [nrm_] at ht13
      first | refine s_y (Y_fa 2 rfl Tryz.underlying34 rfl sz3 rfl) rfl rfl ?_ | refine s_pass rfl rfl ?_
      first | refine s_y (yl_ one3) rfl rfl ?_ | refine s_pass rfl rfl ?_
      first | refine s_y (Y_fa 2 rfl Tryz.underlying34 rfl sz3 rfl) rfl rfl ?_ | refine s_pass rfl rfl ?_
      first | refine s_y (yl_ one3) rfl rfl ?_ | refine s_pass rfl rfl ?_
      first | refine s_y (Y_neq rfl rfl) rfl rfl ?_ | refine s_pass rfl rfl ?_
      refine s_y (Y_pk rfl Gx.const (Gx.tmp gt_)) rfl rfl ?_
      first | exact hm _ ⟨rfl, trivial⟩ rfl | exact QL.sub sl_ (hm _ ⟨rfl, trivial⟩ rfl)
    · intro ht13 hm
      iterate 5 refine s_pass rfl rfl ?_
      refine s_y (Y_pk rfl Gx.const (Gx.tmp gt_)) rfl rfl ?_
      exact hm _ ⟨rfl, trivial⟩ rfl
    intro j26
    refine s_y (Y_mv) rfl rfl ?_
    apply s_or 6 [27, 28, 29, 30, 31, 32, 33] 33 (g := 27) rfl rfl
    · intro ht20 hm
      try simp only [nrm_] at ht20
      first | refine s_y (Y_fa 3 rfl Tryz.underlying34 rfl sz3 rfl) rfl rfl ?_ | refine s_pass rfl rfl ?_
      first | refine s_y (yl_ one3) rfl rfl ?_ | refine s_pass rfl rfl ?_
      first | refine s_y (Y_fa 3 rfl Tryz.underlying34 rfl sz3 rfl) rfl rfl ?_ | refine s_pass rfl rfl ?_
      first | refine s_y (yl_ one3) rfl rfl ?_ | refine s_pass rfl rfl ?_
      first | refine s_y (Y_neq rfl rfl) rfl rfl ?_ | refine s_pass rfl rfl ?_
      refine s_y (Y_pk rfl Gx.const (Gx.tmp gt_)) rfl rfl ?_
      first | exact hm _ ⟨rfl, trivial⟩ rfl | exact QL.sub sl_ (hm _ ⟨rfl, trivial⟩ rfl)
    · intro ht20 hm
      iterate 5 refine s_pass rfl rfl ?_
      refine s_y (Y_pk rfl Gx.const (Gx.tmp gt_)) rfl rfl ?_
      exact hm _ ⟨rfl, trivial⟩ rfl
    intro j33
    refine s_y (Y_mv) rfl rfl ?_
    apply s_or 6 [34, 35, 36, 37, 38, 39, 40] 40 (g := 34) rfl rfl
    · intro ht27 hm
      try simp only [nrm_] at ht27
      first | refine s_y (Y_fa 7 rfl Tryz.underlying34 rfl sz32 rfl) rfl rfl ?_ | refine s_pass rfl rfl ?_
      first | refine s_y (Y_loadN (vs := [iv d1.gold.a, iv d1.gold.b, iv d1.gold.c, iv d1.gold.d]) rfl many32 mm_ (by rfl) gold_subL) rfl rfl ?_ | refine s_pass rfl rfl ?_
      first | refine s_y (Y_fa 7 rfl Tryz.underlying34 rfl sz32 rfl) rfl rfl ?_ | refine s_pass rfl rfl ?_
      first | refine s_y (Y_loadN (vs := [iv d2.gold.a, iv d2.gold.b, iv d2.gold.c, iv d2.gold.d]) rfl many32 mm_ (by rfl) gold_subL) rfl rfl ?_ | refine s_pass rfl rfl ?_
      first | refine s_y (Y_neF (zs := d1.gold.nums) (zs' := d2.gold.nums) rfl rfl flat32 rfl rfl) rfl rfl ?_ | refine s_pass rfl rfl ?_
      refine s_y (Y_pk rfl Gx.const (Gx.tmp gt_)) rfl rfl ?_
      first | exact hm _ ⟨rfl, trivial⟩ rfl | exact QL.sub sl_ (hm _ ⟨rfl, trivial⟩ rfl)
    · intro ht27 hm
      iterate 5 refine s_pass rfl rfl ?_
      refine s_y (Y_pk rfl Gx.const (Gx.tmp gt_)) rfl rfl ?_
      exact hm _ ⟨rfl, trivial⟩ rfl
    intro j40
    refine s_nil ?_
    refine q_then ?_
    first | refine c_cond' rfl (fun hc2 => ?_) (fun hc2 => ?_) | refine c_cond rfl (fun hc2 => ?_) (fun hc2 => ?_)
    · skip
      try simp only [nrm_] at hc2
      refine c_reg ?_
      refine s_y (Y_mv) rfl rfl ?_
      refine s_y (Y_build (cs := rC (0, 0)) ((by repeat (first | exact Gp.nil | apply Gp.const | apply Gp.tmp gt_))) (bld116 _ _ (by kernel_rfl))) rfl rfl ?_
      refine s_n (N_bsA gt_ Tryz.underlying45 inf116 rfl rfl (by omega) (by omega)) rfl rfl (fun b43 _ => ?_)
      refine s_n (N_appR (bytes := 16) Row.nil (List.Perm.refl _) rfl rfl Tryz.underlying45 inf116 rfl (by omega) (src (news := rC (0, 0)) mm_) (by rfl) (one_rc _) (by omega) (by omega) (by omega)) rfl rfl (fun ⟨g44, cp44⟩ hc44 => ?_)
      refine s_y (Y_as) rfl rfl ?_
      refine s_nil ?_
      exact go ([(0, 0)], _, [⟨g44, 116, 2, cp44, rcs [(0, 0)]⟩]) _ _ ⟨by unfold headR; rw [if_neg]; rintro ⟨e1, e2, e3, e4, e5⟩; simp [e1, e2, e3, e4, e5] at hc2, .some hc44 rfl⟩ ⟨rfl, trivial⟩ rfl (fun w h => h.pick ss_)
    · skip
      try simp only [nrm_] at hc2
      refine c_skip ?_
      exact go ([], _, []) _ _ ⟨by unfold headR; rw [if_pos]; exact ⟨hc2.1.1.1.1, hc2.1.1.1.2, hc2.1.1.2, hc2.1.2, hc2.2⟩, .nil⟩ ⟨rfl, trivial⟩ rfl (fun w h => h.pick ss_)
end
end Go.Proofs.YtcogbkkdccohfaaGreat
namespace Go.Proofs.YtcogbkkdccohfaaGreat
open Go.RowKit Go.Ad Go.Maps
set_option linter.unusedVariables false
set_option linter.unusedSimpArgs false
inductive Chg
  | head (d : Wd)
  | cells (g cap : Nat)
  | ent (n : Nat) (e : Ent)
  | itm (n : Nat) (x : Itm)
def headC (d : Wd) : List Value := [iv d.seed, iv d.frame, iv d.floor, iv d.state, .slice none 0 0, .slice none 0 0, .slice none 0 0, iv d.gold.a, iv d.gold.b, iv d.gold.c, iv d.gold.d]
def Chg.t : Chg → TypeId
  | .head _ => 159
  | .cells _ _ => 162
  | .ent _ _ => 164
  | .itm _ _ => 166
def Chg.c : Chg → List Value
  | .head d => headC d
  | .cells g cap => [.slice (some ⟨g, 0, none⟩) 384 cap]
  | .ent n e => iv n :: e.cells
  | .itm n x => iv n :: x.cells
def Chg.v (x : Chg) : Value := .iface x.t (.agg x.c.toArray)
def Chg.row : Chg → Int × Int
  | .head _ => (0, 0)
  | .cells _ _ => (1, 0)
  | .ent n _ => (2, n)
  | .itm n _ => (3, n)
def Chg.told : Chg → FuncId
  | .head _ => 248
  | .cells _ _ => 249
  | .ent _ _ => 250
  | .itm _ _ => 251
def Chg.of (a : Wd) (K : List Bk) : Chg → Prop
  | .head d => d = a
  | .cells g cap => cB g cap a.cells ∈ K ∧ 384 ≤ cap
  | .ent n e => a.ents[n]? = some e
  | .itm n x => a.items[n]? = some x
theorem Chg.inv (x : Chg) : ∀ w, (invoke (.fn (.method "adit/snap.told") #[]) (#[x.v] ++ ([] : List Value).toArray)).run Tryz.prog w = .ok (.enter x.told [.agg x.c.toArray].toArray) w := by
  intro w
  cases x <;> kernel_rfl
theorem Chg.one (x : Chg) : x.v.oneCell' = true := rfl
section
variable {W : World}
theorem told_d (x : Chg) : Does Tryz.prog x.told [.agg x.c.toArray] W [] (fun v L => v = .agg (rC x.row).toArray ∧ L = []) := by
  cases x with
  | head d =>
    refine enter Tryz.func248 rfl rfl rfl (Has.start _) ?_
    refine c_seq ?_
    refine c_reg ?_
    refine s_n (N_box (cs := headC d) rfl) rfl rfl (fun b1 _ => ?_)
    refine s_n (N_alloc (z := .agg #[.int .i64 0, .int .i64 0]) (cs := [.int .i64 0, .int .i64 0]) zv116 rfl) rfl rfl (fun b2 _ => ?_)
    refine s_nil ?_
    refine q_then ?_
    refine c_seq ?_
    refine c_reg ?_
    refine s_y (Y_build (cs := rC (0, 0)) ((by repeat (first | exact Gp.nil | apply Gp.const | apply Gp.tmp gt_))) (bld116 _ _ (by kernel_rfl))) rfl rfl ?_
    refine s_s (S_storeA (vs := rC (0, 0)) rfl rfl sz116 (by rfl) (by rfl) up_ (by rfl)) rfl ?_
    refine s_nil ?_
    refine q_then ?_
    refine c_ret ?_
    refine q_ret1c rfl rfl many116 mm_ (by rfl) (L' := _) sl_ (⟨rfl, rfl⟩)
  | cells g cap =>
    refine enter Tryz.func249 rfl rfl rfl (Has.start _) ?_
    refine c_seq ?_
    refine c_reg ?_
    refine s_n (N_box (cs := [.slice (some ⟨g, 0, none⟩) 384 cap]) rfl) rfl rfl (fun b1 _ => ?_)
    refine s_n (N_alloc (z := .agg #[.int .i64 0, .int .i64 0]) (cs := [.int .i64 0, .int .i64 0]) zv116 rfl) rfl rfl (fun b2 _ => ?_)
    refine s_nil ?_
    refine q_then ?_
    refine c_seq ?_
    refine c_reg ?_
    refine s_y (Y_build (cs := rC (1, 0)) ((by repeat (first | exact Gp.nil | apply Gp.const | apply Gp.tmp gt_))) (bld116 _ _ (by kernel_rfl))) rfl rfl ?_
    refine s_s (S_storeA (vs := rC (1, 0)) rfl rfl sz116 (by rfl) (by rfl) up_ (by rfl)) rfl ?_
    refine s_nil ?_
    refine q_then ?_
    refine c_ret ?_
    refine q_ret1c rfl rfl many116 mm_ (by rfl) (L' := _) sl_ (⟨rfl, rfl⟩)
  | ent n e =>
    refine enter Tryz.func250 rfl rfl rfl (Has.start _) ?_
    refine c_seq ?_
    refine c_reg ?_
    refine s_n (N_box (cs := iv n :: e.cells) rfl) rfl rfl (fun b1 _ => ?_)
    refine s_n (N_alloc (z := .agg #[.int .i64 0, .int .i64 0]) (cs := [.int .i64 0, .int .i64 0]) zv116 rfl) rfl rfl (fun b2 _ => ?_)
    refine s_nil ?_
    refine q_then ?_
    refine c_seq ?_
    refine c_reg ?_
    refine s_y (Y_fa 0 rfl Tryz.underlying164 rfl sz3 rfl) rfl rfl ?_
    refine s_y (yl_ one3) rfl rfl ?_
    refine s_y (Y_build (cs := rC (2, (n : Int))) ((by repeat (first | exact Gp.nil | apply Gp.const | apply Gp.tmp gt_))) (bld116 _ _ (by kernel_rfl))) rfl rfl ?_
    refine s_s (S_storeA (vs := rC (2, (n : Int))) rfl rfl sz116 (by rfl) (by rfl) up_ (by rfl)) rfl ?_
    refine s_nil ?_
    refine q_then ?_
    refine c_ret ?_
    refine q_ret1c rfl rfl many116 mm_ (by rfl) (L' := _) sl_ (⟨rfl, rfl⟩)
  | itm n e =>
    refine enter Tryz.func251 rfl rfl rfl (Has.start _) ?_
    refine c_seq ?_
    refine c_reg ?_
    refine s_n (N_box (cs := iv n :: e.cells) rfl) rfl rfl (fun b1 _ => ?_)
    refine s_n (N_alloc (z := .agg #[.int .i64 0, .int .i64 0]) (cs := [.int .i64 0, .int .i64 0]) zv116 rfl) rfl rfl (fun b2 _ => ?_)
    refine s_nil ?_
    refine q_then ?_
    refine c_seq ?_
    refine c_reg ?_
    refine s_y (Y_fa 0 rfl Tryz.underlying166 rfl sz3 rfl) rfl rfl ?_
    refine s_y (yl_ one3) rfl rfl ?_
    refine s_y (Y_build (cs := rC (3, (n : Int))) ((by repeat (first | exact Gp.nil | apply Gp.const | apply Gp.tmp gt_))) (bld116 _ _ (by kernel_rfl))) rfl rfl ?_
    refine s_s (S_storeA (vs := rC (3, (n : Int))) rfl rfl sz116 (by rfl) (by rfl) up_ (by rfl)) rfl ?_
    refine s_nil ?_
    refine q_then ?_
    refine c_ret ?_
    refine q_ret1c rfl rfl many116 mm_ (by rfl) (L' := _) sl_ (⟨rfl, rfl⟩)
set_option maxRecDepth 100000 in
theorem sameHead_d {d1 d2 : Wd} {s1 s2 : Ws} : Does Tryz.prog 107 [.agg (wL d1 s1).toArray, .agg (wL d2 s2).toArray] W [] (fun v L => v = .bool (decide (headE d1 d2)) ∧ L = []) := by
  refine enter Tryz.func107 rfl rfl rfl (Has.start _) ?_
  refine c_seq ?_
  refine c_reg ?_
  refine s_n (N_box (cs := wL d1 s1) rfl) rfl rfl (fun b2 _ => ?_)
  refine s_n (N_box (cs := wL d2 s2) rfl) rfl rfl (fun b3 _ => ?_)
  refine s_y (Y_asC) rfl rfl ?_
  refine s_nil ?_
  refine q_then ?_
  refine c_seq ?_
  refine c_reg ?_
  refine s_y (Y_fa 0 rfl Tryz.underlying34 rfl sz2 rfl) rfl rfl ?_
  refine s_y (yl_ one2) rfl rfl ?_
  refine s_y (Y_fa 0 rfl Tryz.underlying34 rfl sz2 rfl) rfl rfl ?_
  refine s_y (yl_ one2) rfl rfl ?_
  refine s_y (Y_eql rfl rfl) rfl rfl ?_
  refine s_y (Y_mv) rfl rfl ?_
  apply s_and 6 [10, 11, 12, 13, 14, 15, 16] 16 (g := 10) rfl rfl
  · intro ht6 hm
    try simp only [nrm_] at ht6
    first | refine s_y (Y_fa 1 rfl Tryz.underlying34 rfl sz3 rfl) rfl rfl ?_ | refine s_pass rfl rfl ?_
    first | refine s_y (yl_ one3) rfl rfl ?_ | refine s_pass rfl rfl ?_
    first | refine s_y (Y_fa 1 rfl Tryz.underlying34 rfl sz3 rfl) rfl rfl ?_ | refine s_pass rfl rfl ?_
    first | refine s_y (yl_ one3) rfl rfl ?_ | refine s_pass rfl rfl ?_
    first | refine s_y (Y_eql rfl rfl) rfl rfl ?_ | refine s_pass rfl rfl ?_
    refine s_y (Y_pk rfl (Gx.tmp gt_) Gx.const) rfl rfl ?_
    first | exact hm _ ⟨rfl, trivial⟩ rfl | exact QL.sub sl_ (hm _ ⟨rfl, trivial⟩ rfl)
  · intro ht6 hm
    iterate 5 refine s_pass rfl rfl ?_
    refine s_y (Y_pk rfl (Gx.tmp gt_) Gx.const) rfl rfl ?_
    exact hm _ ⟨rfl, trivial⟩ rfl
  intro j16
  refine s_y (Y_mv) rfl rfl ?_
  apply s_and 6 [17, 18, 19, 20, 21, 22, 23] 23 (g := 17) rfl rfl
  · intro ht13 hm
    try simp only [nrm_] at ht13
    first | refine s_y (Y_fa 2 rfl Tryz.underlying34 rfl sz3 rfl) rfl rfl ?_ | refine s_pass rfl rfl ?_
    first | refine s_y (yl_ one3) rfl rfl ?_ | refine s_pass rfl rfl ?_
    first | refine s_y (Y_fa 2 rfl Tryz.underlying34 rfl sz3 rfl) rfl rfl ?_ | refine s_pass rfl rfl ?_
    first | refine s_y (yl_ one3) rfl rfl ?_ | refine s_pass rfl rfl ?_
    first | refine s_y (Y_eql rfl rfl) rfl rfl ?_ | refine s_pass rfl rfl ?_
    refine s_y (Y_pk rfl (Gx.tmp gt_) Gx.const) rfl rfl ?_
    first | exact hm _ ⟨rfl, trivial⟩ rfl | exact QL.sub sl_ (hm _ ⟨rfl, trivial⟩ rfl)
  · intro ht13 hm
    iterate 5 refine s_pass rfl rfl ?_
    refine s_y (Y_pk rfl (Gx.tmp gt_) Gx.const) rfl rfl ?_
    exact hm _ ⟨rfl, trivial⟩ rfl
  intro j23
  refine s_y (Y_mv) rfl rfl ?_
  apply s_and 6 [24, 25, 26, 27, 28, 29, 30] 30 (g := 24) rfl rfl
  · intro ht20 hm
    try simp only [nrm_] at ht20
    first | refine s_y (Y_fa 3 rfl Tryz.underlying34 rfl sz3 rfl) rfl rfl ?_ | refine s_pass rfl rfl ?_
    first | refine s_y (yl_ one3) rfl rfl ?_ | refine s_pass rfl rfl ?_
    first | refine s_y (Y_fa 3 rfl Tryz.underlying34 rfl sz3 rfl) rfl rfl ?_ | refine s_pass rfl rfl ?_
    first | refine s_y (yl_ one3) rfl rfl ?_ | refine s_pass rfl rfl ?_
    first | refine s_y (Y_eql rfl rfl) rfl rfl ?_ | refine s_pass rfl rfl ?_
    refine s_y (Y_pk rfl (Gx.tmp gt_) Gx.const) rfl rfl ?_
    first | exact hm _ ⟨rfl, trivial⟩ rfl | exact QL.sub sl_ (hm _ ⟨rfl, trivial⟩ rfl)
  · intro ht20 hm
    iterate 5 refine s_pass rfl rfl ?_
    refine s_y (Y_pk rfl (Gx.tmp gt_) Gx.const) rfl rfl ?_
    exact hm _ ⟨rfl, trivial⟩ rfl
  intro j30
  refine s_y (Y_mv) rfl rfl ?_
  apply s_and 6 [31, 32, 33, 34, 35, 36, 37] 37 (g := 31) rfl rfl
  · intro ht27 hm
    try simp only [nrm_] at ht27
    first | refine s_y (Y_fa 7 rfl Tryz.underlying34 rfl sz32 rfl) rfl rfl ?_ | refine s_pass rfl rfl ?_
    first | refine s_y (Y_loadN (vs := [iv d1.gold.a, iv d1.gold.b, iv d1.gold.c, iv d1.gold.d]) rfl many32 mm_ (by rfl) gold_subL) rfl rfl ?_ | refine s_pass rfl rfl ?_
    first | refine s_y (Y_fa 7 rfl Tryz.underlying34 rfl sz32 rfl) rfl rfl ?_ | refine s_pass rfl rfl ?_
    first | refine s_y (Y_loadN (vs := [iv d2.gold.a, iv d2.gold.b, iv d2.gold.c, iv d2.gold.d]) rfl many32 mm_ (by rfl) gold_subL) rfl rfl ?_ | refine s_pass rfl rfl ?_
    first | refine s_y (Y_eqF (zs := d1.gold.nums) (zs' := d2.gold.nums) rfl rfl flat32 rfl rfl) rfl rfl ?_ | refine s_pass rfl rfl ?_
    refine s_y (Y_pk rfl (Gx.tmp gt_) Gx.const) rfl rfl ?_
    first | exact hm _ ⟨rfl, trivial⟩ rfl | exact QL.sub sl_ (hm _ ⟨rfl, trivial⟩ rfl)
  · intro ht27 hm
    iterate 5 refine s_pass rfl rfl ?_
    refine s_y (Y_pk rfl (Gx.tmp gt_) Gx.const) rfl rfl ?_
    exact hm _ ⟨rfl, trivial⟩ rfl
  intro j37
  refine s_y (Y_as) rfl rfl ?_
  refine s_nil ?_
  refine q_then ?_
  refine c_ret ?_
  refine q_retG1 rfl gt_ (L' := _) sl_ (⟨by congr 1; rw [Bool.eq_iff_iff, @decide_eq_true_iff (headE d1 d2)]; simp [headE, and_assoc], rfl⟩)
set_option maxRecDepth 100000 in
theorem bequal_d {a a' : Option Addr} {n n' c c' : Nat} {xs ys : List UInt8} (h : BytesAt W a n xs) (h' : BytesAt W a' n' ys) : Does Tryz.prog 108 [.slice a n c, .slice a' n' c'] W [] (fun v L => v = .bool (decide (xs = ys)) ∧ L = []) := by
  refine enter Tryz.func108 rfl rfl rfl (Has.start _) ?_
  refine c_seq ?_
  refine c_reg ?_
  refine s_y (Y_asC) rfl rfl ?_
  refine s_nil ?_
  refine q_then ?_
  refine c_seq ?_
  refine c_reg ?_
  refine s_y (Y_mv) rfl rfl ?_
  refine s_y (Y_bs rfl Tryz.underlying24 Tryz.underlying5 Tryz.underlying9 (fun w hH => h.has (by simp) hH)) rfl rfl ?_
  refine s_y (Y_mv) rfl rfl ?_
  refine s_y (Y_bs rfl Tryz.underlying24 Tryz.underlying5 Tryz.underlying9 (fun w hH => h'.has (by simp) hH)) rfl rfl ?_
  refine s_y (Y_eqS rfl rfl) rfl rfl ?_
  refine s_y (Y_as) rfl rfl ?_
  refine s_nil ?_
  refine q_then ?_
  refine c_ret ?_
  refine q_retG1 rfl gt_ (L' := _) sl_ (⟨by congr 1; rw [decide_eq_decide]; exact ⟨fun e => bytes_injL e, fun e => by rw [e]⟩, rfl⟩)
set_option maxRecDepth 100000 in
theorem bclone_d {b o n c : Nat} {l : List UInt8} (hs : SlB W b o n c 1 (l.map bv)) (hn : n ≤ 100000) : Does Tryz.prog 109 [.slice (some ⟨b, o, none⟩) n c] W [] (fun v L => ∃ g cap, n ≤ cap ∧ v = .slice (some ⟨g, 0, none⟩) n cap ∧ L = [cB g cap l]) := by
  refine enter Tryz.func109 rfl rfl rfl (Has.start _) ?_
  refine c_seq ?_
  refine c_reg ?_
  refine s_y (Y_asC) rfl rfl ?_
  refine s_nil ?_
  refine q_then ?_
  refine c_seq ?_
  refine c_seq ?_
  refine c_reg ?_
  refine s_y (Y_mv) rfl rfl ?_
  refine s_y (Y_eqN rfl rfl Tryz.underlying24) rfl rfl ?_
  refine s_nil ?_
  refine q_then ?_
  refine c_F rfl (rfl) ?_
  refine c_skip ?_
  refine q_then ?_
  refine c_seq ?_
  refine c_reg ?_
  refine s_n (N_bs0 rfl Tryz.underlying24 sz5) rfl rfl (fun b5 _ => ?_)
  refine s_y (Y_mv) rfl rfl ?_
  refine s_n (N_appE (news := l.map bv) rfl rfl Tryz.underlying24 inf5 rfl (by omega) se_ hs.src hs.len (bvs_one _) (by omega) (by omega)) rfl rfl (fun ⟨g7, cp7⟩ hc7 => ?_)
  refine s_y (Y_as) rfl rfl ?_
  refine s_nil ?_
  refine q_then ?_
  refine c_ret ?_
  refine q_retG1 rfl gt_ (L' := _) sl_ (⟨_, _, hc7, rfl, rfl⟩)
end
end Go.Proofs.YtcogbkkdccohfaaGreat
namespace Go.Proofs.YtcogbkkdccohfaaGreat
open Go.RowKit Go.Ad Go.Maps
set_option linter.unusedVariables false
set_option linter.unusedSimpArgs false
theorem Chg.of.mono {a : Wd} {K : List Bk} {x : Chg} (h : x.of a []) : x.of a K := by
  cases x with
  | cells g cap => exact absurd h.1 (by simp)
  | head d => exact h
  | ent n e => exact h
  | itm n e => exact h
theorem of_snoc {a : Wd} {K : List Bk} {q : List Chg} {x : Chg} (h : ∀ y ∈ q, y.of a K) (hx : x.of a K) : ∀ y ∈ q ++ [x], y.of a K := fun y hy => by
  rcases List.mem_append.1 hy with h1 | h1
  · exact h y h1
  · obtain rfl := List.mem_singleton.1 h1
    exact hx
def ChP (a b : Wd) (v : Value) (L : List Bk) : Prop := ∃ (q : List Chg) (K B : List Bk), q.map Chg.row = rowsM a b ∧ (∀ x ∈ q, x.of a K) ∧ Row 114 1 v q.length (q.map Chg.v) B ∧ L = B ++ K
theorem one_chg (x : Chg) : ∀ u ∈ [x.v], u.oneCell' = true := fun u hu => by obtain rfl := List.mem_singleton.1 hu; rfl
section
variable {W : World}
set_option maxRecDepth 100000 in
set_option maxHeartbeats 1600000 in
theorem changed_d {d1 d2 : Wd} {s1 s2 : Ws} (h1 : WL W d1 s1) (h2 : WL W d2 s2) : Does Tryz.prog 64 [.agg (wL d1 s1).toArray, .agg (wL d2 s2).toArray] W [] (ChP d1 d2) := by
  have hb1 := h1.bytes
  have hb2 := h2.bytes
  obtain ⟨z1, z2, z3⟩ := h1.sz
  obtain ⟨y1, y2, y3⟩ := h2.sz
  have l1 := headR_len d1 d2
  have l2 := cellR_len d1 d2
  refine enter Tryz.func64 rfl rfl rfl (Has.start _) ?_
  refine c_seq ?_
  refine c_reg ?_
  refine s_n (N_box (cs := wL d1 s1) rfl) rfl rfl (fun b2 _ => ?_)
  refine s_n (N_box (cs := wL d2 s2) rfl) rfl rfl (fun b3 _ => ?_)
  refine s_y (Y_asC) rfl rfl ?_
  refine s_nil ?_
  refine q_then ?_
  refine c_seq ?_
  refine c_reg ?_
  refine s_y (Y_asC) rfl rfl ?_
  refine s_nil ?_
  refine q_then ?_
  refine c_seq ?_
  refine c_meetQ (ks := [5, 8, 9, 10, 11, 12, 13, 14, 15, 16, 17, 18, 19, 20, 21, 22, 23, 24, 25, 26, 27]) (tr := fun y : List Chg × Value × List Bk => [(5, y.2.1)]) (φ := fun y => y.1.map Chg.row = headR d1 d2 ∧ (∀ x ∈ y.1, x.of d1 []) ∧ Row 114 1 y.2.1 y.1.length (y.1.map Chg.v) y.2.2) (G := fun y => wB b3 (wL d2 s2) :: wB b2 (wL d1 s1) :: y.2.2) (fun _ => rfl) ?_ ?_
  · rintro ⟨l, v, B⟩ j4 ⟨hl, ho, hB⟩
    refine q_then ?_
    refine c_seq ?_
    refine c_meetQ (ks := [5, 28, 29, 30, 31, 32, 33, 34, 35, 36, 37, 38, 39, 40, 41]) (tr := fun y : List Chg × Value × List Bk × List Bk => [(5, y.2.1)]) (φ := fun y => y.1.map Chg.row = headR d1 d2 ++ cellR d1 d2 ∧ (∀ x ∈ y.1, x.of d1 y.2.2.2) ∧ Row 114 1 y.2.1 y.1.length (y.1.map Chg.v) y.2.2.1) (G := fun y => wB b3 (wL d2 s2) :: wB b2 (wL d1 s1) :: (y.2.2.1 ++ y.2.2.2)) (fun _ => rfl) ?_ ?_
    · rintro ⟨r, u, C, K0⟩ j6 ⟨hr, hro, hC⟩
      refine q_then ?_
      refine c_seq ?_
      refine c_seq ?_
      simp only at hr hro hC ⊢
      have l3 : r.length ≤ 2 := by
        have := congrArg List.length hr
        rw [List.length_map, List.length_append] at this
        omega
      refine c_reg ?_
      refine s_y (Y_fa 5 rfl Tryz.underlying34 rfl sz30 rfl) rfl rfl ?_
      refine s_y (yl_ one30) rfl rfl ?_
      refine s_y (Y_len rfl rfl Tryz.underlying30) rfl rfl ?_
      refine s_y (Y_fa 5 rfl Tryz.underlying34 rfl sz30 rfl) rfl rfl ?_
      refine s_y (yl_ one30) rfl rfl ?_
      refine s_y (Y_len rfl rfl Tryz.underlying30) rfl rfl ?_
      refine s_y ((Y_min rfl rfl).num (show _ = (32 : Int) by rfl)) rfl rfl ?_
      refine s_y (Y_mvC) rfl rfl ?_
      refine s_nil ?_
      refine q_then ?_
      refine c_block ?_
      refine c_loop [5, 6, 49, 50, 51, 52, 53, 54, 55, 56, 57, 58, 59, 60, 61, 62, 63, 64, 65, 66, 67, 68, 69, 70, 71, 72, 73, 74] (fun m (y : Nat × List Chg × Value × List Bk) => y.1 + m = 32 ∧ y.2.1.map Chg.row = headR d1 d2 ++ cellR d1 d2 ++ entR d1 d2 y.1 ∧ (∀ x ∈ y.2.1, x.of d1 K0) ∧ Row 114 1 y.2.2.1 y.2.1.length (y.2.1.map Chg.v) y.2.2.2) (fun y => [(49, iv y.1), (5, y.2.2.1)]) (fun y => wB b3 (wL d2 s2) :: wB b2 (wL d1 s1) :: (y.2.2.2 ++ K0)) (32) ((0, r, u, C)) (⟨rfl, by simp only; rw [hr, entR_zero, List.append_nil], hro, hC⟩) (by repeat (first | exact trivial | refine ⟨rfl, ?_⟩)) (fun _ h => h.sub sl_) (fun _ => rfl) ?_
      rintro m ⟨i, q, x5, D⟩ j ⟨hi, hq, hqo, hD⟩ K hK
      simp only at hi hq hqo hD ⊢
      have l4 := entR_len d1 d2 i
      have l5 : q.length ≤ 2 + i := by
        have := congrArg List.length hq
        rw [List.length_map, List.length_append, List.length_append] at this
        omega
      refine c_seq ?_
      refine c_reg ?_
      refine s_y (Y_lss rfl rfl) rfl rfl ?_
      refine s_nil ?_
      refine q_then ?_
      refine c_seq ?_
      first | refine c_cond' rfl (fun hc7 => ?_) (fun hc7 => ?_) | refine c_cond rfl (fun hc7 => ?_) (fun hc7 => ?_)
      · skip
        try simp only [nrm_] at hc7
        refine c_skip ?_
        refine q_then ?_
        refine c_seq ?_
        refine c_block ?_
        refine c_seq ?_
        refine c_reg ?_
        refine s_y (Y_mv) rfl rfl ?_
        refine s_y (Y_as) rfl rfl ?_
        refine s_nil ?_
        refine q_then ?_
        refine c_seq ?_
        obtain ⟨x, hx⟩ := take_lt (show i < d1.ents.length by omega)
        obtain ⟨y, hy⟩ := take_lt (show i < d2.ents.length by omega)
        have hrr := h1.e.at' Ent.len hx
        have hrr2 := h2.e.at' Ent.len hy
        refine c_rord [] [(0, true), (1, true), (2, true), (3, true), (4, true), (5, true), (6, true), (7, true), (8, true), (9, true), (10, true)] (by kernel_rfl) (by kernel_rfl) (by kernel_rfl) (by kernel_rfl) rfl (by intro c a d v w h; cases d <;> exact h) rfl ?_
        simp only [mkOrd, List.filterMap_cons, List.filterMap_nil, List.getElem?_toArray, List.getElem?_cons_zero, List.getElem?_cons_succ, Option.map_some]
        refine o_y (Y_fa 5 rfl Tryz.underlying34 rfl sz30 rfl) rfl rfl ?_
        refine o_y (yl_ one30) rfl rfl ?_
        refine o_y (Y_mv) rfl rfl ?_
        refine o_y (Y_ia rfl rfl Tryz.underlying30 sz93 rfl (by omega)) rfl rfl ?_
        refine o_y (Y_loadNR (vs := x.cells) rfl many93 hrr rfl) rfl rfl ?_
        refine o_y (Y_fa 5 rfl Tryz.underlying34 rfl sz30 rfl) rfl rfl ?_
        refine o_y (yl_ one30) rfl rfl ?_
        refine o_y (Y_mv) rfl rfl ?_
        refine o_y (Y_ia rfl rfl Tryz.underlying30 sz93 rfl (by omega)) rfl rfl ?_
        refine o_y (Y_loadNR (vs := y.cells) rfl many93 hrr2 rfl) rfl rfl ?_
        refine o_y (Y_neF (zs := x.nums) (zs' := y.nums) rfl rfl flat93 rfl rfl) rfl rfl ?_
        refine o_nil ?_
        refine q_then ?_
        first | refine c_cond' rfl (fun hc9 => ?_) (fun hc9 => ?_) | refine c_cond rfl (fun hc9 => ?_) (fun hc9 => ?_)
        · skip
          try simp only [nrm_] at hc9
          refine c_reg ?_
          refine s_y (Y_mv) rfl rfl ?_
          refine s_y (Y_mv) rfl rfl ?_
          refine s_y (Y_fa 5 rfl Tryz.underlying34 rfl sz30 rfl) rfl rfl ?_
          refine s_y (yl_ one30) rfl rfl ?_
          refine s_y (Y_mv) rfl rfl ?_
          refine s_y (Y_ia rfl rfl Tryz.underlying30 sz93 rfl (by omega)) rfl rfl ?_
          refine s_y (Y_loadNR (vs := x.cells) rfl many93 hrr rfl) rfl rfl ?_
          refine s_y (Y_build (cs := iv i :: x.cells) ((by repeat (first | exact Gp.nil | apply Gp.const | apply Gp.tmp gt_))) (bld164 _ _ (by kernel_rfl))) rfl rfl ?_
          refine s_y (Y_mkI rfl Tryz.underlying164 rfl) rfl rfl ?_
          refine s_n (N_bs (xs := [.tmp 71]) (vs := [(Chg.ent i x).v]) (by repeat (first | exact Gv.nil | apply Gv.const | apply Gv.tmp gt_)) rfl Tryz.underlying111 inf114 (by simp) (by simp) (by simp) (one_chg _)) rfl rfl (fun b72 _ => ?_)
          refine s_n (N_appR (bytes := 16) hD (perm_mid D [_, _, _] K0) rfl rfl Tryz.underlying111 inf114 rfl (by omega) (src (news := [(Chg.ent i x).v]) mm_) (by rfl) (one_chg _) (by omega) (by omega) (by omega)) rfl rfl (fun ⟨g73, cp73⟩ hc73 => ?_)
          refine s_y (Y_as) rfl rfl ?_
          refine s_nil ?_
          refine q_bn ?_
          refine q_then ?_
          refine c_reg ?_
          refine s_y ad_ rfl rfl ?_
          refine s_y (Y_mv) rfl rfl ?_
          refine s_nil ?_
          refine hK (m - 1) (i + 1, q ++ [Chg.ent i x], .slice (some ⟨g73, 0, none⟩) (q.length + 1) cp73, [⟨g73, 114, 1, cp73, (q ++ [Chg.ent i x]).map Chg.v⟩]) _ _ (by omega) ⟨by simp only; omega, by simp only; rw [entR_yes hx hy hc9, List.map_append, hq]; simp [Chg.row], of_snoc (x := Chg.ent i x) hqo hx, by simp only; rw [List.length_append, List.length_singleton, List.map_append]; exact .some hc73 (by simp)⟩ ⟨rfl, rfl, trivial⟩ rfl (fun w h => ?_)
          simp only
          rw [List.map_append]
          exact h.pick2 (xs := [_, _, _]) (R' := K0) ss_ (List.sublist_cons_self _ _)
        · skip
          try simp only [nrm_] at hc9
          refine c_skip ?_
          refine q_bn ?_
          refine q_then ?_
          refine c_reg ?_
          refine s_y ad_ rfl rfl ?_
          refine s_y (Y_mv) rfl rfl ?_
          refine s_nil ?_
          refine hK (m - 1) (i + 1, q, x5, D) _ _ (by omega) ⟨by simp only; omega, by simp only; rw [entR_no hx hy hc9]; exact hq, hqo, hD⟩ ⟨rfl, rfl, trivial⟩ rfl (fun w h => h)
      · skip
        try simp only [nrm_] at hc7
        refine c_exit ?_
        repeat with_reducible refine q_te ?_
        refine q_exit ?_
        refine q_then ?_
        refine c_seq ?_
        refine c_seq ?_
        obtain rfl : i = 32 := by omega
        refine c_reg ?_
        refine s_y (Y_fa 6 rfl Tryz.underlying34 rfl sz31 rfl) rfl rfl ?_
        refine s_y (yl_ one31) rfl rfl ?_
        refine s_y (Y_len rfl rfl Tryz.underlying31) rfl rfl ?_
        refine s_y (Y_fa 6 rfl Tryz.underlying34 rfl sz31 rfl) rfl rfl ?_
        refine s_y (yl_ one31) rfl rfl ?_
        refine s_y (Y_len rfl rfl Tryz.underlying31) rfl rfl ?_
        refine s_y ((Y_min rfl rfl).num (show _ = (40 : Int) by rfl)) rfl rfl ?_
        refine s_y (Y_mvC) rfl rfl ?_
        refine s_nil ?_
        refine q_then ?_
        refine c_block ?_
        refine c_loop [5, 7, 82, 83, 84, 85, 86, 87, 88, 89, 90, 91, 92, 93, 94, 95, 96, 97, 98, 99, 100, 101, 102, 103, 104, 105, 106, 107] (fun m (y : Nat × List Chg × Value × List Bk) => y.1 + m = 40 ∧ y.2.1.map Chg.row = headR d1 d2 ++ cellR d1 d2 ++ entR d1 d2 32 ++ itmR d1 d2 y.1 ∧ (∀ x ∈ y.2.1, x.of d1 K0) ∧ Row 114 1 y.2.2.1 y.2.1.length (y.2.1.map Chg.v) y.2.2.2) (fun y => [(82, iv y.1), (5, y.2.2.1)]) (fun y => wB b3 (wL d2 s2) :: wB b2 (wL d1 s1) :: (y.2.2.2 ++ K0)) (40) ((0, q, x5, D)) (⟨rfl, by simp only; rw [hq, itmR_zero, List.append_nil], hqo, hD⟩) (by repeat (first | exact trivial | refine ⟨rfl, ?_⟩)) (fun _ h => h.sub sl_) (fun _ => rfl) ?_
        rintro m2 ⟨k, p, x6, E⟩ j2 ⟨hk, hp, hpo, hE⟩ K hK
        simp only at hk hp hpo hE ⊢
        have l6 := itmR_len d1 d2 k
        have l7 : p.length ≤ 34 + k := by
          have h5 := congrArg List.length hp
          have h6 := congrArg List.length hq
          rw [List.length_map, List.length_append] at h5
          rw [List.length_map] at h6
          omega
        refine c_seq ?_
        refine c_reg ?_
        refine s_y (Y_lss rfl rfl) rfl rfl ?_
        refine s_nil ?_
        refine q_then ?_
        refine c_seq ?_
        first | refine c_cond' rfl (fun hc13 => ?_) (fun hc13 => ?_) | refine c_cond rfl (fun hc13 => ?_) (fun hc13 => ?_)
        · skip
          try simp only [nrm_] at hc13
          refine c_skip ?_
          refine q_then ?_
          refine c_seq ?_
          refine c_block ?_
          refine c_seq ?_
          refine c_reg ?_
          refine s_y (Y_mv) rfl rfl ?_
          refine s_y (Y_as) rfl rfl ?_
          refine s_nil ?_
          refine q_then ?_
          refine c_seq ?_
          obtain ⟨x, hx⟩ := take_lt (show k < d1.items.length by omega)
          obtain ⟨y, hy⟩ := take_lt (show k < d2.items.length by omega)
          have hrr := h1.i.at' Itm.len hx
          have hrr2 := h2.i.at' Itm.len hy
          refine c_rord [] [(0, true), (1, true), (2, true), (3, true), (4, true), (5, true), (6, true), (7, true), (8, true), (9, true), (10, true)] (by kernel_rfl) (by kernel_rfl) (by kernel_rfl) (by kernel_rfl) rfl (by intro c a d v w h; cases d <;> exact h) rfl ?_
          simp only [mkOrd, List.filterMap_cons, List.filterMap_nil, List.getElem?_toArray, List.getElem?_cons_zero, List.getElem?_cons_succ, Option.map_some]
          refine o_y (Y_fa 6 rfl Tryz.underlying34 rfl sz31 rfl) rfl rfl ?_
          refine o_y (yl_ one31) rfl rfl ?_
          refine o_y (Y_mv) rfl rfl ?_
          refine o_y (Y_ia rfl rfl Tryz.underlying31 sz98 rfl (by omega)) rfl rfl ?_
          refine o_y (Y_loadNR (vs := x.cells) rfl many98 hrr rfl) rfl rfl ?_
          refine o_y (Y_fa 6 rfl Tryz.underlying34 rfl sz31 rfl) rfl rfl ?_
          refine o_y (yl_ one31) rfl rfl ?_
          refine o_y (Y_mv) rfl rfl ?_
          refine o_y (Y_ia rfl rfl Tryz.underlying31 sz98 rfl (by omega)) rfl rfl ?_
          refine o_y (Y_loadNR (vs := y.cells) rfl many98 hrr2 rfl) rfl rfl ?_
          refine o_y (Y_neF (zs := x.nums) (zs' := y.nums) rfl rfl flat98 rfl rfl) rfl rfl ?_
          refine o_nil ?_
          refine q_then ?_
          first | refine c_cond' rfl (fun hc15 => ?_) (fun hc15 => ?_) | refine c_cond rfl (fun hc15 => ?_) (fun hc15 => ?_)
          · skip
            try simp only [nrm_] at hc15
            refine c_reg ?_
            refine s_y (Y_mv) rfl rfl ?_
            refine s_y (Y_mv) rfl rfl ?_
            refine s_y (Y_fa 6 rfl Tryz.underlying34 rfl sz31 rfl) rfl rfl ?_
            refine s_y (yl_ one31) rfl rfl ?_
            refine s_y (Y_mv) rfl rfl ?_
            refine s_y (Y_ia rfl rfl Tryz.underlying31 sz98 rfl (by omega)) rfl rfl ?_
            refine s_y (Y_loadNR (vs := x.cells) rfl many98 hrr rfl) rfl rfl ?_
            refine s_y (Y_build (cs := iv k :: x.cells) ((by repeat (first | exact Gp.nil | apply Gp.const | apply Gp.tmp gt_))) (bld166 _ _ (by kernel_rfl))) rfl rfl ?_
            refine s_y (Y_mkI rfl Tryz.underlying166 rfl) rfl rfl ?_
            refine s_n (N_bs (xs := [.tmp 104]) (vs := [(Chg.itm k x).v]) (by repeat (first | exact Gv.nil | apply Gv.const | apply Gv.tmp gt_)) rfl Tryz.underlying111 inf114 (by simp) (by simp) (by simp) (one_chg _)) rfl rfl (fun b105 _ => ?_)
            refine s_n (N_appR (bytes := 16) hE (perm_mid E [_, _, _] K0) rfl rfl Tryz.underlying111 inf114 rfl (by omega) (src (news := [(Chg.itm k x).v]) mm_) (by rfl) (one_chg _) (by omega) (by omega) (by omega)) rfl rfl (fun ⟨g106, cp106⟩ hc106 => ?_)
            refine s_y (Y_as) rfl rfl ?_
            refine s_nil ?_
            refine q_bn ?_
            refine q_then ?_
            refine c_reg ?_
            refine s_y ad_ rfl rfl ?_
            refine s_y (Y_mv) rfl rfl ?_
            refine s_nil ?_
            refine hK (m2 - 1) (k + 1, p ++ [Chg.itm k x], .slice (some ⟨g106, 0, none⟩) (p.length + 1) cp106, [⟨g106, 114, 1, cp106, (p ++ [Chg.itm k x]).map Chg.v⟩]) _ _ (by omega) ⟨by simp only; omega, by simp only; rw [itmR_yes hx hy hc15, List.map_append, hp]; simp [Chg.row], of_snoc (x := Chg.itm k x) hpo hx, by simp only; rw [List.length_append, List.length_singleton, List.map_append]; exact .some hc106 (by simp)⟩ ⟨rfl, rfl, trivial⟩ rfl (fun w h => ?_)
            simp only
            rw [List.map_append]
            exact h.pick2 (xs := [_, _, _]) (R' := K0) ss_ (List.sublist_cons_self _ _)
          · skip
            try simp only [nrm_] at hc15
            refine c_skip ?_
            refine q_bn ?_
            refine q_then ?_
            refine c_reg ?_
            refine s_y ad_ rfl rfl ?_
            refine s_y (Y_mv) rfl rfl ?_
            refine s_nil ?_
            refine hK (m2 - 1) (k + 1, p, x6, E) _ _ (by omega) ⟨by simp only; omega, by simp only; rw [itmR_no hx hy hc15]; exact hp, hpo, hE⟩ ⟨rfl, rfl, trivial⟩ rfl (fun w h => h)
        · skip
          try simp only [nrm_] at hc13
          refine c_exit ?_
          repeat with_reducible refine q_te ?_
          refine q_exit ?_
          refine q_then ?_
          refine c_seq ?_
          obtain rfl : k = 40 := by omega
          refine c_reg ?_
          refine s_y (Y_mv) rfl rfl ?_
          refine s_y (Y_as) rfl rfl ?_
          refine s_nil ?_
          refine QL.conv (L' := E ++ K0) (fun w h => h.sub (List.Sublist.cons _ (List.Sublist.cons _ (List.Sublist.refl _)))) ?_
          refine q_then ?_
          refine c_ret ?_
          refine q_retG1 rfl gt_ (L' := _) sl_ (⟨p, K0, E, hp, hpo, hE, rfl⟩)
    · intro go
      refine c_seq ?_
      simp only at hl ho hB ⊢
      have hll : l.length = (headR d1 d2).length := by rw [← hl, List.length_map]
      refine c_reg ?_
      refine s_y (Y_fa 4 rfl Tryz.underlying34 rfl sz24 rfl) rfl rfl ?_
      refine s_y (yl_ one24) rfl rfl ?_
      refine s_y (Y_fa 4 rfl Tryz.underlying34 rfl sz24 rfl) rfl rfl ?_
      refine s_y (yl_ one24) rfl rfl ?_
      refine s_c (En_call (fun _ => rfl) Tryz.func108 rfl (by kernel_rfl) rfl) (fun w hH => bequal_d (hb1.has (by simp) hH) (hb2.has (by simp) hH)) rfl rfl ?_
      rintro _ _ ⟨rfl, rfl⟩
      refine s_y (Y_not rfl) rfl rfl ?_
      refine s_nil ?_
      refine q_then ?_
      first | refine c_cond' rfl (fun hc4 => ?_) (fun hc4 => ?_) | refine c_cond rfl (fun hc4 => ?_) (fun hc4 => ?_)
      · skip
        try simp only [nrm_] at hc4
        refine c_reg ?_
        refine s_y (Y_mv) rfl rfl ?_
        refine s_y (Y_fa 4 rfl Tryz.underlying34 rfl sz24 rfl) rfl rfl ?_
        refine s_y (yl_ one24) rfl rfl ?_
        refine s_c (En_call (fun _ => rfl) Tryz.func109 rfl (by kernel_rfl) rfl) (fun w hH => bclone_d (h1.has hH).c (by omega)) rfl rfl ?_
        rintro _ _ ⟨cg, ccap, hcc, rfl, rfl⟩
        refine s_y (Y_build (cs := [.slice (some ⟨cg, 0, none⟩) 384 ccap]) ((by repeat (first | exact Gp.nil | apply Gp.const | apply Gp.tmp gt_))) (bld162 _ _ (by kernel_rfl))) rfl rfl ?_
        refine s_y (Y_mkI rfl Tryz.underlying162 rfl) rfl rfl ?_
        refine s_n (N_bs (xs := [.tmp 39]) (vs := [(Chg.cells cg ccap).v]) (by repeat (first | exact Gv.nil | apply Gv.const | apply Gv.tmp gt_)) rfl Tryz.underlying111 inf114 (by simp) (by simp) (by simp) (one_chg _)) rfl rfl (fun b40 _ => ?_)
        refine s_n (N_appR (bytes := 16) hB (List.perm_append_comm (l₁ := B) (l₂ := [_, _, _, _])) rfl rfl Tryz.underlying111 inf114 rfl (by omega) (src (news := [(Chg.cells cg ccap).v]) mm_) (by rfl) (one_chg _) (by omega) (by omega) (by omega)) rfl rfl (fun ⟨g41, cp41⟩ hc41 => ?_)
        refine s_y (Y_as) rfl rfl ?_
        refine s_nil ?_
        refine go (l ++ [Chg.cells cg ccap], _, [⟨g41, 114, 1, cp41, (l ++ [Chg.cells cg ccap]).map Chg.v⟩], [cB cg ccap d1.cells]) _ _ ⟨by simp only; rw [List.map_append, hl]; unfold cellR; rw [if_neg (by simpa using hc4)]; rfl, of_snoc (x := Chg.cells cg ccap) (fun y hy => (ho y hy).mono) ⟨mm_, hcc⟩, by simp only; rw [List.length_append, List.length_singleton, List.map_append]; exact .some hc41 (by simp)⟩ ⟨rfl, trivial⟩ rfl (fun w h => ?_)
        simp only
        rw [List.map_append]
        exact h.pick ss_
      · skip
        try simp only [nrm_] at hc4
        refine c_skip ?_
        refine go (l, v, B, []) _ _ ⟨by simp only; rw [hl]; unfold cellR; rw [if_pos (by simpa using hc4), List.append_nil], ho, hB⟩ ⟨rfl, trivial⟩ rfl (fun w h => ?_)
        simp only
        rw [List.append_nil]
        exact h
  · intro go
    refine c_seq ?_
    refine c_reg ?_
    refine s_y (Y_loadAll (cs := wL d1 s1) rfl many34 mm_ rfl) rfl rfl ?_
    refine s_y (Y_loadAll (cs := wL d2 s2) rfl many34 mm_ rfl) rfl rfl ?_
    refine s_c (En_call (fun _ => rfl) Tryz.func107 rfl (by kernel_rfl) rfl) (fun w hH => sameHead_d) rfl rfl ?_
    rintro _ _ ⟨rfl, rfl⟩
    refine s_y (Y_not rfl) rfl rfl ?_
    refine s_nil ?_
    refine q_then ?_
    first | refine c_cond' rfl (fun hc2 => ?_) (fun hc2 => ?_) | refine c_cond rfl (fun hc2 => ?_) (fun hc2 => ?_)
    · skip
      try simp only [nrm_] at hc2
      refine c_reg ?_
      refine s_y (Y_mv) rfl rfl ?_
      refine s_y (Y_fa 0 rfl Tryz.underlying34 rfl sz2 rfl) rfl rfl ?_
      refine s_y (yl_ one2) rfl rfl ?_
      refine s_y (Y_fa 1 rfl Tryz.underlying34 rfl sz3 rfl) rfl rfl ?_
      refine s_y (yl_ one3) rfl rfl ?_
      refine s_y (Y_fa 2 rfl Tryz.underlying34 rfl sz3 rfl) rfl rfl ?_
      refine s_y (yl_ one3) rfl rfl ?_
      refine s_y (Y_fa 3 rfl Tryz.underlying34 rfl sz3 rfl) rfl rfl ?_
      refine s_y (yl_ one3) rfl rfl ?_
      refine s_y (Y_fa 7 rfl Tryz.underlying34 rfl sz32 rfl) rfl rfl ?_
      refine s_y (Y_loadN (vs := [iv d1.gold.a, iv d1.gold.b, iv d1.gold.c, iv d1.gold.d]) rfl many32 mm_ (by rfl) gold_subL) rfl rfl ?_
      refine s_y (Y_build (cs := headC d1) ((by repeat (first | exact Gp.nil | apply Gp.const | apply Gp.tmp gt_))) (bld34 _ _ (by kernel_rfl))) rfl rfl ?_
      refine s_y (Y_build (cs := headC d1) ((by repeat (first | exact Gp.nil | apply Gp.const | apply Gp.tmp gt_))) (bld159 _ _ (by kernel_rfl))) rfl rfl ?_
      refine s_y (Y_mkI rfl Tryz.underlying159 rfl) rfl rfl ?_
      refine s_n (N_bs (xs := [.tmp 25]) (vs := [(Chg.head d1).v]) (by repeat (first | exact Gv.nil | apply Gv.const | apply Gv.tmp gt_)) rfl Tryz.underlying111 inf114 (by simp) (by simp) (by simp) (one_chg _)) rfl rfl (fun b26 _ => ?_)
      refine s_n (N_appR (bytes := 16) Row.nil (List.Perm.refl _) rfl rfl Tryz.underlying111 inf114 rfl (by omega) (src (news := [(Chg.head d1).v]) mm_) (by rfl) (one_chg _) (by omega) (by omega) (by omega)) rfl rfl (fun ⟨g27, cp27⟩ hc27 => ?_)
      refine s_y (Y_as) rfl rfl ?_
      refine s_nil ?_
      exact go ([.head d1], _, [⟨g27, 114, 1, cp27, [(Chg.head d1).v]⟩]) _ _ ⟨by unfold headR; rw [if_neg (by simpa using hc2)]; rfl, fun x hx => by obtain rfl := List.mem_singleton.1 hx; rfl, .some hc27 rfl⟩ ⟨rfl, trivial⟩ rfl (fun w h => h.pick ss_)
    · skip
      try simp only [nrm_] at hc2
      refine c_skip ?_
      exact go ([], _, []) _ _ ⟨by unfold headR; rw [if_pos (by simpa using hc2)]; rfl, fun x hx => by simp at hx, .nil⟩ ⟨rfl, trivial⟩ rfl (fun w h => h.pick ss_)
end
end Go.Proofs.YtcogbkkdccohfaaGreat
namespace Go.Ad
open Go.RowKit Go.Maps Go.Proofs.YtcogbkkdccohfaaGreat
end Go.Ad
namespace Go.Proofs.YtcogbkkdccohfaaGreat
open Go.RowKit Go.Ad Go.Maps
set_option linter.unusedVariables false
set_option linter.unusedSimpArgs false
end Go.Proofs.YtcogbkkdccohfaaGreat
namespace Go.Ad
open Go.RowKit Go.Maps Go.Proofs.YtcogbkkdccohfaaGreat
end Go.Ad
namespace Go.Proofs.YtcogbkkdccohfaaGreat
open Go.RowKit Go.Ad Go.Maps
set_option linter.unusedVariables false
set_option linter.unusedSimpArgs false
theorem EncP.open {d : Wd} {v : Value} {L : List Bk} (h : EncP d v L) : ∃ a n c, v = .tuple #[.slice a n c, iv (checkM d)] ∧ ∀ {W w : World} {M : List Nat} {L' : List Bk}, Has W M L' w → (∀ x ∈ L, x ∈ L') → BytesAt w a n (if checkM d = 0 then encW d else []) := by
  rcases h with ⟨h1, rfl, rfl⟩ | ⟨h1, g, cap, rfl, rfl, h2⟩
  · refine ⟨none, 0, 0, rfl, fun hH _ => ?_⟩
    rw [if_neg h1]
    exact ⟨rfl, .inl rfl⟩
  · refine ⟨_, _, cap, by rw [h1], fun hH hL => ?_⟩
    rw [if_pos h1]
    exact bytesL (hL _ (List.Mem.head _)) hH
section
variable {W : World}
set_option maxRecDepth 100000 in
theorem known_d (hnew : checkM (newM 1) = 0) (hit : ∀ x ∈ (newM 1).items, Itm.ok x) (hde : decM (encW (newM 1)) = newM 1) (hlen : (encW (newM 1)).length = 918) : Does Tryz.prog 15 [] W [] (fun v L => v = .bool true ∧ L = []) := by
  obtain ⟨d, hd⟩ : ∃ q, newM 1 = q := ⟨_, rfl⟩
  rw [hd] at hnew hit hde hlen
  refine enter Tryz.func15 rfl rfl rfl (Has.start _) ?_
  refine c_seq ?_
  refine c_reg ?_
  refine s_y (Y_asC) rfl rfl ?_
  refine s_nil ?_
  refine q_then ?_
  refine c_seq ?_
  refine c_reg ?_
  refine s_c (En_call (fun _ => rfl) Tryz.func45 rfl (by kernel_rfl) rfl) (fun w hH => rnew_d) rfl rfl ?_
  rintro _ _ ⟨cb, cc, eb, ec, ib, ic, rfl, rfl, l1, l2, l3⟩
  rw [hd] at l1 l2 l3 ⊢
  refine s_n (N_alloc (z := .agg #[.int .i64 0, .int .i64 0, .int .i64 0, .int .i64 0, .slice none 0 0, .slice none 0 0, .slice none 0 0, .int .i64 0, .int .i64 0, .int .i64 0, .int .i64 0]) (cs := [.int .i64 0, .int .i64 0, .int .i64 0, .int .i64 0, .slice none 0 0, .slice none 0 0, .slice none 0 0, .int .i64 0, .int .i64 0, .int .i64 0, .int .i64 0]) zv34 rfl) rfl rfl (fun b1 _ => ?_)
  refine s_s (S_storeA (vs := wv d ⟨cb, 0, cc, eb, 0, ec, ib, 0, ic⟩) rfl rfl sz34 (by rfl) (by rfl) up_ (by rfl)) rfl ?_
  refine s_nil ?_
  refine q_then ?_
  refine c_seq ?_
  refine c_reg ?_
  refine s_y (ya_ many34) rfl rfl ?_
  refine s_c (En_call (fun _ => rfl) Tryz.func22 rfl (by kernel_rfl) rfl) (fun w hH => penc_d (wAt_of hH mm_ mm_ mm_ l1 l2 l3) hit) rfl rfl ?_
  rintro _ _ hE
  rcases hE with ⟨h, _⟩ | ⟨_, g, cap, rfl, rfl, hcap⟩
  · exact absurd hnew h
  refine s_y (Y_mv) rfl rfl ?_
  refine s_y (Y_extract rfl rfl) rfl rfl ?_
  refine s_y (Y_extract rfl rfl) rfl rfl ?_
  refine s_y (Y_as) rfl rfl ?_
  refine s_y (Y_as) rfl rfl ?_
  refine s_nil ?_
  refine q_then ?_
  refine c_seq ?_
  refine c_reg ?_
  refine s_y (Y_mv) rfl rfl ?_
  refine s_c (En_call (fun _ => rfl) Tryz.func19 rfl (by kernel_rfl) rfl) (fun w hH => pdec_d ((hH.at' (x := cB g cap (encW d)) mm_).sl (by rw [List.length_map, Nat.mul_one]) hcap) (by omega)) rfl rfl ?_
  rintro _ _ hD
  rcases hD with ⟨e, he, _, _, h⟩ | ⟨_, _, cb2, cc2, eb2, ec2, ib2, ic2, rfl, rfl, m1, m2, m3⟩
  · rw [if_neg (by omega), if_neg (by omega), hde, hnew] at h
    exact absurd h he
  rw [hde] at m1 m2 m3 ⊢
  refine QL.sub (L' := cB cb2 cc2 d.cells :: eB eb2 ec2 d.ents :: iB ib2 ic2 d.items :: _) (List.Sublist.refl _) ?_
  refine s_y (Y_mv) rfl rfl ?_
  refine s_y (Y_extract rfl rfl) rfl rfl ?_
  refine s_y (Y_extract rfl rfl) rfl rfl ?_
  refine s_n (N_alloc (z := .agg #[.int .i64 0, .int .i64 0, .int .i64 0, .int .i64 0, .slice none 0 0, .slice none 0 0, .slice none 0 0, .int .i64 0, .int .i64 0, .int .i64 0, .int .i64 0]) (cs := [.int .i64 0, .int .i64 0, .int .i64 0, .int .i64 0, .slice none 0 0, .slice none 0 0, .slice none 0 0, .int .i64 0, .int .i64 0, .int .i64 0, .int .i64 0]) zv34 rfl) rfl rfl (fun b4 _ => ?_)
  refine s_s (S_storeA (vs := wv d ⟨cb2, 0, cc2, eb2, 0, ec2, ib2, 0, ic2⟩) rfl rfl sz34 (by rfl) (by rfl) up_ (by rfl)) rfl ?_
  refine s_y (Y_as) rfl rfl ?_
  refine s_nil ?_
  refine q_then ?_
  refine c_seq ?_
  refine c_reg ?_
  refine s_y (Y_mv) rfl rfl ?_
  refine s_y (Y_eql rfl rfl) rfl rfl ?_
  refine s_y (Y_mv) rfl rfl ?_
  apply s_and 4 [19, 20, 21, 22, 23] 23 (g := 19) rfl rfl
  · intro ht3 hm
    try simp only [nrm_] at ht3
    first | refine s_y (Y_mv) rfl rfl ?_ | refine s_pass rfl rfl ?_
    first | refine s_y (Y_len rfl rfl Tryz.underlying24) rfl rfl ?_ | refine s_pass rfl rfl ?_
    first | refine s_y (Y_eql rfl rfl) rfl rfl ?_ | refine s_pass rfl rfl ?_
    refine s_y (Y_pk rfl (Gx.tmp gt_) Gx.const) rfl rfl ?_
    first | exact hm _ ⟨rfl, trivial⟩ rfl | exact QL.sub sl_ (hm _ ⟨rfl, trivial⟩ rfl)
  · intro ht3 hm
    iterate 3 refine s_pass rfl rfl ?_
    refine s_y (Y_pk rfl (Gx.tmp gt_) Gx.const) rfl rfl ?_
    exact hm _ ⟨rfl, trivial⟩ rfl
  intro j23
  refine s_y (Y_mv) rfl rfl ?_
  apply s_and 3 [24, 25, 26, 27] 27 (g := 24) rfl rfl
  · intro ht8 hm
    try simp only [nrm_] at ht8
    first | refine s_y (Y_mv) rfl rfl ?_ | refine s_pass rfl rfl ?_
    first | refine s_y (Y_eql rfl rfl) rfl rfl ?_ | refine s_pass rfl rfl ?_
    refine s_y (Y_pk rfl (Gx.tmp gt_) Gx.const) rfl rfl ?_
    first | exact hm _ ⟨rfl, trivial⟩ rfl | exact QL.sub sl_ (hm _ ⟨rfl, trivial⟩ rfl)
  · intro ht8 hm
    iterate 2 refine s_pass rfl rfl ?_
    refine s_y (Y_pk rfl (Gx.tmp gt_) Gx.const) rfl rfl ?_
    exact hm _ ⟨rfl, trivial⟩ rfl
  intro j27
  refine s_y (Y_mv) rfl rfl ?_
  apply s_and 4 [28, 29, 30, 31, 32] 32 (g := 28) rfl rfl
  · intro ht12 hm
    try simp only [nrm_] at ht12
    first | refine s_y (Y_loadAll rfl many34 mm_ (by rfl)) rfl rfl ?_ | refine s_pass rfl rfl ?_
    first | refine s_y (Y_loadAll rfl many34 mm_ (by rfl)) rfl rfl ?_ | refine s_pass rfl rfl ?_
    refine s_c (En_call (fun _ => rfl) Tryz.func21 rfl (by kernel_rfl) rfl) (fun w hH => lsame_d (wAt_of hH (d := d) (cb := cb2) (cc := cc2) (eb := eb2) (ec := ec2) (ib := ib2) (ic := ic2) mm_ mm_ mm_ m1 m2 m3).v (wAt_of hH (d := d) (cb := cb) (cc := cc) (eb := eb) (ec := ec) (ib := ib) (ic := ic) mm_ mm_ mm_ l1 l2 l3).v) rfl rfl ?_
    rintro _ _ ⟨⟨q, rfl, hq⟩, rfl⟩
    obtain rfl : q = true := hq.2 rfl
    refine s_y (Y_pk rfl (Gx.tmp gt_) Gx.const) rfl rfl ?_
    first | exact hm _ ⟨rfl, trivial⟩ rfl | exact QL.sub sl_ (hm _ ⟨rfl, trivial⟩ rfl)
  · intro ht12 hm
    iterate 3 refine s_pass rfl rfl ?_
    refine s_y (Y_pk rfl (Gx.tmp gt_) Gx.const) rfl rfl ?_
    exact hm _ ⟨rfl, trivial⟩ rfl
  intro j32
  refine s_y (Y_mv) rfl rfl ?_
  refine s_y (Y_pk rfl Gx.const Gx.const) rfl rfl ?_
  refine s_y (Y_as) rfl rfl ?_
  refine s_nil ?_
  refine q_then ?_
  refine c_ret ?_
  refine q_retG1 rfl gt_ (L' := _) sl_ (⟨by rw [hlen]; rfl, rfl⟩)
theorem Does.law {f : FuncId} {args : List Value} (h : Does Tryz.prog f args W [] (fun v L => v = .bool true ∧ L = [])) : Calls Tryz.prog f args.toArray W fun e w' => e = .returned (.bool true) ∧ Ex [] W w' :=
  Calls.mono h fun _ _ ⟨v, L, h1, h2, h3, _⟩ => ⟨by rw [h1, h3], h2.ex⟩
end
end Go.Proofs.YtcogbkkdccohfaaGreat
namespace Go.Ad
open Go.RowKit Go.Maps Go.Proofs.YtcogbkkdccohfaaGreat
def zW : Wd := ⟨0, 0, 0, 0, [], [], [], ⟨0, 0, 0, 0⟩⟩
def decE (bs : List UInt8) : Int := if bs.length < 918 then 7 else if 918 < bs.length then 8 else checkM (decM bs)
def decD (bs : List UInt8) : Wd := if decE bs = 0 then decM bs else zW
theorem Has.pre {W w : World} {M : List Nat} {R : List Bk} {b t k cap : Nat} {c c' : List Value} (h : Has W M (⟨b, t, k, cap, c⟩ :: R) w) (hp : c' <+: c) : Has W M (⟨b, t, k, cap, c'⟩ :: R) w := by
  refine ⟨h.ex, fun y hy => ?_, h.nd⟩
  rcases List.mem_cons.1 hy with rfl | hy
  · obtain ⟨⟨cur, h1, h2, h3, h4⟩, h5⟩ := h.bk ⟨b, t, k, cap, c⟩ (List.Mem.head _)
    exact ⟨⟨cur, h1, h2, h3, hp.trans h4⟩, h5⟩
  · exact h.bk y (List.Mem.tail _ hy)
end Go.Ad
namespace Go.Proofs.YtcogbkkdccohfaaGreat
open Go.RowKit Go.Ad Go.Maps
set_option linter.unusedVariables false
set_option linter.unusedSimpArgs false
theorem DecP.open {bs : List UInt8} {v : Value} {L : List Bk} (h : DecP bs v L) : ∃ c e i, v = .tuple #[.agg (wcV (decD bs) c e i).toArray, iv (decE bs)] ∧ (wcV (decD bs) c e i).all (·.oneCell') = true ∧ (∀ {W w : World} {M : List Nat} {L' : List Bk}, Has W M L' w → (∀ x ∈ L, x ∈ L') → WAtV w (decD bs) c e i) ∧
    (decE bs = 0 → ∃ s, wcV (decD bs) c e i = wv (decM bs) s ∧ ∀ {W w : World} {M : List Nat} {L' : List Bk}, Has W M L' w → (∀ x ∈ L, x ∈ L') → WAt w (decM bs) s) := by
  rcases h with ⟨e, he, rfl, rfl, h4⟩ | ⟨hl, hc, cb, cc, eb, ec, ib, ic, rfl, rfl, l1, l2, l3⟩
  · have hE : decE bs = e := h4.symm
    have hD : decD bs = zW := by unfold decD; rw [if_neg (by rw [hE]; exact he)]
    rw [hE, hD]
    exact ⟨.slice none 0 0, .slice none 0 0, .slice none 0 0, rfl, rfl, fun _ _ => ⟨.nil, .nil, .nil⟩, fun h => absurd h he⟩
  · have hE : decE bs = 0 := by unfold decE; rw [if_neg (by omega), if_neg (by omega)]; exact hc
    have hD : decD bs = decM bs := by unfold decD; rw [if_pos hE]
    rw [hE, hD]
    have hw : ∀ {W w : World} {M : List Nat} {L' : List Bk}, Has W M L' w → (∀ x ∈ [cB cb cc (decM bs).cells, eB eb ec (decM bs).ents, iB ib ic (decM bs).items], x ∈ L') → WAt w (decM bs) ⟨cb, 0, cc, eb, 0, ec, ib, 0, ic⟩ := fun hH hs => wAt_of hH (hs _ mm_) (hs _ mm_) (hs _ mm_) l1 l2 l3
    exact ⟨_, _, _, rfl, rfl, fun hH hs => (hw hH hs).v, fun _ => ⟨⟨cb, 0, cc, eb, 0, ec, ib, 0, ic⟩, rfl, fun hH hs => hw hH hs⟩⟩
section
variable {W : World}
theorem known11_d : Does Tryz.prog 15 [] W [] (fun v L => v = .bool true ∧ L = []) := known_d (new_ok 1) (ok_of_check (new_ok 1)) (dec_enc (new_ok 1) (by rw [new_seed]; decide)) (enc_len (new_ok 1))
end
end Go.Proofs.YtcogbkkdccohfaaGreat
namespace Go.Proofs.YtcogbkkdccohfaaGreat
open Go.RowKit Go.Ad Go.Maps
set_option linter.unusedVariables false
set_option linter.unusedSimpArgs false
theorem own_wlv {p : Wd × Ws} {B : List Bk} (h : Own p B) (hz : p.1.cells.length = 384 ∧ p.1.ents.length = 32 ∧ p.1.items.length = 40) {W0 w : World} {M : List Nat} {L : List Bk} (hH : Has W0 M L w) (hs : ∀ x ∈ B, x ∈ L) : WAtV w p.1 (.slice (some ⟨p.2.cb, p.2.co, none⟩) 384 p.2.cc) (.slice (some ⟨p.2.eb, p.2.eo, none⟩) 32 p.2.ec) (.slice (some ⟨p.2.ib, p.2.io, none⟩) 40 p.2.ic) := by
  have k := h.wl hz hH hs
  obtain ⟨h1, h2, h3⟩ := hz
  exact ⟨by rw [h1]; exact .some k.c, by rw [h2]; exact .some k.e, by rw [h3]; exact .some k.i⟩
section
variable {W : World}
set_option maxRecDepth 100000 in
set_option maxHeartbeats 1600000 in
theorem snapRowsP_d {d1 d2 : Wd} {s1 s2 : Ws} (h1 : WL W d1 s1) (h2 : WL W d2 s2) : Does Tryz.prog 23 [.agg (wL d1 s1).toArray, .agg (wL d2 s2).toArray] W [] (RowsP (rowsM d1 d2)) := by
  have l1 := headR_len d1 d2
  have l2 := cellR_len d1 d2
  have l3 := entR_len d1 d2 32
  have l4 := itmR_len d1 d2 40
  refine enter Tryz.func23 rfl rfl rfl (Has.start _) ?_
  refine c_seq ?_
  refine c_reg ?_
  refine s_n (N_box (cs := wL d1 s1) rfl) rfl rfl (fun b2 _ => ?_)
  refine s_n (N_box (cs := wL d2 s2) rfl) rfl rfl (fun b3 _ => ?_)
  refine s_y (Y_asC) rfl rfl ?_
  refine s_nil ?_
  refine q_then ?_
  refine c_seq ?_
  refine c_reg ?_
  refine s_y (Y_asC) rfl rfl ?_
  refine s_nil ?_
  refine q_then ?_
  refine c_seq ?_
  refine c_seq ?_
  refine c_reg ?_
  refine s_y (Y_loadAll (cs := wL d1 s1) rfl many34 mm_ rfl) rfl rfl ?_
  refine s_y (Y_loadAll (cs := wL d2 s2) rfl many34 mm_ rfl) rfl rfl ?_
  refine s_c (En_call (fun _ => rfl) Tryz.func64 rfl (by kernel_rfl) rfl) (fun w hH => changed_d (h1.has hH) (h2.has hH)) rfl rfl ?_
  rintro _ _ ⟨q, K0, B, hq, hqo, hB, rfl⟩
  have hql : q.length ≤ 74 := by
    have := congrArg List.length hq
    unfold rowsM at this
    rw [List.length_map, List.length_append, List.length_append, List.length_append] at this
    omega
  refine QL.conv (L' := B) (fun w h => h.sub (by simp)) ?_
  refine s_y (Y_lenR hB rfl rfl Tryz.underlying111) rfl rfl ?_
  refine s_y (Y_mvC) rfl rfl ?_
  refine s_nil ?_
  refine q_then ?_
  refine c_block ?_
  refine c_loop [5, 7, 12, 13, 14, 15, 16, 17, 18, 19, 20, 21] (fun m (y : Nat × Value × List Bk) => y.1 + m = q.length ∧ Row 116 2 y.2.1 y.1 (rcs ((q.take y.1).map Chg.row)) y.2.2) (fun y => [(12, iv y.1), (5, y.2.1)]) (fun y => y.2.2 ++ B) (q.length) ((0, .slice none 0 0, [])) (⟨by simp only; omega, .nil⟩) (by repeat (first | exact trivial | refine ⟨rfl, ?_⟩)) (fun _ h => h.sub sl_) (fun _ => rfl) ?_
  rintro m ⟨i, u, C⟩ j ⟨hi, hC⟩ K hK
  simp only at hi hC ⊢
  refine c_seq ?_
  refine c_reg ?_
  refine s_y (Y_lss rfl rfl) rfl rfl ?_
  refine s_nil ?_
  refine q_then ?_
  refine c_seq ?_
  first | refine c_cond' rfl (fun hc3 => ?_) (fun hc3 => ?_) | refine c_cond rfl (fun hc3 => ?_) (fun hc3 => ?_)
  · skip
    try simp only [nrm_] at hc3
    refine c_skip ?_
    refine q_then ?_
    refine c_seq ?_
    refine c_block ?_
    refine c_seq ?_
    obtain ⟨x, hx⟩ := take_lt (show i < q.length by omega)
    obtain ⟨g, cap, rfl, rfl, hcap⟩ := hB.some_of (by omega)
    refine c_reg ?_
    refine s_y (Y_ia (n := i) rfl rfl Tryz.underlying111 sz114 (by omega) (by omega)) rfl rfl ?_
    refine s_y (Y_load (v := x.v) rfl one114 mm_ (by rw [Nat.zero_add, Nat.mul_one, List.getElem?_map, hx]; rfl)) rfl rfl ?_
    refine s_y (Y_as) rfl rfl ?_
    refine s_nil ?_
    refine q_then ?_
    refine c_reg ?_
    refine s_y (Y_mv) rfl rfl ?_
    refine s_y (Y_mv) rfl rfl ?_
    refine s_c (En_inv (u := x.t) (rv := .agg x.c.toArray) rfl rfl (Chg.inv x)) (fun w hH => told_d x) rfl rfl ?_
    rintro _ _ ⟨rfl, rfl⟩
    refine s_n (N_bsA gt_ Tryz.underlying45 inf116 rfl rfl (by omega) (by omega)) rfl rfl (fun b19 _ => ?_)
    refine s_n (N_appR (bytes := 16) hC (perm_mid C [_] _) rfl rfl Tryz.underlying45 inf116 rfl (by omega) (src (news := rC x.row) mm_) (by rfl) (one_rc _) (by omega) (by omega) (by omega)) rfl rfl (fun ⟨g20, cp20⟩ hc20 => ?_)
    refine s_y (Y_as) rfl rfl ?_
    refine s_nil ?_
    refine q_bn ?_
    refine q_then ?_
    refine c_reg ?_
    refine s_y ad_ rfl rfl ?_
    refine s_y (Y_mv) rfl rfl ?_
    refine s_nil ?_
    refine hK (m - 1) (i + 1, .slice (some ⟨g20, 0, none⟩) (i + 1) cp20, [⟨g20, 116, 2, cp20, rcs ((q.take (i + 1)).map Chg.row)⟩]) _ _ (by omega) ⟨by simp only; omega, by simp only; refine .some hc20 ?_; rw [rcs_len, List.length_map, List.length_take]; omega⟩ ⟨rfl, rfl, trivial⟩ rfl (fun w h => ?_)
    simp only
    rw [show q.take (i + 1) = q.take i ++ [x] from by obtain ⟨k1, rfl⟩ := List.getElem?_eq_some_iff.1 hx; exact (List.take_append_getElem k1).symm, List.map_append, List.map_singleton, ← rcs_snoc]
    exact h.pick ss_
  · skip
    try simp only [nrm_] at hc3
    refine c_exit ?_
    repeat with_reducible refine q_te ?_
    refine q_exit ?_
    refine q_then ?_
    refine c_seq ?_
    obtain rfl : i = q.length := by omega
    refine c_reg ?_
    refine s_y (Y_mv) rfl rfl ?_
    refine s_y (Y_as) rfl rfl ?_
    refine s_nil ?_
    refine QL.conv (L' := C) (fun w h => h.sub (List.sublist_append_left _ _)) ?_
    refine q_then ?_
    refine c_ret ?_
    refine q_retG1 rfl gt_ (L' := _) sl_ (by unfold RowsP; rw [← hq, List.length_map]; rw [List.take_length] at hC; exact hC)
set_option maxRecDepth 100000 in
theorem sameRows_d {v1 v2 : Value} {l1 l2 : List (Int × Int)} (h1 : SlV W 2 v1 l1.length (rcs l1)) (h2 : SlV W 2 v2 l2.length (rcs l2)) : Does Tryz.prog 24 [v1, v2] W [] (fun v L => v = .bool (decide (l1 = l2)) ∧ L = []) := by
  have hle1 := h1.le
  have hle2 := h2.le
  simp only [maxLen] at hle1 hle2
  refine enter Tryz.func24 rfl rfl rfl (Has.start _) ?_
  refine c_seq ?_
  refine c_reg ?_
  refine s_y (Y_asC) rfl rfl ?_
  refine s_nil ?_
  refine q_then ?_
  refine c_seq ?_
  refine c_seq ?_
  refine c_reg ?_
  refine s_y (Y_mv) rfl rfl ?_
  refine s_y (Y_lenV h1 rfl rfl Tryz.underlying45) rfl rfl ?_
  refine s_y (Y_mv) rfl rfl ?_
  refine s_y (Y_lenV h2 rfl rfl Tryz.underlying45) rfl rfl ?_
  refine s_y (Y_neq rfl rfl) rfl rfl ?_
  refine s_nil ?_
  refine q_then ?_
  first | refine c_cond' rfl (fun hc1 => ?_) (fun hc1 => ?_) | refine c_cond rfl (fun hc1 => ?_) (fun hc1 => ?_)
  · skip
    try simp only [nrm_] at hc1
    refine c_seq ?_
    refine c_reg ?_
    refine s_y (Y_asC) rfl rfl ?_
    refine s_nil ?_
    refine q_then ?_
    refine c_ret ?_
    refine q_retG1 rfl gt_ (L' := _) sl_ (⟨by rw [decide_eq_false]; intro e; subst e; exact hc1 rfl, rfl⟩)
  · skip
    try simp only [nrm_] at hc1
    refine c_skip ?_
    refine q_then ?_
    refine c_seq ?_
    refine c_seq ?_
    refine c_reg ?_
    refine s_y (Y_asC) rfl rfl ?_
    refine s_nil ?_
    refine q_then ?_
    refine c_block ?_
    refine c_loop [4, 5, 11, 12, 13, 14, 15, 16, 17, 18, 19, 20, 21, 22, 23, 24, 25] (fun m i => i + m = l1.length ∧ l1.take i = l2.take i) (fun i => [(5, iv i)]) (fun _ => []) (l1.length) (0) (⟨by omega, by simp⟩) (by repeat (first | exact trivial | refine ⟨rfl, ?_⟩)) (fun _ h => h.sub sl_) (fun _ => rfl) ?_
    rintro m i j ⟨hi, ht⟩ K hK
    refine c_seq ?_
    refine c_seq ?_
    refine c_reg ?_
    refine s_y (Y_mv) rfl rfl ?_
    refine s_y (Y_mv) rfl rfl ?_
    refine s_y (Y_lenV h1 rfl rfl Tryz.underlying45) rfl rfl ?_
    refine s_y (Y_lss rfl rfl) rfl rfl ?_
    refine s_nil ?_
    refine q_then ?_
    first | refine c_cond' rfl (fun hc4 => ?_) (fun hc4 => ?_) | refine c_cond rfl (fun hc4 => ?_) (fun hc4 => ?_)
    · skip
      try simp only [nrm_] at hc4
      refine c_skip ?_
      refine q_then ?_
      refine c_seq ?_
      refine c_block ?_
      refine c_seq ?_
      obtain ⟨x, hx⟩ := take_lt (show i < l1.length by omega)
      obtain ⟨y, hy⟩ := take_lt (show i < l2.length by omega)
      obtain ⟨p1, q1, r1, hev1, hse1⟩ := h1.some_of (by omega)
      obtain ⟨p2, q2, r2, hev2, hse2⟩ := h2.some_of (by omega)
      have hr : Ro W p1 (q1 + i * 2) (rC x) := SlB.at' (f := rC) (fun _ => rfl) hse1 hx
      have hr2 : Ro W p2 (q2 + i * 2) (rC y) := SlB.at' (f := rC) (fun _ => rfl) hse2 hy
      rw [hev1, hev2]
      refine c_rord [] [(0, true), (1, true), (2, true), (3, true), (4, true), (5, true), (6, true), (7, true), (8, true)] (by kernel_rfl) (by kernel_rfl) (by kernel_rfl) (by kernel_rfl) rfl (by intro c a d v w h; cases d <;> exact h) rfl ?_
      simp only [mkOrd, List.filterMap_cons, List.filterMap_nil, List.getElem?_toArray, List.getElem?_cons_zero, List.getElem?_cons_succ, Option.map_some]
      refine o_y (Y_mv) rfl rfl ?_
      refine o_y (Y_mv) rfl rfl ?_
      refine o_y (Y_ia rfl rfl Tryz.underlying45 sz116 rfl (by omega)) rfl rfl ?_
      refine o_y (Y_loadNR (vs := rC x) rfl many116 hr rfl) rfl rfl ?_
      refine o_y (Y_mv) rfl rfl ?_
      refine o_y (Y_mv) rfl rfl ?_
      refine o_y (Y_ia rfl rfl Tryz.underlying45 sz116 rfl (by omega)) rfl rfl ?_
      refine o_y (Y_loadNR (vs := rC y) rfl many116 hr2 rfl) rfl rfl ?_
      refine o_y (Y_neF (zs := [x.1, x.2]) (zs' := [y.1, y.2]) rfl rfl flat116 rfl rfl) rfl rfl ?_
      refine o_nil ?_
      refine q_then ?_
      first | refine c_cond' rfl (fun hc6 => ?_) (fun hc6 => ?_) | refine c_cond rfl (fun hc6 => ?_) (fun hc6 => ?_)
      · skip
        try simp only [nrm_] at hc6
        refine c_seq ?_
        refine c_reg ?_
        refine s_y (Y_asC) rfl rfl ?_
        refine s_nil ?_
        refine q_then ?_
        refine c_ret ?_
        refine q_retG1 rfl gt_ (L' := _) sl_ (⟨by rw [decide_eq_false]; intro e; subst e; rw [hx] at hy; cases hy; exact hc6 rfl, rfl⟩)
      · skip
        try simp only [nrm_] at hc6
        refine c_skip ?_
        refine q_bn ?_
        refine q_then ?_
        refine c_reg ?_
        refine s_y (Y_mv) rfl rfl ?_
        refine s_y ad_ rfl rfl ?_
        refine s_y (Y_as) rfl rfl ?_
        refine s_nil ?_
        rw [← hev1, ← hev2]
        refine hK (m - 1) (i + 1) _ _ (by omega) ⟨by omega, take_next hx hy (by obtain ⟨a, b⟩ := x; obtain ⟨c, d⟩ := y; simpa using hc6) ht⟩ ⟨rfl, trivial⟩ rfl (fun _ h => h)
    · skip
      try simp only [nrm_] at hc4
      refine c_exit ?_
      repeat with_reducible refine q_te ?_
      refine q_exit ?_
      refine q_then ?_
      refine c_seq ?_
      refine c_reg ?_
      refine s_y (Y_asC) rfl rfl ?_
      refine s_nil ?_
      refine q_then ?_
      refine c_ret ?_
      refine q_retG1 rfl gt_ (L' := _) sl_ (⟨by rw [decide_eq_true]; rw [show i = l1.length by omega, List.take_length] at ht; rw [ht, show l1.length = l2.length by omega, List.take_length], rfl⟩)
set_option maxRecDepth 100000 in
set_option maxHeartbeats 1600000 in
theorem snapRows_d {seed a b : Int} {lv : Value} {ls : List (List Int)} (hl : Lls W lv ls) : Does Tryz.prog 4 [iv seed, lv, iv a, iv b] W [] (fun v L => v = .bool true ∧ L = []) := by
  refine enter Tryz.func4 rfl rfl rfl (Has.start _) ?_
  refine c_seq ?_
  refine c_reg ?_
  refine s_y (Y_asC) rfl rfl ?_
  refine s_nil ?_
  refine q_then ?_
  refine c_seq ?_
  refine c_seq ?_
  refine c_reg ?_
  refine s_c (En_call (fun _ => rfl) Tryz.func15 rfl (by kernel_rfl) rfl) (fun w hH => known11_d) rfl rfl ?_
  rintro _ _ ⟨rfl, rfl⟩
  refine s_y (Y_not rfl) rfl rfl ?_
  refine s_nil ?_
  refine q_then ?_
  refine c_F rfl (rfl) ?_
  refine c_skip ?_
  refine q_then ?_
  refine c_seq ?_
  refine c_reg ?_
  refine s_y (Y_mv) rfl rfl ?_
  refine s_y (Y_mv) rfl rfl ?_
  refine s_c (En_call (fun _ => rfl) Tryz.func16 rfl (by kernel_rfl) rfl) (fun w hH => lstory_d (hl.has hH)) rfl rfl ?_
  rintro _ _ ⟨ps, g0, c0, B, hpl, hT, rfl, hc0, rfl⟩
  obtain ⟨np, hnp⟩ : ∃ q, 1 + min ls.length 30 = q := ⟨_, rfl⟩
  rw [hnp] at hpl hc0 ⊢
  obtain ⟨ka, hka⟩ : ∃ q : Nat, a % (np : Int) = (q : Int) := ⟨(a % (np : Int)).toNat, by have := Int.emod_nonneg a (show (np : Int) ≠ 0 by omega); omega⟩
  obtain ⟨kb, hkb⟩ : ∃ q : Nat, b % (np : Int) = (q : Int) := ⟨(b % (np : Int)).toNat, by have := Int.emod_nonneg b (show (np : Int) ≠ 0 by omega); omega⟩
  have hka2 : ka < np := by have := Int.emod_lt_of_pos a (show 0 < (np : Int) by omega); omega
  have hkb2 : kb < np := by have := Int.emod_lt_of_pos b (show 0 < (np : Int) by omega); omega
  obtain ⟨p, hp⟩ := take_lt (show ka < ps.length by omega)
  obtain ⟨p', hp'⟩ := take_lt (show kb < ps.length by omega)
  have hpt := (hT.told p (List.mem_of_getElem? hp)).1
  have hpo := (hT.told p (List.mem_of_getElem? hp)).2
  have hpt' := (hT.told p' (List.mem_of_getElem? hp')).1
  have hpo' := (hT.told p' (List.mem_of_getElem? hp')).2
  refine QL.conv (L' := ⟨g0, 34, 11, c0, wcs ps⟩ :: B) (fun w h => h.sub (by simp)) ?_
  refine s_y (Y_as) rfl rfl ?_
  refine s_nil ?_
  refine q_then ?_
  refine c_seq ?_
  refine c_meetQ (ks := [10, 11, 18, 19, 20, 21, 22, 23, 24, 25, 26, 27, 28, 29, 30, 31]) (tr := fun y : Nat × Nat => [(10, .pointer (some ⟨y.1, 0, none⟩)), (11, .pointer (some ⟨y.2, 0, none⟩))]) (φ := fun _ => True) (G := fun y => wB y.1 (wL p.1 p.2) :: wB y.2 (wL p'.1 p'.2) :: B) (fun _ => rfl) ?_ ?_
  · rintro ⟨xb, yb⟩ j5 _
    refine q_then ?_
    refine c_seq ?_
    refine c_reg ?_
    refine s_y (Y_loadAll (cs := wL p.1 p.2) rfl many34 mm_ (by rfl)) rfl rfl ?_
    refine s_y (Y_loadAll (cs := wL p'.1 p'.2) rfl many34 mm_ (by rfl)) rfl rfl ?_
    refine s_c (En_call (fun _ => rfl) Tryz.func23 rfl (by kernel_rfl) rfl) (fun w hH => snapRowsP_d (hpo.wl hpt.vw.sz hH (fun x hx => by repeat (first | exact hx | exact List.mem_append_left _ hx | exact List.mem_append_right _ hx | apply List.Mem.tail | apply List.mem_append_right))) (hpo'.wl hpt'.vw.sz hH (fun x hx => by repeat (first | exact hx | exact List.mem_append_left _ hx | exact List.mem_append_right _ hx | apply List.Mem.tail | apply List.mem_append_right)))) rfl rfl ?_
    rintro _ _ hR1
    rename_i r1 L1
    unfold RowsP at hR1
    refine s_y (Y_as) rfl rfl ?_
    refine s_nil ?_
    refine q_then ?_
    refine c_seq ?_
    refine c_reg ?_
    refine s_y (Y_mv) rfl rfl ?_
    refine s_y (Y_loadAll (cs := wL p.1 p.2) rfl many34 mm_ (by rfl)) rfl rfl ?_
    refine s_y (Y_loadAll (cs := wL p'.1 p'.2) rfl many34 mm_ (by rfl)) rfl rfl ?_
    refine s_c (En_call (fun _ => rfl) Tryz.func25 rfl (by kernel_rfl) rfl) (fun w hH => rrows_d (hpo.wl hpt.vw.sz hH (fun x hx => by repeat (first | exact hx | exact List.mem_append_left _ hx | exact List.mem_append_right _ hx | apply List.Mem.tail | apply List.mem_append_right))) (hpo'.wl hpt'.vw.sz hH (fun x hx => by repeat (first | exact hx | exact List.mem_append_left _ hx | exact List.mem_append_right _ hx | apply List.Mem.tail | apply List.mem_append_right)))) rfl rfl ?_
    rintro _ _ hR2
    rename_i r2 L2
    unfold RowsP at hR2
    refine s_c (En_call (fun _ => rfl) Tryz.func24 rfl (by kernel_rfl) rfl) (fun w hH => sameRows_d (hR1.slv hH (fun x hx => by repeat (first | exact hx | exact List.mem_append_left _ hx | exact List.mem_append_right _ hx | apply List.Mem.tail | apply List.mem_append_right))) (hR2.slv hH (fun x hx => by repeat (first | exact hx | exact List.mem_append_left _ hx | exact List.mem_append_right _ hx | apply List.Mem.tail | apply List.mem_append_right)))) rfl rfl ?_
    rintro _ _ ⟨rfl, rfl⟩
    refine s_y (Y_mv) rfl rfl ?_
    apply s_and 8 [40, 41, 42, 43, 44, 45, 46, 47, 48] 48 (g := 40) rfl rfl
    · intro ht6 hm
      try simp only [nrm_] at ht6
      first | refine s_y (Y_mv) rfl rfl ?_ | refine s_pass rfl rfl ?_
      first | refine s_y (Y_lenR hR1 rfl rfl Tryz.underlying45) rfl rfl ?_ | refine s_pass rfl rfl ?_
      first | refine s_y (Y_eql rfl rfl) rfl rfl ?_ | refine s_pass rfl rfl ?_
      first | refine s_y (Y_loadAll (cs := wL p.1 p.2) rfl many34 mm_ (by rfl)) rfl rfl ?_ | refine s_pass rfl rfl ?_
      first | refine s_y (Y_loadAll (cs := wL p'.1 p'.2) rfl many34 mm_ (by rfl)) rfl rfl ?_ | refine s_pass rfl rfl ?_
      refine s_c (En_call (fun _ => rfl) Tryz.func21 rfl (by kernel_rfl) rfl) (fun w hH => lsame_d (own_wlv hpo hpt.vw.sz hH (fun x hx => by repeat (first | exact hx | exact List.mem_append_left _ hx | exact List.mem_append_right _ hx | apply List.Mem.tail | apply List.mem_append_right))) (own_wlv hpo' hpt'.vw.sz hH (fun x hx => by repeat (first | exact hx | exact List.mem_append_left _ hx | exact List.mem_append_right _ hx | apply List.Mem.tail | apply List.mem_append_right)))) rfl rfl ?_
      rintro _ _ ⟨⟨q, rfl, hq⟩, rfl⟩
      obtain rfl : q = decide (((rowsM p.1 p'.1).length : Int) = 0) := by
        rw [Bool.eq_iff_iff, hq, decide_eq_true_iff]
        have h5 := rows_nil hpt.vw.sz hpt'.vw.sz
        exact ⟨fun e => by have := h5.2 e; omega, fun e => h5.1 (by omega)⟩
      first | refine s_y (Y_eqB rfl rfl Tryz.underlying4) rfl rfl ?_ | refine s_pass rfl rfl ?_
      refine s_y (Y_pk rfl (Gx.tmp gt_) Gx.const) rfl rfl ?_
      first | exact hm _ ⟨rfl, trivial⟩ rfl | exact QL.sub sl_ (hm _ ⟨rfl, trivial⟩ rfl)
    · intro ht6 hm
      iterate 7 refine s_pass rfl rfl ?_
      refine s_y (Y_pk rfl (Gx.tmp gt_) Gx.const) rfl rfl ?_
      exact hm _ ⟨rfl, trivial⟩ rfl
    intro j48
    refine s_y (Y_mv) rfl rfl ?_
    apply s_and 6 [49, 50, 51, 52, 53, 54, 55] 55 (g := 49) rfl rfl
    · intro ht15 hm
      try simp only [nrm_] at ht15
      first | refine s_y (Y_loadAll (cs := wL p.1 p.2) rfl many34 mm_ (by rfl)) rfl rfl ?_ | refine s_pass rfl rfl ?_
      first | refine s_y (Y_loadAll (cs := wL p.1 p.2) rfl many34 mm_ (by rfl)) rfl rfl ?_ | refine s_pass rfl rfl ?_
      refine s_c (En_call (fun _ => rfl) Tryz.func23 rfl (by kernel_rfl) rfl) (fun w hH => snapRowsP_d (hpo.wl hpt.vw.sz hH (fun x hx => by repeat (first | exact hx | exact List.mem_append_left _ hx | exact List.mem_append_right _ hx | apply List.Mem.tail | apply List.mem_append_right))) (hpo.wl hpt.vw.sz hH (fun x hx => by repeat (first | exact hx | exact List.mem_append_left _ hx | exact List.mem_append_right _ hx | apply List.Mem.tail | apply List.mem_append_right)))) rfl rfl ?_
      rintro _ _ hR3
      rename_i r3 L3
      unfold RowsP at hR3
      refine QL.conv (L' := _) (fun w h => h.sub (List.sublist_append_right L3 _)) ?_
      first | refine s_y (Y_lenR hR3 rfl rfl Tryz.underlying45) rfl rfl ?_ | refine s_pass rfl rfl ?_
      first | refine s_y (Y_eql rfl rfl) rfl rfl ?_ | refine s_pass rfl rfl ?_
      refine s_y (Y_pk rfl (Gx.tmp gt_) Gx.const) rfl rfl ?_
      first | exact hm _ ⟨rfl, trivial⟩ rfl | exact QL.sub sl_ (hm _ ⟨rfl, trivial⟩ rfl)
    · intro ht15 hm
      iterate 5 refine s_pass rfl rfl ?_
      refine s_y (Y_pk rfl (Gx.tmp gt_) Gx.const) rfl rfl ?_
      exact hm _ ⟨rfl, trivial⟩ rfl
    intro j55
    refine s_y (Y_as) rfl rfl ?_
    refine s_nil ?_
    refine q_then ?_
    refine c_ret ?_
    refine q_retG1 rfl gt_ (L' := _) sl_ (⟨by congr 1; simp [(rows_nil hpt.vw.sz hpt.vw.sz).2 rfl], rfl⟩)
  · intro go
    refine c_rall (L0 := ⟨g0, 34, 11, c0, wcs ps⟩ :: B) sl_ [17] (.take 0 (.take 1 (.take 2 (.take 3 (.take 7 (.take 8 (.take 9 (.take 10 (.alt 4 (.take 5 (.take 6 (.alt 11 (.take 12 (.take 13 (.alt 14 (.one 15 (.one 16 (.one 17 .nil))) (.one 15 (.one 14 (.one 16 (.one 17 .nil))))))) (.alt 14 (.alt 11 (.take 12 (.take 13 (.one 15 (.one 16 (.one 17 .nil))))) (.one 15 (.one 11 (.take 12 (.take 13 (.one 16 (.one 17 .nil))))))) (.one 15 (.alt 11 (.take 12 (.take 13 (.one 14 (.one 16 (.one 17 .nil))))) (.one 14 (.one 11 (.take 12 (.take 13 (.one 16 (.one 17 .nil)))))))))))) (.alt 14 (.alt 4 (.take 5 (.take 6 (.alt 11 (.take 12 (.take 13 (.one 15 (.one 16 (.one 17 .nil))))) (.one 15 (.one 11 (.take 12 (.take 13 (.one 16 (.one 17 .nil))))))))) (.one 15 (.one 4 (.take 5 (.take 6 (.one 11 (.take 12 (.take 13 (.one 16 (.one 17 .nil)))))))))) (.one 15 (.alt 4 (.take 5 (.take 6 (.alt 11 (.take 12 (.take 13 (.one 14 (.one 16 (.one 17 .nil))))) (.one 14 (.one 11 (.take 12 (.take 13 (.one 16 (.one 17 .nil))))))))) (.one 14 (.one 4 (.take 5 (.take 6 (.one 11 (.take 12 (.take 13 (.one 16 (.one 17 .nil))))))))))))))))))))) (by kernel_rfl) (by kernel_rfl) (by kernel_rfl) (by kernel_rfl) (by kernel_rfl) (by intro c a d v w h; cases d <;> exact h) rfl ?_
    refine t_y (Y_mv) rfl rfl ?_
    refine t_y (Y_mv) rfl rfl ?_
    refine t_y (Y_mv) rfl rfl ?_
    refine t_y (Y_len rfl rfl Tryz.underlying26) rfl rfl ?_
    refine t_y (Y_mv) rfl rfl ?_
    refine t_y (Y_mv) rfl rfl ?_
    refine t_y (Y_mv) rfl rfl ?_
    refine t_y (Y_len rfl rfl Tryz.underlying26) rfl rfl ?_
    refine t_two ?_ ?_
    · skip
      refine t_c (En_call (fun _ => rfl) Tryz.func18 rfl (by kernel_rfl) rfl) (fun w hH => l11within_d (by omega)) (fun _ _ h => by obtain ⟨rfl, rfl⟩ := h; exact kp_) rfl rfl ?_
      rintro _ _ ⟨rfl, rfl⟩
      rw [hka]
      refine t_y (Y_ia (n := ka) rfl rfl Tryz.underlying26 sz34 (by omega) (by omega)) rfl rfl ?_
      refine t_y (Y_loadN (vs := wL p.1 p.2) rfl many34 mm_ (by rfl) (wcs_at hp)) rfl rfl ?_
      refine t_two ?_ ?_
      · skip
        refine t_c (En_call (fun _ => rfl) Tryz.func18 rfl (by kernel_rfl) rfl) (fun w hH => l11within_d (by omega)) (fun _ _ h => by obtain ⟨rfl, rfl⟩ := h; exact kp_) rfl rfl ?_
        rintro _ _ ⟨rfl, rfl⟩
        rw [hkb]
        refine t_y (Y_ia (n := kb) rfl rfl Tryz.underlying26 sz34 (by omega) (by omega)) rfl rfl ?_
        refine t_y (Y_loadN (vs := wL p'.1 p'.2) rfl many34 mm_ (by rfl) (wcs_at hp')) rfl rfl ?_
        refine t_two ?_ ?_
        · skip
          refine t_n (N_alloc (z := .agg #[.int .i64 0, .int .i64 0, .int .i64 0, .int .i64 0, .slice none 0 0, .slice none 0 0, .slice none 0 0, .int .i64 0, .int .i64 0, .int .i64 0, .int .i64 0]) (cs := [.int .i64 0, .int .i64 0, .int .i64 0, .int .i64 0, .slice none 0 0, .slice none 0 0, .slice none 0 0, .int .i64 0, .int .i64 0, .int .i64 0, .int .i64 0]) zv34 rfl) (fun _ => kp_) rfl rfl (fun b10 _ => ?_)
          refine t_n (N_alloc (z := .agg #[.int .i64 0, .int .i64 0, .int .i64 0, .int .i64 0, .slice none 0 0, .slice none 0 0, .slice none 0 0, .int .i64 0, .int .i64 0, .int .i64 0, .int .i64 0]) (cs := [.int .i64 0, .int .i64 0, .int .i64 0, .int .i64 0, .slice none 0 0, .slice none 0 0, .slice none 0 0, .int .i64 0, .int .i64 0, .int .i64 0, .int .i64 0]) zv34 rfl) (fun _ => kp_) rfl rfl (fun b11 _ => ?_)
          refine t_s ((sa_ sz34)) kp_ rfl ?_
          refine t_s ((sa_ sz34)) kp_ rfl ?_
          refine t_nil ?_
          exact go (b10, b11) _ _ trivial ⟨rfl, rfl, trivial⟩ rfl (fun w h => h.pick2 (xs := [_, _]) (R' := B) ss_ (List.sublist_cons_self _ _))
        refine t_n (N_alloc (z := .agg #[.int .i64 0, .int .i64 0, .int .i64 0, .int .i64 0, .slice none 0 0, .slice none 0 0, .slice none 0 0, .int .i64 0, .int .i64 0, .int .i64 0, .int .i64 0]) (cs := [.int .i64 0, .int .i64 0, .int .i64 0, .int .i64 0, .slice none 0 0, .slice none 0 0, .slice none 0 0, .int .i64 0, .int .i64 0, .int .i64 0, .int .i64 0]) zv34 rfl) (fun _ => kp_) rfl rfl (fun b11 _ => ?_)
        refine t_n (N_alloc (z := .agg #[.int .i64 0, .int .i64 0, .int .i64 0, .int .i64 0, .slice none 0 0, .slice none 0 0, .slice none 0 0, .int .i64 0, .int .i64 0, .int .i64 0, .int .i64 0]) (cs := [.int .i64 0, .int .i64 0, .int .i64 0, .int .i64 0, .slice none 0 0, .slice none 0 0, .slice none 0 0, .int .i64 0, .int .i64 0, .int .i64 0, .int .i64 0]) zv34 rfl) (fun _ => kp_) rfl rfl (fun b10 _ => ?_)
        refine t_s ((sa_ sz34)) kp_ rfl ?_
        refine t_s ((sa_ sz34)) kp_ rfl ?_
        refine t_nil ?_
        exact go (b10, b11) _ _ trivial ⟨rfl, rfl, trivial⟩ rfl (fun w h => h.pick2 (xs := [_, _]) (R' := B) ss_ (List.sublist_cons_self _ _))
      refine t_two ?_ ?_
      · skip
        refine t_n (N_alloc (z := .agg #[.int .i64 0, .int .i64 0, .int .i64 0, .int .i64 0, .slice none 0 0, .slice none 0 0, .slice none 0 0, .int .i64 0, .int .i64 0, .int .i64 0, .int .i64 0]) (cs := [.int .i64 0, .int .i64 0, .int .i64 0, .int .i64 0, .slice none 0 0, .slice none 0 0, .slice none 0 0, .int .i64 0, .int .i64 0, .int .i64 0, .int .i64 0]) zv34 rfl) (fun _ => kp_) rfl rfl (fun b10 _ => ?_)
        refine t_two ?_ ?_
        · skip
          refine t_c (En_call (fun _ => rfl) Tryz.func18 rfl (by kernel_rfl) rfl) (fun w hH => l11within_d (by omega)) (fun _ _ h => by obtain ⟨rfl, rfl⟩ := h; exact kp_) rfl rfl ?_
          rintro _ _ ⟨rfl, rfl⟩
          rw [hkb]
          refine t_y (Y_ia (n := kb) rfl rfl Tryz.underlying26 sz34 (by omega) (by omega)) rfl rfl ?_
          refine t_y (Y_loadN (vs := wL p'.1 p'.2) rfl many34 mm_ (by rfl) (wcs_at hp')) rfl rfl ?_
          refine t_n (N_alloc (z := .agg #[.int .i64 0, .int .i64 0, .int .i64 0, .int .i64 0, .slice none 0 0, .slice none 0 0, .slice none 0 0, .int .i64 0, .int .i64 0, .int .i64 0, .int .i64 0]) (cs := [.int .i64 0, .int .i64 0, .int .i64 0, .int .i64 0, .slice none 0 0, .slice none 0 0, .slice none 0 0, .int .i64 0, .int .i64 0, .int .i64 0, .int .i64 0]) zv34 rfl) (fun _ => kp_) rfl rfl (fun b11 _ => ?_)
          refine t_s ((sa_ sz34)) kp_ rfl ?_
          refine t_s ((sa_ sz34)) kp_ rfl ?_
          refine t_nil ?_
          exact go (b10, b11) _ _ trivial ⟨rfl, rfl, trivial⟩ rfl (fun w h => h.pick2 (xs := [_, _]) (R' := B) ss_ (List.sublist_cons_self _ _))
        refine t_n (N_alloc (z := .agg #[.int .i64 0, .int .i64 0, .int .i64 0, .int .i64 0, .slice none 0 0, .slice none 0 0, .slice none 0 0, .int .i64 0, .int .i64 0, .int .i64 0, .int .i64 0]) (cs := [.int .i64 0, .int .i64 0, .int .i64 0, .int .i64 0, .slice none 0 0, .slice none 0 0, .slice none 0 0, .int .i64 0, .int .i64 0, .int .i64 0, .int .i64 0]) zv34 rfl) (fun _ => kp_) rfl rfl (fun b11 _ => ?_)
        refine t_c (En_call (fun _ => rfl) Tryz.func18 rfl (by kernel_rfl) rfl) (fun w hH => l11within_d (by omega)) (fun _ _ h => by obtain ⟨rfl, rfl⟩ := h; exact kp_) rfl rfl ?_
        rintro _ _ ⟨rfl, rfl⟩
        rw [hkb]
        refine t_y (Y_ia (n := kb) rfl rfl Tryz.underlying26 sz34 (by omega) (by omega)) rfl rfl ?_
        refine t_y (Y_loadN (vs := wL p'.1 p'.2) rfl many34 mm_ (by rfl) (wcs_at hp')) rfl rfl ?_
        refine t_s ((sa_ sz34)) kp_ rfl ?_
        refine t_s ((sa_ sz34)) kp_ rfl ?_
        refine t_nil ?_
        exact go (b10, b11) _ _ trivial ⟨rfl, rfl, trivial⟩ rfl (fun w h => h.pick2 (xs := [_, _]) (R' := B) ss_ (List.sublist_cons_self _ _))
      refine t_n (N_alloc (z := .agg #[.int .i64 0, .int .i64 0, .int .i64 0, .int .i64 0, .slice none 0 0, .slice none 0 0, .slice none 0 0, .int .i64 0, .int .i64 0, .int .i64 0, .int .i64 0]) (cs := [.int .i64 0, .int .i64 0, .int .i64 0, .int .i64 0, .slice none 0 0, .slice none 0 0, .slice none 0 0, .int .i64 0, .int .i64 0, .int .i64 0, .int .i64 0]) zv34 rfl) (fun _ => kp_) rfl rfl (fun b11 _ => ?_)
      refine t_two ?_ ?_
      · skip
        refine t_c (En_call (fun _ => rfl) Tryz.func18 rfl (by kernel_rfl) rfl) (fun w hH => l11within_d (by omega)) (fun _ _ h => by obtain ⟨rfl, rfl⟩ := h; exact kp_) rfl rfl ?_
        rintro _ _ ⟨rfl, rfl⟩
        rw [hkb]
        refine t_y (Y_ia (n := kb) rfl rfl Tryz.underlying26 sz34 (by omega) (by omega)) rfl rfl ?_
        refine t_y (Y_loadN (vs := wL p'.1 p'.2) rfl many34 mm_ (by rfl) (wcs_at hp')) rfl rfl ?_
        refine t_n (N_alloc (z := .agg #[.int .i64 0, .int .i64 0, .int .i64 0, .int .i64 0, .slice none 0 0, .slice none 0 0, .slice none 0 0, .int .i64 0, .int .i64 0, .int .i64 0, .int .i64 0]) (cs := [.int .i64 0, .int .i64 0, .int .i64 0, .int .i64 0, .slice none 0 0, .slice none 0 0, .slice none 0 0, .int .i64 0, .int .i64 0, .int .i64 0, .int .i64 0]) zv34 rfl) (fun _ => kp_) rfl rfl (fun b10 _ => ?_)
        refine t_s ((sa_ sz34)) kp_ rfl ?_
        refine t_s ((sa_ sz34)) kp_ rfl ?_
        refine t_nil ?_
        exact go (b10, b11) _ _ trivial ⟨rfl, rfl, trivial⟩ rfl (fun w h => h.pick2 (xs := [_, _]) (R' := B) ss_ (List.sublist_cons_self _ _))
      refine t_n (N_alloc (z := .agg #[.int .i64 0, .int .i64 0, .int .i64 0, .int .i64 0, .slice none 0 0, .slice none 0 0, .slice none 0 0, .int .i64 0, .int .i64 0, .int .i64 0, .int .i64 0]) (cs := [.int .i64 0, .int .i64 0, .int .i64 0, .int .i64 0, .slice none 0 0, .slice none 0 0, .slice none 0 0, .int .i64 0, .int .i64 0, .int .i64 0, .int .i64 0]) zv34 rfl) (fun _ => kp_) rfl rfl (fun b10 _ => ?_)
      refine t_c (En_call (fun _ => rfl) Tryz.func18 rfl (by kernel_rfl) rfl) (fun w hH => l11within_d (by omega)) (fun _ _ h => by obtain ⟨rfl, rfl⟩ := h; exact kp_) rfl rfl ?_
      rintro _ _ ⟨rfl, rfl⟩
      rw [hkb]
      refine t_y (Y_ia (n := kb) rfl rfl Tryz.underlying26 sz34 (by omega) (by omega)) rfl rfl ?_
      refine t_y (Y_loadN (vs := wL p'.1 p'.2) rfl many34 mm_ (by rfl) (wcs_at hp')) rfl rfl ?_
      refine t_s ((sa_ sz34)) kp_ rfl ?_
      refine t_s ((sa_ sz34)) kp_ rfl ?_
      refine t_nil ?_
      exact go (b10, b11) _ _ trivial ⟨rfl, rfl, trivial⟩ rfl (fun w h => h.pick2 (xs := [_, _]) (R' := B) ss_ (List.sublist_cons_self _ _))
    refine t_two ?_ ?_
    · skip
      refine t_n (N_alloc (z := .agg #[.int .i64 0, .int .i64 0, .int .i64 0, .int .i64 0, .slice none 0 0, .slice none 0 0, .slice none 0 0, .int .i64 0, .int .i64 0, .int .i64 0, .int .i64 0]) (cs := [.int .i64 0, .int .i64 0, .int .i64 0, .int .i64 0, .slice none 0 0, .slice none 0 0, .slice none 0 0, .int .i64 0, .int .i64 0, .int .i64 0, .int .i64 0]) zv34 rfl) (fun _ => kp_) rfl rfl (fun b10 _ => ?_)
      refine t_two ?_ ?_
      · skip
        refine t_c (En_call (fun _ => rfl) Tryz.func18 rfl (by kernel_rfl) rfl) (fun w hH => l11within_d (by omega)) (fun _ _ h => by obtain ⟨rfl, rfl⟩ := h; exact kp_) rfl rfl ?_
        rintro _ _ ⟨rfl, rfl⟩
        rw [hka]
        refine t_y (Y_ia (n := ka) rfl rfl Tryz.underlying26 sz34 (by omega) (by omega)) rfl rfl ?_
        refine t_y (Y_loadN (vs := wL p.1 p.2) rfl many34 mm_ (by rfl) (wcs_at hp)) rfl rfl ?_
        refine t_two ?_ ?_
        · skip
          refine t_c (En_call (fun _ => rfl) Tryz.func18 rfl (by kernel_rfl) rfl) (fun w hH => l11within_d (by omega)) (fun _ _ h => by obtain ⟨rfl, rfl⟩ := h; exact kp_) rfl rfl ?_
          rintro _ _ ⟨rfl, rfl⟩
          rw [hkb]
          refine t_y (Y_ia (n := kb) rfl rfl Tryz.underlying26 sz34 (by omega) (by omega)) rfl rfl ?_
          refine t_y (Y_loadN (vs := wL p'.1 p'.2) rfl many34 mm_ (by rfl) (wcs_at hp')) rfl rfl ?_
          refine t_n (N_alloc (z := .agg #[.int .i64 0, .int .i64 0, .int .i64 0, .int .i64 0, .slice none 0 0, .slice none 0 0, .slice none 0 0, .int .i64 0, .int .i64 0, .int .i64 0, .int .i64 0]) (cs := [.int .i64 0, .int .i64 0, .int .i64 0, .int .i64 0, .slice none 0 0, .slice none 0 0, .slice none 0 0, .int .i64 0, .int .i64 0, .int .i64 0, .int .i64 0]) zv34 rfl) (fun _ => kp_) rfl rfl (fun b11 _ => ?_)
          refine t_s ((sa_ sz34)) kp_ rfl ?_
          refine t_s ((sa_ sz34)) kp_ rfl ?_
          refine t_nil ?_
          exact go (b10, b11) _ _ trivial ⟨rfl, rfl, trivial⟩ rfl (fun w h => h.pick2 (xs := [_, _]) (R' := B) ss_ (List.sublist_cons_self _ _))
        refine t_n (N_alloc (z := .agg #[.int .i64 0, .int .i64 0, .int .i64 0, .int .i64 0, .slice none 0 0, .slice none 0 0, .slice none 0 0, .int .i64 0, .int .i64 0, .int .i64 0, .int .i64 0]) (cs := [.int .i64 0, .int .i64 0, .int .i64 0, .int .i64 0, .slice none 0 0, .slice none 0 0, .slice none 0 0, .int .i64 0, .int .i64 0, .int .i64 0, .int .i64 0]) zv34 rfl) (fun _ => kp_) rfl rfl (fun b11 _ => ?_)
        refine t_c (En_call (fun _ => rfl) Tryz.func18 rfl (by kernel_rfl) rfl) (fun w hH => l11within_d (by omega)) (fun _ _ h => by obtain ⟨rfl, rfl⟩ := h; exact kp_) rfl rfl ?_
        rintro _ _ ⟨rfl, rfl⟩
        rw [hkb]
        refine t_y (Y_ia (n := kb) rfl rfl Tryz.underlying26 sz34 (by omega) (by omega)) rfl rfl ?_
        refine t_y (Y_loadN (vs := wL p'.1 p'.2) rfl many34 mm_ (by rfl) (wcs_at hp')) rfl rfl ?_
        refine t_s ((sa_ sz34)) kp_ rfl ?_
        refine t_s ((sa_ sz34)) kp_ rfl ?_
        refine t_nil ?_
        exact go (b10, b11) _ _ trivial ⟨rfl, rfl, trivial⟩ rfl (fun w h => h.pick2 (xs := [_, _]) (R' := B) ss_ (List.sublist_cons_self _ _))
      refine t_n (N_alloc (z := .agg #[.int .i64 0, .int .i64 0, .int .i64 0, .int .i64 0, .slice none 0 0, .slice none 0 0, .slice none 0 0, .int .i64 0, .int .i64 0, .int .i64 0, .int .i64 0]) (cs := [.int .i64 0, .int .i64 0, .int .i64 0, .int .i64 0, .slice none 0 0, .slice none 0 0, .slice none 0 0, .int .i64 0, .int .i64 0, .int .i64 0, .int .i64 0]) zv34 rfl) (fun _ => kp_) rfl rfl (fun b11 _ => ?_)
      refine t_c (En_call (fun _ => rfl) Tryz.func18 rfl (by kernel_rfl) rfl) (fun w hH => l11within_d (by omega)) (fun _ _ h => by obtain ⟨rfl, rfl⟩ := h; exact kp_) rfl rfl ?_
      rintro _ _ ⟨rfl, rfl⟩
      rw [hka]
      refine t_y (Y_ia (n := ka) rfl rfl Tryz.underlying26 sz34 (by omega) (by omega)) rfl rfl ?_
      refine t_y (Y_loadN (vs := wL p.1 p.2) rfl many34 mm_ (by rfl) (wcs_at hp)) rfl rfl ?_
      refine t_c (En_call (fun _ => rfl) Tryz.func18 rfl (by kernel_rfl) rfl) (fun w hH => l11within_d (by omega)) (fun _ _ h => by obtain ⟨rfl, rfl⟩ := h; exact kp_) rfl rfl ?_
      rintro _ _ ⟨rfl, rfl⟩
      rw [hkb]
      refine t_y (Y_ia (n := kb) rfl rfl Tryz.underlying26 sz34 (by omega) (by omega)) rfl rfl ?_
      refine t_y (Y_loadN (vs := wL p'.1 p'.2) rfl many34 mm_ (by rfl) (wcs_at hp')) rfl rfl ?_
      refine t_s ((sa_ sz34)) kp_ rfl ?_
      refine t_s ((sa_ sz34)) kp_ rfl ?_
      refine t_nil ?_
      exact go (b10, b11) _ _ trivial ⟨rfl, rfl, trivial⟩ rfl (fun w h => h.pick2 (xs := [_, _]) (R' := B) ss_ (List.sublist_cons_self _ _))
    refine t_n (N_alloc (z := .agg #[.int .i64 0, .int .i64 0, .int .i64 0, .int .i64 0, .slice none 0 0, .slice none 0 0, .slice none 0 0, .int .i64 0, .int .i64 0, .int .i64 0, .int .i64 0]) (cs := [.int .i64 0, .int .i64 0, .int .i64 0, .int .i64 0, .slice none 0 0, .slice none 0 0, .slice none 0 0, .int .i64 0, .int .i64 0, .int .i64 0, .int .i64 0]) zv34 rfl) (fun _ => kp_) rfl rfl (fun b11 _ => ?_)
    refine t_two ?_ ?_
    · skip
      refine t_c (En_call (fun _ => rfl) Tryz.func18 rfl (by kernel_rfl) rfl) (fun w hH => l11within_d (by omega)) (fun _ _ h => by obtain ⟨rfl, rfl⟩ := h; exact kp_) rfl rfl ?_
      rintro _ _ ⟨rfl, rfl⟩
      rw [hka]
      refine t_y (Y_ia (n := ka) rfl rfl Tryz.underlying26 sz34 (by omega) (by omega)) rfl rfl ?_
      refine t_y (Y_loadN (vs := wL p.1 p.2) rfl many34 mm_ (by rfl) (wcs_at hp)) rfl rfl ?_
      refine t_two ?_ ?_
      · skip
        refine t_c (En_call (fun _ => rfl) Tryz.func18 rfl (by kernel_rfl) rfl) (fun w hH => l11within_d (by omega)) (fun _ _ h => by obtain ⟨rfl, rfl⟩ := h; exact kp_) rfl rfl ?_
        rintro _ _ ⟨rfl, rfl⟩
        rw [hkb]
        refine t_y (Y_ia (n := kb) rfl rfl Tryz.underlying26 sz34 (by omega) (by omega)) rfl rfl ?_
        refine t_y (Y_loadN (vs := wL p'.1 p'.2) rfl many34 mm_ (by rfl) (wcs_at hp')) rfl rfl ?_
        refine t_n (N_alloc (z := .agg #[.int .i64 0, .int .i64 0, .int .i64 0, .int .i64 0, .slice none 0 0, .slice none 0 0, .slice none 0 0, .int .i64 0, .int .i64 0, .int .i64 0, .int .i64 0]) (cs := [.int .i64 0, .int .i64 0, .int .i64 0, .int .i64 0, .slice none 0 0, .slice none 0 0, .slice none 0 0, .int .i64 0, .int .i64 0, .int .i64 0, .int .i64 0]) zv34 rfl) (fun _ => kp_) rfl rfl (fun b10 _ => ?_)
        refine t_s ((sa_ sz34)) kp_ rfl ?_
        refine t_s ((sa_ sz34)) kp_ rfl ?_
        refine t_nil ?_
        exact go (b10, b11) _ _ trivial ⟨rfl, rfl, trivial⟩ rfl (fun w h => h.pick2 (xs := [_, _]) (R' := B) ss_ (List.sublist_cons_self _ _))
      refine t_n (N_alloc (z := .agg #[.int .i64 0, .int .i64 0, .int .i64 0, .int .i64 0, .slice none 0 0, .slice none 0 0, .slice none 0 0, .int .i64 0, .int .i64 0, .int .i64 0, .int .i64 0]) (cs := [.int .i64 0, .int .i64 0, .int .i64 0, .int .i64 0, .slice none 0 0, .slice none 0 0, .slice none 0 0, .int .i64 0, .int .i64 0, .int .i64 0, .int .i64 0]) zv34 rfl) (fun _ => kp_) rfl rfl (fun b10 _ => ?_)
      refine t_c (En_call (fun _ => rfl) Tryz.func18 rfl (by kernel_rfl) rfl) (fun w hH => l11within_d (by omega)) (fun _ _ h => by obtain ⟨rfl, rfl⟩ := h; exact kp_) rfl rfl ?_
      rintro _ _ ⟨rfl, rfl⟩
      rw [hkb]
      refine t_y (Y_ia (n := kb) rfl rfl Tryz.underlying26 sz34 (by omega) (by omega)) rfl rfl ?_
      refine t_y (Y_loadN (vs := wL p'.1 p'.2) rfl many34 mm_ (by rfl) (wcs_at hp')) rfl rfl ?_
      refine t_s ((sa_ sz34)) kp_ rfl ?_
      refine t_s ((sa_ sz34)) kp_ rfl ?_
      refine t_nil ?_
      exact go (b10, b11) _ _ trivial ⟨rfl, rfl, trivial⟩ rfl (fun w h => h.pick2 (xs := [_, _]) (R' := B) ss_ (List.sublist_cons_self _ _))
    refine t_n (N_alloc (z := .agg #[.int .i64 0, .int .i64 0, .int .i64 0, .int .i64 0, .slice none 0 0, .slice none 0 0, .slice none 0 0, .int .i64 0, .int .i64 0, .int .i64 0, .int .i64 0]) (cs := [.int .i64 0, .int .i64 0, .int .i64 0, .int .i64 0, .slice none 0 0, .slice none 0 0, .slice none 0 0, .int .i64 0, .int .i64 0, .int .i64 0, .int .i64 0]) zv34 rfl) (fun _ => kp_) rfl rfl (fun b10 _ => ?_)
    refine t_c (En_call (fun _ => rfl) Tryz.func18 rfl (by kernel_rfl) rfl) (fun w hH => l11within_d (by omega)) (fun _ _ h => by obtain ⟨rfl, rfl⟩ := h; exact kp_) rfl rfl ?_
    rintro _ _ ⟨rfl, rfl⟩
    rw [hka]
    refine t_y (Y_ia (n := ka) rfl rfl Tryz.underlying26 sz34 (by omega) (by omega)) rfl rfl ?_
    refine t_y (Y_loadN (vs := wL p.1 p.2) rfl many34 mm_ (by rfl) (wcs_at hp)) rfl rfl ?_
    refine t_c (En_call (fun _ => rfl) Tryz.func18 rfl (by kernel_rfl) rfl) (fun w hH => l11within_d (by omega)) (fun _ _ h => by obtain ⟨rfl, rfl⟩ := h; exact kp_) rfl rfl ?_
    rintro _ _ ⟨rfl, rfl⟩
    rw [hkb]
    refine t_y (Y_ia (n := kb) rfl rfl Tryz.underlying26 sz34 (by omega) (by omega)) rfl rfl ?_
    refine t_y (Y_loadN (vs := wL p'.1 p'.2) rfl many34 mm_ (by rfl) (wcs_at hp')) rfl rfl ?_
    refine t_s ((sa_ sz34)) kp_ rfl ?_
    refine t_s ((sa_ sz34)) kp_ rfl ?_
    refine t_nil ?_
    exact go (b10, b11) _ _ trivial ⟨rfl, rfl, trivial⟩ rfl (fun w h => h.pick2 (xs := [_, _]) (R' := B) ss_ (List.sublist_cons_self _ _))
end
end Go.Proofs.YtcogbkkdccohfaaGreat
namespace Go.Ad
open Go.RowKit Go.Maps
section
variable {H : Type} {enc : TypeId × Value → H} {P : Program} {W : World} {base : Nat} {sp : Nat → Bool} {held : Bool} {fuel : Nat} {t e : TypeId} {a : Option Addr} {len cap : Nat} {x : DataW H × List MemPlace}
theorem slice_caps (ht : P.underlying t = some (.slice e)) (h : DataW.trod enc P W base sp held fuel t [.slice a len cap] = some x) : len ≤ cap ∧ cap ≤ maxLen := by
  rcases slice_inv ht h with ⟨_, rfl, rfl, _⟩ | ⟨ad, ds, rest, fuel', rfl, h1, h2, _⟩
  · exact ⟨Nat.le_refl _, by unfold maxLen; omega⟩
  · exact ⟨h1, h2⟩
theorem intsV_of (ht : P.underlying t = some (.slice e)) (he : P.cellsOf e = 1) (hb : P.underlying e = some (.int .i64)) (h : DataW.trod enc P W base sp held fuel t [.slice a len cap] = some x) : ∃ zs : List Int, SlV W 1 (.slice a len cap) len (zs.map iv) := by
  obtain ⟨hc1, hc2⟩ := slice_caps ht h
  obtain ⟨vs, f', h1, h2, h3, h4⟩ := slice_range ht he h
  have : ∃ zs : List Int, vs = zs.map (Value.int .i64) := by
    clear h1 h4
    induction vs with
    | nil => exact ⟨[], rfl⟩
    | cons v r ih =>
      obtain ⟨zs, rfl⟩ := ih (fun v hv => h3 v (by simp [hv]))
      obtain ⟨y, hy⟩ := h3 v (by simp)
      obtain ⟨b, hb1, _⟩ := DataW.trod_int hb hy
      exact ⟨b :: zs, by simpa using hb1⟩
  obtain ⟨zs, rfl⟩ := this
  refine ⟨zs, ?_⟩
  rcases h4 with h4 | ⟨b, o, rfl, hb', hr⟩
  · have h5 : zs = [] := by simpa using h4
    subst h5
    obtain rfl : len = 0 := by simpa using h1.symm
    exact .zero
  · exact .some ⟨by rw [Nat.mul_one]; exact h1, hc1, hc2, hb', hr⟩
end
end Go.Ad
namespace Go.Proofs.YtcogbkkdccohfaaGreat
open Go.RowKit Go.Ad Go.Maps
end Go.Proofs.YtcogbkkdccohfaaGreat
namespace Go.Ad
open Go.RowKit Go.Maps
section
variable {H : Type} {enc : TypeId × Value → H} {P : Program} {W : World} {base : Nat} {sp : Nat → Bool} {held : Bool} {fuel : Nat} {t e : TypeId} {a : Option Addr} {len cap : Nat} {x : DataW H × List MemPlace}
theorem slice_is (ht : P.underlying t = some (.slice e)) {v : Value} (h : DataW.trod enc P W base sp held fuel t [v] = some x) : ∃ a n c, v = .slice a n c := by
  rcases DataW.trod_slice ht h with ⟨h1, _⟩ | ⟨a, len, cap, _, _, _, _, h1, _⟩
  · exact ⟨none, 0, 0, by simpa using h1⟩
  · exact ⟨some a, len, cap, by simpa using h1⟩
theorem lls_of {e2 : TypeId} (ht : P.underlying t = some (.slice e)) (he : P.cellsOf e = 1) (ht2 : P.underlying e = some (.slice e2)) (he2 : P.cellsOf e2 = 1) (hb : P.underlying e2 = some (.int .i64)) (h : DataW.trod enc P W base sp held fuel t [.slice a len cap] = some x) : ∃ ls : List (List Int), ls.length = len ∧ Lls W (.slice a len cap) ls := by
  obtain ⟨hc1, hc2⟩ := slice_caps ht h
  obtain ⟨vs, f', h1, h2, h3, h4⟩ := slice_range ht he h
  have : ∃ ls : List (List Int), ls.length = vs.length ∧ ∀ (i : Nat) (l : List Int), ls[i]? = some l → ∃ vi, vs[i]? = some vi ∧ SlV W 1 vi l.length (l.map iv) := by
    clear h1 h4
    induction vs with
    | nil => exact ⟨[], rfl, fun i l h => by simp at h⟩
    | cons v r ih =>
      obtain ⟨ls, hl, hi⟩ := ih (fun v hv => h3 v (by simp [hv]))
      obtain ⟨y, hy⟩ := h3 v (by simp)
      obtain ⟨a1, n1, c1, rfl⟩ := slice_is ht2 hy
      obtain ⟨zs, hz⟩ := intsV_of ht2 he2 hb hy
      have hzl : zs.length = n1 := by have := hz.len; simpa using this
      refine ⟨zs :: ls, by simp [hl], fun i l h => ?_⟩
      cases i with
      | zero =>
        obtain rfl : zs = l := by simpa using h
        exact ⟨_, rfl, by rw [hzl]; exact hz⟩
      | succ i => exact hi i l (by simpa using h)
  obtain ⟨ls, hl, hi⟩ := this
  refine ⟨ls, by omega, vs, ?_, hi⟩
  rcases h4 with h4 | ⟨b, o, rfl, hb', hr⟩
  · subst h4
    obtain rfl : len = 0 := by simpa using h1.symm
    obtain rfl : ls = [] := List.eq_nil_of_length_eq_zero hl
    exact .zero
  · rw [hl, h1]
    exact .some ⟨by rw [Nat.mul_one]; exact h1, hc1, hc2, hb', hr⟩
end
end Go.Ad
