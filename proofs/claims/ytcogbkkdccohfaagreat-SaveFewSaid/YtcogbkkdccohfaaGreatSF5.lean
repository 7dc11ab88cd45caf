/- Texts of this claim, laid together: part 5. -/
import Derived.Test.YtcogbkkdccohfaaGreatSF4
import Derived.Test.YtcogbkkdccohfaaGreatRows
import Derived.Lib.LazyBuf
set_option linter.unusedVariables false
set_option linter.unusedSimpArgs false
set_option maxHeartbeats 1600000
namespace Go.Ad
open Go.RowKit Go.Maps Go.Proofs.YtcogbkkdccohfaaGreat
abbrev frE (e : Ent) : Ent := { Ent.zero with gen := e.gen }
theorem freeE_map {l : List Ent} {i : Nat} (h : i < l.length) : freeE (mapI frE l i) i = mapI frE l (i + 1) := by
  obtain ⟨e, he⟩ := take_lt h
  unfold freeE
  rw [if_pos (by omega), Int.toNat_natCast, egt_of (mapI_get he), mapI_succ he]
theorem freeF_map (l : List Ent) {i : Nat} (h : l.length ≤ i) : mapI frE l i = freeF l := mapI_all frE l h
theorem SlB.hasM {W w : World} {M : List Nat} {L : List Bk} {b o n c k : Nat} {cs : List Value} (h : SlB W b o n c k cs) (hM : b ∉ M) (hH : Has W M L w) : SlB w b o n c k cs := h.has hH hM
theorem WL.at' {W : World} {d : Wd} {s : Ws} (h : WL W d s) : WAt W d s := by
  obtain ⟨z1, z2, z3⟩ := h.sz
  exact ⟨by rw [z1]; exact h.c, by rw [z2]; exact h.e, by rw [z3]; exact h.i⟩
theorem wv_wL {d : Wd} {s : Ws} (h : d.cells.length = 384 ∧ d.ents.length = 32 ∧ d.items.length = 40) : wv d s = wL d s := by
  unfold wv; rw [h.1, h.2.1, h.2.2]
end Go.Ad
namespace Go.Proofs.YtcogbkkdccohfaaGreat
open Go.RowKit Go.Ad Go.Maps
set_option linter.unusedVariables false
set_option linter.unusedSimpArgs false
theorem EntsP.atM {b o n c : Nat} {l l' : List Ent} {v : Value} {B : List Bk} (h : EntsP b o n c l l' v B) : ∃ b' o' c', v = .slice (some ⟨b', o', none⟩) n c' ∧ ∀ {W w : World} {M : List Nat} {L : List Bk}, SlB W b o n c 11 (ecells l) → b ∉ M → Has W M L w → (∀ x ∈ B, x ∈ L) → SlB w b' o' n c' 11 (ecells l') := by
  cases h with
  | old h => subst h; exact ⟨b, o, c, rfl, fun hs hM hH _ => hs.has hH hM⟩
  | @new g cap h1 h2 => exact ⟨g, 0, cap, rfl, fun hs hM hH hB => (hH.at' (hB _ (List.Mem.head _))).sl (by rw [ecells_len, h2]) (by rw [← h2]; exact h1)⟩
theorem placeF_step (cells : List UInt8) (old l : List Ent) (n : Nat) : placeF cells old l (n + 1) = if eHero old n < 0 then placeF cells old l n else (placeF cells old l n).set (eHero old n).toNat (heroM cells (placeF cells old l n) (egt old (eHero old n))).1 := rfl
def StockL (d : Wd) (s : Ws) (d' : Wd) (v : Value) (L : List Bk) : Prop := ∃ ev B ig ic, v = .agg #[iv d.seed, iv d.frame, iv d.floor, iv d.state, .slice (some ⟨s.cb, s.co, none⟩) 384 s.cc, ev, .slice (some ⟨ig, 0, none⟩) 40 ic, iv d.gold.a, iv d.gold.b, iv d.gold.c, iv d.gold.d] ∧ EntsP s.eb s.eo 32 s.ec d.ents d'.ents ev B ∧ 40 ≤ ic ∧ L = iB ig ic d'.items :: B
section
variable {W : World}
theorem rstockL_d {d : Wd} {s : Ws} (hw : WL W d s) {m : Lvl} {cv mev miv : Value} (hc : cv.oneCell' = true) (hme : SlV W 11 mev m.ents.length (ecells m.ents)) (hmi : SlV W 4 miv m.items.length (icells m.items)) :
    Does Tryz.prog 76 [.agg (wL d s).toArray, .agg #[cv, mev, miv]] W [] (StockL d s (stockW d m)) := by
  obtain ⟨z1, z2, z3⟩ := hw.sz
  have h := rstock_d hw.at' ⟨by omega, by omega⟩ hc hme hmi
  rw [wv_wL ⟨z1, z2, z3⟩] at h
  refine h.post fun v L => ?_
  rintro ⟨ev, B, ig, ic, h1, h2, h3, h4⟩
  rw [z1, z3] at h1
  rw [z2] at h2
  rw [z3] at h3
  exact ⟨ev, B, ig, ic, h1, h2, h3, h4⟩
set_option maxRecDepth 100000 in
set_option maxHeartbeats 1600000 in
theorem rbelow_d {d : Wd} {cb co cc eb eo ec ib ic : Nat} (he : SlB W eb eo 32 ec 11 (ecells d.ents)) (hx : (iB ib ic d.items).holds W) (hne : eb ≠ ib) (l3 : 40 ≤ ic) (hv : VW d) (hf : d.floor ≤ 2) :
    Does Tryz.prog 95 [.agg (wL d ⟨cb, co, cc, eb, eo, ec, ib, 0, ic⟩).toArray] W [ib] (WN (belowM d)) := by
  obtain ⟨z1, z2, z3⟩ := hv.sz
  have hfn := hv.nums.1
  have hM : eb ∉ [ib] := by simpa using hne
  obtain ⟨fl, hfl⟩ : ∃ q, d.floor + 1 = q := ⟨_, rfl⟩
  have hml := make_len d.seed fl
  have hbe : belowM d = stockW { d with floor := fl, cells := (makeM d.seed fl).cells, items := d.items.map keepI, ents := placeF (makeM d.seed fl).cells d.ents (freeF d.ents) 4 } (makeM d.seed fl) := by rw [← hfl]; rfl
  have hmk := @rmake_d (floor := fl) (seed := d.seed)
  obtain ⟨m, hm⟩ : ∃ q, makeM d.seed fl = q := ⟨_, rfl⟩
  rw [hm] at hml hbe
  simp only [hm] at hmk
  rw [hbe]
  clear hbe hm
  refine enter Tryz.func95 rfl rfl rfl (Has.start1 hx) ?_
  refine c_seq ?_
  refine c_reg ?_
  refine s_n (N_box (cs := wL d ⟨cb, co, cc, eb, eo, ec, ib, 0, ic⟩) rfl) rfl rfl (fun b1 _ => ?_)
  refine s_n (N_alloc (z := .agg #[.int .i64 0, .int .i64 0, .int .i64 0, .int .i64 0, .slice none 0 0, .slice none 0 0, .slice none 0 0, .int .i64 0, .int .i64 0, .int .i64 0, .int .i64 0]) (cs := [.int .i64 0, .int .i64 0, .int .i64 0, .int .i64 0, .slice none 0 0, .slice none 0 0, .slice none 0 0, .int .i64 0, .int .i64 0, .int .i64 0, .int .i64 0]) zv34 rfl) rfl rfl (fun b2 _ => ?_)
  refine s_nil ?_
  refine q_then ?_
  refine c_seq ?_
  refine c_reg ?_
  refine s_y (Y_fa 2 rfl Tryz.underlying34 rfl sz3 rfl) rfl rfl ?_
  refine s_y (yl_ one3) rfl rfl ?_
  refine s_y ((Y_add rfl rfl (by omega)).num hfl) rfl rfl ?_
  refine s_y (Y_fa 2 rfl Tryz.underlying34 rfl sz3 rfl) rfl rfl ?_
  refine s_s (S_st (cs' := wL { d with floor := fl } ⟨cb, co, cc, eb, eo, ec, ib, 0, ic⟩) rfl gt_ sz3 (by rfl) up_ (by rfl) (by simp only [List.length_cons, List.length_nil]; omega)) rfl ?_
  refine s_nil ?_
  refine q_then ?_
  refine c_seq ?_
  refine c_reg ?_
  refine s_y (Y_fa 0 rfl Tryz.underlying34 rfl sz2 rfl) rfl rfl ?_
  refine s_y (yl_ one2) rfl rfl ?_
  refine s_y (Y_fa 2 rfl Tryz.underlying34 rfl sz3 rfl) rfl rfl ?_
  refine s_y (yl_ one3) rfl rfl ?_
  refine s_c (En_call (fun _ => rfl) Tryz.func75 rfl (by kernel_rfl) rfl) (fun w hH => hmk w (by omega)) rfl rfl ?_
  rintro _ _ ⟨cb2, ev, E, iv', I, rfl, hE, hI, rfl⟩
  refine QL.perm (List.perm_append_comm.cons _) ?_
  refine s_n (N_alloc (z := .agg #[.slice none 0 0, .slice none 0 0, .slice none 0 0]) (cs := [.slice none 0 0, .slice none 0 0, .slice none 0 0]) zv138 rfl) rfl rfl (fun b3 _ => ?_)
  refine s_s (S_storeA (vs := [.slice (some ⟨cb2, 0, none⟩) 384 384, ev, iv']) rfl rfl sz138 (by rfl) (by simp only [List.all_cons, List.all_nil, hE.one, hI.one]; rfl) up_ (by rfl)) rfl ?_
  refine s_nil ?_
  refine q_then ?_
  refine c_seq ?_
  refine c_reg ?_
  refine s_y (Y_fa 0 rfl Tryz.underlying138 rfl sz24 rfl) rfl rfl ?_
  refine s_y (yl_ one24) rfl rfl ?_
  refine s_y (Y_fa 4 rfl Tryz.underlying34 rfl sz24 rfl) rfl rfl ?_
  refine s_s (S_st (cs' := wL { d with floor := fl } ⟨cb2, 0, 384, eb, eo, ec, ib, 0, ic⟩) rfl gt_ sz24 (by rfl) up_ (by rfl) (by simp only [List.length_cons, List.length_nil]; omega)) rfl ?_
  refine s_nil ?_
  refine q_then ?_
  refine c_seq ?_
  refine c_seq ?_
  refine c_reg ?_
  refine s_y (Y_asC) rfl rfl ?_
  refine s_nil ?_
  refine q_then ?_
  refine c_block ?_
  refine c_loop [4, 23, 24, 25, 26, 27, 28, 29, 30, 31, 32, 33, 34, 35, 36, 37, 38, 39, 40, 41, 42, 43, 44, 45, 46, 47, 48, 49, 50] (fun m2 (i : Nat) => i + m2 = 40) (fun i => [(4, iv i)]) (fun i => lB b3 [.slice (some ⟨cb2, 0, none⟩) 384 384, ev, iv'] :: cB cb2 384 m.cells :: wB b2 wz :: wB b1 (wL { d with floor := fl } ⟨cb2, 0, 384, eb, eo, ec, ib, 0, ic⟩) :: iB ib ic (mapI keepI d.items i) :: (I ++ E)) (40) (0) (rfl) (by repeat (first | exact trivial | refine ⟨rfl, ?_⟩)) (fun w h => by rw [mapI_zero]; exact h) (fun _ => rfl) ?_
  rintro m2 i j hi K hK
  refine c_seq ?_
  refine c_seq ?_
  refine c_reg ?_
  refine s_y (Y_mv) rfl rfl ?_
  refine s_y (Y_fa 6 rfl Tryz.underlying34 rfl sz31 rfl) rfl rfl ?_
  refine s_y (yl_ one31) rfl rfl ?_
  refine s_y (Y_len rfl rfl Tryz.underlying31) rfl rfl ?_
  refine s_y (Y_lss rfl rfl) rfl rfl ?_
  refine s_nil ?_
  refine q_then ?_
  first | refine c_cond' rfl (fun hc5 => ?_) (fun hc5 => ?_) | refine c_cond rfl (fun hc5 => ?_) (fun hc5 => ?_)
  · skip
    try simp only [nrm_] at hc5
    refine c_skip ?_
    refine q_then ?_
    refine c_seq ?_
    refine c_block ?_
    refine c_seq ?_
    obtain ⟨x, hx0⟩ := take_lt (show i < d.items.length by omega)
    have hx := mapI_get (f := keepI) hx0
    have hml := mapI_len keepI d.items i
    refine c_reg ?_
    refine s_y (Y_fa 6 rfl Tryz.underlying34 rfl sz31 rfl) rfl rfl ?_
    refine s_y (yl_ one31) rfl rfl ?_
    refine s_y (Y_mv) rfl rfl ?_
    refine s_y (Y_ia rfl rfl Tryz.underlying31 sz98 rfl (by omega)) rfl rfl ?_
    refine s_y (Y_fa 1 rfl Tryz.underlying98 rfl sz3 rfl) rfl rfl ?_
    refine s_y (yl_ one3) rfl rfl ?_
    refine s_y (Y_eql rfl rfl) rfl rfl ?_
    refine s_y (Y_mv) rfl rfl ?_
    apply s_or 8 [37, 38, 39, 40, 41, 42, 43, 44, 45] 45 (g := 37) rfl rfl
    · intro ht8 hm
      try simp only [nrm_] at ht8
      first | refine s_y (Y_fa 6 rfl Tryz.underlying34 rfl sz31 rfl) rfl rfl ?_ | refine s_pass rfl rfl ?_
      first | refine s_y (yl_ one31) rfl rfl ?_ | refine s_pass rfl rfl ?_
      first | refine s_y (Y_mv) rfl rfl ?_ | refine s_pass rfl rfl ?_
      first | refine s_y (Y_ia rfl rfl Tryz.underlying31 sz98 rfl (by omega)) rfl rfl ?_ | refine s_pass rfl rfl ?_
      first | refine s_y (Y_fa 1 rfl Tryz.underlying98 rfl sz3 rfl) rfl rfl ?_ | refine s_pass rfl rfl ?_
      first | refine s_y (yl_ one3) rfl rfl ?_ | refine s_pass rfl rfl ?_
      first | refine s_y (Y_eql rfl rfl) rfl rfl ?_ | refine s_pass rfl rfl ?_
      refine s_y (Y_pk rfl Gx.const (Gx.tmp gt_)) rfl rfl ?_
      first | exact hm _ ⟨rfl, trivial⟩ rfl | exact QL.sub sl_ (hm _ ⟨rfl, trivial⟩ rfl)
    · intro ht8 hm
      iterate 7 refine s_pass rfl rfl ?_
      refine s_y (Y_pk rfl Gx.const (Gx.tmp gt_)) rfl rfl ?_
      exact hm _ ⟨rfl, trivial⟩ rfl
    intro j45
    refine s_nil ?_
    refine q_then ?_
    first | refine c_cond' rfl (fun hc7 => ?_) (fun hc7 => ?_) | refine c_cond rfl (fun hc7 => ?_) (fun hc7 => ?_)
    · skip
      try simp only [nrm_] at hc7
      refine c_reg ?_
      refine s_y (Y_fa 6 rfl Tryz.underlying34 rfl sz31 rfl) rfl rfl ?_
      refine s_y (yl_ one31) rfl rfl ?_
      refine s_y (Y_mv) rfl rfl ?_
      refine s_y (Y_build (cs := [.int .i64 0, .int .i64 0, .int .i64 0, .int .i64 0]) (by repeat (first | exact Gp.nil | apply Gp.const | apply Gp.tmp gt_)) (bld98 _ _ (by first | rfl | (simp; rfl)))) rfl rfl ?_
      refine s_y (Y_ia rfl rfl Tryz.underlying31 sz98 rfl (by omega)) rfl rfl ?_
      refine s_s (S_storeN (cs' := icells ((mapI keepI d.items i).set i Itm.zero)) rfl rfl sz98 (by rfl) (by rfl) up_ (iall Itm.zero (by omega)) (ble_i (by omega))) rfl ?_
      refine s_nil ?_
      refine q_bn ?_
      refine q_then ?_
      refine c_reg ?_
      refine s_y (Y_mv) rfl rfl ?_
      refine s_y ad_ rfl rfl ?_
      refine s_y (Y_as) rfl rfl ?_
      refine s_nil ?_
      have hs : keepI x = Itm.zero := by unfold keepI; rw [if_pos (by omega)]
      refine hK (m2 - 1) (i + 1) _ _ (by omega) (by omega) ⟨rfl, trivial⟩ rfl (fun w h => ?_)
      simp only; rw [mapI_succ hx0, hs]; exact h
    · skip
      try simp only [nrm_] at hc7
      refine c_skip ?_
      refine q_bn ?_
      refine q_then ?_
      refine c_reg ?_
      refine s_y (Y_mv) rfl rfl ?_
      refine s_y ad_ rfl rfl ?_
      refine s_y (Y_as) rfl rfl ?_
      refine s_nil ?_
      have hs : keepI x = x := by unfold keepI; rw [if_neg (by omega)]
      refine hK (m2 - 1) (i + 1) _ _ (by omega) (by omega) ⟨rfl, trivial⟩ rfl (fun w h => ?_)
      simp only; rw [mapI_same hx0 hs]; exact h
  · skip
    try simp only [nrm_] at hc5
    refine c_exit ?_
    repeat with_reducible refine q_te ?_
    refine q_exit ?_
    refine q_then ?_
    refine c_seq ?_
    rw [mapI_all keepI d.items (show d.items.length ≤ i by omega)]
    refine c_reg ?_
    refine s_y (Y_fa 5 rfl Tryz.underlying34 rfl sz30 rfl) rfl rfl ?_
    refine s_y (yl_ one30) rfl rfl ?_
    refine s_y (Y_as) rfl rfl ?_
    refine s_nil ?_
    refine q_then ?_
    refine c_seq ?_
    refine c_seq ?_
    refine c_reg ?_
    refine s_y (Y_asC) rfl rfl ?_
    refine s_nil ?_
    refine q_then ?_
    refine c_block ?_
    refine c_loop [6, 53, 54, 55, 56, 57, 58, 59, 60, 61, 62, 63] (fun m2 (y : Nat × Value × List Bk) => y.1 + m2 = 32 ∧ EntsP eb eo 32 ec d.ents (mapI frE d.ents y.1) y.2.1 y.2.2 ∧ (y.1 ≠ 0 → ∃ g cap, y.2.1 = .slice (some ⟨g, 0, none⟩) 32 cap ∧ 32 ≤ cap ∧ y.2.2 = [eB g cap (mapI frE d.ents y.1)])) (fun y => [(6, iv y.1)]) (fun y => lB b3 [.slice (some ⟨cb2, 0, none⟩) 384 384, ev, iv'] :: cB cb2 384 m.cells :: wB b2 wz :: wB b1 [iv d.seed, iv d.frame, iv fl, iv d.state, .slice (some ⟨cb2, 0, none⟩) 384 384, y.2.1, .slice (some ⟨ib, 0, none⟩) 40 ic, iv d.gold.a, iv d.gold.b, iv d.gold.c, iv d.gold.d] :: iB ib ic (d.items.map keepI) :: (y.2.2 ++ (I ++ E))) (32) ((0, .slice (some ⟨eb, eo, none⟩) 32 ec, [])) (⟨rfl, .old (mapI_zero _ _), fun h => absurd rfl h⟩) (by repeat (first | exact trivial | refine ⟨rfl, ?_⟩)) (fun _ h => h.sub sl_) (fun _ => rfl) ?_
    rintro m2 ⟨i, v, B⟩ j ⟨hi, hP, hnew⟩ K hK
    simp only at hi hP hnew ⊢
    obtain ⟨eb1, eo1, ec1, rfl, hsl⟩ := hP.atM
    have hln := mapI_len frE d.ents i
    refine c_seq ?_
    refine c_seq ?_
    refine c_reg ?_
    refine s_y (Y_mv) rfl rfl ?_
    refine s_y (Y_mv) rfl rfl ?_
    refine s_y (Y_len rfl rfl Tryz.underlying30) rfl rfl ?_
    refine s_y (Y_lss rfl rfl) rfl rfl ?_
    refine s_nil ?_
    refine q_then ?_
    first | refine c_cond' rfl (fun hc11 => ?_) (fun hc11 => ?_) | refine c_cond rfl (fun hc11 => ?_) (fun hc11 => ?_)
    · skip
      try simp only [nrm_] at hc11
      refine c_skip ?_
      refine q_then ?_
      refine c_seq ?_
      refine c_block ?_
      refine c_reg ?_
      refine s_y (Y_fa 5 rfl Tryz.underlying34 rfl sz30 rfl) rfl rfl ?_
      refine s_y (yl_ one30) rfl rfl ?_
      refine s_y (Y_mv) rfl rfl ?_
      refine s_c (En_call (fun _ => rfl) Tryz.func152 rfl (by kernel_rfl) rfl) (fun w hH => rfree_d (hsl he hM hH (fun x hx => by repeat (first | exact hx | exact List.mem_append_left _ hx | exact List.mem_append_right _ hx | apply List.Mem.tail | apply List.mem_append_right))) (by omega) (by omega)) rfl rfl ?_
      rintro _ _ ⟨g, cap, rfl, hcap, rfl⟩
      rw [freeE_map (l := d.ents) (i := i) (by omega)]
      refine s_y (Y_fa 5 rfl Tryz.underlying34 rfl sz30 rfl) rfl rfl ?_
      refine s_s (S_st (cs' := wL { d with floor := fl } ⟨cb2, 0, 384, g, 0, cap, ib, 0, ic⟩) rfl gt_ sz30 (by rfl) up_ (by rfl) (by simp only [List.length_cons, List.length_nil]; omega)) rfl ?_
      refine s_nil ?_
      refine q_bn ?_
      refine q_then ?_
      refine c_reg ?_
      refine s_y (Y_mv) rfl rfl ?_
      refine s_y ad_ rfl rfl ?_
      refine s_y (Y_as) rfl rfl ?_
      refine s_nil ?_
      refine hK (m2 - 1) (i + 1, .slice (some ⟨g, 0, none⟩) 32 cap, [eB g cap (mapI frE d.ents (i + 1))]) _ _ (by omega) ⟨by simp only; omega, .new (by rw [mapI_len]; omega) (by rw [mapI_len]; exact z2), fun _ => ⟨g, cap, rfl, hcap, rfl⟩⟩ ⟨rfl, trivial⟩ rfl (fun w h => ?_)
      exact h.pick2 (xs := [lB b3 [.slice (some ⟨cb2, 0, none⟩) 384 384, ev, iv'], cB cb2 384 m.cells, wB b2 wz, wB b1 (wL { d with floor := fl } ⟨cb2, 0, 384, g, 0, cap, ib, 0, ic⟩), iB ib ic (d.items.map keepI), eB g cap (mapI frE d.ents (i + 1))]) (R := B ++ (I ++ E)) ss_ (List.sublist_append_right _ _)
    · skip
      try simp only [nrm_] at hc11
      refine c_exit ?_
      repeat with_reducible refine q_te ?_
      refine q_exit ?_
      refine q_then ?_
      refine c_seq ?_
      refine c_seq ?_
      obtain ⟨g0, cap0, hv0, hc0, rfl⟩ := hnew (by omega)
      cases hv0
      rw [freeF_map d.ents (show d.ents.length ≤ i by omega)]
      clear hsl hln hP hnew
      refine c_reg ?_
      refine s_y (Y_asC) rfl rfl ?_
      refine s_nil ?_
      refine q_then ?_
      refine c_block ?_
      refine c_loop [7, 8, 9, 10, 64, 65, 66, 67, 68, 69, 70, 71, 72, 73, 74, 75, 76, 77, 78, 79, 80, 81, 82, 83, 84, 85, 86, 87, 88, 89, 90, 91] (fun m2 (y : Nat × List Ent × Nat × Nat) => y.1 + m2 = 4 ∧ y.2.1 = placeF m.cells d.ents (freeF d.ents) y.1 ∧ 32 ≤ y.2.2.2) (fun y => [(7, iv y.1)]) (fun y => lB b3 [.slice (some ⟨cb2, 0, none⟩) 384 384, ev, iv'] :: cB cb2 384 m.cells :: wB b2 wz :: wB b1 (wL { d with floor := fl } ⟨cb2, 0, 384, y.2.2.1, 0, y.2.2.2, ib, 0, ic⟩) :: iB ib ic (d.items.map keepI) :: eB y.2.2.1 y.2.2.2 y.2.1 :: (I ++ E)) (4) ((0, freeF d.ents, eb1, ec1)) (⟨rfl, rfl, hc0⟩) (by repeat (first | exact trivial | refine ⟨rfl, ?_⟩)) (fun _ h => h.sub sl_) (fun _ => rfl) ?_
      rintro m2 ⟨q, l, gb, gc⟩ j2 ⟨hq, hl, hgc⟩ K hK
      simp only at hq hl hgc ⊢
      have hll : l.length = 32 := by rw [hl, placeF_len]; unfold freeF; rw [List.length_map]; exact z2
      have hst := placeF_step m.cells d.ents (freeF d.ents) q
      rw [← hl] at hst
      refine c_seq ?_
      refine c_seq ?_
      refine c_reg ?_
      refine s_y (Y_mv) rfl rfl ?_
      refine s_y (Y_lss rfl rfl) rfl rfl ?_
      refine s_nil ?_
      refine q_then ?_
      first | refine c_cond' rfl (fun hc15 => ?_) (fun hc15 => ?_) | refine c_cond rfl (fun hc15 => ?_) (fun hc15 => ?_)
      · skip
        try simp only [nrm_] at hc15
        refine c_skip ?_
        refine q_then ?_
        refine c_seq ?_
        refine c_block ?_
        refine c_seq ?_
        refine c_reg ?_
        refine s_y (Y_mv) rfl rfl ?_
        refine s_y (Y_mv) rfl rfl ?_
        refine s_c (En_call (fun _ => rfl) Tryz.func54 rfl (by kernel_rfl) rfl) (fun w hH => rhero_d (he.hasM hM hH)) rfl rfl ?_
        rintro _ _ ⟨rfl, rfl⟩
        refine s_y (Y_as) rfl rfl ?_
        refine s_nil ?_
        refine q_then ?_
        refine c_seq ?_
        refine c_seq ?_
        refine c_reg ?_
        refine s_y (Y_mv) rfl rfl ?_
        refine s_y (Y_lss rfl rfl) rfl rfl ?_
        refine s_nil ?_
        refine q_then ?_
        first | refine c_cond' rfl (fun hc18 => ?_) (fun hc18 => ?_) | refine c_cond rfl (fun hc18 => ?_) (fun hc18 => ?_)
        · skip
          try simp only [nrm_] at hc18
          refine c_exit ?_
          repeat with_reducible refine q_te ?_
          refine q_exit ?_
          refine q_then ?_
          refine c_reg ?_
          refine s_y (Y_mv) rfl rfl ?_
          refine s_y ad_ rfl rfl ?_
          refine s_y (Y_as) rfl rfl ?_
          refine s_nil ?_
          refine hK (m2 - 1) (q + 1, l, gb, gc) _ _ (by omega) ⟨by simp only; omega, by simp only; rw [hst, if_pos hc18], hgc⟩ ⟨rfl, trivial⟩ rfl (fun w h => h)
        · skip
          try simp only [nrm_] at hc18
          refine c_skip ?_
          refine q_then ?_
          obtain ⟨r, e, hr, hre, he1, he2⟩ := eHero_some (rfl : eHero d.ents q = _) (by omega)
          have hrl := lt_of_get hre
          rw [hr, if_neg (by omega), egt_of hre, Int.toNat_natCast] at hst
          rw [hr]
          have hro := he.at' Ent.len hre
          obtain ⟨e2, hhe⟩ : ∃ z, (heroM m.cells l e).1 = z := ⟨_, rfl⟩
          rw [hhe] at hst
          refine c_seq ?_
          refine c_meetQ (ks := [9, 10, 73, 74, 75, 76, 77, 78, 79, 80, 81]) (tr := fun y : Nat => [(9, .pointer (some ⟨y, 0, none⟩))]) (φ := fun _ => True) (G := fun y => e1B y e2 :: lB b3 [.slice (some ⟨cb2, 0, none⟩) 384 384, ev, iv'] :: cB cb2 384 m.cells :: wB b2 wz :: wB b1 (wL { d with floor := fl } ⟨cb2, 0, 384, gb, 0, gc, ib, 0, ic⟩) :: iB ib ic (d.items.map keepI) :: eB gb gc l :: (I ++ E)) (fun _ => rfl) ?_ ?_
          · rintro bb j20 _
            refine q_then ?_
            refine c_seq ?_
            refine c_reg ?_
            refine s_n (N_bs0 rfl Tryz.underlying30 sz93) rfl rfl (fun b82 _ => ?_)
            refine s_y (Y_fa 5 rfl Tryz.underlying34 rfl sz30 rfl) rfl rfl ?_
            refine s_y (yl_ one30) rfl rfl ?_
            refine s_n (N_appE (m := 32) (news := ecells l) rfl rfl Tryz.underlying30 inf93 rfl (by omega) se_ (fun w hH => (eSl hH (b := gb) (c := gc) (l := l) mm_ hll hgc).src w (Has.start w)) (by rw [ecells_len, hll]) (one_e _) (by omega) (by omega)) rfl rfl (fun ⟨g85, cp85⟩ hc85 => ?_)
            refine s_y (Y_fa 5 rfl Tryz.underlying34 rfl sz30 rfl) rfl rfl ?_
            refine s_s (S_st (cs' := wL { d with floor := fl } ⟨cb2, 0, 384, g85, 0, cp85, ib, 0, ic⟩) rfl gt_ sz30 (by rfl) up_ (by rfl) (by simp only [List.length_cons, List.length_nil]; omega)) rfl ?_
            refine s_nil ?_
            refine q_then ?_
            refine c_reg ?_
            refine s_y (Y_fa 5 rfl Tryz.underlying34 rfl sz30 rfl) rfl rfl ?_
            refine s_y (yl_ one30) rfl rfl ?_
            refine s_y (Y_mv) rfl rfl ?_
            refine s_y (ya_ many93) rfl rfl ?_
            refine s_y (Y_ia (n := r) rfl rfl Tryz.underlying30 sz93 rfl (by omega)) rfl rfl ?_
            refine s_s (S_storeN (cs' := ecells (l.set r e2)) rfl rfl sz93 (by rfl) (by rfl) up_ (eall e2 (by omega)) (ble_e (by omega))) rfl ?_
            refine s_nil ?_
            refine q_bn ?_
            refine q_then ?_
            refine c_reg ?_
            refine s_y (Y_mv) rfl rfl ?_
            refine s_y ad_ rfl rfl ?_
            refine s_y (Y_as) rfl rfl ?_
            refine s_nil ?_
            refine hK (m2 - 1) (q + 1, l.set r e2, g85, cp85) _ _ (by omega) ⟨by simp only; omega, by simp only; exact hst.symm, hc85⟩ ⟨rfl, trivial⟩ rfl (fun w h => ?_)
            exact h.pick2 (xs := [lB b3 [.slice (some ⟨cb2, 0, none⟩) 384 384, ev, iv'], cB cb2 384 m.cells, wB b2 wz, wB b1 (wL { d with floor := fl } ⟨cb2, 0, 384, g85, 0, cp85, ib, 0, ic⟩), iB ib ic (d.items.map keepI), eB g85 cp85 (l.set r e2)]) (R := e1B bb e2 :: eB gb gc l :: (I ++ E)) ss_ (((List.Sublist.refl _).cons _).cons _)
          · intro go
            refine c_rall (L0 := [wB b1 (wL { d with floor := fl } ⟨cb2, 0, 384, gb, 0, gc, ib, 0, ic⟩)]) sl_ [] (.take 0 (.take 1 (.take 2 (.take 3 (.take 4 (.alt 5 (.take 6 (.take 7 (.take 8 (.one 9 (.one 10 (.take 11 .nil)))))) (.one 9 (.one 5 (.take 6 (.take 7 (.take 8 (.one 10 (.take 11 .nil))))))))))))) (by kernel_rfl) (by kernel_rfl) (by kernel_rfl) (by kernel_rfl) (by kernel_rfl) (by intro c a d v w h; cases d <;> exact h) rfl ?_
            refine t_y (ya_ many34) rfl rfl ?_
            refine t_y (Y_mv) rfl rfl ?_
            refine t_y (Y_mv) rfl rfl ?_
            refine t_y (Y_ia (n := r) rfl rfl Tryz.underlying30 sz93 rfl (by omega)) rfl rfl ?_
            refine t_y (Y_loadNR rfl many93 hro rfl hM) rfl rfl ?_
            refine t_two ?_ ?_
            · skip
              refine t_c (En_call (fun _ => rfl) Tryz.func87 rfl (by kernel_rfl) rfl) (fun w hH => rherocome_d (d := { d with floor := fl, cells := m.cells, items := d.items.map keepI, ents := l }) (s := ⟨cb2, 0, 384, gb, 0, gc, ib, 0, ic⟩) ⟨cSl hH (b := cb2) (c := 384) (l := m.cells) mm_ hml (by omega), eSl hH (b := gb) (c := gc) (l := l) mm_ hll hgc, iSl hH (b := ib) (c := ic) (l := d.items.map keepI) mm_ (by rw [List.length_map]; exact z3) l3⟩ (e := e)) (fun _ _ h => by obtain ⟨rfl, rfl⟩ := h; exact kp_) rfl rfl ?_
              rintro _ _ ⟨rfl, rfl⟩
              refine t_y (Y_mv) rfl rfl ?_
              refine t_y (Y_extract rfl rfl) rfl rfl ?_
              refine t_y (Y_extract rfl rfl) rfl rfl ?_
              refine t_n (N_alloc (z := .agg #[.int .i64 0, .int .i64 0, .int .i64 0, .int .i64 0, .int .i64 0, .int .i64 0, .int .i64 0, .int .i64 0, .int .i64 0, .int .i64 0, .int .i64 0]) (cs := [.int .i64 0, .int .i64 0, .int .i64 0, .int .i64 0, .int .i64 0, .int .i64 0, .int .i64 0, .int .i64 0, .int .i64 0, .int .i64 0, .int .i64 0]) zv93 rfl) (fun _ => kp_) rfl rfl (fun b9 _ => ?_)
              refine t_s (S_storeA (vs := e2.cells) rfl (by rw [← hhe]; rfl) sz93 (by rfl) (by rfl) up_ (by rfl)) kp_ rfl ?_
              refine t_y (Y_as) rfl rfl ?_
              refine t_nil ?_
              exact go b9 _ _ trivial ⟨rfl, trivial⟩ rfl (fun w h => h)
            refine t_n (N_alloc (z := .agg #[.int .i64 0, .int .i64 0, .int .i64 0, .int .i64 0, .int .i64 0, .int .i64 0, .int .i64 0, .int .i64 0, .int .i64 0, .int .i64 0, .int .i64 0]) (cs := [.int .i64 0, .int .i64 0, .int .i64 0, .int .i64 0, .int .i64 0, .int .i64 0, .int .i64 0, .int .i64 0, .int .i64 0, .int .i64 0, .int .i64 0]) zv93 rfl) (fun _ => kp_) rfl rfl (fun b9 _ => ?_)
            refine t_c (En_call (fun _ => rfl) Tryz.func87 rfl (by kernel_rfl) rfl) (fun w hH => rherocome_d (d := { d with floor := fl, cells := m.cells, items := d.items.map keepI, ents := l }) (s := ⟨cb2, 0, 384, gb, 0, gc, ib, 0, ic⟩) ⟨cSl hH (b := cb2) (c := 384) (l := m.cells) mm_ hml (by omega), eSl hH (b := gb) (c := gc) (l := l) mm_ hll hgc, iSl hH (b := ib) (c := ic) (l := d.items.map keepI) mm_ (by rw [List.length_map]; exact z3) l3⟩ (e := e)) (fun _ _ h => by obtain ⟨rfl, rfl⟩ := h; exact kp_) rfl rfl ?_
            rintro _ _ ⟨rfl, rfl⟩
            refine t_y (Y_mv) rfl rfl ?_
            refine t_y (Y_extract rfl rfl) rfl rfl ?_
            refine t_y (Y_extract rfl rfl) rfl rfl ?_
            refine t_s (S_storeA (vs := e2.cells) rfl (by rw [← hhe]; rfl) sz93 (by rfl) (by rfl) up_ (by rfl)) kp_ rfl ?_
            refine t_y (Y_as) rfl rfl ?_
            refine t_nil ?_
            exact go b9 _ _ trivial ⟨rfl, trivial⟩ rfl (fun w h => h)
      · skip
        try simp only [nrm_] at hc15
        refine c_exit ?_
        repeat with_reducible refine q_te ?_
        refine q_exit ?_
        refine q_then ?_
        refine c_seq ?_
        rw [show q = 4 by omega] at hl
        rw [← hl]
        obtain ⟨dd, hdd⟩ : ∃ z : Wd, ({ d with floor := fl, cells := m.cells, items := d.items.map keepI, ents := l } : Wd) = z := ⟨_, rfl⟩
        have hw5 : (stockW dd m).seed = d.seed ∧ (stockW dd m).cells = m.cells ∧ (stockW dd m).ents.length = 32 := by rw [← hdd]; exact ⟨rfl, rfl, by show (stockEnts _ _).length = 32; rw [stockEnts_len]; exact hll⟩
        refine c_reg ?_
        refine s_y (ya_ many34) rfl rfl ?_
        refine s_y (ya_ many138) rfl rfl ?_
        refine s_c (En_call (fun _ => rfl) Tryz.func76 rfl (by kernel_rfl) rfl) (fun w hH => rstockL_d (d := { d with floor := fl, cells := m.cells, items := d.items.map keepI, ents := l }) (s := ⟨cb2, 0, 384, gb, 0, gc, ib, 0, ic⟩) (m := m) ⟨cSl hH (b := cb2) (c := 384) (l := m.cells) mm_ hml (by omega), eSl hH (b := gb) (c := gc) (l := l) mm_ hll hgc, iSl hH (b := ib) (c := ic) (l := d.items.map keepI) mm_ (by rw [List.length_map]; exact z3) l3⟩ rfl (hE.slv hH (fun x hx => by repeat (first | exact hx | exact List.mem_append_left _ hx | exact List.mem_append_right _ hx | apply List.Mem.tail | apply List.mem_append_right))) (hI.slv hH (fun x hx => by repeat (first | exact hx | exact List.mem_append_left _ hx | exact List.mem_append_right _ hx | apply List.Mem.tail | apply List.mem_append_right)))) rfl rfl ?_
        rintro _ _ ⟨ev3, B3, ig, ic2, rfl, hP3, l4, rfl⟩
        obtain ⟨eb3, ec3, rfl, hB⟩ := hP3.open
        have hec : 32 ≤ ec3 := by
          rcases hB with ⟨_, _, h, _⟩ | ⟨h, h2, _⟩
          · have h : ec3 = gc := h
            omega
          · rw [h2] at h; exact h
        refine QL.conv (L' := [wB b2 wz, cB cb2 384 m.cells, eB eb3 ec3 (stockW { d with floor := fl, cells := m.cells, items := d.items.map keepI, ents := l } m).ents, iB ig ic2 (stockW { d with floor := fl, cells := m.cells, items := d.items.map keepI, ents := l } m).items]) (fun w hw => ?_) ?_
        · rcases hB with ⟨h1, rfl, rfl, rfl⟩ | ⟨_, _, rfl⟩
          · rw [h1]; exact hw.pick ss_
          · exact hw.pick ss_
        refine s_s (S_storeA (vs := wL (stockW { d with floor := fl, cells := m.cells, items := d.items.map keepI, ents := l } m) ⟨cb2, 0, 384, eb3, 0, ec3, ig, 0, ic2⟩) rfl rfl sz34 (by rfl) (by rfl) up_ (by rfl)) rfl ?_
        refine s_nil ?_
        refine q_then ?_
        refine c_ret ?_
        refine q_retW rfl rfl many34 ss_ (Nat.le_refl _) hec l4
end
end Go.Proofs.YtcogbkkdccohfaaGreat
namespace Go.Ad
open Go.RowKit Go.Maps Go.Proofs.YtcogbkkdccohfaaGreat
def acells (a : Acts) : List Value := a.flatMap Deed.cells
theorem Deed.len (a : Deed) : a.cells.length = 3 := rfl
theorem acells_len (a : Acts) : (acells a).length = a.length * 3 := fl_len Deed.len a
theorem dgt_of {a : Acts} {s : Nat} (h : s < a.length) : a[s]? = some (dgt a s) := by
  unfold dgt
  rw [List.getD_eq_getElem?_getD, List.getElem?_eq_getElem h]; rfl
theorem aget {a : Acts} {s j : Nat} {v : Value} (h : s < a.length) (hj : (dgt a s).cells[j]? = some v) : (acells a)[0 + s * 3 + j]? = some v := by rw [Nat.zero_add]; exact fl_get Deed.len (dgt_of h) hj
theorem Has.ne {W w : World} {M : List Nat} {L R : List Bk} {x y : Bk} (hH : Has W M L w) (hs : Sels [x, y] L R) : x.b ≠ y.b := by
  have h := (hH.pick hs).nd
  simp only [List.map_cons, List.map_nil, List.nodup_cons, List.mem_singleton] at h
  exact h.1
theorem find_rng (cells : List UInt8) (k : Int) : findM cells k < 0 ∨ (0 ≤ findM cells k ∧ findM cells k < 384) := by
  by_cases h : 0 ≤ findM cells k
  · obtain ⟨i, h1, h2, _⟩ := find_at rfl h
    exact .inr (by omega)
  · exact .inl (by omega)
end Go.Ad
namespace Go.Proofs.YtcogbkkdccohfaaGreat
open Go.RowKit Go.Ad Go.Maps
set_option linter.unusedVariables false
set_option linter.unusedSimpArgs false
theorem ActP.open {d d' : Wd} {cb cc eb ec ib ic : Nat} {v : Value} {B : List Bk} (h : ActP d ⟨cb, 0, cc, eb, 0, ec, ib, 0, ic⟩ d' v B) (l1 : 384 ≤ cc) (l2 : 32 ≤ ec) (l3 : 40 ≤ ic) :
    ∃ cb1 cc1 eb1 ec1 ib1 ic1, v = .agg (wL d' ⟨cb1, 0, cc1, eb1, 0, ec1, ib1, 0, ic1⟩).toArray ∧ 384 ≤ cc1 ∧ 32 ≤ ec1 ∧ 40 ≤ ic1 ∧ ∀ {W w : World} {M : List Nat} {R : List Bk}, Has W M (B ++ (cB cb cc d.cells :: eB eb ec d.ents :: iB ib ic d.items :: R)) w → Has W M (cB cb1 cc1 d'.cells :: eB eb1 ec1 d'.ents :: iB ib1 ic1 d'.items :: R) w := by
  rcases h with ⟨rfl, rfl, rfl⟩ | ⟨cb1, cc1, eb1, ec1, ib1, ic1, rfl, rfl, m1, m2, m3⟩
  · exact ⟨cb, cc, eb, ec, ib, ic, rfl, l1, l2, l3, fun h => h⟩
  · exact ⟨cb1, cc1, eb1, ec1, ib1, ic1, rfl, m1, m2, m3, fun h => h.pick2 (xs := [cB cb1 cc1 d'.cells, eB eb1 ec1 d'.ents, iB ib1 ic1 d'.items]) ss_ (((List.Sublist.refl _).cons _).cons _ |>.cons _)⟩
theorem EntsP.conv {b c : Nat} {l l' : List Ent} {v : Value} {B : List Bk} (h : EntsP b 0 32 c l l' v B) (hc : 32 ≤ c) : ∃ b1 c1, v = .slice (some ⟨b1, 0, none⟩) 32 c1 ∧ 32 ≤ c1 ∧ ∀ {W w : World} {M : List Nat} {R : List Bk}, Has W M (B ++ (eB b c l :: R)) w → Has W M (eB b1 c1 l' :: R) w := by
  obtain ⟨b1, c1, rfl, k⟩ := h.open
  rcases k with ⟨rfl, rfl, rfl, rfl⟩ | ⟨h1, h2, rfl⟩
  · exact ⟨b1, c1, rfl, hc, fun h => h⟩
  · exact ⟨b1, c1, rfl, by omega, fun h => h.pick2 (xs := [eB b1 c1 l']) ss_ ((List.Sublist.refl _).cons _)⟩
abbrev actB (b : Nat) (a : Acts) : Bk := ⟨b, 79, (acells a).length, 1, acells a⟩
theorem comesM_step (cells : List UInt8) (l : List Ent) (a : Acts) (s : Nat) : comesM cells l a (s + 1) = comeM cells (comesM cells l a s) a s := rfl
theorem seatsM_step (w : Wd) (a : Acts) (s : Nat) : seatsM w a (s + 1) = seatM (seatsM w a s) (dgt a s) s := rfl
theorem foesW_step (w : Wd) (i : Nat) : foesW w (i + 1) = foeM (foesW w i) i := rfl
section
variable {W : World}
set_option maxRecDepth 100000 in
set_option maxHeartbeats 6400000 in
theorem rstep_d {d : Wd} {s : Ws} (hw : WL W d s) (hv : VW d) (hf : -1000000000000 ≤ d.frame ∧ d.frame ≤ 1000000000000) {a : Acts} (ha : a.length = 4) : Does Tryz.prog 49 [.agg (wL d s).toArray, .agg (acells a).toArray] W [] (WN (stepM d a)) := by
  obtain ⟨z1, z2, z3⟩ := hw.sz
  obtain ⟨fr, hfr⟩ : ∃ q, d.frame + 1 = q := ⟨_, rfl⟩
  have hst : stepM d a = if d.state ≠ 0 then { d with frame := fr } else endM (midM (seatsM { d with frame := fr, ents := comesM d.cells d.ents a 4 } a 4).1) (someM d.ents || someM (comesM d.cells d.ents a 4)) (seatsM { d with frame := fr, ents := comesM d.cells d.ents a 4 } a 4).2 := by rw [← hfr]; rfl
  have hv1 : VW { d with frame := fr } := hv.frames fr
  rw [hst]
  clear hst
  have hal : (acells a).length = 12 := by rw [acells_len, ha]
  refine enter Tryz.func49 rfl rfl rfl (Has.start _) ?_
  refine c_seq ?_
  refine c_reg ?_
  refine s_n (N_box (cs := wL d s) rfl) rfl rfl (fun b2 _ => ?_)
  refine s_n (N_box (cs := acells a) rfl) rfl rfl (fun b3 _ => ?_)
  refine s_n (N_alloc (z := .agg #[.int .i64 0, .int .i64 0, .int .i64 0, .int .i64 0, .slice none 0 0, .slice none 0 0, .slice none 0 0, .int .i64 0, .int .i64 0, .int .i64 0, .int .i64 0]) (cs := [.int .i64 0, .int .i64 0, .int .i64 0, .int .i64 0, .slice none 0 0, .slice none 0 0, .slice none 0 0, .int .i64 0, .int .i64 0, .int .i64 0, .int .i64 0]) zv34 rfl) rfl rfl (fun b4 _ => ?_)
  refine s_nil ?_
  refine q_then ?_
  refine c_seq ?_
  refine c_reg ?_
  refine s_y (ya_ many34) rfl rfl ?_
  refine s_c (En_call (fun _ => rfl) Tryz.func51 rfl (by kernel_rfl) rfl) (fun w hH => rtwin_d (hw.has hH)) rfl rfl ?_
  rintro _ _ ⟨cb, cc, eb, ec, ib, ic, rfl, rfl, l1, l2, l3⟩
  refine s_s (S_storeA (vs := wL d ⟨cb, 0, cc, eb, 0, ec, ib, 0, ic⟩) rfl rfl sz34 (by rfl) (by rfl) up_ (by rfl)) rfl ?_
  refine s_nil ?_
  refine q_then ?_
  refine c_seq ?_
  refine c_reg ?_
  refine s_y (Y_fa 1 rfl Tryz.underlying34 rfl sz3 rfl) rfl rfl ?_
  refine s_y (yl_ one3) rfl rfl ?_
  refine s_y ((Y_add rfl rfl (by omega)).num hfr) rfl rfl ?_
  refine s_y (Y_fa 1 rfl Tryz.underlying34 rfl sz3 rfl) rfl rfl ?_
  refine s_s (S_st (cs' := wL { d with frame := fr } ⟨cb, 0, cc, eb, 0, ec, ib, 0, ic⟩) rfl gt_ sz3 (by rfl) up_ (by rfl) (by simp only [List.length_cons, List.length_nil]; omega)) rfl ?_
  refine s_nil ?_
  refine q_then ?_
  refine c_seq ?_
  refine c_seq ?_
  refine c_reg ?_
  refine s_y (Y_fa 3 rfl Tryz.underlying34 rfl sz3 rfl) rfl rfl ?_
  refine s_y (yl_ one3) rfl rfl ?_
  refine s_y (Y_neq rfl rfl) rfl rfl ?_
  refine s_nil ?_
  refine q_then ?_
  first | refine c_cond' rfl (fun hc3 => ?_) (fun hc3 => ?_) | refine c_cond rfl (fun hc3 => ?_) (fun hc3 => ?_)
  · skip
    try simp only [nrm_] at hc3
    refine c_seq ?_
    refine c_reg ?_
    refine s_y (ya_ many34) rfl rfl ?_
    refine s_s ((sa_ sz34)) rfl ?_
    refine s_nil ?_
    refine q_then ?_
    refine c_ret ?_
    rw [if_pos hc3]
    refine q_retW rfl rfl many34 ss_ l1 l2 l3
  · skip
    try simp only [nrm_] at hc3
    refine c_skip ?_
    refine q_then ?_
    refine c_seq ?_
    rw [if_neg (by omega)]
    refine c_reg ?_
    refine s_y (ya_ many34) rfl rfl ?_
    refine s_c (En_call (fun _ => rfl) Tryz.func85 rfl (by kernel_rfl) rfl) (fun w hH => rsome_d (d := { d with frame := fr }) (wl_of (d := { d with frame := fr }) hH ⟨z1, z2, z3⟩ (cb := cb) (cc := cc) (eb := eb) (ec := ec) (ib := ib) (ic := ic) mm_ mm_ mm_ l1 l2 l3)) rfl rfl ?_
    rintro _ _ ⟨rfl, rfl⟩
    refine s_y (Y_as) rfl rfl ?_
    refine s_nil ?_
    refine q_then ?_
    refine c_seq ?_
    refine c_seq ?_
    refine c_reg ?_
    refine s_y (Y_asC) rfl rfl ?_
    refine s_nil ?_
    refine q_then ?_
    refine c_block ?_
    refine c_loop [6, 7, 8, 29, 30, 31, 32, 33, 34, 35, 36, 37, 38, 39, 40, 41, 42, 43, 44, 45, 46, 47, 48, 49, 50, 51, 52, 53, 54, 55, 56, 57, 58] (fun m (y : Nat × List Ent × Nat × Nat) => y.1 + m = 4 ∧ y.2.1 = comesM d.cells d.ents a y.1 ∧ 32 ≤ y.2.2.2) (fun y => [(6, iv y.1)]) (fun y => [eB y.2.2.1 y.2.2.2 y.2.1, cB cb cc d.cells, iB ib ic d.items, wB b4 wz, actB b3 a, wB b2 (wL { d with frame := fr } ⟨cb, 0, cc, y.2.2.1, 0, y.2.2.2, ib, 0, ic⟩)]) (4) ((0, d.ents, eb, ec)) (⟨rfl, rfl, l2⟩) (by repeat (first | exact trivial | refine ⟨rfl, ?_⟩)) (fun w h => h.pick ss_) (fun _ => rfl) ?_
    rintro m ⟨q, l, eb, ec⟩ j ⟨hq, hl, l2⟩ K hK
    simp only at hq hl l2 ⊢
    have hll : l.length = 32 := by rw [hl, comes_len]; exact z2
    have hcs := comesM_step d.cells d.ents a q
    rw [← hl] at hcs
    obtain ⟨x, hx⟩ : ∃ z, dgt a q = z := ⟨_, rfl⟩
    refine c_seq ?_
    refine c_seq ?_
    refine c_reg ?_
    refine s_y (Y_mv) rfl rfl ?_
    refine s_y (Y_lss rfl rfl) rfl rfl ?_
    refine s_nil ?_
    refine q_then ?_
    first | refine c_cond' rfl (fun hc7 => ?_) (fun hc7 => ?_) | refine c_cond rfl (fun hc7 => ?_) (fun hc7 => ?_)
    · skip
      try simp only [nrm_] at hc7
      refine c_skip ?_
      refine q_then ?_
      refine c_seq ?_
      refine c_block ?_
      refine c_seq ?_
      refine c_reg ?_
      refine s_y (Y_mv) rfl rfl ?_
      refine s_y (Y_iaA (n := q) rfl rfl Tryz.underlying79 sz77 rfl (by omega)) rfl rfl ?_
      refine s_y (Y_fa 2 rfl Tryz.underlying77 rfl sz4 rfl) rfl rfl ?_
      refine s_y (Y_load (v := .bool x.spawn) rfl one4 mm_ (aget (by omega) (by rw [hx]; rfl))) rfl rfl ?_
      refine s_y (Y_mv) rfl rfl ?_
      apply s_and 6 [37, 38, 39, 40, 41, 42, 43] 43 (g := 37) rfl rfl
      · intro ht5 hm
        try simp only [nrm_] at ht5
        first | refine s_y (Y_fa 5 rfl Tryz.underlying34 rfl sz30 rfl) rfl rfl ?_ | refine s_pass rfl rfl ?_
        first | refine s_y (yl_ one30) rfl rfl ?_ | refine s_pass rfl rfl ?_
        first | refine s_y (Y_mv) rfl rfl ?_ | refine s_pass rfl rfl ?_
        refine s_c (En_call (fun _ => rfl) Tryz.func54 rfl (by kernel_rfl) rfl) (fun w hH => rhero_d (eSl hH (b := eb) (c := ec) (l := l) mm_ hll l2)) rfl rfl ?_
        rintro _ _ ⟨rfl, rfl⟩
        first | refine s_y (Y_lss rfl rfl) rfl rfl ?_ | refine s_pass rfl rfl ?_
        refine s_y (Y_pk rfl (Gx.tmp gt_) Gx.const) rfl rfl ?_
        first | exact hm _ ⟨rfl, trivial⟩ rfl | exact QL.sub sl_ (hm _ ⟨rfl, trivial⟩ rfl)
      · intro ht5 hm
        iterate 5 refine s_pass rfl rfl ?_
        refine s_y (Y_pk rfl (Gx.tmp gt_) Gx.const) rfl rfl ?_
        exact hm _ ⟨rfl, trivial⟩ rfl
      intro j43
      refine s_nil ?_
      refine q_then ?_
      first | refine c_cond' rfl (fun hc9 => ?_) (fun hc9 => ?_) | refine c_cond rfl (fun hc9 => ?_) (fun hc9 => ?_)
      · skip
        try simp only [nrm_] at hc9
        refine c_seq ?_
        have hcm : comeM d.cells l a q = if (heroM d.cells l { statsM 1 with seat := q }).2 = true then spawnedM l (heroM d.cells l { statsM 1 with seat := q }).1 else l := by
          unfold comeM
          rw [hx, if_pos hc9]
        rw [hcm] at hcs
        clear hcm
        refine c_reg ?_
        refine s_c (En_call (fun _ => rfl) Tryz.func86 rfl (by kernel_rfl) rfl) (fun w hH => rstats_d) rfl rfl ?_
        rintro _ _ ⟨rfl, rfl⟩
        refine s_n (N_alloc (z := .agg #[.int .i64 0, .int .i64 0, .int .i64 0, .int .i64 0, .int .i64 0, .int .i64 0, .int .i64 0, .int .i64 0, .int .i64 0, .int .i64 0, .int .i64 0]) (cs := [.int .i64 0, .int .i64 0, .int .i64 0, .int .i64 0, .int .i64 0, .int .i64 0, .int .i64 0, .int .i64 0, .int .i64 0, .int .i64 0, .int .i64 0]) zv93 rfl) rfl rfl (fun b7 _ => ?_)
        refine s_s (S_storeA (vs := (statsM 1).cells) rfl rfl sz93 (by rfl) (by rfl) up_ (by rfl)) rfl ?_
        refine s_nil ?_
        refine q_then ?_
        refine c_seq ?_
        refine c_reg ?_
        refine s_y (Y_mv) rfl rfl ?_
        refine s_y (Y_fa 2 rfl Tryz.underlying93 rfl sz3 rfl) rfl rfl ?_
        refine s_s (S_st (cs' := ({ statsM 1 with seat := q } : Ent).cells) rfl gt_ sz3 (by rfl) up_ (by rfl) (by rw [Ent.len]; decide)) rfl ?_
        refine s_nil ?_
        obtain ⟨e0, he0⟩ : ∃ z : Ent, ({ statsM 1 with seat := q } : Ent) = z := ⟨_, rfl⟩
        rw [he0] at hcs ⊢
        refine q_then ?_
        refine c_seq ?_
        refine c_reg ?_
        refine s_y (ya_ many34) rfl rfl ?_
        refine s_y (ya_ many93) rfl rfl ?_
        refine s_c (En_call (fun _ => rfl) Tryz.func87 rfl (by kernel_rfl) rfl) (fun w hH => rherocome_d (d := { d with frame := fr, ents := l }) (e := e0) (wl_of (d := { d with frame := fr, ents := l }) hH ⟨z1, hll, z3⟩ (cb := cb) (cc := cc) (eb := eb) (ec := ec) (ib := ib) (ic := ic) mm_ mm_ mm_ l1 l2 l3)) rfl rfl ?_
        rintro _ _ ⟨rfl, rfl⟩
        obtain ⟨e1, he1⟩ : ∃ z, (heroM d.cells l e0).1 = z := ⟨_, rfl⟩
        obtain ⟨is, his⟩ : ∃ z, (heroM d.cells l e0).2 = z := ⟨_, rfl⟩
        simp only [he1, his] at hcs ⊢
        refine s_y (Y_mv) rfl rfl ?_
        refine s_y (Y_extract rfl rfl) rfl rfl ?_
        refine s_y (Y_extract rfl rfl) rfl rfl ?_
        refine s_s (S_storeA (vs := e1.cells) rfl rfl sz93 (by rfl) (by rfl) up_ (by rfl)) rfl ?_
        refine s_y (Y_as) rfl rfl ?_
        refine s_nil ?_
        refine q_then ?_
        refine c_seq ?_
        refine c_reg ?_
        refine s_y (Y_mv) rfl rfl ?_
        refine s_nil ?_
        refine q_then ?_
        refine c_cond (t := is) rfl (fun hc13 => ?_) (fun hc13 => ?_)
        · skip
          try simp only [nrm_] at hc13
          refine QL.pick (L' := [eB eb ec l, cB cb cc d.cells, iB ib ic d.items, wB b4 wz, actB b3 a, wB b2 (wL { d with frame := fr } ⟨cb, 0, cc, eb, 0, ec, ib, 0, ic⟩), e1B b7 e1]) ss_ ?_
          refine c_reg ?_
          refine s_y (Y_fa 5 rfl Tryz.underlying34 rfl sz30 rfl) rfl rfl ?_
          refine s_y (yl_ one30) rfl rfl ?_
          refine s_y (ya_ many93) rfl rfl ?_
          refine s_c (En_call (fun _ => rfl) Tryz.func88 rfl (by kernel_rfl) rfl) (fun w hH => rspawned_d (eSl hH (b := eb) (c := ec) (l := l) mm_ hll l2) (by omega) e1) rfl rfl ?_
          rintro _ _ hP
          rename_i B
          obtain ⟨eb1, ec1, rfl, m2, hc⟩ := hP.conv l2
          refine QL.conv (fun w hw => hc hw) ?_
          refine s_y (Y_fa 5 rfl Tryz.underlying34 rfl sz30 rfl) rfl rfl ?_
          refine s_s (S_st (cs' := wL { d with frame := fr } ⟨cb, 0, cc, eb1, 0, ec1, ib, 0, ic⟩) rfl gt_ sz30 (by rfl) up_ (by rfl) (by simp only [List.length_cons, List.length_nil]; omega)) rfl ?_
          refine s_nil ?_
          refine q_bn ?_
          refine q_then ?_
          refine c_reg ?_
          refine s_y (Y_mv) rfl rfl ?_
          refine s_y ad_ rfl rfl ?_
          refine s_y (Y_as) rfl rfl ?_
          refine s_nil ?_
          rw [if_pos hc13] at hcs
          refine hK (m - 1) (q + 1, spawnedM l e1, eb1, ec1) _ _ (by omega) ⟨by simp only; omega, by simp only; exact hcs.symm, m2⟩ ⟨rfl, trivial⟩ rfl (fun w h => h.pick ss_)
        · skip
          try simp only [nrm_] at hc13
          refine c_skip ?_
          refine q_bn ?_
          refine q_then ?_
          refine c_reg ?_
          refine s_y (Y_mv) rfl rfl ?_
          refine s_y ad_ rfl rfl ?_
          refine s_y (Y_as) rfl rfl ?_
          refine s_nil ?_
          rw [if_neg (by rw [hc13]; decide)] at hcs
          refine hK (m - 1) (q + 1, l, eb, ec) _ _ (by omega) ⟨by simp only; omega, by simp only; exact hcs.symm, l2⟩ ⟨rfl, trivial⟩ rfl (fun w h => h.pick ss_)
      · skip
        try simp only [nrm_] at hc9
        refine c_skip ?_
        refine q_bn ?_
        refine q_then ?_
        refine c_reg ?_
        refine s_y (Y_mv) rfl rfl ?_
        refine s_y ad_ rfl rfl ?_
        refine s_y (Y_as) rfl rfl ?_
        refine s_nil ?_
        have hcm : comeM d.cells l a q = l := by
          unfold comeM
          rw [hx, if_neg (by rintro ⟨q1, q2⟩; rcases hc9 with h | h; rw [q1] at h; cases h; exact h q2)]
        rw [hcm] at hcs
        refine hK (m - 1) (q + 1, l, eb, ec) _ _ (by omega) ⟨by simp only; omega, by simp only; exact hcs.symm, l2⟩ ⟨rfl, trivial⟩ rfl (fun w h => h)
    · skip
      try simp only [nrm_] at hc7
      refine c_exit ?_
      repeat with_reducible refine q_te ?_
      refine q_exit ?_
      refine q_then ?_
      refine c_seq ?_
      rw [show q = 4 by omega] at hl
      clear hcs hx
      have hv2 : VW { d with frame := fr, ents := l } := by rw [hl]; exact hv1.come a
      rw [← hl]
      refine c_reg ?_
      refine s_y (Y_mv) rfl rfl ?_
      refine s_y (Y_mv) rfl rfl ?_
      apply s_or 3 [60, 61, 62, 63] 63 (g := 60) rfl rfl
      · intro ht2 hm
        try simp only [nrm_] at ht2
        first | refine s_y (ya_ many34) rfl rfl ?_ | refine s_pass rfl rfl ?_
        refine s_c (En_call (fun _ => rfl) Tryz.func85 rfl (by kernel_rfl) rfl) (fun w hH => rsome_d (d := { d with frame := fr, ents := l }) (wl_of (d := { d with frame := fr, ents := l }) hH ⟨z1, hll, z3⟩ (cb := cb) (cc := cc) (eb := eb) (ec := ec) (ib := ib) (ic := ic) mm_ mm_ mm_ l1 l2 l3)) rfl rfl ?_
        rintro _ _ ⟨rfl, rfl⟩
        refine s_y (Y_pk rfl Gx.const (Gx.tmp gt_)) rfl rfl ?_
        first | exact hm _ ⟨rfl, trivial⟩ rfl | exact QL.sub sl_ (hm _ ⟨rfl, trivial⟩ rfl)
      · intro ht2 hm
        iterate 2 refine s_pass rfl rfl ?_
        refine s_y (Y_pk rfl Gx.const (Gx.tmp gt_)) rfl rfl ?_
        exact hm _ ⟨rfl, trivial⟩ rfl
      intro j63
      refine s_y (Y_as) rfl rfl ?_
      refine s_nil ?_
      obtain ⟨had, hhad⟩ : ∃ z, (someM d.ents || someM l) = z := ⟨_, rfl⟩
      simp only [hhad]
      obtain ⟨d2, hd2⟩ : ∃ z : Wd, ({ d with frame := fr, ents := l } : Wd) = z := ⟨_, rfl⟩
      have hs2 : d.cells = d2.cells ∧ l = d2.ents ∧ d.items = d2.items ∧ (∀ s, wL { d with frame := fr } s = wL d2 s) := by rw [← hd2]; exact ⟨rfl, rfl, rfl, fun _ => rfl⟩
      obtain ⟨y1, y2, y3, y4⟩ := hs2
      rw [hd2] at hv2 ⊢
      rw [y4 ⟨cb, 0, cc, eb, 0, ec, ib, 0, ic⟩, y1, y3, y2]
      clear y1 y3 y4 hd2 hl
      refine q_then ?_
      refine c_seq ?_
      refine c_reg ?_
      refine s_y (Y_asC) rfl rfl ?_
      refine s_nil ?_
      refine q_then ?_
      refine c_seq ?_
      refine c_seq ?_
      refine c_reg ?_
      refine s_y (Y_asC) rfl rfl ?_
      refine s_nil ?_
      refine q_then ?_
      refine c_block ?_
      refine c_loop [9, 10, 11, 12, 64, 65, 66, 67, 68, 69, 70, 71, 72, 73, 74, 75, 76, 77, 78, 79, 80, 81, 82, 83, 84, 85, 86, 87, 88, 89, 90, 91, 92, 93, 94, 95, 96, 97, 98, 99, 100, 101, 102, 103, 104, 105, 106, 107, 108, 109, 110, 111, 112, 113, 114, 115, 116, 117, 118, 119, 120, 121, 122, 123, 124, 125, 126, 127, 128, 129, 130, 131, 132, 133, 134, 135, 136, 137, 138, 139, 140, 141, 142, 143, 144, 145] (fun m (y : Nat × Wd × Bool × Nat × Nat × Nat × Nat × Nat × Nat) => y.1 + m = 4 ∧ seatsM d2 a y.1 = (y.2.1, y.2.2.1) ∧ 384 ≤ y.2.2.2.2.1 ∧ 32 ≤ y.2.2.2.2.2.2.1 ∧ 40 ≤ y.2.2.2.2.2.2.2.2) (fun y => [(10, iv y.1), (9, .bool y.2.2.1)]) (fun y => [cB y.2.2.2.1 y.2.2.2.2.1 y.2.1.cells, eB y.2.2.2.2.2.1 y.2.2.2.2.2.2.1 y.2.1.ents, iB y.2.2.2.2.2.2.2.1 y.2.2.2.2.2.2.2.2 y.2.1.items, wB b4 wz, actB b3 a, wB b2 (wL y.2.1 ⟨y.2.2.2.1, 0, y.2.2.2.2.1, y.2.2.2.2.2.1, 0, y.2.2.2.2.2.2.1, y.2.2.2.2.2.2.2.1, 0, y.2.2.2.2.2.2.2.2⟩)]) (4) ((0, d2, false, cb, cc, eb, ec, ib, ic)) (⟨rfl, rfl, l1, l2, l3⟩) (by repeat (first | exact trivial | refine ⟨rfl, ?_⟩)) (fun w h => h.pick ss_) (fun _ => rfl) ?_
      rintro m ⟨s, u, left, cb, cc, eb, ec, ib, ic⟩ j2 ⟨hs, hu, l1, l2, l3⟩ K hK
      simp only at hs hu l1 l2 l3 ⊢
      have hvu : VW u := by
        have := hv2.seats a s
        rw [hu] at this; exact this
      obtain ⟨u1, u2, u3⟩ := hvu.sz
      have hss := seatsM_step d2 a s
      rw [hu] at hss
      obtain ⟨x, hx⟩ : ∃ z, dgt a s = z := ⟨_, rfl⟩
      rw [hx] at hss
      refine c_seq ?_
      refine c_seq ?_
      refine c_reg ?_
      refine s_y (Y_mv) rfl rfl ?_
      refine s_y (Y_lss rfl rfl) rfl rfl ?_
      refine s_nil ?_
      refine q_then ?_
      first | refine c_cond' rfl (fun hc18 => ?_) (fun hc18 => ?_) | refine c_cond rfl (fun hc18 => ?_) (fun hc18 => ?_)
      · skip
        try simp only [nrm_] at hc18
        refine c_skip ?_
        refine q_then ?_
        refine c_seq ?_
        refine c_block ?_
        refine c_seq ?_
        refine c_reg ?_
        refine s_y (Y_fa 5 rfl Tryz.underlying34 rfl sz30 rfl) rfl rfl ?_
        refine s_y (yl_ one30) rfl rfl ?_
        refine s_y (Y_mv) rfl rfl ?_
        refine s_c (En_call (fun _ => rfl) Tryz.func54 rfl (by kernel_rfl) rfl) (fun w hH => rhero_d (eSl hH (b := eb) (c := ec) (l := u.ents) mm_ u2 l2)) rfl rfl ?_
        rintro _ _ ⟨rfl, rfl⟩
        refine s_y (Y_as) rfl rfl ?_
        refine s_nil ?_
        have hhr : eHero u.ents s < 0 ∨ (0 ≤ eHero u.ents s ∧ eHero u.ents s < 32) := by
          by_cases h : 0 ≤ eHero u.ents s
          · obtain ⟨r, e, h1, h2, _⟩ := eHero_some rfl h
            have := lt_of_get h2
            exact .inr (by omega)
          · exact .inl (by omega)
        have hsm : seatM (u, left) x s = if eHero u.ents s < 0 ∨ 0 < (egt u.ents (eHero u.ents s)).stun ∨ (x.how ≠ 1 ∧ x.how ≠ 2) then (u, left) else
            (if 1 ≤ (if x.how = 2 then robotM u s else x.input) ∧ (if x.how = 2 then robotM u s else x.input) ≤ 4 then (actM u (eHero u.ents s) (if x.how = 2 then robotM u s else x.input) false, left)
            else if (if x.how = 2 then robotM u s else x.input) = 9 then (u, left || decide (atM u.cells (egt u.ents (eHero u.ents s)).x (egt u.ents (eHero u.ents s)).y = 4))
            else (doM u s (if x.how = 2 then robotM u s else x.input), left)) := rfl
        rw [hsm] at hss
        clear hsm
        obtain ⟨h, hh⟩ : ∃ z, eHero u.ents s = z := ⟨_, rfl⟩
        rw [hh] at hss hhr ⊢
        refine q_then ?_
        refine c_seq ?_
        refine c_seq ?_
        refine c_reg ?_
        refine s_y (Y_mv) rfl rfl ?_
        refine s_y (Y_lss rfl rfl) rfl rfl ?_
        refine s_y (Y_mv) rfl rfl ?_
        apply s_or 8 [74, 75, 76, 77, 78, 79, 80, 81, 82] 82 (g := 74) rfl rfl
        · intro ht3 hm
          try simp only [nrm_] at ht3
          first | refine s_y (Y_fa 5 rfl Tryz.underlying34 rfl sz30 rfl) rfl rfl ?_ | refine s_pass rfl rfl ?_
          first | refine s_y (yl_ one30) rfl rfl ?_ | refine s_pass rfl rfl ?_
          first | refine s_y (Y_mv) rfl rfl ?_ | refine s_pass rfl rfl ?_
          first | refine s_y (Y_ia (n := h.toNat) rfl rfl Tryz.underlying30 sz93 (by omega) (by omega)) rfl rfl ?_ | refine s_pass rfl rfl ?_
          first | refine s_y (Y_fa 10 rfl Tryz.underlying93 rfl sz3 rfl) rfl rfl ?_ | refine s_pass rfl rfl ?_
          first | refine s_y (Y_load (v := iv (egt u.ents h).stun) rfl one3 mm_ (eget (eget_of (by omega) (by omega)) rfl)) rfl rfl ?_ | refine s_pass rfl rfl ?_
          first | refine s_y (Y_gtr rfl rfl) rfl rfl ?_ | refine s_pass rfl rfl ?_
          refine s_y (Y_pk rfl Gx.const (Gx.tmp gt_)) rfl rfl ?_
          first | exact hm _ ⟨rfl, trivial⟩ rfl | exact QL.sub sl_ (hm _ ⟨rfl, trivial⟩ rfl)
        · intro ht3 hm
          iterate 7 refine s_pass rfl rfl ?_
          refine s_y (Y_pk rfl Gx.const (Gx.tmp gt_)) rfl rfl ?_
          exact hm _ ⟨rfl, trivial⟩ rfl
        intro j82
        refine s_y (Y_mv) rfl rfl ?_
        apply s_or 13 [83, 84, 85, 86, 87, 88, 89, 90, 91, 92, 93, 94, 95, 96] 96 (g := 83) rfl rfl
        · intro ht12 hm
          try simp only [nrm_] at ht12
          first | refine s_y (Y_mv) rfl rfl ?_ | refine s_pass rfl rfl ?_
          first | refine s_y (Y_iaA (n := s) rfl rfl Tryz.underlying79 sz77 rfl (by omega)) rfl rfl ?_ | refine s_pass rfl rfl ?_
          first | refine s_y (Y_fa 0 rfl Tryz.underlying77 rfl sz3 rfl) rfl rfl ?_ | refine s_pass rfl rfl ?_
          first | refine s_y (Y_load (v := iv x.how) rfl one3 mm_ (aget (by omega) (by rw [hx]; rfl))) rfl rfl ?_ | refine s_pass rfl rfl ?_
          first | refine s_y (Y_neq rfl rfl) rfl rfl ?_ | refine s_pass rfl rfl ?_
          first | refine s_y (Y_mv) rfl rfl ?_ | refine s_pass rfl rfl ?_
          apply s_and 6 [89, 90, 91, 92, 93, 94, 95] 95 (g := 89) rfl rfl
          · intro ht18 hm
            try simp only [nrm_] at ht18
            first | refine s_y (Y_mv) rfl rfl ?_ | refine s_pass rfl rfl ?_
            first | refine s_y (Y_iaA (n := s) rfl rfl Tryz.underlying79 sz77 rfl (by omega)) rfl rfl ?_ | refine s_pass rfl rfl ?_
            first | refine s_y (Y_fa 0 rfl Tryz.underlying77 rfl sz3 rfl) rfl rfl ?_ | refine s_pass rfl rfl ?_
            first | refine s_y (Y_load (v := iv x.how) rfl one3 mm_ (aget (by omega) (by rw [hx]; rfl))) rfl rfl ?_ | refine s_pass rfl rfl ?_
            first | refine s_y (Y_neq rfl rfl) rfl rfl ?_ | refine s_pass rfl rfl ?_
            first | refine s_y (Y_pk rfl (Gx.tmp gt_) Gx.const) rfl rfl ?_ | refine s_pass rfl rfl ?_
            first | exact hm _ ⟨rfl, trivial⟩ rfl | exact QL.sub sl_ (hm _ ⟨rfl, trivial⟩ rfl)
          · intro ht18 hm
            iterate 5 refine s_pass rfl rfl ?_
            first | refine s_y (Y_pk rfl (Gx.tmp gt_) Gx.const) rfl rfl ?_ | refine s_pass rfl rfl ?_
            exact hm _ ⟨rfl, trivial⟩ rfl
          intro j95
          refine s_y (Y_pk rfl Gx.const (Gx.tmp gt_)) rfl rfl ?_
          first | exact hm _ ⟨rfl, trivial⟩ rfl | exact QL.sub sl_ (hm _ ⟨rfl, trivial⟩ rfl)
        · intro ht12 hm
          iterate 12 refine s_pass rfl rfl ?_
          refine s_y (Y_pk rfl Gx.const (Gx.tmp gt_)) rfl rfl ?_
          exact hm _ ⟨rfl, trivial⟩ rfl
        intro j96
        refine s_nil ?_
        refine q_then ?_
        first | refine c_cond' rfl (fun hc21 => ?_) (fun hc21 => ?_) | refine c_cond rfl (fun hc21 => ?_) (fun hc21 => ?_)
        · skip
          try simp only [nrm_] at hc21
          refine c_exit ?_
          repeat with_reducible refine q_te ?_
          refine q_exit ?_
          refine q_then ?_
          refine c_reg ?_
          refine s_y (Y_mv) rfl rfl ?_
          refine s_y ad_ rfl rfl ?_
          refine s_y (Y_as) rfl rfl ?_
          refine s_nil ?_
          rw [if_pos (by omega)] at hss
          refine hK (m - 1) (s + 1, u, left, cb, cc, eb, ec, ib, ic) _ _ (by omega) ⟨by simp only; omega, by simp only; exact hss, l1, l2, l3⟩ ⟨rfl, rfl, trivial⟩ rfl (fun w h => h)
        · skip
          try simp only [nrm_] at hc21
          refine c_skip ?_
          refine q_then ?_
          refine c_seq ?_
          rw [if_neg (by omega)] at hss
          obtain ⟨r, e, hr, hre, he1, he2⟩ := eHero_some hh (by omega)
          subst hr
          have hrl := lt_of_get hre
          have heg := egt_of hre
          refine c_reg ?_
          refine s_y (Y_mv) rfl rfl ?_
          refine s_y (Y_iaA (n := s) rfl rfl Tryz.underlying79 sz77 rfl (by omega)) rfl rfl ?_
          refine s_y (Y_fa 1 rfl Tryz.underlying77 rfl sz3 rfl) rfl rfl ?_
          refine s_y (Y_load (v := iv x.input) rfl one3 mm_ (aget (by omega) (by rw [hx]; rfl))) rfl rfl ?_
          refine s_y (Y_as) rfl rfl ?_
          refine s_nil ?_
          refine q_then ?_
          refine c_seq ?_
          refine c_meetQ (ks := [12, 101, 102, 103, 104, 105, 106, 107, 108]) (tr := fun y : Int => [(12, iv y)]) (φ := fun y => y = if x.how = 2 then robotM u s else x.input) (G := fun _ => [cB cb cc u.cells, eB eb ec u.ents, iB ib ic u.items, wB b4 wz, actB b3 a, wB b2 (wL u ⟨cb, 0, cc, eb, 0, ec, ib, 0, ic⟩)]) (fun _ => rfl) ?_ ?_
          · rintro inp j26 hinp
            refine q_then ?_
            refine c_block ?_
            refine c_seq ?_
            rw [← hinp] at hss
            clear hinp
            refine c_reg ?_
            refine s_y (Y_mv) rfl rfl ?_
            refine s_y (Y_geq rfl rfl) rfl rfl ?_
            refine s_y (Y_mv) rfl rfl ?_
            apply s_and 3 [116, 117, 118, 119] 119 (g := 116) rfl rfl
            · intro ht3 hm
              try simp only [nrm_] at ht3
              first | refine s_y (Y_mv) rfl rfl ?_ | refine s_pass rfl rfl ?_
              first | refine s_y (Y_leq rfl rfl) rfl rfl ?_ | refine s_pass rfl rfl ?_
              refine s_y (Y_pk rfl (Gx.tmp gt_) Gx.const) rfl rfl ?_
              first | exact hm _ ⟨rfl, trivial⟩ rfl | exact QL.sub sl_ (hm _ ⟨rfl, trivial⟩ rfl)
            · intro ht3 hm
              iterate 2 refine s_pass rfl rfl ?_
              refine s_y (Y_pk rfl (Gx.tmp gt_) Gx.const) rfl rfl ?_
              exact hm _ ⟨rfl, trivial⟩ rfl
            intro j119
            refine s_y (Y_as) rfl rfl ?_
            refine s_nil ?_
            refine q_then ?_
            first | refine c_cond' rfl (fun hc26 => ?_) (fun hc26 => ?_) | refine c_cond rfl (fun hc26 => ?_) (fun hc26 => ?_)
            · skip
              try simp only [nrm_] at hc26
              refine c_reg ?_
              refine s_y (ya_ many34) rfl rfl ?_
              refine s_y (Y_mv) rfl rfl ?_
              refine s_y (Y_mv) rfl rfl ?_
              refine s_c (En_call (fun _ => rfl) Tryz.func90 rfl (by kernel_rfl) rfl) (fun w hH => ract_d (wl_of (d := u) hH ⟨u1, u2, u3⟩ (cb := cb) (cc := cc) (eb := eb) (ec := ec) (ib := ib) (ic := ic) mm_ mm_ mm_ l1 l2 l3) hvu hre (by omega)) rfl rfl ?_
              rintro _ _ hA
              rename_i B
              obtain ⟨cb1, cc1, eb1, ec1, ib1, ic1, rfl, m1, m2, m3, hc⟩ := hA.open l1 l2 l3
              refine QL.conv (fun w hw => hc hw) ?_
              refine s_s (S_storeA (vs := wL (actM u r inp false) ⟨cb1, 0, cc1, eb1, 0, ec1, ib1, 0, ic1⟩) rfl rfl sz34 (by rfl) (by rfl) up_ (by rfl)) rfl ?_
              refine s_nil ?_
              refine q_bn ?_
              refine q_bn ?_
              refine q_then ?_
              refine c_reg ?_
              refine s_y (Y_mv) rfl rfl ?_
              refine s_y ad_ rfl rfl ?_
              refine s_y (Y_as) rfl rfl ?_
              refine s_nil ?_
              rw [if_pos hc26] at hss
              refine hK (m - 1) (s + 1, actM u r inp false, left, cb1, cc1, eb1, ec1, ib1, ic1) _ _ (by omega) ⟨by simp only; omega, by simp only; exact hss, m1, m2, m3⟩ ⟨rfl, rfl, trivial⟩ rfl (fun w h => h.pick ss_)
            · skip
              try simp only [nrm_] at hc26
              refine c_seq ?_
              rw [if_neg (by omega), heg] at hss
              refine c_reg ?_
              refine s_y (Y_mv) rfl rfl ?_
              refine s_y (Y_eql rfl rfl) rfl rfl ?_
              refine s_y (Y_as) rfl rfl ?_
              refine s_nil ?_
              refine q_then ?_
              first | refine c_cond' rfl (fun hc28 => ?_) (fun hc28 => ?_) | refine c_cond rfl (fun hc28 => ?_) (fun hc28 => ?_)
              · skip
                try simp only [nrm_] at hc28
                refine c_rordS (L0 := [cB cb cc u.cells, eB eb ec u.ents, wB b2 (wL u ⟨cb, 0, cc, eb, 0, ec, ib, 0, ic⟩)]) sl_ [] [(0, true), (1, true), (2, true), (3, true), (4, true), (5, true), (6, true), (7, true), (8, true), (9, true), (10, true), (11, true), (12, true), (13, true), (14, true), (15, true), (16, false), (17, true), (18, true), (19, true)] (by kernel_rfl) (by kernel_rfl) (by kernel_rfl) (by kernel_rfl) rfl (by intro c a d v w h; cases d <;> exact h) rfl ?_
                simp only [mkOrd, List.filterMap_cons, List.filterMap_nil, List.getElem?_toArray, List.getElem?_cons_zero, List.getElem?_cons_succ, Option.map_some]
                refine o_y (Y_mv) rfl rfl ?_
                refine o_y (Y_mv) rfl rfl ?_
                apply o_or 17 [128, 129, 130, 131, 132, 133, 134, 135, 136, 137, 138, 139, 140, 141, 142, 143, 144, 145] 145 (g := 128) rfl rfl
                · intro ht2 hm
                  try simp only [nrm_] at ht2
                  first | refine o_y (Y_fa 4 rfl Tryz.underlying34 rfl sz24 rfl) rfl rfl ?_ | refine o_pass rfl rfl ?_
                  first | refine o_y (yl_ one24) rfl rfl ?_ | refine o_pass rfl rfl ?_
                  first | refine o_y (Y_fa 5 rfl Tryz.underlying34 rfl sz30 rfl) rfl rfl ?_ | refine o_pass rfl rfl ?_
                  first | refine o_y (yl_ one30) rfl rfl ?_ | refine o_pass rfl rfl ?_
                  first | refine o_y (Y_mv) rfl rfl ?_ | refine o_pass rfl rfl ?_
                  first | refine o_y (Y_ia (n := r) rfl rfl Tryz.underlying30 sz93 rfl (by omega)) rfl rfl ?_ | refine o_pass rfl rfl ?_
                  first | refine o_y (Y_fa 3 rfl Tryz.underlying93 rfl sz3 rfl) rfl rfl ?_ | refine o_pass rfl rfl ?_
                  first | refine o_y (Y_load (v := iv e.x) rfl one3 mm_ (eget hre rfl)) rfl rfl ?_ | refine o_pass rfl rfl ?_
                  first | refine o_y (Y_fa 5 rfl Tryz.underlying34 rfl sz30 rfl) rfl rfl ?_ | refine o_pass rfl rfl ?_
                  first | refine o_y (yl_ one30) rfl rfl ?_ | refine o_pass rfl rfl ?_
                  first | refine o_y (Y_mv) rfl rfl ?_ | refine o_pass rfl rfl ?_
                  first | refine o_y (Y_ia (n := r) rfl rfl Tryz.underlying30 sz93 rfl (by omega)) rfl rfl ?_ | refine o_pass rfl rfl ?_
                  first | refine o_y (Y_fa 4 rfl Tryz.underlying93 rfl sz3 rfl) rfl rfl ?_ | refine o_pass rfl rfl ?_
                  first | refine o_y (Y_load (v := iv e.y) rfl one3 mm_ (eget hre rfl)) rfl rfl ?_ | refine o_pass rfl rfl ?_
                  refine o_c (En_call (fun _ => rfl) Tryz.func91 rfl (by kernel_rfl) rfl) (fun w hH => rat_d (cSl hH (b := cb) (c := cc) (l := u.cells) mm_ u1 l1)) (fun _ _ h => by obtain ⟨rfl, rfl⟩ := h; exact kp_) rfl rfl ?_
                  rintro _ _ ⟨rfl, rfl⟩
                  first | refine o_y (Y_eql rfl rfl) rfl rfl ?_ | refine o_pass rfl rfl ?_
                  refine o_y (Y_pk rfl Gx.const (Gx.tmp gt_)) rfl rfl ?_
                  first | exact hm _ ⟨rfl, trivial⟩ rfl | exact QL.sub sl_ (hm _ ⟨rfl, trivial⟩ rfl)
                · intro ht2 hm
                  iterate 14 refine o_pass rfl rfl ?_
                  refine o_none kp_ rfl rfl ?_
                  iterate 1 refine o_pass rfl rfl ?_
                  refine o_y (Y_pk rfl Gx.const (Gx.tmp gt_)) rfl rfl ?_
                  exact hm _ ⟨rfl, trivial⟩ rfl
                intro j145
                refine o_y (Y_as) rfl rfl ?_
                refine o_nil ?_
                refine q_bn ?_
                refine q_bn ?_
                refine q_then ?_
                refine c_reg ?_
                refine s_y (Y_mv) rfl rfl ?_
                refine s_y ad_ rfl rfl ?_
                refine s_y (Y_as) rfl rfl ?_
                refine s_nil ?_
                rw [if_pos hc28] at hss
                refine hK (m - 1) (s + 1, u, left || decide (atM u.cells e.x e.y = 4), cb, cc, eb, ec, ib, ic) _ _ (by omega) ⟨by simp only; omega, by simp only; exact hss, l1, l2, l3⟩ ⟨rfl, rfl, trivial⟩ rfl (fun w h => h.pick ss_)
              · skip
                try simp only [nrm_] at hc28
                refine c_reg ?_
                refine s_y (ya_ many34) rfl rfl ?_
                refine s_y (Y_mv) rfl rfl ?_
                refine s_y (Y_mv) rfl rfl ?_
                refine s_c (En_call (fun _ => rfl) Tryz.func92 rfl (by kernel_rfl) rfl) (fun w hH => rdo_d (wl_of (d := u) hH ⟨u1, u2, u3⟩ (cb := cb) (cc := cc) (eb := eb) (ec := ec) (ib := ib) (ic := ic) mm_ mm_ mm_ l1 l2 l3) hvu) rfl rfl ?_
                rintro _ _ ⟨cb1, cc1, eb1, ec1, ib1, ic1, rfl, rfl, m1, m2, m3⟩
                refine s_s (S_storeA (vs := wL (doM u s inp) ⟨cb1, 0, cc1, eb1, 0, ec1, ib1, 0, ic1⟩) rfl rfl sz34 (by rfl) (by rfl) up_ (by rfl)) rfl ?_
                refine s_nil ?_
                refine q_bn ?_
                refine q_bn ?_
                refine q_then ?_
                refine c_reg ?_
                refine s_y (Y_mv) rfl rfl ?_
                refine s_y ad_ rfl rfl ?_
                refine s_y (Y_as) rfl rfl ?_
                refine s_nil ?_
                rw [if_neg hc28] at hss
                refine hK (m - 1) (s + 1, doM u s inp, left, cb1, cc1, eb1, ec1, ib1, ic1) _ _ (by omega) ⟨by simp only; omega, by simp only; exact hss, m1, m2, m3⟩ ⟨rfl, rfl, trivial⟩ rfl (fun w h => h.pick ss_)
          · intro go
            refine c_seq ?_
            refine c_reg ?_
            refine s_y (Y_mv) rfl rfl ?_
            refine s_y (Y_iaA (n := s) rfl rfl Tryz.underlying79 sz77 rfl (by omega)) rfl rfl ?_
            refine s_y (Y_fa 0 rfl Tryz.underlying77 rfl sz3 rfl) rfl rfl ?_
            refine s_y (Y_load (v := iv x.how) rfl one3 mm_ (aget (by omega) (by rw [hx]; rfl))) rfl rfl ?_
            refine s_y (Y_eql rfl rfl) rfl rfl ?_
            refine s_nil ?_
            refine q_then ?_
            first | refine c_cond' rfl (fun hc23 => ?_) (fun hc23 => ?_) | refine c_cond rfl (fun hc23 => ?_) (fun hc23 => ?_)
            · skip
              try simp only [nrm_] at hc23
              refine c_reg ?_
              refine s_y (ya_ many34) rfl rfl ?_
              refine s_y (Y_mv) rfl rfl ?_
              refine s_c (En_call (fun _ => rfl) Tryz.func89 rfl (by kernel_rfl) rfl) (fun w hH => rrobot_d (wl_of (d := u) hH ⟨u1, u2, u3⟩ (cb := cb) (cc := cc) (eb := eb) (ec := ec) (ib := ib) (ic := ic) mm_ mm_ mm_ l1 l2 l3) hvu) rfl rfl ?_
              rintro _ _ ⟨rfl, rfl⟩
              refine s_y (Y_as) rfl rfl ?_
              refine s_nil ?_
              exact go (robotM u s) _ _ (by rw [if_pos hc23]) ⟨rfl, trivial⟩ rfl (fun w h => h.pick ss_)
            · skip
              try simp only [nrm_] at hc23
              refine c_skip ?_
              exact go x.input _ _ (by rw [if_neg hc23]) ⟨rfl, trivial⟩ rfl (fun w h => h.pick ss_)
      · skip
        try simp only [nrm_] at hc18
        refine c_exit ?_
        repeat with_reducible refine q_te ?_
        refine q_exit ?_
        refine q_then ?_
        refine c_seq ?_
        refine c_seq ?_
        rw [show s = 4 by omega] at hu
        rw [hu]
        simp only
        clear hss hx u1 u2 u3 hv2
        obtain ⟨d3, hd3⟩ : ∃ z : Wd, u = z := ⟨_, rfl⟩
        subst hd3
        refine c_reg ?_
        refine s_y (Y_asC) rfl rfl ?_
        refine s_nil ?_
        refine q_then ?_
        refine c_block ?_
        refine c_loop [13, 14, 146, 147, 148, 149, 150, 151, 152, 153, 154, 155, 156, 157, 158, 159, 160, 161, 162, 163, 164, 165, 166, 167, 168, 169, 170, 171, 172, 173, 174, 175, 176] (fun m (y : Nat × Wd × Nat × Nat × Nat × Nat × Nat × Nat) => y.1 + m = 32 ∧ y.2.1 = foesW u y.1 ∧ 384 ≤ y.2.2.2.1 ∧ 32 ≤ y.2.2.2.2.2.1 ∧ 40 ≤ y.2.2.2.2.2.2.2) (fun y => [(13, iv y.1)]) (fun y => [cB y.2.2.1 y.2.2.2.1 y.2.1.cells, eB y.2.2.2.2.1 y.2.2.2.2.2.1 y.2.1.ents, iB y.2.2.2.2.2.2.1 y.2.2.2.2.2.2.2 y.2.1.items, wB b4 wz, wB b2 (wL y.2.1 ⟨y.2.2.1, 0, y.2.2.2.1, y.2.2.2.2.1, 0, y.2.2.2.2.2.1, y.2.2.2.2.2.2.1, 0, y.2.2.2.2.2.2.2⟩)]) (32) ((0, u, cb, cc, eb, ec, ib, ic)) (⟨rfl, rfl, l1, l2, l3⟩) (by repeat (first | exact trivial | refine ⟨rfl, ?_⟩)) (fun _ h => h.sub sl_) (fun _ => rfl) ?_
        rintro mm ⟨i, t, cb, cc, eb, ec, ib, ic⟩ j3 ⟨hi, ht, l1, l2, l3⟩ K hK
        simp only at hi ht l1 l2 l3 ⊢
        have hvt : VW t := by rw [ht]; exact hvu.foes i
        obtain ⟨u1, u2, u3⟩ := hvt.sz
        have hfs := foesW_step u i
        rw [← ht] at hfs
        refine c_seq ?_
        refine c_seq ?_
        refine c_reg ?_
        refine s_y (Y_mv) rfl rfl ?_
        refine s_y (Y_fa 5 rfl Tryz.underlying34 rfl sz30 rfl) rfl rfl ?_
        refine s_y (yl_ one30) rfl rfl ?_
        refine s_y (Y_len rfl rfl Tryz.underlying30) rfl rfl ?_
        refine s_y (Y_lss rfl rfl) rfl rfl ?_
        refine s_nil ?_
        refine q_then ?_
        first | refine c_cond' rfl (fun hc31 => ?_) (fun hc31 => ?_) | refine c_cond rfl (fun hc31 => ?_) (fun hc31 => ?_)
        · skip
          try simp only [nrm_] at hc31
          refine c_skip ?_
          refine q_then ?_
          refine c_seq ?_
          refine c_block ?_
          refine c_seq ?_
          obtain ⟨e, he⟩ := take_lt (show i < t.ents.length by omega)
          have heg := egt_of he
          have hfm : foeM t i = if e.kind = 0 ∨ e.kind = 1 ∨ 0 < e.stun then t else actM t i (monsterM t i) true := by unfold foeM; simp only; rw [heg]
          rw [hfm] at hfs
          clear hfm
          refine c_reg ?_
          refine s_y (Y_fa 5 rfl Tryz.underlying34 rfl sz30 rfl) rfl rfl ?_
          refine s_y (yl_ one30) rfl rfl ?_
          refine s_y (Y_mv) rfl rfl ?_
          refine s_y (Y_ia (n := i) rfl rfl Tryz.underlying30 sz93 rfl (by omega)) rfl rfl ?_
          refine s_y (Y_loadN (vs := e.cells) rfl many93 mm_ (by rfl) (egetN he)) rfl rfl ?_
          refine s_n (N_alloc (z := .agg #[.int .i64 0, .int .i64 0, .int .i64 0, .int .i64 0, .int .i64 0, .int .i64 0, .int .i64 0, .int .i64 0, .int .i64 0, .int .i64 0, .int .i64 0]) (cs := [.int .i64 0, .int .i64 0, .int .i64 0, .int .i64 0, .int .i64 0, .int .i64 0, .int .i64 0, .int .i64 0, .int .i64 0, .int .i64 0, .int .i64 0]) zv93 rfl) rfl rfl (fun b14 _ => ?_)
          refine s_s (S_storeA (vs := e.cells) rfl rfl sz93 (by rfl) (by rfl) up_ (by rfl)) rfl ?_
          refine s_nil ?_
          refine q_then ?_
          refine c_seq ?_
          refine c_seq ?_
          refine c_reg ?_
          refine s_y (Y_fa 0 rfl Tryz.underlying93 rfl sz3 rfl) rfl rfl ?_
          refine s_y (yl_ one3) rfl rfl ?_
          refine s_y (Y_eql rfl rfl) rfl rfl ?_
          refine s_y (Y_mv) rfl rfl ?_
          apply s_or 4 [161, 162, 163, 164, 165] 165 (g := 161) rfl rfl
          · intro ht4 hm
            try simp only [nrm_] at ht4
            first | refine s_y (Y_fa 0 rfl Tryz.underlying93 rfl sz3 rfl) rfl rfl ?_ | refine s_pass rfl rfl ?_
            first | refine s_y (yl_ one3) rfl rfl ?_ | refine s_pass rfl rfl ?_
            first | refine s_y (Y_eql rfl rfl) rfl rfl ?_ | refine s_pass rfl rfl ?_
            refine s_y (Y_pk rfl Gx.const (Gx.tmp gt_)) rfl rfl ?_
            first | exact hm _ ⟨rfl, trivial⟩ rfl | exact QL.sub sl_ (hm _ ⟨rfl, trivial⟩ rfl)
          · intro ht4 hm
            iterate 3 refine s_pass rfl rfl ?_
            refine s_y (Y_pk rfl Gx.const (Gx.tmp gt_)) rfl rfl ?_
            exact hm _ ⟨rfl, trivial⟩ rfl
          intro j165
          refine s_y (Y_mv) rfl rfl ?_
          apply s_or 4 [166, 167, 168, 169, 170] 170 (g := 166) rfl rfl
          · intro ht9 hm
            try simp only [nrm_] at ht9
            first | refine s_y (Y_fa 10 rfl Tryz.underlying93 rfl sz3 rfl) rfl rfl ?_ | refine s_pass rfl rfl ?_
            first | refine s_y (yl_ one3) rfl rfl ?_ | refine s_pass rfl rfl ?_
            first | refine s_y (Y_gtr rfl rfl) rfl rfl ?_ | refine s_pass rfl rfl ?_
            refine s_y (Y_pk rfl Gx.const (Gx.tmp gt_)) rfl rfl ?_
            first | exact hm _ ⟨rfl, trivial⟩ rfl | exact QL.sub sl_ (hm _ ⟨rfl, trivial⟩ rfl)
          · intro ht9 hm
            iterate 3 refine s_pass rfl rfl ?_
            refine s_y (Y_pk rfl Gx.const (Gx.tmp gt_)) rfl rfl ?_
            exact hm _ ⟨rfl, trivial⟩ rfl
          intro j170
          refine s_nil ?_
          refine q_then ?_
          first | refine c_cond' rfl (fun hc34 => ?_) (fun hc34 => ?_) | refine c_cond rfl (fun hc34 => ?_) (fun hc34 => ?_)
          · skip
            try simp only [nrm_] at hc34
            refine c_exit ?_
            repeat with_reducible refine q_te ?_
            refine q_exit ?_
            refine q_then ?_
            refine c_reg ?_
            refine s_y (Y_mv) rfl rfl ?_
            refine s_y ad_ rfl rfl ?_
            refine s_y (Y_as) rfl rfl ?_
            refine s_nil ?_
            rw [if_pos (by omega)] at hfs
            refine hK (mm - 1) (i + 1, t, cb, cc, eb, ec, ib, ic) _ _ (by omega) ⟨by simp only; omega, by simp only; exact hfs.symm, l1, l2, l3⟩ ⟨rfl, trivial⟩ rfl (fun w h => h.pick ss_)
          · skip
            try simp only [nrm_] at hc34
            refine c_skip ?_
            refine q_then ?_
            rw [if_neg (by omega)] at hfs
            refine QL.pick (L' := [cB cb cc t.cells, eB eb ec t.ents, iB ib ic t.items, wB b4 wz, wB b2 (wL t ⟨cb, 0, cc, eb, 0, ec, ib, 0, ic⟩)]) ss_ ?_
            refine c_rordS (L0 := [wB b2 (wL t ⟨cb, 0, cc, eb, 0, ec, ib, 0, ic⟩)]) sl_ [5, 6] [(0, true), (1, true), (2, true), (3, true), (4, false), (5, false), (6, false)] (by kernel_rfl) (by kernel_rfl) (by kernel_rfl) (by kernel_rfl) rfl (by intro c a d v w h; cases d <;> exact h) rfl ?_
            simp only [mkOrd, List.filterMap_cons, List.filterMap_nil, List.getElem?_toArray, List.getElem?_cons_zero, List.getElem?_cons_succ, Option.map_some]
            refine o_y (ya_ many34) rfl rfl ?_
            refine o_y (Y_mv) rfl rfl ?_
            refine o_y (ya_ many34) rfl rfl ?_
            refine o_y (Y_mv) rfl rfl ?_
            refine o_c (En_call (fun _ => rfl) Tryz.func93 rfl (by kernel_rfl) rfl) (fun w hH => rmonster_d (wl_of (d := t) hH ⟨u1, u2, u3⟩ (cb := cb) (cc := cc) (eb := eb) (ec := ec) (ib := ib) (ic := ic) mm_ mm_ mm_ l1 l2 l3) hvt (by omega)) (fun _ _ h => by obtain ⟨rfl, rfl⟩ := h; exact kp_) rfl rfl ?_
            rintro _ _ ⟨rfl, rfl⟩
            refine o_c (En_call (fun _ => rfl) Tryz.func90 rfl (by kernel_rfl) rfl) (fun w hH => ract_d (wl_of (d := t) hH ⟨u1, u2, u3⟩ (cb := cb) (cc := cc) (eb := eb) (ec := ec) (ib := ib) (ic := ic) mm_ mm_ mm_ l1 l2 l3) hvt he (by omega)) (fun _ _ h => kp_) rfl rfl ?_
            rintro _ B hA
            obtain ⟨cb1, cc1, eb1, ec1, ib1, ic1, rfl, m1, m2, m3, hc⟩ := hA.open l1 l2 l3
            refine QL.conv (fun w hw => hc hw) ?_
            refine o_s (S_storeA (vs := wL (actM t i (monsterM t i) true) ⟨cb1, 0, cc1, eb1, 0, ec1, ib1, 0, ic1⟩) rfl rfl sz34 (by rfl) (by rfl) up_ (by rfl)) kp_ rfl ?_
            refine o_nil ?_
            refine q_bn ?_
            refine q_then ?_
            refine c_reg ?_
            refine s_y (Y_mv) rfl rfl ?_
            refine s_y ad_ rfl rfl ?_
            refine s_y (Y_as) rfl rfl ?_
            refine s_nil ?_
            refine hK (mm - 1) (i + 1, actM t i (monsterM t i) true, cb1, cc1, eb1, ec1, ib1, ic1) _ _ (by omega) ⟨by simp only; omega, by simp only; exact hfs.symm, m1, m2, m3⟩ ⟨rfl, trivial⟩ rfl (fun w h => h.pick ss_)
        · skip
          try simp only [nrm_] at hc31
          refine c_exit ?_
          repeat with_reducible refine q_te ?_
          refine q_exit ?_
          refine q_then ?_
          refine c_seq ?_
          rw [show i = 32 by omega] at ht
          have hmi : midM u = ratM (ailM t) := by rw [ht]; rfl
          rw [hmi]
          clear hmi hfs ht
          have hva : VW (ailM t) := hvt.ail 32
          refine c_reg ?_
          refine s_y (ya_ many34) rfl rfl ?_
          refine s_c (En_call (fun _ => rfl) Tryz.func94 rfl (by kernel_rfl) rfl) (fun w hH => rail_d (wl_of (d := t) hH ⟨u1, u2, u3⟩ (cb := cb) (cc := cc) (eb := eb) (ec := ec) (ib := ib) (ic := ic) mm_ mm_ mm_ l1 l2 l3) hvt) rfl rfl ?_
          rintro _ _ ⟨cb1, cc1, eb1, ec1, ib1, ic1, rfl, rfl, m1, m2, m3⟩
          refine s_s (S_storeA (vs := wL (ailM t) ⟨cb1, 0, cc1, eb1, 0, ec1, ib1, 0, ic1⟩) rfl rfl sz34 (by rfl) (by rfl) up_ (by rfl)) rfl ?_
          refine s_nil ?_
          refine q_then ?_
          obtain ⟨v, hv3⟩ : ∃ z, ailM t = z := ⟨_, rfl⟩
          rw [hv3] at hva ⊢
          obtain ⟨v1, v2, v3⟩ := hva.sz
          have hrt : ratM v = if v.frame.tmod 16 = 0 then (if 0 ≤ findM v.cells 3 ∧ eAt v.ents (findM v.cells 3 % 24) (findM v.cells 3 / 24) < 0 then { v with ents := spawnedM v.ents { statsM 2 with x := findM v.cells 3 % 24, y := findM v.cells 3 / 24 } } else v) else v := rfl
          refine c_seq ?_
          refine c_meetQ (ks := [15, 16, 179, 180, 181, 182, 183, 184, 185, 186, 187, 188, 189, 190, 191, 192, 193, 194, 195, 196, 197, 198, 199, 200, 201, 202, 203, 204, 205, 206, 207, 208, 209]) (tr := fun _ : Wd × Nat × Nat => []) (φ := fun y => y.1 = ratM v ∧ 32 ≤ y.2.2) (G := fun y => [cB cb1 cc1 y.1.cells, eB y.2.1 y.2.2 y.1.ents, iB ib1 ic1 y.1.items, wB b4 wz, wB b2 (wL y.1 ⟨cb1, 0, cc1, y.2.1, 0, y.2.2, ib1, 0, ic1⟩)]) (fun _ => rfl) ?_ ?_
          · rintro ⟨z, ebz, ecz⟩ j43 ⟨hz, m2z⟩
            refine q_then ?_
            refine c_seq ?_
            refine c_block ?_
            refine c_seq ?_
            simp only at hz m2z ⊢
            have hvz : VW z := by rw [hz]; exact hva.rat
            rw [← hz]
            clear hz hrt
            obtain ⟨w1, w2, w3⟩ := hvz.sz
            have hen : endM z had left = if someM z.ents = false then (if had = true then { z with state := 2 } else z) else if left = true ∧ z.floor = 3 then { z with state := 1 } else if left = true then belowM z else z := rfl
            rw [hen]
            clear hen
            refine c_reg ?_
            refine s_y (ya_ many34) rfl rfl ?_
            refine s_c (En_call (fun _ => rfl) Tryz.func85 rfl (by kernel_rfl) rfl) (fun w hH => rsome_d (wl_of (d := z) hH ⟨w1, w2, w3⟩ (cb := cb1) (cc := cc1) (eb := ebz) (ec := ecz) (ib := ib1) (ic := ic1) mm_ mm_ mm_ m1 m2z m3)) rfl rfl ?_
            rintro _ _ ⟨rfl, rfl⟩
            refine s_y (Y_not rfl) rfl rfl ?_
            refine s_y (Y_as) rfl rfl ?_
            refine s_nil ?_
            refine q_then ?_
            refine c_cond (t := (!someM z.ents)) rfl (fun hc43 => ?_) (fun hc43 => ?_)
            · skip
              try simp only [nrm_] at hc43
              refine c_seq ?_
              rw [if_pos (by simpa using hc43)]
              refine c_reg ?_
              refine s_y (Y_mv) rfl rfl ?_
              refine s_nil ?_
              refine q_then ?_
              refine c_cond (t := had) rfl (fun hc44 => ?_) (fun hc44 => ?_)
              · skip
                try simp only [nrm_] at hc44
                refine c_reg ?_
                refine s_y (Y_fa 3 rfl Tryz.underlying34 rfl sz3 rfl) rfl rfl ?_
                refine s_s (S_stC (cs' := wL { z with state := 2 } ⟨cb1, 0, cc1, ebz, 0, ecz, ib1, 0, ic1⟩) rfl sz3 (by rfl) up_ (by rfl) (by simp only [List.length_cons, List.length_nil]; omega)) rfl ?_
                refine s_nil ?_
                refine q_bn ?_
                refine q_then ?_
                refine c_seq ?_
                refine c_reg ?_
                refine s_y (ya_ many34) rfl rfl ?_
                refine s_s ((sa_ sz34)) rfl ?_
                refine s_nil ?_
                refine q_then ?_
                refine c_ret ?_
                rw [if_pos hc44]
                refine q_retW rfl rfl many34 ss_ m1 m2z m3
              · skip
                try simp only [nrm_] at hc44
                refine c_skip ?_
                refine q_bn ?_
                refine q_then ?_
                refine c_seq ?_
                refine c_reg ?_
                refine s_y (ya_ many34) rfl rfl ?_
                refine s_s ((sa_ sz34)) rfl ?_
                refine s_nil ?_
                refine q_then ?_
                refine c_ret ?_
                rw [if_neg (by rw [hc44]; decide)]
                refine q_retW rfl rfl many34 ss_ m1 m2z m3
            · skip
              try simp only [nrm_] at hc43
              refine c_seq ?_
              rw [if_neg (by simpa using hc43)]
              refine c_reg ?_
              refine s_y (Y_mv) rfl rfl ?_
              refine s_y (Y_mv) rfl rfl ?_
              apply s_and 4 [218, 219, 220, 221, 222] 222 (g := 218) rfl rfl
              · intro ht2 hm
                try simp only [nrm_] at ht2
                first | refine s_y (Y_fa 2 rfl Tryz.underlying34 rfl sz3 rfl) rfl rfl ?_ | refine s_pass rfl rfl ?_
                first | refine s_y (yl_ one3) rfl rfl ?_ | refine s_pass rfl rfl ?_
                first | refine s_y (Y_eql rfl rfl) rfl rfl ?_ | refine s_pass rfl rfl ?_
                refine s_y (Y_pk rfl (Gx.tmp gt_) Gx.const) rfl rfl ?_
                first | exact hm _ ⟨rfl, trivial⟩ rfl | exact QL.sub sl_ (hm _ ⟨rfl, trivial⟩ rfl)
              · intro ht2 hm
                iterate 3 refine s_pass rfl rfl ?_
                refine s_y (Y_pk rfl (Gx.tmp gt_) Gx.const) rfl rfl ?_
                exact hm _ ⟨rfl, trivial⟩ rfl
              intro j222
              refine s_y (Y_as) rfl rfl ?_
              refine s_nil ?_
              refine q_then ?_
              first | refine c_cond' rfl (fun hc46 => ?_) (fun hc46 => ?_) | refine c_cond rfl (fun hc46 => ?_) (fun hc46 => ?_)
              · skip
                try simp only [nrm_] at hc46
                refine c_reg ?_
                refine s_y (Y_fa 3 rfl Tryz.underlying34 rfl sz3 rfl) rfl rfl ?_
                refine s_s (S_stC (cs' := wL { z with state := 1 } ⟨cb1, 0, cc1, ebz, 0, ecz, ib1, 0, ic1⟩) rfl sz3 (by rfl) up_ (by rfl) (by simp only [List.length_cons, List.length_nil]; omega)) rfl ?_
                refine s_nil ?_
                refine q_bn ?_
                refine q_then ?_
                refine c_seq ?_
                refine c_reg ?_
                refine s_y (ya_ many34) rfl rfl ?_
                refine s_s ((sa_ sz34)) rfl ?_
                refine s_nil ?_
                refine q_then ?_
                refine c_ret ?_
                rw [if_pos hc46]
                refine q_retW rfl rfl many34 ss_ m1 m2z m3
              · skip
                try simp only [nrm_] at hc46
                refine c_seq ?_
                rw [if_neg (by rintro ⟨q1, q2⟩; rcases hc46 with h | h; rw [q1] at h; cases h; exact h q2)]
                refine c_reg ?_
                refine s_y (Y_mv) rfl rfl ?_
                refine s_y (Y_as) rfl rfl ?_
                refine s_nil ?_
                refine q_then ?_
                refine c_cond (t := left) rfl (fun hc48 => ?_) (fun hc48 => ?_)
                · skip
                  try simp only [nrm_] at hc48
                  have hf2 : z.floor ≤ 2 := by
                    have := hvz.nums.1
                    rcases hc46 with h | h
                    · rw [hc48] at h; cases h
                    · omega
                  refine c_reg ?_
                  refine s_y (ya_ many34) rfl rfl ?_
                  refine s_cm [iB ib1 ic1 z.items] (En_call (fun _ => rfl) Tryz.func95 rfl (by kernel_rfl) rfl) ss_ (fun w hH => rbelow_d (d := z) (eSl hH (b := ebz) (c := ecz) (l := z.ents) mm_ w2 m2z) (hH.at' (x := iB ib1 ic1 z.items) mm_) (Has.ne hH (x := eB ebz ecz z.ents) (y := iB ib1 ic1 z.items) ss_) m3 hvz hf2) rfl rfl ?_
                  rintro _ _ ⟨cb5, cc5, eb5, ec5, ib5, ic5, rfl, rfl, n1, n2, n3⟩
                  refine s_s (S_storeA (vs := wL (belowM z) ⟨cb5, 0, cc5, eb5, 0, ec5, ib5, 0, ic5⟩) rfl rfl sz34 (by rfl) (by rfl) up_ (by rfl)) rfl ?_
                  refine s_nil ?_
                  refine q_bn ?_
                  refine q_then ?_
                  refine c_seq ?_
                  refine c_reg ?_
                  refine s_y (ya_ many34) rfl rfl ?_
                  refine s_s ((sa_ sz34)) rfl ?_
                  refine s_nil ?_
                  refine q_then ?_
                  refine c_ret ?_
                  rw [if_pos hc48]
                  refine q_retW rfl rfl many34 ss_ n1 n2 n3
                · skip
                  try simp only [nrm_] at hc48
                  refine c_skip ?_
                  refine q_bn ?_
                  refine q_then ?_
                  refine c_seq ?_
                  refine c_reg ?_
                  refine s_y (ya_ many34) rfl rfl ?_
                  refine s_s ((sa_ sz34)) rfl ?_
                  refine s_nil ?_
                  refine q_then ?_
                  refine c_ret ?_
                  rw [if_neg (by rw [hc48]; decide)]
                  refine q_retW rfl rfl many34 ss_ m1 m2z m3
          · intro go
            refine c_seq ?_
            refine c_reg ?_
            refine s_y (Y_fa 1 rfl Tryz.underlying34 rfl sz3 rfl) rfl rfl ?_
            refine s_y (yl_ one3) rfl rfl ?_
            refine s_y (Y_remw rfl rfl (by omega)) rfl rfl ?_
            refine s_y (Y_eql rfl rfl) rfl rfl ?_
            refine s_nil ?_
            refine q_then ?_
            first | refine c_cond' rfl (fun hc37 => ?_) (fun hc37 => ?_) | refine c_cond rfl (fun hc37 => ?_) (fun hc37 => ?_)
            · skip
              try simp only [nrm_] at hc37
              refine c_seq ?_
              refine c_reg ?_
              refine s_y (Y_fa 4 rfl Tryz.underlying34 rfl sz24 rfl) rfl rfl ?_
              refine s_y (yl_ one24) rfl rfl ?_
              refine s_c (En_call (fun _ => rfl) Tryz.func55 rfl (by kernel_rfl) rfl) (fun w hH => rfind_d (cSl hH (b := cb1) (c := cc1) (l := v.cells) mm_ v1 m1)) rfl rfl ?_
              rintro _ _ ⟨rfl, rfl⟩
              refine s_y (Y_as) rfl rfl ?_
              refine s_nil ?_
              rw [if_pos hc37] at hrt
              have hfg := find_rng v.cells 3
              obtain ⟨up, hup⟩ : ∃ z, findM v.cells 3 = z := ⟨_, rfl⟩
              rw [hup] at hrt hfg ⊢
              refine q_then ?_
              refine c_seq ?_
              refine c_reg ?_
              refine s_y (Y_mv) rfl rfl ?_
              refine s_y (Y_geq rfl rfl) rfl rfl ?_
              refine s_y (Y_mv) rfl rfl ?_
              apply s_and 9 [188, 189, 190, 191, 192, 193, 194, 195, 196, 197] 197 (g := 188) rfl rfl
              · intro ht3 hm
                try simp only [nrm_] at ht3
                first | refine s_y (Y_fa 5 rfl Tryz.underlying34 rfl sz30 rfl) rfl rfl ?_ | refine s_pass rfl rfl ?_
                first | refine s_y (yl_ one30) rfl rfl ?_ | refine s_pass rfl rfl ?_
                first | refine s_y (Y_mv) rfl rfl ?_ | refine s_pass rfl rfl ?_
                first | refine s_y ((by first | exact Y_rem rfl rfl (by omega) | exact Y_remw rfl rfl (by omega))) rfl rfl ?_ | refine s_pass rfl rfl ?_
                first | refine s_y (Y_mv) rfl rfl ?_ | refine s_pass rfl rfl ?_
                first | refine s_y ((by first | exact Y_quo rfl rfl (by omega) | exact Y_quow rfl rfl (by omega))) rfl rfl ?_ | refine s_pass rfl rfl ?_
                refine s_c (En_call (fun _ => rfl) Tryz.func73 rfl (by kernel_rfl) rfl) (fun w hH => reat_d (eSl hH (b := eb1) (c := ec1) (l := v.ents) mm_ v2 m2)) rfl rfl ?_
                rintro _ _ ⟨rfl, rfl⟩
                first | refine s_y (Y_lss rfl rfl) rfl rfl ?_ | refine s_pass rfl rfl ?_
                refine s_y (Y_pk rfl (Gx.tmp gt_) Gx.const) rfl rfl ?_
                first | exact hm _ ⟨rfl, trivial⟩ rfl | exact QL.sub sl_ (hm _ ⟨rfl, trivial⟩ rfl)
              · intro ht3 hm
                iterate 8 refine s_pass rfl rfl ?_
                refine s_y (Y_pk rfl (Gx.tmp gt_) Gx.const) rfl rfl ?_
                exact hm _ ⟨rfl, trivial⟩ rfl
              intro j197
              refine s_nil ?_
              refine q_then ?_
              first | refine c_cond' rfl (fun hc39 => ?_) (fun hc39 => ?_) | refine c_cond rfl (fun hc39 => ?_) (fun hc39 => ?_)
              · skip
                try simp only [nrm_] at hc39
                refine c_seq ?_
                refine c_reg ?_
                refine s_c (En_call (fun _ => rfl) Tryz.func86 rfl (by kernel_rfl) rfl) (fun w hH => rstats_d) rfl rfl ?_
                rintro _ _ ⟨rfl, rfl⟩
                refine s_n (N_alloc (z := .agg #[.int .i64 0, .int .i64 0, .int .i64 0, .int .i64 0, .int .i64 0, .int .i64 0, .int .i64 0, .int .i64 0, .int .i64 0, .int .i64 0, .int .i64 0]) (cs := [.int .i64 0, .int .i64 0, .int .i64 0, .int .i64 0, .int .i64 0, .int .i64 0, .int .i64 0, .int .i64 0, .int .i64 0, .int .i64 0, .int .i64 0]) zv93 rfl) rfl rfl (fun b16 _ => ?_)
                refine s_s (S_storeA (vs := (statsM 2).cells) rfl rfl sz93 (by rfl) (by rfl) up_ (by rfl)) rfl ?_
                refine s_nil ?_
                refine q_then ?_
                refine c_seq ?_
                refine c_reg ?_
                refine s_y (Y_mv) rfl rfl ?_
                refine s_y ((by first | exact Y_rem rfl rfl (by omega) | exact Y_remw rfl rfl (by omega))) rfl rfl ?_
                refine s_y (Y_mv) rfl rfl ?_
                refine s_y ((by first | exact Y_quo rfl rfl (by omega) | exact Y_quow rfl rfl (by omega))) rfl rfl ?_
                refine s_y (Y_fa 3 rfl Tryz.underlying93 rfl sz3 rfl) rfl rfl ?_
                refine s_s (S_st (cs' := ({ statsM 2 with x := up % 24 } : Ent).cells) rfl gt_ sz3 (by rfl) up_ (by rfl) (by rw [Ent.len]; decide)) rfl ?_
                refine s_y (Y_fa 4 rfl Tryz.underlying93 rfl sz3 rfl) rfl rfl ?_
                refine s_s (S_st (cs' := ({ statsM 2 with x := up % 24, y := up / 24 } : Ent).cells) rfl gt_ sz3 (by rfl) up_ (by rfl) (by rw [Ent.len]; decide)) rfl ?_
                refine s_nil ?_
                rw [if_pos hc39] at hrt
                obtain ⟨e9, he9⟩ : ∃ z : Ent, ({ statsM 2 with x := up % 24, y := up / 24 } : Ent) = z := ⟨_, rfl⟩
                rw [he9] at hrt ⊢
                refine QL.pick (L' := [eB eb1 ec1 v.ents, cB cb1 cc1 v.cells, iB ib1 ic1 v.items, wB b4 wz, wB b2 (wL v ⟨cb1, 0, cc1, eb1, 0, ec1, ib1, 0, ic1⟩), e1B b16 e9]) ss_ ?_
                refine q_then ?_
                refine c_reg ?_
                refine s_y (Y_fa 5 rfl Tryz.underlying34 rfl sz30 rfl) rfl rfl ?_
                refine s_y (yl_ one30) rfl rfl ?_
                refine s_y (ya_ many93) rfl rfl ?_
                refine s_c (En_call (fun _ => rfl) Tryz.func88 rfl (by kernel_rfl) rfl) (fun w hH => rspawned_d (eSl hH (b := eb1) (c := ec1) (l := v.ents) mm_ v2 m2) (by omega) e9) rfl rfl ?_
                rintro _ _ hP
                rename_i B
                obtain ⟨eb2, ec2, rfl, m4, hc⟩ := hP.conv m2
                refine QL.conv (fun w hw => hc hw) ?_
                refine s_y (Y_fa 5 rfl Tryz.underlying34 rfl sz30 rfl) rfl rfl ?_
                refine s_s (S_st (cs' := wL v ⟨cb1, 0, cc1, eb2, 0, ec2, ib1, 0, ic1⟩) rfl gt_ sz30 (by rfl) up_ (by rfl) (by simp only [List.length_cons, List.length_nil]; omega)) rfl ?_
                refine s_nil ?_
                exact go ({ v with ents := spawnedM v.ents e9 }, eb2, ec2) _ _ ⟨hrt.symm, m4⟩ trivial rfl (fun w h => h.pick ss_)
              · skip
                try simp only [nrm_] at hc39
                refine c_skip ?_
                exact go (v, eb1, ec1) _ _ ⟨by rw [hrt, if_neg (by omega)], m2⟩ trivial rfl (fun w h => h.pick ss_)
            · skip
              try simp only [nrm_] at hc37
              refine c_skip ?_
              exact go (v, eb1, ec1) _ _ ⟨by rw [hrt, if_neg hc37], m2⟩ trivial rfl (fun w h => h.pick ss_)
end
end Go.Proofs.YtcogbkkdccohfaaGreat
namespace Go.Proofs.YtcogbkkdccohfaaGreat
open Go.RowKit Go.Ad Go.Maps
set_option linter.unusedVariables false
set_option linter.unusedSimpArgs false
def hdr (w : Wd) : Int × Int × Int × Int := (w.seed, w.frame, w.floor, w.state)
theorem hdr_do (w : Wd) (s i : Int) : hdr (doM w s i) = hdr w := by
  unfold doM pickD useD wearD dropD buyD
  simp only
  repeat' split
  all_goals rfl
theorem hdr_hurt (w : Wd) (r n : Int) : hdr (hurtM w r n) = hdr w := by
  unfold hurtM
  simp only
  repeat' split
  all_goals rfl
theorem hdr_marks (w : Wd) (k f t : Int) : hdr (marksE w k f t) = hdr w := by
  unfold marksE
  simp only
  repeat' split
  all_goals rfl
theorem hdr_hit (w : Wd) (f t : Int) : hdr (hitM w f t) = hdr w := by
  unfold hitM
  split
  · rfl
  · rw [hdr_marks, hdr_hurt]
theorem hdr_act (w : Wd) (r k : Int) (foe : Bool) : hdr (actM w r k foe) = hdr w := by
  unfold actM
  simp only
  split
  · rfl
  · split
    · split
      · exact hdr_hit _ _ _
      · rfl
    · split <;> rfl
theorem hdr_ailOne (w : Wd) (i : Nat) : hdr (ailOne w i) = hdr w := by
  unfold ailOne
  simp only
  split
  · rfl
  · split
    · rw [hdr_hurt]; rfl
    · rfl
theorem hdr_ail (w : Wd) : ∀ n, hdr (ailF w n) = hdr w
  | 0 => rfl
  | n + 1 => by rw [ailF, hdr_ailOne, hdr_ail w n]
theorem hdr_foe (w : Wd) (i : Nat) : hdr (foeM w i) = hdr w := by
  unfold foeM
  simp only
  split
  · rfl
  · exact hdr_act _ _ _ _
theorem hdr_foes (w : Wd) : ∀ n, hdr (foesW w n) = hdr w
  | 0 => rfl
  | n + 1 => by rw [foesW, hdr_foe, hdr_foes w n]
theorem hdr_seat (p : Wd × Bool) (a : Deed) (s : Int) : hdr (seatM p a s).1 = hdr p.1 := by
  unfold seatM
  simp only
  split
  · rfl
  · generalize (if a.how = 2 then robotM p.1 s else a.input) = q
    split
    · exact hdr_act _ _ _ _
    · split
      · rfl
      · exact hdr_do _ _ _
theorem hdr_seats (w : Wd) (a : Acts) : ∀ n, hdr (seatsM w a n).1 = hdr w
  | 0 => rfl
  | n + 1 => by rw [seatsM, hdr_seat, hdr_seats w a n]
theorem hdr_rat (w : Wd) : hdr (ratM w) = hdr w := by
  unfold ratM
  simp only
  split
  · split <;> rfl
  · rfl
theorem hdr_mid (w : Wd) : hdr (midM w) = hdr w := by unfold midM; rw [hdr_rat, show ailM (foesW w 32) = ailF (foesW w 32) 32 from rfl, hdr_ail, hdr_foes]
theorem end_hdr (w : Wd) (had left : Bool) : (endM w had left).seed = w.seed ∧ (endM w had left).frame = w.frame ∧ ((endM w had left).floor = w.floor ∨ (left = true ∧ w.floor ≠ 3 ∧ (endM w had left).floor = w.floor + 1)) := by
  unfold endM
  split
  · split
    · exact ⟨rfl, rfl, .inl rfl⟩
    · exact ⟨rfl, rfl, .inl rfl⟩
  · split
    · exact ⟨rfl, rfl, .inl rfl⟩
    · rename_i hc
      split
      · rename_i hl
        exact ⟨rfl, rfl, .inr ⟨hl, fun h => hc ⟨hl, h⟩, rfl⟩⟩
      · exact ⟨rfl, rfl, .inl rfl⟩
theorem step_hdr (d : Wd) (a : Acts) : (stepM d a).seed = d.seed ∧ (stepM d a).frame = d.frame + 1 ∧ d.floor ≤ (stepM d a).floor ∧ (stepM d a).floor ≤ d.floor + 1 := by
  unfold stepM
  simp only
  split
  · exact ⟨rfl, rfl, Int.le_refl _, by simp only; omega⟩
  · obtain ⟨d2, hd2⟩ : ∃ z : Wd, ({ d with frame := d.frame + 1, ents := comesM d.cells d.ents a 4 } : Wd) = z := ⟨_, rfl⟩
    have h0 : hdr d2 = (d.seed, d.frame + 1, d.floor, d.state) := by rw [← hd2]; rfl
    rw [hd2]
    have h1 := hdr_seats d2 a 4
    have h2 := hdr_mid (seatsM d2 a 4).1
    obtain ⟨d3, hd3⟩ : ∃ z, midM (seatsM d2 a 4).1 = z := ⟨_, rfl⟩
    rw [hd3] at h2 ⊢
    rw [h1, h0] at h2
    simp only [hdr, Prod.mk.injEq] at h2
    obtain ⟨e1, e2, e3, e4⟩ := h2
    generalize (someM d.ents || someM (comesM d.cells d.ents a 4)) = had
    obtain ⟨k1, k2, k3⟩ := end_hdr d3 had (seatsM d2 a 4).2
    refine ⟨by rw [k1, e1], by rw [k2, e2], ?_, ?_⟩ <;> rcases k3 with k | ⟨_, _, k⟩ <;> rw [k] <;> omega
end Go.Proofs.YtcogbkkdccohfaaGreat
namespace Go.Ad
open Go.RowKit Go.Maps Go.Proofs.YtcogbkkdccohfaaGreat
def Lls (W : World) (v : Value) (ls : List (List Int)) : Prop := ∃ vs : List Value, SlV W 1 v ls.length vs ∧ ∀ (i : Nat) (l : List Int), ls[i]? = some l → ∃ vi, vs[i]? = some vi ∧ SlV W 1 vi l.length (l.map iv)
theorem Lls.has {W w : World} {L : List Bk} {v : Value} {ls : List (List Int)} (h : Lls W v ls) (hH : Has W [] L w) : Lls w v ls := by
  obtain ⟨vs, h1, h2⟩ := h
  exact ⟨vs, h1.has hH, fun i l hi => by obtain ⟨vi, h3, h4⟩ := h2 i l hi; exact ⟨vi, h3, h4.has hH⟩⟩
def wcs (ps : List (Wd × Ws)) : List Value := ps.flatMap fun p => wL p.1 p.2
theorem wcs_len (ps : List (Wd × Ws)) : (wcs ps).length = ps.length * 11 := fl_len (c := fun p : Wd × Ws => wL p.1 p.2) (fun _ => rfl) ps
theorem wcs_snoc (ps : List (Wd × Ws)) (p : Wd × Ws) : wcs ps ++ wL p.1 p.2 = wcs (ps ++ [p]) := by simp [wcs]
theorem wcs_at {ps : List (Wd × Ws)} {i : Nat} {p : Wd × Ws} (h : ps[i]? = some p) : ∀ j v, (wL p.1 p.2)[j]? = some v → (wcs ps)[0 + i * 11 + j]? = some v := fun j v hj => by rw [Nat.zero_add]; exact fl_get (c := fun p : Wd × Ws => wL p.1 p.2) (fun _ => rfl) h hj
def Own (p : Wd × Ws) (B : List Bk) : Prop := ∃ cb cc eb ec ib ic, p.2 = ⟨cb, 0, cc, eb, 0, ec, ib, 0, ic⟩ ∧ cB cb cc p.1.cells ∈ B ∧ eB eb ec p.1.ents ∈ B ∧ iB ib ic p.1.items ∈ B ∧ 384 ≤ cc ∧ 32 ≤ ec ∧ 40 ≤ ic
theorem Own.mono {p : Wd × Ws} {B B' : List Bk} (h : Own p B) (hs : ∀ x ∈ B, x ∈ B') : Own p B' := by
  obtain ⟨cb, cc, eb, ec, ib, ic, h1, h2, h3, h4, h5⟩ := h
  exact ⟨cb, cc, eb, ec, ib, ic, h1, hs _ h2, hs _ h3, hs _ h4, h5⟩
theorem Own.wl {p : Wd × Ws} {B : List Bk} (h : Own p B) (hz : p.1.cells.length = 384 ∧ p.1.ents.length = 32 ∧ p.1.items.length = 40) {W0 w : World} {M : List Nat} {L : List Bk} (hH : Has W0 M L w) (hs : ∀ x ∈ B, x ∈ L) : WL w p.1 p.2 := by
  obtain ⟨cb, cc, eb, ec, ib, ic, h1, h2, h3, h4, l1, l2, l3⟩ := h
  rw [h1]
  exact wl_of hH hz (hs _ h2) (hs _ h3) (hs _ h4) l1 l2 l3
structure TaleW (seed : Int) (n : Nat) (d : Wd) : Prop where
  vw : VW d
  fr : 0 ≤ d.frame ∧ d.frame ≤ n
  sd : d.seed = seed
theorem TaleW.step {seed : Int} {n : Nat} {d : Wd} (h : TaleW seed n d) (a : Acts) : TaleW seed (n + 1) (stepM d a) := by
  obtain ⟨h1, h2, _⟩ := step_hdr d a
  have := h.fr
  exact ⟨h.vw.step a, by omega, by rw [h1]; exact h.sd⟩
theorem TaleW.new (seed : Int) : TaleW seed 0 (newM seed) := ⟨VW.new seed, by rw [show (newM seed).frame = 0 from rfl]; omega, rfl⟩
theorem TaleW.more {seed : Int} {n m : Nat} {d : Wd} (h : TaleW seed n d) (hm : n ≤ m) : TaleW seed m d := ⟨h.vw, by have := h.fr; omega, h.sd⟩
theorem aall {al : Acts} {s : Nat} (x : Deed) (h : s < al.length) : setAll (acells al) (0 + s * 3) x.cells = acells (al.set s x) := by rw [Nat.zero_add]; exact fl_all Deed.len h x
theorem ble_a {al : Acts} {s : Nat} (h : s < al.length) : Nat.ble (0 + s * 3 + 3) (acells al).length = true := by
  rw [acells_len]
  exact Nat.ble_eq_true_of_le (by omega)
theorem one_w (d : Wd) (s : Ws) : ∀ u ∈ wL d s, u.oneCell' = true := fun u hu => List.all_eq_true.1 (show (wL d s).all (·.oneCell') = true from rfl) u hu
end Go.Ad
namespace Go.Proofs.YtcogbkkdccohfaaGreat
open Go.RowKit Go.Ad Go.Maps
set_option linter.unusedVariables false
set_option linter.unusedSimpArgs false
structure Tale (seed : Int) (ps : List (Wd × Ws)) (B : List Bk) : Prop where
  told : ∀ p ∈ ps, TaleW seed 30 p.1 ∧ Own p B
def StoryP (seed : Int) (n : Nat) (v : Value) (L : List Bk) : Prop := ∃ ps g cap B, ps.length = n ∧ Tale seed ps B ∧ v = .slice (some ⟨g, 0, none⟩) n cap ∧ n ≤ cap ∧ L = ⟨g, 34, 11, cap, wcs ps⟩ :: B
section
variable {W : World}
set_option maxRecDepth 100000 in
theorem l11within_d {a n : Int} (hn : 1 ≤ n ∧ n ≤ 1000000000000) : Does Tryz.prog 18 [iv a, iv n] W [] (fun v L => v = iv (a % n) ∧ L = []) := by
  have hc := tmod_cases a (n := n) (by omega)
  have h2 := Int.emod_lt_of_pos a (show 0 < n by omega)
  have h1 := Int.emod_nonneg a (show n ≠ 0 by omega)
  refine enter Tryz.func18 rfl rfl rfl (Has.start _) ?_
  refine c_seq ?_
  refine c_reg ?_
  refine s_y (Y_asC) rfl rfl ?_
  refine s_nil ?_
  refine q_then ?_
  refine c_seq ?_
  refine c_reg ?_
  refine s_y (Y_mv) rfl rfl ?_
  refine s_y (Y_mv) rfl rfl ?_
  refine s_y (Y_remw rfl rfl (by omega)) rfl rfl ?_
  refine s_y (Y_as) rfl rfl ?_
  refine s_nil ?_
  refine q_then ?_
  refine c_seq ?_
  refine c_seq ?_
  refine c_reg ?_
  refine s_y (Y_mv) rfl rfl ?_
  refine s_y (Y_lss rfl rfl) rfl rfl ?_
  refine s_nil ?_
  refine q_then ?_
  first | refine c_cond' rfl (fun hc2 => ?_) (fun hc2 => ?_) | refine c_cond rfl (fun hc2 => ?_) (fun hc2 => ?_)
  · skip
    try simp only [nrm_] at hc2
    refine c_reg ?_
    refine s_y (Y_mv) rfl rfl ?_
    refine s_y (Y_mv) rfl rfl ?_
    refine s_y ((Y_add rfl rfl (by omega)).num (show _ = a % n by omega)) rfl rfl ?_
    refine s_y (Y_as) rfl rfl ?_
    refine s_nil ?_
    refine q_then ?_
    refine c_seq ?_
    refine c_reg ?_
    refine s_y (Y_mv) rfl rfl ?_
    refine s_y (Y_as) rfl rfl ?_
    refine s_nil ?_
    refine q_then ?_
    refine c_ret ?_
    refine q_retG1 rfl gt_ (L' := _) sl_ (⟨rfl, rfl⟩)
  · skip
    try simp only [nrm_] at hc2
    refine c_skip ?_
    refine q_then ?_
    refine c_seq ?_
    refine c_reg ?_
    refine s_y (Y_mv) rfl rfl ?_
    refine s_y (Y_as) rfl rfl ?_
    refine s_nil ?_
    refine q_then ?_
    refine c_ret ?_
    refine q_retG1 rfl gt_ (L' := _) sl_ (⟨by congr 1; omega, rfl⟩)
set_option maxRecDepth 100000 in
set_option maxHeartbeats 1600000 in
theorem lstory_d {seed : Int} {lv : Value} {ls : List (List Int)} (hl : Lls W lv ls) : Does Tryz.prog 16 [iv seed, lv] W [] (StoryP seed (1 + min ls.length 30)) := by
  obtain ⟨vs, hlv, hli⟩ := hl
  have hll := hlv.le
  simp only [maxLen] at hll
  refine enter Tryz.func16 rfl rfl rfl (Has.start _) ?_
  refine c_seq ?_
  refine c_reg ?_
  refine s_y (Y_asC) rfl rfl ?_
  refine s_nil ?_
  refine q_then ?_
  refine c_seq ?_
  refine c_reg ?_
  refine s_y (Y_mv) rfl rfl ?_
  refine s_c (En_call (fun _ => rfl) Tryz.func45 rfl (by kernel_rfl) rfl) (fun w hH => rnew_d) rfl rfl ?_
  rintro _ _ ⟨cb, cc, eb, ec, ib, ic, rfl, rfl, l1, l2, l3⟩
  have hn := VW.new seed
  have hnt := TaleW.new seed
  obtain ⟨d0, hd0⟩ : ∃ z, newM seed = z := ⟨_, rfl⟩
  rw [hd0] at hn hnt l1 l2 l3 ⊢
  obtain ⟨z1, z2, z3⟩ := hn.sz
  rw [wv_wL ⟨z1, z2, z3⟩]
  rw [z1] at l1
  rw [z2] at l2
  rw [z3] at l3
  refine s_n (N_alloc (z := .agg #[.int .i64 0, .int .i64 0, .int .i64 0, .int .i64 0, .slice none 0 0, .slice none 0 0, .slice none 0 0, .int .i64 0, .int .i64 0, .int .i64 0, .int .i64 0]) (cs := [.int .i64 0, .int .i64 0, .int .i64 0, .int .i64 0, .slice none 0 0, .slice none 0 0, .slice none 0 0, .int .i64 0, .int .i64 0, .int .i64 0, .int .i64 0]) zv34 rfl) rfl rfl (fun b5 _ => ?_)
  refine s_s (S_storeA (vs := wL d0 ⟨cb, 0, cc, eb, 0, ec, ib, 0, ic⟩) rfl rfl sz34 (by rfl) (by rfl) up_ (by rfl)) rfl ?_
  refine s_nil ?_
  refine q_then ?_
  refine c_seq ?_
  refine c_reg ?_
  refine s_y (ya_ many34) rfl rfl ?_
  refine s_n (N_bsA gt_ Tryz.underlying26 inf34 rfl rfl (by omega) (by omega)) rfl rfl (fun b13 _ => ?_)
  refine s_y (Y_as) rfl rfl ?_
  refine s_nil ?_
  refine q_then ?_
  refine c_seq ?_
  refine c_seq ?_
  refine c_reg ?_
  refine s_y (Y_asC) rfl rfl ?_
  refine s_nil ?_
  refine q_then ?_
  refine c_block ?_
  refine c_loop [6, 7, 8, 9, 14, 15, 16, 17, 18, 19, 20, 21, 22, 23, 24, 25, 26, 27, 28, 29, 30, 31, 32, 33, 34, 35, 36, 37, 38, 39, 40, 41, 42, 43, 44, 45, 46, 47, 48, 49, 50, 51, 52, 53, 54, 55, 56, 57, 58, 59, 60, 61, 62, 63, 64, 65, 66, 67, 68, 69, 70, 71, 72, 73] (fun m (y : Nat × Wd × Ws × List (Wd × Ws) × Nat × Nat × List Bk) => y.1 + m = min ls.length 30 ∧ y.2.2.2.1.length = y.1 + 1 ∧ y.1 + 1 ≤ y.2.2.2.2.2.1 ∧ (∀ p ∈ y.2.2.2.1, TaleW seed 30 p.1 ∧ Own p y.2.2.2.2.2.2) ∧ TaleW seed y.1 y.2.1 ∧ Own (y.2.1, y.2.2.1) y.2.2.2.2.2.2) (fun y => [(7, iv y.1), (6, .slice (some ⟨y.2.2.2.2.1, 0, none⟩) (y.1 + 1) y.2.2.2.2.2.1)]) (fun y => ⟨y.2.2.2.2.1, 34, 11, y.2.2.2.2.2.1, wcs y.2.2.2.1⟩ :: wB b5 (wL y.2.1 y.2.2.1) :: y.2.2.2.2.2.2) (min ls.length 30) ((0, d0, ⟨cb, 0, cc, eb, 0, ec, ib, 0, ic⟩, [(d0, ⟨cb, 0, cc, eb, 0, ec, ib, 0, ic⟩)], b13, 1, [cB cb cc d0.cells, eB eb ec d0.ents, iB ib ic d0.items])) (⟨by simp only; omega, rfl, by simp only; omega, fun p hp => by obtain rfl := List.mem_singleton.1 hp; exact ⟨hnt.more (by omega), cb, cc, eb, ec, ib, ic, rfl, mm_, mm_, mm_, l1, l2, l3⟩, hnt, cb, cc, eb, ec, ib, ic, rfl, mm_, mm_, mm_, l1, l2, l3⟩) (by repeat (first | exact trivial | refine ⟨rfl, ?_⟩)) (fun w h => h.pick ss_) (fun _ => rfl) ?_
  rintro m ⟨i, d, s, ps, g, cap, B⟩ j ⟨hi, hpl, hcap, hps, hd, how⟩ K hK
  simp only at hi hpl hcap hps hd how ⊢
  refine c_seq ?_
  refine c_seq ?_
  refine c_reg ?_
  refine s_y (Y_mv) rfl rfl ?_
  refine s_y (Y_mv) rfl rfl ?_
  refine s_y (Y_lenV hlv rfl rfl Tryz.underlying22) rfl rfl ?_
  refine s_y (Y_lss rfl rfl) rfl rfl ?_
  refine s_y (Y_mv) rfl rfl ?_
  apply s_and 3 [18, 19, 20, 21] 21 (g := 18) rfl rfl
  · intro ht5 hm
    try simp only [nrm_] at ht5
    first | refine s_y (Y_mv) rfl rfl ?_ | refine s_pass rfl rfl ?_
    first | refine s_y (Y_lss rfl rfl) rfl rfl ?_ | refine s_pass rfl rfl ?_
    refine s_y (Y_pk rfl (Gx.tmp gt_) Gx.const) rfl rfl ?_
    first | exact hm _ ⟨rfl, trivial⟩ rfl | exact QL.sub sl_ (hm _ ⟨rfl, trivial⟩ rfl)
  · intro ht5 hm
    iterate 2 refine s_pass rfl rfl ?_
    refine s_y (Y_pk rfl (Gx.tmp gt_) Gx.const) rfl rfl ?_
    exact hm _ ⟨rfl, trivial⟩ rfl
  intro j21
  refine s_nil ?_
  refine q_then ?_
  first | refine c_cond' rfl (fun hc4 => ?_) (fun hc4 => ?_) | refine c_cond rfl (fun hc4 => ?_) (fun hc4 => ?_)
  · skip
    try simp only [nrm_] at hc4
    refine c_skip ?_
    refine q_then ?_
    refine c_seq ?_
    refine c_block ?_
    refine c_seq ?_
    obtain ⟨row, hrow⟩ := take_lt (show i < ls.length by omega)
    obtain ⟨rv, hrv, hrl⟩ := hli i row hrow
    obtain ⟨lb, lo, lc, rfl, hls⟩ := hlv.some_of (by omega)
    have hrle := hrl.le
    simp only [maxLen] at hrle
    refine c_reg ?_
    refine s_n (N_alloc (z := .agg #[.int .i64 0, .int .i64 0, .bool false, .int .i64 0, .int .i64 0, .bool false, .int .i64 0, .int .i64 0, .bool false, .int .i64 0, .int .i64 0, .bool false]) (cs := [.int .i64 0, .int .i64 0, .bool false, .int .i64 0, .int .i64 0, .bool false, .int .i64 0, .int .i64 0, .bool false, .int .i64 0, .int .i64 0, .bool false]) zv79 rfl) rfl rfl (fun b8 _ => ?_)
    refine s_nil ?_
    refine q_then ?_
    refine c_seq ?_
    refine c_seq ?_
    refine c_reg ?_
    refine s_y (Y_asC) rfl rfl ?_
    refine s_nil ?_
    refine q_then ?_
    refine c_block ?_
    refine c_loop [9, 24, 25, 26, 27, 28, 29, 30, 31, 32, 33, 34, 35, 36, 37, 38, 39, 40, 41, 42, 43, 44, 45, 46, 47, 48, 49, 50, 51, 52, 53, 54, 55, 56, 57, 58, 59, 60, 61, 62, 63, 64, 65, 66] (fun m2 (y : Nat × Acts) => y.1 + m2 = min 4 row.length ∧ y.2.length = 4) (fun y => [(9, iv y.1)]) (fun y => ⟨b8, 79, 12, 1, acells y.2⟩ :: ⟨g, 34, 11, cap, wcs ps⟩ :: wB b5 (wL d s) :: B) (min 4 row.length) ((0, [⟨0, 0, false⟩, ⟨0, 0, false⟩, ⟨0, 0, false⟩, ⟨0, 0, false⟩])) (⟨by simp only; omega, rfl⟩) (by repeat (first | exact trivial | refine ⟨rfl, ?_⟩)) (fun w h => h) (fun _ => rfl) ?_
    rintro m2 ⟨q, al⟩ j2 ⟨hq, hal⟩ K2 hK2
    simp only at hq hal ⊢
    refine c_seq ?_
    refine c_seq ?_
    refine c_reg ?_
    refine s_y (Y_mv) rfl rfl ?_
    refine s_y (Y_lss rfl rfl) rfl rfl ?_
    refine s_y (Y_mv) rfl rfl ?_
    apply s_and 8 [26, 27, 28, 29, 30, 31, 32, 33, 34] 34 (g := 26) rfl rfl
    · intro ht3 hm
      try simp only [nrm_] at ht3
      first | refine s_y (Y_mv) rfl rfl ?_ | refine s_pass rfl rfl ?_
      first | refine s_y (Y_mv) rfl rfl ?_ | refine s_pass rfl rfl ?_
      first | refine s_y (Y_mv) rfl rfl ?_ | refine s_pass rfl rfl ?_
      first | refine s_y (Y_ia1 (n := i) rfl rfl Tryz.underlying22 sz23 rfl (by omega)) rfl rfl ?_ | refine s_pass rfl rfl ?_
      first | refine s_y (Y_loadR (v := rv) (i := i) rfl one23 hls.ro (by omega) hrv) rfl rfl ?_ | refine s_pass rfl rfl ?_
      first | refine s_y (Y_lenV hrl rfl rfl Tryz.underlying23) rfl rfl ?_ | refine s_pass rfl rfl ?_
      first | refine s_y (Y_lss rfl rfl) rfl rfl ?_ | refine s_pass rfl rfl ?_
      refine s_y (Y_pk rfl (Gx.tmp gt_) Gx.const) rfl rfl ?_
      first | exact hm _ ⟨rfl, trivial⟩ rfl | exact QL.sub sl_ (hm _ ⟨rfl, trivial⟩ rfl)
    · intro ht3 hm
      iterate 7 refine s_pass rfl rfl ?_
      refine s_y (Y_pk rfl (Gx.tmp gt_) Gx.const) rfl rfl ?_
      exact hm _ ⟨rfl, trivial⟩ rfl
    intro j34
    refine s_nil ?_
    refine q_then ?_
    first | refine c_cond' rfl (fun hc8 => ?_) (fun hc8 => ?_) | refine c_cond rfl (fun hc8 => ?_) (fun hc8 => ?_)
    · skip
      try simp only [nrm_] at hc8
      refine c_skip ?_
      refine q_then ?_
      refine c_seq ?_
      refine c_block ?_
      obtain ⟨z, hz⟩ := take_lt (show q < row.length by omega)
      obtain ⟨rb, ro, rc, rfl, hrs⟩ := hrl.some_of (by omega)
      have hzv : (row.map iv)[q]? = some (iv z) := by rw [List.getElem?_map, hz]; rfl
      refine c_rordS (L0 := []) sl_ [30] [(0, true), (1, true), (2, true), (3, true), (4, true), (5, true), (6, true), (7, true), (9, true), (10, true), (11, true), (12, true), (13, true), (14, true), (15, true), (16, true), (18, true), (19, true), (20, true), (21, true), (22, true), (23, true), (24, true), (25, true), (8, false), (17, false), (26, false), (27, true), (28, true), (29, true), (30, false)] (by kernel_rfl) (by kernel_rfl) (by kernel_rfl) (by kernel_rfl) rfl (by intro c a d v w h; cases d <;> exact h) rfl ?_
      simp only [mkOrd, List.filterMap_cons, List.filterMap_nil, List.getElem?_toArray, List.getElem?_cons_zero, List.getElem?_cons_succ, Option.map_some]
      refine o_y (Y_mv) rfl rfl ?_
      refine o_y (Y_mv) rfl rfl ?_
      refine o_y (Y_mv) rfl rfl ?_
      refine o_y (Y_ia1 (n := i) rfl rfl Tryz.underlying22 sz23 rfl (by omega)) rfl rfl ?_
      refine o_y (Y_loadR (v := .slice (some ⟨rb, ro, none⟩) row.length rc) (i := i) rfl one23 hls.ro (by omega) hrv) rfl rfl ?_
      refine o_y (Y_mv) rfl rfl ?_
      refine o_y (Y_ia1 (n := q) rfl rfl Tryz.underlying23 sz3 rfl (by omega)) rfl rfl ?_
      refine o_y (Y_loadR (v := iv z) (i := q) rfl one3 hrs.ro (by omega) hzv) rfl rfl ?_
      refine o_y (Y_mv) rfl rfl ?_
      refine o_y (Y_mv) rfl rfl ?_
      refine o_y (Y_ia1 (n := i) rfl rfl Tryz.underlying22 sz23 rfl (by omega)) rfl rfl ?_
      refine o_y (Y_loadR (v := .slice (some ⟨rb, ro, none⟩) row.length rc) (i := i) rfl one23 hls.ro (by omega) hrv) rfl rfl ?_
      refine o_y (Y_mv) rfl rfl ?_
      refine o_y (Y_ia1 (n := q) rfl rfl Tryz.underlying23 sz3 rfl (by omega)) rfl rfl ?_
      refine o_y (Y_loadR (v := iv z) (i := q) rfl one3 hrs.ro (by omega) hzv) rfl rfl ?_
      refine o_y (Y_quow rfl rfl (by decide)) rfl rfl ?_
      refine o_y (Y_mv) rfl rfl ?_
      refine o_y (Y_mv) rfl rfl ?_
      refine o_y (Y_ia1 (n := i) rfl rfl Tryz.underlying22 sz23 rfl (by omega)) rfl rfl ?_
      refine o_y (Y_loadR (v := .slice (some ⟨rb, ro, none⟩) row.length rc) (i := i) rfl one23 hls.ro (by omega) hrv) rfl rfl ?_
      refine o_y (Y_mv) rfl rfl ?_
      refine o_y (Y_ia1 (n := q) rfl rfl Tryz.underlying23 sz3 rfl (by omega)) rfl rfl ?_
      refine o_y (Y_loadR (v := iv z) (i := q) rfl one3 hrs.ro (by omega) hzv) rfl rfl ?_
      refine o_y (Y_quow rfl rfl (by decide)) rfl rfl ?_
      refine o_c (En_call (fun _ => rfl) Tryz.func18 rfl (by kernel_rfl) rfl) (fun w hH => l11within_d (by decide)) (fun _ _ h => by obtain ⟨rfl, rfl⟩ := h; exact kp_) rfl rfl ?_
      rintro _ _ ⟨rfl, rfl⟩
      refine o_c (En_call (fun _ => rfl) Tryz.func18 rfl (by kernel_rfl) rfl) (fun w hH => l11within_d (by decide)) (fun _ _ h => by obtain ⟨rfl, rfl⟩ := h; exact kp_) rfl rfl ?_
      rintro _ _ ⟨rfl, rfl⟩
      refine o_c (En_call (fun _ => rfl) Tryz.func18 rfl (by kernel_rfl) rfl) (fun w hH => l11within_d (by decide)) (fun _ _ h => by obtain ⟨rfl, rfl⟩ := h; exact kp_) rfl rfl ?_
      rintro _ _ ⟨rfl, rfl⟩
      refine o_y (Y_eql rfl rfl) rfl rfl ?_
      refine o_y (Y_build (cs := [_, _, _]) (by repeat (first | exact Gp.nil | apply Gp.const | apply Gp.tmp gt_)) (bld77 _ _ (by first | rfl | (simp; rfl)))) rfl rfl ?_
      refine o_y (Y_iaA (n := q) rfl rfl Tryz.underlying79 sz77 rfl (by omega)) rfl rfl ?_
      refine o_s (S_storeN (cs' := acells (al.set q ⟨z % 3, IntKind.i64.wrap (z.tdiv 3) % 11, decide (IntKind.i64.wrap (z.tdiv 33) % 3 = 0)⟩)) rfl rfl sz77 (by rfl) (by rfl) up_ (aall ⟨z % 3, IntKind.i64.wrap (z.tdiv 3) % 11, decide (IntKind.i64.wrap (z.tdiv 33) % 3 = 0)⟩ (by omega)) (ble_a (by omega))) kp_ rfl ?_
      refine o_nil ?_
      refine q_bn ?_
      refine q_then ?_
      refine c_reg ?_
      refine s_y (Y_mv) rfl rfl ?_
      refine s_y ad_ rfl rfl ?_
      refine s_y (Y_as) rfl rfl ?_
      refine s_nil ?_
      refine hK2 (m2 - 1) (q + 1, al.set q ⟨z % 3, IntKind.i64.wrap (z.tdiv 3) % 11, decide (IntKind.i64.wrap (z.tdiv 33) % 3 = 0)⟩) _ _ (by omega) ⟨by simp only; omega, by simp only; rw [List.length_set]; exact hal⟩ ⟨rfl, trivial⟩ rfl (fun w h => h)
    · skip
      try simp only [nrm_] at hc8
      refine c_exit ?_
      repeat with_reducible refine q_te ?_
      refine q_exit ?_
      refine q_then ?_
      refine c_seq ?_
      have hac : (acells al).length = 12 := by rw [acells_len, hal]
      refine c_reg ?_
      refine s_y (ya_ many34) rfl rfl ?_
      refine s_y (Y_loadAll rfl many79 mm_ hac) rfl rfl ?_
      refine s_c (En_call (fun _ => rfl) Tryz.func49 rfl (by kernel_rfl) rfl) (fun w hH => rstep_d (how.wl hd.vw.sz hH (fun x hx => by repeat (first | exact hx | exact List.mem_append_left _ hx | exact List.mem_append_right _ hx | apply List.Mem.tail | apply List.mem_append_right))) hd.vw (by have := hd.fr; simp only; omega) hal) rfl rfl ?_
      rintro _ _ ⟨cb1, cc1, eb1, ec1, ib1, ic1, rfl, rfl, m1, m2, m3⟩
      have hd1 := hd.step al
      obtain ⟨d1, hd1e⟩ : ∃ z, stepM d al = z := ⟨_, rfl⟩
      rw [hd1e] at hd1 ⊢
      refine s_s (S_storeA (vs := wL d1 ⟨cb1, 0, cc1, eb1, 0, ec1, ib1, 0, ic1⟩) rfl rfl sz34 (by rfl) (by rfl) up_ (by rfl)) rfl ?_
      refine s_nil ?_
      refine q_then ?_
      refine c_reg ?_
      refine s_y (Y_mv) rfl rfl ?_
      refine s_y (ya_ many34) rfl rfl ?_
      refine s_n (N_bsA gt_ Tryz.underlying26 inf34 rfl rfl (by omega) (by omega)) rfl rfl (fun b72 _ => ?_)
      refine s_n (N_app rfl rfl Tryz.underlying26 inf34 rfl (by omega) se_ (by rw [wcs_len]; omega) (by omega) (src mm_) (by rfl) (one_w _ _) (by omega) (by omega)) rfl rfl (fun ⟨g73, cp73⟩ hc73 => ?_)
      refine s_y (Y_as) rfl rfl ?_
      refine s_nil ?_
      refine q_bn ?_
      refine q_then ?_
      refine c_reg ?_
      refine s_y (Y_mv) rfl rfl ?_
      refine s_y ad_ rfl rfl ?_
      refine s_y (Y_as) rfl rfl ?_
      refine s_nil ?_
      refine hK (m - 1) (i + 1, d1, ⟨cb1, 0, cc1, eb1, 0, ec1, ib1, 0, ic1⟩, ps ++ [(d1, ⟨cb1, 0, cc1, eb1, 0, ec1, ib1, 0, ic1⟩)], g73, cp73, cB cb1 cc1 d1.cells :: eB eb1 ec1 d1.ents :: iB ib1 ic1 d1.items :: B) _ _ (by omega) ⟨by simp only; omega, by simp only; rw [List.length_append, List.length_singleton]; omega, by simp only; omega, fun p hp => ?_, hd1, cb1, cc1, eb1, ec1, ib1, ic1, rfl, mm_, mm_, mm_, m1, m2, m3⟩ ⟨rfl, rfl, trivial⟩ rfl (fun w h => ?_)
      · rcases List.mem_append.1 hp with k | k
        · exact ⟨(hps p k).1, (hps p k).2.mono (fun x hx => List.mem_cons_of_mem _ (List.mem_cons_of_mem _ (List.mem_cons_of_mem _ hx)))⟩
        · obtain rfl := List.mem_singleton.1 k
          exact ⟨hd1.more (by omega), cb1, cc1, eb1, ec1, ib1, ic1, rfl, mm_, mm_, mm_, m1, m2, m3⟩
      · simp only
        rw [← wcs_snoc ps (d1, ⟨cb1, 0, cc1, eb1, 0, ec1, ib1, 0, ic1⟩)]
        exact h.pick2 (xs := [⟨g73, 34, 11, cp73, wcs ps ++ wL d1 ⟨cb1, 0, cc1, eb1, 0, ec1, ib1, 0, ic1⟩⟩, wB b5 (wL d1 ⟨cb1, 0, cc1, eb1, 0, ec1, ib1, 0, ic1⟩), cB cb1 cc1 d1.cells, eB eb1 ec1 d1.ents, iB ib1 ic1 d1.items]) (R' := B) ss_ sl_
  · skip
    try simp only [nrm_] at hc4
    refine c_exit ?_
    repeat with_reducible refine q_te ?_
    refine q_exit ?_
    refine q_then ?_
    refine c_seq ?_
    refine c_reg ?_
    refine s_y (Y_mv) rfl rfl ?_
    refine s_y (Y_as) rfl rfl ?_
    refine s_nil ?_
    refine q_then ?_
    refine c_ret ?_
    refine QL.sub (L' := ⟨g, 34, 11, cap, wcs ps⟩ :: B) ((List.Sublist.refl _).cons _ |>.cons_cons _) ?_
    refine q_retG1 rfl gt_ (L' := _) (List.Sublist.refl _) ⟨ps, g, cap, B, by omega, ⟨hps⟩, by rw [show i + 1 = 1 + min ls.length 30 by omega], by omega, rfl⟩
end
end Go.Proofs.YtcogbkkdccohfaaGreat
namespace Go.Ad
open Go.RowKit Go.Maps Go.Proofs.YtcogbkkdccohfaaGreat
theorem slAt_lt {b o cap l k : Nat} (h : l < cap) : slAt (some ⟨b, o, none⟩) cap l k = some ⟨b, o + l * k, none⟩ := by
  unfold slAt
  rw [if_neg (by omega)]
  show some (Addr.add ⟨b, o, none⟩ (l * k)) = _
  rw [Addr.add_mid]
theorem Y_slM {P : Program} {W : World} {M : List Nat} {L : List Bk} {ρ : Operand → Value} {x lo hi : Operand} {ty : TypeId} {b o n cap l h m : Nat} {ik jk : IntKind} {z y' : Int} {e u : TypeId} (hx : ρ x = .slice (some ⟨b, o, none⟩) n cap) (hh : ρ lo = .int ik z) (hh2 : ρ hi = .int jk y') (hu : P.underlying u = some (.slice e)) (hs : (P.info? e).map (·.size) = some 1) (hz : z = (l : Int)) (hy : y' = (h : Int)) (hm : l + m = h) (h0 : 0 < m) (hc : h ≤ cap) :
    Y P W M L ρ (.slice u x (some lo) (some hi) none) ty (.slice (some ⟨b, o + l, none⟩) m (cap - l)) := by
  have := Y_slLH (P := P) (W := W) (M := M) (L := L) (ty := ty) hx hh hh2 hu hs hz hy (by omega) hc
  rw [slAt_lt (by omega), Nat.mul_one, show h - l = m by omega] at this
  exact this
end Go.Ad
namespace Go.Proofs.YtcogbkkdccohfaaGreat
open Go.RowKit Go.Ad Go.Maps
set_option linter.unusedVariables false
set_option linter.unusedSimpArgs false
end Go.Proofs.YtcogbkkdccohfaaGreat
namespace Go.Ad
open Go.RowKit Go.Maps Go.Proofs.YtcogbkkdccohfaaGreat
end Go.Ad
namespace Go.Proofs.YtcogbkkdccohfaaGreat
open Go.RowKit Go.Ad Go.Maps
set_option linter.unusedVariables false
set_option linter.unusedSimpArgs false
theorem EncP.open {d : Wd} {v : Value} {L : List Bk} (h : EncP d v L) : ∃ a n c, v = .tuple #[.slice a n c, iv (checkM d)] ∧ ∀ {W w : World} {M : List Nat} {L' : List Bk}, Has W M L' w → (∀ x ∈ L, x ∈ L') → BytesAt w a n (if checkM d = 0 then encW d else []) := by
  rcases h with ⟨h1, rfl, rfl⟩ | ⟨h1, g, cap, rfl, rfl, h2⟩
  · refine ⟨none, 0, 0, rfl, fun hH _ => ?_⟩
    rw [if_neg h1]
    exact ⟨rfl, .inl rfl⟩
  · refine ⟨_, _, cap, by rw [h1], fun hH hL => ?_⟩
    rw [if_pos h1]
    exact bytesL (hL _ (List.Mem.head _)) hH
section
variable {W : World}
theorem Does.law {f : FuncId} {args : List Value} (h : Does Tryz.prog f args W [] (fun v L => v = .bool true ∧ L = [])) : Calls Tryz.prog f args.toArray W fun e w' => e = .returned (.bool true) ∧ Ex [] W w' :=
  Calls.mono h fun _ _ ⟨v, L, h1, h2, h3, _⟩ => ⟨by rw [h1, h3], h2.ex⟩
end
end Go.Proofs.YtcogbkkdccohfaaGreat
namespace Go.Ad
open Go.RowKit Go.Maps Go.Proofs.YtcogbkkdccohfaaGreat
def zW : Wd := ⟨0, 0, 0, 0, [], [], [], ⟨0, 0, 0, 0⟩⟩
def decE (bs : List UInt8) : Int := if bs.length < 918 then 7 else if 918 < bs.length then 8 else checkM (decM bs)
def decD (bs : List UInt8) : Wd := if decE bs = 0 then decM bs else zW
theorem decE_ok {bs : List UInt8} (h : decE bs = 0) : bs.length = 918 ∧ checkM (decM bs) = 0 := by
  unfold decE at h
  split at h
  · omega
  · split at h
    · omega
    · exact ⟨by omega, h⟩
theorem Has.pre {W w : World} {M : List Nat} {R : List Bk} {b t k cap : Nat} {c c' : List Value} (h : Has W M (⟨b, t, k, cap, c⟩ :: R) w) (hp : c' <+: c) : Has W M (⟨b, t, k, cap, c'⟩ :: R) w := by
  refine ⟨h.ex, fun y hy => ?_, h.nd⟩
  rcases List.mem_cons.1 hy with rfl | hy
  · obtain ⟨⟨cur, h1, h2, h3, h4⟩, h5⟩ := h.bk ⟨b, t, k, cap, c⟩ (List.Mem.head _)
    exact ⟨⟨cur, h1, h2, h3, hp.trans h4⟩, h5⟩
  · exact h.bk y (List.Mem.tail _ hy)
theorem map_take_pre {α β : Type} (f : α → β) (l : List α) (n : Nat) : (l.take n).map f <+: l.map f := by
  rw [List.map_take]; exact List.take_prefix _ _
end Go.Ad
namespace Go.Proofs.YtcogbkkdccohfaaGreat
open Go.RowKit Go.Ad Go.Maps
set_option linter.unusedVariables false
set_option linter.unusedSimpArgs false
theorem DecP.open {bs : List UInt8} {v : Value} {L : List Bk} (h : DecP bs v L) : ∃ c e i, v = .tuple #[.agg (wcV (decD bs) c e i).toArray, iv (decE bs)] ∧ (wcV (decD bs) c e i).all (·.oneCell') = true ∧ (∀ {W w : World} {M : List Nat} {L' : List Bk}, Has W M L' w → (∀ x ∈ L, x ∈ L') → WAtV w (decD bs) c e i) ∧
    (decE bs = 0 → ∃ s, wcV (decD bs) c e i = wv (decM bs) s ∧ ∀ {W w : World} {M : List Nat} {L' : List Bk}, Has W M L' w → (∀ x ∈ L, x ∈ L') → WAt w (decM bs) s) := by
  rcases h with ⟨e, he, rfl, rfl, h4⟩ | ⟨hl, hc, cb, cc, eb, ec, ib, ic, rfl, rfl, l1, l2, l3⟩
  · have hE : decE bs = e := h4.symm
    have hD : decD bs = zW := by unfold decD; rw [if_neg (by rw [hE]; exact he)]
    rw [hE, hD]
    exact ⟨.slice none 0 0, .slice none 0 0, .slice none 0 0, rfl, rfl, fun _ _ => ⟨.nil, .nil, .nil⟩, fun h => absurd h he⟩
  · have hE : decE bs = 0 := by unfold decE; rw [if_neg (by omega), if_neg (by omega)]; exact hc
    have hD : decD bs = decM bs := by unfold decD; rw [if_pos hE]
    rw [hE, hD]
    have hw : ∀ {W w : World} {M : List Nat} {L' : List Bk}, Has W M L' w → (∀ x ∈ [cB cb cc (decM bs).cells, eB eb ec (decM bs).ents, iB ib ic (decM bs).items], x ∈ L') → WAt w (decM bs) ⟨cb, 0, cc, eb, 0, ec, ib, 0, ic⟩ := fun hH hs => wAt_of hH (hs _ mm_) (hs _ mm_) (hs _ mm_) l1 l2 l3
    exact ⟨_, _, _, rfl, rfl, fun hH hs => (hw hH hs).v, fun _ => ⟨⟨cb, 0, cc, eb, 0, ec, ib, 0, ic⟩, rfl, fun hH hs => hw hH hs⟩⟩
end Go.Proofs.YtcogbkkdccohfaaGreat
namespace Go.Ad
open Go.RowKit Go.Maps
def seatC (m : Nat) : List Value := [.bool (m.testBit 0), .bool (m.testBit 1), .bool (m.testBit 2), .bool (m.testBit 3)]
theorem seat_at {m s : Nat} (h : s < 4) : (seatC m)[s]? = some (.bool (m.testBit s)) := by
  rcases s with _ | _ | _ | _ | s <;> first | rfl | omega
def seatB (m : Nat) : UInt8 := UInt8.ofNat m
theorem bit_step_yes : ∀ m : Nat, m < 16 → ∀ s : Nat, s < 4 → m.testBit s = true → IntKind.u8.wrap ((BitVec.ofInt 8 ((m % 2 ^ s : Nat) : Int) ||| BitVec.ofInt 8 (IntKind.u8.wrap (1 * 2 ^ min ((s : Nat) : Int).toNat 8))).toNat : Int) = ((m % 2 ^ (s + 1) : Nat) : Int) := by decide
theorem bit_step_no : ∀ m : Nat, m < 16 → ∀ s : Nat, s < 4 → m.testBit s = false → m % 2 ^ s = m % 2 ^ (s + 1) := by decide
theorem bit_get : ∀ m : Nat, m < 16 → ∀ s : Nat, s < 4 → decide (IntKind.u8.wrap ((BitVec.ofInt 8 ((m : Int).fdiv (2 ^ min ((s : Nat) : Int).toNat 8)) &&& BitVec.ofInt 8 1).toNat : Int) = 1) = m.testBit s := by decide
theorem bv_seat : ∀ m : Nat, m < 16 → bv (seatB m) = .int .u8 (m : Int) := by
  intro m hm
  unfold seatB bv
  rw [show (UInt8.ofNat m).toNat = m by simp; omega]
def cmpC (d : Wd) (s : Ws) (m : Nat) : List Value := wL d s ++ seatC m
theorem cmp_world {d : Wd} {s : Ws} {m : Nat} : ∀ i v, (wL d s)[i]? = some v → (cmpC d s m)[0 + 0 + i]? = some v := fun i v h => by
  rw [show 0 + 0 + i = i by omega, cmpC, List.getElem?_append_left (List.getElem?_eq_some_iff.1 h).1]; exact h
theorem cmp_seats {d : Wd} {s : Ws} {m : Nat} : ∀ i v, (seatC m)[i]? = some v → (cmpC d s m)[0 + 11 + i]? = some v := fun i v h => by
  rw [cmpC, List.getElem?_append_right (by show 11 ≤ _; omega), show 0 + 11 + i - (wL d s).length = i by show 0 + 11 + i - 11 = i; omega]; exact h
def sDecE (bs : List UInt8) : Int := if bs.length = 0 then 7 else if 16 ≤ byteAt bs 0 then 9 else decE (bs.drop 1)
def sDecD (bs : List UInt8) : Wd := if sDecE bs = 0 then decM (bs.drop 1) else zW
def sDecM (bs : List UInt8) : Nat := if sDecE bs = 0 then (byteAt bs 0).toNat else 0
def seatP (m s : Nat) : List Value := [.bool (decide (0 < s) && m.testBit 0), .bool (decide (1 < s) && m.testBit 1), .bool (decide (2 < s) && m.testBit 2), .bool (decide (3 < s) && m.testBit 3)]
theorem seatP_set {X : List Value} {m s : Nat} (hX : X.length = 11) (h : s < 4) : (X ++ seatP m s).set (0 + 11 + s * 1) (.bool (m.testBit s)) = X ++ seatP m (s + 1) := by
  rw [List.set_append_right _ _ (by omega), show 0 + 11 + s * 1 - X.length = s by omega]
  congr 1
  rcases s with _ | _ | _ | _ | s
  · simp [seatP]
  · simp [seatP]
  · simp [seatP]
  · simp [seatP]
  · omega
theorem seatP_four (m : Nat) : seatP m 4 = seatC m := by simp [seatP, seatC]
theorem slAt_tail {W : World} {b o n c k : Nat} {bs : List UInt8} (h : SlB W b o n c 1 (bs.map bv)) (hk : k ≤ n) : ∃ o2, slAt (some ⟨b, o, none⟩) c k 1 = some ⟨b, o2, none⟩ ∧ SlB W b o2 (n - k) (c - k) 1 ((bs.drop k).map bv) := by
  have hl : bs.length = n := by have := h.len; simpa using this
  by_cases hc : c = k
  · have hn : n = k := by have := h.cap; omega
    refine ⟨o, by unfold slAt; rw [if_pos hc], ?_⟩
    rw [List.drop_of_length_le (by omega)]
    exact ⟨by simp; omega, by have := h.cap; omega, by have := h.big; omega, h.lt, fun j v hj => by simp at hj⟩
  · refine ⟨o + k, by rw [slAt_lt (by have := h.cap; omega), Nat.mul_one], ?_⟩
    have h2 := h.sub (k := k) (m := n - k) (by omega)
    rwa [List.take_of_length_le (by rw [List.length_drop]; omega)] at h2
theorem Y_slT {P : Program} {W : World} {M : List Nat} {L : List Bk} {ρ : Operand → Value} {x lo : Operand} {ty : TypeId} {b o o2 n cap l kk : Nat} {ik : IntKind} {z : Int} {e u : TypeId} (hsv : slAt (some ⟨b, o, none⟩) cap l kk = some ⟨b, o2, none⟩) (hx : ρ x = .slice (some ⟨b, o, none⟩) n cap) (hh : ρ lo = .int ik z) (hu : P.underlying u = some (.slice e)) (hs : (P.info? e).map (·.size) = some kk) (hz : z = (l : Int)) (hl : l ≤ n) :
    Y P W M L ρ (.slice u x (some lo) none none) ty (.slice (some ⟨b, o2, none⟩) (n - l) (cap - l)) := hsv ▸ Y_slLo hx hh hu hs hz hl
end Go.Ad
namespace Go.Proofs.YtcogbkkdccohfaaGreat
open Go.RowKit Go.Ad Go.Maps
set_option linter.unusedVariables false
set_option linter.unusedSimpArgs false
section
variable {W : World}
theorem pencL_d {d : Wd} {s : Ws} (hw : WL W d s) (hok : ∀ x ∈ d.items, Itm.ok x) : Does Tryz.prog 22 [.agg (wL d s).toArray] W [] (EncP d) := by
  have h := penc_d hw.at' hok
  rwa [wv_wL hw.sz] at h
set_option maxRecDepth 100000 in
theorem sEnc_bad {d : Wd} {s : Ws} {m : Nat} (hw : WL W d s) (hok : ∀ x ∈ d.items, Itm.ok x) (hck : checkM d ≠ 0) : Does Tryz.prog 33 [.agg (cmpC d s m).toArray] W [] (fun v L => v = .tuple #[.slice none 0 0, iv (checkM d)] ∧ L = []) := by
  refine enter Tryz.func33 rfl rfl rfl (Has.start _) ?_
  refine c_seq ?_
  refine c_reg ?_
  refine s_n (N_box (cs := cmpC d s m) rfl) rfl rfl (fun b1 _ => ?_)
  refine s_y (Y_asC) rfl rfl ?_
  refine s_y (Y_asC) rfl rfl ?_
  refine s_nil ?_
  refine q_then ?_
  refine c_seq ?_
  refine c_reg ?_
  refine s_y (Y_fa 0 rfl Tryz.underlying58 rfl sz34 rfl) rfl rfl ?_
  refine s_y (Y_loadN (vs := wL d s) rfl many34 (by repeat (first | exact List.Mem.head _ | assumption | apply List.Mem.tail | apply List.mem_append_right)) (by rfl) cmp_world) rfl rfl ?_
  refine s_c (En_call (fun _ => rfl) Tryz.func22 rfl (by kernel_rfl) rfl) (fun w hH => pencL_d (hw.has hH) hok) rfl rfl ?_
  rintro _ _ hE
  obtain ⟨_, rfl, rfl⟩ := hE.resolve_right (fun h => hck h.1)
  refine s_y (Y_mv) rfl rfl ?_
  refine s_y (Y_extract rfl rfl) rfl rfl ?_
  refine s_y (Y_extract rfl rfl) rfl rfl ?_
  refine s_y (Y_as) rfl rfl ?_
  refine s_y (Y_as) rfl rfl ?_
  refine s_nil ?_
  refine q_then ?_
  refine c_seq ?_
  refine c_seq ?_
  refine c_reg ?_
  refine s_y (Y_mv) rfl rfl ?_
  refine s_y (Y_neq rfl rfl) rfl rfl ?_
  refine s_nil ?_
  refine q_then ?_
  refine c_T rfl ((by simpa using hck)) ?_
  refine c_seq ?_
  refine c_reg ?_
  refine s_y (Y_mv) rfl rfl ?_
  refine s_y (Y_asC) rfl rfl ?_
  refine s_y (Y_as) rfl rfl ?_
  refine s_nil ?_
  refine q_then ?_
  refine c_ret ?_
  refine q_retG2 rfl (by repeat (first | exact Gt.here | apply Gt.there (by rfl) | exact Gt.base (by rfl))) (by repeat (first | exact Gt.here | apply Gt.there (by rfl) | exact Gt.base (by rfl))) (L' := _) (by repeat (first | exact List.Sublist.refl _ | exact List.nil_sublist _ | apply List.Sublist.cons_cons | apply List.Sublist.cons)) (⟨rfl, rfl⟩)
set_option maxRecDepth 100000 in
theorem sEnc_d {d : Wd} {s : Ws} {m : Nat} (hm : m < 16) (hw : WL W d s) (hck : checkM d = 0) : Does Tryz.prog 33 [.agg (cmpC d s m).toArray] W [] (fun v L => ∃ g cap, v = .tuple #[.slice (some ⟨g, 0, none⟩) 919 cap, iv 0] ∧ L = [cB g cap (seatB m :: encW d)] ∧ 919 ≤ cap) := by
  have hel := enc_len hck
  refine enter Tryz.func33 rfl rfl rfl (Has.start _) ?_
  refine c_seq ?_
  refine c_reg ?_
  refine s_n (N_box (cs := cmpC d s m) rfl) rfl rfl (fun b1 _ => ?_)
  refine s_y (Y_asC) rfl rfl ?_
  refine s_y (Y_asC) rfl rfl ?_
  refine s_nil ?_
  refine q_then ?_
  refine c_seq ?_
  refine c_reg ?_
  refine s_y (Y_fa 0 rfl Tryz.underlying58 rfl sz34 rfl) rfl rfl ?_
  refine s_y (Y_loadN (vs := wL d s) rfl many34 (by repeat (first | exact List.Mem.head _ | assumption | apply List.Mem.tail | apply List.mem_append_right)) (by rfl) cmp_world) rfl rfl ?_
  refine s_c (En_call (fun _ => rfl) Tryz.func22 rfl (by kernel_rfl) rfl) (fun w hH => pencL_d (hw.has hH) (ok_of_check hck)) rfl rfl ?_
  rintro _ _ hE
  rcases hE with ⟨h0, _⟩ | ⟨_, g, cap, rfl, rfl, hcap⟩
  · exact absurd hck h0
  rw [hel] at hcap ⊢
  refine s_y (Y_mv) rfl rfl ?_
  refine s_y (Y_extract rfl rfl) rfl rfl ?_
  refine s_y (Y_extract rfl rfl) rfl rfl ?_
  refine s_y (Y_as) rfl rfl ?_
  refine s_y (Y_as) rfl rfl ?_
  refine s_nil ?_
  refine q_then ?_
  refine c_seq ?_
  refine c_seq ?_
  refine c_reg ?_
  refine s_y (Y_mv) rfl rfl ?_
  refine s_y (Y_neq rfl rfl) rfl rfl ?_
  refine s_nil ?_
  refine q_then ?_
  refine c_F rfl ((by rfl)) ?_
  refine c_skip ?_
  refine q_then ?_
  refine c_seq ?_
  refine c_reg ?_
  refine s_y (Y_asC) rfl rfl ?_
  refine s_nil ?_
  refine q_then ?_
  refine c_seq ?_
  refine c_seq ?_
  refine c_reg ?_
  refine s_y (Y_fa 11 rfl Tryz.underlying58 rfl sz56 rfl) rfl rfl ?_
  refine s_y (Y_loadN (vs := seatC m) rfl many56 (by repeat (first | exact List.Mem.head _ | assumption | apply List.Mem.tail | apply List.mem_append_right)) (by rfl) cmp_seats) rfl rfl ?_
  refine s_y (Y_mvC) rfl rfl ?_
  refine s_nil ?_
  refine q_then ?_
  refine c_block ?_
  refine c_loop [6, 7, 8, 20, 21, 22, 23, 24, 25, 26, 27, 28, 29] (fun q (y : Nat × Int) => y.1 + q = 4 ∧ y.2 = ((m % 2 ^ y.1 : Nat) : Int)) (fun y => [(20, iv y.1), (6, .int .u8 y.2)]) (fun _ => [cB g cap (encW d)]) (4) ((0, 0)) (⟨rfl, by simp [Nat.mod_one]⟩) (by repeat (first | exact trivial | refine ⟨rfl, ?_⟩)) (fun _ h => h.sub (by repeat (first | exact List.Sublist.refl _ | exact List.nil_sublist _ | apply List.Sublist.cons_cons | apply List.Sublist.cons))) (fun _ => rfl) ?_
  rintro q ⟨s, bits⟩ j ⟨hs, hbits⟩ K hK
  simp only at hs hbits ⊢
  refine c_seq ?_
  refine c_reg ?_
  refine s_y (Y_lss rfl rfl) rfl rfl ?_
  refine s_nil ?_
  refine q_then ?_
  refine c_seq ?_
  first | refine c_cond' rfl (fun hc6 => ?_) (fun hc6 => ?_) | refine c_cond rfl (fun hc6 => ?_) (fun hc6 => ?_)
  · skip
    try simp only [Bool.and_eq_true, Bool.or_eq_true, Bool.and_eq_false_iff, Bool.or_eq_false_iff, Bool.not_eq_true', Bool.not_eq_false', Bool.not_eq_eq_eq_not, Bool.not_true, Bool.not_false, decide_eq_true_eq, decide_eq_false_iff_not, Decidable.not_not] at hc6
    refine c_skip ?_
    refine q_then ?_
    refine c_seq ?_
    refine c_block ?_
    refine c_seq ?_
    refine c_reg ?_
    refine s_y (Y_mv) rfl rfl ?_
    refine s_y (Y_idx (i := s) rfl rfl Tryz.underlying56 one4 sz4 rfl (by omega) (seat_at (by omega))) rfl rfl ?_
    refine s_y (Y_as) rfl rfl ?_
    refine s_y (Y_as) rfl rfl ?_
    refine s_nil ?_
    refine q_then ?_
    refine c_seq ?_
    refine c_reg ?_
    refine s_y (Y_mv) rfl rfl ?_
    refine s_nil ?_
    refine q_then ?_
    refine c_cond (t := (m.testBit s)) rfl (fun hb => ?_) (fun hb => ?_)
    · skip
      try simp only [Bool.and_eq_true, Bool.or_eq_true, Bool.and_eq_false_iff, Bool.or_eq_false_iff, Bool.not_eq_true', Bool.not_eq_false', Bool.not_eq_eq_eq_not, Bool.not_true, Bool.not_false, decide_eq_true_eq, decide_eq_false_iff_not, Decidable.not_not] at hb
      refine c_reg ?_
      refine s_y (Y_mv) rfl rfl ?_
      refine s_y (Y_mv) rfl rfl ?_
      refine s_y (Y_shl rfl rfl (by omega)) rfl rfl ?_
      refine s_y ((Y_bits rfl rfl rfl (by simp)).num (show _ = ((m % 2 ^ (s + 1) : Nat) : Int) by rw [hbits]; exact bit_step_yes m hm s (by omega) hb)) rfl rfl ?_
      refine s_y (Y_as) rfl rfl ?_
      refine s_nil ?_
      refine q_bn ?_
      refine q_then ?_
      refine c_reg ?_
      refine s_y ad_ rfl rfl ?_
      refine s_y (Y_mv) rfl rfl ?_
      refine s_nil ?_
      refine hK (q - 1) (s + 1, ((m % 2 ^ (s + 1) : Nat) : Int)) _ _ (by omega) ⟨by simp only; omega, rfl⟩ ⟨rfl, rfl, trivial⟩ rfl (fun w h => h)
    · skip
      try simp only [Bool.and_eq_true, Bool.or_eq_true, Bool.and_eq_false_iff, Bool.or_eq_false_iff, Bool.not_eq_true', Bool.not_eq_false', Bool.not_eq_eq_eq_not, Bool.not_true, Bool.not_false, decide_eq_true_eq, decide_eq_false_iff_not, Decidable.not_not] at hb
      refine c_skip ?_
      refine q_bn ?_
      refine q_then ?_
      refine c_reg ?_
      refine s_y ad_ rfl rfl ?_
      refine s_y (Y_mv) rfl rfl ?_
      refine s_nil ?_
      refine hK (q - 1) (s + 1, bits) _ _ (by omega) ⟨by simp only; omega, by simp only; rw [hbits, bit_step_no m hm s (by omega) hb]⟩ ⟨rfl, rfl, trivial⟩ rfl (fun w h => h)
  · skip
    try simp only [Bool.and_eq_true, Bool.or_eq_true, Bool.and_eq_false_iff, Bool.or_eq_false_iff, Bool.not_eq_true', Bool.not_eq_false', Bool.not_eq_eq_eq_not, Bool.not_true, Bool.not_false, decide_eq_true_eq, decide_eq_false_iff_not, Decidable.not_not] at hc6
    refine c_exit ?_
    repeat with_reducible refine q_te ?_
    refine q_exit ?_
    refine q_then ?_
    refine c_seq ?_
    obtain rfl : s = 4 := by omega
    obtain rfl : bits = (m : Int) := by rw [hbits, Nat.mod_eq_of_lt (by omega)]
    refine c_reg ?_
    refine s_y (Y_mv) rfl rfl ?_
    refine s_n (N_bs (xs := [.tmp 30]) (by repeat (first | exact Gv.nil | apply Gv.const | apply Gv.tmp (by repeat (first | exact Gt.here | apply Gt.there (by rfl) | exact Gt.base (by rfl))))) rfl Tryz.underlying24 inf5 rfl (by omega) (by omega) (by first | simp [Value.oneCell'] | (intro v hv; simp at hv; subst hv; rfl))) rfl rfl (fun b31 _ => ?_)
    refine s_y (Y_mv) rfl rfl ?_
    refine s_n (N_app (news := (encW d).map bv) rfl rfl Tryz.underlying24 inf5 rfl (by omega) se_ (by rfl) (by omega) (src (by repeat (first | exact List.Mem.head _ | assumption | apply List.Mem.tail | apply List.mem_append_right))) (by rw [List.length_map, hel]) (bvs_one _) (by omega) (by omega)) rfl rfl (fun ⟨g33, cp33⟩ hc33 => ?_)
    refine s_y (Y_as) rfl rfl ?_
    refine s_y (Y_asC) rfl rfl ?_
    refine s_nil ?_
    refine QL.conv (L' := [cB g33 cp33 (seatB m :: encW d)]) (fun w h => by rw [show cB g33 cp33 (seatB m :: encW d) = ⟨g33, 5, 1, cp33, [.int .u8 (m : Int)] ++ (encW d).map bv⟩ from by unfold cB; rw [List.map_cons, bv_seat m hm]; rfl]; exact h.pick ss_) ?_
    refine q_then ?_
    refine c_ret ?_
    refine q_retG2 rfl (by repeat (first | exact Gt.here | apply Gt.there (by rfl) | exact Gt.base (by rfl))) (by repeat (first | exact Gt.here | apply Gt.there (by rfl) | exact Gt.base (by rfl))) (L' := _) (by repeat (first | exact List.Sublist.refl _ | exact List.nil_sublist _ | apply List.Sublist.cons_cons | apply List.Sublist.cons)) (⟨_, _, rfl, rfl, hc33⟩)
def SDecP (bs : List UInt8) (v : Value) (L : List Bk) : Prop := ∃ c e i, v = .tuple #[.agg (wcV (sDecD bs) c e i ++ seatC (sDecM bs)).toArray, iv (sDecE bs)] ∧ (wcV (sDecD bs) c e i).all (·.oneCell') = true ∧ ∀ {W w : World} {M : List Nat} {L' : List Bk}, Has W M L' w → (∀ x ∈ L, x ∈ L') → WAtV w (sDecD bs) c e i
theorem SDecP.bad {bs : List UInt8} {e : Int} (h : sDecE bs = e) (he : e ≠ 0) : SDecP bs (.tuple #[.agg (wz ++ seatC 0).toArray, iv e]) [] := by
  have hD : sDecD bs = zW := by unfold sDecD; rw [if_neg (by rw [h]; exact he)]
  have hM : sDecM bs = 0 := by unfold sDecM; rw [if_neg (by rw [h]; exact he)]
  refine ⟨.slice none 0 0, .slice none 0 0, .slice none 0 0, by rw [hD, hM, h]; rfl, by rw [hD]; rfl, fun _ _ => by rw [hD]; exact ⟨.nil, .nil, .nil⟩⟩
set_option maxRecDepth 100000 in
set_option maxHeartbeats 1600000 in
theorem sDec_d {bsv : Value} {n : Nat} {bs : List UInt8} (hs : SlV W 1 bsv n (bs.map bv)) (hn : n ≤ 100000000) : Does Tryz.prog 34 [bsv] W [] (SDecP bs) := by
  obtain rfl : n = bs.length := by have := hs.len; simpa using this.symm
  refine enter Tryz.func34 rfl rfl rfl (Has.start _) ?_
  refine c_seq ?_
  refine c_reg ?_
  refine s_n (N_alloc (z := .agg #[.int .i64 0, .int .i64 0, .int .i64 0, .int .i64 0, .slice none 0 0, .slice none 0 0, .slice none 0 0, .int .i64 0, .int .i64 0, .int .i64 0, .int .i64 0, .bool false, .bool false, .bool false, .bool false]) (cs := [.int .i64 0, .int .i64 0, .int .i64 0, .int .i64 0, .slice none 0 0, .slice none 0 0, .slice none 0 0, .int .i64 0, .int .i64 0, .int .i64 0, .int .i64 0, .bool false, .bool false, .bool false, .bool false]) zv58 rfl) rfl rfl (fun b2 _ => ?_)
  refine s_y (Y_asC) rfl rfl ?_
  refine s_nil ?_
  refine q_then ?_
  refine c_seq ?_
  refine c_block ?_
  refine c_seq ?_
  refine c_reg ?_
  refine s_y (Y_mv) rfl rfl ?_
  refine s_y (Y_lenV hs rfl rfl Tryz.underlying24) rfl rfl ?_
  refine s_y (Y_eql rfl rfl) rfl rfl ?_
  refine s_y (Y_as) rfl rfl ?_
  refine s_nil ?_
  refine q_then ?_
  first | refine c_cond' rfl (fun hc1 => ?_) (fun hc1 => ?_) | refine c_cond rfl (fun hc1 => ?_) (fun hc1 => ?_)
  · skip
    try simp only [Bool.and_eq_true, Bool.or_eq_true, Bool.and_eq_false_iff, Bool.or_eq_false_iff, Bool.not_eq_true', Bool.not_eq_false', Bool.not_eq_eq_eq_not, Bool.not_true, Bool.not_false, decide_eq_true_eq, decide_eq_false_iff_not, Decidable.not_not] at hc1
    refine c_seq ?_
    refine c_reg ?_
    refine s_y (Y_build (cs := wz ++ seatC 0) ((by repeat (first | exact Gp.nil | apply Gp.const | apply Gp.tmp (by repeat (first | exact Gt.here | apply Gt.there (by rfl) | exact Gt.base (by rfl)))))) (bld58 _ _ (by kernel_rfl))) rfl rfl ?_
    refine s_s (S_storeA (vs := wz ++ seatC 0) rfl rfl sz58 (by rfl) (by rfl) up_ (by rfl)) rfl ?_
    refine s_y (Y_asC) rfl rfl ?_
    refine s_nil ?_
    refine q_then ?_
    refine c_ret ?_
    refine q_ret2c rfl rfl many58 rfl (by repeat (first | exact List.Mem.head _ | assumption | apply List.Mem.tail | apply List.mem_append_right)) (by rfl) (L' := []) (by repeat (first | exact List.Sublist.refl _ | exact List.nil_sublist _ | apply List.Sublist.cons_cons | apply List.Sublist.cons)) (SDecP.bad (by unfold sDecE; rw [if_pos (by omega)]) (by decide))
  · skip
    try simp only [Bool.and_eq_true, Bool.or_eq_true, Bool.and_eq_false_iff, Bool.or_eq_false_iff, Bool.not_eq_true', Bool.not_eq_false', Bool.not_eq_eq_eq_not, Bool.not_true, Bool.not_false, decide_eq_true_eq, decide_eq_false_iff_not, Decidable.not_not] at hc1
    refine c_seq ?_
    obtain ⟨bb, o, c, rfl, hsb⟩ := hs.some_of (by omega)
    refine c_reg ?_
    refine s_y (Y_mv) rfl rfl ?_
    refine s_y (Y_ia (n := 0) rfl rfl Tryz.underlying24 sz5 rfl (by omega)) rfl rfl ?_
    refine s_y (Y_loadR (v := .int .u8 (byteAt bs 0)) (i := 0) rfl one5 hsb.ro (by omega) (byte_get (by omega))) rfl rfl ?_
    refine s_y (Y_geq rfl rfl) rfl rfl ?_
    refine s_y (Y_as) rfl rfl ?_
    refine s_nil ?_
    refine q_then ?_
    first | refine c_cond' rfl (fun hc3 => ?_) (fun hc3 => ?_) | refine c_cond rfl (fun hc3 => ?_) (fun hc3 => ?_)
    · skip
      try simp only [Bool.and_eq_true, Bool.or_eq_true, Bool.and_eq_false_iff, Bool.or_eq_false_iff, Bool.not_eq_true', Bool.not_eq_false', Bool.not_eq_eq_eq_not, Bool.not_true, Bool.not_false, decide_eq_true_eq, decide_eq_false_iff_not, Decidable.not_not] at hc3
      refine c_seq ?_
      refine c_reg ?_
      refine s_y (Y_build (cs := wz ++ seatC 0) ((by repeat (first | exact Gp.nil | apply Gp.const | apply Gp.tmp (by repeat (first | exact Gt.here | apply Gt.there (by rfl) | exact Gt.base (by rfl)))))) (bld58 _ _ (by kernel_rfl))) rfl rfl ?_
      refine s_s (S_storeA (vs := wz ++ seatC 0) rfl rfl sz58 (by rfl) (by rfl) up_ (by rfl)) rfl ?_
      refine s_y (Y_asC) rfl rfl ?_
      refine s_nil ?_
      refine q_then ?_
      refine c_ret ?_
      refine q_ret2c rfl rfl many58 rfl (by repeat (first | exact List.Mem.head _ | assumption | apply List.Mem.tail | apply List.mem_append_right)) (by rfl) (L' := []) (by repeat (first | exact List.Sublist.refl _ | exact List.nil_sublist _ | apply List.Sublist.cons_cons | apply List.Sublist.cons)) (SDecP.bad (by unfold sDecE; rw [if_neg (by omega), if_pos (by omega)]) (by decide))
    · skip
      try simp only [Bool.and_eq_true, Bool.or_eq_true, Bool.and_eq_false_iff, Bool.or_eq_false_iff, Bool.not_eq_true', Bool.not_eq_false', Bool.not_eq_eq_eq_not, Bool.not_true, Bool.not_false, decide_eq_true_eq, decide_eq_false_iff_not, Decidable.not_not] at hc3
      refine c_skip ?_
      refine q_bn ?_
      refine q_then ?_
      refine c_seq ?_
      obtain ⟨o2, hsv, hs2⟩ := slAt_tail hsb (k := 1) (by omega)
      refine c_reg ?_
      refine s_y (Y_mv) rfl rfl ?_
      refine s_y (Y_slT hsv rfl rfl Tryz.underlying24 sz5 rfl (by omega)) rfl rfl ?_
      refine s_c (En_call (fun _ => rfl) Tryz.func19 rfl (by kernel_rfl) rfl) (fun w hH => pdec_d (hs2.has hH) (by omega)) rfl rfl ?_
      rintro _ _ hD1
      rename_i lD1
      obtain ⟨c1, e1, i1, rfl, ho1, hr1, hs1⟩ := hD1.open
      obtain ⟨hE, hD, hM⟩ : sDecE bs = decE (bs.drop 1) ∧ sDecD bs = decD (bs.drop 1) ∧ (decE (bs.drop 1) = 0 → sDecM bs = (byteAt bs 0).toNat) := by
        have h1 : sDecE bs = decE (bs.drop 1) := by unfold sDecE; rw [if_neg (by omega), if_neg (by omega)]
        refine ⟨h1, ?_, fun h0 => ?_⟩
        · unfold sDecD decD; rw [h1]
        · unfold sDecM; rw [h1, if_pos h0]
      refine QL.perm List.perm_append_comm ?_
      refine s_y (Y_mv) rfl rfl ?_
      refine s_y (Y_extract rfl rfl) rfl rfl ?_
      refine s_y (Y_extract rfl rfl) rfl rfl ?_
      refine s_n (N_alloc (z := .agg #[.int .i64 0, .int .i64 0, .int .i64 0, .int .i64 0, .slice none 0 0, .slice none 0 0, .slice none 0 0, .int .i64 0, .int .i64 0, .int .i64 0, .int .i64 0]) (cs := [.int .i64 0, .int .i64 0, .int .i64 0, .int .i64 0, .slice none 0 0, .slice none 0 0, .slice none 0 0, .int .i64 0, .int .i64 0, .int .i64 0, .int .i64 0]) zv34 rfl) rfl rfl (fun b4 _ => ?_)
      refine s_s (S_storeA (vs := wcV (decD (bs.drop 1)) c1 e1 i1) rfl rfl sz34 (by rfl) ho1 up_ (by rfl)) rfl ?_
      refine s_y (Y_as) rfl rfl ?_
      refine s_nil ?_
      refine q_then ?_
      refine c_seq ?_
      refine c_seq ?_
      refine c_reg ?_
      refine s_y (Y_mv) rfl rfl ?_
      refine s_y (Y_neq rfl rfl) rfl rfl ?_
      refine s_nil ?_
      refine q_then ?_
      first | refine c_cond' rfl (fun hc6 => ?_) (fun hc6 => ?_) | refine c_cond rfl (fun hc6 => ?_) (fun hc6 => ?_)
      · skip
        try simp only [Bool.and_eq_true, Bool.or_eq_true, Bool.and_eq_false_iff, Bool.or_eq_false_iff, Bool.not_eq_true', Bool.not_eq_false', Bool.not_eq_eq_eq_not, Bool.not_true, Bool.not_false, decide_eq_true_eq, decide_eq_false_iff_not, Decidable.not_not] at hc6
        refine c_seq ?_
        refine c_reg ?_
        refine s_y (Y_build (cs := wz ++ seatC 0) ((by repeat (first | exact Gp.nil | apply Gp.const | apply Gp.tmp (by repeat (first | exact Gt.here | apply Gt.there (by rfl) | exact Gt.base (by rfl)))))) (bld58 _ _ (by kernel_rfl))) rfl rfl ?_
        refine s_y (Y_mv) rfl rfl ?_
        refine s_s (S_storeA (vs := wz ++ seatC 0) rfl rfl sz58 (by rfl) (by rfl) up_ (by rfl)) rfl ?_
        refine s_y (Y_as) rfl rfl ?_
        refine s_nil ?_
        refine q_then ?_
        refine c_ret ?_
        refine q_ret2c rfl rfl many58 rfl (by repeat (first | exact List.Mem.head _ | assumption | apply List.Mem.tail | apply List.mem_append_right)) (by rfl) (L' := []) (by repeat (first | exact List.Sublist.refl _ | exact List.nil_sublist _ | apply List.Sublist.cons_cons | apply List.Sublist.cons)) (SDecP.bad hE (by simpa using hc6))
      · skip
        try simp only [Bool.and_eq_true, Bool.or_eq_true, Bool.and_eq_false_iff, Bool.or_eq_false_iff, Bool.not_eq_true', Bool.not_eq_false', Bool.not_eq_eq_eq_not, Bool.not_true, Bool.not_false, decide_eq_true_eq, decide_eq_false_iff_not, Decidable.not_not] at hc6
        refine c_skip ?_
        refine q_then ?_
        refine c_seq ?_
        obtain ⟨hl9, hck9⟩ := decE_ok (bs := bs.drop 1) (by simpa using hc6)
        have hD0 : decE (bs.drop 1) = 0 := by simpa using hc6
        obtain ⟨m, hm16, hmb⟩ : ∃ m : Nat, m < 16 ∧ byteAt bs 0 = m := ⟨(byteAt bs 0).toNat, by have := byteAt_rng bs 0; omega, by have := byteAt_rng bs 0; omega⟩
        have hM2 : sDecM bs = m := by rw [hM hD0]; omega
        refine c_reg ?_
        refine s_y (Y_loadAll (cs := wcV (decD (bs.drop 1)) c1 e1 i1) rfl many34 (by repeat (first | exact List.Mem.head _ | assumption | apply List.Mem.tail | apply List.mem_append_right)) (by rfl)) rfl rfl ?_
        refine s_y (Y_build (cs := wcV (decD (bs.drop 1)) c1 e1 i1 ++ seatP m 0) ((by repeat (first | exact Gp.nil | apply Gp.const | apply Gp.tmp (by repeat (first | exact Gt.here | apply Gt.there (by rfl) | exact Gt.base (by rfl)))))) (bld58 _ _ (by kernel_rfl))) rfl rfl ?_
        refine s_n (N_alloc (z := .agg #[.int .i64 0, .int .i64 0, .int .i64 0, .int .i64 0, .slice none 0 0, .slice none 0 0, .slice none 0 0, .int .i64 0, .int .i64 0, .int .i64 0, .int .i64 0, .bool false, .bool false, .bool false, .bool false]) (cs := [.int .i64 0, .int .i64 0, .int .i64 0, .int .i64 0, .slice none 0 0, .slice none 0 0, .slice none 0 0, .int .i64 0, .int .i64 0, .int .i64 0, .int .i64 0, .bool false, .bool false, .bool false, .bool false]) zv58 rfl) rfl rfl (fun b6 _ => ?_)
        refine s_s (S_storeA (vs := wcV (decD (bs.drop 1)) c1 e1 i1 ++ seatP m 0) rfl rfl sz58 (by rfl) (by rw [List.all_append, ho1]; rfl) up_ (by rfl)) rfl ?_
        refine s_nil ?_
        refine QL.pick2 (xs := [⟨b6, 58, 15, 1, wcV (decD (bs.drop 1)) c1 e1 i1 ++ seatP m 0⟩, ⟨b2, 58, 15, 1, wz ++ seatC 0⟩]) (R' := lD1) ss_ (by repeat (first | exact List.Sublist.refl _ | exact List.nil_sublist _ | apply List.Sublist.cons_cons | apply List.Sublist.cons)) ?_
        refine q_then ?_
        refine c_seq ?_
        refine c_seq ?_
        refine c_reg ?_
        refine s_y (Y_mvC) rfl rfl ?_
        refine s_nil ?_
        refine q_then ?_
        refine c_block ?_
        refine c_loop [7, 31, 32, 33, 34, 35, 36, 37, 38, 39, 40, 41, 42, 43, 44] (fun q (s : Nat) => s + q = 4) (fun s => [(31, iv s)]) (fun s => ⟨b6, 58, 15, 1, wcV (decD (bs.drop 1)) c1 e1 i1 ++ seatP m s⟩ :: ⟨b2, 58, 15, 1, wz ++ seatC 0⟩ :: lD1) (4) (0) (rfl) (by repeat (first | exact trivial | refine ⟨rfl, ?_⟩)) (fun _ h => h.sub (by repeat (first | exact List.Sublist.refl _ | exact List.nil_sublist _ | apply List.Sublist.cons_cons | apply List.Sublist.cons))) (fun _ => rfl) ?_
        rintro q s j hs4 K hK
        refine c_seq ?_
        refine c_reg ?_
        refine s_y (Y_lss rfl rfl) rfl rfl ?_
        refine s_nil ?_
        refine q_then ?_
        refine c_seq ?_
        first | refine c_cond' rfl (fun hc10 => ?_) (fun hc10 => ?_) | refine c_cond rfl (fun hc10 => ?_) (fun hc10 => ?_)
        · skip
          try simp only [Bool.and_eq_true, Bool.or_eq_true, Bool.and_eq_false_iff, Bool.or_eq_false_iff, Bool.not_eq_true', Bool.not_eq_false', Bool.not_eq_eq_eq_not, Bool.not_true, Bool.not_false, decide_eq_true_eq, decide_eq_false_iff_not, Decidable.not_not] at hc10
          refine c_skip ?_
          refine q_then ?_
          refine c_seq ?_
          refine c_block ?_
          refine c_seq ?_
          refine c_reg ?_
          refine s_y (Y_mv) rfl rfl ?_
          refine s_y (Y_as) rfl rfl ?_
          refine s_nil ?_
          refine q_then ?_
          refine c_reg ?_
          refine s_y (Y_mv) rfl rfl ?_
          refine s_y (Y_mv) rfl rfl ?_
          refine s_y (Y_ia (n := 0) rfl rfl Tryz.underlying24 sz5 rfl (by omega)) rfl rfl ?_
          refine s_y (Y_loadR (v := .int .u8 (m : Int)) (i := 0) rfl one5 hsb.ro (by omega) (by rw [← hmb]; exact byte_get (by omega))) rfl rfl ?_
          refine s_y (Y_mv) rfl rfl ?_
          refine s_y (Y_shr rfl rfl (by omega)) rfl rfl ?_
          refine s_y (Y_bits rfl rfl rfl (by simp)) rfl rfl ?_
          refine s_y (Y_eql rfl rfl) rfl rfl ?_
          refine s_y (Y_fa 11 rfl Tryz.underlying58 rfl sz56 rfl) rfl rfl ?_
          refine s_y (Y_iaA rfl rfl Tryz.underlying56 sz4 rfl (by omega)) rfl rfl ?_
          refine s_s (S_st (cs' := wcV (decD (bs.drop 1)) c1 e1 i1 ++ seatP m (s + 1)) rfl (by repeat (first | exact Gt.here | apply Gt.there (by rfl) | exact Gt.base (by rfl))) sz4 (by rfl) up_ (Eq.trans (congrArg (fun q : Bool => List.set _ _ (Value.bool q)) (bit_get m hm16 s (by omega))) (seatP_set rfl (by omega))) (by show _ < 15; omega)) rfl ?_
          refine s_nil ?_
          refine q_bn ?_
          refine q_then ?_
          refine c_reg ?_
          refine s_y ad_ rfl rfl ?_
          refine s_y (Y_mv) rfl rfl ?_
          refine s_nil ?_
          refine hK (q - 1) (s + 1) _ _ (by omega) (by omega) ⟨rfl, trivial⟩ rfl (fun w h => h)
        · skip
          try simp only [Bool.and_eq_true, Bool.or_eq_true, Bool.and_eq_false_iff, Bool.or_eq_false_iff, Bool.not_eq_true', Bool.not_eq_false', Bool.not_eq_eq_eq_not, Bool.not_true, Bool.not_false, decide_eq_true_eq, decide_eq_false_iff_not, Decidable.not_not] at hc10
          refine c_exit ?_
          repeat with_reducible refine q_te ?_
          refine q_exit ?_
          refine q_then ?_
          refine c_seq ?_
          obtain rfl : s = 4 := by omega
          refine c_reg ?_
          refine s_y (Y_loadAll (cs := wcV (decD (bs.drop 1)) c1 e1 i1 ++ seatP m 4) rfl many58 (by repeat (first | exact List.Mem.head _ | assumption | apply List.Mem.tail | apply List.mem_append_right)) (by rfl)) rfl rfl ?_
          refine s_s (S_storeA (vs := wcV (decD (bs.drop 1)) c1 e1 i1 ++ seatP m 4) rfl rfl sz58 (by rfl) (by rw [List.all_append, ho1]; rfl) up_ (by rfl)) rfl ?_
          refine s_y (Y_asC) rfl rfl ?_
          refine s_nil ?_
          refine QL.perm (L' := ⟨b2, 58, 15, 1, wcV (decD (bs.drop 1)) c1 e1 i1 ++ seatP m 4⟩ :: ⟨b6, 58, 15, 1, wcV (decD (bs.drop 1)) c1 e1 i1 ++ seatP m 4⟩ :: lD1) (List.Perm.swap _ _ _) ?_
          refine q_then ?_
          refine c_ret ?_
          refine q_ret2c rfl rfl many58 rfl (by repeat (first | exact List.Mem.head _ | assumption | apply List.Mem.tail | apply List.mem_append_right)) (by rfl) (L' := lD1) (List.Sublist.cons _ (List.Sublist.cons _ (List.Sublist.refl _))) ⟨c1, e1, i1, by rw [hD, hM2, seatP_four, hE, hD0]; rfl, by rw [hD]; exact ho1, fun hH hs => by rw [hD]; exact hr1 hH hs⟩
end
end Go.Proofs.YtcogbkkdccohfaaGreat
namespace Go.Ad
open Go.RowKit Go.Maps
def headE (a b : Wd) : Prop := a.seed = b.seed ∧ a.frame = b.frame ∧ a.floor = b.floor ∧ a.state = b.state ∧ a.gold.nums = b.gold.nums
instance (a b : Wd) : Decidable (headE a b) := by unfold headE; exact inferInstance
theorem WL.bytes {W : World} {d : Wd} {s : Ws} (h : WL W d s) : BytesAt W (some ⟨s.cb, s.co, none⟩) 384 d.cells := ⟨h.sz.1, .inr ⟨_, _, rfl, h.c.lt, h.c.ro⟩⟩
end Go.Ad
namespace Go.Proofs.YtcogbkkdccohfaaGreat
open Go.RowKit Go.Ad Go.Maps
set_option linter.unusedVariables false
set_option linter.unusedSimpArgs false
end Go.Proofs.YtcogbkkdccohfaaGreat
namespace Go.Proofs.YtcogbkkdccohfaaGreat
open Go.RowKit Go.Ad Go.Maps
set_option linter.unusedVariables false
set_option linter.unusedSimpArgs false
inductive Chg
  | head (d : Wd)
  | cells (g cap : Nat)
  | ent (n : Nat) (e : Ent)
  | itm (n : Nat) (x : Itm)
def headC (d : Wd) : List Value := [iv d.seed, iv d.frame, iv d.floor, iv d.state, .slice none 0 0, .slice none 0 0, .slice none 0 0, iv d.gold.a, iv d.gold.b, iv d.gold.c, iv d.gold.d]
def Chg.t : Chg → TypeId
  | .head _ => 159
  | .cells _ _ => 162
  | .ent _ _ => 164
  | .itm _ _ => 166
def Chg.c : Chg → List Value
  | .head d => headC d
  | .cells g cap => [.slice (some ⟨g, 0, none⟩) 384 cap]
  | .ent n e => iv n :: e.cells
  | .itm n x => iv n :: x.cells
def Chg.v (x : Chg) : Value := .iface x.t (.agg x.c.toArray)
def Chg.row : Chg → Int × Int
  | .head _ => (0, 0)
  | .cells _ _ => (1, 0)
  | .ent n _ => (2, n)
  | .itm n _ => (3, n)
def Chg.told : Chg → FuncId
  | .head _ => 248
  | .cells _ _ => 249
  | .ent _ _ => 250
  | .itm _ _ => 251
theorem Chg.one (x : Chg) : x.v.oneCell' = true := rfl
section
variable {W : World}
set_option maxRecDepth 100000 in
theorem bequal_d {a a' : Option Addr} {n n' c c' : Nat} {xs ys : List UInt8} (h : BytesAt W a n xs) (h' : BytesAt W a' n' ys) : Does Tryz.prog 108 [.slice a n c, .slice a' n' c'] W [] (fun v L => v = .bool (decide (xs = ys)) ∧ L = []) := by
  refine enter Tryz.func108 rfl rfl rfl (Has.start _) ?_
  refine c_seq ?_
  refine c_reg ?_
  refine s_y (Y_asC) rfl rfl ?_
  refine s_nil ?_
  refine q_then ?_
  refine c_seq ?_
  refine c_reg ?_
  refine s_y (Y_mv) rfl rfl ?_
  refine s_y (Y_bs rfl Tryz.underlying24 Tryz.underlying5 Tryz.underlying9 (fun w hH => h.has (by simp) hH)) rfl rfl ?_
  refine s_y (Y_mv) rfl rfl ?_
  refine s_y (Y_bs rfl Tryz.underlying24 Tryz.underlying5 Tryz.underlying9 (fun w hH => h'.has (by simp) hH)) rfl rfl ?_
  refine s_y (Y_eqS rfl rfl) rfl rfl ?_
  refine s_y (Y_as) rfl rfl ?_
  refine s_nil ?_
  refine q_then ?_
  refine c_ret ?_
  refine q_retG1 rfl gt_ (L' := _) sl_ (⟨by congr 1; rw [decide_eq_decide]; exact ⟨fun e => bytes_injL e, fun e => by rw [e]⟩, rfl⟩)
end
end Go.Proofs.YtcogbkkdccohfaaGreat
namespace Go.Ad
open Go.RowKit Go.Maps
section
variable {P : Program} {W : World} {M : List Nat} {ops : Array Oper} {Q : Exit → Act → World → Prop} {rest : List Oper} {ov : Ov} {base : List Value} {L R : List Bk}
theorem freeze_other (w : World) (b o n : Nat) {k : Nat} (h : k ≠ b) : (w.freeze ⟨b, o, none⟩ n).heap[k]? = w.heap[k]? := by
  unfold World.freeze
  split
  · rfl
  · simp only [Array.getElem?_modify, if_neg (Ne.symm h)]
theorem freeze_cells {w : World} {b o n : Nat} {cur : Array Value} {t : TypeId} {fz : Nat × Nat} (h : w.heap[b]? = some (.cells cur t fz)) : ∃ fz', (w.freeze ⟨b, o, none⟩ n).heap[b]? = some (.cells cur t fz') := by
  unfold World.freeze
  split
  · exact ⟨_, h⟩
  · obtain ⟨lo, hi⟩ := fz
    simp only [Array.getElem?_modify, if_true, h, Option.map_some]
    exact ⟨_, rfl⟩
theorem freeze_size (w : World) (a : Addr) (n : Nat) : (w.freeze a n).heap.size = w.heap.size := by
  unfold World.freeze
  split
  · rfl
  · simp
theorem freeze_rest (w : World) (a : Addr) (n : Nat) : (w.freeze a n).os = w.os ∧ (w.freeze a n).tape = w.tape ∧ (w.freeze a n).output = w.output := by
  unfold World.freeze
  split <;> exact ⟨rfl, rfl, rfl⟩
theorem s_convS {d b t kk cap n cp : Nat} {cs : List Value} {u e ty : TypeId} {x : Operand} {pos : String} {aft : Array Edge} {g : Option (Nat × Bool)} (hx : ev ov base x = .slice (some ⟨b, 0, none⟩) n cp) (hu : P.underlying u = some (.slice e)) (he : P.underlying e = some (.int .u8)) (hs : Sel ⟨b, t, kk, cap, cs⟩ L R)
    (hw : wantedL ops ov base ⟨some d, .convert u u x, ty, pos, aft, g⟩ = true) (hd : Nat.blt d base.length = true)
    (k : ∀ W1, Has W M R W1 → Ro W1 b 0 cs → b < W1.heap.size → cap ≤ maxLen → wpL P W1 (R.map (·.b)) ops Q rest ((d, .slice (some ⟨b, 0, none⟩) n cp) :: ov) base R) : wpL P W M ops Q (⟨some d, .convert u u x, ty, pos, aft, g⟩ :: rest) ov base L := fun a w hr hH => by
  have hH2 := hH.perm hs.toPerm
  obtain ⟨⟨cur, h1, h2, h3, h4⟩, h5⟩ := hH2.bk _ (List.Mem.head _)
  obtain ⟨fz, hfz⟩ := freeze_cells (o := cur.size) (n := 1) h1
  have hnd := hH2.nd
  simp only [List.map_cons, List.nodup_cons] at hnd
  have hH1 : Has W M R (w.freeze ⟨b, cur.size, none⟩ 1) := by
    obtain ⟨r1, r2, r3⟩ := freeze_rest w ⟨b, cur.size, none⟩ 1
    refine ⟨⟨r1.trans hH.ex.os, r2.trans hH.ex.tape, r3.trans hH.ex.output, by rw [freeze_size]; exact hH.ex.size, fun i hi hl => ?_⟩, fun y hy => ?_, hnd.2⟩
    · have hne : i ≠ b := by
        rintro rfl
        rcases h5 with h | h
        · exact hl h
        · simp only at h; omega
      rw [freeze_other w b _ 1 hne]
      exact hH.ex.block i hi hl
    · obtain ⟨hy1, hy2⟩ := hH2.bk y (List.Mem.tail _ hy)
      have hne : y.b ≠ b := by
        rintro h
        exact hnd.1 (h ▸ List.mem_map.2 ⟨y, hy, rfl⟩)
      obtain ⟨c2, q1, q2⟩ := hy1
      exact ⟨⟨c2, by rw [freeze_other w b _ 1 hne]; exact q1, q2⟩, hy2⟩
  refine G_val (by rw [hr.wanted]; exact hw) (v := .slice (some ⟨b, 0, none⟩) n cp) (w' := w.freeze ⟨b, cur.size, none⟩ 1) ?_ (k _ hH1 ?_ ?_ h3 _ _ (hr.put _ hd) hH1.self)
  · rw [hr.eval]
    unfold execOp
    simp [hx, convert, run_underlying hu, run_underlying he, markStringish, World.shape?, h1, Result.andThen]
  · intro j v hj
    rw [Nat.zero_add]
    have hlt := (List.getElem?_eq_some_iff.1 hj).1
    obtain ⟨tl, htl⟩ := h4
    have : cur[j]? = some v := by
      rw [← Array.getElem?_toList, ← htl, List.getElem?_append_left hlt]; exact hj
    simp [World.cell?, hfz, this]
  · rw [freeze_size]
    exact (Array.getElem?_eq_some_iff.1 h1).1
end
end Go.Ad
namespace Go.Ad
open Go.RowKit Go.Maps
def wordB : List UInt8 := [65, 68, 73, 84, 83, 65, 86, 69]
def headN (bs : List UInt8) : Nat := if bs.take 8 = wordB then numM ((bs.drop 8).take 8) else 0
def countM (n0 n1 : Nat) : Int := if n1 > n0 then 1 else if n0 > 0 then 0 else -1
end Go.Ad
namespace Go.Proofs.YtcogbkkdccohfaaGreat
open Go.RowKit Go.Ad Go.Maps
set_option linter.unusedVariables false
set_option linter.unusedSimpArgs false
section
variable {W : World}
set_option maxRecDepth 100000 in
theorem hasPrefix_d {b o n c b' o' m c' : Nat} {xs ys : List UInt8} (h : SlB W b o n c 1 (xs.map bv)) (h' : SlB W b' o' m c' 1 (ys.map bv)) (hmn : m ≤ n) : Does Tryz.prog 160 [.slice (some ⟨b, o, none⟩) n c, .slice (some ⟨b', o', none⟩) m c'] W [] (fun v L => v = .bool (decide (xs.take m = ys)) ∧ L = []) := by
  have hxl : xs.length = n := by have := h.len; simpa using this
  have hyl : ys.length = m := by have := h'.len; simpa using this
  have hc := h.cap
  have ht : BytesAt W (some ⟨b, o, none⟩) m (xs.take m) := ⟨by rw [List.length_take]; omega, .inr ⟨b, o, rfl, h.lt, ro_take h.ro (map_take_pre bv xs m)⟩⟩
  have hy : BytesAt W (some ⟨b', o', none⟩) m ys := ⟨hyl, .inr ⟨b', o', rfl, h'.lt, h'.ro⟩⟩
  refine enter Tryz.func160 rfl rfl rfl (Has.start _) ?_
  refine c_seq ?_
  refine c_reg ?_
  refine s_y (Y_asC) rfl rfl ?_
  refine s_nil ?_
  refine q_then ?_
  refine c_seq ?_
  refine c_reg ?_
  refine s_y (Y_mv) rfl rfl ?_
  refine s_y (Y_len rfl rfl Tryz.underlying24) rfl rfl ?_
  refine s_y (Y_mv) rfl rfl ?_
  refine s_y (Y_len rfl rfl Tryz.underlying24) rfl rfl ?_
  refine s_y (Y_geq rfl rfl) rfl rfl ?_
  refine s_y (Y_mv) rfl rfl ?_
  apply s_and 7 [10, 11, 12, 13, 14, 15, 16, 17] 17 (g := 10) rfl rfl
  · intro ht6 hm
    try simp only [Bool.and_eq_true, Bool.or_eq_true, Bool.and_eq_false_iff, Bool.or_eq_false_iff, Bool.not_eq_true', Bool.not_eq_false', Bool.not_eq_eq_eq_not, Bool.not_true, Bool.not_false, decide_eq_true_eq, decide_eq_false_iff_not, Decidable.not_not] at ht6
    first | refine s_y (Y_mv) rfl rfl ?_ | refine s_pass rfl rfl ?_
    first | refine s_y (Y_mv) rfl rfl ?_ | refine s_pass rfl rfl ?_
    first | refine s_y (Y_len rfl rfl Tryz.underlying24) rfl rfl ?_ | refine s_pass rfl rfl ?_
    first | refine s_y (Y_slHi (h := m) rfl rfl Tryz.underlying24 sz5 rfl (by omega)) rfl rfl ?_ | refine s_pass rfl rfl ?_
    first | refine s_y (Y_mv) rfl rfl ?_ | refine s_pass rfl rfl ?_
    refine s_c (En_call (fun _ => rfl) Tryz.func108 rfl (by kernel_rfl) rfl) (fun w hH => bequal_d (ht.has (by simp) hH) (hy.has (by simp) hH)) rfl rfl ?_
    rintro _ _ ⟨rfl, rfl⟩
    refine s_y (Y_pk rfl (Gx.tmp (by repeat (first | exact Gt.here | apply Gt.there (by rfl) | exact Gt.base (by rfl)))) Gx.const) rfl rfl ?_
    first | exact hm _ ⟨rfl, trivial⟩ rfl | exact QL.sub (by repeat (first | exact List.Sublist.refl _ | exact List.nil_sublist _ | apply List.Sublist.cons_cons | apply List.Sublist.cons)) (hm _ ⟨rfl, trivial⟩ rfl)
  · intro ht6 hm
    iterate 6 refine s_pass rfl rfl ?_
    refine s_y (Y_pk rfl (Gx.tmp (by repeat (first | exact Gt.here | apply Gt.there (by rfl) | exact Gt.base (by rfl)))) Gx.const) rfl rfl ?_
    exact hm _ ⟨rfl, trivial⟩ rfl
  intro j17
  refine s_y (Y_as) rfl rfl ?_
  refine s_nil ?_
  refine q_then ?_
  refine c_ret ?_
  refine q_retG1 rfl (by repeat (first | exact Gt.here | apply Gt.there (by rfl) | exact Gt.base (by rfl))) (L' := _) (by repeat (first | exact List.Sublist.refl _ | exact List.nil_sublist _ | apply List.Sublist.cons_cons | apply List.Sublist.cons)) (⟨by congr 1; simp [show (m : Int) ≤ (n : Int) by omega], rfl⟩)
set_option maxRecDepth 100000 in
theorem number_d {bb o c : Nat} {bs : List UInt8} (hs : SlB W bb o 64 c 1 (bs.map bv)) : Does Tryz.prog 112 [.slice (some ⟨bb, o, none⟩) 64 c] W [] (fun v L => v = .int .u64 (headN bs : Nat) ∧ L = []) := by
  have hcap := hs.cap
  have hbig := hs.big
  simp only [maxLen] at hbig
  have hbl : bs.length = 64 := by have := hs.len; simpa using this
  have hll : ((bs.drop 8).take 8).length = 8 := by rw [List.length_take, List.length_drop]; omega
  refine enter Tryz.func112 rfl rfl rfl (Has.start _) ?_
  refine c_seq ?_
  refine c_reg ?_
  refine s_y (Y_asC) rfl rfl ?_
  refine s_nil ?_
  refine q_then ?_
  refine c_seq ?_
  refine c_seq ?_
  refine c_reg ?_
  refine s_y (Y_mv) rfl rfl ?_
  refine s_n (N_bs (xs := [.const (Value.int Go.IntKind.u8 65), .const (Value.int Go.IntKind.u8 68), .const (Value.int Go.IntKind.u8 73), .const (Value.int Go.IntKind.u8 84), .const (Value.int Go.IntKind.u8 83), .const (Value.int Go.IntKind.u8 65), .const (Value.int Go.IntKind.u8 86), .const (Value.int Go.IntKind.u8 69)]) (by repeat (first | exact Gv.nil | apply Gv.const | apply Gv.tmp (by repeat (first | exact Gt.here | apply Gt.there (by rfl) | exact Gt.base (by rfl))))) rfl Tryz.underlying24 inf5 rfl (by omega) (by omega) (by first | simp [Value.oneCell'] | (intro v hv; simp at hv; subst hv; rfl))) rfl rfl (fun b7 _ => ?_)
  refine s_convS rfl Tryz.underlying24 Tryz.underlying5 se_ rfl rfl (fun W1 hH1 hro hlt hmx => ?_)
  have hs1 : SlB W1 bb o 64 c 1 (bs.map bv) := hs.has hH1
  have hw1 : SlB W1 b7 0 8 8 1 (wordB.map bv) := ⟨rfl, by omega, hmx, hlt, hro⟩
  have hX1 : ∀ w, Ex [] W1 w → Ex [] W w := fun w hx => hH1.ex.trans hx
  refine s_c (En_call (fun _ => rfl) Tryz.func160 rfl (by kernel_rfl) rfl) (fun w hH => hasPrefix_d (hs1.has hH) (hw1.has hH) (by omega)) rfl rfl ?_
  rintro _ _ ⟨rfl, rfl⟩
  refine s_y (Y_not rfl) rfl rfl ?_
  refine s_nil ?_
  refine q_then ?_
  first | refine c_cond' rfl (fun hc1 => ?_) (fun hc1 => ?_) | refine c_cond rfl (fun hc1 => ?_) (fun hc1 => ?_)
  · skip
    try simp only [Bool.and_eq_true, Bool.or_eq_true, Bool.and_eq_false_iff, Bool.or_eq_false_iff, Bool.not_eq_true', Bool.not_eq_false', Bool.not_eq_eq_eq_not, Bool.not_true, Bool.not_false, decide_eq_true_eq, decide_eq_false_iff_not, Decidable.not_not] at hc1
    refine c_seq ?_
    refine c_reg ?_
    refine s_y (Y_asC) rfl rfl ?_
    refine s_nil ?_
    refine q_then ?_
    refine c_ret ?_
    refine Go.Ad.q_retW hX1 rfl (by repeat (first | exact Gt.here | apply Gt.there (by rfl) | exact Gt.base (by rfl))) ⟨by unfold headN; rw [if_neg (by simpa using hc1)]; rfl, rfl⟩
  · skip
    try simp only [Bool.and_eq_true, Bool.or_eq_true, Bool.and_eq_false_iff, Bool.or_eq_false_iff, Bool.not_eq_true', Bool.not_eq_false', Bool.not_eq_eq_eq_not, Bool.not_true, Bool.not_false, decide_eq_true_eq, decide_eq_false_iff_not, Decidable.not_not] at hc1
    refine c_skip ?_
    refine q_then ?_
    refine c_seq ?_
    refine c_reg ?_
    refine s_y (Y_asC) rfl rfl ?_
    refine s_nil ?_
    refine q_then ?_
    refine c_seq ?_
    refine c_seq ?_
    refine c_reg ?_
    refine s_y (Y_mv) rfl rfl ?_
    refine s_y (Y_slM (l := 8) (h := 16) (m := 8) rfl rfl rfl Tryz.underlying24 sz5 rfl rfl (by omega) (by omega) (by omega)) rfl rfl ?_
    refine s_y (Y_len rfl rfl Tryz.underlying24) rfl rfl ?_
    refine s_y (Y_mvC) rfl rfl ?_
    refine s_nil ?_
    refine q_then ?_
    refine c_block ?_
    refine c_loop [3, 5, 14, 15, 16, 17, 18, 19, 20, 21, 22, 23] (fun q i => i + q = 8) (fun i => [(14, iv i), (3, .int .u64 (numM (((bs.drop 8).take 8).take i) : Nat))]) (fun _ => []) (8) (0) (by omega) (by repeat (first | exact trivial | refine ⟨rfl, ?_⟩)) (fun _ h => h.sub (by repeat (first | exact List.Sublist.refl _ | exact List.nil_sublist _ | apply List.Sublist.cons_cons | apply List.Sublist.cons))) (fun _ => rfl) ?_
    rintro q i j hi K hK
    refine c_seq ?_
    refine c_reg ?_
    refine s_y (Y_lss rfl rfl) rfl rfl ?_
    refine s_nil ?_
    refine q_then ?_
    refine c_seq ?_
    first | refine c_cond' rfl (fun hc5 => ?_) (fun hc5 => ?_) | refine c_cond rfl (fun hc5 => ?_) (fun hc5 => ?_)
    · skip
      try simp only [Bool.and_eq_true, Bool.or_eq_true, Bool.and_eq_false_iff, Bool.or_eq_false_iff, Bool.not_eq_true', Bool.not_eq_false', Bool.not_eq_eq_eq_not, Bool.not_true, Bool.not_false, decide_eq_true_eq, decide_eq_false_iff_not, Decidable.not_not] at hc5
      refine c_skip ?_
      refine q_then ?_
      refine c_seq ?_
      refine c_block ?_
      refine c_seq ?_
      obtain ⟨x, hx2⟩ := take_lt (show i < ((bs.drop 8).take 8).length by omega)
      have hx3 : bs[8 + i]? = some x := by rw [List.getElem?_take_of_lt (by omega), List.getElem?_drop] at hx2; exact hx2
      have hnl := numM_lt (((bs.drop 8).take 8).take i)
      have hil : (((bs.drop 8).take 8).take i).length = i := by rw [List.length_take]; omega
      rw [hil] at hnl
      have hp : 256 ^ i ≤ 256 ^ 7 := Nat.pow_le_pow_right (by omega) (by omega)
      have hxl := x.toNat_lt
      refine c_reg ?_
      refine s_y (Y_ia1 rfl rfl Tryz.underlying24 sz5 rfl (by omega)) rfl rfl ?_
      refine s_y (Y_loadR (v := bv x) (i := 8 + i) rfl one5 hs1.ro (by omega) (by rw [List.getElem?_map, hx3]; rfl)) rfl rfl ?_
      refine s_y (Y_as) rfl rfl ?_
      refine s_nil ?_
      refine q_then ?_
      refine c_reg ?_
      refine s_y (Y_mv) rfl rfl ?_
      refine s_y (Y_shl rfl rfl (by decide)) rfl rfl ?_
      refine s_y (Y_mv) rfl rfl ?_
      refine s_y ((by first | exact Y_conv rfl Tryz.underlying5 Tryz.underlying96 (by first | exact i64_u8 _ | exact u64_u8 _ | exact i64_id (by omega) | exact u64_id (by omega) | exact u8_id (by omega) | exact u32_id (by omega)) | exact Y_convw rfl Tryz.underlying5 Tryz.underlying96)) rfl rfl ?_
      refine s_y ((Y_bits rfl rfl rfl (by simp)).num (show _ = ((numM (((bs.drop 8).take 8).take (i + 1)) : Nat) : Int) by rw [num_step hx2]; exact shl_or8 _ _ (by omega) (by omega))) rfl rfl ?_
      refine s_y (Y_as) rfl rfl ?_
      refine s_nil ?_
      refine q_bn ?_
      refine q_then ?_
      refine c_reg ?_
      refine s_y ad_ rfl rfl ?_
      refine s_y (Y_mv) rfl rfl ?_
      refine s_nil ?_
      refine hK (q - 1) (i + 1) _ _ (by omega) (by omega) ⟨rfl, rfl, trivial⟩ rfl (fun w h => h)
    · skip
      try simp only [Bool.and_eq_true, Bool.or_eq_true, Bool.and_eq_false_iff, Bool.or_eq_false_iff, Bool.not_eq_true', Bool.not_eq_false', Bool.not_eq_eq_eq_not, Bool.not_true, Bool.not_false, decide_eq_true_eq, decide_eq_false_iff_not, Decidable.not_not] at hc5
      refine c_exit ?_
      repeat with_reducible refine q_te ?_
      refine q_exit ?_
      refine q_then ?_
      refine c_seq ?_
      obtain rfl : i = 8 := by omega
      refine c_reg ?_
      refine s_y (Y_mv) rfl rfl ?_
      refine s_y (Y_as) rfl rfl ?_
      refine s_nil ?_
      refine q_then ?_
      refine c_ret ?_
      refine Go.Ad.q_retW hX1 rfl (by repeat (first | exact Gt.here | apply Gt.there (by rfl) | exact Gt.base (by rfl))) ⟨by unfold headN; rw [if_pos (by simpa using hc1), show (((bs.drop 8).take 8).take 8) = (bs.drop 8).take 8 from List.take_of_length_le (by omega)], rfl⟩
set_option maxRecDepth 100000 in
theorem counts_d {n0 n1 : Nat} : Does Tryz.prog 70 [.agg #[.int .u64 (n0 : Nat), .int .u64 (n1 : Nat)]] W [] (fun v L => v = iv (countM n0 n1) ∧ L = []) := by
  refine enter Tryz.func70 rfl rfl rfl (Has.start _) ?_
  refine c_seq ?_
  refine c_reg ?_
  refine s_n (N_box (cs := [.int .u64 (n0 : Nat), .int .u64 (n1 : Nat)]) rfl) rfl rfl (fun b1 _ => ?_)
  refine s_y (Y_asC) rfl rfl ?_
  refine s_nil ?_
  refine q_then ?_
  refine c_seq ?_
  refine c_reg ?_
  refine s_y (Y_asC) rfl rfl ?_
  refine s_nil ?_
  refine q_then ?_
  refine c_seq ?_
  refine c_block ?_
  refine c_seq ?_
  refine c_block ?_
  refine c_seq ?_
  refine c_block ?_
  refine c_seq ?_
  refine c_seq ?_
  refine c_seq ?_
  refine c_reg ?_
  refine s_y (Y_iaA (n := 1) rfl rfl Tryz.underlying127 sz96 rfl (by decide)) rfl rfl ?_
  refine s_y ((by first | exact Y_load rfl one96 (by repeat (first | exact List.Mem.head _ | assumption | apply List.Mem.tail | apply List.mem_append_right)) (by rfl) | exact Y_loadR rfl one96 hr rfl rfl | exact Y_loadR rfl one96 hr2 rfl rfl | exact Y_load rfl one96 (by repeat (first | exact List.Mem.head _ | assumption | apply List.Mem.tail | apply List.mem_append_right)) (eget he rfl) | exact Y_load rfl one96 (by repeat (first | exact List.Mem.head _ | assumption | apply List.Mem.tail | apply List.mem_append_right)) (iget hx rfl) | exact Y_load rfl one96 (by repeat (first | exact List.Mem.head _ | assumption | apply List.Mem.tail | apply List.mem_append_right)) (by assumption) | exact Y_loadR rfl one96 (by assumption) rfl (by assumption))) rfl rfl ?_
  refine s_y (Y_iaA (n := 0) rfl rfl Tryz.underlying127 sz96 rfl (by decide)) rfl rfl ?_
  refine s_y ((by first | exact Y_load rfl one96 (by repeat (first | exact List.Mem.head _ | assumption | apply List.Mem.tail | apply List.mem_append_right)) (by rfl) | exact Y_loadR rfl one96 hr rfl rfl | exact Y_loadR rfl one96 hr2 rfl rfl | exact Y_load rfl one96 (by repeat (first | exact List.Mem.head _ | assumption | apply List.Mem.tail | apply List.mem_append_right)) (eget he rfl) | exact Y_load rfl one96 (by repeat (first | exact List.Mem.head _ | assumption | apply List.Mem.tail | apply List.mem_append_right)) (iget hx rfl) | exact Y_load rfl one96 (by repeat (first | exact List.Mem.head _ | assumption | apply List.Mem.tail | apply List.mem_append_right)) (by assumption) | exact Y_loadR rfl one96 (by assumption) rfl (by assumption))) rfl rfl ?_
  refine s_y (Y_gtr rfl rfl) rfl rfl ?_
  refine s_y (Y_as) rfl rfl ?_
  refine s_nil ?_
  refine q_then ?_
  first | refine c_cond' rfl (fun hc2 => ?_) (fun hc2 => ?_) | refine c_cond rfl (fun hc2 => ?_) (fun hc2 => ?_)
  · skip
    try simp only [Bool.and_eq_true, Bool.or_eq_true, Bool.and_eq_false_iff, Bool.or_eq_false_iff, Bool.not_eq_true', Bool.not_eq_false', Bool.not_eq_eq_eq_not, Bool.not_true, Bool.not_false, decide_eq_true_eq, decide_eq_false_iff_not, Decidable.not_not] at hc2
    refine c_exit ?_
    repeat with_reducible refine q_te ?_
    refine q_exit ?_
    refine q_then ?_
    refine c_reg ?_
    refine s_y (Y_mv) rfl rfl ?_
    refine s_y ad_ rfl rfl ?_
    refine s_y (Y_as) rfl rfl ?_
    refine s_nil ?_
    refine q_bn ?_
    refine q_then ?_
    refine c_seq ?_
    refine c_reg ?_
    refine s_y (Y_mv) rfl rfl ?_
    refine s_y ad_ rfl rfl ?_
    refine s_y (Y_as) rfl rfl ?_
    refine s_nil ?_
    refine q_then ?_
    refine c_exit ?_
    repeat with_reducible refine q_te ?_
    refine q_exit ?_
    refine q_then ?_
    refine c_seq ?_
    refine c_reg ?_
    refine s_y (Y_mv) rfl rfl ?_
    refine s_y (Y_as) rfl rfl ?_
    refine s_nil ?_
    refine q_then ?_
    refine c_ret ?_
    refine q_retG1 rfl (by repeat (first | exact Gt.here | apply Gt.there (by rfl) | exact Gt.base (by rfl))) (L' := _) (by repeat (first | exact List.Sublist.refl _ | exact List.nil_sublist _ | apply List.Sublist.cons_cons | apply List.Sublist.cons)) (⟨by unfold countM; first | (rw [if_pos (by omega)]; rfl) | (rw [if_neg (by omega), if_pos (by omega)]; rfl) | (rw [if_neg (by omega), if_neg (by omega)]), rfl⟩)
  · skip
    try simp only [Bool.and_eq_true, Bool.or_eq_true, Bool.and_eq_false_iff, Bool.or_eq_false_iff, Bool.not_eq_true', Bool.not_eq_false', Bool.not_eq_eq_eq_not, Bool.not_true, Bool.not_false, decide_eq_true_eq, decide_eq_false_iff_not, Decidable.not_not] at hc2
    refine c_skip ?_
    refine q_then ?_
    refine c_seq ?_
    refine c_reg ?_
    refine s_y (Y_iaA (n := 0) rfl rfl Tryz.underlying127 sz96 rfl (by decide)) rfl rfl ?_
    refine s_y ((by first | exact Y_load rfl one96 (by repeat (first | exact List.Mem.head _ | assumption | apply List.Mem.tail | apply List.mem_append_right)) (by rfl) | exact Y_loadR rfl one96 hr rfl rfl | exact Y_loadR rfl one96 hr2 rfl rfl | exact Y_load rfl one96 (by repeat (first | exact List.Mem.head _ | assumption | apply List.Mem.tail | apply List.mem_append_right)) (eget he rfl) | exact Y_load rfl one96 (by repeat (first | exact List.Mem.head _ | assumption | apply List.Mem.tail | apply List.mem_append_right)) (iget hx rfl) | exact Y_load rfl one96 (by repeat (first | exact List.Mem.head _ | assumption | apply List.Mem.tail | apply List.mem_append_right)) (by assumption) | exact Y_loadR rfl one96 (by assumption) rfl (by assumption))) rfl rfl ?_
    refine s_y (Y_gtr rfl rfl) rfl rfl ?_
    refine s_y (Y_as) rfl rfl ?_
    refine s_nil ?_
    refine q_then ?_
    first | refine c_cond' rfl (fun hc3 => ?_) (fun hc3 => ?_) | refine c_cond rfl (fun hc3 => ?_) (fun hc3 => ?_)
    · skip
      try simp only [Bool.and_eq_true, Bool.or_eq_true, Bool.and_eq_false_iff, Bool.or_eq_false_iff, Bool.not_eq_true', Bool.not_eq_false', Bool.not_eq_eq_eq_not, Bool.not_true, Bool.not_false, decide_eq_true_eq, decide_eq_false_iff_not, Decidable.not_not] at hc3
      refine c_exit ?_
      repeat with_reducible refine q_te ?_
      refine q_past rfl ?_
      repeat with_reducible refine q_te ?_
      refine q_exit ?_
      refine q_then ?_
      refine c_seq ?_
      refine c_reg ?_
      refine s_y (Y_mv) rfl rfl ?_
      refine s_y ad_ rfl rfl ?_
      refine s_y (Y_as) rfl rfl ?_
      refine s_nil ?_
      refine q_then ?_
      refine c_exit ?_
      repeat with_reducible refine q_te ?_
      refine q_exit ?_
      refine q_then ?_
      refine c_seq ?_
      refine c_reg ?_
      refine s_y (Y_mv) rfl rfl ?_
      refine s_y (Y_as) rfl rfl ?_
      refine s_nil ?_
      refine q_then ?_
      refine c_ret ?_
      refine q_retG1 rfl (by repeat (first | exact Gt.here | apply Gt.there (by rfl) | exact Gt.base (by rfl))) (L' := _) (by repeat (first | exact List.Sublist.refl _ | exact List.nil_sublist _ | apply List.Sublist.cons_cons | apply List.Sublist.cons)) (⟨by unfold countM; first | (rw [if_pos (by omega)]; rfl) | (rw [if_neg (by omega), if_pos (by omega)]; rfl) | (rw [if_neg (by omega), if_neg (by omega)]), rfl⟩)
    · skip
      try simp only [Bool.and_eq_true, Bool.or_eq_true, Bool.and_eq_false_iff, Bool.or_eq_false_iff, Bool.not_eq_true', Bool.not_eq_false', Bool.not_eq_eq_eq_not, Bool.not_true, Bool.not_false, decide_eq_true_eq, decide_eq_false_iff_not, Decidable.not_not] at hc3
      refine c_skip ?_
      refine q_then ?_
      refine c_exit ?_
      repeat with_reducible refine q_te ?_
      refine q_past rfl ?_
      repeat with_reducible refine q_te ?_
      refine q_past rfl ?_
      repeat with_reducible refine q_te ?_
      refine q_exit ?_
      refine q_then ?_
      refine c_seq ?_
      refine c_reg ?_
      refine s_y (Y_mv) rfl rfl ?_
      refine s_y (Y_as) rfl rfl ?_
      refine s_nil ?_
      refine q_then ?_
      refine c_ret ?_
      refine q_retG1 rfl (by repeat (first | exact Gt.here | apply Gt.there (by rfl) | exact Gt.base (by rfl))) (L' := _) (by repeat (first | exact List.Sublist.refl _ | exact List.nil_sublist _ | apply List.Sublist.cons_cons | apply List.Sublist.cons)) (⟨by unfold countM; first | (rw [if_pos (by omega)]; rfl) | (rw [if_neg (by omega), if_pos (by omega)]; rfl) | (rw [if_neg (by omega), if_neg (by omega)]), rfl⟩)
end
end Go.Proofs.YtcogbkkdccohfaaGreat
set_option maxRecDepth 100000
namespace Go.Proofs.YtcogbkkdccohfaaGreat
open Go.RowKit Go.Ad Go.Maps
theorem keyedInt : Keyed Tryz.prog 3 := int_keyed Tryz.underlying3
theorem sizeSector : (Tryz.prog.info? 171).map (·.size) = some 64 := by kernel_rfl
abbrev dcells (n : Int) (m : Nat) (wr l : Int) (dead : Bool) : Array Value := #[.int .i64 n, .map (some m), .int .i64 wr, .int .i64 l, .bool dead]
def DiskAt (w : World) (b m : Nat) (n wr l : Int) (dead : Bool) (f : Value → Option Value) : Prop := Blk w b (dcells n m wr l dead) 126 ∧ KMap Tryz.prog 3 w m f
abbrev zsector : Value := .agg (Array.replicate 64 (.int .u8 0))
theorem zeroSector (w : World) : (zeroValue 171).run Tryz.prog w = .ok zsector w := by kernel_rfl
theorem DiskAt.ex {w w' : World} {b m : Nat} {n wr l : Int} {dead : Bool} {f : Value → Option Value} (h : DiskAt w b m n wr l dead f) {s : List Nat} (hx : Ex s w w') (hb : b ∉ s) (hm : m ∉ s) : DiskAt w' b m n wr l dead f :=
  ⟨h.1.ex hx hb, h.2.ex hx hm⟩
theorem DiskAt.ne {w : World} {b m : Nat} {n wr l : Int} {dead : Bool} {f : Value → Option Value} (h : DiskAt w b m n wr l dead f) : m ≠ b := h.1.ne_map h.2
theorem DiskAt.lt {w : World} {b m : Nat} {n wr l : Int} {dead : Bool} {f : Value → Option Value} (h : DiskAt w b m n wr l dead f) : b < w.heap.size ∧ m < w.heap.size := ⟨h.1.lt, h.2.lt⟩
abbrev ptr (b : Nat) : Value := .pointer (some ⟨b, 0, none⟩)
section
variable {b m : Nat} {n s wr l : Int} {dead : Bool} {f : Value → Option Value} {w : World}
set_option maxHeartbeats 400000 in
theorem DiskNew_ok (h : 1 ≤ n) (h2 : n ≤ 1024) (w : World) :
    Calls Tryz.prog 37 #[.int .i64 n] w fun e w' => e = .returned (.tuple #[ptr (w.heap.size + 1), .int .i64 0]) ∧
      DiskAt w' (w.heap.size + 1) w.heap.size n 0 (-1) false (fun _ => none) ∧ Ex [] w w' := by
  have hmm := @run_makeMap Tryz.prog
  go_enter Tryz.func37, Tryz.ntmps37
  go_wp2
  go_ret2
  refine ⟨rfl, ⟨?_, ?_⟩, ((Ex.refl _ _).alloc _).alloc _⟩
  · have := Blk.new (w.alloc (.map #[] 0)) (dcells n w.heap.size 0 (-1) false) 126
    rwa [World.size_alloc] at this
  · exact KMap.keep (KMap.new w) (Below.heap_alloc _ _ _ (by simp))
set_option maxHeartbeats 400000 in
theorem DiskWrites_any (D : DiskAt w b m n wr l dead f) :
    Calls Tryz.prog 40 #[ptr b] w fun e w' => e = .returned (.int .i64 wr) ∧ w = w' := by
  have c := D.1.cell
  go_enter Tryz.func40, Tryz.ntmps40
  go_wp2
  go_ret
  exact ⟨rfl, rfl⟩
set_option maxHeartbeats 400000 in
theorem DiskSectors_any (D : DiskAt w b m n wr l dead f) :
    Calls Tryz.prog 68 #[ptr b] w fun e w' => e = .returned (.int .i64 n) ∧ w = w' := by
  have c := D.1.cell
  go_enter Tryz.func68, Tryz.ntmps68
  go_wp2
  go_ret
  exact ⟨rfl, rfl⟩
set_option maxHeartbeats 400000 in
theorem DiskWrite_cut (a : Option Addr) (cap : Nat) (D : DiskAt w b m s wr 0 false f) (hn : 0 ≤ n) (hs : n < s) :
    Calls Tryz.prog 71 #[ptr b, .int .i64 n, .slice a 64 cap] w fun e w' => e = .returned (.int .i64 11) ∧ DiskAt w' b m s wr 0 true f ∧ Ex [b] w w' := by
  have Hmb := Lib.hid D.ne
  obtain ⟨hb, M⟩ := D
  have c := hb.cell
  have fz := hb.froz
  have Hb := Lib.hid hb
  clear hb
  go_enter Tryz.func71, Tryz.ntmps71
  go_wp2
  go_ret
  exact ⟨rfl, ⟨Hb.out.set 4 _, M.keep (Below.heap_setCell _ _ _ _ Hmb.out)⟩, (Ex.refl _ _).setCell (.inl (by simp)) _⟩
set_option maxHeartbeats 800000 in
theorem DiskWrite_ok (sb so cap : Nat) (xs : List Value) (hxs : xs.length = 64)
    (D : DiskAt w b m s wr l false f) (hr : w.rangeAt sb so xs) (hn : 0 ≤ n) (hs : n < s) (hsm : s ≤ 1024) (hl : l ≠ 0) (hl1 : -1 ≤ l) (hl2 : l ≤ 9223372036854775807) (hwr : 0 ≤ wr) (hwr' : wr < 1000000) (hsb : sb ≠ b) :
    Calls Tryz.prog 71 #[ptr b, .int .i64 n, .slice (some ⟨sb, so, none⟩) 64 cap] w fun e w' => e = .returned (.int .i64 0) ∧
      DiskAt w' b m s (wr + 1) (if 0 < l then l - 1 else l) false (upd f (.int .i64 n) (.agg xs.toArray)) ∧ Ex [b, m] w w' := by
  obtain ⟨hb, M⟩ := D
  have hl0 : (l == 0) = false := by simpa using hl
  have Hmb : Hid (m ≠ b) := hb.ne_map M
  have harr := fun w => run_arrayAt (P := Tryz.prog) (w := w) 171 5 64 (some ⟨sb, so, none⟩) 64 cap Tryz.underlying171 (by omega)
  have c := hb.cell
  have fz := hb.froz
  have Hb := Lib.hid hb
  have Hr := Lib.hid hr
  have Hxs := Lib.hid hxs
  have Hsb := Lib.hid hsb
  clear hxs hb hr hsb
  by_cases hp : 0 < l
  · go_enter Tryz.func71, Tryz.ntmps71
    go_wp2
    have Hb1 := Lib.hid (Hb.out.set 3 (.int .i64 (l - 1)))
    have X1 : Ex [b, m] w (w.setCell ⟨b, 3, none⟩ (.int .i64 (l - 1))) := (Ex.refl _ _).setCell (.inl (by simp)) _
    have r1 : (w.setCell ⟨b, 3, none⟩ (.int .i64 (l - 1))).rangeAt sb so xs := rangeAt_setCell Hr.out Hsb.out _
    have M1 : KMap Tryz.prog 3 (w.setCell ⟨b, 3, none⟩ (.int .i64 (l - 1))) m f := M.keep (Below.heap_setCell _ _ _ _ Hmb.out)
    generalize (w.setCell ⟨b, 3, none⟩ (.int .i64 (l - 1))) = w1 at *
    have c := Hb1.out.cell
    refine wp_region_still_tail 8 (by kernel_rfl) (by kernel_rfl) ?_
    simp only [List.take_succ_cons, List.take_zero, List.drop_succ_cons, List.drop_zero]
    iterate 7 still_step
    refine still_yield rfl _ (exec_load rfl rfl (run_loadAt_mid (P := Tryz.prog) w1.drew sb so 171 xs _ r1 Tryz.underlying171 rfl (by rw [Hxs.out]; exact sizeSector))) ?_
    refine wpStill_nil ?_
    refine wpList_mapUpdate_K rfl _ _ _ 124 rfl 171 keyedInt Tryz.underlying124 rfl M1 _ _ _ rfl rfl (keyOf_int_mk Tryz.underlying3 (WalkArith.wf_i64 (by omega))) ?_
    intro w2 M2 X2
    have X2 := Ex.of_drew X2
    have b2 := Hb1.out.ex X2 (by simpa using Ne.symm Hmb.out)
    have c := b2.cell
    have fz := b2.froz
    clear harr M1 M
    go_wp2
    go_ret
    refine ⟨rfl, ⟨?_, ?_⟩, ?_⟩
    · exact b2.set 2 _
    · exact M2.keep (Below.heap_setCell _ _ _ _ Hmb.out)
    · exact (X1.trans (X2.mono (by simp))).setCell (.inl (by simp)) _
  · go_enter Tryz.func71, Tryz.ntmps71
    go_wp2
    refine wp_region_still_tail 8 (by kernel_rfl) (by kernel_rfl) ?_
    simp only [List.take_succ_cons, List.take_zero, List.drop_succ_cons, List.drop_zero]
    iterate 7 still_step
    refine still_yield rfl _ (exec_load rfl rfl (run_loadAt_mid (P := Tryz.prog) w.drew sb so 171 xs _ Hr.out Tryz.underlying171 rfl (by rw [Hxs.out]; exact sizeSector))) ?_
    refine wpStill_nil ?_
    refine wpList_mapUpdate_K rfl _ _ _ 124 rfl 171 keyedInt Tryz.underlying124 rfl M _ _ _ rfl rfl (keyOf_int_mk Tryz.underlying3 (WalkArith.wf_i64 (by omega))) ?_
    intro w2 M2 X2
    have X2 := Ex.of_drew X2
    have b2 := Hb.out.ex X2 (by simpa using Ne.symm Hmb.out)
    have c := b2.cell
    have fz := b2.froz
    clear harr M
    go_wp2
    go_ret
    refine ⟨rfl, ⟨?_, ?_⟩, ?_⟩
    · exact b2.set 2 _
    · exact M2.keep (Below.heap_setCell _ _ _ _ Hmb.out)
    · exact (X2.mono (by simp)).setCell (.inl (by simp)) _
set_option maxHeartbeats 400000 in
theorem DiskRead_ok (D : DiskAt w b m s wr l false f) (hn : 0 ≤ n) (hs : n < s) (hsm : s ≤ 1024) (cs : Array Value) (hcs : cs.size = 64) (hf : (f (.int .i64 n)).getD zsector = .agg cs) (h1 : cs.all (·.oneCell') = true) :
    Calls Tryz.prog 72 #[ptr b, .int .i64 n] w fun e w' => e = .returned (.tuple #[.slice (some ⟨w.heap.size, 0, none⟩) 64 64, .int .i64 0]) ∧ w' = w.alloc (.cells cs 171) := by
  obtain ⟨hb, M⟩ := D
  have c := hb.cell
  have hlook := M.lookup keyedInt Tryz.underlying124 (zeroSector w) (keyOf_int_mk Tryz.underlying3 (show (Lit.int .i64 n).wf = true from WalkArith.wf_i64 (by omega))) false
  simp only [hf, Bool.false_eq_true, if_false] at hlook
  go_enter Tryz.func72, Tryz.ntmps72
  go_wp2_with (first | (refine L_val rfl (ex_alloc rfl (zeroSector _)) ?_) | (refine L_skip rfl (ex_store rfl rfl rfl (run_storeAt_new w 171 (Array.replicate 64 (.int .u8 0)) cs (by rw [hcs]; exact sizeSector) (by rw [hcs]; rfl) h1)) ?_))
  go_ret2
  exact ⟨rfl, rfl⟩
end
end Go.Proofs.YtcogbkkdccohfaaGreat
namespace Go.Ad
open Go.RowKit Go.Maps
section
variable {P : Program} {W : World} {M : List Nat} {ops : Array Oper} {Q : Exit → Act → World → Prop} {rest : List Oper} {ov : Ov} {base : List Value} {L L' R : List Bk} {ρ : Operand → Value} {x y : Operand} {ty : TypeId}
theorem enterG {f : FuncId} {fn : Func} {cd : Code} {args : List Value} {n : Nat} {Φ : Ending → World → Prop} (hf : P.funcs[f]? = some fn) (hb : fn.body = some cd) (hn : fn.ntmps = n) (hl : Nat.ble args.length n = true)
    (h : wpC P W [] cd (bodyPost P fn Φ) [] (args ++ List.replicate (n - args.length) undef) []) : Calls P f args.toArray W Φ := by
  have hl' : args.length ≤ n := Nat.le_of_ble_eq_true hl
  refine calls_of_wp hf hb (h _ _ ⟨rfl, ?_, fun d => ?_⟩ (Has.start W))
  · simp [hn]
  · simp only [Ov.get, hn]
    rw [Array.getD_eq_getD_getElem?, List.getD_eq_getElem?_getD]
    congr 1
    rw [← Array.getElem?_toList]
    simp
theorem s_cG {d : Nat} {op : Op} {ty : TypeId} {pos : String} {aft : Array Edge} {g : Option (Nat × Bool)} {f : FuncId} {vs : List Value} {Φ : World → Value → World → Prop} (he : En P W M L (ev ov base) op ty f vs)
    (hc : ∀ w, Has W M L w → Calls P f vs.toArray w fun e w' => ∃ v, e = .returned v ∧ Φ w v w') (hw : wantedL ops ov base ⟨some d, op, ty, pos, aft, g⟩ = true) (hd : Nat.blt d base.length = true)
    (k : ∀ w v w1, Has W M L w → Φ w v w1 → wpL P w1 [] ops Q rest ((d, v) :: ov) base []) : wpL P W M ops Q (⟨some d, op, ty, pos, aft, g⟩ :: rest) ov base L := fun a w hr hH => by
  refine G_enter (by rw [hr.wanted]; exact hw) (by rw [hr.eval]; exact he w hH _ rfl rfl) ((hc w hH).mono ?_)
  rintro e w' ⟨v, rfl, h2⟩
  exact ⟨v, rfl, k w v w' hH h2 _ _ (hr.put v hd) (Has.start w')⟩
theorem N_copy {b kk cap dn dc sn sc : Nat} {a : Addr} {t : TypeId} {cs cs' src : List Value} {u u' e : TypeId} (hx : ρ x = .slice (some ⟨b, 0, none⟩) dn dc) (hy : ρ y = .slice (some a) sn sc) (hu : P.underlying u = some (.slice e)) (hs : (P.info? e).map (·.size) = some 1) (hl : src.length = Nat.min sn dn)
    (hr : ∀ w, Has W M L w → ∀ j v, src[j]? = some v → w.cell? (a.add j) = some v) (h1 : ∀ v ∈ src, v.oneCell' = true) (hU : Upd ⟨b, t, kk, cap, cs⟩ ⟨b, t, kk, cap, cs'⟩ L L') (hc : setAll cs 0 src = cs') (hj : src.length ≤ cs.length) :
    N P W M L ρ (.call { callee := .builtin .copy, args := #[x, y], argTypes := #[u, u'] }) ty (fun _ : Unit => True) (fun _ => .int .i64 (src.length : Nat)) (fun _ => L') := fun w hw o ho _ => by
  subst hc
  have hm := hw.at' hU.mem
  have h := run_copy_cells (P := P) w u u' o.type e b 0 dn dc a sn sc src hu hs hl (hr w hw) (fun j hj' => by
    have : cs[j]? = some (cs[j]'(by omega)) := List.getElem?_eq_getElem _
    rw [Nat.zero_add, hm.cell this]; rfl) (fun j _ => hm.froz _) h1
  rw [setCells_eq] at h
  refine ⟨(), _, trivial, ?_, Has.setAll src hw hU⟩
  unfold execOp
  have hm2 : #[x, y].map ρ = #[.slice (some ⟨b, 0, none⟩) dn dc, .slice (some a) sn sc] := by simp [hx, hy]
  simp only [ho, resolve, invoke, builtin, hm2, Sem.run_bind, h, Result.andThen_ok, Sem.run_pure]
  rfl
theorem N_copyS {b kk cap dn dc : Nat} {t : TypeId} {cs cs' : List Value} {s : ByteArray} {u u' e : TypeId} (hx : ρ x = .slice (some ⟨b, 0, none⟩) dn dc) (hy : ρ y = .string s) (hu : P.underlying u = some (.slice e)) (hz : ∀ w, (Go.sizeOf e).run P w = .ok 1 w) (hl : s.size ≤ dn)
    (hU : Upd ⟨b, t, kk, cap, cs⟩ ⟨b, t, kk, cap, cs'⟩ L L') (hc : setAll cs 0 (s.data.toList.map fun x => Value.int .u8 (x.toNat : Int)) = cs') (hj : s.size ≤ cs.length) :
    N P W M L ρ (.call { callee := .builtin .copy, args := #[x, y], argTypes := #[u, u'] }) ty (fun _ : Unit => True) (fun _ => .int .i64 (s.size : Nat)) (fun _ => L') := fun w hw o ho _ => by
  subst hc
  have hm := hw.at' hU.mem
  have h := run_copy_string (P := P) w u u' o.type e b 0 dn dc s hu hz hl (fun j hj' => by
    have : cs[j]? = some (cs[j]'(by omega)) := List.getElem?_eq_getElem _
    rw [Nat.zero_add, hm.cell this]; rfl) (fun j _ => hm.froz _)
  rw [setCells_eq] at h
  refine ⟨(), _, trivial, ?_, Has.setAll _ hw hU⟩
  unfold execOp
  have hm2 : #[x, y].map ρ = #[.slice (some ⟨b, 0, none⟩) dn dc, .string s] := by simp [hx, hy]
  simp only [ho, resolve, invoke, builtin, hm2, Sem.run_bind, h, Result.andThen_ok, Sem.run_pure]
  rfl
end
def gset (g : Nat → List UInt8) (i : Nat) (xs : List UInt8) : Nat → List UInt8 := fun j => if j = i then xs else g j
end Go.Ad
namespace Go.Proofs.YtcogbkkdccohfaaGreat
open Go.RowKit Go.Ad Go.Maps
set_option linter.unusedVariables false
set_option linter.unusedSimpArgs false
set_option maxRecDepth 100000
def DkS (w : World) (b m : Nat) (n wr l : Int) (dead : Bool) (g : Nat → List UInt8) : Prop := n ≤ 1024 ∧ ∃ f, DiskAt w b m n wr l dead f ∧ ∀ i : Nat, (i : Int) < n → (g i).length = 64 ∧ (f (iv i)).getD zsector = .agg ((g i).map bv).toArray
theorem DkS.ex {w w' : World} {b m : Nat} {n wr l : Int} {dead : Bool} {g : Nat → List UInt8} (h : DkS w b m n wr l dead g) {s : List Nat} (hx : Ex s w w') (hb : b ∉ s) (hm : m ∉ s) : DkS w' b m n wr l dead g := by
  obtain ⟨h0, f, h1, h2⟩ := h
  exact ⟨h0, f, h1.ex hx hb hm, h2⟩
theorem DkS.has {W w : World} {L : List Bk} {b m : Nat} {n wr l : Int} {dead : Bool} {g : Nat → List UInt8} (h : DkS W b m n wr l dead g) (hH : Has W [] L w) : DkS w b m n wr l dead g := h.ex hH.ex (by simp) (by simp)
theorem DkS.lt {w : World} {b m : Nat} {n wr l : Int} {dead : Bool} {g : Nat → List UInt8} (h : DkS w b m n wr l dead g) : b < w.heap.size ∧ m < w.heap.size := by
  obtain ⟨_, f, h1, h2⟩ := h
  exact h1.lt
section
variable {W : World} {b m : Nat} {n wr l : Int} {dead : Bool} {g : Nat → List UInt8}
theorem sectors_d (D : DkS W b m n wr l dead g) : Does Tryz.prog 68 [ptr b] W [] (fun v L => v = iv n ∧ L = []) := by
  obtain ⟨_, f, h1, h2⟩ := D
  exact Calls.mono (DiskSectors_any h1) fun e w' ⟨he, hw⟩ => ⟨_, [], he, by subst hw; exact Has.start _, rfl, rfl⟩
theorem writes_d (D : DkS W b m n wr l dead g) : Does Tryz.prog 40 [ptr b] W [] (fun v L => v = iv wr ∧ L = []) := by
  obtain ⟨_, f, h1, h2⟩ := D
  exact Calls.mono (DiskWrites_any h1) fun e w' ⟨he, hw⟩ => ⟨_, [], he, by subst hw; exact Has.start _, rfl, rfl⟩
abbrev secB (b : Nat) (xs : List UInt8) : Bk := ⟨b, 171, 64, 1, xs.map bv⟩
theorem read_d {i : Nat} (D : DkS W b m n wr l false g) (hi : (i : Int) < n) : Does Tryz.prog 72 [ptr b, iv i] W [] (fun v L => ∃ sb, v = .tuple #[.slice (some ⟨sb, 0, none⟩) 64 64, iv 0] ∧ L = [secB sb (g i)]) := by
  obtain ⟨h0, f, h1, h2⟩ := D
  obtain ⟨h3, h4⟩ := h2 i hi
  refine Calls.mono (DiskRead_ok h1 (by omega) hi h0 ((g i).map bv).toArray (by simp [h3]) h4 (by rw [List.all_toArray, List.all_eq_true]; exact bvs_one _)) fun e w' ⟨he, hw⟩ => ⟨_, [secB W.heap.size (g i)], he, ?_, _, rfl, rfl⟩
  subst hw
  exact (Has.start W).alloc (c := ((g i).map bv).toArray) (by simp [h3]) (by unfold maxLen; omega)
theorem sec_sl {w : World} {sb : Nat} {xs : List UInt8} (h : (secB sb xs).holds w) (hl : xs.length = 64) : SlB w sb 0 64 64 1 (xs.map bv) := ⟨by rw [List.length_map, hl], Nat.le_refl _, by unfold maxLen; omega, h.lt, h.ro⟩
theorem write_G {i sb so cap : Nat} {xs : List UInt8} (D : DkS W b m n wr l false g) (hi : (i : Int) < n) (hr : SlB W sb so 64 cap 1 (xs.map bv)) (hl : l ≠ 0) (hl1 : -1 ≤ l) (hl2 : l ≤ 9223372036854775807) (hwr : 0 ≤ wr) (hwr' : wr < 1000000) (hsb : sb ≠ b) :
    Calls Tryz.prog 71 [ptr b, iv i, .slice (some ⟨sb, so, none⟩) 64 cap].toArray W fun e w' => ∃ v, e = .returned v ∧ v = iv 0 ∧ DkS w' b m n (wr + 1) (if 0 < l then l - 1 else l) false (gset g i xs) ∧ Ex [b, m] W w' := by
  obtain ⟨h0, f, h1, h2⟩ := D
  have hxl : xs.length = 64 := by have := hr.len; simpa using this
  refine Calls.mono (DiskWrite_ok sb so cap (xs.map bv) (by rw [List.length_map, hxl]) h1 ?_ (by omega) hi h0 hl hl1 hl2 hwr hwr' hsb) fun e w' ⟨he, hD, hX⟩ => ⟨_, he, rfl, ⟨h0, _, hD, fun j hj => ?_⟩, hX⟩
  · exact hr.ro
  · unfold gset
    by_cases hji : j = i
    · subst hji
      rw [if_pos rfl, upd_same]
      exact ⟨hxl, rfl⟩
    · rw [if_neg hji, upd_other _ _ (by intro h; injection h with _ h; omega)]
      exact h2 j hj
end
end Go.Proofs.YtcogbkkdccohfaaGreat
namespace Go.Ad
open Go.RowKit Go.Maps
def uv (n : Nat) : Value := .int .u64 (n : Int)
def hcell (a b i : Nat) : List Value := [uv (if 0 < i then a else 0), uv (if 1 < i then b else 0)]
def placeN (g : Nat → List UInt8) (a i : Nat) : List UInt8 := (List.range i).flatMap fun j => g (a + 1 + j)
theorem placeN_succ (g : Nat → List UInt8) (a i : Nat) : placeN g a (i + 1) = placeN g a i ++ g (a + 1 + i) := by unfold placeN; rw [List.range_succ, List.flatMap_append]; simp
theorem placeN_len {g : Nat → List UInt8} {a : Nat} : ∀ i, (∀ j, j < i → (g (a + 1 + j)).length = 64) → (placeN g a i).length = 64 * i
  | 0, _ => rfl
  | i + 1, h => by rw [placeN_succ, List.length_append, placeN_len i (fun j hj => h j (by omega)), h i (by omega)]; omega
def placeB (g : Nat → List UInt8) (k : Nat) : List UInt8 := (placeN g (k * 20) 15).take 919
theorem count_cases (a b : Nat) : countM a b = -1 ∨ ∃ k : Nat, countM a b = k ∧ k ≤ 1 := by
  unfold countM
  split
  · exact .inr ⟨1, rfl, by omega⟩
  · split
    · exact .inr ⟨0, rfl, by omega⟩
    · exact .inl rfl
end Go.Ad
namespace Go.Proofs.YtcogbkkdccohfaaGreat
open Go.RowKit Go.Ad Go.Maps
set_option linter.unusedVariables false
set_option linter.unusedSimpArgs false
section
variable {W : World} {b m : Nat} {n wr l : Int} {g : Nat → List UInt8}
set_option maxRecDepth 100000 in
theorem heads_d (D : DkS W b m n wr l false g) (hn : 40 ≤ n) : Does Tryz.prog 69 [ptr b] W [] (fun v L => v = .tuple #[.agg #[uv (headN (g 0)), uv (headN (g 20))], iv 0] ∧ L = []) := by
  have hg : ∀ i : Nat, (i : Int) < n → (g i).length = 64 := fun i hi => by obtain ⟨_, f, _, h⟩ := D; exact (h i hi).1
  refine enter Tryz.func69 rfl rfl rfl (Has.start _) ?_
  refine c_seq ?_
  refine c_reg ?_
  refine s_n (N_alloc (z := .agg #[.int .u64 0, .int .u64 0]) (cs := [.int .u64 0, .int .u64 0]) zv127 rfl) rfl rfl (fun b2 _ => ?_)
  refine s_y (Y_asC) rfl rfl ?_
  refine s_nil ?_
  refine q_then ?_
  refine c_seq ?_
  refine c_reg ?_
  refine s_n (N_alloc (z := .agg #[.int .u64 0, .int .u64 0]) (cs := [.int .u64 0, .int .u64 0]) zv127 rfl) rfl rfl (fun b4 _ => ?_)
  refine s_nil ?_
  refine q_then ?_
  refine c_seq ?_
  refine c_seq ?_
  refine c_reg ?_
  refine s_y (Y_mvC) rfl rfl ?_
  refine s_nil ?_
  refine q_then ?_
  refine c_block ?_
  refine c_loop [3, 5, 6, 7, 8, 9, 10, 11, 12, 13, 14, 15, 16, 17, 18, 19, 20, 21, 22, 23, 24, 25, 26] (fun q (i : Nat) => i + q = 2) (fun i => [(8, iv i)]) (fun i => [⟨b4, 127, 2, 1, hcell (headN (g 0)) (headN (g 20)) i⟩, ⟨b2, 127, 2, 1, [uv 0, uv 0]⟩]) (2) (0) (rfl) (by repeat (first | exact trivial | refine ⟨rfl, ?_⟩)) (fun _ h => h.sub (by repeat (first | exact List.Sublist.refl _ | exact List.nil_sublist _ | apply List.Sublist.cons_cons | apply List.Sublist.cons))) (fun _ => rfl) ?_
  rintro q i j hi K hK
  refine c_seq ?_
  refine c_reg ?_
  refine s_y (Y_lss rfl rfl) rfl rfl ?_
  refine s_nil ?_
  refine q_then ?_
  refine c_seq ?_
  first | refine c_cond' rfl (fun hc3 => ?_) (fun hc3 => ?_) | refine c_cond rfl (fun hc3 => ?_) (fun hc3 => ?_)
  · skip
    try simp only [Bool.and_eq_true, Bool.or_eq_true, Bool.and_eq_false_iff, Bool.or_eq_false_iff, Bool.not_eq_true', Bool.not_eq_false', Bool.not_eq_eq_eq_not, Bool.not_true, Bool.not_false, decide_eq_true_eq, decide_eq_false_iff_not, Decidable.not_not] at hc3
    refine c_skip ?_
    refine q_then ?_
    refine c_seq ?_
    refine c_block ?_
    refine c_seq ?_
    refine c_reg ?_
    refine s_y (Y_mv) rfl rfl ?_
    refine s_y (Y_as) rfl rfl ?_
    refine s_nil ?_
    refine q_then ?_
    refine c_seq ?_
    refine c_reg ?_
    refine s_y (Y_mv) rfl rfl ?_
    refine s_y (Y_mv) rfl rfl ?_
    refine s_y ((Y_mul rfl rfl (by omega)).num (show _ = ((i * 20 : Nat) : Int) by omega)) rfl rfl ?_
    refine s_c (En_call (fun _ => rfl) Tryz.func72 rfl (by kernel_rfl) rfl) (fun w hH => read_d (D.has hH) (by omega)) rfl rfl ?_
    rintro _ _ ⟨sb, rfl, rfl⟩
    refine s_y (Y_mv) rfl rfl ?_
    refine s_y (Y_extract rfl rfl) rfl rfl ?_
    refine s_y (Y_extract rfl rfl) rfl rfl ?_
    refine s_y (Y_as) rfl rfl ?_
    refine s_y (Y_as) rfl rfl ?_
    refine s_nil ?_
    refine q_then ?_
    refine c_seq ?_
    refine c_seq ?_
    refine c_reg ?_
    refine s_y (Y_mv) rfl rfl ?_
    refine s_y (Y_neq rfl rfl) rfl rfl ?_
    refine s_nil ?_
    refine q_then ?_
    refine c_F rfl ((by rfl)) ?_
    refine c_skip ?_
    refine q_then ?_
    refine c_reg ?_
    refine s_y (Y_mv) rfl rfl ?_
    refine s_y (Y_mv) rfl rfl ?_
    refine s_c (En_call (fun _ => rfl) Tryz.func112 rfl (by kernel_rfl) rfl) (fun w hH => number_d (sec_sl (hH.at' (x := secB sb (g (i * 20))) (by repeat (first | exact List.Mem.head _ | assumption | apply List.Mem.tail | apply List.mem_append_right))) (hg _ (by omega)))) rfl rfl ?_
    rintro _ _ ⟨rfl, rfl⟩
    refine s_y (Y_iaA (n := i) rfl rfl Tryz.underlying127 sz96 rfl (by omega)) rfl rfl ?_
    refine s_s (S_st (cs' := hcell (headN (g 0)) (headN (g 20)) (i + 1)) rfl (by repeat (first | exact Gt.here | apply Gt.there (by rfl) | exact Gt.base (by rfl))) sz96 (by rfl) up_ (by rcases i with _ | _ | i <;> first | rfl | omega) (by show _ < 2; omega)) rfl ?_
    refine s_nil ?_
    refine q_bn ?_
    refine q_then ?_
    refine c_reg ?_
    refine s_y ad_ rfl rfl ?_
    refine s_y (Y_mv) rfl rfl ?_
    refine s_nil ?_
    refine hK (q - 1) (i + 1) _ _ (by omega) (by omega) ⟨rfl, trivial⟩ rfl (fun w h => h.pick ss_)
  · skip
    try simp only [Bool.and_eq_true, Bool.or_eq_true, Bool.and_eq_false_iff, Bool.or_eq_false_iff, Bool.not_eq_true', Bool.not_eq_false', Bool.not_eq_eq_eq_not, Bool.not_true, Bool.not_false, decide_eq_true_eq, decide_eq_false_iff_not, Decidable.not_not] at hc3
    refine c_exit ?_
    repeat with_reducible refine q_te ?_
    refine q_exit ?_
    refine q_then ?_
    refine c_seq ?_
    obtain rfl : i = 2 := by omega
    refine c_reg ?_
    refine s_y (Y_loadAll (cs := hcell (headN (g 0)) (headN (g 20)) 2) rfl many127 (by repeat (first | exact List.Mem.head _ | assumption | apply List.Mem.tail | apply List.mem_append_right)) (by rfl)) rfl rfl ?_
    refine s_s (S_storeA (vs := hcell (headN (g 0)) (headN (g 20)) 2) rfl rfl sz127 (by rfl) (by rfl) up_ (by rfl)) rfl ?_
    refine s_y (Y_asC) rfl rfl ?_
    refine s_nil ?_
    refine q_then ?_
    refine c_ret ?_
    refine q_ret2c rfl rfl many127 rfl (by repeat (first | exact List.Mem.head _ | assumption | apply List.Mem.tail | apply List.mem_append_right)) (by rfl) (L' := []) (by repeat (first | exact List.Sublist.refl _ | exact List.nil_sublist _ | apply List.Sublist.cons_cons | apply List.Sublist.cons)) ⟨rfl, rfl⟩
set_option maxRecDepth 100000 in
theorem load_few (D : DkS W b m n wr l false g) (hn : n < 40) : Does Tryz.prog 39 [ptr b] W [] (fun v L => v = .tuple #[.agg (wz ++ seatC 0).toArray, iv 5] ∧ L = []) := by
  refine enter Tryz.func39 rfl rfl rfl (Has.start _) ?_
  refine c_seq ?_
  refine c_reg ?_
  refine s_n (N_alloc (z := .agg #[.int .i64 0, .int .i64 0, .int .i64 0, .int .i64 0, .slice none 0 0, .slice none 0 0, .slice none 0 0, .int .i64 0, .int .i64 0, .int .i64 0, .int .i64 0, .bool false, .bool false, .bool false, .bool false]) (cs := [.int .i64 0, .int .i64 0, .int .i64 0, .int .i64 0, .slice none 0 0, .slice none 0 0, .slice none 0 0, .int .i64 0, .int .i64 0, .int .i64 0, .int .i64 0, .bool false, .bool false, .bool false, .bool false]) zv58 rfl) rfl rfl (fun b2 _ => ?_)
  refine s_y (Y_asC) rfl rfl ?_
  refine s_nil ?_
  refine q_then ?_
  refine c_seq ?_
  refine c_seq ?_
  refine c_reg ?_
  refine s_y (Y_mv) rfl rfl ?_
  refine s_c (En_call (fun _ => rfl) Tryz.func68 rfl (by kernel_rfl) rfl) (fun w hH => sectors_d (D.has hH)) rfl rfl ?_
  rintro _ _ ⟨rfl, rfl⟩
  refine s_y (Y_lss rfl rfl) rfl rfl ?_
  refine s_nil ?_
  refine q_then ?_
  refine c_T rfl ((by simpa using hn)) ?_
  refine c_seq ?_
  refine c_reg ?_
  refine s_y (Y_build (cs := wz ++ seatC 0) ((by repeat (first | exact Gp.nil | apply Gp.const | apply Gp.tmp (by repeat (first | exact Gt.here | apply Gt.there (by rfl) | exact Gt.base (by rfl)))))) (bld58 _ _ (by kernel_rfl))) rfl rfl ?_
  refine s_s (S_storeA (vs := wz ++ seatC 0) rfl rfl sz58 (by rfl) (by rfl) up_ (by rfl)) rfl ?_
  refine s_y (Y_asC) rfl rfl ?_
  refine s_nil ?_
  refine q_then ?_
  refine c_ret ?_
  refine q_ret2c rfl rfl many58 rfl (by repeat (first | exact List.Mem.head _ | assumption | apply List.Mem.tail | apply List.mem_append_right)) (by rfl) (L' := []) (by repeat (first | exact List.Sublist.refl _ | exact List.nil_sublist _ | apply List.Sublist.cons_cons | apply List.Sublist.cons)) ⟨rfl, rfl⟩
set_option maxRecDepth 100000 in
theorem load_none (D : DkS W b m n wr l false g) (hn : 40 ≤ n) (hk : countM (headN (g 0)) (headN (g 20)) = -1) : Does Tryz.prog 39 [ptr b] W [] (fun v L => v = .tuple #[.agg (wz ++ seatC 0).toArray, iv 2] ∧ L = []) := by
  refine enter Tryz.func39 rfl rfl rfl (Has.start _) ?_
  refine c_seq ?_
  refine c_reg ?_
  refine s_n (N_alloc (z := .agg #[.int .i64 0, .int .i64 0, .int .i64 0, .int .i64 0, .slice none 0 0, .slice none 0 0, .slice none 0 0, .int .i64 0, .int .i64 0, .int .i64 0, .int .i64 0, .bool false, .bool false, .bool false, .bool false]) (cs := [.int .i64 0, .int .i64 0, .int .i64 0, .int .i64 0, .slice none 0 0, .slice none 0 0, .slice none 0 0, .int .i64 0, .int .i64 0, .int .i64 0, .int .i64 0, .bool false, .bool false, .bool false, .bool false]) zv58 rfl) rfl rfl (fun b2 _ => ?_)
  refine s_y (Y_asC) rfl rfl ?_
  refine s_nil ?_
  refine q_then ?_
  refine c_seq ?_
  refine c_seq ?_
  refine c_reg ?_
  refine s_y (Y_mv) rfl rfl ?_
  refine s_c (En_call (fun _ => rfl) Tryz.func68 rfl (by kernel_rfl) rfl) (fun w hH => sectors_d (D.has hH)) rfl rfl ?_
  rintro _ _ ⟨rfl, rfl⟩
  refine s_y (Y_lss rfl rfl) rfl rfl ?_
  refine s_nil ?_
  refine q_then ?_
  refine c_F rfl ((by simpa using hn)) ?_
  refine c_skip ?_
  refine q_then ?_
  refine c_seq ?_
  refine c_reg ?_
  refine s_y (Y_mv) rfl rfl ?_
  refine s_c (En_call (fun _ => rfl) Tryz.func69 rfl (by kernel_rfl) rfl) (fun w hH => heads_d (D.has hH) hn) rfl rfl ?_
  rintro _ _ ⟨rfl, rfl⟩
  refine s_y (Y_mv) rfl rfl ?_
  refine s_y (Y_extract rfl rfl) rfl rfl ?_
  refine s_y (Y_extract rfl rfl) rfl rfl ?_
  refine s_n (N_alloc (z := .agg #[.int .u64 0, .int .u64 0]) (cs := [.int .u64 0, .int .u64 0]) zv127 rfl) rfl rfl (fun b4 _ => ?_)
  refine s_s (S_storeA (vs := [uv (headN (g 0)), uv (headN (g 20))]) rfl rfl sz127 (by rfl) (by rfl) up_ (by rfl)) rfl ?_
  refine s_y (Y_as) rfl rfl ?_
  refine s_nil ?_
  refine q_then ?_
  refine c_seq ?_
  refine c_seq ?_
  refine c_reg ?_
  refine s_y (Y_mv) rfl rfl ?_
  refine s_y (Y_neq rfl rfl) rfl rfl ?_
  refine s_nil ?_
  refine q_then ?_
  refine c_F rfl ((by rfl)) ?_
  refine c_skip ?_
  refine q_then ?_
  refine c_seq ?_
  refine c_reg ?_
  refine s_y (Y_loadAll (cs := [uv (headN (g 0)), uv (headN (g 20))]) rfl many127 (by repeat (first | exact List.Mem.head _ | assumption | apply List.Mem.tail | apply List.mem_append_right)) (by rfl)) rfl rfl ?_
  refine s_c (En_call (fun _ => rfl) Tryz.func70 rfl (by kernel_rfl) rfl) (fun w hH => counts_d) rfl rfl ?_
  rintro _ _ ⟨rfl, rfl⟩
  rw [hk]
  refine s_y (Y_as) rfl rfl ?_
  refine s_nil ?_
  refine q_then ?_
  refine c_seq ?_
  refine c_seq ?_
  refine c_reg ?_
  refine s_y (Y_mv) rfl rfl ?_
  refine s_y (Y_lss rfl rfl) rfl rfl ?_
  refine s_nil ?_
  refine q_then ?_
  refine c_T rfl ((by rfl)) ?_
  refine c_seq ?_
  refine c_reg ?_
  refine s_y (Y_build (cs := wz ++ seatC 0) ((by repeat (first | exact Gp.nil | apply Gp.const | apply Gp.tmp (by repeat (first | exact Gt.here | apply Gt.there (by rfl) | exact Gt.base (by rfl)))))) (bld58 _ _ (by kernel_rfl))) rfl rfl ?_
  refine s_s (S_storeA (vs := wz ++ seatC 0) rfl rfl sz58 (by rfl) (by rfl) up_ (by rfl)) rfl ?_
  refine s_y (Y_asC) rfl rfl ?_
  refine s_nil ?_
  refine q_then ?_
  refine c_ret ?_
  refine q_ret2c rfl rfl many58 rfl (by repeat (first | exact List.Mem.head _ | assumption | apply List.Mem.tail | apply List.mem_append_right)) (by rfl) (L' := []) (by repeat (first | exact List.Sublist.refl _ | exact List.nil_sublist _ | apply List.Sublist.cons_cons | apply List.Sublist.cons)) ⟨rfl, rfl⟩
set_option maxRecDepth 100000 in
set_option maxHeartbeats 1600000 in
theorem load_d {k : Nat} (D : DkS W b m n wr l false g) (hn : 40 ≤ n) (hk : countM (headN (g 0)) (headN (g 20)) = k) (hk1 : k ≤ 1) : Does Tryz.prog 39 [ptr b] W [] (SDecP (placeB g k)) := by
  have hg : ∀ i : Nat, (i : Int) < n → (g i).length = 64 := fun i hi => by obtain ⟨_, f, _, h⟩ := D; exact (h i hi).1
  refine enter Tryz.func39 rfl rfl rfl (Has.start _) ?_
  refine c_seq ?_
  refine c_reg ?_
  refine s_n (N_alloc (z := .agg #[.int .i64 0, .int .i64 0, .int .i64 0, .int .i64 0, .slice none 0 0, .slice none 0 0, .slice none 0 0, .int .i64 0, .int .i64 0, .int .i64 0, .int .i64 0, .bool false, .bool false, .bool false, .bool false]) (cs := [.int .i64 0, .int .i64 0, .int .i64 0, .int .i64 0, .slice none 0 0, .slice none 0 0, .slice none 0 0, .int .i64 0, .int .i64 0, .int .i64 0, .int .i64 0, .bool false, .bool false, .bool false, .bool false]) zv58 rfl) rfl rfl (fun b2 _ => ?_)
  refine s_y (Y_asC) rfl rfl ?_
  refine s_nil ?_
  refine q_then ?_
  refine c_seq ?_
  refine c_seq ?_
  refine c_reg ?_
  refine s_y (Y_mv) rfl rfl ?_
  refine s_c (En_call (fun _ => rfl) Tryz.func68 rfl (by kernel_rfl) rfl) (fun w hH => sectors_d (D.has hH)) rfl rfl ?_
  rintro _ _ ⟨rfl, rfl⟩
  refine s_y (Y_lss rfl rfl) rfl rfl ?_
  refine s_nil ?_
  refine q_then ?_
  refine c_F rfl ((by simpa using hn)) ?_
  refine c_skip ?_
  refine q_then ?_
  refine c_seq ?_
  refine c_reg ?_
  refine s_y (Y_mv) rfl rfl ?_
  refine s_c (En_call (fun _ => rfl) Tryz.func69 rfl (by kernel_rfl) rfl) (fun w hH => heads_d (D.has hH) hn) rfl rfl ?_
  rintro _ _ ⟨rfl, rfl⟩
  refine s_y (Y_mv) rfl rfl ?_
  refine s_y (Y_extract rfl rfl) rfl rfl ?_
  refine s_y (Y_extract rfl rfl) rfl rfl ?_
  refine s_n (N_alloc (z := .agg #[.int .u64 0, .int .u64 0]) (cs := [.int .u64 0, .int .u64 0]) zv127 rfl) rfl rfl (fun b4 _ => ?_)
  refine s_s (S_storeA (vs := [uv (headN (g 0)), uv (headN (g 20))]) rfl rfl sz127 (by rfl) (by rfl) up_ (by rfl)) rfl ?_
  refine s_y (Y_as) rfl rfl ?_
  refine s_nil ?_
  refine q_then ?_
  refine c_seq ?_
  refine c_seq ?_
  refine c_reg ?_
  refine s_y (Y_mv) rfl rfl ?_
  refine s_y (Y_neq rfl rfl) rfl rfl ?_
  refine s_nil ?_
  refine q_then ?_
  refine c_F rfl ((by rfl)) ?_
  refine c_skip ?_
  refine q_then ?_
  refine c_seq ?_
  refine c_reg ?_
  refine s_y (Y_loadAll (cs := [uv (headN (g 0)), uv (headN (g 20))]) rfl many127 (by repeat (first | exact List.Mem.head _ | assumption | apply List.Mem.tail | apply List.mem_append_right)) (by rfl)) rfl rfl ?_
  refine s_c (En_call (fun _ => rfl) Tryz.func70 rfl (by kernel_rfl) rfl) (fun w hH => counts_d) rfl rfl ?_
  rintro _ _ ⟨rfl, rfl⟩
  rw [hk]
  refine s_y (Y_as) rfl rfl ?_
  refine s_nil ?_
  refine q_then ?_
  refine c_seq ?_
  refine c_seq ?_
  refine c_reg ?_
  refine s_y (Y_mv) rfl rfl ?_
  refine s_y (Y_lss rfl rfl) rfl rfl ?_
  refine s_nil ?_
  refine q_then ?_
  refine c_F rfl ((by simp)) ?_
  refine c_skip ?_
  refine q_then ?_
  refine c_seq ?_
  refine c_reg ?_
  refine s_y (Y_asC) rfl rfl ?_
  refine s_nil ?_
  refine q_then ?_
  refine c_seq ?_
  refine c_seq ?_
  refine c_reg ?_
  refine s_y (Y_asC) rfl rfl ?_
  refine s_nil ?_
  refine q_then ?_
  refine c_block ?_
  refine c_loop [3, 7, 8, 9, 10, 29, 30, 31, 32, 33, 34, 35, 36, 37, 38, 39, 40, 41, 42, 43, 44, 45, 46, 47, 48, 49] (fun q (y : Nat × Value × List Bk) => y.1 + q = 15 ∧ Row 5 1 y.2.1 (64 * y.1) ((placeN g (k * 20) y.1).map bv) y.2.2) (fun y => [(7, y.2.1), (8, iv ((y.1 : Int) + 1))]) (fun y => ⟨b4, 127, 2, 1, [uv (headN (g 0)), uv (headN (g 20))]⟩ :: ⟨b2, 58, 15, 1, wz ++ seatC 0⟩ :: y.2.2) (15) ((0, .slice none 0 0, [])) (⟨rfl, .nil⟩) (by repeat (first | exact trivial | refine ⟨rfl, ?_⟩)) (fun _ h => h.sub (by repeat (first | exact List.Sublist.refl _ | exact List.nil_sublist _ | apply List.Sublist.cons_cons | apply List.Sublist.cons))) (fun _ => rfl) ?_
  rintro q ⟨i, u, B⟩ j ⟨hi, hB⟩ K hK
  simp only at hi hB ⊢
  refine c_seq ?_
  refine c_seq ?_
  refine c_reg ?_
  refine s_y (Y_mv) rfl rfl ?_
  refine s_y (Y_lenR hB rfl rfl Tryz.underlying24) rfl rfl ?_
  refine s_y (Y_lss rfl rfl) rfl rfl ?_
  refine s_nil ?_
  refine q_then ?_
  first | refine c_cond' rfl (fun hc11 => ?_) (fun hc11 => ?_) | refine c_cond rfl (fun hc11 => ?_) (fun hc11 => ?_)
  · skip
    try simp only [Bool.and_eq_true, Bool.or_eq_true, Bool.and_eq_false_iff, Bool.or_eq_false_iff, Bool.not_eq_true', Bool.not_eq_false', Bool.not_eq_eq_eq_not, Bool.not_true, Bool.not_false, decide_eq_true_eq, decide_eq_false_iff_not, Decidable.not_not] at hc11
    refine c_skip ?_
    refine q_then ?_
    refine c_seq ?_
    refine c_block ?_
    refine c_seq ?_
    refine c_reg ?_
    refine s_y (Y_mv) rfl rfl ?_
    refine s_y (Y_mv) rfl rfl ?_
    refine s_y mu_ rfl rfl ?_
    refine s_y (Y_mv) rfl rfl ?_
    refine s_y ((Y_add rfl rfl (by omega)).num (show _ = ((k * 20 + 1 + i : Nat) : Int) by omega)) rfl rfl ?_
    refine s_c (En_call (fun _ => rfl) Tryz.func72 rfl (by kernel_rfl) rfl) (fun w hH => read_d (D.has hH) (by omega)) rfl rfl ?_
    rintro _ _ ⟨sb, rfl, rfl⟩
    refine s_y (Y_mv) rfl rfl ?_
    refine s_y (Y_extract rfl rfl) rfl rfl ?_
    refine s_y (Y_extract rfl rfl) rfl rfl ?_
    refine s_y (Y_as) rfl rfl ?_
    refine s_y (Y_as) rfl rfl ?_
    refine s_nil ?_
    refine q_then ?_
    refine c_seq ?_
    refine c_seq ?_
    refine c_reg ?_
    refine s_y (Y_mv) rfl rfl ?_
    refine s_y (Y_neq rfl rfl) rfl rfl ?_
    refine s_nil ?_
    refine q_then ?_
    refine c_F rfl ((by rfl)) ?_
    refine c_skip ?_
    refine q_then ?_
    refine c_reg ?_
    refine s_y (Y_mv) rfl rfl ?_
    refine s_y (Y_mv) rfl rfl ?_
    refine s_n (N_appR (bytes := 1) hB (List.perm_append_comm (l₁ := B) (l₂ := [_, _, _])) rfl rfl Tryz.underlying24 inf5 rfl (by omega) (src (news := (g (k * 20 + 1 + i)).map bv) (by repeat (first | exact List.Mem.head _ | assumption | apply List.Mem.tail | apply List.mem_append_right))) (by rw [List.length_map, hg _ (by omega)]) (bvs_one _) (by omega) (by omega) (by omega)) rfl rfl (fun ⟨g49, cp49⟩ hc49 => ?_)
    refine s_y (Y_as) rfl rfl ?_
    refine s_nil ?_
    refine q_bn ?_
    refine q_then ?_
    refine c_reg ?_
    refine s_y (Y_mv) rfl rfl ?_
    refine s_y ad_ rfl rfl ?_
    refine s_y (Y_as) rfl rfl ?_
    refine s_nil ?_
    refine hK (q - 1) (i + 1, .slice (some ⟨g49, 0, none⟩) (64 * (i + 1)) cp49, [⟨g49, 5, 1, cp49, (placeN g (k * 20) (i + 1)).map bv⟩]) _ _ (by omega) ⟨by simp only; omega, .some hc49 (by rw [List.length_map, placeN_len _ (fun j hj => hg _ (by omega)), Nat.mul_one])⟩ ⟨rfl, rfl, trivial⟩ rfl (fun w h => ?_)
    simp only
    rw [placeN_succ, List.map_append]
    exact h.pick ss_
  · skip
    try simp only [Bool.and_eq_true, Bool.or_eq_true, Bool.and_eq_false_iff, Bool.or_eq_false_iff, Bool.not_eq_true', Bool.not_eq_false', Bool.not_eq_eq_eq_not, Bool.not_true, Bool.not_false, decide_eq_true_eq, decide_eq_false_iff_not, Decidable.not_not] at hc11
    refine c_exit ?_
    repeat with_reducible refine q_te ?_
    refine q_exit ?_
    refine q_then ?_
    refine c_seq ?_
    obtain rfl : i = 15 := by omega
    obtain ⟨bg, bcap, rfl, rfl, hbc⟩ := hB.some_of (by omega)
    have hpl : (placeN g (k * 20) 15).length = 960 := placeN_len _ (fun j hj => hg _ (by omega))
    refine c_reg ?_
    refine s_y (Y_mv) rfl rfl ?_
    refine s_y (Y_slHi (h := 919) rfl rfl Tryz.underlying24 sz5 rfl (by omega)) rfl rfl ?_
    refine s_c (En_call (fun _ => rfl) Tryz.func34 rfl (by kernel_rfl) rfl) (fun w hH => sDec_d (n := 919) (bs := placeB g k) (SlV.some ⟨by unfold placeB; rw [List.length_map, List.length_take, hpl]; omega, by omega, by have h5 := (hH.at' (x := ⟨bg, 5, 1, bcap, (placeN g (k * 20) 15).map bv⟩) (by repeat (first | exact List.Mem.head _ | assumption | apply List.Mem.tail | apply List.mem_append_right))); obtain ⟨cur, q1, q2, q3, q4⟩ := h5; exact q3, (hH.at' (x := ⟨bg, 5, 1, bcap, (placeN g (k * 20) 15).map bv⟩) (by repeat (first | exact List.Mem.head _ | assumption | apply List.Mem.tail | apply List.mem_append_right))).lt, ro_take (hH.at' (x := ⟨bg, 5, 1, bcap, (placeN g (k * 20) 15).map bv⟩) (by repeat (first | exact List.Mem.head _ | assumption | apply List.Mem.tail | apply List.mem_append_right))).ro (map_take_pre bv _ _)⟩) (by omega)) rfl rfl ?_
    rintro _ _ hS
    rename_i lS
    obtain ⟨c1, e1, i1, rfl, ho1, hr1⟩ := hS
    refine QL.perm List.perm_append_comm ?_
    refine s_y (Y_extract rfl rfl) rfl rfl ?_
    refine s_y (Y_extract rfl rfl) rfl rfl ?_
    refine s_s (S_storeA (vs := wcV (sDecD (placeB g k)) c1 e1 i1 ++ seatC (sDecM (placeB g k))) rfl rfl sz58 (by rfl) (by rw [List.all_append, ho1]; rfl) up_ (by rfl)) rfl ?_
    refine s_y (Y_as) rfl rfl ?_
    refine s_nil ?_
    refine q_then ?_
    refine c_ret ?_
    refine q_ret2c rfl rfl many58 rfl (by repeat (first | exact List.Mem.head _ | assumption | apply List.Mem.tail | apply List.mem_append_right)) (by rfl) (L' := lS) (by repeat (first | exact List.Sublist.refl _ | exact List.nil_sublist _ | apply List.Sublist.cons_cons | apply List.Sublist.cons)) ⟨c1, e1, i1, rfl, ho1, hr1⟩
end
end Go.Proofs.YtcogbkkdccohfaaGreat
namespace Go.Ad
open Go.RowKit Go.Maps
theorem setAll_short : ∀ (vs cs pre : List Value), vs.length ≤ cs.length → setAll (pre ++ cs) pre.length vs = pre ++ vs ++ cs.drop vs.length
  | [], cs, pre, _ => by simp [setAll]
  | v :: r, [], pre, h => by simp at h
  | v :: r, c :: cs, pre, h => by
    rw [setAll]
    have h1 : (pre ++ c :: cs).set pre.length v = (pre ++ [v]) ++ cs := by
      rw [List.set_append_right _ _ (Nat.le_refl _)]; simp
    rw [h1]
    have h2 := setAll_short r cs (pre ++ [v]) (by simpa using h)
    rw [List.length_append, List.length_singleton] at h2
    rw [h2]
    simp
theorem ro_exs {w w' : World} {b o : Nat} {cs : List Value} {s : List Nat} (h : Ro w b o cs) (hx : Ex s w w') (hl : b < w.heap.size) (hb : b ∉ s) : Ro w' b o cs := fun j v hj => by rw [hx.cell hl hb]; exact h j v hj
theorem SlB.exs {w w' : World} {b o n c k : Nat} {cs : List Value} {s : List Nat} (h : SlB w b o n c k cs) (hx : Ex s w w') (hb : b ∉ s) : SlB w' b o n c k cs := ⟨h.len, h.cap, h.big, Nat.lt_of_lt_of_le h.lt hx.size, ro_exs h.ro hx h.lt hb⟩
theorem q_retE1 {P : Program} {W : World} {M : List Nat} {ov : Ov} {base : List Value} {L : List Bk} {fn : Func} {t : Nat} {v : Value} {Ψ : Value → World → Prop} (hr : fn.results = #[.tmp t]) (hv : Gt ov base t v) (h : ∀ w, Has W M L w → Ψ v w) : QL W M (bodyPost P fn (fun e w' => ∃ v, e = .returned v ∧ Ψ v w') .ret) ov base L := fun a w hrp hH =>
  bodyPost_ret (v := v) (by rw [results_tmp hr, hrp.get, hv.eq]) hrp.defers ⟨v, rfl, h w hH⟩
def chunkM (xs : List UInt8) (i : Nat) : List UInt8 := (xs.drop (64 * i)).take 64 ++ List.replicate (64 - ((xs.drop (64 * i)).take 64).length) 0
theorem chunk_len (xs : List UInt8) (i : Nat) : (chunkM xs i).length = 64 := by
  unfold chunkM
  rw [List.length_append, List.length_replicate, List.length_take]
  omega
def partM (g : Nat → List UInt8) (a : Nat) (xs : List UInt8) : Nat → (Nat → List UInt8)
  | 0 => g
  | t + 1 => gset (partM g a xs t) (a + 1 + t) (chunkM xs t)
def headS (v : Nat) : List UInt8 := wordB ++ beM v 8 ++ List.replicate 48 0
theorem headS_len (v : Nat) : (headS v).length = 64 := by unfold headS; rw [List.length_append, List.length_append, beM_len, List.length_replicate]; rfl
def lft (l : Int) (t : Nat) : Int := if l < 0 then l else l - t
theorem lft_succ {l : Int} {i : Nat} (h0 : lft l i ≠ 0) (hli : l < 0 ∨ (i : Int) ≤ l) : lft l (i + 1) = (if 0 < lft l i then lft l i - 1 else lft l i) := by
  unfold lft at *
  by_cases hl : l < 0
  · simp only [if_pos hl]
    rw [if_neg (by omega)]
  · simp only [if_neg hl] at h0 ⊢
    rw [if_pos (by omega)]
    omega
def nextN (g : Nat → List UInt8) : Nat := max (headN (g 0)) (headN (g 20)) + 1
def freeA (g : Nat → List UInt8) : Nat := if countM (headN (g 0)) (headN (g 20)) = 1 then 0 else 20
theorem chunk_copy (xs : List UInt8) (i : Nat) : setAll (List.replicate 64 (.int .u8 0)) 0 (((xs.drop (64 * i)).take 64).map bv) = (chunkM xs i).map bv := by
  have h := setAll_short (((xs.drop (64 * i)).take 64).map bv) (List.replicate 64 (.int .u8 0)) [] (by rw [List.length_map, List.length_take, List.length_replicate]; omega)
  rw [List.nil_append, List.nil_append] at h
  rw [show ([] : List Value).length = 0 from rfl] at h
  rw [h]
  unfold chunkM
  rw [List.map_append, List.map_replicate, List.drop_replicate, List.length_map]
  rfl
def headP (v i : Nat) : List UInt8 := wordB ++ (beM v 8).take i ++ List.replicate (56 - i) 0
theorem headP_set {v i : Nat} (h : i < 8) : (headP v i).set (8 + i) (byteM ((v : Int).fdiv (2 ^ (56 - 8 * i)))) = headP v (i + 1) := by
  rcases i with _ | _ | _ | _ | _ | _ | _ | _ | i
  all_goals first | rfl | omega
theorem headP_eight (v : Nat) : headP v 8 = headS v := by unfold headP headS; rw [List.take_of_length_le (by rw [beM_len]; omega)]
theorem headP_len (v i : Nat) (h : i ≤ 8) : (headP v i).length = 64 := by
  unfold headP
  rw [List.length_append, List.length_append, List.length_take, beM_len, List.length_replicate]
  show 8 + _ + _ = 64
  omega
end Go.Ad
namespace Go.Proofs.YtcogbkkdccohfaaGreat
open Go.RowKit Go.Ad Go.Maps
set_option linter.unusedVariables false
set_option linter.unusedSimpArgs false
section
variable {W : World} {b m : Nat} {n wr l : Int} {g : Nat → List UInt8}
theorem write_any {i sb so cap : Nat} {xs : List UInt8} (D : DkS W b m n wr l false g) (hi : (i : Int) < n) (hr : SlB W sb so 64 cap 1 (xs.map bv)) (hl1 : -1 ≤ l) (hl2 : l ≤ 9223372036854775807) (hwr : 0 ≤ wr) (hwr' : wr < 1000000) (hsb : sb ≠ b) :
    Calls Tryz.prog 71 [ptr b, iv i, .slice (some ⟨sb, so, none⟩) 64 cap].toArray W fun e w' => ∃ v, e = .returned v ∧ v = iv (if l = 0 then 11 else 0) ∧ (l = 0 → DkS w' b m n wr 0 true g) ∧ (l ≠ 0 → DkS w' b m n (wr + 1) (if 0 < l then l - 1 else l) false (gset g i xs)) ∧ Ex [b, m] W w' := by
  by_cases hl : l = 0
  · subst hl
    obtain ⟨h0, f, h1, h2⟩ := D
    exact Calls.mono (DiskWrite_cut _ cap h1 (by omega) hi) fun e w' ⟨he, hD, hX⟩ => ⟨_, he, rfl, fun _ => ⟨h0, f, hD, h2⟩, fun h => absurd rfl h, hX.mono (by simp)⟩
  · exact Calls.mono (write_G D hi hr hl hl1 hl2 hwr hwr' hsb) fun e w' ⟨v, he, hv, hD, hX⟩ => ⟨v, he, by rw [hv, if_neg hl], fun h => absurd h hl, fun _ => hD, hX⟩
def SaveP (b m : Nat) (n wr l : Int) (g : Nat → List UInt8) (xs : List UInt8) (v : Value) (w : World) : Prop :=
  (v = iv 0 ∧ (l < 0 ∨ 16 ≤ l) ∧ DkS w b m n (wr + 16) (lft l 16) false (gset (partM g (freeA g) xs 15) (freeA g) (headS (nextN g)))) ∨
  (∃ t : Nat, t < 16 ∧ l = t ∧ v = iv 11 ∧ DkS w b m n (wr + t) 0 true (partM g (freeA g) xs t))
set_option maxRecDepth 100000 in
theorem save_few {d : Wd} {s : Ws} {mm : Nat} (D : DkS W b m n wr l false g) (hn : n < 40) : Does Tryz.prog 38 [ptr b, .agg (cmpC d s mm).toArray] W [] (fun v L => v = iv 5 ∧ L = []) := by
  refine enter Tryz.func38 rfl rfl rfl (Has.start _) ?_
  refine c_seq ?_
  refine c_reg ?_
  refine s_n (N_box (cs := cmpC d s mm) rfl) rfl rfl (fun b3 _ => ?_)
  refine s_y (Y_asC) rfl rfl ?_
  refine s_nil ?_
  refine q_then ?_
  refine c_seq ?_
  refine c_seq ?_
  refine c_reg ?_
  refine s_y (Y_mv) rfl rfl ?_
  refine s_c (En_call (fun _ => rfl) Tryz.func68 rfl (by kernel_rfl) rfl) (fun w hH => sectors_d (D.has hH)) rfl rfl ?_
  rintro _ _ ⟨rfl, rfl⟩
  refine s_y (Y_lss rfl rfl) rfl rfl ?_
  refine s_nil ?_
  refine q_then ?_
  refine c_T rfl ((by simpa using hn)) ?_
  refine c_seq ?_
  refine c_reg ?_
  refine s_y (Y_asC) rfl rfl ?_
  refine s_nil ?_
  refine q_then ?_
  refine c_ret ?_
  refine q_retG1 rfl (by repeat (first | exact Gt.here | apply Gt.there (by rfl) | exact Gt.base (by rfl))) (L' := _) (by repeat (first | exact List.Sublist.refl _ | exact List.nil_sublist _ | apply List.Sublist.cons_cons | apply List.Sublist.cons)) (⟨rfl, rfl⟩)
set_option maxRecDepth 100000 in
theorem save_bad {d : Wd} {s : Ws} {mm : Nat} (D : DkS W b m n wr l false g) (hn : 40 ≤ n) (hw : WL W d s) (hok : ∀ x ∈ d.items, Itm.ok x) (hck : checkM d ≠ 0) : Does Tryz.prog 38 [ptr b, .agg (cmpC d s mm).toArray] W [] (fun v L => v = iv (checkM d) ∧ L = []) := by
  refine enter Tryz.func38 rfl rfl rfl (Has.start _) ?_
  refine c_seq ?_
  refine c_reg ?_
  refine s_n (N_box (cs := cmpC d s mm) rfl) rfl rfl (fun b3 _ => ?_)
  refine s_y (Y_asC) rfl rfl ?_
  refine s_nil ?_
  refine q_then ?_
  refine c_seq ?_
  refine c_seq ?_
  refine c_reg ?_
  refine s_y (Y_mv) rfl rfl ?_
  refine s_c (En_call (fun _ => rfl) Tryz.func68 rfl (by kernel_rfl) rfl) (fun w hH => sectors_d (D.has hH)) rfl rfl ?_
  rintro _ _ ⟨rfl, rfl⟩
  refine s_y (Y_lss rfl rfl) rfl rfl ?_
  refine s_nil ?_
  refine q_then ?_
  refine c_F rfl ((by simpa using hn)) ?_
  refine c_skip ?_
  refine q_then ?_
  refine c_seq ?_
  refine c_reg ?_
  refine s_y (Y_loadAll (cs := cmpC d s mm) rfl many58 (by repeat (first | exact List.Mem.head _ | assumption | apply List.Mem.tail | apply List.mem_append_right)) (by rfl)) rfl rfl ?_
  refine s_c (En_call (fun _ => rfl) Tryz.func33 rfl (by kernel_rfl) rfl) (fun w hH => sEnc_bad (hw.has hH) hok hck) rfl rfl ?_
  rintro _ _ ⟨rfl, rfl⟩
  refine s_y (Y_mv) rfl rfl ?_
  refine s_y (Y_extract rfl rfl) rfl rfl ?_
  refine s_y (Y_extract rfl rfl) rfl rfl ?_
  refine s_y (Y_as) rfl rfl ?_
  refine s_y (Y_as) rfl rfl ?_
  refine s_nil ?_
  refine q_then ?_
  refine c_seq ?_
  refine c_seq ?_
  refine c_reg ?_
  refine s_y (Y_mv) rfl rfl ?_
  refine s_y (Y_neq rfl rfl) rfl rfl ?_
  refine s_nil ?_
  refine q_then ?_
  refine c_T rfl ((by simpa using hck)) ?_
  refine c_seq ?_
  refine c_reg ?_
  refine s_y (Y_mv) rfl rfl ?_
  refine s_y (Y_as) rfl rfl ?_
  refine s_nil ?_
  refine q_then ?_
  refine c_ret ?_
  refine q_retG1 rfl (by repeat (first | exact Gt.here | apply Gt.there (by rfl) | exact Gt.base (by rfl))) (L' := _) (by repeat (first | exact List.Sublist.refl _ | exact List.nil_sublist _ | apply List.Sublist.cons_cons | apply List.Sublist.cons)) (⟨rfl, rfl⟩)
set_option maxRecDepth 100000 in
set_option maxHeartbeats 3200000 in
theorem save_G {d : Wd} {s : Ws} {mm : Nat} (D : DkS W b m n wr l false g) (hn : 40 ≤ n) (hw : WL W d s) (hck : checkM d = 0) (hmm : mm < 16) (hl1 : -1 ≤ l) (hl2 : l ≤ 1000000) (hwr : 0 ≤ wr) (hwr' : wr ≤ 900000) (hN : nextN g ≤ 1000000) :
    Calls Tryz.prog 38 [ptr b, .agg (cmpC d s mm).toArray].toArray W fun e w' => ∃ v, e = .returned v ∧ SaveP b m n wr l g (seatB mm :: encW d) v w' ∧ Ex [b, m] W w' := by
  have hel := enc_len hck
  have hn2 : n ≤ 1024 := D.1
  obtain ⟨xs, hxs⟩ : ∃ z, seatB mm :: encW d = z := ⟨_, rfl⟩
  have hxl : xs.length = 919 := by rw [← hxs, List.length_cons, hel]
  have hbm := D.lt
  have hfa : freeA g ≤ 20 := by unfold freeA; split <;> omega
  refine enterG Tryz.func38 rfl rfl rfl ?_
  refine c_seq ?_
  refine c_reg ?_
  refine s_n (N_box (cs := cmpC d s mm) rfl) rfl rfl (fun b3 _ => ?_)
  refine s_y (Y_asC) rfl rfl ?_
  refine s_nil ?_
  refine q_then ?_
  refine c_seq ?_
  refine c_seq ?_
  refine c_reg ?_
  refine s_y (Y_mv) rfl rfl ?_
  refine s_c (En_call (fun _ => rfl) Tryz.func68 rfl (by kernel_rfl) rfl) (fun w hH => sectors_d (D.has hH)) rfl rfl ?_
  rintro _ _ ⟨rfl, rfl⟩
  refine s_y (Y_lss rfl rfl) rfl rfl ?_
  refine s_nil ?_
  refine q_then ?_
  refine c_F rfl ((by simpa using hn)) ?_
  refine c_skip ?_
  refine q_then ?_
  refine c_seq ?_
  refine c_reg ?_
  refine s_y (Y_loadAll (cs := cmpC d s mm) rfl many58 (by repeat (first | exact List.Mem.head _ | assumption | apply List.Mem.tail | apply List.mem_append_right)) (by rfl)) rfl rfl ?_
  refine s_c (En_call (fun _ => rfl) Tryz.func33 rfl (by kernel_rfl) rfl) (fun w hH => sEnc_d hmm (hw.has hH) hck) rfl rfl ?_
  rintro _ _ ⟨bg, bcap, rfl, rfl, hbc⟩
  rw [hxs]
  refine s_y (Y_mv) rfl rfl ?_
  refine s_y (Y_extract rfl rfl) rfl rfl ?_
  refine s_y (Y_extract rfl rfl) rfl rfl ?_
  refine s_y (Y_as) rfl rfl ?_
  refine s_y (Y_as) rfl rfl ?_
  refine s_nil ?_
  refine q_then ?_
  refine c_seq ?_
  refine c_seq ?_
  refine c_reg ?_
  refine s_y (Y_mv) rfl rfl ?_
  refine s_y (Y_neq rfl rfl) rfl rfl ?_
  refine s_nil ?_
  refine q_then ?_
  refine c_F rfl ((by rfl)) ?_
  refine c_skip ?_
  refine q_then ?_
  refine c_seq ?_
  refine c_reg ?_
  refine s_y (Y_mv) rfl rfl ?_
  refine s_c (En_call (fun _ => rfl) Tryz.func69 rfl (by kernel_rfl) rfl) (fun w hH => heads_d (D.has hH) hn) rfl rfl ?_
  rintro _ _ ⟨rfl, rfl⟩
  refine s_y (Y_mv) rfl rfl ?_
  refine s_y (Y_extract rfl rfl) rfl rfl ?_
  refine s_y (Y_extract rfl rfl) rfl rfl ?_
  refine s_n (N_alloc (z := .agg #[.int .u64 0, .int .u64 0]) (cs := [.int .u64 0, .int .u64 0]) zv127 rfl) rfl rfl (fun b7 _ => ?_)
  refine s_s (S_storeA (vs := [uv (headN (g 0)), uv (headN (g 20))]) rfl rfl sz127 (by rfl) (by rfl) up_ (by rfl)) rfl ?_
  refine s_y (Y_as) rfl rfl ?_
  refine s_nil ?_
  refine q_then ?_
  refine c_seq ?_
  refine c_seq ?_
  refine c_reg ?_
  refine s_y (Y_mv) rfl rfl ?_
  refine s_y (Y_neq rfl rfl) rfl rfl ?_
  refine s_nil ?_
  refine q_then ?_
  refine c_F rfl ((by rfl)) ?_
  refine c_skip ?_
  refine q_then ?_
  refine c_seq ?_
  refine c_reg ?_
  refine s_y (Y_loadAll (cs := [uv (headN (g 0)), uv (headN (g 20))]) rfl many127 (by repeat (first | exact List.Mem.head _ | assumption | apply List.Mem.tail | apply List.mem_append_right)) (by rfl)) rfl rfl ?_
  refine s_c (En_call (fun _ => rfl) Tryz.func70 rfl (by kernel_rfl) rfl) (fun w hH => counts_d) rfl rfl ?_
  rintro _ _ ⟨rfl, rfl⟩
  obtain ⟨kc, hkc⟩ : ∃ z, countM (headN (g 0)) (headN (g 20)) = z := ⟨_, rfl⟩
  have hkr : -1 ≤ kc ∧ kc ≤ 1 := by rcases count_cases (headN (g 0)) (headN (g 20)) with h | ⟨k, h, hk⟩ <;> omega
  rw [hkc]
  refine s_y (Y_max rfl rfl) rfl rfl ?_
  refine s_y su_ rfl rfl ?_
  refine s_y ((Y_mul rfl rfl (by omega)).num (show _ = ((freeA g : Nat) : Int) by unfold freeA; rw [hkc]; split <;> omega)) rfl rfl ?_
  refine s_y (Y_as) rfl rfl ?_
  refine s_nil ?_
  refine q_then ?_
  refine c_seq ?_
  refine c_seq ?_
  refine c_reg ?_
  refine s_y (Y_asC) rfl rfl ?_
  refine s_nil ?_
  refine QL.rebase (fun W1 hH1 => ?_)
  have hbg := (hH1.bk (cB bg bcap xs) (by repeat (first | exact List.Mem.head _ | assumption | apply List.Mem.tail | apply List.mem_append_right)))
  have hb7 := (hH1.bk ⟨b7, 127, 2, 1, [uv (headN (g 0)), uv (headN (g 20))]⟩ (by repeat (first | exact List.Mem.head _ | assumption | apply List.Mem.tail | apply List.mem_append_right)))
  have D1 := D.ex hH1.ex (by simp) (by simp)
  have hgW : W.heap.size ≤ bg := by simpa using hbg.2
  have h7W : W.heap.size ≤ b7 := by simpa using hb7.2
  have hsx : SlB W1 bg 0 919 bcap 1 (xs.map bv) := hbg.1.sl (by rw [List.length_map, hxl]) hbc
  have hX1 := hH1.ex
  refine q_then ?_
  refine c_block ?_
  refine c_loopW [4, 5, 9, 10, 11, 38, 39, 40, 41, 42, 43, 44, 45, 46, 47, 48, 49, 50, 51, 52, 53, 54, 55, 56, 57] (fun q (y : Nat × Value) w => y.1 + q = 15 ∧ RdV bg 0 919 bcap (min (64 * y.1) 919) y.2 ∧ SlB w bg 0 919 bcap 1 (xs.map bv) ∧ Ro w b7 0 [uv (headN (g 0)), uv (headN (g 20))] ∧ b7 < w.heap.size ∧ DkS w b m n (wr + y.1) (lft l y.1) false (partM g (freeA g) xs y.1) ∧ (l < 0 ∨ (y.1 : Int) ≤ l) ∧ Ex [b, m] W w) (fun y => [(5, y.2), (9, iv ((y.1 : Int) + 1))]) (15) ((0, .slice (some ⟨bg, 0, none⟩) 919 bcap)) ?_ (by repeat (first | exact trivial | refine ⟨rfl, ?_⟩)) (fun _ => rfl) ?_
  · intro w hH
    exact ⟨rfl, ⟨⟨bg, 0, none⟩, rfl, fun _ => rfl⟩, hsx.has hH, hH.ro hb7.1.ro (by simp), Nat.lt_of_lt_of_le hb7.1.lt hH.size, by simpa [lft, partM] using D1.has hH, by simp only; omega, (hX1.mono (by simp)).trans (hH.ex.mono (by simp))⟩
  rintro q ⟨i, v⟩ j W2 ⟨hi, hv, hs2, hr7, hl7, D2, hli, hX2⟩ K hK
  simp only at hi hv hs2 hr7 hl7 D2 hli hX2 ⊢
  obtain ⟨a', rfl, ha⟩ := hv
  refine c_seq ?_
  refine c_seq ?_
  refine c_reg ?_
  refine s_y (Y_mv) rfl rfl ?_
  refine s_y (Y_len rfl rfl Tryz.underlying24) rfl rfl ?_
  refine s_y (Y_gtr rfl rfl) rfl rfl ?_
  refine s_nil ?_
  refine q_then ?_
  first | refine c_cond' rfl (fun hc11 => ?_) (fun hc11 => ?_) | refine c_cond rfl (fun hc11 => ?_) (fun hc11 => ?_)
  · skip
    try simp only [Bool.and_eq_true, Bool.or_eq_true, Bool.and_eq_false_iff, Bool.or_eq_false_iff, Bool.not_eq_true', Bool.not_eq_false', Bool.not_eq_eq_eq_not, Bool.not_true, Bool.not_false, decide_eq_true_eq, decide_eq_false_iff_not, Decidable.not_not] at hc11
    refine c_skip ?_
    refine q_then ?_
    refine c_seq ?_
    refine c_block ?_
    refine c_seq ?_
    refine c_reg ?_
    refine s_n (N_make1 (n := 64) rfl rfl Tryz.underlying24 inf5 rfl rfl (by omega) (by omega)) rfl rfl (fun b43 _ => ?_)
    refine s_y (Y_as) rfl rfl ?_
    refine s_nil ?_
    refine q_then ?_
    refine c_seq ?_
    have hi15 : i < 15 := by omega
    obtain rfl := ha (by omega)
    have hmn : min (64 * i) 919 = 64 * i := by omega
    rw [hmn]
    have hln : (((xs.drop (64 * i)).take 64).map bv).length = min 64 (919 - 64 * i) := by rw [List.length_map, List.length_take, List.length_drop, hxl]
    obtain ⟨src, hsrc⟩ : ∃ z, ((xs.drop (64 * i)).take 64).map bv = z := ⟨_, rfl⟩
    have hcp := chunk_copy xs i
    have hone : ∀ v ∈ src, v.oneCell' = true := by rw [← hsrc]; exact bvs_one _
    have hro : Ro W2 bg (0 + 64 * i) src := by
      rw [← hsrc]
      intro j v hj
      refine hs2.ro _ _ ?_ |> fun h => by rw [Nat.add_assoc]; exact h
      rw [List.getElem?_map] at hj ⊢
      have hj2 : j < 64 := by
        by_cases h : j < 64
        · exact h
        · rw [List.getElem?_eq_none (by rw [List.length_take]; omega)] at hj; cases hj
      rw [List.getElem?_take_of_lt hj2, List.getElem?_drop] at hj
      exact hj
    rw [hsrc] at hln hcp
    refine c_reg ?_
    refine s_y (Y_mv) rfl rfl ?_
    refine s_y (Y_mv) rfl rfl ?_
    refine s_y (Y_mv) rfl rfl ?_
    refine s_n (N_copy (src := src) (cs' := (chunkM xs i).map bv) rfl rfl Tryz.underlying24 sz5 (by rw [hln]; exact Nat.min_comm _ _) (fun w hH j u hj => by rw [Addr.add_mid]; exact hH.ro hro (by simp) j u hj) hone up_ hcp (by rw [hln]; simp; omega)) rfl rfl (fun _ _ => ?_)
    refine s_y (Y_slLo (l := src.length) rfl rfl Tryz.underlying24 sz5 rfl (by omega)) rfl rfl ?_
    refine s_y (Y_as) rfl rfl ?_
    refine s_nil ?_
    refine q_then ?_
    refine c_seq ?_
    refine c_reg ?_
    refine s_y (Y_mv) rfl rfl ?_
    refine s_y (Y_mv) rfl rfl ?_
    refine s_y (Y_mv) rfl rfl ?_
    refine s_y ((Y_add rfl rfl (by omega)).num (show _ = ((freeA g + 1 + i : Nat) : Int) by omega)) rfl rfl ?_
    refine s_y (Y_mv) rfl rfl ?_
    refine s_cG (Φ := fun w v w1 => v = iv (if lft l i = 0 then 11 else 0) ∧ (lft l i = 0 → DkS w1 b m n (wr + (i : Nat)) 0 true (partM g (freeA g) xs i)) ∧ (lft l i ≠ 0 → DkS w1 b m n (wr + (i : Nat) + 1) (if 0 < lft l i then lft l i - 1 else lft l i) false (gset (partM g (freeA g) xs i) (freeA g + 1 + i) (chunkM xs i))) ∧ Ex [b, m] w w1) (En_call (fun _ => rfl) Tryz.func71 rfl (by kernel_rfl) rfl) (fun w hH => ?_) rfl rfl (fun w v W3 hH3 hΦ => ?_)
    · have hbk := hH.bk (cB b43 64 (chunkM xs i)) (by repeat (first | exact List.Mem.head _ | assumption | apply List.Mem.tail | apply List.mem_append_right))
      have hlb := D2.lt
      exact write_any (D2.ex hH.ex (by simp) (by simp)) (by omega) (hbk.1.sl (by rw [List.length_map, chunk_len]) (Nat.le_refl _)) (by unfold lft; split <;> omega) (by unfold lft; split <;> omega) (by omega) (by omega) (by have := hbk.2; simp at this; omega)
    obtain ⟨rfl, hz, hnz, hX3⟩ := hΦ
    have hX4 : Ex [b, m] W2 W3 := (hH3.ex.mono (by simp)).trans hX3
    refine s_y (Y_as) rfl rfl ?_
    refine s_nil ?_
    refine q_then ?_
    refine c_seq ?_
    refine c_reg ?_
    refine s_y (Y_mv) rfl rfl ?_
    refine s_y (Y_neq rfl rfl) rfl rfl ?_
    refine s_nil ?_
    refine q_then ?_
    first | refine c_cond' rfl (fun hc16 => ?_) (fun hc16 => ?_) | refine c_cond rfl (fun hc16 => ?_) (fun hc16 => ?_)
    · skip
      try simp only [Bool.and_eq_true, Bool.or_eq_true, Bool.and_eq_false_iff, Bool.or_eq_false_iff, Bool.not_eq_true', Bool.not_eq_false', Bool.not_eq_eq_eq_not, Bool.not_true, Bool.not_false, decide_eq_true_eq, decide_eq_false_iff_not, Decidable.not_not] at hc16
      refine c_seq ?_
      have h0 : lft l i = 0 := by
        apply Classical.byContradiction
        intro h
        rw [if_neg h] at hc16
        exact hc16 rfl
      rw [if_pos h0]
      refine c_reg ?_
      refine s_y (Y_mv) rfl rfl ?_
      refine s_y (Y_as) rfl rfl ?_
      refine s_nil ?_
      refine q_then ?_
      refine c_ret ?_
      refine q_retE1 rfl (by repeat (first | exact Gt.here | apply Gt.there (by rfl) | exact Gt.base (by rfl))) (fun w hH => ⟨.inr ⟨i, by omega, by unfold lft at h0; split at h0 <;> omega, rfl, (hz h0).ex hH.ex (by simp) (by simp)⟩, (hX2.trans hX4).trans (hH.ex.mono (by simp))⟩)
    · skip
      try simp only [Bool.and_eq_true, Bool.or_eq_true, Bool.and_eq_false_iff, Bool.or_eq_false_iff, Bool.not_eq_true', Bool.not_eq_false', Bool.not_eq_eq_eq_not, Bool.not_true, Bool.not_false, decide_eq_true_eq, decide_eq_false_iff_not, Decidable.not_not] at hc16
      refine c_skip ?_
      refine q_bn ?_
      refine q_then ?_
      refine c_reg ?_
      refine s_y (Y_mv) rfl rfl ?_
      refine s_y ad_ rfl rfl ?_
      refine s_y (Y_as) rfl rfl ?_
      refine s_nil ?_
      have hs3 : SlB W3 bg 0 919 bcap 1 (xs.map bv) := hs2.exs hX4 (by simp; omega)
      have hr73 : Ro W3 b7 0 [uv (headN (g 0)), uv (headN (g 20))] := ro_exs hr7 hX4 hl7 (by simp; omega)
      have h0 : lft l i ≠ 0 := by
        intro h
        rw [if_pos h] at hc16
        exact absurd hc16 (by decide)
      refine hK (q - 1) (i + 1, _) _ _ _ (by omega) (fun w hH => ⟨by simp only; omega, by simp only; rw [show min (64 * (i + 1)) 919 = 64 * i + src.length by rw [hln]; omega]; exact RdV.next hbc (by rw [hln]; omega), hs3.has hH, hH.ro hr73 (by simp), Nat.lt_of_lt_of_le (Nat.lt_of_lt_of_le hl7 hX4.size) hH.size, ?_, ?_, (hX2.trans hX4).trans (hH.ex.mono (by simp))⟩) ⟨rfl, rfl, trivial⟩ rfl
      · simp only
        rw [show wr + ((i + 1 : Nat) : Int) = wr + (i : Nat) + 1 by omega, show lft l (i + 1 : Nat) = (if 0 < lft l i then lft l i - 1 else lft l i) from lft_succ h0 hli]
        exact (hnz h0).ex hH.ex (by simp) (by simp)
      · simp only
        unfold lft at h0
        split at h0 <;> omega
  · skip
    try simp only [Bool.and_eq_true, Bool.or_eq_true, Bool.and_eq_false_iff, Bool.or_eq_false_iff, Bool.not_eq_true', Bool.not_eq_false', Bool.not_eq_eq_eq_not, Bool.not_true, Bool.not_false, decide_eq_true_eq, decide_eq_false_iff_not, Decidable.not_not] at hc11
    refine c_exit ?_
    repeat with_reducible refine q_te ?_
    refine q_exit ?_
    refine q_then ?_
    refine c_seq ?_
    obtain rfl : i = 15 := by omega
    refine c_reg ?_
    refine s_n (N_make1 (n := 64) rfl rfl Tryz.underlying24 inf5 rfl rfl (by omega) (by omega)) rfl rfl (fun b58 _ => ?_)
    refine s_y (Y_as) rfl rfl ?_
    refine s_nil ?_
    refine q_then ?_
    refine c_seq ?_
    refine c_reg ?_
    refine s_y (Y_mv) rfl rfl ?_
    refine s_n (N_copyS (cs' := (headP (nextN g) 0).map bv) rfl rfl Tryz.underlying24 (fun w => by kernel_rfl) (by decide) up_ (by rfl) (by decide)) rfl rfl (fun _ _ => ?_)
    refine s_nil ?_
    refine q_then ?_
    refine c_seq ?_
    refine c_seq ?_
    refine c_reg ?_
    refine s_y (Y_mvC) rfl rfl ?_
    refine s_nil ?_
    refine q_then ?_
    refine c_block ?_
    refine c_loop [13, 61, 62, 63, 64, 65, 66, 67, 68, 69, 70, 71, 72, 73, 74, 75, 76, 77, 78, 79] (fun q (i : Nat) => i + q = 8) (fun i => [(61, iv i)]) (fun i => [cB b58 64 (headP (nextN g) i)]) (8) (0) (rfl) (by repeat (first | exact trivial | refine ⟨rfl, ?_⟩)) (fun _ h => h.sub (by repeat (first | exact List.Sublist.refl _ | exact List.nil_sublist _ | apply List.Sublist.cons_cons | apply List.Sublist.cons))) (fun _ => rfl) ?_
    rintro q2 i2 j2 hi2 K hK
    refine c_seq ?_
    refine c_reg ?_
    refine s_y (Y_lss rfl rfl) rfl rfl ?_
    refine s_nil ?_
    refine q_then ?_
    refine c_seq ?_
    first | refine c_cond' rfl (fun hc21 => ?_) (fun hc21 => ?_) | refine c_cond rfl (fun hc21 => ?_) (fun hc21 => ?_)
    · skip
      try simp only [Bool.and_eq_true, Bool.or_eq_true, Bool.and_eq_false_iff, Bool.or_eq_false_iff, Bool.not_eq_true', Bool.not_eq_false', Bool.not_eq_eq_eq_not, Bool.not_true, Bool.not_false, decide_eq_true_eq, decide_eq_false_iff_not, Decidable.not_not] at hc21
      refine c_skip ?_
      refine q_then ?_
      refine c_seq ?_
      refine c_block ?_
      refine c_seq ?_
      refine c_reg ?_
      refine s_y (Y_mv) rfl rfl ?_
      refine s_y (Y_as) rfl rfl ?_
      refine s_nil ?_
      refine q_then ?_
      have hi8 : i2 < 8 := by omega
      refine c_reg ?_
      refine s_y (Y_mv) rfl rfl ?_
      refine s_y (Y_mv) rfl rfl ?_
      refine s_y ((Y_add rfl rfl (by omega)).num (show _ = ((8 + i2 : Nat) : Int) by omega)) rfl rfl ?_
      refine s_y (Y_iaA (n := 0) rfl rfl Tryz.underlying127 sz96 rfl (by decide)) rfl rfl ?_
      refine s_y (Y_loadR (v := uv (headN (g 0))) (i := 0) rfl one96 hr7 rfl rfl) rfl rfl ?_
      refine s_y (Y_iaA (n := 1) rfl rfl Tryz.underlying127 sz96 rfl (by decide)) rfl rfl ?_
      refine s_y (Y_loadR (v := uv (headN (g 20))) (i := 1) rfl one96 hr7 rfl rfl) rfl rfl ?_
      refine s_y (Y_max rfl rfl) rfl rfl ?_
      refine s_y ((Y_addw rfl rfl).num (show _ = ((nextN g : Nat) : Int) by rw [u64_id (by unfold nextN at hN; omega)]; unfold nextN; omega)) rfl rfl ?_
      refine s_y (Y_mv) rfl rfl ?_
      refine s_y mu_ rfl rfl ?_
      refine s_y su_ rfl rfl ?_
      refine s_y ((Y_shr rfl rfl (by omega)).num (show _ = ((nextN g : Nat) : Int).fdiv (2 ^ (56 - 8 * i2)) by congr 2; show min (56 - 8 * (i2 : Int)).toNat 64 = _; omega)) rfl rfl ?_
      refine s_y (Y_cb rfl Tryz.underlying96 Tryz.underlying5) rfl rfl ?_
      refine s_y (Y_ia (n := 8 + i2) rfl rfl Tryz.underlying24 sz5 rfl (by omega)) rfl rfl ?_
      refine s_s (S_st (cs' := (headP (nextN g) (i2 + 1)).map bv) rfl (by repeat (first | exact Gt.here | apply Gt.there (by rfl) | exact Gt.base (by rfl))) sz5 (by rfl) up_ (by rw [show 0 + (8 + i2) * 1 = 8 + i2 by omega, ← headP_set hi8]; exact bv_set _ _ _) (by rw [List.length_map, headP_len _ _ (by omega)]; omega)) rfl ?_
      refine s_nil ?_
      refine q_bn ?_
      refine q_then ?_
      refine c_reg ?_
      refine s_y ad_ rfl rfl ?_
      refine s_y (Y_mv) rfl rfl ?_
      refine s_nil ?_
      refine hK (q2 - 1) (i2 + 1) _ _ (by omega) (by omega) ⟨rfl, trivial⟩ rfl (fun w h => h)
    · skip
      try simp only [Bool.and_eq_true, Bool.or_eq_true, Bool.and_eq_false_iff, Bool.or_eq_false_iff, Bool.not_eq_true', Bool.not_eq_false', Bool.not_eq_eq_eq_not, Bool.not_true, Bool.not_false, decide_eq_true_eq, decide_eq_false_iff_not, Decidable.not_not] at hc21
      refine c_exit ?_
      repeat with_reducible refine q_te ?_
      refine q_exit ?_
      refine q_then ?_
      refine c_seq ?_
      obtain rfl : i2 = 8 := by omega
      rw [headP_eight]
      refine c_reg ?_
      refine s_y (Y_mv) rfl rfl ?_
      refine s_y (Y_mv) rfl rfl ?_
      refine s_y (Y_mv) rfl rfl ?_
      refine s_cG (Φ := fun w v w1 => v = iv (if lft l 15 = 0 then 11 else 0) ∧ (lft l 15 = 0 → DkS w1 b m n (wr + (15 : Nat)) 0 true (partM g (freeA g) xs 15)) ∧ (lft l 15 ≠ 0 → DkS w1 b m n (wr + (15 : Nat) + 1) (if 0 < lft l 15 then lft l 15 - 1 else lft l 15) false (gset (partM g (freeA g) xs 15) (freeA g) (headS (nextN g)))) ∧ Ex [b, m] w w1) (En_call (fun _ => rfl) Tryz.func71 rfl (by kernel_rfl) rfl) (fun w hH => ?_) rfl rfl (fun w v W3 hH3 hΦ => ?_)
      · have hbk := hH.bk (cB b58 64 (headS (nextN g))) (by repeat (first | exact List.Mem.head _ | assumption | apply List.Mem.tail | apply List.mem_append_right))
        have hlb := D2.lt
        exact write_any (D2.ex hH.ex (by simp) (by simp)) (by omega) (hbk.1.sl (by rw [List.length_map, headS_len]) (Nat.le_refl _)) (by unfold lft; split <;> omega) (by unfold lft; split <;> omega) (by omega) (by omega) (by have := hbk.2; simp at this; omega)
      obtain ⟨rfl, hz, hnz, hX3⟩ := hΦ
      have hX4 : Ex [b, m] W2 W3 := (hH3.ex.mono (by simp)).trans hX3
      refine s_y (Y_as) rfl rfl ?_
      refine s_nil ?_
      refine q_then ?_
      refine c_ret ?_
      have hP : ∀ w, Has W3 [] [] w → SaveP b m n wr l g xs (iv (if lft l 15 = 0 then 11 else 0)) w := fun w hH => by
        by_cases h0 : lft l 15 = 0
        · rw [if_pos h0]
          exact .inr ⟨15, by omega, by unfold lft at h0; split at h0 <;> omega, rfl, (hz h0).ex hH.ex (by simp) (by simp)⟩
        · rw [if_neg h0]
          refine .inl ⟨rfl, by unfold lft at h0; split at h0 <;> omega, ?_⟩
          rw [show wr + 16 = wr + (15 : Nat) + 1 by omega, show lft l 16 = lft l (15 + 1) from rfl, lft_succ h0 hli]
          exact (hnz h0).ex hH.ex (by simp) (by simp)
      refine q_retE1 rfl (by repeat (first | exact Gt.here | apply Gt.there (by rfl) | exact Gt.base (by rfl))) (fun w hH => ⟨hP w hH, (hX2.trans hX4).trans (hH.ex.mono (by simp))⟩)
end
end Go.Proofs.YtcogbkkdccohfaaGreat
namespace Go.Ad
open Go.RowKit Go.Maps Go.Proofs.YtcogbkkdccohfaaGreat
theorem part_get (g : Nat → List UInt8) (a : Nat) (xs : List UInt8) (i : Nat) : ∀ t, partM g a xs t i = if a + 1 ≤ i ∧ i < a + 1 + t then chunkM xs (i - (a + 1)) else g i
  | 0 => by rw [if_neg (by omega)]; rfl
  | t + 1 => by
    rw [partM, gset]
    by_cases h : i = a + 1 + t
    · subst h
      rw [if_pos rfl, if_pos (by omega)]
      congr 1
      omega
    · rw [if_neg h, part_get g a xs i t]
      by_cases h2 : a + 1 ≤ i ∧ i < a + 1 + t
      · rw [if_pos h2, if_pos (by omega)]
      · rw [if_neg h2, if_neg (by omega)]
def savedM (g : Nat → List UInt8) (xs : List UInt8) : Nat → List UInt8 := gset (partM g (freeA g) xs 15) (freeA g) (headS (nextN g))
theorem head_num {v : Nat} (h : v < 18446744073709551616) : headN (headS v) = v := by
  unfold headN
  have h1 : (headS v).take 8 = wordB := rfl
  rw [if_pos h1]
  have h2 : ((headS v).drop 8).take 8 = beM v 8 := by
    unfold headS
    rw [List.append_assoc, List.drop_left' (by rfl), List.take_left' (beM_len _ _)]
  rw [h2]
  have := numM_be (n := 8) (v := (v : Int)) (by omega)
  omega
theorem chunks_take (xs : List UInt8) : ∀ i, 64 * i ≤ xs.length → (List.range i).flatMap (chunkM xs) = xs.take (64 * i)
  | 0, _ => rfl
  | i + 1, h => by
    rw [List.range_succ, List.flatMap_append, chunks_take xs i (by omega)]
    have hl : ((xs.drop (64 * i)).take 64).length = 64 := by rw [List.length_take, List.length_drop]; omega
    have hc : chunkM xs i = (xs.drop (64 * i)).take 64 := by unfold chunkM; rw [hl]; simp
    rw [List.flatMap_cons, List.flatMap_nil, List.append_nil, hc, show 64 * (i + 1) = 64 * i + 64 by omega, List.take_add]
theorem chunks_all {xs : List UInt8} (h : xs.length = 919) : ((List.range 15).flatMap (chunkM xs)).take 919 = xs := by
  rw [show (15 : Nat) = 14 + 1 from rfl, List.range_succ, List.flatMap_append, chunks_take xs 14 (by omega), List.flatMap_cons, List.flatMap_nil, List.append_nil]
  unfold chunkM
  rw [show (xs.drop (64 * 14)).take 64 = xs.drop (64 * 14) from List.take_of_length_le (by rw [List.length_drop]; omega), ← List.append_assoc, List.take_append_drop, List.take_left' h]
theorem place_saved {g : Nat → List UInt8} {xs : List UInt8} {k : Nat} (h : xs.length = 919) (hk : freeA g = k * 20) : placeB (savedM g xs) k = xs := by
  unfold placeB placeN
  have : (fun j => savedM g xs (k * 20 + 1 + j)) = fun j => if j < 15 then chunkM xs j else g (k * 20 + 1 + j) := by
    funext j
    unfold savedM gset
    rw [if_neg (by omega), part_get]
    by_cases hj : j < 15
    · rw [if_pos (by omega), if_pos hj]
      congr 1
      omega
    · rw [if_neg (by omega), if_neg hj]
  rw [this]
  have h2 : (List.range 15).flatMap (fun j => if j < 15 then chunkM xs j else g (k * 20 + 1 + j)) = (List.range 15).flatMap (chunkM xs) := by
    rw [List.flatMap_def, List.flatMap_def]
    congr 1
  rw [h2, chunks_all h]
theorem count_saved {g : Nat → List UInt8} {xs : List UInt8} (hN : nextN g ≤ 1000000) : ∃ k : Nat, k ≤ 1 ∧ freeA g = k * 20 ∧ countM (headN (savedM g xs 0)) (headN (savedM g xs 20)) = k ∧ nextN (savedM g xs) = nextN g + 1 := by
  have hh := head_num (v := nextN g) (by omega)
  have h0 : savedM g xs 0 = if freeA g = 0 then headS (nextN g) else g 0 := by
    unfold savedM gset
    by_cases h : freeA g = 0
    · rw [if_pos h, if_pos h.symm]
    · rw [if_neg h, if_neg (Ne.symm h), part_get, if_neg (by omega)]
  have hf : freeA g = 0 ∨ freeA g = 20 := by unfold freeA; split <;> simp
  have h20 : savedM g xs 20 = if freeA g = 20 then headS (nextN g) else g 20 := by
    unfold savedM gset
    by_cases h : freeA g = 20
    · rw [if_pos h, if_pos h.symm]
    · rw [if_neg h, if_neg (Ne.symm h), part_get, if_neg (by omega)]
  rcases hf with hf | hf
  · rw [if_pos hf] at h0
    rw [if_neg (by omega)] at h20
    have hn : nextN (savedM g xs) = nextN g + 1 := by
      show max (headN (savedM g xs 0)) (headN (savedM g xs 20)) + 1 = _
      rw [h0, h20, hh]; unfold nextN; omega
    refine ⟨0, by omega, by omega, ?_, hn⟩
    rw [h0, h20, hh]
    unfold countM nextN
    rw [if_neg (by omega), if_pos (by omega)]
    rfl
  · rw [if_neg (by omega)] at h0
    rw [if_pos hf] at h20
    have hn : nextN (savedM g xs) = nextN g + 1 := by
      show max (headN (savedM g xs 0)) (headN (savedM g xs 20)) + 1 = _
      rw [h0, h20, hh]; unfold nextN; omega
    refine ⟨1, by omega, by omega, ?_, hn⟩
    rw [h0, h20, hh]
    unfold countM nextN
    rw [if_pos (by omega)]
    rfl
theorem dec_camp {d : Wd} {mm : Nat} (hck : checkM d = 0) (hmm : mm < 16) (hsd : -9223372036854775808 ≤ d.seed ∧ d.seed ≤ 9223372036854775807) : sDecE (seatB mm :: encW d) = 0 ∧ sDecD (seatB mm :: encW d) = d ∧ sDecM (seatB mm :: encW d) = mm := by
  have hb : byteAt (seatB mm :: encW d) 0 = mm := by
    have h1 : (seatB mm :: encW d)[0]? = some (seatB mm) := rfl
    have h2 := byteAt_of h1
    have h3 := bv_seat mm hmm
    unfold bv at h3
    injection h3 with _ h3
  have hE : sDecE (seatB mm :: encW d) = 0 := by
    unfold sDecE
    rw [if_neg (by simp), if_neg (by omega)]
    show decE (encW d) = 0
    unfold decE
    rw [if_neg (by rw [enc_len hck]; omega), if_neg (by rw [enc_len hck]; omega), dec_enc hck hsd]
    exact hck
  refine ⟨hE, ?_, ?_⟩
  · unfold sDecD
    rw [if_pos hE]
    exact dec_enc hck hsd
  · unfold sDecM
    rw [if_pos hE, hb]
    rfl
end Go.Ad
namespace Go.Proofs.YtcogbkkdccohfaaGreat
open Go.RowKit Go.Ad Go.Maps
set_option linter.unusedVariables false
set_option linter.unusedSimpArgs false
theorem seat_eq : ∀ m : Nat, m < 16 → ∀ w, (binOp .eql 56 (.agg (seatC m).toArray) (.agg (seatC m).toArray)).run Tryz.prog w = .ok (.bool true) w := by
  intro m hm w
  rcases m with _ | _ | _ | _ | _ | _ | _ | _ | _ | _ | _ | _ | _ | _ | _ | _ | m
  all_goals first | omega | kernel_rfl
theorem l14within_d {W : World} {a n : Int} (hn : 1 ≤ n ∧ n ≤ 1000000000000) : Does Tryz.prog 36 [iv a, iv n] W [] (fun v L => v = iv (a % n) ∧ L = []) := by
  have hc := tmod_cases a (n := n) (by omega)
  have h2 := Int.emod_lt_of_pos a (show 0 < n by omega)
  have h1 := Int.emod_nonneg a (show n ≠ 0 by omega)
  refine enter Tryz.func36 rfl rfl rfl (Has.start _) ?_
  refine c_seq ?_
  refine c_reg ?_
  refine s_y (Y_asC) rfl rfl ?_
  refine s_nil ?_
  refine q_then ?_
  refine c_seq ?_
  refine c_reg ?_
  refine s_y (Y_mv) rfl rfl ?_
  refine s_y (Y_mv) rfl rfl ?_
  refine s_y (Y_remw rfl rfl (by omega)) rfl rfl ?_
  refine s_y (Y_as) rfl rfl ?_
  refine s_nil ?_
  refine q_then ?_
  refine c_seq ?_
  refine c_seq ?_
  refine c_reg ?_
  refine s_y (Y_mv) rfl rfl ?_
  refine s_y (Y_lss rfl rfl) rfl rfl ?_
  refine s_nil ?_
  refine q_then ?_
  first | refine c_cond' rfl (fun hc2 => ?_) (fun hc2 => ?_) | refine c_cond rfl (fun hc2 => ?_) (fun hc2 => ?_)
  · skip
    try simp only [Bool.and_eq_true, Bool.or_eq_true, Bool.and_eq_false_iff, Bool.or_eq_false_iff, Bool.not_eq_true', Bool.not_eq_false', Bool.not_eq_eq_eq_not, Bool.not_true, Bool.not_false, decide_eq_true_eq, decide_eq_false_iff_not, Decidable.not_not] at hc2
    refine c_reg ?_
    refine s_y (Y_mv) rfl rfl ?_
    refine s_y (Y_mv) rfl rfl ?_
    refine s_y ((Y_add rfl rfl (by omega)).num (show _ = a % n by omega)) rfl rfl ?_
    refine s_y (Y_as) rfl rfl ?_
    refine s_nil ?_
    refine q_then ?_
    refine c_seq ?_
    refine c_reg ?_
    refine s_y (Y_mv) rfl rfl ?_
    refine s_y (Y_as) rfl rfl ?_
    refine s_nil ?_
    refine q_then ?_
    refine c_ret ?_
    refine q_retG1 rfl (by repeat (first | exact Gt.here | apply Gt.there (by rfl) | exact Gt.base (by rfl))) (L' := _) (by repeat (first | exact List.Sublist.refl _ | exact List.nil_sublist _ | apply List.Sublist.cons_cons | apply List.Sublist.cons)) (⟨rfl, rfl⟩)
  · skip
    try simp only [Bool.and_eq_true, Bool.or_eq_true, Bool.and_eq_false_iff, Bool.or_eq_false_iff, Bool.not_eq_true', Bool.not_eq_false', Bool.not_eq_eq_eq_not, Bool.not_true, Bool.not_false, decide_eq_true_eq, decide_eq_false_iff_not, Decidable.not_not] at hc2
    refine c_skip ?_
    refine q_then ?_
    refine c_seq ?_
    refine c_reg ?_
    refine s_y (Y_mv) rfl rfl ?_
    refine s_y (Y_as) rfl rfl ?_
    refine s_nil ?_
    refine q_then ?_
    refine c_ret ?_
    refine q_retG1 rfl (by repeat (first | exact Gt.here | apply Gt.there (by rfl) | exact Gt.base (by rfl))) (L' := _) (by repeat (first | exact List.Sublist.refl _ | exact List.nil_sublist _ | apply List.Sublist.cons_cons | apply List.Sublist.cons)) (⟨by congr 1; omega, rfl⟩)
theorem Y_eqA {P : Program} {W : World} {M : List Nat} {L : List Bk} {ρ : Operand → Value} {x y : Operand} {t t' ty : TypeId} {p q : Array Value} {v : Value} (hx : ρ x = .agg p) (hy : ρ y = .agg q) (hg : P.eqGuardType P.depth t = false) (h : ∀ w, (binOp .eql t (.agg p) (.agg q)).run P w = .ok v w) : Y P W M L ρ (.binOp .eql t x y t') ty v :=
  bin2_run (fun w => run_eqGuard_agg w .eql t x y _ _ hg) h hx hy
theorem dptr_nil (b : Nat) : ∀ w, (binOp .eql 65 (ptr b) (.pointer none)).run Tryz.prog w = .ok (.bool false) w := by intro w; kernel_rfl
theorem guardSeat : Tryz.prog.eqGuardType Tryz.prog.depth 56 = false := by kernel_rfl
def zg : Nat → List UInt8 := fun _ => List.replicate 64 0
theorem new_G {W : World} {n : Int} (h : 1 ≤ n) (h2 : n ≤ 1024) : Calls Tryz.prog 37 [iv n].toArray W fun e w' => ∃ v, e = .returned v ∧ ∃ b m, v = .tuple #[ptr b, iv 0] ∧ DkS w' b m n 0 (-1) false zg ∧ Ex [] W w' ∧ W.heap.size ≤ b ∧ W.heap.size ≤ m :=
  Calls.mono (DiskNew_ok h h2 W) fun e w' ⟨he, hD, hX⟩ => ⟨_, he, _, _, rfl, ⟨h2, _, hD, fun i hi => ⟨by unfold zg; simp, rfl⟩⟩, hX, by omega, Nat.le_refl _⟩
theorem seat_sub {d : Wd} {c e i : Value} {m j : Nat} {v : Value} (h : (seatC m)[j]? = some v) : (wcV d c e i ++ seatC m)[0 + 11 + j]? = some v := by
  rw [List.getElem?_append_right (by show 11 ≤ _; omega), show 0 + 11 + j - (wcV d c e i).length = j by show 0 + 11 + j - 11 = j; omega]; exact h
theorem world_sub {d : Wd} {c e i : Value} {m j : Nat} {v : Value} (h : (wcV d c e i)[j]? = some v) : (wcV d c e i ++ seatC m)[0 + 0 + j]? = some v := by
  rw [show 0 + 0 + j = j by omega, List.getElem?_append_left (List.getElem?_eq_some_iff.1 h).1]; exact h
theorem ro_sub {w : World} {b o k : Nat} {cs vs : List Value} (h : Ro w b o cs) (hs : ∀ i v, vs[i]? = some v → cs[0 + k + i]? = some v) : Ro w b (o + k) vs := fun j v hj => by
  rw [Nat.add_assoc]
  have h2 := h (k + j) v (by have := hs j v hj; rwa [show 0 + k + j = k + j by omega] at this)
  exact h2
theorem wl_v {w : World} {d : Wd} {s : Ws} (k : WL w d s) : WAtV w d (.slice (some ⟨s.cb, s.co, none⟩) 384 s.cc) (.slice (some ⟨s.eb, s.eo, none⟩) 32 s.ec) (.slice (some ⟨s.ib, s.io, none⟩) 40 s.ic) := by
  obtain ⟨h1, h2, h3⟩ := k.sz
  exact ⟨by rw [h1]; exact .some k.c, by rw [h2]; exact .some k.e, by rw [h3]; exact .some k.i⟩
theorem own_far {p : Wd × Ws} {B : List Bk} (h : Own p B) {n : Nat} (hB : ∀ x ∈ B, n ≤ x.b) : n ≤ p.2.cb ∧ n ≤ p.2.eb ∧ n ≤ p.2.ib := by
  obtain ⟨cb, cc, eb, ec, ib, ic, h1, h2, h3, h4, _⟩ := h
  rw [h1]
  exact ⟨hB _ h2, hB _ h3, hB _ h4⟩
theorem wl_exs {w w' : World} {d : Wd} {s : Ws} {l : List Nat} (h : WL w d s) (hx : Ex l w w') (h1 : s.cb ∉ l) (h2 : s.eb ∉ l) (h3 : s.ib ∉ l) : WL w' d s := ⟨h.c.exs hx h1, h.e.exs hx h2, h.i.exs hx h3⟩
section
variable {W : World}
set_option maxRecDepth 100000 in
set_option maxHeartbeats 1600000 in
theorem known14_d : Does Tryz.prog 31 [] W [] (fun v L => v = .bool true ∧ L = []) := by
  have hz0 : countM (headN (zg 0)) (headN (zg 20)) = -1 := by decide
  have hN0 : nextN zg ≤ 1000000 := by decide
  refine enter Tryz.func31 rfl rfl rfl (Has.start _) ?_
  refine c_seq ?_
  refine c_reg ?_
  refine s_y (Y_asC) rfl rfl ?_
  refine s_nil ?_
  refine q_then ?_
  refine c_seq ?_
  refine c_reg ?_
  refine s_cG (Φ := fun w v w' => ∃ b m, v = .tuple #[ptr b, iv 0] ∧ DkS w' b m 40 0 (-1) false zg ∧ Ex [] w w' ∧ w.heap.size ≤ b ∧ w.heap.size ≤ m) (En_call (fun _ => rfl) Tryz.func37 rfl (by kernel_rfl) rfl) (fun w hH => new_G (by decide) (by decide)) rfl rfl (fun w v W1 hH1 hΦ => ?_)
  obtain ⟨bd, md, rfl, D1, hx1, hb1, hm1⟩ := hΦ
  have hX1 : Ex [] W W1 := hH1.ex.trans hx1
  have hbW : W.heap.size ≤ bd ∧ W.heap.size ≤ md := ⟨Nat.le_trans hH1.size hb1, Nat.le_trans hH1.size hm1⟩
  have hlt1 := D1.lt
  refine s_y (Y_mv) rfl rfl ?_
  refine s_y (Y_extract rfl rfl) rfl rfl ?_
  refine s_y (Y_extract rfl rfl) rfl rfl ?_
  refine s_y (Y_as) rfl rfl ?_
  refine s_y (Y_as) rfl rfl ?_
  refine s_nil ?_
  refine q_then ?_
  refine c_seq ?_
  refine c_seq ?_
  refine c_reg ?_
  refine s_y (Y_mv) rfl rfl ?_
  refine s_y (bin2_run (fun w => rfl) (dptr_nil bd) rfl rfl) rfl rfl ?_
  refine s_nil ?_
  refine q_then ?_
  refine c_F rfl ((by rfl)) ?_
  refine c_skip ?_
  refine q_then ?_
  refine c_seq ?_
  refine c_reg ?_
  refine s_y (Y_mv) rfl rfl ?_
  refine s_c (En_call (fun _ => rfl) Tryz.func39 rfl (by kernel_rfl) rfl) (fun w hH => load_none (D1.has hH) (by decide) hz0) rfl rfl ?_
  rintro _ _ ⟨rfl, rfl⟩
  refine s_y (Y_mv) rfl rfl ?_
  refine s_y (Y_extract rfl rfl) rfl rfl ?_
  refine s_y (Y_extract rfl rfl) rfl rfl ?_
  refine s_n (N_alloc (z := .agg #[.int .i64 0, .int .i64 0, .int .i64 0, .int .i64 0, .slice none 0 0, .slice none 0 0, .slice none 0 0, .int .i64 0, .int .i64 0, .int .i64 0, .int .i64 0, .bool false, .bool false, .bool false, .bool false]) (cs := [.int .i64 0, .int .i64 0, .int .i64 0, .int .i64 0, .slice none 0 0, .slice none 0 0, .slice none 0 0, .int .i64 0, .int .i64 0, .int .i64 0, .int .i64 0, .bool false, .bool false, .bool false, .bool false]) zv58 rfl) rfl rfl (fun b3 _ => ?_)
  refine s_s (S_storeA (vs := wz ++ seatC 0) rfl rfl sz58 (by rfl) (by rfl) up_ (by rfl)) rfl ?_
  refine s_y (Y_as) rfl rfl ?_
  refine s_nil ?_
  refine q_then ?_
  refine c_seq ?_
  refine c_reg ?_
  refine s_c (En_call (fun _ => rfl) Tryz.func16 rfl (by kernel_rfl) rfl) (fun w hH => lstory_d (ls := []) ⟨[], .nil, by simp⟩) rfl rfl ?_
  rintro _ _ ⟨ps, g0, c0, B, hpl, hT, rfl, hc0, rfl⟩
  obtain ⟨p, hp⟩ := take_lt (show 0 < ps.length by rw [hpl]; decide)
  have hpt := (hT.told p (List.mem_of_getElem? hp)).1
  have hpo := (hT.told p (List.mem_of_getElem? hp)).2
  have hck := hpt.vw.check (by have := hpt.fr; omega)
  refine s_y (Y_ia (n := 0) rfl rfl Tryz.underlying26 sz34 rfl (by decide)) rfl rfl ?_
  refine s_y (Y_loadN (vs := wL p.1 p.2) rfl many34 (by repeat (first | exact List.Mem.head _ | assumption | apply List.Mem.tail | apply List.mem_append_right)) (by rfl) (wcs_at hp)) rfl rfl ?_
  refine s_y (Y_build (cs := cmpC p.1 p.2 0) ((by repeat (first | exact Gp.nil | apply Gp.const | apply Gp.tmp (by repeat (first | exact Gt.here | apply Gt.there (by rfl) | exact Gt.base (by rfl)))))) (bld58 _ _ (by kernel_rfl))) rfl rfl ?_
  refine s_n (N_alloc (z := .agg #[.int .i64 0, .int .i64 0, .int .i64 0, .int .i64 0, .slice none 0 0, .slice none 0 0, .slice none 0 0, .int .i64 0, .int .i64 0, .int .i64 0, .int .i64 0, .bool false, .bool false, .bool false, .bool false]) (cs := [.int .i64 0, .int .i64 0, .int .i64 0, .int .i64 0, .slice none 0 0, .slice none 0 0, .slice none 0 0, .int .i64 0, .int .i64 0, .int .i64 0, .int .i64 0, .bool false, .bool false, .bool false, .bool false]) zv58 rfl) rfl rfl (fun b5 _ => ?_)
  refine s_s (S_storeA (vs := cmpC p.1 p.2 0) rfl rfl sz58 (by rfl) (by rfl) up_ (by rfl)) rfl ?_
  refine s_nil ?_
  refine q_then ?_
  refine c_seq ?_
  refine c_reg ?_
  refine s_y (Y_fa 11 rfl Tryz.underlying58 rfl sz56 rfl) rfl rfl ?_
  refine s_y (Y_iaA (n := 2) rfl rfl Tryz.underlying56 sz4 rfl (by decide)) rfl rfl ?_
  refine s_s (S_stC (cs' := cmpC p.1 p.2 4) rfl sz4 (by rfl) up_ (by rfl) (by show _ < 15; decide)) rfl ?_
  refine s_nil ?_
  refine q_then ?_
  refine c_seq ?_
  refine c_reg ?_
  refine s_y (Y_mv) rfl rfl ?_
  refine s_y (Y_loadAll (cs := cmpC p.1 p.2 4) rfl many58 (by repeat (first | exact List.Mem.head _ | assumption | apply List.Mem.tail | apply List.mem_append_right)) (by rfl)) rfl rfl ?_
  refine s_cG (Φ := fun w v w' => SaveP bd md 40 0 (-1) zg (seatB 4 :: encW p.1) v w' ∧ Ex [bd, md] w w' ∧ Has W1 [] (⟨b5, 58, 15, 1, cmpC p.1 p.2 4⟩ :: B) w) (En_call (fun _ => rfl) Tryz.func38 rfl (by kernel_rfl) rfl) (fun w hH => ?_) rfl rfl (fun w v W3 hH3 hΦ => ?_)
  · exact Calls.mono (save_G (D1.ex hH.ex (by simp) (by simp)) (by decide) (hpo.wl hpt.vw.sz hH (fun x hx => by repeat (first | exact hx | exact List.mem_append_left _ hx | exact List.mem_append_right _ hx | apply List.Mem.tail | apply List.mem_append_right))) hck (by decide) (by decide) (by decide) (by decide) (by decide) hN0) fun e w' ⟨v, h1, h2, h3⟩ => ⟨v, h1, h2, h3, hH.pick2 (xs := [_]) (R' := B) ss_ (List.Sublist.cons _ (List.sublist_append_left B _))⟩
  obtain ⟨hS, hx3, hH2⟩ := hΦ
  obtain ⟨rfl, _, D3⟩ := hS.resolve_right (by rintro ⟨t, _, h, _⟩; omega)
  replace D3 : DkS W3 bd md 40 (0 + 16) (lft (-1) 16) false (savedM zg (seatB 4 :: encW p.1)) := D3
  obtain ⟨k, hk1, hka, hkc, _⟩ := count_saved (g := zg) (xs := seatB 4 :: encW p.1) hN0
  have hpl2 := place_saved (g := zg) (xs := seatB 4 :: encW p.1) (by rw [List.length_cons, enc_len hck]) hka
  obtain ⟨hdE, hdD, hdM⟩ := dec_camp (mm := 4) hck (by decide) (by rw [hpt.sd]; decide)
  have hfar : ∀ x ∈ B, W1.heap.size ≤ x.b := fun x hx => by have := (hH2.bk x (List.Mem.tail _ hx)).2; simpa using this
  have hpf := own_far hpo hfar
  have hb5 := hH2.bk _ (List.Mem.head _)
  have hb5f : W1.heap.size ≤ b5 := by simpa using hb5.2
  have hr5 : Ro W3 b5 0 (cmpC p.1 p.2 4) := ro_exs hb5.1.ro hx3 hb5.1.lt (by simp; omega)
  have hwl3 : WL W3 p.1 p.2 := wl_exs (hpo.wl hpt.vw.sz hH2 (fun x hx => List.Mem.tail _ hx)) hx3 (by simp; omega) (by simp; omega) (by simp; omega)
  refine s_y (Y_as) rfl rfl ?_
  refine s_nil ?_
  refine q_then ?_
  refine c_seq ?_
  refine c_reg ?_
  refine s_y (Y_mv) rfl rfl ?_
  refine s_c (En_call (fun _ => rfl) Tryz.func39 rfl (by kernel_rfl) rfl) (fun w hH => load_d (D3.has hH) (by decide) hkc hk1) rfl rfl ?_
  rintro _ _ hL
  rename_i lS
  rw [hpl2] at hL
  obtain ⟨c1, e1, i1, rfl, ho1, hr1⟩ := hL
  rw [hdE, hdM]
  rw [hdD] at ho1 hr1 ⊢
  refine QL.perm List.perm_append_comm ?_
  refine s_y (Y_mv) rfl rfl ?_
  refine s_y (Y_extract rfl rfl) rfl rfl ?_
  refine s_y (Y_extract rfl rfl) rfl rfl ?_
  refine s_n (N_alloc (z := .agg #[.int .i64 0, .int .i64 0, .int .i64 0, .int .i64 0, .slice none 0 0, .slice none 0 0, .slice none 0 0, .int .i64 0, .int .i64 0, .int .i64 0, .int .i64 0, .bool false, .bool false, .bool false, .bool false]) (cs := [.int .i64 0, .int .i64 0, .int .i64 0, .int .i64 0, .slice none 0 0, .slice none 0 0, .slice none 0 0, .int .i64 0, .int .i64 0, .int .i64 0, .int .i64 0, .bool false, .bool false, .bool false, .bool false]) zv58 rfl) rfl rfl (fun b7 _ => ?_)
  refine s_s (S_storeA (vs := wcV p.1 c1 e1 i1 ++ seatC 4) rfl rfl sz58 (by rfl) (by rw [List.all_append, ho1]; rfl) up_ (by rfl)) rfl ?_
  refine s_y (Y_as) rfl rfl ?_
  refine s_nil ?_
  refine q_then ?_
  refine c_seq ?_
  refine c_reg ?_
  refine s_y (Y_mv) rfl rfl ?_
  refine s_y (Y_eql rfl rfl) rfl rfl ?_
  refine s_y (Y_mv) rfl rfl ?_
  apply s_and 3 [36, 37, 38, 39] 39 (g := 36) rfl rfl
  · intro ht3 hm
    try simp only [Bool.and_eq_true, Bool.or_eq_true, Bool.and_eq_false_iff, Bool.or_eq_false_iff, Bool.not_eq_true', Bool.not_eq_false', Bool.not_eq_eq_eq_not, Bool.not_true, Bool.not_false, decide_eq_true_eq, decide_eq_false_iff_not, Decidable.not_not] at ht3
    first | refine s_y (Y_mv) rfl rfl ?_ | refine s_pass rfl rfl ?_
    first | refine s_y (Y_eql rfl rfl) rfl rfl ?_ | refine s_pass rfl rfl ?_
    refine s_y (Y_pk rfl (Gx.tmp (by repeat (first | exact Gt.here | apply Gt.there (by rfl) | exact Gt.base (by rfl)))) Gx.const) rfl rfl ?_
    first | exact hm _ ⟨rfl, trivial⟩ rfl | exact QL.sub (by repeat (first | exact List.Sublist.refl _ | exact List.nil_sublist _ | apply List.Sublist.cons_cons | apply List.Sublist.cons)) (hm _ ⟨rfl, trivial⟩ rfl)
  · intro ht3 hm
    iterate 2 refine s_pass rfl rfl ?_
    refine s_y (Y_pk rfl (Gx.tmp (by repeat (first | exact Gt.here | apply Gt.there (by rfl) | exact Gt.base (by rfl)))) Gx.const) rfl rfl ?_
    exact hm _ ⟨rfl, trivial⟩ rfl
  intro j39
  refine s_y (Y_mv) rfl rfl ?_
  apply s_and 3 [40, 41, 42, 43] 43 (g := 40) rfl rfl
  · intro ht7 hm
    try simp only [Bool.and_eq_true, Bool.or_eq_true, Bool.and_eq_false_iff, Bool.or_eq_false_iff, Bool.not_eq_true', Bool.not_eq_false', Bool.not_eq_eq_eq_not, Bool.not_true, Bool.not_false, decide_eq_true_eq, decide_eq_false_iff_not, Decidable.not_not] at ht7
    first | refine s_y (Y_mv) rfl rfl ?_ | refine s_pass rfl rfl ?_
    first | refine s_y (Y_eql rfl rfl) rfl rfl ?_ | refine s_pass rfl rfl ?_
    refine s_y (Y_pk rfl (Gx.tmp (by repeat (first | exact Gt.here | apply Gt.there (by rfl) | exact Gt.base (by rfl)))) Gx.const) rfl rfl ?_
    first | exact hm _ ⟨rfl, trivial⟩ rfl | exact QL.sub (by repeat (first | exact List.Sublist.refl _ | exact List.nil_sublist _ | apply List.Sublist.cons_cons | apply List.Sublist.cons)) (hm _ ⟨rfl, trivial⟩ rfl)
  · intro ht7 hm
    iterate 2 refine s_pass rfl rfl ?_
    refine s_y (Y_pk rfl (Gx.tmp (by repeat (first | exact Gt.here | apply Gt.there (by rfl) | exact Gt.base (by rfl)))) Gx.const) rfl rfl ?_
    exact hm _ ⟨rfl, trivial⟩ rfl
  intro j43
  refine s_y (Y_mv) rfl rfl ?_
  apply s_and 6 [44, 45, 46, 47, 48, 49, 50] 50 (g := 44) rfl rfl
  · intro ht11 hm
    try simp only [Bool.and_eq_true, Bool.or_eq_true, Bool.and_eq_false_iff, Bool.or_eq_false_iff, Bool.not_eq_true', Bool.not_eq_false', Bool.not_eq_eq_eq_not, Bool.not_true, Bool.not_false, decide_eq_true_eq, decide_eq_false_iff_not, Decidable.not_not] at ht11
    first | refine s_y (Y_fa 11 rfl Tryz.underlying58 rfl sz56 rfl) rfl rfl ?_ | refine s_pass rfl rfl ?_
    first | refine s_y (Y_loadN (vs := seatC 4) rfl many56 (by repeat (first | exact List.Mem.head _ | assumption | apply List.Mem.tail | apply List.mem_append_right)) (by rfl) (by intro i v h; exact seat_sub h)) rfl rfl ?_ | refine s_pass rfl rfl ?_
    first | refine s_y (Y_fa 11 rfl Tryz.underlying58 rfl sz56 rfl) rfl rfl ?_ | refine s_pass rfl rfl ?_
    first | refine s_y (Y_loadNR (vs := seatC 4) rfl many56 (ro_sub hr5 (fun i v h => cmp_seats i v h)) (by rfl)) rfl rfl ?_ | refine s_pass rfl rfl ?_
    first | refine s_y (Y_eqA rfl rfl guardSeat (seat_eq 4 (by decide))) rfl rfl ?_ | refine s_pass rfl rfl ?_
    refine s_y (Y_pk rfl (Gx.tmp (by repeat (first | exact Gt.here | apply Gt.there (by rfl) | exact Gt.base (by rfl)))) Gx.const) rfl rfl ?_
    first | exact hm _ ⟨rfl, trivial⟩ rfl | exact QL.sub (by repeat (first | exact List.Sublist.refl _ | exact List.nil_sublist _ | apply List.Sublist.cons_cons | apply List.Sublist.cons)) (hm _ ⟨rfl, trivial⟩ rfl)
  · intro ht11 hm
    iterate 5 refine s_pass rfl rfl ?_
    refine s_y (Y_pk rfl (Gx.tmp (by repeat (first | exact Gt.here | apply Gt.there (by rfl) | exact Gt.base (by rfl)))) Gx.const) rfl rfl ?_
    exact hm _ ⟨rfl, trivial⟩ rfl
  intro j50
  refine s_y (Y_mv) rfl rfl ?_
  apply s_and 6 [51, 52, 53, 54, 55, 56, 57] 57 (g := 51) rfl rfl
  · intro ht18 hm
    try simp only [Bool.and_eq_true, Bool.or_eq_true, Bool.and_eq_false_iff, Bool.or_eq_false_iff, Bool.not_eq_true', Bool.not_eq_false', Bool.not_eq_eq_eq_not, Bool.not_true, Bool.not_false, decide_eq_true_eq, decide_eq_false_iff_not, Decidable.not_not] at ht18
    first | refine s_y (Y_fa 0 rfl Tryz.underlying58 rfl sz34 rfl) rfl rfl ?_ | refine s_pass rfl rfl ?_
    first | refine s_y (Y_loadN (vs := wcV p.1 c1 e1 i1) rfl many34 (by repeat (first | exact List.Mem.head _ | assumption | apply List.Mem.tail | apply List.mem_append_right)) (by rfl) (by intro i v h; exact world_sub h)) rfl rfl ?_ | refine s_pass rfl rfl ?_
    first | refine s_y (Y_fa 0 rfl Tryz.underlying58 rfl sz34 rfl) rfl rfl ?_ | refine s_pass rfl rfl ?_
    first | refine s_y (Y_loadNR (vs := wL p.1 p.2) rfl many34 (ro_sub hr5 (fun i v h => cmp_world i v h)) (by rfl)) rfl rfl ?_ | refine s_pass rfl rfl ?_
    refine s_c (En_call (fun _ => rfl) Tryz.func21 rfl (by kernel_rfl) rfl) (fun w hH => lsame_d (hr1 hH (fun x hx => by repeat (first | exact hx | exact List.mem_append_left _ hx | exact List.mem_append_right _ hx | apply List.Mem.tail | apply List.mem_append_right))) ((wl_v (hwl3.has (hH.sub (List.nil_sublist _)))))) rfl rfl ?_
    rintro _ _ ⟨⟨q, rfl, hq⟩, rfl⟩
    obtain rfl : q = true := hq.2 rfl
    refine s_y (Y_pk rfl (Gx.tmp (by repeat (first | exact Gt.here | apply Gt.there (by rfl) | exact Gt.base (by rfl)))) Gx.const) rfl rfl ?_
    first | exact hm _ ⟨rfl, trivial⟩ rfl | exact QL.sub (by repeat (first | exact List.Sublist.refl _ | exact List.nil_sublist _ | apply List.Sublist.cons_cons | apply List.Sublist.cons)) (hm _ ⟨rfl, trivial⟩ rfl)
  · intro ht18 hm
    iterate 5 refine s_pass rfl rfl ?_
    refine s_y (Y_pk rfl (Gx.tmp (by repeat (first | exact Gt.here | apply Gt.there (by rfl) | exact Gt.base (by rfl)))) Gx.const) rfl rfl ?_
    exact hm _ ⟨rfl, trivial⟩ rfl
  intro j57
  refine s_y (Y_as) rfl rfl ?_
  refine s_nil ?_
  refine q_then ?_
  refine c_ret ?_
  refine q_ret1W (.bool true) (fun w hx => ((hX1.trans hH3.ex).own hx3 (by simp; omega)).trans hx) rfl rfl ⟨rfl, rfl⟩
end
end Go.Proofs.YtcogbkkdccohfaaGreat
namespace Go.Ad
open Go.RowKit Go.Maps Go.Proofs.YtcogbkkdccohfaaGreat
def seatsOf (n : Int) : Nat := ((n / 2) % 16).toNat
theorem and_one (x : Int) : ((BitVec.ofInt 64 x &&& BitVec.ofInt 64 1).toNat : Int) = x % 2 := by
  rw [BitVec.toNat_and, show (BitVec.ofInt 64 1).toNat = 1 from rfl, Nat.and_one_is_mod, BitVec.toNat_ofInt]
  omega
theorem bit_camp {n : Int} {s : Nat} (h : s < 4) : decide (IntKind.i64.wrap ((BitVec.ofInt 64 (n.fdiv (2 ^ min ((s : Int) + 1).toNat 64)) &&& BitVec.ofInt 64 1).toNat : Int) = 1) = (seatsOf n).testBit s := by
  rw [and_one, i64_id (by omega), Nat.testBit_eq_decide_div_mod_eq, decide_eq_decide]
  unfold seatsOf
  rcases s with _ | _ | _ | _ | s
  · rw [show (2 : Int) ^ min (((0 : Nat) : Int) + 1).toNat 64 = 2 from rfl, Int.fdiv_eq_ediv_of_nonneg _ (by omega)]; simp only [Nat.pow_zero]; omega
  · rw [show (2 : Int) ^ min (((0 + 1 : Nat) : Int) + 1).toNat 64 = 4 from rfl, Int.fdiv_eq_ediv_of_nonneg _ (by omega), show 2 ^ (0 + 1) = 2 from rfl]; omega
  · rw [show (2 : Int) ^ min (((0 + 1 + 1 : Nat) : Int) + 1).toNat 64 = 8 from rfl, Int.fdiv_eq_ediv_of_nonneg _ (by omega), show 2 ^ (0 + 1 + 1) = 4 from rfl]; omega
  · rw [show (2 : Int) ^ min (((0 + 1 + 1 + 1 : Nat) : Int) + 1).toNat 64 = 16 from rfl, Int.fdiv_eq_ediv_of_nonneg _ (by omega), show 2 ^ (0 + 1 + 1 + 1) = 8 from rfl]; omega
  · omega
end Go.Ad
namespace Go.Proofs.YtcogbkkdccohfaaGreat
open Go.RowKit Go.Ad Go.Maps
set_option linter.unusedVariables false
set_option linter.unusedSimpArgs false
section
variable {W : World}
set_option maxRecDepth 100000 in
theorem campaign_d {g0 np c0 kn : Nat} {n : Int} {ps : List (Wd × Ws)} {p : Wd × Ws} (hs : SlB W g0 0 np c0 11 (wcs ps)) (hnp : 1 ≤ np) (hnp2 : np ≤ 100) (hk : n % (np : Int) = kn) (hp : ps[kn]? = some p) (hkn : kn < np) : Does Tryz.prog 32 [.slice (some ⟨g0, 0, none⟩) np c0, iv n] W [] (fun v L => v = .agg (cmpC p.1 p.2 (seatsOf n)).toArray ∧ L = []) := by
  have hr : Ro W g0 (0 + kn * 11) (wL p.1 p.2) := SlB.at' (f := fun p : Wd × Ws => wL p.1 p.2) (fun _ => rfl) hs hp
  refine enter Tryz.func32 rfl rfl rfl (Has.start _) ?_
  refine c_seq ?_
  refine c_reg ?_
  refine s_n (N_alloc (z := .agg #[.int .i64 0, .int .i64 0, .int .i64 0, .int .i64 0, .slice none 0 0, .slice none 0 0, .slice none 0 0, .int .i64 0, .int .i64 0, .int .i64 0, .int .i64 0, .bool false, .bool false, .bool false, .bool false]) (cs := [.int .i64 0, .int .i64 0, .int .i64 0, .int .i64 0, .slice none 0 0, .slice none 0 0, .slice none 0 0, .int .i64 0, .int .i64 0, .int .i64 0, .int .i64 0, .bool false, .bool false, .bool false, .bool false]) zv58 rfl) rfl rfl (fun b4 _ => ?_)
  refine s_nil ?_
  refine q_then ?_
  refine c_seq ?_
  refine c_reg ?_
  refine s_y (Y_mv) rfl rfl ?_
  refine s_y (Y_mv) rfl rfl ?_
  refine s_y (Y_mv) rfl rfl ?_
  refine s_y (Y_len rfl rfl Tryz.underlying26) rfl rfl ?_
  refine s_c (En_call (fun _ => rfl) Tryz.func36 rfl (by kernel_rfl) rfl) (fun w hH => l14within_d (by omega)) rfl rfl ?_
  rintro _ _ ⟨rfl, rfl⟩
  rw [hk]
  refine s_y (Y_ia (n := kn) rfl rfl Tryz.underlying26 sz34 rfl (by omega)) rfl rfl ?_
  refine s_y (Y_loadNR (vs := wL p.1 p.2) rfl many34 hr (by rfl)) rfl rfl ?_
  refine s_y (Y_build (cs := wL p.1 p.2 ++ seatP (seatsOf n) 0) ((by repeat (first | exact Gp.nil | apply Gp.const | apply Gp.tmp (by repeat (first | exact Gt.here | apply Gt.there (by rfl) | exact Gt.base (by rfl)))))) (bld58 _ _ (by kernel_rfl))) rfl rfl ?_
  refine s_n (N_alloc (z := .agg #[.int .i64 0, .int .i64 0, .int .i64 0, .int .i64 0, .slice none 0 0, .slice none 0 0, .slice none 0 0, .int .i64 0, .int .i64 0, .int .i64 0, .int .i64 0, .bool false, .bool false, .bool false, .bool false]) (cs := [.int .i64 0, .int .i64 0, .int .i64 0, .int .i64 0, .slice none 0 0, .slice none 0 0, .slice none 0 0, .int .i64 0, .int .i64 0, .int .i64 0, .int .i64 0, .bool false, .bool false, .bool false, .bool false]) zv58 rfl) rfl rfl (fun b5 _ => ?_)
  refine s_s (S_storeA (vs := wL p.1 p.2 ++ seatP (seatsOf n) 0) rfl rfl sz58 (by rfl) (by rfl) up_ (by rfl)) rfl ?_
  refine s_nil ?_
  refine q_then ?_
  refine c_seq ?_
  refine c_seq ?_
  refine c_reg ?_
  refine s_y (Y_asC) rfl rfl ?_
  refine s_nil ?_
  refine q_then ?_
  refine c_block ?_
  refine c_loop [6, 15, 16, 17, 18, 19, 20, 21, 22, 23, 24, 25, 26, 27] (fun q (s : Nat) => s + q = 4) (fun s => [(6, iv s)]) (fun s => [⟨b5, 58, 15, 1, wL p.1 p.2 ++ seatP (seatsOf n) s⟩, ⟨b4, 58, 15, 1, wz ++ seatC 0⟩]) (4) (0) (rfl) (by repeat (first | exact trivial | refine ⟨rfl, ?_⟩)) (fun _ h => h.sub (by repeat (first | exact List.Sublist.refl _ | exact List.nil_sublist _ | apply List.Sublist.cons_cons | apply List.Sublist.cons))) (fun _ => rfl) ?_
  rintro q s j hs4 K hK
  refine c_seq ?_
  refine c_seq ?_
  refine c_reg ?_
  refine s_y (Y_mv) rfl rfl ?_
  refine s_y (Y_lss rfl rfl) rfl rfl ?_
  refine s_nil ?_
  refine q_then ?_
  first | refine c_cond' rfl (fun hc3 => ?_) (fun hc3 => ?_) | refine c_cond rfl (fun hc3 => ?_) (fun hc3 => ?_)
  · skip
    try simp only [Bool.and_eq_true, Bool.or_eq_true, Bool.and_eq_false_iff, Bool.or_eq_false_iff, Bool.not_eq_true', Bool.not_eq_false', Bool.not_eq_eq_eq_not, Bool.not_true, Bool.not_false, decide_eq_true_eq, decide_eq_false_iff_not, Decidable.not_not] at hc3
    refine c_skip ?_
    refine q_then ?_
    refine c_seq ?_
    refine c_block ?_
    refine c_reg ?_
    refine s_y (Y_mv) rfl rfl ?_
    refine s_y (Y_mv) rfl rfl ?_
    refine s_y (Y_mv) rfl rfl ?_
    refine s_y ad_ rfl rfl ?_
    refine s_y (Y_shr rfl rfl (by omega)) rfl rfl ?_
    refine s_y (Y_bits rfl rfl rfl (by simp)) rfl rfl ?_
    refine s_y (Y_eql rfl rfl) rfl rfl ?_
    refine s_y (Y_fa 11 rfl Tryz.underlying58 rfl sz56 rfl) rfl rfl ?_
    refine s_y (Y_iaA rfl rfl Tryz.underlying56 sz4 rfl (by omega)) rfl rfl ?_
    refine s_s (S_st (cs' := wL p.1 p.2 ++ seatP (seatsOf n) (s + 1)) rfl (by repeat (first | exact Gt.here | apply Gt.there (by rfl) | exact Gt.base (by rfl))) sz4 (by rfl) up_ (Eq.trans (congrArg (fun q : Bool => List.set _ _ (Value.bool q)) (bit_camp (by omega))) (seatP_set rfl (by omega))) (by show _ < 15; omega)) rfl ?_
    refine s_nil ?_
    refine q_bn ?_
    refine q_then ?_
    refine c_reg ?_
    refine s_y (Y_mv) rfl rfl ?_
    refine s_y ad_ rfl rfl ?_
    refine s_y (Y_as) rfl rfl ?_
    refine s_nil ?_
    refine hK (q - 1) (s + 1) _ _ (by omega) (by omega) ⟨rfl, trivial⟩ rfl (fun w h => h)
  · skip
    try simp only [Bool.and_eq_true, Bool.or_eq_true, Bool.and_eq_false_iff, Bool.or_eq_false_iff, Bool.not_eq_true', Bool.not_eq_false', Bool.not_eq_eq_eq_not, Bool.not_true, Bool.not_false, decide_eq_true_eq, decide_eq_false_iff_not, Decidable.not_not] at hc3
    refine c_exit ?_
    repeat with_reducible refine q_te ?_
    refine q_exit ?_
    refine q_then ?_
    refine c_seq ?_
    obtain rfl : s = 4 := by omega
    refine c_reg ?_
    refine s_y (Y_loadAll (cs := wL p.1 p.2 ++ seatP (seatsOf n) 4) rfl many58 (by repeat (first | exact List.Mem.head _ | assumption | apply List.Mem.tail | apply List.mem_append_right)) (by rfl)) rfl rfl ?_
    refine s_s (S_storeA (vs := wL p.1 p.2 ++ seatP (seatsOf n) 4) rfl rfl sz58 (by rfl) (by rfl) up_ (by rfl)) rfl ?_
    refine s_nil ?_
    refine q_then ?_
    refine c_ret ?_
    refine q_ret1c rfl rfl many58 (by repeat (first | exact List.Mem.head _ | assumption | apply List.Mem.tail | apply List.mem_append_right)) (by rfl) (L' := _) (by repeat (first | exact List.Sublist.refl _ | exact List.nil_sublist _ | apply List.Sublist.cons_cons | apply List.Sublist.cons)) (⟨by rw [seatP_four]; rfl, rfl⟩)
set_option maxRecDepth 100000 in
theorem lsame14_d {d : Wd} {c1 e1 i1 c2 e2 i2 : Value} {m : Nat} (hm : m < 16) (h1 : WAtV W d c1 e1 i1) (h2 : WAtV W d c2 e2 i2) : Does Tryz.prog 35 [.agg (wcV d c1 e1 i1 ++ seatC m).toArray, .agg (wcV d c2 e2 i2 ++ seatC m).toArray] W [] (fun v L => v = .bool true ∧ L = []) := by
  refine enter Tryz.func35 rfl rfl rfl (Has.start _) ?_
  refine c_seq ?_
  refine c_reg ?_
  refine s_n (N_box (cs := wcV d c1 e1 i1 ++ seatC m) rfl) rfl rfl (fun b2 _ => ?_)
  refine s_n (N_box (cs := wcV d c2 e2 i2 ++ seatC m) rfl) rfl rfl (fun b3 _ => ?_)
  refine s_y (Y_asC) rfl rfl ?_
  refine s_nil ?_
  refine q_then ?_
  refine c_seq ?_
  refine c_reg ?_
  refine s_y (Y_fa 11 rfl Tryz.underlying58 rfl sz56 rfl) rfl rfl ?_
  refine s_y (Y_loadN (vs := seatC m) rfl many56 (by repeat (first | exact List.Mem.head _ | assumption | apply List.Mem.tail | apply List.mem_append_right)) (by rfl) (by intro i v h; exact seat_sub h)) rfl rfl ?_
  refine s_y (Y_fa 11 rfl Tryz.underlying58 rfl sz56 rfl) rfl rfl ?_
  refine s_y (Y_loadN (vs := seatC m) rfl many56 (by repeat (first | exact List.Mem.head _ | assumption | apply List.Mem.tail | apply List.mem_append_right)) (by rfl) (by intro i v h; exact seat_sub h)) rfl rfl ?_
  refine s_y (Y_eqA rfl rfl guardSeat (seat_eq m hm)) rfl rfl ?_
  refine s_y (Y_mv) rfl rfl ?_
  apply s_and 6 [10, 11, 12, 13, 14, 15, 16] 16 (g := 10) rfl rfl
  · intro ht6 hm
    try simp only [Bool.and_eq_true, Bool.or_eq_true, Bool.and_eq_false_iff, Bool.or_eq_false_iff, Bool.not_eq_true', Bool.not_eq_false', Bool.not_eq_eq_eq_not, Bool.not_true, Bool.not_false, decide_eq_true_eq, decide_eq_false_iff_not, Decidable.not_not] at ht6
    first | refine s_y (Y_fa 0 rfl Tryz.underlying58 rfl sz34 rfl) rfl rfl ?_ | refine s_pass rfl rfl ?_
    first | refine s_y (Y_loadN (vs := wcV d c1 e1 i1) rfl many34 (by repeat (first | exact List.Mem.head _ | assumption | apply List.Mem.tail | apply List.mem_append_right)) (by rfl) (by intro i v h; exact world_sub h)) rfl rfl ?_ | refine s_pass rfl rfl ?_
    first | refine s_y (Y_fa 0 rfl Tryz.underlying58 rfl sz34 rfl) rfl rfl ?_ | refine s_pass rfl rfl ?_
    first | refine s_y (Y_loadN (vs := wcV d c2 e2 i2) rfl many34 (by repeat (first | exact List.Mem.head _ | assumption | apply List.Mem.tail | apply List.mem_append_right)) (by rfl) (by intro i v h; exact world_sub h)) rfl rfl ?_ | refine s_pass rfl rfl ?_
    refine s_c (En_call (fun _ => rfl) Tryz.func21 rfl (by kernel_rfl) rfl) (fun w hH => lsame_d (⟨h1.c.has hH, h1.e.has hH, h1.i.has hH⟩) (⟨h2.c.has hH, h2.e.has hH, h2.i.has hH⟩)) rfl rfl ?_
    rintro _ _ ⟨⟨q, rfl, hq⟩, rfl⟩
    obtain rfl : q = true := hq.2 rfl
    refine s_y (Y_pk rfl (Gx.tmp (by repeat (first | exact Gt.here | apply Gt.there (by rfl) | exact Gt.base (by rfl)))) Gx.const) rfl rfl ?_
    first | exact hm _ ⟨rfl, trivial⟩ rfl | exact QL.sub (by repeat (first | exact List.Sublist.refl _ | exact List.nil_sublist _ | apply List.Sublist.cons_cons | apply List.Sublist.cons)) (hm _ ⟨rfl, trivial⟩ rfl)
  · intro ht6 hm
    iterate 5 refine s_pass rfl rfl ?_
    refine s_y (Y_pk rfl (Gx.tmp (by repeat (first | exact Gt.here | apply Gt.there (by rfl) | exact Gt.base (by rfl)))) Gx.const) rfl rfl ?_
    exact hm _ ⟨rfl, trivial⟩ rfl
  intro j16
  refine s_y (Y_as) rfl rfl ?_
  refine s_nil ?_
  refine q_then ?_
  refine c_ret ?_
  refine q_retG1 rfl (by repeat (first | exact Gt.here | apply Gt.there (by rfl) | exact Gt.base (by rfl))) (L' := _) (by repeat (first | exact List.Sublist.refl _ | exact List.nil_sublist _ | apply List.Sublist.cons_cons | apply List.Sublist.cons)) (⟨rfl, rfl⟩)
end
end Go.Proofs.YtcogbkkdccohfaaGreat
