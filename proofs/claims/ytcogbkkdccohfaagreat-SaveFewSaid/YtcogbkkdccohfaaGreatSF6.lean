/- Texts of this claim, laid together: part 6. -/
import Derived.Test.YtcogbkkdccohfaaGreatSF5
set_option linter.unusedVariables false
set_option linter.unusedSimpArgs false
set_option maxHeartbeats 1600000
namespace Go.Ad
open Go.RowKit Go.Maps Go.Proofs.YtcogbkkdccohfaaGreat
theorem bad_floor {d : Wd} (h : 4 ≤ d.floor) : checkM d = 1 := by
  have h1 : numsOk d = false := by
    unfold numsOk btw
    rw [show decide (1 ≤ d.floor ∧ d.floor ≤ 3) = false from decide_eq_false (by omega)]
    simp
  have h2 : headM d = 1 := by unfold headM; rw [if_pos h1]
  unfold checkM
  rw [h2, if_pos (by decide)]
end Go.Ad
namespace Go.Proofs.YtcogbkkdccohfaaGreat
open Go.RowKit Go.Ad Go.Maps
set_option linter.unusedVariables false
set_option linter.unusedSimpArgs false
section
variable {W : World}
set_option maxRecDepth 100000 in
set_option maxHeartbeats 1600000 in
theorem saveFew_no {sectors seed frame : Int} (hn : 1 + sectors % 60 < 40) : Does Tryz.prog 7 [iv sectors, iv seed, iv frame] W [] (fun v L => v = .bool true ∧ L = []) := by
  refine enter Tryz.func7 rfl rfl rfl (Has.start _) ?_
  refine c_seq ?_
  refine c_reg ?_
  refine s_y (Y_asC) rfl rfl ?_
  refine s_nil ?_
  refine q_then ?_
  refine c_seq ?_
  refine c_seq ?_
  refine c_reg ?_
  refine s_c (En_call (fun _ => rfl) Tryz.func31 rfl (by kernel_rfl) rfl) (fun w hH => known14_d) rfl rfl ?_
  rintro _ _ ⟨rfl, rfl⟩
  refine s_y (Y_not rfl) rfl rfl ?_
  refine s_nil ?_
  refine q_then ?_
  refine c_F rfl ((by rfl)) ?_
  refine c_skip ?_
  refine q_then ?_
  refine c_seq ?_
  refine c_reg ?_
  refine s_y (Y_mv) rfl rfl ?_
  refine s_c (En_call (fun _ => rfl) Tryz.func36 rfl (by kernel_rfl) rfl) (fun w hH => l14within_d (by decide)) rfl rfl ?_
  rintro _ _ ⟨rfl, rfl⟩
  refine s_y (Y_add rfl rfl (by omega)) rfl rfl ?_
  refine s_y (Y_as) rfl rfl ?_
  refine s_nil ?_
  refine q_then ?_
  refine c_seq ?_
  refine c_reg ?_
  refine s_y (Y_mv) rfl rfl ?_
  refine s_cG (Φ := fun w v w' => ∃ b m, v = .tuple #[ptr b, iv 0] ∧ DkS w' b m (1 + sectors % 60) 0 (-1) false zg ∧ Ex [] w w' ∧ w.heap.size ≤ b ∧ w.heap.size ≤ m) (En_call (fun _ => rfl) Tryz.func37 rfl (by kernel_rfl) rfl) (fun w hH => new_G (by omega) (by omega)) rfl rfl (fun w v W1 hH1 hΦ => ?_)
  obtain ⟨bd, md, rfl, D1, hx1, hb1, hm1⟩ := hΦ
  have hX1 : Ex [] W W1 := hH1.ex.trans hx1
  have hlt1 := D1.lt
  refine s_y (Y_mv) rfl rfl ?_
  refine s_y (Y_extract rfl rfl) rfl rfl ?_
  refine s_y (Y_extract rfl rfl) rfl rfl ?_
  refine s_y (Y_as) rfl rfl ?_
  refine s_y (Y_as) rfl rfl ?_
  refine s_nil ?_
  refine q_then ?_
  refine c_seq ?_
  refine c_seq ?_
  refine c_reg ?_
  refine s_y (Y_mv) rfl rfl ?_
  refine s_y (bin2_run (fun w => rfl) (dptr_nil bd) rfl rfl) rfl rfl ?_
  refine s_nil ?_
  refine q_then ?_
  refine c_F rfl ((by rfl)) ?_
  refine c_skip ?_
  refine q_then ?_
  refine c_seq ?_
  refine c_reg ?_
  refine s_y (Y_mv) rfl rfl ?_
  refine s_c (En_call (fun _ => rfl) Tryz.func16 rfl (by kernel_rfl) rfl) (fun w hH => lstory_d (ls := []) ⟨[], .nil, by simp⟩) rfl rfl ?_
  rintro _ _ ⟨ps, g0, c0, B, hpl, hT, rfl, hc0, rfl⟩
  obtain ⟨p, hp⟩ := take_lt (show 0 < ps.length by rw [hpl]; decide)
  have hpt := (hT.told p (List.mem_of_getElem? hp)).1
  have hpo := (hT.told p (List.mem_of_getElem? hp)).2
  have hck := hpt.vw.check (by have := hpt.fr; omega)
  replace hpl : ps.length = 1 := hpl
  refine s_c (En_call (fun _ => rfl) Tryz.func32 rfl (by kernel_rfl) rfl) (fun w hH => campaign_d (p := p) (kn := 0) (np := 1) (n := 2) ((hH.at' (x := ⟨g0, 34, 11, c0, wcs ps⟩) (by repeat (first | exact List.Mem.head _ | assumption | apply List.Mem.tail | apply List.mem_append_right))).sl (by rw [wcs_len, hpl]) (by exact hc0)) (by decide) (by decide) (by decide) hp (by decide)) rfl rfl ?_
  rintro _ _ ⟨rfl, rfl⟩
  refine s_n (N_alloc (z := .agg #[.int .i64 0, .int .i64 0, .int .i64 0, .int .i64 0, .slice none 0 0, .slice none 0 0, .slice none 0 0, .int .i64 0, .int .i64 0, .int .i64 0, .int .i64 0, .bool false, .bool false, .bool false, .bool false]) (cs := [.int .i64 0, .int .i64 0, .int .i64 0, .int .i64 0, .slice none 0 0, .slice none 0 0, .slice none 0 0, .int .i64 0, .int .i64 0, .int .i64 0, .int .i64 0, .bool false, .bool false, .bool false, .bool false]) zv58 rfl) rfl rfl (fun b10 _ => ?_)
  refine s_s (S_storeA (vs := cmpC p.1 p.2 1) rfl rfl sz58 (by rfl) (by rfl) up_ (by rfl)) rfl ?_
  refine s_nil ?_
  refine q_then ?_
  refine c_seq ?_
  refine c_reg ?_
  refine s_y (Y_mv) rfl rfl ?_
  refine s_y (Y_loadAll (cs := cmpC p.1 p.2 1) rfl many58 (by repeat (first | exact List.Mem.head _ | assumption | apply List.Mem.tail | apply List.mem_append_right)) (by rfl)) rfl rfl ?_
  refine s_c (En_call (fun _ => rfl) Tryz.func38 rfl (by kernel_rfl) rfl) (fun w hH => save_few (D1.has (hH.sub (List.nil_sublist _))) hn) rfl rfl ?_
  rintro _ _ ⟨rfl, rfl⟩
  refine s_y (Y_as) rfl rfl ?_
  refine s_nil ?_
  refine q_then ?_
  refine c_seq ?_
  refine c_reg ?_
  refine s_y (Y_mv) rfl rfl ?_
  refine s_c (En_call (fun _ => rfl) Tryz.func39 rfl (by kernel_rfl) rfl) (fun w hH => load_few (D1.has (hH.sub (List.nil_sublist _))) hn) rfl rfl ?_
  rintro _ _ ⟨rfl, rfl⟩
  refine s_y (Y_mv) rfl rfl ?_
  refine s_y (Y_extract rfl rfl) rfl rfl ?_
  refine s_y (Y_extract rfl rfl) rfl rfl ?_
  refine s_n (N_alloc (z := .agg #[.int .i64 0, .int .i64 0, .int .i64 0, .int .i64 0, .slice none 0 0, .slice none 0 0, .slice none 0 0, .int .i64 0, .int .i64 0, .int .i64 0, .int .i64 0, .bool false, .bool false, .bool false, .bool false]) (cs := [.int .i64 0, .int .i64 0, .int .i64 0, .int .i64 0, .slice none 0 0, .slice none 0 0, .slice none 0 0, .int .i64 0, .int .i64 0, .int .i64 0, .int .i64 0, .bool false, .bool false, .bool false, .bool false]) zv58 rfl) rfl rfl (fun b12 _ => ?_)
  refine s_s (S_storeA (vs := wz ++ seatC 0) rfl rfl sz58 (by rfl) (by rfl) up_ (by rfl)) rfl ?_
  refine s_y (Y_as) rfl rfl ?_
  refine s_nil ?_
  refine q_then ?_
  refine c_seq ?_
  refine c_seq ?_
  refine c_reg ?_
  refine s_y (Y_mv) rfl rfl ?_
  refine s_y (Y_lss rfl rfl) rfl rfl ?_
  refine s_nil ?_
  refine q_then ?_
  refine c_T rfl ((by simpa using hn)) ?_
  refine c_seq ?_
  refine c_reg ?_
  refine s_y (Y_mv) rfl rfl ?_
  refine s_y (Y_eql rfl rfl) rfl rfl ?_
  refine s_y (Y_mv) rfl rfl ?_
  apply s_and 3 [46, 47, 48, 49] 49 (g := 46) rfl rfl
  · intro ht3 hm
    try simp only [Bool.and_eq_true, Bool.or_eq_true, Bool.and_eq_false_iff, Bool.or_eq_false_iff, Bool.not_eq_true', Bool.not_eq_false', Bool.not_eq_eq_eq_not, Bool.not_true, Bool.not_false, decide_eq_true_eq, decide_eq_false_iff_not, Decidable.not_not] at ht3
    first | refine s_y (Y_mv) rfl rfl ?_ | refine s_pass rfl rfl ?_
    first | refine s_y (Y_eql rfl rfl) rfl rfl ?_ | refine s_pass rfl rfl ?_
    refine s_y (Y_pk rfl (Gx.tmp (by repeat (first | exact Gt.here | apply Gt.there (by rfl) | exact Gt.base (by rfl)))) Gx.const) rfl rfl ?_
    first | exact hm _ ⟨rfl, trivial⟩ rfl | exact QL.sub (by repeat (first | exact List.Sublist.refl _ | exact List.nil_sublist _ | apply List.Sublist.cons_cons | apply List.Sublist.cons)) (hm _ ⟨rfl, trivial⟩ rfl)
  · intro ht3 hm
    iterate 2 refine s_pass rfl rfl ?_
    refine s_y (Y_pk rfl (Gx.tmp (by repeat (first | exact Gt.here | apply Gt.there (by rfl) | exact Gt.base (by rfl)))) Gx.const) rfl rfl ?_
    exact hm _ ⟨rfl, trivial⟩ rfl
  intro j49
  refine s_y (Y_as) rfl rfl ?_
  refine s_nil ?_
  refine q_then ?_
  refine c_ret ?_
  refine q_ret1W (.bool true) (fun w hx => hX1.trans (hx.mono (by simp))) rfl rfl ⟨rfl, rfl⟩
set_option maxRecDepth 100000 in
set_option maxHeartbeats 3200000 in
theorem saveFew_yes {sectors seed frame : Int} (hsd : -9223372036854775808 ≤ seed ∧ seed ≤ 9223372036854775807) (hn : 40 ≤ 1 + sectors % 60) : Does Tryz.prog 7 [iv sectors, iv seed, iv frame] W [] (fun v L => v = .bool true ∧ L = []) := by
  have hN0 : nextN zg ≤ 1000000 := by decide
  refine enter Tryz.func7 rfl rfl rfl (Has.start _) ?_
  refine c_seq ?_
  refine c_reg ?_
  refine s_y (Y_asC) rfl rfl ?_
  refine s_nil ?_
  refine q_then ?_
  refine c_seq ?_
  refine c_seq ?_
  refine c_reg ?_
  refine s_c (En_call (fun _ => rfl) Tryz.func31 rfl (by kernel_rfl) rfl) (fun w hH => known14_d) rfl rfl ?_
  rintro _ _ ⟨rfl, rfl⟩
  refine s_y (Y_not rfl) rfl rfl ?_
  refine s_nil ?_
  refine q_then ?_
  refine c_F rfl ((by rfl)) ?_
  refine c_skip ?_
  refine q_then ?_
  refine c_seq ?_
  refine c_reg ?_
  refine s_y (Y_mv) rfl rfl ?_
  refine s_c (En_call (fun _ => rfl) Tryz.func36 rfl (by kernel_rfl) rfl) (fun w hH => l14within_d (by decide)) rfl rfl ?_
  rintro _ _ ⟨rfl, rfl⟩
  refine s_y (Y_add rfl rfl (by omega)) rfl rfl ?_
  refine s_y (Y_as) rfl rfl ?_
  refine s_nil ?_
  refine q_then ?_
  refine c_seq ?_
  refine c_reg ?_
  refine s_y (Y_mv) rfl rfl ?_
  refine s_cG (Φ := fun w v w' => ∃ b m, v = .tuple #[ptr b, iv 0] ∧ DkS w' b m (1 + sectors % 60) 0 (-1) false zg ∧ Ex [] w w' ∧ w.heap.size ≤ b ∧ w.heap.size ≤ m) (En_call (fun _ => rfl) Tryz.func37 rfl (by kernel_rfl) rfl) (fun w hH => new_G (by omega) (by omega)) rfl rfl (fun w v W1 hH1 hΦ => ?_)
  obtain ⟨bd, md, rfl, D1, hx1, hb1, hm1⟩ := hΦ
  have hX1 : Ex [] W W1 := hH1.ex.trans hx1
  have hbW : W.heap.size ≤ bd ∧ W.heap.size ≤ md := ⟨Nat.le_trans hH1.size hb1, Nat.le_trans hH1.size hm1⟩
  have hlt1 := D1.lt
  refine s_y (Y_mv) rfl rfl ?_
  refine s_y (Y_extract rfl rfl) rfl rfl ?_
  refine s_y (Y_extract rfl rfl) rfl rfl ?_
  refine s_y (Y_as) rfl rfl ?_
  refine s_y (Y_as) rfl rfl ?_
  refine s_nil ?_
  refine q_then ?_
  refine c_seq ?_
  refine c_seq ?_
  refine c_reg ?_
  refine s_y (Y_mv) rfl rfl ?_
  refine s_y (bin2_run (fun w => rfl) (dptr_nil bd) rfl rfl) rfl rfl ?_
  refine s_nil ?_
  refine q_then ?_
  refine c_F rfl ((by rfl)) ?_
  refine c_skip ?_
  refine q_then ?_
  refine c_seq ?_
  refine c_reg ?_
  refine s_y (Y_mv) rfl rfl ?_
  refine s_c (En_call (fun _ => rfl) Tryz.func16 rfl (by kernel_rfl) rfl) (fun w hH => lstory_d (ls := []) ⟨[], .nil, by simp⟩) rfl rfl ?_
  rintro _ _ ⟨ps, g0, c0, B, hpl, hT, rfl, hc0, rfl⟩
  obtain ⟨p, hp⟩ := take_lt (show 0 < ps.length by rw [hpl]; decide)
  have hpt := (hT.told p (List.mem_of_getElem? hp)).1
  have hpo := (hT.told p (List.mem_of_getElem? hp)).2
  have hck := hpt.vw.check (by have := hpt.fr; omega)
  replace hpl : ps.length = 1 := hpl
  refine s_c (En_call (fun _ => rfl) Tryz.func32 rfl (by kernel_rfl) rfl) (fun w hH => campaign_d (p := p) (kn := 0) (np := 1) (n := 2) ((hH.at' (x := ⟨g0, 34, 11, c0, wcs ps⟩) (by repeat (first | exact List.Mem.head _ | assumption | apply List.Mem.tail | apply List.mem_append_right))).sl (by rw [wcs_len, hpl]) (by exact hc0)) (by decide) (by decide) (by decide) hp (by decide)) rfl rfl ?_
  rintro _ _ ⟨rfl, rfl⟩
  refine s_n (N_alloc (z := .agg #[.int .i64 0, .int .i64 0, .int .i64 0, .int .i64 0, .slice none 0 0, .slice none 0 0, .slice none 0 0, .int .i64 0, .int .i64 0, .int .i64 0, .int .i64 0, .bool false, .bool false, .bool false, .bool false]) (cs := [.int .i64 0, .int .i64 0, .int .i64 0, .int .i64 0, .slice none 0 0, .slice none 0 0, .slice none 0 0, .int .i64 0, .int .i64 0, .int .i64 0, .int .i64 0, .bool false, .bool false, .bool false, .bool false]) zv58 rfl) rfl rfl (fun b10 _ => ?_)
  refine s_s (S_storeA (vs := cmpC p.1 p.2 1) rfl rfl sz58 (by rfl) (by rfl) up_ (by rfl)) rfl ?_
  refine s_nil ?_
  refine q_then ?_
  refine c_seq ?_
  refine c_reg ?_
  refine s_y (Y_mv) rfl rfl ?_
  refine s_y (Y_loadAll (cs := cmpC p.1 p.2 1) rfl many58 (by repeat (first | exact List.Mem.head _ | assumption | apply List.Mem.tail | apply List.mem_append_right)) (by rfl)) rfl rfl ?_
  refine s_cG (Φ := fun w v w' => SaveP bd md (1 + sectors % 60) 0 (-1) zg (seatB 1 :: encW p.1) v w' ∧ Ex [bd, md] w w' ∧ Has W1 [] (⟨b10, 58, 15, 1, cmpC p.1 p.2 1⟩ :: B) w) (En_call (fun _ => rfl) Tryz.func38 rfl (by kernel_rfl) rfl) (fun w hH => ?_) rfl rfl (fun w v W3 hH3 hΦ => ?_)
  · exact Calls.mono (save_G (D1.ex hH.ex (by simp) (by simp)) hn (hpo.wl hpt.vw.sz hH (fun x hx => by repeat (first | exact hx | exact List.mem_append_left _ hx | exact List.mem_append_right _ hx | apply List.Mem.tail | apply List.mem_append_right))) hck (by decide) (by decide) (by decide) (by decide) (by decide) hN0) fun e w' ⟨v, h1, h2, h3⟩ => ⟨v, h1, h2, h3, hH.pick2 (xs := [_]) (R' := B) ss_ (List.Sublist.cons _ (List.sublist_append_left B _))⟩
  obtain ⟨hS, hx3, hH2⟩ := hΦ
  obtain ⟨rfl, _, D3⟩ := hS.resolve_right (by rintro ⟨t, _, h, _⟩; omega)
  replace D3 : DkS W3 bd md (1 + sectors % 60) (0 + 16) (lft (-1) 16) false (savedM zg (seatB 1 :: encW p.1)) := D3
  obtain ⟨k, hk1, hka, hkc, _⟩ := count_saved (g := zg) (xs := seatB 1 :: encW p.1) hN0
  have hpl2 := place_saved (g := zg) (xs := seatB 1 :: encW p.1) (by rw [List.length_cons, enc_len hck]) hka
  obtain ⟨hdE, hdD, hdM⟩ := dec_camp (mm := 1) hck (by decide) (by rw [hpt.sd]; exact hsd)
  have hfar : ∀ x ∈ B, W1.heap.size ≤ x.b := fun x hx => by have := (hH2.bk x (List.Mem.tail _ hx)).2; simpa using this
  have hpf := own_far hpo hfar
  have hb5 := hH2.bk _ (List.Mem.head _)
  have hb5f : W1.heap.size ≤ b10 := by simpa using hb5.2
  have hr5 : Ro W3 b10 0 (cmpC p.1 p.2 1) := ro_exs hb5.1.ro hx3 hb5.1.lt (by simp; omega)
  have hwl3 : WL W3 p.1 p.2 := wl_exs (hpo.wl hpt.vw.sz hH2 (fun x hx => List.Mem.tail _ hx)) hx3 (by simp; omega) (by simp; omega) (by simp; omega)
  have hXX : ∀ w, Ex [] W3 w → Ex [] W w := fun w hx => ((hX1.trans hH3.ex).own hx3 (by simp; omega)).trans hx
  refine s_y (Y_as) rfl rfl ?_
  refine s_nil ?_
  refine q_then ?_
  refine c_seq ?_
  refine c_reg ?_
  refine s_y (Y_mv) rfl rfl ?_
  refine s_c (En_call (fun _ => rfl) Tryz.func39 rfl (by kernel_rfl) rfl) (fun w hH => load_d (D3.has hH) hn hkc hk1) rfl rfl ?_
  rintro _ _ hL
  rename_i lS
  rw [hpl2] at hL
  obtain ⟨c1, e1, i1, rfl, ho1, hr1⟩ := hL
  rw [hdE, hdM]
  rw [hdD] at ho1 hr1 ⊢
  refine QL.conv (L' := []) (fun w h => h.sub (List.nil_sublist _)) ?_
  refine s_y (Y_mv) rfl rfl ?_
  refine s_y (Y_extract rfl rfl) rfl rfl ?_
  refine s_y (Y_extract rfl rfl) rfl rfl ?_
  refine s_n (N_alloc (z := .agg #[.int .i64 0, .int .i64 0, .int .i64 0, .int .i64 0, .slice none 0 0, .slice none 0 0, .slice none 0 0, .int .i64 0, .int .i64 0, .int .i64 0, .int .i64 0, .bool false, .bool false, .bool false, .bool false]) (cs := [.int .i64 0, .int .i64 0, .int .i64 0, .int .i64 0, .slice none 0 0, .slice none 0 0, .slice none 0 0, .int .i64 0, .int .i64 0, .int .i64 0, .int .i64 0, .bool false, .bool false, .bool false, .bool false]) zv58 rfl) rfl rfl (fun b12 _ => ?_)
  refine s_s (S_storeA (vs := wcV p.1 c1 e1 i1 ++ seatC 1) rfl rfl sz58 (by rfl) (by rw [List.all_append, ho1]; rfl) up_ (by rfl)) rfl ?_
  refine s_y (Y_as) rfl rfl ?_
  refine s_nil ?_
  refine q_then ?_
  refine c_seq ?_
  refine c_seq ?_
  refine c_reg ?_
  refine s_y (Y_mv) rfl rfl ?_
  refine s_y (Y_lss rfl rfl) rfl rfl ?_
  refine s_nil ?_
  refine q_then ?_
  refine c_F rfl ((by simpa using hn)) ?_
  refine c_skip ?_
  refine q_then ?_
  refine c_seq ?_
  refine c_reg ?_
  refine s_y (Y_mv) rfl rfl ?_
  refine s_c (En_call (fun _ => rfl) Tryz.func40 rfl (by kernel_rfl) rfl) (fun w hH => writes_d (D3.has (hH.sub (List.nil_sublist _)))) rfl rfl ?_
  rintro _ _ ⟨rfl, rfl⟩
  refine s_y (Y_as) rfl rfl ?_
  refine s_nil ?_
  refine q_then ?_
  refine c_seq ?_
  refine c_reg ?_
  refine s_y (Y_loadNR (vs := cmpC p.1 p.2 1) rfl many58 hr5 (by rfl)) rfl rfl ?_
  refine s_n (N_alloc (z := .agg #[.int .i64 0, .int .i64 0, .int .i64 0, .int .i64 0, .slice none 0 0, .slice none 0 0, .slice none 0 0, .int .i64 0, .int .i64 0, .int .i64 0, .int .i64 0, .bool false, .bool false, .bool false, .bool false]) (cs := [.int .i64 0, .int .i64 0, .int .i64 0, .int .i64 0, .slice none 0 0, .slice none 0 0, .slice none 0 0, .int .i64 0, .int .i64 0, .int .i64 0, .int .i64 0, .bool false, .bool false, .bool false, .bool false]) zv58 rfl) rfl rfl (fun b15 _ => ?_)
  refine s_s (S_storeA (vs := cmpC p.1 p.2 1) rfl rfl sz58 (by rfl) (by rfl) up_ (by rfl)) rfl ?_
  refine s_nil ?_
  refine q_then ?_
  refine c_seq ?_
  refine c_reg ?_
  refine s_y (Y_mv) rfl rfl ?_
  refine s_c (En_call (fun _ => rfl) Tryz.func36 rfl (by kernel_rfl) rfl) (fun w hH => l14within_d (by decide)) rfl rfl ?_
  rintro _ _ ⟨rfl, rfl⟩
  refine s_y (Y_add rfl rfl (by omega)) rfl rfl ?_
  refine s_y (Y_fa 0 rfl Tryz.underlying58 rfl sz34 rfl) rfl rfl ?_
  refine s_y (Y_fa 2 rfl Tryz.underlying34 rfl sz3 rfl) rfl rfl ?_
  refine s_s (S_st (cs' := cmpC { p.1 with floor := 9 + frame % 100 } p.2 1) rfl (by repeat (first | exact Gt.here | apply Gt.there (by rfl) | exact Gt.base (by rfl))) sz3 (by rfl) up_ (by rfl) (by show _ < 15; decide)) rfl ?_
  refine s_nil ?_
  refine q_then ?_
  refine c_seq ?_
  refine c_reg ?_
  refine s_y (Y_mv) rfl rfl ?_
  refine s_y (Y_loadAll (cs := cmpC { p.1 with floor := 9 + frame % 100 } p.2 1) rfl many58 (by repeat (first | exact List.Mem.head _ | assumption | apply List.Mem.tail | apply List.mem_append_right)) (by rfl)) rfl rfl ?_
  refine s_c (En_call (fun _ => rfl) Tryz.func38 rfl (by kernel_rfl) rfl) (fun w hH => save_bad (d := { p.1 with floor := 9 + frame % 100 }) (s := p.2) (mm := 1) (D3.has (hH.sub (List.nil_sublist _))) hn (let k := hwl3.has (hH.sub (List.nil_sublist _)); ⟨k.c, k.e, k.i⟩) (fun x hx => ok_of_check hck x hx) (by rw [bad_floor (by show 4 ≤ 9 + frame % 100; omega)]; decide)) rfl rfl ?_
  rintro _ _ ⟨rfl, rfl⟩
  rw [bad_floor (show 4 ≤ ({ p.1 with floor := 9 + frame % 100 } : Wd).floor by show 4 ≤ 9 + frame % 100; omega)]
  refine s_y (Y_as) rfl rfl ?_
  refine s_nil ?_
  refine q_then ?_
  refine c_seq ?_
  refine c_reg ?_
  refine s_y (Y_mv) rfl rfl ?_
  refine s_c (En_call (fun _ => rfl) Tryz.func39 rfl (by kernel_rfl) rfl) (fun w hH => load_d (D3.has (hH.sub (List.nil_sublist _))) hn hkc hk1) rfl rfl ?_
  rintro _ _ hL2
  rename_i lS2
  rw [hpl2] at hL2
  obtain ⟨c2, e2, i2, rfl, ho2, hr2⟩ := hL2
  rw [hdE, hdM]
  rw [hdD] at ho2 hr2 ⊢
  refine QL.perm List.perm_append_comm ?_
  refine s_y (Y_mv) rfl rfl ?_
  refine s_y (Y_extract rfl rfl) rfl rfl ?_
  refine s_y (Y_extract rfl rfl) rfl rfl ?_
  refine s_n (N_alloc (z := .agg #[.int .i64 0, .int .i64 0, .int .i64 0, .int .i64 0, .slice none 0 0, .slice none 0 0, .slice none 0 0, .int .i64 0, .int .i64 0, .int .i64 0, .int .i64 0, .bool false, .bool false, .bool false, .bool false]) (cs := [.int .i64 0, .int .i64 0, .int .i64 0, .int .i64 0, .slice none 0 0, .slice none 0 0, .slice none 0 0, .int .i64 0, .int .i64 0, .int .i64 0, .int .i64 0, .bool false, .bool false, .bool false, .bool false]) zv58 rfl) rfl rfl (fun b17 _ => ?_)
  refine s_s (S_storeA (vs := wcV p.1 c2 e2 i2 ++ seatC 1) rfl rfl sz58 (by rfl) (by rw [List.all_append, ho2]; rfl) up_ (by rfl)) rfl ?_
  refine s_y (Y_as) rfl rfl ?_
  refine s_nil ?_
  refine q_then ?_
  refine c_seq ?_
  refine c_reg ?_
  refine s_y (Y_mv) rfl rfl ?_
  refine s_y (Y_eql rfl rfl) rfl rfl ?_
  refine s_y (Y_mv) rfl rfl ?_
  apply s_and 3 [68, 69, 70, 71] 71 (g := 68) rfl rfl
  · intro ht3 hm
    try simp only [Bool.and_eq_true, Bool.or_eq_true, Bool.and_eq_false_iff, Bool.or_eq_false_iff, Bool.not_eq_true', Bool.not_eq_false', Bool.not_eq_eq_eq_not, Bool.not_true, Bool.not_false, decide_eq_true_eq, decide_eq_false_iff_not, Decidable.not_not] at ht3
    first | refine s_y (Y_mv) rfl rfl ?_ | refine s_pass rfl rfl ?_
    first | refine s_y (Y_eql rfl rfl) rfl rfl ?_ | refine s_pass rfl rfl ?_
    refine s_y (Y_pk rfl (Gx.tmp (by repeat (first | exact Gt.here | apply Gt.there (by rfl) | exact Gt.base (by rfl)))) Gx.const) rfl rfl ?_
    first | exact hm _ ⟨rfl, trivial⟩ rfl | exact QL.sub (by repeat (first | exact List.Sublist.refl _ | exact List.nil_sublist _ | apply List.Sublist.cons_cons | apply List.Sublist.cons)) (hm _ ⟨rfl, trivial⟩ rfl)
  · intro ht3 hm
    iterate 2 refine s_pass rfl rfl ?_
    refine s_y (Y_pk rfl (Gx.tmp (by repeat (first | exact Gt.here | apply Gt.there (by rfl) | exact Gt.base (by rfl)))) Gx.const) rfl rfl ?_
    exact hm _ ⟨rfl, trivial⟩ rfl
  intro j71
  refine s_y (Y_mv) rfl rfl ?_
  apply s_and 3 [72, 73, 74, 75] 75 (g := 72) rfl rfl
  · intro ht7 hm
    try simp only [Bool.and_eq_true, Bool.or_eq_true, Bool.and_eq_false_iff, Bool.or_eq_false_iff, Bool.not_eq_true', Bool.not_eq_false', Bool.not_eq_eq_eq_not, Bool.not_true, Bool.not_false, decide_eq_true_eq, decide_eq_false_iff_not, Decidable.not_not] at ht7
    first | refine s_y (Y_mv) rfl rfl ?_ | refine s_pass rfl rfl ?_
    first | refine s_y (Y_eql rfl rfl) rfl rfl ?_ | refine s_pass rfl rfl ?_
    refine s_y (Y_pk rfl (Gx.tmp (by repeat (first | exact Gt.here | apply Gt.there (by rfl) | exact Gt.base (by rfl)))) Gx.const) rfl rfl ?_
    first | exact hm _ ⟨rfl, trivial⟩ rfl | exact QL.sub (by repeat (first | exact List.Sublist.refl _ | exact List.nil_sublist _ | apply List.Sublist.cons_cons | apply List.Sublist.cons)) (hm _ ⟨rfl, trivial⟩ rfl)
  · intro ht7 hm
    iterate 2 refine s_pass rfl rfl ?_
    refine s_y (Y_pk rfl (Gx.tmp (by repeat (first | exact Gt.here | apply Gt.there (by rfl) | exact Gt.base (by rfl)))) Gx.const) rfl rfl ?_
    exact hm _ ⟨rfl, trivial⟩ rfl
  intro j75
  refine s_y (Y_mv) rfl rfl ?_
  apply s_and 3 [76, 77, 78, 79] 79 (g := 76) rfl rfl
  · intro ht11 hm
    try simp only [Bool.and_eq_true, Bool.or_eq_true, Bool.and_eq_false_iff, Bool.or_eq_false_iff, Bool.not_eq_true', Bool.not_eq_false', Bool.not_eq_eq_eq_not, Bool.not_true, Bool.not_false, decide_eq_true_eq, decide_eq_false_iff_not, Decidable.not_not] at ht11
    first | refine s_y (Y_mv) rfl rfl ?_ | refine s_pass rfl rfl ?_
    first | refine s_y (Y_eql rfl rfl) rfl rfl ?_ | refine s_pass rfl rfl ?_
    refine s_y (Y_pk rfl (Gx.tmp (by repeat (first | exact Gt.here | apply Gt.there (by rfl) | exact Gt.base (by rfl)))) Gx.const) rfl rfl ?_
    first | exact hm _ ⟨rfl, trivial⟩ rfl | exact QL.sub (by repeat (first | exact List.Sublist.refl _ | exact List.nil_sublist _ | apply List.Sublist.cons_cons | apply List.Sublist.cons)) (hm _ ⟨rfl, trivial⟩ rfl)
  · intro ht11 hm
    iterate 2 refine s_pass rfl rfl ?_
    refine s_y (Y_pk rfl (Gx.tmp (by repeat (first | exact Gt.here | apply Gt.there (by rfl) | exact Gt.base (by rfl)))) Gx.const) rfl rfl ?_
    exact hm _ ⟨rfl, trivial⟩ rfl
  intro j79
  refine s_y (Y_mv) rfl rfl ?_
  apply s_and 4 [80, 81, 82, 83, 84] 84 (g := 80) rfl rfl
  · intro ht15 hm
    try simp only [Bool.and_eq_true, Bool.or_eq_true, Bool.and_eq_false_iff, Bool.or_eq_false_iff, Bool.not_eq_true', Bool.not_eq_false', Bool.not_eq_eq_eq_not, Bool.not_true, Bool.not_false, decide_eq_true_eq, decide_eq_false_iff_not, Decidable.not_not] at ht15
    first | refine s_y (Y_loadAll (cs := wcV p.1 c2 e2 i2 ++ seatC 1) rfl many58 (by repeat (first | exact List.Mem.head _ | assumption | apply List.Mem.tail | apply List.mem_append_right)) (by rfl)) rfl rfl ?_ | refine s_pass rfl rfl ?_
    first | refine s_y (Y_loadNR (vs := cmpC p.1 p.2 1) rfl many58 hr5 (by rfl)) rfl rfl ?_ | refine s_pass rfl rfl ?_
    refine s_c (En_call (vs := [.agg (wcV p.1 c2 e2 i2 ++ seatC 1).toArray, .agg (cmpC p.1 p.2 1).toArray]) (fun _ => rfl) Tryz.func35 rfl (by kernel_rfl) rfl) (fun w hH => lsame14_d (by decide) (hr2 hH (fun x hx => by repeat (first | exact hx | exact List.mem_append_left _ hx | exact List.mem_append_right _ hx | apply List.Mem.tail | apply List.mem_append_right))) (wl_v (hwl3.has (hH.sub (List.nil_sublist _))))) rfl rfl ?_
    rintro _ _ ⟨rfl, rfl⟩
    refine s_y (Y_pk rfl (Gx.tmp (by repeat (first | exact Gt.here | apply Gt.there (by rfl) | exact Gt.base (by rfl)))) Gx.const) rfl rfl ?_
    first | exact hm _ ⟨rfl, trivial⟩ rfl | exact QL.sub (by repeat (first | exact List.Sublist.refl _ | exact List.nil_sublist _ | apply List.Sublist.cons_cons | apply List.Sublist.cons)) (hm _ ⟨rfl, trivial⟩ rfl)
  · intro ht15 hm
    iterate 3 refine s_pass rfl rfl ?_
    refine s_y (Y_pk rfl (Gx.tmp (by repeat (first | exact Gt.here | apply Gt.there (by rfl) | exact Gt.base (by rfl)))) Gx.const) rfl rfl ?_
    exact hm _ ⟨rfl, trivial⟩ rfl
  intro j84
  refine s_y (Y_mv) rfl rfl ?_
  apply s_and 5 [85, 86, 87, 88, 89, 90] 90 (g := 85) rfl rfl
  · intro ht20 hm
    try simp only [Bool.and_eq_true, Bool.or_eq_true, Bool.and_eq_false_iff, Bool.or_eq_false_iff, Bool.not_eq_true', Bool.not_eq_false', Bool.not_eq_eq_eq_not, Bool.not_true, Bool.not_false, decide_eq_true_eq, decide_eq_false_iff_not, Decidable.not_not] at ht20
    first | refine s_y (Y_mv) rfl rfl ?_ | refine s_pass rfl rfl ?_
    refine s_c (En_call (fun _ => rfl) Tryz.func40 rfl (by kernel_rfl) rfl) (fun w hH => writes_d (D3.has (hH.sub (List.nil_sublist _)))) rfl rfl ?_
    rintro _ _ ⟨rfl, rfl⟩
    first | refine s_y (Y_mv) rfl rfl ?_ | refine s_pass rfl rfl ?_
    first | refine s_y (Y_eql rfl rfl) rfl rfl ?_ | refine s_pass rfl rfl ?_
    refine s_y (Y_pk rfl (Gx.tmp (by repeat (first | exact Gt.here | apply Gt.there (by rfl) | exact Gt.base (by rfl)))) Gx.const) rfl rfl ?_
    first | exact hm _ ⟨rfl, trivial⟩ rfl | exact QL.sub (by repeat (first | exact List.Sublist.refl _ | exact List.nil_sublist _ | apply List.Sublist.cons_cons | apply List.Sublist.cons)) (hm _ ⟨rfl, trivial⟩ rfl)
  · intro ht20 hm
    iterate 4 refine s_pass rfl rfl ?_
    refine s_y (Y_pk rfl (Gx.tmp (by repeat (first | exact Gt.here | apply Gt.there (by rfl) | exact Gt.base (by rfl)))) Gx.const) rfl rfl ?_
    exact hm _ ⟨rfl, trivial⟩ rfl
  intro j90
  refine s_y (Y_as) rfl rfl ?_
  refine s_nil ?_
  refine q_then ?_
  refine c_ret ?_
  refine q_ret1W (.bool true) hXX rfl (by simp [Ov.get]) ⟨rfl, rfl⟩
theorem saveFew_d {sectors seed frame : Int} (hsd : -9223372036854775808 ≤ seed ∧ seed ≤ 9223372036854775807) : Does Tryz.prog 7 [iv sectors, iv seed, iv frame] W [] (fun v L => v = .bool true ∧ L = []) := by
  by_cases hn : 40 ≤ 1 + sectors % 60
  · exact saveFew_yes hsd hn
  · exact saveFew_no (by omega)
end
end Go.Proofs.YtcogbkkdccohfaaGreat
