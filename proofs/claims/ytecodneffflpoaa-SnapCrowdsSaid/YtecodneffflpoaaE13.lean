/- The law's own worlds, walked. -/
import Derived.Test.YtecodneffflpoaaE12
namespace Go.Proofs.Ytecodneffflpoaa
open Go.RowKit Go.Ad Go.Maps
set_option linter.unusedVariables false
set_option linter.unusedSimpArgs false
/-- Some world of the right sizes, all its own. -/
def SomeW (v : Value) (L : List Bk) : Prop := ∃ d : Wd, (∀ x ∈ d.items, Itm.ok x) ∧ d.cells.length = 384 ∧ d.ents.length = 32 ∧ d.items.length = 40 ∧ WdN d v L
theorem ok_set {l : List Itm} {k : Nat} {x : Itm} (h : ∀ y ∈ l, Itm.ok y) (hx : Itm.ok x) : ∀ y ∈ l.set k x, Itm.ok y := fun y hy => by
  rcases List.mem_or_eq_of_mem_set hy with h1 | h1
  · exact h y h1
  · subst h1; exact hx
theorem row_get {row : List Nat} {q : Nat} (h : q < row.length) : (row.map ci)[0 + q]? = some (ci row[q]) := by rw [Nat.zero_add, List.getElem?_map, List.getElem?_eq_getElem h]; rfl
section
variable {W : World}
set_option maxRecDepth 100000 in
set_option maxHeartbeats 6400000 in
theorem lworld_d {seed floor seat at_ gold : Int} {lv : Value} {n : Nat} {l : List Itm} (hl : SlV W 4 lv n (icells l)) : Does Try.prog 13 [iv seed, iv floor, iv seat, iv at_, lv, iv gold] W [] SomeW := by
  obtain rfl : n = l.length := by have := hl.len; rw [icells_len] at this; omega
  have hll := hl.le
  simp only [maxLen] at hll
  obtain ⟨fl, hfl⟩ : ∃ q, 1 + floor % 3 = q := ⟨_, rfl⟩
  have hfr : 1 ≤ fl ∧ fl ≤ 3 := by omega
  have hml := make_len seed fl
  obtain ⟨kw, hkw, hww⟩ := make_walk seed fl
  refine enter Try.func13 rfl rfl rfl (Has.start _) ?_
  refine c_seq ?_
  refine c_reg ?_
  refine s_n (N_alloc (z := .agg #[.int .i64 0, .int .i64 0, .int .i64 0, .int .i64 0, .slice none 0 0, .slice none 0 0, .slice none 0 0, .int .i64 0, .int .i64 0, .int .i64 0, .int .i64 0]) (cs := [.int .i64 0, .int .i64 0, .int .i64 0, .int .i64 0, .slice none 0 0, .slice none 0 0, .slice none 0 0, .int .i64 0, .int .i64 0, .int .i64 0, .int .i64 0]) zv29 rfl) rfl rfl (fun b12 _ => ?_)
  refine s_nil ?_
  refine q_then ?_
  refine c_seq ?_
  refine c_reg ?_
  refine s_y (Y_mv) rfl rfl ?_
  refine s_c (En_call (fun _ => rfl) Try.func35 rfl (by kernel_rfl) rfl) (fun w hH => l7within_d (by decide)) rfl rfl ?_
  rintro _ _ ⟨rfl, rfl⟩
  refine s_y ((Y_add rfl rfl (by omega)).num hfl) rfl rfl ?_
  refine s_y (Y_as) rfl rfl ?_
  refine s_nil ?_
  refine q_then ?_
  refine c_seq ?_
  refine c_meetQ (ks := [13, 24, 25, 26, 27, 28, 29, 30, 31, 32]) (tr := fun y : Nat × Nat × Nat × Nat => [(13, .pointer (some ⟨y.1, 0, none⟩))]) (φ := fun y => True) (G := fun y => [wB y.1 (wcD seed 0 fl 0 (.slice (some ⟨y.2.1, 0, none⟩) 384 384) (.slice (some ⟨y.2.2.1, 0, none⟩) 32 32) (.slice (some ⟨y.2.2.2, 0, none⟩) 40 40) ⟨0, 0, 0, 0⟩), cB y.2.1 384 (makeM seed fl).cells, ⟨y.2.2.1, 48, 11, 32, List.replicate (32 * 11) (iv 0)⟩, ⟨y.2.2.2, 57, 4, 40, List.replicate (40 * 4) (iv 0)⟩, wB b12 wz]) (fun _ => rfl) ?_ ?_
  · rintro ⟨b13, cb, b30, b31⟩ j3 _
    refine q_then ?_
    refine c_seq ?_
    refine c_reg ?_
    refine s_y (Y_asC) rfl rfl ?_
    refine s_nil ?_
    rw [← ezero b30 32, ← izero b31 40]
    obtain ⟨cs, hcs⟩ : ∃ q_, (makeM seed fl).cells = q_ := ⟨_, rfl⟩
    rw [hcs] at hml hww ⊢
    refine q_then ?_
    refine c_seq ?_
    refine c_seq ?_
    refine c_reg ?_
    refine s_y (Y_asC) rfl rfl ?_
    refine s_nil ?_
    refine q_then ?_
    refine c_block ?_
    refine c_loop [14, 15, 33, 34, 35, 36, 37, 38, 39, 40, 41, 42, 43, 44, 45, 46, 47] (fun m (y : Nat × List Nat × Value × List Bk) => y.1 + m = 384 ∧ y.2.1 = openM cs y.1 ∧ Row 3 1 y.2.2.1 y.2.1.length (y.2.1.map ci) y.2.2.2) (fun y => [(15, iv y.1), (14, y.2.2.1)]) (fun y => wB b13 (wcD seed 0 fl 0 (.slice (some ⟨cb, 0, none⟩) 384 384) (.slice (some ⟨b30, 0, none⟩) 32 32) (.slice (some ⟨b31, 0, none⟩) 40 40) ⟨0, 0, 0, 0⟩) :: cB cb 384 cs :: eB b30 32 (List.replicate 32 Ent.zero) :: iB b31 40 (List.replicate 40 Itm.zero) :: wB b12 wz :: y.2.2.2) (384) ((0, [], .slice none 0 0, [])) (⟨rfl, rfl, .nil⟩) (by repeat (first | exact trivial | refine ⟨rfl, ?_⟩)) (fun _ h => h.sub sl_) (fun _ => rfl) ?_
    rintro m ⟨i, row, rv, B⟩ j5 ⟨hi, hrow, hB⟩ K hK
    simp only at hi hrow hB ⊢
    have hrl := open_len cs i
    rw [← hrow] at hrl
    refine c_seq ?_
    refine c_seq ?_
    refine c_reg ?_
    refine s_y (Y_mv) rfl rfl ?_
    refine s_y (Y_lss rfl rfl) rfl rfl ?_
    refine s_nil ?_
    refine q_then ?_
    first | refine c_cond' rfl (fun hc5 => ?_) (fun hc5 => ?_) | refine c_cond rfl (fun hc5 => ?_) (fun hc5 => ?_)
    · skip
      try simp only [nrm_] at hc5
      refine c_skip ?_
      refine q_then ?_
      refine c_seq ?_
      refine c_block ?_
      refine c_seq ?_
      have hbr := byteAt_rng cs i
      refine c_reg ?_
      refine s_y (Y_fa 4 rfl Try.underlying29 rfl sz25 rfl) rfl rfl ?_
      refine s_y ((by first | exact Y_load rfl one25 mm_ (by rfl) | exact Y_loadR rfl one25 hr rfl rfl | exact Y_loadR rfl one25 hr2 rfl rfl | exact Y_load rfl one25 mm_ (eget he rfl) | exact Y_load rfl one25 mm_ (iget hx rfl) | exact Y_load rfl one25 mm_ (by assumption) | exact Y_loadR rfl one25 (by assumption) rfl (by assumption))) rfl rfl ?_
      refine s_y (Y_mv) rfl rfl ?_
      refine s_y (Y_ia1 rfl rfl Try.underlying25 sz5 rfl (by omega)) rfl rfl ?_
      refine s_y (Y_load (v := .int .u8 (byteAt cs i)) rfl one5 mm_ (by rw [Nat.zero_add]; exact byte_get (cells := cs) (by omega))) rfl rfl ?_
      refine s_y (Y_conv rfl Try.underlying5 Try.underlying3 (i64_id (by omega))) rfl rfl ?_
      refine s_c (En_call (fun _ => rfl) Try.func15 rfl (by kernel_rfl) rfl) (fun w hH => rwalk_d) rfl rfl ?_
      rintro _ _ ⟨rfl, rfl⟩
      refine s_nil ?_
      refine q_then ?_
      refine c_cond (t := (walkM (byteAt cs i))) rfl (fun hwk => ?_) (fun hwk => ?_)
      · skip
        try simp only [nrm_] at hwk
        refine c_reg ?_
        refine s_y (Y_mv) rfl rfl ?_
        refine s_y (Y_mv) rfl rfl ?_
        refine s_n (N_bs (xs := [.tmp 45]) (by repeat (first | exact Gv.nil | apply Gv.const | apply Gv.tmp gt_)) rfl Try.underlying22 inf3 rfl (by omega) (by omega) (by first | simp [Value.oneCell'] | (intro v hv; simp at hv; subst hv; rfl))) rfl rfl (fun b46 _ => ?_)
        refine s_n (N_appR (bytes := 8) hB (List.perm_append_comm (l₁ := B) (l₂ := [_, _, _, _, _, _])) rfl rfl Try.underlying22 inf3 rfl (by omega) (src (news := [iv i]) mm_) (by rfl) (by simp [Value.oneCell']) (by omega) (by omega) (by omega)) rfl rfl (fun ⟨g47, cp47⟩ hc47 => ?_)
        refine s_y (Y_as) rfl rfl ?_
        refine s_nil ?_
        refine q_bn ?_
        refine q_then ?_
        refine c_reg ?_
        refine s_y (Y_mv) rfl rfl ?_
        refine s_y ((by first | exact Y_add rfl rfl (by omega) | exact Y_addw rfl rfl)) rfl rfl ?_
        refine s_y (Y_as) rfl rfl ?_
        refine s_nil ?_
        refine hK (m - 1) (i + 1, row ++ [i], .slice (some ⟨g47, 0, none⟩) (row.length + 1) cp47, [⟨g47, 3, 1, cp47, (row ++ [i]).map ci⟩]) _ _ (by omega) ⟨by simp only; omega, by rw [open_succ, if_pos hwk, ← hrow], by simp only; rw [List.length_append, List.length_singleton]; exact .some hc47 (by simp)⟩ ⟨rfl, rfl, trivial⟩ rfl (fun w h => ?_)
        rw [List.map_append]
        exact h.pick (by repeat (first | exact Sels.nil | apply Sels.cons (by repeat (first | exact Sel.head | apply Sel.tail))))
      · skip
        try simp only [nrm_] at hwk
        refine c_skip ?_
        refine q_bn ?_
        refine q_then ?_
        refine c_reg ?_
        refine s_y (Y_mv) rfl rfl ?_
        refine s_y ((by first | exact Y_add rfl rfl (by omega) | exact Y_addw rfl rfl)) rfl rfl ?_
        refine s_y (Y_as) rfl rfl ?_
        refine s_nil ?_
        refine hK (m - 1) (i + 1, row, rv, B) _ _ (by omega) ⟨by simp only; omega, by rw [open_succ, if_neg (by rw [hwk]; simp)]; exact hrow, hB⟩ ⟨rfl, rfl, trivial⟩ rfl (fun w h => h)
    · skip
      try simp only [nrm_] at hc5
      refine c_exit ?_
      repeat with_reducible refine q_te ?_
      refine q_exit ?_
      refine q_then ?_
      refine c_seq ?_
      obtain rfl : i = 384 := by omega
      have hrp := open_pos (cells := cs) hkw hww
      rw [← hrow] at hrp
      obtain ⟨rg, rc, rfl, rfl, hrc⟩ := hB.some_of hrp
      have hlt : ∀ z ∈ row, z < 384 := fun z hz => open_lt (cells := cs) (by rw [← hrow]; exact hz)
      clear hrow hkw hww
      refine c_reg ?_
      refine s_y (Y_mv) rfl rfl ?_
      refine s_c (En_call (fun _ => rfl) Try.func35 rfl (by kernel_rfl) rfl) (fun w hH => l7within_d (by decide)) rfl rfl ?_
      rintro _ _ ⟨rfl, rfl⟩
      refine s_y (Y_as) rfl rfl ?_
      refine s_nil ?_
      refine q_then ?_
      refine c_seq ?_
      refine c_reg ?_
      refine s_y (Y_mv) rfl rfl ?_
      refine s_y (Y_mv) rfl rfl ?_
      refine s_y (Y_mv) rfl rfl ?_
      refine s_y (Y_len rfl rfl Try.underlying22) rfl rfl ?_
      refine s_c (En_call (fun _ => rfl) Try.func35 rfl (by kernel_rfl) rfl) (fun w hH => l7within_d (by omega)) rfl rfl ?_
      rintro _ _ ⟨rfl, rfl⟩
      obtain ⟨q, hq⟩ : ∃ q : Nat, at_ % (row.length : Int) = q := ⟨(at_ % (row.length : Int)).toNat, by have := Int.emod_nonneg at_ (show (row.length : Int) ≠ 0 by omega); omega⟩
      have hqlt : q < row.length := by have := Int.emod_lt_of_pos at_ (show 0 < (row.length : Int) by omega); omega
      rw [hq]
      refine s_y (Y_ia1 rfl rfl Try.underlying22 sz3 rfl (by omega)) rfl rfl ?_
      refine s_y (Y_load (v := ci row[q]) rfl one3 mm_ (row_get hqlt)) rfl rfl ?_
      refine s_y (Y_as) rfl rfl ?_
      refine s_nil ?_
      have hz0 := hlt _ (List.getElem_mem hqlt)
      obtain ⟨z0, hz1⟩ : ∃ q_, row[q] = q_ := ⟨_, rfl⟩
      rw [hz1] at hz0 ⊢
      refine q_then ?_
      refine c_seq ?_
      refine c_meetQ (ks := [16, 57, 58, 59, 60, 61, 62, 63, 64, 65, 66, 67, 68]) (tr := fun z : Nat => [(16, iv z)]) (φ := fun z => z < 384) (G := fun z => [wB b13 (wcD seed 0 fl 0 (.slice (some ⟨cb, 0, none⟩) 384 384) (.slice (some ⟨b30, 0, none⟩) 32 32) (.slice (some ⟨b31, 0, none⟩) 40 40) ⟨0, 0, 0, 0⟩), cB cb 384 cs, eB b30 32 (List.replicate 32 Ent.zero), iB b31 40 (List.replicate 40 Itm.zero), wB b12 wz, ⟨rg, 3, 1, rc, row.map ci⟩]) (fun _ => rfl) ?_ ?_
      · rintro z j13 hz
        refine q_then ?_
        refine c_seq ?_
        refine c_reg ?_
        refine s_c (En_call (fun _ => rfl) Try.func17 rfl (by kernel_rfl) rfl) (fun w hH => rstats_d) rfl rfl ?_
        rintro _ _ ⟨rfl, rfl⟩
        rw [show statsM 1 = ⟨1, 0, 0, 0, 0, 20, 20, 5, 1, 0, 0⟩ from rfl]
        refine s_n (N_alloc (z := .agg #[.int .i64 0, .int .i64 0, .int .i64 0, .int .i64 0, .int .i64 0, .int .i64 0, .int .i64 0, .int .i64 0, .int .i64 0, .int .i64 0, .int .i64 0]) (cs := [.int .i64 0, .int .i64 0, .int .i64 0, .int .i64 0, .int .i64 0, .int .i64 0, .int .i64 0, .int .i64 0, .int .i64 0, .int .i64 0, .int .i64 0]) zv48 rfl) rfl rfl (fun b17 _ => ?_)
        refine s_s (S_storeA (vs := (⟨1, 0, 0, 0, 0, 20, 20, 5, 1, 0, 0⟩ : Ent).cells) rfl rfl sz48 (by rfl) (by rfl) (by repeat (first | exact Upd.head | apply Upd.tail)) (by rfl)) rfl ?_
        refine s_nil ?_
        refine q_then ?_
        refine c_seq ?_
        obtain ⟨zx, hzx⟩ : ∃ x : Int, (z : Int) % 24 = x := ⟨_, rfl⟩
        obtain ⟨zy, hzy⟩ : ∃ x : Int, (z : Int) / 24 = x := ⟨_, rfl⟩
        obtain ⟨ss, hss⟩ : ∃ x : Nat, seat % 4 = (x : Int) := ⟨(seat % 4).toNat, by omega⟩
        have hssl : ss < 4 := by omega
        rw [hss]
        refine c_reg ?_
        refine s_y (Y_mv) rfl rfl ?_
        refine s_y (Y_mv) rfl rfl ?_
        refine s_y ((Y_rem rfl rfl (by omega)).num hzx) rfl rfl ?_
        refine s_y (Y_mv) rfl rfl ?_
        refine s_y ((Y_quo rfl rfl (by omega)).num hzy) rfl rfl ?_
        refine s_y (Y_mv) rfl rfl ?_
        refine s_y (Y_fa 6 rfl Try.underlying48 rfl sz3 rfl) rfl rfl ?_
        refine s_y ((by first | exact Y_load rfl one3 mm_ (by rfl) | exact Y_loadR rfl one3 hr rfl rfl | exact Y_loadR rfl one3 hr2 rfl rfl | exact Y_load rfl one3 mm_ (eget he rfl) | exact Y_load rfl one3 mm_ (iget hx rfl) | exact Y_load rfl one3 mm_ (by assumption) | exact Y_loadR rfl one3 (by assumption) rfl (by assumption))) rfl rfl ?_
        refine s_c (En_call (fun _ => rfl) Try.func35 rfl (by kernel_rfl) rfl) (fun w hH => l7within_d (by decide)) rfl rfl ?_
        rintro _ _ ⟨rfl, rfl⟩
        obtain ⟨hp, hhp⟩ : ∃ x : Int, 1 + at_ % 20 = x := ⟨_, rfl⟩
        refine s_y ((Y_add rfl rfl (by omega)).num hhp) rfl rfl ?_
        refine s_y (Y_fa 2 rfl Try.underlying48 rfl sz3 rfl) rfl rfl ?_
        refine s_s (S_st (cs' := (⟨1, 0, ss, 0, 0, 20, 20, 5, 1, 0, 0⟩ : Ent).cells) rfl gt_ sz3 (by rfl) (by repeat (first | exact Upd.head | apply Upd.tail)) (by rfl) (by rw [Ent.len]; decide)) rfl ?_
        refine s_y (Y_fa 3 rfl Try.underlying48 rfl sz3 rfl) rfl rfl ?_
        refine s_s (S_st (cs' := (⟨1, 0, ss, zx, 0, 20, 20, 5, 1, 0, 0⟩ : Ent).cells) rfl gt_ sz3 (by rfl) (by repeat (first | exact Upd.head | apply Upd.tail)) (by rfl) (by rw [Ent.len]; decide)) rfl ?_
        refine s_y (Y_fa 4 rfl Try.underlying48 rfl sz3 rfl) rfl rfl ?_
        refine s_s (S_st (cs' := (⟨1, 0, ss, zx, zy, 20, 20, 5, 1, 0, 0⟩ : Ent).cells) rfl gt_ sz3 (by rfl) (by repeat (first | exact Upd.head | apply Upd.tail)) (by rfl) (by rw [Ent.len]; decide)) rfl ?_
        refine s_y (Y_fa 5 rfl Try.underlying48 rfl sz3 rfl) rfl rfl ?_
        refine s_s (S_st (cs' := (⟨1, 0, ss, zx, zy, hp, 20, 5, 1, 0, 0⟩ : Ent).cells) rfl gt_ sz3 (by rfl) (by repeat (first | exact Upd.head | apply Upd.tail)) (by rfl) (by rw [Ent.len]; decide)) rfl ?_
        refine s_nil ?_
        obtain ⟨e, hte⟩ : ∃ q_, (⟨1, 0, ss, zx, zy, hp, 20, 5, 1, 0, 0⟩ : Ent) = q_ := ⟨_, rfl⟩
        rw [hte] at ⊢
        refine q_then ?_
        refine c_seq ?_
        refine c_rordS (L0 := [⟨b17, 48, 11, 1, e.cells⟩, wB b13 (wcD seed 0 fl 0 (.slice (some ⟨cb, 0, none⟩) 384 384) (.slice (some ⟨b30, 0, none⟩) 32 32) (.slice (some ⟨b31, 0, none⟩) 40 40) ⟨0, 0, 0, 0⟩)]) sl_ [6] [(0, true), (1, true), (2, true), (4, true), (3, false), (5, true), (6, false)] (by kernel_rfl) (by kernel_rfl) (by kernel_rfl) (by kernel_rfl) rfl (by intro c a d v w h; cases d <;> exact h) rfl ?_
        simp only [mkOrd, List.filterMap_cons, List.filterMap_nil, List.getElem?_toArray, List.getElem?_cons_zero, List.getElem?_cons_succ, Option.map_some]
        refine o_y (Y_fa 5 rfl Try.underlying29 rfl sz26 rfl) rfl rfl ?_
        refine o_y ((by first | exact Y_load rfl one26 mm_ (by rfl) | exact Y_loadR rfl one26 hr rfl rfl | exact Y_loadR rfl one26 hr2 rfl rfl | exact Y_load rfl one26 mm_ (eget he rfl) | exact Y_load rfl one26 mm_ (iget hx rfl) | exact Y_load rfl one26 mm_ (by assumption) | exact Y_loadR rfl one26 (by assumption) rfl (by assumption))) rfl rfl ?_
        refine o_y (Y_mv) rfl rfl ?_
        refine o_y ((by first | exact Y_loadAll rfl many48 mm_ (by rfl) | exact Y_loadN rfl many48 mm_ ‹_› ‹_› | exact Y_loadNR rfl many48 hr rfl | exact Y_loadNR rfl many48 hr2 rfl | exact Y_loadNR rfl many48 ‹_› rfl)) rfl rfl ?_
        refine o_c (En_call (fun _ => rfl) Try.func35 rfl (by kernel_rfl) rfl) (fun w hH => l7within_d (by decide)) (fun _ _ h => by obtain ⟨rfl, rfl⟩ := h; exact (by first | exact keep_no rfl | (refine keep_sub ?_; (repeat (first | exact List.Sublist.refl _ | exact List.nil_sublist _ | apply List.Sublist.cons_cons | apply List.Sublist.cons)); done) | (refine keep_sub (List.Sublist.trans ?_ (List.sublist_append_right _ _)); (repeat (first | exact List.Sublist.refl _ | exact List.nil_sublist _ | apply List.Sublist.cons_cons | apply List.Sublist.cons)); done))) rfl rfl ?_
        rintro _ _ ⟨rfl, rfl⟩
        obtain ⟨r, hr0⟩ : ∃ x : Nat, at_ % 32 = (x : Int) := ⟨(at_ % 32).toNat, by omega⟩
        have hrl0 : r < 32 := by omega
        rw [hr0]
        refine o_y (Y_ia rfl rfl Try.underlying26 sz48 rfl (by omega)) rfl rfl ?_
        refine o_s (S_storeN (cs' := ecells ((List.replicate 32 Ent.zero).set r e)) rfl rfl sz48 (by rfl) (by rfl) (by repeat (first | exact Upd.head | apply Upd.tail)) (eall _ (by rw [List.length_replicate]; omega)) (by simp [ecells_len, Ent.cells]; omega)) (by first | exact keep_no rfl | (refine keep_sub ?_; (repeat (first | exact List.Sublist.refl _ | exact List.nil_sublist _ | apply List.Sublist.cons_cons | apply List.Sublist.cons)); done) | (refine keep_sub (List.Sublist.trans ?_ (List.sublist_append_right _ _)); (repeat (first | exact List.Sublist.refl _ | exact List.nil_sublist _ | apply List.Sublist.cons_cons | apply List.Sublist.cons)); done)) rfl ?_
        refine o_nil ?_
        have hesl : ((List.replicate 32 Ent.zero).set r e).length = 32 := by rw [List.length_set, List.length_replicate]
        obtain ⟨es, hte2⟩ : ∃ q_, (List.replicate 32 Ent.zero).set r e = q_ := ⟨_, rfl⟩
        rw [hte2] at hesl ⊢
        refine q_then ?_
        refine c_seq ?_
        refine c_reg ?_
        refine s_y (Y_mv) rfl rfl ?_
        refine s_y (Y_mv) rfl rfl ?_
        refine s_c (En_call (fun _ => rfl) Try.func35 rfl (by kernel_rfl) rfl) (fun w hH => l7within_d (by decide)) rfl rfl ?_
        rintro _ _ ⟨rfl, rfl⟩
        refine s_y (Y_fa 7 rfl Try.underlying29 rfl sz27 rfl) rfl rfl ?_
        refine s_y (Y_iaA rfl rfl Try.underlying27 sz3 rfl (by omega)) rfl rfl ?_
        refine s_s (S_st (cs' := (wcD seed 0 fl 0 (.slice (some ⟨cb, 0, none⟩) 384 384) (.slice (some ⟨b30, 0, none⟩) 32 32) (.slice (some ⟨b31, 0, none⟩) 40 40) ((⟨0, 0, 0, 0⟩ : Four).set (gold % 1000) ss))) rfl gt_ sz3 (by rfl) (by repeat (first | exact Upd.head | apply Upd.tail)) (wcD_gold (by omega)) (by simp only [List.length_cons, List.length_nil]; omega)) rfl ?_
        refine s_nil ?_
        have hok0 : ∀ x ∈ List.replicate 40 Itm.zero, Itm.ok x := fun x hx => by
          rw [List.eq_of_mem_replicate hx]; exact ⟨by decide, by decide⟩
        have hil0 : (List.replicate 40 Itm.zero).length = 40 := List.length_replicate
        obtain ⟨g, hte3⟩ : ∃ q_, (⟨0, 0, 0, 0⟩ : Four).set (gold % 1000) ss = q_ := ⟨_, rfl⟩
        rw [hte3] at ⊢
        obtain ⟨its0, hte4⟩ : ∃ q_, List.replicate 40 Itm.zero = q_ := ⟨_, rfl⟩
        rw [hte4] at hok0 hil0 ⊢
        refine QL.pick (L' := [wB b13 (wcD seed 0 fl 0 (.slice (some ⟨cb, 0, none⟩) 384 384) (.slice (some ⟨b30, 0, none⟩) 32 32) (.slice (some ⟨b31, 0, none⟩) 40 40) g), cB cb 384 cs, eB b30 32 es, iB b31 40 its0, wB b12 wz, ⟨rg, 3, 1, rc, row.map ci⟩]) (by repeat (first | exact Sels.nil | apply Sels.cons (by repeat (first | exact Sel.head | apply Sel.tail)))) ?_
        refine q_then ?_
        refine c_seq ?_
        refine c_seq ?_
        refine c_reg ?_
        refine s_y (Y_asC) rfl rfl ?_
        refine s_nil ?_
        refine q_then ?_
        refine c_block ?_
        refine c_loop [18, 19, 20, 95, 96, 97, 98, 99, 100, 101, 102, 103, 104, 105, 106, 107, 108, 109, 110, 111, 112, 113, 114, 115, 116, 117, 118, 119, 120, 121, 122, 123, 124, 125, 126, 127, 128, 129, 130, 131, 132, 133, 134, 135, 136, 137, 138, 139, 140, 141, 142, 143, 144, 145, 146, 147, 148, 149, 150, 151, 152, 153, 154, 155, 156, 157, 158, 159, 160, 161, 162, 163, 164, 165, 166, 167, 168, 169, 170, 171, 172, 173, 174, 175, 176, 177, 178, 179, 180, 181, 182, 183, 184, 185, 186, 187, 188, 189, 190, 191, 192, 193, 194, 195, 196, 197, 198, 199, 200, 201, 202, 203, 204, 205, 206, 207, 208, 209, 210, 211, 212, 213, 214, 215, 216, 217, 218, 219, 220, 221, 222, 223, 224] (fun m (y : Nat × List Itm) => y.1 + m = min l.length 20 ∧ (∀ x ∈ y.2, Itm.ok x) ∧ y.2.length = 40) (fun y => [(18, iv y.1)]) (fun y => [wB b13 (wcD seed 0 fl 0 (.slice (some ⟨cb, 0, none⟩) 384 384) (.slice (some ⟨b30, 0, none⟩) 32 32) (.slice (some ⟨b31, 0, none⟩) 40 40) g), cB cb 384 cs, eB b30 32 es, iB b31 40 y.2, wB b12 wz, ⟨rg, 3, 1, rc, row.map ci⟩]) (min l.length 20) ((0, its0)) (⟨by simp only; omega, hok0, hil0⟩) (by repeat (first | exact trivial | refine ⟨rfl, ?_⟩)) (fun _ h => h.sub sl_) (fun _ => rfl) ?_
        rintro m ⟨i, its⟩ j18 ⟨hi, hok, hil⟩ K hK
        simp only at hi hok hil ⊢
        refine c_seq ?_
        refine c_seq ?_
        refine c_reg ?_
        refine s_y (Y_mv) rfl rfl ?_
        refine s_y (Y_mv) rfl rfl ?_
        refine s_y (Y_lenV hl rfl rfl Try.underlying23) rfl rfl ?_
        refine s_y (Y_lss rfl rfl) rfl rfl ?_
        refine s_y (Y_mv) rfl rfl ?_
        apply s_and 3 [99, 100, 101, 102] 102 (g := 99) rfl rfl
        · intro ht5 hm
          try simp only [nrm_] at ht5
          first | refine s_y (Y_mv) rfl rfl ?_ | refine s_pass rfl rfl ?_
          first | refine s_y (Y_lss rfl rfl) rfl rfl ?_ | refine s_pass rfl rfl ?_
          refine s_y (Y_pk rfl (Gx.tmp gt_) Gx.const) rfl rfl ?_
          first | exact hm _ ⟨rfl, trivial⟩ rfl | exact QL.sub sl_ (hm _ ⟨rfl, trivial⟩ rfl)
        · intro ht5 hm
          iterate 2 refine s_pass rfl rfl ?_
          refine s_y (Y_pk rfl (Gx.tmp gt_) Gx.const) rfl rfl ?_
          exact hm _ ⟨rfl, trivial⟩ rfl
        intro j102
        refine s_nil ?_
        refine q_then ?_
        first | refine c_cond' rfl (fun hc18 => ?_) (fun hc18 => ?_) | refine c_cond rfl (fun hc18 => ?_) (fun hc18 => ?_)
        · skip
          try simp only [nrm_] at hc18
          refine c_skip ?_
          refine q_then ?_
          refine c_seq ?_
          refine c_block ?_
          obtain ⟨lx, hlx⟩ := take_lt (show i < l.length by omega)
          obtain ⟨lb, lo, lc, rfl, hls⟩ := hl.some_of (by omega)
          have hr := hls.at' Itm.len hlx
          obtain ⟨k1, hk1⟩ : ∃ x : Int, 1 + lx.kind % 4 = x := ⟨_, rfl⟩
          obtain ⟨w1, hw1⟩ : ∃ x : Int, 1 + lx.whr % 4 = x := ⟨_, rfl⟩
          refine c_seq ?_
          refine c_meetQ (ks := [19, 105, 106, 107, 108, 109, 110, 111, 112, 113, 114, 115, 116, 117, 118, 119]) (tr := fun b19 : Nat => [(19, .pointer (some ⟨b19, 0, none⟩))]) (φ := fun _ => True) (G := fun b19 => [⟨b19, 57, 4, 1, [iv k1, iv w1, iv 0, iv 0]⟩, wB b13 (wcD seed 0 fl 0 (.slice (some ⟨cb, 0, none⟩) 384 384) (.slice (some ⟨b30, 0, none⟩) 32 32) (.slice (some ⟨b31, 0, none⟩) 40 40) g), cB cb 384 cs, eB b30 32 es, iB b31 40 its, wB b12 wz, ⟨rg, 3, 1, rc, row.map ci⟩]) (fun _ => rfl) ?_ ?_
          · rintro b19 j21 _
            refine q_then ?_
            refine c_seq ?_
            refine c_meetQ (ks := [20, 120, 121, 122, 123, 124, 125, 126, 127, 128, 129, 130, 131, 132, 133, 134, 135, 136, 137, 138, 139, 140, 141, 142, 143, 144, 145, 146, 147, 148, 149, 150, 151, 152, 153, 154, 155, 156, 157, 158, 159, 160, 161, 162, 163, 164, 165, 166, 167, 168, 169, 170, 171, 172, 173, 174, 175, 176, 177, 178, 179, 180, 181, 182, 183, 184, 185, 186, 187, 188, 189, 190, 191, 192, 193, 194, 195, 196, 197, 198]) (tr := fun _ : Itm => []) (φ := fun x => Itm.ok x) (G := fun x => [⟨b19, 57, 4, 1, x.cells⟩, wB b13 (wcD seed 0 fl 0 (.slice (some ⟨cb, 0, none⟩) 384 384) (.slice (some ⟨b30, 0, none⟩) 32 32) (.slice (some ⟨b31, 0, none⟩) 40 40) g), cB cb 384 cs, eB b30 32 es, iB b31 40 its, wB b12 wz, ⟨rg, 3, 1, rc, row.map ci⟩]) (fun _ => rfl) ?_ ?_
            · rintro x j36 hx
              refine q_then ?_
              refine c_seq ?_
              refine c_meetQ (ks := [199, 200, 201, 202, 203, 204, 205, 206, 207]) (tr := fun _ : Itm => []) (φ := fun x => Itm.ok x) (G := fun x => [⟨b19, 57, 4, 1, x.cells⟩, wB b13 (wcD seed 0 fl 0 (.slice (some ⟨cb, 0, none⟩) 384 384) (.slice (some ⟨b30, 0, none⟩) 32 32) (.slice (some ⟨b31, 0, none⟩) 40 40) g), cB cb 384 cs, eB b30 32 es, iB b31 40 its, wB b12 wz, ⟨rg, 3, 1, rc, row.map ci⟩]) (fun _ => rfl) ?_ ?_
              · rintro x j38 hx
                refine q_then ?_
                refine c_seq ?_
                refine c_reg ?_
                refine s_y (Y_fa 6 rfl Try.underlying29 rfl sz23 rfl) rfl rfl ?_
                refine s_y ((by first | exact Y_load rfl one23 mm_ (by rfl) | exact Y_loadR rfl one23 hr rfl rfl | exact Y_loadR rfl one23 hr2 rfl rfl | exact Y_load rfl one23 mm_ (eget he rfl) | exact Y_load rfl one23 mm_ (iget hx rfl) | exact Y_load rfl one23 mm_ (by assumption) | exact Y_loadR rfl one23 (by assumption) rfl (by assumption))) rfl rfl ?_
                refine s_y (Y_fa 1 rfl Try.underlying57 rfl sz3 rfl) rfl rfl ?_
                refine s_y ((by first | exact Y_load rfl one3 mm_ (by rfl) | exact Y_loadR rfl one3 hr rfl rfl | exact Y_loadR rfl one3 hr2 rfl rfl | exact Y_load rfl one3 mm_ (eget he rfl) | exact Y_load rfl one3 mm_ (iget hx rfl) | exact Y_load rfl one3 mm_ (by assumption) | exact Y_loadR rfl one3 (by assumption) rfl (by assumption))) rfl rfl ?_
                refine s_y (Y_fa 2 rfl Try.underlying57 rfl sz3 rfl) rfl rfl ?_
                refine s_y ((by first | exact Y_load rfl one3 mm_ (by rfl) | exact Y_loadR rfl one3 hr rfl rfl | exact Y_loadR rfl one3 hr2 rfl rfl | exact Y_load rfl one3 mm_ (eget he rfl) | exact Y_load rfl one3 mm_ (iget hx rfl) | exact Y_load rfl one3 mm_ (by assumption) | exact Y_loadR rfl one3 (by assumption) rfl (by assumption))) rfl rfl ?_
                refine s_y (Y_fa 3 rfl Try.underlying57 rfl sz3 rfl) rfl rfl ?_
                refine s_y ((by first | exact Y_load rfl one3 mm_ (by rfl) | exact Y_loadR rfl one3 hr rfl rfl | exact Y_loadR rfl one3 hr2 rfl rfl | exact Y_load rfl one3 mm_ (eget he rfl) | exact Y_load rfl one3 mm_ (iget hx rfl) | exact Y_load rfl one3 mm_ (by assumption) | exact Y_loadR rfl one3 (by assumption) rfl (by assumption))) rfl rfl ?_
                refine s_c (En_call (fun _ => rfl) Try.func37 rfl (by kernel_rfl) rfl) (fun w hH => riin_d ((hH.at' (x := iB b31 40 its) mm_).sl (by rw [icells_len]; omega) (Nat.le_refl _))) rfl rfl ?_
                rintro _ _ ⟨rfl, rfl⟩
                refine s_y (Y_lss rfl rfl) rfl rfl ?_
                refine s_nil ?_
                refine q_then ?_
                first | refine c_cond' rfl (fun hc38 => ?_) (fun hc38 => ?_) | refine c_cond rfl (fun hc38 => ?_) (fun hc38 => ?_)
                · skip
                  try simp only [nrm_] at hc38
                  refine c_reg ?_
                  refine s_y (Y_fa 6 rfl Try.underlying29 rfl sz23 rfl) rfl rfl ?_
                  refine s_y ((by first | exact Y_load rfl one23 mm_ (by rfl) | exact Y_loadR rfl one23 hr rfl rfl | exact Y_loadR rfl one23 hr2 rfl rfl | exact Y_load rfl one23 mm_ (eget he rfl) | exact Y_load rfl one23 mm_ (iget hx rfl) | exact Y_load rfl one23 mm_ (by assumption) | exact Y_loadR rfl one23 (by assumption) rfl (by assumption))) rfl rfl ?_
                  refine s_y (Y_mv) rfl rfl ?_
                  refine s_y ((by first | exact Y_mul rfl rfl (by omega) | exact Y_mulw rfl rfl)) rfl rfl ?_
                  refine s_y ((Y_rem rfl rfl (by omega)).num (show _ = ((2 * i % 40 : Nat) : Int) by omega)) rfl rfl ?_
                  refine s_y ((by first | exact Y_loadAll rfl many57 mm_ (by rfl) | exact Y_loadN rfl many57 mm_ ‹_› ‹_› | exact Y_loadNR rfl many57 hr rfl | exact Y_loadNR rfl many57 hr2 rfl | exact Y_loadNR rfl many57 ‹_› rfl)) rfl rfl ?_
                  refine s_y (Y_ia (n := 2 * i % 40) rfl rfl Try.underlying23 sz57 rfl (by omega)) rfl rfl ?_
                  refine s_s (S_storeN (cs' := icells (its.set (2 * i % 40) x)) rfl rfl sz57 (by rfl) (by rfl) (by repeat (first | exact Upd.head | apply Upd.tail)) (iall _ (by omega)) (by simp [icells_len, Itm.cells]; omega)) rfl ?_
                  refine s_nil ?_
                  refine q_bn ?_
                  refine q_then ?_
                  refine c_reg ?_
                  refine s_y (Y_mv) rfl rfl ?_
                  refine s_y ((by first | exact Y_add rfl rfl (by omega) | exact Y_addw rfl rfl)) rfl rfl ?_
                  refine s_y (Y_as) rfl rfl ?_
                  refine s_nil ?_
                  refine hK (m - 1) (i + 1, its.set (2 * i % 40) x) _ _ (by omega) ⟨by simp only; omega, ok_set hok hx, by simp only [List.length_set]; exact hil⟩ ⟨rfl, trivial⟩ rfl (fun w h => h.pick (by repeat (first | exact Sels.nil | apply Sels.cons (by repeat (first | exact Sel.head | apply Sel.tail)))))
                · skip
                  try simp only [nrm_] at hc38
                  refine c_skip ?_
                  refine q_bn ?_
                  refine q_then ?_
                  refine c_reg ?_
                  refine s_y (Y_mv) rfl rfl ?_
                  refine s_y ((by first | exact Y_add rfl rfl (by omega) | exact Y_addw rfl rfl)) rfl rfl ?_
                  refine s_y (Y_as) rfl rfl ?_
                  refine s_nil ?_
                  refine hK (m - 1) (i + 1, its) _ _ (by omega) ⟨by simp only; omega, hok, hil⟩ ⟨rfl, trivial⟩ rfl (fun w h => h.pick (by repeat (first | exact Sels.nil | apply Sels.cons (by repeat (first | exact Sel.head | apply Sel.tail)))))
              · intro go
                refine c_seq ?_
                refine c_reg ?_
                refine s_y (Y_fa 0 rfl Try.underlying57 rfl sz3 rfl) rfl rfl ?_
                refine s_y ((by first | exact Y_load rfl one3 mm_ (by rfl) | exact Y_loadR rfl one3 hr rfl rfl | exact Y_loadR rfl one3 hr2 rfl rfl | exact Y_load rfl one3 mm_ (eget he rfl) | exact Y_load rfl one3 mm_ (iget hx rfl) | exact Y_load rfl one3 mm_ (by assumption) | exact Y_loadR rfl one3 (by assumption) rfl (by assumption))) rfl rfl ?_
                refine s_y (Y_eql rfl rfl) rfl rfl ?_
                refine s_y (Y_mv) rfl rfl ?_
                apply s_and 4 [202, 203, 204, 205, 206] 206 (g := 202) rfl rfl
                · intro ht4 hm
                  try simp only [nrm_] at ht4
                  first | refine s_y (Y_fa 1 rfl Try.underlying57 rfl sz3 rfl) rfl rfl ?_ | refine s_pass rfl rfl ?_
                  first | refine s_y ((by first | exact Y_load rfl one3 mm_ (by rfl) | exact Y_loadR rfl one3 hr rfl rfl | exact Y_loadR rfl one3 hr2 rfl rfl | exact Y_load rfl one3 mm_ (eget he rfl) | exact Y_load rfl one3 mm_ (iget hx rfl) | exact Y_load rfl one3 mm_ (by assumption) | exact Y_loadR rfl one3 (by assumption) rfl (by assumption))) rfl rfl ?_ | refine s_pass rfl rfl ?_
                  first | refine s_y (Y_neq rfl rfl) rfl rfl ?_ | refine s_pass rfl rfl ?_
                  refine s_y (Y_pk rfl (Gx.tmp gt_) Gx.const) rfl rfl ?_
                  first | exact hm _ ⟨rfl, trivial⟩ rfl | exact QL.sub sl_ (hm _ ⟨rfl, trivial⟩ rfl)
                · intro ht4 hm
                  iterate 3 refine s_pass rfl rfl ?_
                  refine s_y (Y_pk rfl (Gx.tmp gt_) Gx.const) rfl rfl ?_
                  exact hm _ ⟨rfl, trivial⟩ rfl
                intro j206
                refine s_nil ?_
                refine q_then ?_
                first | refine c_cond' rfl (fun hc36 => ?_) (fun hc36 => ?_) | refine c_cond rfl (fun hc36 => ?_) (fun hc36 => ?_)
                · skip
                  try simp only [nrm_] at hc36
                  refine c_reg ?_
                  refine s_y (Y_fa 0 rfl Try.underlying57 rfl sz3 rfl) rfl rfl ?_
                  refine s_s (S_stC (cs' := ({ x with kind := 1 } : Itm).cells) rfl sz3 (by rfl) (by repeat (first | exact Upd.head | apply Upd.tail)) (by rfl) (by rw [Itm.len]; decide)) rfl ?_
                  refine s_nil ?_
                  exact go { x with kind := 1 } _ _ hx trivial rfl (fun w h => h)
                · skip
                  try simp only [nrm_] at hc36
                  refine c_skip ?_
                  exact go x _ _ hx trivial rfl (fun w h => h)
            · intro go
              refine c_seq ?_
              refine c_reg ?_
              refine s_y (Y_fa 1 rfl Try.underlying57 rfl sz3 rfl) rfl rfl ?_
              refine s_y ((by first | exact Y_load rfl one3 mm_ (by rfl) | exact Y_loadR rfl one3 hr rfl rfl | exact Y_loadR rfl one3 hr2 rfl rfl | exact Y_load rfl one3 mm_ (eget he rfl) | exact Y_load rfl one3 mm_ (iget hx rfl) | exact Y_load rfl one3 mm_ (by assumption) | exact Y_loadR rfl one3 (by assumption) rfl (by assumption))) rfl rfl ?_
              refine s_nil ?_
              refine q_then ?_
              refine c_block ?_
              refine c_seq ?_
              refine c_reg ?_
              refine s_y (Y_eql rfl rfl) rfl rfl ?_
              refine s_y (Y_as) rfl rfl ?_
              refine s_nil ?_
              refine q_then ?_
              first | refine c_cond' rfl (fun hc22 => ?_) (fun hc22 => ?_) | refine c_cond rfl (fun hc22 => ?_) (fun hc22 => ?_)
              · skip
                try simp only [nrm_] at hc22
                refine c_seq ?_
                refine c_reg ?_
                refine s_y (Y_mv) rfl rfl ?_
                refine s_y (Y_mv) rfl rfl ?_
                refine s_y (Y_mv) rfl rfl ?_
                refine s_y (Y_ia rfl rfl Try.underlying23 sz57 rfl (by omega)) rfl rfl ?_
                refine s_y (Y_fa 2 rfl Try.underlying57 rfl sz3 rfl) rfl rfl ?_
                refine s_y ((by first | exact Y_load rfl one3 mm_ (by rfl) | exact Y_loadR rfl one3 hr rfl rfl | exact Y_loadR rfl one3 hr2 rfl rfl | exact Y_load rfl one3 mm_ (eget he rfl) | exact Y_load rfl one3 mm_ (iget hx rfl) | exact Y_load rfl one3 mm_ (by assumption) | exact Y_loadR rfl one3 (by assumption) rfl (by assumption))) rfl rfl ?_
                refine s_y (Y_mv) rfl rfl ?_
                refine s_y (Y_len rfl rfl Try.underlying22) rfl rfl ?_
                refine s_c (En_call (fun _ => rfl) Try.func35 rfl (by kernel_rfl) rfl) (fun w hH => l7within_d (by omega)) rfl rfl ?_
                rintro _ _ ⟨rfl, rfl⟩
                obtain ⟨q2, hq2⟩ : ∃ q : Nat, lx.a % (row.length : Int) = q := ⟨(lx.a % (row.length : Int)).toNat, by have := Int.emod_nonneg lx.a (show (row.length : Int) ≠ 0 by omega); omega⟩
                have hq2lt : q2 < row.length := by have := Int.emod_lt_of_pos lx.a (show 0 < (row.length : Int) by omega); omega
                rw [hq2]
                refine s_y (Y_ia1 rfl rfl Try.underlying22 sz3 rfl (by omega)) rfl rfl ?_
                refine s_y (Y_load (v := ci row[q2]) rfl one3 mm_ (row_get hq2lt)) rfl rfl ?_
                refine s_y (Y_as) rfl rfl ?_
                refine s_nil ?_
                have hc0 := hlt _ (List.getElem_mem hq2lt)
                obtain ⟨c0, hc1⟩ : ∃ q_, row[q2] = q_ := ⟨_, rfl⟩
                rw [hc1] at hc0 ⊢
                refine q_then ?_
                refine c_seq ?_
                refine c_meetQ (ks := [20, 135, 136, 137, 138, 139, 140, 141, 142]) (tr := fun c : Nat => [(20, iv c)]) (φ := fun c => c < 384) (G := fun c => [⟨b19, 57, 4, 1, [iv k1, iv w1, iv 0, iv 0]⟩, wB b13 (wcD seed 0 fl 0 (.slice (some ⟨cb, 0, none⟩) 384 384) (.slice (some ⟨b30, 0, none⟩) 32 32) (.slice (some ⟨b31, 0, none⟩) 40 40) g), cB cb 384 cs, eB b30 32 es, iB b31 40 its, wB b12 wz, ⟨rg, 3, 1, rc, row.map ci⟩]) (fun _ => rfl) ?_ ?_
                · rintro c j26 hc
                  refine q_then ?_
                  obtain ⟨cx, hcx⟩ : ∃ x : Int, (c : Int) % 24 = x := ⟨_, rfl⟩
                  obtain ⟨cy, hcy⟩ : ∃ x : Int, (c : Int) / 24 = x := ⟨_, rfl⟩
                  refine c_reg ?_
                  refine s_y (Y_mv) rfl rfl ?_
                  refine s_y ((Y_rem rfl rfl (by omega)).num hcx) rfl rfl ?_
                  refine s_y (Y_mv) rfl rfl ?_
                  refine s_y ((Y_quo rfl rfl (by omega)).num hcy) rfl rfl ?_
                  refine s_y (Y_fa 2 rfl Try.underlying57 rfl sz3 rfl) rfl rfl ?_
                  refine s_s (S_st rfl gt_ sz3 (by rfl) (by repeat (first | exact Upd.head | apply Upd.tail)) (by first | (simp only [Nat.zero_add, Nat.reduceAdd, List.set_cons_succ, List.set_cons_zero]; rfl) | rfl) (by first | (simp; done) | omega)) rfl ?_
                  refine s_y (Y_fa 3 rfl Try.underlying57 rfl sz3 rfl) rfl rfl ?_
                  refine s_s (S_st rfl gt_ sz3 (by rfl) (by repeat (first | exact Upd.head | apply Upd.tail)) (by first | (simp only [Nat.zero_add, Nat.reduceAdd, List.set_cons_succ, List.set_cons_zero]; rfl) | rfl) (by first | (simp; done) | omega)) rfl ?_
                  refine s_nil ?_
                  refine q_bn ?_
                  exact go ⟨k1, w1, cx, cy⟩ _ _ ⟨by show _ ≤ cy; omega, by show cy ≤ _; omega⟩ trivial rfl (fun w h => h)
                · intro go
                  refine c_seq ?_
                  refine c_reg ?_
                  refine s_y (Y_mv) rfl rfl ?_
                  refine s_y (Y_mv) rfl rfl ?_
                  refine s_y (Y_ia rfl rfl Try.underlying23 sz57 rfl (by omega)) rfl rfl ?_
                  refine s_y (Y_fa 3 rfl Try.underlying57 rfl sz3 rfl) rfl rfl ?_
                  refine s_y ((by first | exact Y_load rfl one3 mm_ (by rfl) | exact Y_loadR rfl one3 hr rfl rfl | exact Y_loadR rfl one3 hr2 rfl rfl | exact Y_load rfl one3 mm_ (eget he rfl) | exact Y_load rfl one3 mm_ (iget hx rfl) | exact Y_load rfl one3 mm_ (by assumption) | exact Y_loadR rfl one3 (by assumption) rfl (by assumption))) rfl rfl ?_
                  refine s_y ((by first | exact Y_rem rfl rfl (by omega) | exact Y_remw rfl rfl (by omega))) rfl rfl ?_
                  refine s_y (Y_eql rfl rfl) rfl rfl ?_
                  refine s_nil ?_
                  refine q_then ?_
                  first | refine c_cond' rfl (fun hc24 => ?_) (fun hc24 => ?_) | refine c_cond rfl (fun hc24 => ?_) (fun hc24 => ?_)
                  · skip
                    try simp only [nrm_] at hc24
                    refine c_reg ?_
                    refine s_y (Y_mv) rfl rfl ?_
                    refine s_y (Y_as) rfl rfl ?_
                    refine s_nil ?_
                    exact go z _ _ hz ⟨rfl, trivial⟩ rfl (fun w h => h)
                  · skip
                    try simp only [nrm_] at hc24
                    refine c_skip ?_
                    exact go c0 _ _ hc0 ⟨rfl, trivial⟩ rfl (fun w h => h)
              · skip
                try simp only [nrm_] at hc22
                refine c_seq ?_
                refine c_reg ?_
                refine s_y (Y_eql rfl rfl) rfl rfl ?_
                refine s_y (Y_as) rfl rfl ?_
                refine s_nil ?_
                refine q_then ?_
                first | refine c_cond' rfl (fun hc27 => ?_) (fun hc27 => ?_) | refine c_cond rfl (fun hc27 => ?_) (fun hc27 => ?_)
                · skip
                  try simp only [nrm_] at hc27
                  refine c_seq ?_
                  refine c_rordS (L0 := []) sl_ [15] [(0, true), (1, true), (2, true), (3, true), (4, true), (6, true), (7, true), (8, true), (9, true), (10, true), (5, false), (12, true), (11, false), (13, false), (14, true), (15, false)] (by kernel_rfl) (by kernel_rfl) (by kernel_rfl) (by kernel_rfl) rfl (by intro c a d v w h; cases d <;> exact h) rfl ?_
                  simp only [mkOrd, List.filterMap_cons, List.filterMap_nil, List.getElem?_toArray, List.getElem?_cons_zero, List.getElem?_cons_succ, Option.map_some]
                  refine o_y (Y_mv) rfl rfl ?_
                  refine o_y (Y_mv) rfl rfl ?_
                  refine o_y (Y_ia rfl rfl Try.underlying23 sz57 rfl (by omega)) rfl rfl ?_
                  refine o_y (Y_fa 2 rfl Try.underlying57 rfl sz3 rfl) rfl rfl ?_
                  refine o_y ((by first | exact Y_load rfl one3 mm_ (by rfl) | exact Y_loadR rfl one3 hr rfl rfl | exact Y_loadR rfl one3 hr2 rfl rfl | exact Y_load rfl one3 mm_ (eget he rfl) | exact Y_load rfl one3 mm_ (iget hx rfl) | exact Y_load rfl one3 mm_ (by assumption) | exact Y_loadR rfl one3 (by assumption) rfl (by assumption))) rfl rfl ?_
                  refine o_y (Y_mv) rfl rfl ?_
                  refine o_y (Y_mv) rfl rfl ?_
                  refine o_y (Y_ia rfl rfl Try.underlying23 sz57 rfl (by omega)) rfl rfl ?_
                  refine o_y (Y_fa 3 rfl Try.underlying57 rfl sz3 rfl) rfl rfl ?_
                  refine o_y ((by first | exact Y_load rfl one3 mm_ (by rfl) | exact Y_loadR rfl one3 hr rfl rfl | exact Y_loadR rfl one3 hr2 rfl rfl | exact Y_load rfl one3 mm_ (eget he rfl) | exact Y_load rfl one3 mm_ (iget hx rfl) | exact Y_load rfl one3 mm_ (by assumption) | exact Y_loadR rfl one3 (by assumption) rfl (by assumption))) rfl rfl ?_
                  refine o_c (En_call (fun _ => rfl) Try.func35 rfl (by kernel_rfl) rfl) (fun w hH => l7within_d (by decide)) (fun _ _ h => by obtain ⟨rfl, rfl⟩ := h; exact (by first | exact keep_no rfl | (refine keep_sub ?_; (repeat (first | exact List.Sublist.refl _ | exact List.nil_sublist _ | apply List.Sublist.cons_cons | apply List.Sublist.cons)); done) | (refine keep_sub (List.Sublist.trans ?_ (List.sublist_append_right _ _)); (repeat (first | exact List.Sublist.refl _ | exact List.nil_sublist _ | apply List.Sublist.cons_cons | apply List.Sublist.cons)); done))) rfl rfl ?_
                  rintro _ _ ⟨rfl, rfl⟩
                  refine o_y (Y_fa 2 rfl Try.underlying57 rfl sz3 rfl) rfl rfl ?_
                  refine o_c (En_call (fun _ => rfl) Try.func35 rfl (by kernel_rfl) rfl) (fun w hH => l7within_d (by decide)) (fun _ _ h => by obtain ⟨rfl, rfl⟩ := h; exact (by first | exact keep_no rfl | (refine keep_sub ?_; (repeat (first | exact List.Sublist.refl _ | exact List.nil_sublist _ | apply List.Sublist.cons_cons | apply List.Sublist.cons)); done) | (refine keep_sub (List.Sublist.trans ?_ (List.sublist_append_right _ _)); (repeat (first | exact List.Sublist.refl _ | exact List.nil_sublist _ | apply List.Sublist.cons_cons | apply List.Sublist.cons)); done))) rfl rfl ?_
                  rintro _ _ ⟨rfl, rfl⟩
                  refine o_s (S_st rfl gt_ sz3 (by rfl) (by repeat (first | exact Upd.head | apply Upd.tail)) (by first | (simp only [Nat.zero_add, Nat.reduceAdd, List.set_cons_succ, List.set_cons_zero]; rfl) | rfl) (by first | (simp; done) | omega)) (by first | exact keep_no rfl | (refine keep_sub ?_; (repeat (first | exact List.Sublist.refl _ | exact List.nil_sublist _ | apply List.Sublist.cons_cons | apply List.Sublist.cons)); done) | (refine keep_sub (List.Sublist.trans ?_ (List.sublist_append_right _ _)); (repeat (first | exact List.Sublist.refl _ | exact List.nil_sublist _ | apply List.Sublist.cons_cons | apply List.Sublist.cons)); done)) rfl ?_
                  refine o_y (Y_fa 3 rfl Try.underlying57 rfl sz3 rfl) rfl rfl ?_
                  refine o_s (S_st rfl gt_ sz3 (by rfl) (by repeat (first | exact Upd.head | apply Upd.tail)) (by first | (simp only [Nat.zero_add, Nat.reduceAdd, List.set_cons_succ, List.set_cons_zero]; rfl) | rfl) (by first | (simp; done) | omega)) (by first | exact keep_no rfl | (refine keep_sub ?_; (repeat (first | exact List.Sublist.refl _ | exact List.nil_sublist _ | apply List.Sublist.cons_cons | apply List.Sublist.cons)); done) | (refine keep_sub (List.Sublist.trans ?_ (List.sublist_append_right _ _)); (repeat (first | exact List.Sublist.refl _ | exact List.nil_sublist _ | apply List.Sublist.cons_cons | apply List.Sublist.cons)); done)) rfl ?_
                  refine o_nil ?_
                  refine q_then ?_
                  refine c_seq ?_
                  refine c_reg ?_
                  refine s_y (Y_mv) rfl rfl ?_
                  refine s_y (Y_mv) rfl rfl ?_
                  refine s_y (Y_ia rfl rfl Try.underlying23 sz57 rfl (by omega)) rfl rfl ?_
                  refine s_y (Y_fa 2 rfl Try.underlying57 rfl sz3 rfl) rfl rfl ?_
                  refine s_y ((by first | exact Y_load rfl one3 mm_ (by rfl) | exact Y_loadR rfl one3 hr rfl rfl | exact Y_loadR rfl one3 hr2 rfl rfl | exact Y_load rfl one3 mm_ (eget he rfl) | exact Y_load rfl one3 mm_ (iget hx rfl) | exact Y_load rfl one3 mm_ (by assumption) | exact Y_loadR rfl one3 (by assumption) rfl (by assumption))) rfl rfl ?_
                  refine s_y ((by first | exact Y_rem rfl rfl (by omega) | exact Y_remw rfl rfl (by omega))) rfl rfl ?_
                  refine s_y (Y_eql rfl rfl) rfl rfl ?_
                  refine s_nil ?_
                  refine q_then ?_
                  first | refine c_cond' rfl (fun hc29 => ?_) (fun hc29 => ?_) | refine c_cond rfl (fun hc29 => ?_) (fun hc29 => ?_)
                  · skip
                    try simp only [nrm_] at hc29
                    refine c_reg ?_
                    refine s_y (Y_mv) rfl rfl ?_
                    refine s_y (Y_fa 2 rfl Try.underlying57 rfl sz3 rfl) rfl rfl ?_
                    refine s_s (S_st rfl gt_ sz3 (by rfl) (by repeat (first | exact Upd.head | apply Upd.tail)) (by first | (simp only [Nat.zero_add, Nat.reduceAdd, List.set_cons_succ, List.set_cons_zero]; rfl) | rfl) (by first | (simp; done) | omega)) rfl ?_
                    refine s_nil ?_
                    refine q_bn ?_
                    exact go ⟨k1, w1, ss, lx.b % 4⟩ _ _ ⟨by show _ ≤ lx.b % 4; omega, by show lx.b % 4 ≤ _; omega⟩ trivial rfl (fun w h => h)
                  · skip
                    try simp only [nrm_] at hc29
                    refine c_skip ?_
                    refine q_bn ?_
                    exact go ⟨k1, w1, lx.a % 4, lx.b % 4⟩ _ _ ⟨by show _ ≤ lx.b % 4; omega, by show lx.b % 4 ≤ _; omega⟩ trivial rfl (fun w h => h)
                · skip
                  try simp only [nrm_] at hc27
                  refine c_seq ?_
                  refine c_reg ?_
                  refine s_y (Y_eql rfl rfl) rfl rfl ?_
                  refine s_y (Y_as) rfl rfl ?_
                  refine s_nil ?_
                  refine q_then ?_
                  first | refine c_cond' rfl (fun hc31 => ?_) (fun hc31 => ?_) | refine c_cond rfl (fun hc31 => ?_) (fun hc31 => ?_)
                  · skip
                    try simp only [nrm_] at hc31
                    refine c_seq ?_
                    obtain ⟨k3, hk3⟩ : ∃ x : Int, 2 + lx.kind % 2 = x := ⟨_, rfl⟩
                    refine c_reg ?_
                    refine s_y (Y_mv) rfl rfl ?_
                    refine s_y (Y_mv) rfl rfl ?_
                    refine s_y (Y_ia rfl rfl Try.underlying23 sz57 rfl (by omega)) rfl rfl ?_
                    refine s_y (Y_fa 0 rfl Try.underlying57 rfl sz3 rfl) rfl rfl ?_
                    refine s_y ((by first | exact Y_load rfl one3 mm_ (by rfl) | exact Y_loadR rfl one3 hr rfl rfl | exact Y_loadR rfl one3 hr2 rfl rfl | exact Y_load rfl one3 mm_ (eget he rfl) | exact Y_load rfl one3 mm_ (iget hx rfl) | exact Y_load rfl one3 mm_ (by assumption) | exact Y_loadR rfl one3 (by assumption) rfl (by assumption))) rfl rfl ?_
                    refine s_c (En_call (fun _ => rfl) Try.func35 rfl (by kernel_rfl) rfl) (fun w hH => l7within_d (by decide)) rfl rfl ?_
                    rintro _ _ ⟨rfl, rfl⟩
                    refine s_y ((Y_add rfl rfl (by omega)).num hk3) rfl rfl ?_
                    refine s_y (Y_fa 0 rfl Try.underlying57 rfl sz3 rfl) rfl rfl ?_
                    refine s_s (S_st rfl gt_ sz3 (by rfl) (by repeat (first | exact Upd.head | apply Upd.tail)) (by first | (simp only [Nat.zero_add, Nat.reduceAdd, List.set_cons_succ, List.set_cons_zero]; rfl) | rfl) (by first | (simp; done) | omega)) rfl ?_
                    refine s_nil ?_
                    refine q_then ?_
                    refine c_reg ?_
                    refine s_y (Y_mv) rfl rfl ?_
                    refine s_y (Y_fa 0 rfl Try.underlying57 rfl sz3 rfl) rfl rfl ?_
                    refine s_y ((by first | exact Y_load rfl one3 mm_ (by rfl) | exact Y_loadR rfl one3 hr rfl rfl | exact Y_loadR rfl one3 hr2 rfl rfl | exact Y_load rfl one3 mm_ (eget he rfl) | exact Y_load rfl one3 mm_ (iget hx rfl) | exact Y_load rfl one3 mm_ (by assumption) | exact Y_loadR rfl one3 (by assumption) rfl (by assumption))) rfl rfl ?_
                    refine s_y ((by first | exact Y_sub rfl rfl (by omega) | exact Y_subw rfl rfl)) rfl rfl ?_
                    refine s_y (Y_fa 2 rfl Try.underlying57 rfl sz3 rfl) rfl rfl ?_
                    refine s_s (S_st rfl gt_ sz3 (by rfl) (by repeat (first | exact Upd.head | apply Upd.tail)) (by first | (simp only [Nat.zero_add, Nat.reduceAdd, List.set_cons_succ, List.set_cons_zero]; rfl) | rfl) (by first | (simp; done) | omega)) rfl ?_
                    refine s_y (Y_fa 3 rfl Try.underlying57 rfl sz3 rfl) rfl rfl ?_
                    refine s_s (S_st rfl gt_ sz3 (by rfl) (by repeat (first | exact Upd.head | apply Upd.tail)) (by first | (simp only [Nat.zero_add, Nat.reduceAdd, List.set_cons_succ, List.set_cons_zero]; rfl) | rfl) (by first | (simp; done) | omega)) rfl ?_
                    refine s_nil ?_
                    refine q_bn ?_
                    exact go ⟨k3, w1, ss, k3 - 2⟩ _ _ ⟨by show _ ≤ k3 - 2; omega, by show k3 - 2 ≤ _; omega⟩ trivial rfl (fun w h => h)
                  · skip
                    try simp only [nrm_] at hc31
                    refine c_seq ?_
                    refine c_reg ?_
                    refine s_y (Y_eql rfl rfl) rfl rfl ?_
                    refine s_y (Y_as) rfl rfl ?_
                    refine s_nil ?_
                    refine q_then ?_
                    first | refine c_cond' rfl (fun hc34 => ?_) (fun hc34 => ?_) | refine c_cond rfl (fun hc34 => ?_) (fun hc34 => ?_)
                    · skip
                      try simp only [nrm_] at hc34
                      refine c_reg ?_
                      refine s_y (Y_mv) rfl rfl ?_
                      refine s_y (Y_mv) rfl rfl ?_
                      refine s_y (Y_ia rfl rfl Try.underlying23 sz57 rfl (by omega)) rfl rfl ?_
                      refine s_y (Y_fa 2 rfl Try.underlying57 rfl sz3 rfl) rfl rfl ?_
                      refine s_y ((by first | exact Y_load rfl one3 mm_ (by rfl) | exact Y_loadR rfl one3 hr rfl rfl | exact Y_loadR rfl one3 hr2 rfl rfl | exact Y_load rfl one3 mm_ (eget he rfl) | exact Y_load rfl one3 mm_ (iget hx rfl) | exact Y_load rfl one3 mm_ (by assumption) | exact Y_loadR rfl one3 (by assumption) rfl (by assumption))) rfl rfl ?_
                      refine s_c (En_call (fun _ => rfl) Try.func35 rfl (by kernel_rfl) rfl) (fun w hH => l7within_d (by decide)) rfl rfl ?_
                      rintro _ _ ⟨rfl, rfl⟩
                      refine s_y (Y_fa 2 rfl Try.underlying57 rfl sz3 rfl) rfl rfl ?_
                      refine s_s (S_st rfl gt_ sz3 (by rfl) (by repeat (first | exact Upd.head | apply Upd.tail)) (by first | (simp only [Nat.zero_add, Nat.reduceAdd, List.set_cons_succ, List.set_cons_zero]; rfl) | rfl) (by first | (simp; done) | omega)) rfl ?_
                      refine s_nil ?_
                      refine q_bn ?_
                      exact go ⟨k1, w1, lx.a % 3, 0⟩ _ _ ⟨by show (-9223372036854775808 : Int) ≤ 0; decide, by show (0 : Int) ≤ 9223372036854775807; decide⟩ trivial rfl (fun w h => h)
                    · skip
                      try simp only [nrm_] at hc34
                      refine c_skip ?_
                      refine q_bn ?_
                      exact go ⟨k1, w1, 0, 0⟩ _ _ ⟨by show (-9223372036854775808 : Int) ≤ 0; decide, by show (0 : Int) ≤ 9223372036854775807; decide⟩ trivial rfl (fun w h => h)
          · intro go
            refine c_rall (L0 := []) sl_ [16] (.take 0 (.take 1 (.take 2 (.take 3 (.take 4 (.take 7 (.take 8 (.take 9 (.take 10 (.take 11 (.alt 5 (.take 6 (.alt 12 (.take 13 (.take 14 (.one 15 (.one 16 .nil)))) (.one 15 (.one 12 (.take 13 (.take 14 (.one 16 .nil))))))) (.one 15 (.one 5 (.take 6 (.one 12 (.take 13 (.take 14 (.one 16 .nil)))))))))))))))))) (by kernel_rfl) (by kernel_rfl) (by kernel_rfl) (by kernel_rfl) (by kernel_rfl) (by intro c a d v w h; cases d <;> exact h) rfl ?_
            refine t_y (Y_mv) rfl rfl ?_
            refine t_y (Y_mv) rfl rfl ?_
            refine t_y (Y_ia rfl rfl Try.underlying23 sz57 rfl (by omega)) rfl rfl ?_
            refine t_y (Y_fa 0 rfl Try.underlying57 rfl sz3 rfl) rfl rfl ?_
            refine t_y ((by first | exact Y_load rfl one3 mm_ (by rfl) | exact Y_loadR rfl one3 hr rfl rfl | exact Y_loadR rfl one3 hr2 rfl rfl | exact Y_load rfl one3 mm_ (eget he rfl) | exact Y_load rfl one3 mm_ (iget hx rfl) | exact Y_load rfl one3 mm_ (by assumption) | exact Y_loadR rfl one3 (by assumption) rfl (by assumption))) rfl rfl ?_
            refine t_y (Y_mv) rfl rfl ?_
            refine t_y (Y_mv) rfl rfl ?_
            refine t_y (Y_ia rfl rfl Try.underlying23 sz57 rfl (by omega)) rfl rfl ?_
            refine t_y (Y_fa 1 rfl Try.underlying57 rfl sz3 rfl) rfl rfl ?_
            refine t_y ((by first | exact Y_load rfl one3 mm_ (by rfl) | exact Y_loadR rfl one3 hr rfl rfl | exact Y_loadR rfl one3 hr2 rfl rfl | exact Y_load rfl one3 mm_ (eget he rfl) | exact Y_load rfl one3 mm_ (iget hx rfl) | exact Y_load rfl one3 mm_ (by assumption) | exact Y_loadR rfl one3 (by assumption) rfl (by assumption))) rfl rfl ?_
            refine t_two ?_ ?_
            · skip
              refine t_c (En_call (fun _ => rfl) Try.func35 rfl (by kernel_rfl) rfl) (fun w hH => l7within_d (by decide)) (fun _ _ h => by obtain ⟨rfl, rfl⟩ := h; exact (by first | exact keep_no rfl | (refine keep_sub ?_; (repeat (first | exact List.Sublist.refl _ | exact List.nil_sublist _ | apply List.Sublist.cons_cons | apply List.Sublist.cons)); done) | (refine keep_sub (List.Sublist.trans ?_ (List.sublist_append_right _ _)); (repeat (first | exact List.Sublist.refl _ | exact List.nil_sublist _ | apply List.Sublist.cons_cons | apply List.Sublist.cons)); done))) rfl rfl ?_
              rintro _ _ ⟨rfl, rfl⟩
              refine t_y ((Y_add rfl rfl (by omega)).num hk1) rfl rfl ?_
              refine t_two ?_ ?_
              · skip
                refine t_c (En_call (fun _ => rfl) Try.func35 rfl (by kernel_rfl) rfl) (fun w hH => l7within_d (by decide)) (fun _ _ h => by obtain ⟨rfl, rfl⟩ := h; exact (by first | exact keep_no rfl | (refine keep_sub ?_; (repeat (first | exact List.Sublist.refl _ | exact List.nil_sublist _ | apply List.Sublist.cons_cons | apply List.Sublist.cons)); done) | (refine keep_sub (List.Sublist.trans ?_ (List.sublist_append_right _ _)); (repeat (first | exact List.Sublist.refl _ | exact List.nil_sublist _ | apply List.Sublist.cons_cons | apply List.Sublist.cons)); done))) rfl rfl ?_
                rintro _ _ ⟨rfl, rfl⟩
                refine t_y ((Y_add rfl rfl (by omega)).num hw1) rfl rfl ?_
                refine t_y (Y_build (cs := [_, _, .int .i64 0, .int .i64 0]) (by repeat (first | exact Gp.nil | apply Gp.const | apply Gp.tmp gt_)) (bld57 _ _ (by first | rfl | (simp; rfl)))) rfl rfl ?_
                refine t_n (N_alloc (z := .agg #[.int .i64 0, .int .i64 0, .int .i64 0, .int .i64 0]) (cs := [.int .i64 0, .int .i64 0, .int .i64 0, .int .i64 0]) zv57 rfl) (fun _ => (by first | exact keep_no rfl | (refine keep_sub ?_; (repeat (first | exact List.Sublist.refl _ | exact List.nil_sublist _ | apply List.Sublist.cons_cons | apply List.Sublist.cons)); done) | (refine keep_sub (List.Sublist.trans ?_ (List.sublist_append_right _ _)); (repeat (first | exact List.Sublist.refl _ | exact List.nil_sublist _ | apply List.Sublist.cons_cons | apply List.Sublist.cons)); done))) rfl rfl (fun b19 _ => ?_)
                refine t_s (S_storeA (vs := [iv k1, iv w1, iv 0, iv 0]) rfl rfl sz57 (by rfl) (by rfl) (by repeat (first | exact Upd.head | apply Upd.tail)) (by rfl)) (by first | exact keep_no rfl | (refine keep_sub ?_; (repeat (first | exact List.Sublist.refl _ | exact List.nil_sublist _ | apply List.Sublist.cons_cons | apply List.Sublist.cons)); done) | (refine keep_sub (List.Sublist.trans ?_ (List.sublist_append_right _ _)); (repeat (first | exact List.Sublist.refl _ | exact List.nil_sublist _ | apply List.Sublist.cons_cons | apply List.Sublist.cons)); done)) rfl ?_
                refine t_nil ?_
                exact go b19 _ _ trivial ⟨rfl, trivial⟩ rfl (fun w h => h.pick (by repeat (first | exact Sels.nil | apply Sels.cons (by repeat (first | exact Sel.head | apply Sel.tail)))))
              refine t_n (N_alloc (z := .agg #[.int .i64 0, .int .i64 0, .int .i64 0, .int .i64 0]) (cs := [.int .i64 0, .int .i64 0, .int .i64 0, .int .i64 0]) zv57 rfl) (fun _ => (by first | exact keep_no rfl | (refine keep_sub ?_; (repeat (first | exact List.Sublist.refl _ | exact List.nil_sublist _ | apply List.Sublist.cons_cons | apply List.Sublist.cons)); done) | (refine keep_sub (List.Sublist.trans ?_ (List.sublist_append_right _ _)); (repeat (first | exact List.Sublist.refl _ | exact List.nil_sublist _ | apply List.Sublist.cons_cons | apply List.Sublist.cons)); done))) rfl rfl (fun b19 _ => ?_)
              refine t_c (En_call (fun _ => rfl) Try.func35 rfl (by kernel_rfl) rfl) (fun w hH => l7within_d (by decide)) (fun _ _ h => by obtain ⟨rfl, rfl⟩ := h; exact (by first | exact keep_no rfl | (refine keep_sub ?_; (repeat (first | exact List.Sublist.refl _ | exact List.nil_sublist _ | apply List.Sublist.cons_cons | apply List.Sublist.cons)); done) | (refine keep_sub (List.Sublist.trans ?_ (List.sublist_append_right _ _)); (repeat (first | exact List.Sublist.refl _ | exact List.nil_sublist _ | apply List.Sublist.cons_cons | apply List.Sublist.cons)); done))) rfl rfl ?_
              rintro _ _ ⟨rfl, rfl⟩
              refine t_y ((Y_add rfl rfl (by omega)).num hw1) rfl rfl ?_
              refine t_y (Y_build (cs := [_, _, .int .i64 0, .int .i64 0]) (by repeat (first | exact Gp.nil | apply Gp.const | apply Gp.tmp gt_)) (bld57 _ _ (by first | rfl | (simp; rfl)))) rfl rfl ?_
              refine t_s (S_storeA (vs := [iv k1, iv w1, iv 0, iv 0]) rfl rfl sz57 (by rfl) (by rfl) (by repeat (first | exact Upd.head | apply Upd.tail)) (by rfl)) (by first | exact keep_no rfl | (refine keep_sub ?_; (repeat (first | exact List.Sublist.refl _ | exact List.nil_sublist _ | apply List.Sublist.cons_cons | apply List.Sublist.cons)); done) | (refine keep_sub (List.Sublist.trans ?_ (List.sublist_append_right _ _)); (repeat (first | exact List.Sublist.refl _ | exact List.nil_sublist _ | apply List.Sublist.cons_cons | apply List.Sublist.cons)); done)) rfl ?_
              refine t_nil ?_
              exact go b19 _ _ trivial ⟨rfl, trivial⟩ rfl (fun w h => h.pick (by repeat (first | exact Sels.nil | apply Sels.cons (by repeat (first | exact Sel.head | apply Sel.tail)))))
            refine t_n (N_alloc (z := .agg #[.int .i64 0, .int .i64 0, .int .i64 0, .int .i64 0]) (cs := [.int .i64 0, .int .i64 0, .int .i64 0, .int .i64 0]) zv57 rfl) (fun _ => (by first | exact keep_no rfl | (refine keep_sub ?_; (repeat (first | exact List.Sublist.refl _ | exact List.nil_sublist _ | apply List.Sublist.cons_cons | apply List.Sublist.cons)); done) | (refine keep_sub (List.Sublist.trans ?_ (List.sublist_append_right _ _)); (repeat (first | exact List.Sublist.refl _ | exact List.nil_sublist _ | apply List.Sublist.cons_cons | apply List.Sublist.cons)); done))) rfl rfl (fun b19 _ => ?_)
            refine t_c (En_call (fun _ => rfl) Try.func35 rfl (by kernel_rfl) rfl) (fun w hH => l7within_d (by decide)) (fun _ _ h => by obtain ⟨rfl, rfl⟩ := h; exact (by first | exact keep_no rfl | (refine keep_sub ?_; (repeat (first | exact List.Sublist.refl _ | exact List.nil_sublist _ | apply List.Sublist.cons_cons | apply List.Sublist.cons)); done) | (refine keep_sub (List.Sublist.trans ?_ (List.sublist_append_right _ _)); (repeat (first | exact List.Sublist.refl _ | exact List.nil_sublist _ | apply List.Sublist.cons_cons | apply List.Sublist.cons)); done))) rfl rfl ?_
            rintro _ _ ⟨rfl, rfl⟩
            refine t_y ((Y_add rfl rfl (by omega)).num hk1) rfl rfl ?_
            refine t_c (En_call (fun _ => rfl) Try.func35 rfl (by kernel_rfl) rfl) (fun w hH => l7within_d (by decide)) (fun _ _ h => by obtain ⟨rfl, rfl⟩ := h; exact (by first | exact keep_no rfl | (refine keep_sub ?_; (repeat (first | exact List.Sublist.refl _ | exact List.nil_sublist _ | apply List.Sublist.cons_cons | apply List.Sublist.cons)); done) | (refine keep_sub (List.Sublist.trans ?_ (List.sublist_append_right _ _)); (repeat (first | exact List.Sublist.refl _ | exact List.nil_sublist _ | apply List.Sublist.cons_cons | apply List.Sublist.cons)); done))) rfl rfl ?_
            rintro _ _ ⟨rfl, rfl⟩
            refine t_y ((Y_add rfl rfl (by omega)).num hw1) rfl rfl ?_
            refine t_y (Y_build (cs := [_, _, .int .i64 0, .int .i64 0]) (by repeat (first | exact Gp.nil | apply Gp.const | apply Gp.tmp gt_)) (bld57 _ _ (by first | rfl | (simp; rfl)))) rfl rfl ?_
            refine t_s (S_storeA (vs := [iv k1, iv w1, iv 0, iv 0]) rfl rfl sz57 (by rfl) (by rfl) (by repeat (first | exact Upd.head | apply Upd.tail)) (by rfl)) (by first | exact keep_no rfl | (refine keep_sub ?_; (repeat (first | exact List.Sublist.refl _ | exact List.nil_sublist _ | apply List.Sublist.cons_cons | apply List.Sublist.cons)); done) | (refine keep_sub (List.Sublist.trans ?_ (List.sublist_append_right _ _)); (repeat (first | exact List.Sublist.refl _ | exact List.nil_sublist _ | apply List.Sublist.cons_cons | apply List.Sublist.cons)); done)) rfl ?_
            refine t_nil ?_
            exact go b19 _ _ trivial ⟨rfl, trivial⟩ rfl (fun w h => h.pick (by repeat (first | exact Sels.nil | apply Sels.cons (by repeat (first | exact Sel.head | apply Sel.tail)))))
        · skip
          try simp only [nrm_] at hc18
          refine c_exit ?_
          repeat with_reducible refine q_te ?_
          refine q_exit ?_
          refine q_then ?_
          refine c_seq ?_
          refine c_reg ?_
          refine s_y ((by first | exact Y_loadAll rfl many29 mm_ (by rfl) | exact Y_loadN rfl many29 mm_ ‹_› ‹_› | exact Y_loadNR rfl many29 hr rfl | exact Y_loadNR rfl many29 hr2 rfl | exact Y_loadNR rfl many29 ‹_› rfl)) rfl rfl ?_
          refine s_s ((by first | exact S_storeA rfl rfl sz29 (by first | rfl | assumption) (by first | rfl | assumption) (by repeat (first | exact Upd.head | apply Upd.tail)) (by first | rfl | assumption) | exact S_storeN rfl rfl sz29 (by rfl) (by first | rfl | assumption) (by repeat (first | exact Upd.head | apply Upd.tail)) (by simp only [setAll, List.set_cons_zero, List.set_cons_succ, Nat.zero_add, Nat.reduceAdd]; rfl) (by first | rfl | assumption))) rfl ?_
          refine s_nil ?_
          refine q_then ?_
          refine c_ret ?_
          refine QL.pick (L' := [wB b12 (wcD seed 0 fl 0 (.slice (some ⟨cb, 0, none⟩) 384 384) (.slice (some ⟨b30, 0, none⟩) 32 32) (.slice (some ⟨b31, 0, none⟩) 40 40) g), cB cb 384 cs, eB b30 32 es, iB b31 40 its]) (by repeat (first | exact Sels.nil | apply Sels.cons (by repeat (first | exact Sel.head | apply Sel.tail)))) ?_
          refine q_ret1c rfl rfl many29 mm_ (by rfl) (L' := [cB cb 384 cs, eB b30 32 es, iB b31 40 its]) sl_ ⟨⟨seed, 0, fl, 0, cs, es, its, g⟩, hok, hml, hesl, hil, cb, 384, b30, 32, b31, 40, wv_eq (d := ⟨seed, 0, fl, 0, cs, es, its, g⟩) (s := ⟨cb, 0, 384, b30, 0, 32, b31, 0, 40⟩) hml hesl hil rfl, rfl, by show cs.length ≤ 384; omega, by show es.length ≤ 32; omega, by show its.length ≤ 40; omega⟩
      · intro go
        refine c_seq ?_
        refine c_reg ?_
        refine s_y (Y_mv) rfl rfl ?_
        refine s_y ((by first | exact Y_rem rfl rfl (by omega) | exact Y_remw rfl rfl (by omega))) rfl rfl ?_
        refine s_y (Y_eql rfl rfl) rfl rfl ?_
        refine s_y (Y_mv) rfl rfl ?_
        apply s_and 5 [60, 61, 62, 63, 64, 65] 65 (g := 60) rfl rfl
        · intro ht4 hm
          try simp only [nrm_] at ht4
          first | refine s_y (Y_fa 4 rfl Try.underlying29 rfl sz25 rfl) rfl rfl ?_ | refine s_pass rfl rfl ?_
          first | refine s_y ((by first | exact Y_load rfl one25 mm_ (by rfl) | exact Y_loadR rfl one25 hr rfl rfl | exact Y_loadR rfl one25 hr2 rfl rfl | exact Y_load rfl one25 mm_ (eget he rfl) | exact Y_load rfl one25 mm_ (iget hx rfl) | exact Y_load rfl one25 mm_ (by assumption) | exact Y_loadR rfl one25 (by assumption) rfl (by assumption))) rfl rfl ?_ | refine s_pass rfl rfl ?_
          refine s_c (En_call (fun _ => rfl) Try.func36 rfl (by kernel_rfl) rfl) (fun w hH => rfind_d ((hH.at' (x := cB cb 384 cs) mm_).sl (by rw [List.length_map]; omega) (Nat.le_refl _))) rfl rfl ?_
          rintro _ _ ⟨rfl, rfl⟩
          first | refine s_y (Y_geq rfl rfl) rfl rfl ?_ | refine s_pass rfl rfl ?_
          refine s_y (Y_pk rfl (Gx.tmp gt_) Gx.const) rfl rfl ?_
          first | exact hm _ ⟨rfl, trivial⟩ rfl | exact QL.sub sl_ (hm _ ⟨rfl, trivial⟩ rfl)
        · intro ht4 hm
          iterate 4 refine s_pass rfl rfl ?_
          refine s_y (Y_pk rfl (Gx.tmp gt_) Gx.const) rfl rfl ?_
          exact hm _ ⟨rfl, trivial⟩ rfl
        intro j65
        refine s_nil ?_
        refine q_then ?_
        first | refine c_cond' rfl (fun hc11 => ?_) (fun hc11 => ?_) | refine c_cond rfl (fun hc11 => ?_) (fun hc11 => ?_)
        · skip
          try simp only [nrm_] at hc11
          refine c_reg ?_
          refine s_y (Y_fa 4 rfl Try.underlying29 rfl sz25 rfl) rfl rfl ?_
          refine s_y ((by first | exact Y_load rfl one25 mm_ (by rfl) | exact Y_loadR rfl one25 hr rfl rfl | exact Y_loadR rfl one25 hr2 rfl rfl | exact Y_load rfl one25 mm_ (eget he rfl) | exact Y_load rfl one25 mm_ (iget hx rfl) | exact Y_load rfl one25 mm_ (by assumption) | exact Y_loadR rfl one25 (by assumption) rfl (by assumption))) rfl rfl ?_
          refine s_c (En_call (fun _ => rfl) Try.func36 rfl (by kernel_rfl) rfl) (fun w hH => rfind_d ((hH.at' (x := cB cb 384 cs) mm_).sl (by rw [List.length_map]; omega) (Nat.le_refl _))) rfl rfl ?_
          rintro _ _ ⟨rfl, rfl⟩
          refine s_y (Y_as) rfl rfl ?_
          refine s_nil ?_
          obtain ⟨z2, hz2, hz3⟩ := find_lt (cells := cs) (k := 5) (by omega)
          rw [hz2]
          exact go z2 _ _ hz3 ⟨rfl, trivial⟩ rfl (fun w h => h.pick (by repeat (first | exact Sels.nil | apply Sels.cons (by repeat (first | exact Sel.head | apply Sel.tail)))))
        · skip
          try simp only [nrm_] at hc11
          refine c_skip ?_
          exact go z0 _ _ hz0 ⟨rfl, trivial⟩ rfl (fun w h => h.pick (by repeat (first | exact Sels.nil | apply Sels.cons (by repeat (first | exact Sel.head | apply Sel.tail)))))
  · intro go
    refine c_rall (L0 := []) sl_ [10] (.take 0 (.take 1 (.take 2 (.take 3 (.alt 4 (.take 5 (.alt 6 (.alt 7 (.take 8 (.one 9 (.one 10 .nil))) (.one 9 (.one 7 (.take 8 (.one 10 .nil))))) (.alt 7 (.alt 6 (.take 8 (.one 9 (.one 10 .nil))) (.one 9 (.one 6 (.take 8 (.one 10 .nil))))) (.one 9 (.alt 6 (.one 7 (.take 8 (.one 10 .nil))) (.one 7 (.one 6 (.take 8 (.one 10 .nil))))))))) (.alt 6 (.alt 4 (.take 5 (.alt 7 (.take 8 (.one 9 (.one 10 .nil))) (.one 9 (.one 7 (.take 8 (.one 10 .nil)))))) (.alt 7 (.alt 4 (.take 5 (.take 8 (.one 9 (.one 10 .nil)))) (.one 9 (.one 4 (.take 5 (.take 8 (.one 10 .nil)))))) (.one 9 (.alt 4 (.take 5 (.one 7 (.take 8 (.one 10 .nil)))) (.one 7 (.one 4 (.take 5 (.take 8 (.one 10 .nil))))))))) (.alt 7 (.alt 4 (.take 5 (.alt 6 (.take 8 (.one 9 (.one 10 .nil))) (.one 9 (.one 6 (.take 8 (.one 10 .nil)))))) (.alt 6 (.alt 4 (.take 5 (.take 8 (.one 9 (.one 10 .nil)))) (.one 9 (.one 4 (.take 5 (.take 8 (.one 10 .nil)))))) (.one 9 (.alt 4 (.take 5 (.one 6 (.take 8 (.one 10 .nil)))) (.one 6 (.one 4 (.take 5 (.take 8 (.one 10 .nil))))))))) (.one 9 (.alt 4 (.take 5 (.alt 6 (.one 7 (.take 8 (.one 10 .nil))) (.one 7 (.one 6 (.take 8 (.one 10 .nil)))))) (.alt 6 (.alt 4 (.take 5 (.one 7 (.take 8 (.one 10 .nil)))) (.one 7 (.one 4 (.take 5 (.take 8 (.one 10 .nil)))))) (.one 7 (.alt 4 (.take 5 (.one 6 (.take 8 (.one 10 .nil)))) (.one 6 (.one 4 (.take 5 (.take 8 (.one 10 .nil))))))))))))))))) (by kernel_rfl) (by kernel_rfl) (by kernel_rfl) (by kernel_rfl) (by kernel_rfl) (by intro c a d v w h; cases d <;> exact h) rfl ?_
    refine t_y (Y_mv) rfl rfl ?_
    refine t_y (Y_mv) rfl rfl ?_
    refine t_y (Y_mv) rfl rfl ?_
    refine t_y (Y_mv) rfl rfl ?_
    refine t_two ?_ ?_
    · skip
      refine t_c (En_call (fun _ => rfl) Try.func30 rfl (by kernel_rfl) rfl) (fun w hH => rmakeC_d hfr) (fun _ _ h => by obtain ⟨cb, ev, iv', rfl, rfl⟩ := h; exact (by first | exact keep_no rfl | (refine keep_sub ?_; (repeat (first | exact List.Sublist.refl _ | exact List.nil_sublist _ | apply List.Sublist.cons_cons | apply List.Sublist.cons)); done) | (refine keep_sub (List.Sublist.trans ?_ (List.sublist_append_right _ _)); (repeat (first | exact List.Sublist.refl _ | exact List.nil_sublist _ | apply List.Sublist.cons_cons | apply List.Sublist.cons)); done))) rfl rfl ?_
      rintro _ _ ⟨cb, ev, iv', rfl, rfl⟩
      refine t_y (Y_field rfl Try.underlying63 rfl one25 rfl) rfl rfl ?_
      refine t_two ?_ ?_
      · skip
        refine t_n (N_makeU (n := 32) (u0 := .int .i64 0) rfl rfl Try.underlying26 inf48 rfl (by omega) rfl (by omega) (by omega)) (fun _ => (by first | exact keep_no rfl | (refine keep_sub ?_; (repeat (first | exact List.Sublist.refl _ | exact List.nil_sublist _ | apply List.Sublist.cons_cons | apply List.Sublist.cons)); done) | (refine keep_sub (List.Sublist.trans ?_ (List.sublist_append_right _ _)); (repeat (first | exact List.Sublist.refl _ | exact List.nil_sublist _ | apply List.Sublist.cons_cons | apply List.Sublist.cons)); done))) rfl rfl (fun b30 _ => ?_)
        refine t_two ?_ ?_
        · skip
          refine t_n (N_makeU (n := 40) (u0 := .int .i64 0) rfl rfl Try.underlying23 inf57 rfl (by omega) rfl (by omega) (by omega)) (fun _ => (by first | exact keep_no rfl | (refine keep_sub ?_; (repeat (first | exact List.Sublist.refl _ | exact List.nil_sublist _ | apply List.Sublist.cons_cons | apply List.Sublist.cons)); done) | (refine keep_sub (List.Sublist.trans ?_ (List.sublist_append_right _ _)); (repeat (first | exact List.Sublist.refl _ | exact List.nil_sublist _ | apply List.Sublist.cons_cons | apply List.Sublist.cons)); done))) rfl rfl (fun b31 _ => ?_)
          refine t_y (Y_build (cs := wcD seed 0 fl 0 (.slice (some ⟨cb, 0, none⟩) 384 384) (.slice (some ⟨b30, 0, none⟩) 32 32) (.slice (some ⟨b31, 0, none⟩) 40 40) ⟨0, 0, 0, 0⟩) (by repeat (first | exact Gp.nil | apply Gp.const | apply Gp.tmp gt_)) (bld29 _ _ (by kernel_rfl))) rfl rfl ?_
          refine t_n (N_alloc (z := .agg #[.int .i64 0, .int .i64 0, .int .i64 0, .int .i64 0, .slice none 0 0, .slice none 0 0, .slice none 0 0, .int .i64 0, .int .i64 0, .int .i64 0, .int .i64 0]) (cs := [.int .i64 0, .int .i64 0, .int .i64 0, .int .i64 0, .slice none 0 0, .slice none 0 0, .slice none 0 0, .int .i64 0, .int .i64 0, .int .i64 0, .int .i64 0]) zv29 rfl) (fun _ => (by first | exact keep_no rfl | (refine keep_sub ?_; (repeat (first | exact List.Sublist.refl _ | exact List.nil_sublist _ | apply List.Sublist.cons_cons | apply List.Sublist.cons)); done) | (refine keep_sub (List.Sublist.trans ?_ (List.sublist_append_right _ _)); (repeat (first | exact List.Sublist.refl _ | exact List.nil_sublist _ | apply List.Sublist.cons_cons | apply List.Sublist.cons)); done))) rfl rfl (fun b13 _ => ?_)
          refine t_s (S_storeA (vs := wcD seed 0 fl 0 (.slice (some ⟨cb, 0, none⟩) 384 384) (.slice (some ⟨b30, 0, none⟩) 32 32) (.slice (some ⟨b31, 0, none⟩) 40 40) ⟨0, 0, 0, 0⟩) rfl rfl sz29 (by rfl) (by rfl) (by repeat (first | exact Upd.head | apply Upd.tail)) (by rfl)) (by first | exact keep_no rfl | (refine keep_sub ?_; (repeat (first | exact List.Sublist.refl _ | exact List.nil_sublist _ | apply List.Sublist.cons_cons | apply List.Sublist.cons)); done) | (refine keep_sub (List.Sublist.trans ?_ (List.sublist_append_right _ _)); (repeat (first | exact List.Sublist.refl _ | exact List.nil_sublist _ | apply List.Sublist.cons_cons | apply List.Sublist.cons)); done)) rfl ?_
          refine t_nil ?_
          exact go (b13, cb, b30, b31) _ _ trivial ⟨rfl, trivial⟩ rfl (fun w h => h.pick (by repeat (first | exact Sels.nil | apply Sels.cons (by repeat (first | exact Sel.head | apply Sel.tail)))))
        refine t_n (N_alloc (z := .agg #[.int .i64 0, .int .i64 0, .int .i64 0, .int .i64 0, .slice none 0 0, .slice none 0 0, .slice none 0 0, .int .i64 0, .int .i64 0, .int .i64 0, .int .i64 0]) (cs := [.int .i64 0, .int .i64 0, .int .i64 0, .int .i64 0, .slice none 0 0, .slice none 0 0, .slice none 0 0, .int .i64 0, .int .i64 0, .int .i64 0, .int .i64 0]) zv29 rfl) (fun _ => (by first | exact keep_no rfl | (refine keep_sub ?_; (repeat (first | exact List.Sublist.refl _ | exact List.nil_sublist _ | apply List.Sublist.cons_cons | apply List.Sublist.cons)); done) | (refine keep_sub (List.Sublist.trans ?_ (List.sublist_append_right _ _)); (repeat (first | exact List.Sublist.refl _ | exact List.nil_sublist _ | apply List.Sublist.cons_cons | apply List.Sublist.cons)); done))) rfl rfl (fun b13 _ => ?_)
        refine t_n (N_makeU (n := 40) (u0 := .int .i64 0) rfl rfl Try.underlying23 inf57 rfl (by omega) rfl (by omega) (by omega)) (fun _ => (by first | exact keep_no rfl | (refine keep_sub ?_; (repeat (first | exact List.Sublist.refl _ | exact List.nil_sublist _ | apply List.Sublist.cons_cons | apply List.Sublist.cons)); done) | (refine keep_sub (List.Sublist.trans ?_ (List.sublist_append_right _ _)); (repeat (first | exact List.Sublist.refl _ | exact List.nil_sublist _ | apply List.Sublist.cons_cons | apply List.Sublist.cons)); done))) rfl rfl (fun b31 _ => ?_)
        refine t_y (Y_build (cs := wcD seed 0 fl 0 (.slice (some ⟨cb, 0, none⟩) 384 384) (.slice (some ⟨b30, 0, none⟩) 32 32) (.slice (some ⟨b31, 0, none⟩) 40 40) ⟨0, 0, 0, 0⟩) (by repeat (first | exact Gp.nil | apply Gp.const | apply Gp.tmp gt_)) (bld29 _ _ (by kernel_rfl))) rfl rfl ?_
        refine t_s (S_storeA (vs := wcD seed 0 fl 0 (.slice (some ⟨cb, 0, none⟩) 384 384) (.slice (some ⟨b30, 0, none⟩) 32 32) (.slice (some ⟨b31, 0, none⟩) 40 40) ⟨0, 0, 0, 0⟩) rfl rfl sz29 (by rfl) (by rfl) (by repeat (first | exact Upd.head | apply Upd.tail)) (by rfl)) (by first | exact keep_no rfl | (refine keep_sub ?_; (repeat (first | exact List.Sublist.refl _ | exact List.nil_sublist _ | apply List.Sublist.cons_cons | apply List.Sublist.cons)); done) | (refine keep_sub (List.Sublist.trans ?_ (List.sublist_append_right _ _)); (repeat (first | exact List.Sublist.refl _ | exact List.nil_sublist _ | apply List.Sublist.cons_cons | apply List.Sublist.cons)); done)) rfl ?_
        refine t_nil ?_
        exact go (b13, cb, b30, b31) _ _ trivial ⟨rfl, trivial⟩ rfl (fun w h => h.pick (by repeat (first | exact Sels.nil | apply Sels.cons (by repeat (first | exact Sel.head | apply Sel.tail)))))
      refine t_two ?_ ?_
      · skip
        refine t_n (N_makeU (n := 40) (u0 := .int .i64 0) rfl rfl Try.underlying23 inf57 rfl (by omega) rfl (by omega) (by omega)) (fun _ => (by first | exact keep_no rfl | (refine keep_sub ?_; (repeat (first | exact List.Sublist.refl _ | exact List.nil_sublist _ | apply List.Sublist.cons_cons | apply List.Sublist.cons)); done) | (refine keep_sub (List.Sublist.trans ?_ (List.sublist_append_right _ _)); (repeat (first | exact List.Sublist.refl _ | exact List.nil_sublist _ | apply List.Sublist.cons_cons | apply List.Sublist.cons)); done))) rfl rfl (fun b31 _ => ?_)
        refine t_two ?_ ?_
        · skip
          refine t_n (N_makeU (n := 32) (u0 := .int .i64 0) rfl rfl Try.underlying26 inf48 rfl (by omega) rfl (by omega) (by omega)) (fun _ => (by first | exact keep_no rfl | (refine keep_sub ?_; (repeat (first | exact List.Sublist.refl _ | exact List.nil_sublist _ | apply List.Sublist.cons_cons | apply List.Sublist.cons)); done) | (refine keep_sub (List.Sublist.trans ?_ (List.sublist_append_right _ _)); (repeat (first | exact List.Sublist.refl _ | exact List.nil_sublist _ | apply List.Sublist.cons_cons | apply List.Sublist.cons)); done))) rfl rfl (fun b30 _ => ?_)
          refine t_y (Y_build (cs := wcD seed 0 fl 0 (.slice (some ⟨cb, 0, none⟩) 384 384) (.slice (some ⟨b30, 0, none⟩) 32 32) (.slice (some ⟨b31, 0, none⟩) 40 40) ⟨0, 0, 0, 0⟩) (by repeat (first | exact Gp.nil | apply Gp.const | apply Gp.tmp gt_)) (bld29 _ _ (by kernel_rfl))) rfl rfl ?_
          refine t_n (N_alloc (z := .agg #[.int .i64 0, .int .i64 0, .int .i64 0, .int .i64 0, .slice none 0 0, .slice none 0 0, .slice none 0 0, .int .i64 0, .int .i64 0, .int .i64 0, .int .i64 0]) (cs := [.int .i64 0, .int .i64 0, .int .i64 0, .int .i64 0, .slice none 0 0, .slice none 0 0, .slice none 0 0, .int .i64 0, .int .i64 0, .int .i64 0, .int .i64 0]) zv29 rfl) (fun _ => (by first | exact keep_no rfl | (refine keep_sub ?_; (repeat (first | exact List.Sublist.refl _ | exact List.nil_sublist _ | apply List.Sublist.cons_cons | apply List.Sublist.cons)); done) | (refine keep_sub (List.Sublist.trans ?_ (List.sublist_append_right _ _)); (repeat (first | exact List.Sublist.refl _ | exact List.nil_sublist _ | apply List.Sublist.cons_cons | apply List.Sublist.cons)); done))) rfl rfl (fun b13 _ => ?_)
          refine t_s (S_storeA (vs := wcD seed 0 fl 0 (.slice (some ⟨cb, 0, none⟩) 384 384) (.slice (some ⟨b30, 0, none⟩) 32 32) (.slice (some ⟨b31, 0, none⟩) 40 40) ⟨0, 0, 0, 0⟩) rfl rfl sz29 (by rfl) (by rfl) (by repeat (first | exact Upd.head | apply Upd.tail)) (by rfl)) (by first | exact keep_no rfl | (refine keep_sub ?_; (repeat (first | exact List.Sublist.refl _ | exact List.nil_sublist _ | apply List.Sublist.cons_cons | apply List.Sublist.cons)); done) | (refine keep_sub (List.Sublist.trans ?_ (List.sublist_append_right _ _)); (repeat (first | exact List.Sublist.refl _ | exact List.nil_sublist _ | apply List.Sublist.cons_cons | apply List.Sublist.cons)); done)) rfl ?_
          refine t_nil ?_
          exact go (b13, cb, b30, b31) _ _ trivial ⟨rfl, trivial⟩ rfl (fun w h => h.pick (by repeat (first | exact Sels.nil | apply Sels.cons (by repeat (first | exact Sel.head | apply Sel.tail)))))
        refine t_n (N_alloc (z := .agg #[.int .i64 0, .int .i64 0, .int .i64 0, .int .i64 0, .slice none 0 0, .slice none 0 0, .slice none 0 0, .int .i64 0, .int .i64 0, .int .i64 0, .int .i64 0]) (cs := [.int .i64 0, .int .i64 0, .int .i64 0, .int .i64 0, .slice none 0 0, .slice none 0 0, .slice none 0 0, .int .i64 0, .int .i64 0, .int .i64 0, .int .i64 0]) zv29 rfl) (fun _ => (by first | exact keep_no rfl | (refine keep_sub ?_; (repeat (first | exact List.Sublist.refl _ | exact List.nil_sublist _ | apply List.Sublist.cons_cons | apply List.Sublist.cons)); done) | (refine keep_sub (List.Sublist.trans ?_ (List.sublist_append_right _ _)); (repeat (first | exact List.Sublist.refl _ | exact List.nil_sublist _ | apply List.Sublist.cons_cons | apply List.Sublist.cons)); done))) rfl rfl (fun b13 _ => ?_)
        refine t_n (N_makeU (n := 32) (u0 := .int .i64 0) rfl rfl Try.underlying26 inf48 rfl (by omega) rfl (by omega) (by omega)) (fun _ => (by first | exact keep_no rfl | (refine keep_sub ?_; (repeat (first | exact List.Sublist.refl _ | exact List.nil_sublist _ | apply List.Sublist.cons_cons | apply List.Sublist.cons)); done) | (refine keep_sub (List.Sublist.trans ?_ (List.sublist_append_right _ _)); (repeat (first | exact List.Sublist.refl _ | exact List.nil_sublist _ | apply List.Sublist.cons_cons | apply List.Sublist.cons)); done))) rfl rfl (fun b30 _ => ?_)
        refine t_y (Y_build (cs := wcD seed 0 fl 0 (.slice (some ⟨cb, 0, none⟩) 384 384) (.slice (some ⟨b30, 0, none⟩) 32 32) (.slice (some ⟨b31, 0, none⟩) 40 40) ⟨0, 0, 0, 0⟩) (by repeat (first | exact Gp.nil | apply Gp.const | apply Gp.tmp gt_)) (bld29 _ _ (by kernel_rfl))) rfl rfl ?_
        refine t_s (S_storeA (vs := wcD seed 0 fl 0 (.slice (some ⟨cb, 0, none⟩) 384 384) (.slice (some ⟨b30, 0, none⟩) 32 32) (.slice (some ⟨b31, 0, none⟩) 40 40) ⟨0, 0, 0, 0⟩) rfl rfl sz29 (by rfl) (by rfl) (by repeat (first | exact Upd.head | apply Upd.tail)) (by rfl)) (by first | exact keep_no rfl | (refine keep_sub ?_; (repeat (first | exact List.Sublist.refl _ | exact List.nil_sublist _ | apply List.Sublist.cons_cons | apply List.Sublist.cons)); done) | (refine keep_sub (List.Sublist.trans ?_ (List.sublist_append_right _ _)); (repeat (first | exact List.Sublist.refl _ | exact List.nil_sublist _ | apply List.Sublist.cons_cons | apply List.Sublist.cons)); done)) rfl ?_
        refine t_nil ?_
        exact go (b13, cb, b30, b31) _ _ trivial ⟨rfl, trivial⟩ rfl (fun w h => h.pick (by repeat (first | exact Sels.nil | apply Sels.cons (by repeat (first | exact Sel.head | apply Sel.tail)))))
      refine t_n (N_alloc (z := .agg #[.int .i64 0, .int .i64 0, .int .i64 0, .int .i64 0, .slice none 0 0, .slice none 0 0, .slice none 0 0, .int .i64 0, .int .i64 0, .int .i64 0, .int .i64 0]) (cs := [.int .i64 0, .int .i64 0, .int .i64 0, .int .i64 0, .slice none 0 0, .slice none 0 0, .slice none 0 0, .int .i64 0, .int .i64 0, .int .i64 0, .int .i64 0]) zv29 rfl) (fun _ => (by first | exact keep_no rfl | (refine keep_sub ?_; (repeat (first | exact List.Sublist.refl _ | exact List.nil_sublist _ | apply List.Sublist.cons_cons | apply List.Sublist.cons)); done) | (refine keep_sub (List.Sublist.trans ?_ (List.sublist_append_right _ _)); (repeat (first | exact List.Sublist.refl _ | exact List.nil_sublist _ | apply List.Sublist.cons_cons | apply List.Sublist.cons)); done))) rfl rfl (fun b13 _ => ?_)
      refine t_two ?_ ?_
      · skip
        refine t_n (N_makeU (n := 32) (u0 := .int .i64 0) rfl rfl Try.underlying26 inf48 rfl (by omega) rfl (by omega) (by omega)) (fun _ => (by first | exact keep_no rfl | (refine keep_sub ?_; (repeat (first | exact List.Sublist.refl _ | exact List.nil_sublist _ | apply List.Sublist.cons_cons | apply List.Sublist.cons)); done) | (refine keep_sub (List.Sublist.trans ?_ (List.sublist_append_right _ _)); (repeat (first | exact List.Sublist.refl _ | exact List.nil_sublist _ | apply List.Sublist.cons_cons | apply List.Sublist.cons)); done))) rfl rfl (fun b30 _ => ?_)
        refine t_n (N_makeU (n := 40) (u0 := .int .i64 0) rfl rfl Try.underlying23 inf57 rfl (by omega) rfl (by omega) (by omega)) (fun _ => (by first | exact keep_no rfl | (refine keep_sub ?_; (repeat (first | exact List.Sublist.refl _ | exact List.nil_sublist _ | apply List.Sublist.cons_cons | apply List.Sublist.cons)); done) | (refine keep_sub (List.Sublist.trans ?_ (List.sublist_append_right _ _)); (repeat (first | exact List.Sublist.refl _ | exact List.nil_sublist _ | apply List.Sublist.cons_cons | apply List.Sublist.cons)); done))) rfl rfl (fun b31 _ => ?_)
        refine t_y (Y_build (cs := wcD seed 0 fl 0 (.slice (some ⟨cb, 0, none⟩) 384 384) (.slice (some ⟨b30, 0, none⟩) 32 32) (.slice (some ⟨b31, 0, none⟩) 40 40) ⟨0, 0, 0, 0⟩) (by repeat (first | exact Gp.nil | apply Gp.const | apply Gp.tmp gt_)) (bld29 _ _ (by kernel_rfl))) rfl rfl ?_
        refine t_s (S_storeA (vs := wcD seed 0 fl 0 (.slice (some ⟨cb, 0, none⟩) 384 384) (.slice (some ⟨b30, 0, none⟩) 32 32) (.slice (some ⟨b31, 0, none⟩) 40 40) ⟨0, 0, 0, 0⟩) rfl rfl sz29 (by rfl) (by rfl) (by repeat (first | exact Upd.head | apply Upd.tail)) (by rfl)) (by first | exact keep_no rfl | (refine keep_sub ?_; (repeat (first | exact List.Sublist.refl _ | exact List.nil_sublist _ | apply List.Sublist.cons_cons | apply List.Sublist.cons)); done) | (refine keep_sub (List.Sublist.trans ?_ (List.sublist_append_right _ _)); (repeat (first | exact List.Sublist.refl _ | exact List.nil_sublist _ | apply List.Sublist.cons_cons | apply List.Sublist.cons)); done)) rfl ?_
        refine t_nil ?_
        exact go (b13, cb, b30, b31) _ _ trivial ⟨rfl, trivial⟩ rfl (fun w h => h.pick (by repeat (first | exact Sels.nil | apply Sels.cons (by repeat (first | exact Sel.head | apply Sel.tail)))))
      refine t_n (N_makeU (n := 40) (u0 := .int .i64 0) rfl rfl Try.underlying23 inf57 rfl (by omega) rfl (by omega) (by omega)) (fun _ => (by first | exact keep_no rfl | (refine keep_sub ?_; (repeat (first | exact List.Sublist.refl _ | exact List.nil_sublist _ | apply List.Sublist.cons_cons | apply List.Sublist.cons)); done) | (refine keep_sub (List.Sublist.trans ?_ (List.sublist_append_right _ _)); (repeat (first | exact List.Sublist.refl _ | exact List.nil_sublist _ | apply List.Sublist.cons_cons | apply List.Sublist.cons)); done))) rfl rfl (fun b31 _ => ?_)
      refine t_n (N_makeU (n := 32) (u0 := .int .i64 0) rfl rfl Try.underlying26 inf48 rfl (by omega) rfl (by omega) (by omega)) (fun _ => (by first | exact keep_no rfl | (refine keep_sub ?_; (repeat (first | exact List.Sublist.refl _ | exact List.nil_sublist _ | apply List.Sublist.cons_cons | apply List.Sublist.cons)); done) | (refine keep_sub (List.Sublist.trans ?_ (List.sublist_append_right _ _)); (repeat (first | exact List.Sublist.refl _ | exact List.nil_sublist _ | apply List.Sublist.cons_cons | apply List.Sublist.cons)); done))) rfl rfl (fun b30 _ => ?_)
      refine t_y (Y_build (cs := wcD seed 0 fl 0 (.slice (some ⟨cb, 0, none⟩) 384 384) (.slice (some ⟨b30, 0, none⟩) 32 32) (.slice (some ⟨b31, 0, none⟩) 40 40) ⟨0, 0, 0, 0⟩) (by repeat (first | exact Gp.nil | apply Gp.const | apply Gp.tmp gt_)) (bld29 _ _ (by kernel_rfl))) rfl rfl ?_
      refine t_s (S_storeA (vs := wcD seed 0 fl 0 (.slice (some ⟨cb, 0, none⟩) 384 384) (.slice (some ⟨b30, 0, none⟩) 32 32) (.slice (some ⟨b31, 0, none⟩) 40 40) ⟨0, 0, 0, 0⟩) rfl rfl sz29 (by rfl) (by rfl) (by repeat (first | exact Upd.head | apply Upd.tail)) (by rfl)) (by first | exact keep_no rfl | (refine keep_sub ?_; (repeat (first | exact List.Sublist.refl _ | exact List.nil_sublist _ | apply List.Sublist.cons_cons | apply List.Sublist.cons)); done) | (refine keep_sub (List.Sublist.trans ?_ (List.sublist_append_right _ _)); (repeat (first | exact List.Sublist.refl _ | exact List.nil_sublist _ | apply List.Sublist.cons_cons | apply List.Sublist.cons)); done)) rfl ?_
      refine t_nil ?_
      exact go (b13, cb, b30, b31) _ _ trivial ⟨rfl, trivial⟩ rfl (fun w h => h.pick (by repeat (first | exact Sels.nil | apply Sels.cons (by repeat (first | exact Sel.head | apply Sel.tail)))))
    refine t_two ?_ ?_
    · skip
      refine t_n (N_makeU (n := 32) (u0 := .int .i64 0) rfl rfl Try.underlying26 inf48 rfl (by omega) rfl (by omega) (by omega)) (fun _ => (by first | exact keep_no rfl | (refine keep_sub ?_; (repeat (first | exact List.Sublist.refl _ | exact List.nil_sublist _ | apply List.Sublist.cons_cons | apply List.Sublist.cons)); done) | (refine keep_sub (List.Sublist.trans ?_ (List.sublist_append_right _ _)); (repeat (first | exact List.Sublist.refl _ | exact List.nil_sublist _ | apply List.Sublist.cons_cons | apply List.Sublist.cons)); done))) rfl rfl (fun b30 _ => ?_)
      refine t_two ?_ ?_
      · skip
        refine t_c (En_call (fun _ => rfl) Try.func30 rfl (by kernel_rfl) rfl) (fun w hH => rmakeC_d hfr) (fun _ _ h => by obtain ⟨cb, ev, iv', rfl, rfl⟩ := h; exact (by first | exact keep_no rfl | (refine keep_sub ?_; (repeat (first | exact List.Sublist.refl _ | exact List.nil_sublist _ | apply List.Sublist.cons_cons | apply List.Sublist.cons)); done) | (refine keep_sub (List.Sublist.trans ?_ (List.sublist_append_right _ _)); (repeat (first | exact List.Sublist.refl _ | exact List.nil_sublist _ | apply List.Sublist.cons_cons | apply List.Sublist.cons)); done))) rfl rfl ?_
        rintro _ _ ⟨cb, ev, iv', rfl, rfl⟩
        refine t_y (Y_field rfl Try.underlying63 rfl one25 rfl) rfl rfl ?_
        refine t_two ?_ ?_
        · skip
          refine t_n (N_makeU (n := 40) (u0 := .int .i64 0) rfl rfl Try.underlying23 inf57 rfl (by omega) rfl (by omega) (by omega)) (fun _ => (by first | exact keep_no rfl | (refine keep_sub ?_; (repeat (first | exact List.Sublist.refl _ | exact List.nil_sublist _ | apply List.Sublist.cons_cons | apply List.Sublist.cons)); done) | (refine keep_sub (List.Sublist.trans ?_ (List.sublist_append_right _ _)); (repeat (first | exact List.Sublist.refl _ | exact List.nil_sublist _ | apply List.Sublist.cons_cons | apply List.Sublist.cons)); done))) rfl rfl (fun b31 _ => ?_)
          refine t_y (Y_build (cs := wcD seed 0 fl 0 (.slice (some ⟨cb, 0, none⟩) 384 384) (.slice (some ⟨b30, 0, none⟩) 32 32) (.slice (some ⟨b31, 0, none⟩) 40 40) ⟨0, 0, 0, 0⟩) (by repeat (first | exact Gp.nil | apply Gp.const | apply Gp.tmp gt_)) (bld29 _ _ (by kernel_rfl))) rfl rfl ?_
          refine t_n (N_alloc (z := .agg #[.int .i64 0, .int .i64 0, .int .i64 0, .int .i64 0, .slice none 0 0, .slice none 0 0, .slice none 0 0, .int .i64 0, .int .i64 0, .int .i64 0, .int .i64 0]) (cs := [.int .i64 0, .int .i64 0, .int .i64 0, .int .i64 0, .slice none 0 0, .slice none 0 0, .slice none 0 0, .int .i64 0, .int .i64 0, .int .i64 0, .int .i64 0]) zv29 rfl) (fun _ => (by first | exact keep_no rfl | (refine keep_sub ?_; (repeat (first | exact List.Sublist.refl _ | exact List.nil_sublist _ | apply List.Sublist.cons_cons | apply List.Sublist.cons)); done) | (refine keep_sub (List.Sublist.trans ?_ (List.sublist_append_right _ _)); (repeat (first | exact List.Sublist.refl _ | exact List.nil_sublist _ | apply List.Sublist.cons_cons | apply List.Sublist.cons)); done))) rfl rfl (fun b13 _ => ?_)
          refine t_s (S_storeA (vs := wcD seed 0 fl 0 (.slice (some ⟨cb, 0, none⟩) 384 384) (.slice (some ⟨b30, 0, none⟩) 32 32) (.slice (some ⟨b31, 0, none⟩) 40 40) ⟨0, 0, 0, 0⟩) rfl rfl sz29 (by rfl) (by rfl) (by repeat (first | exact Upd.head | apply Upd.tail)) (by rfl)) (by first | exact keep_no rfl | (refine keep_sub ?_; (repeat (first | exact List.Sublist.refl _ | exact List.nil_sublist _ | apply List.Sublist.cons_cons | apply List.Sublist.cons)); done) | (refine keep_sub (List.Sublist.trans ?_ (List.sublist_append_right _ _)); (repeat (first | exact List.Sublist.refl _ | exact List.nil_sublist _ | apply List.Sublist.cons_cons | apply List.Sublist.cons)); done)) rfl ?_
          refine t_nil ?_
          exact go (b13, cb, b30, b31) _ _ trivial ⟨rfl, trivial⟩ rfl (fun w h => h.pick (by repeat (first | exact Sels.nil | apply Sels.cons (by repeat (first | exact Sel.head | apply Sel.tail)))))
        refine t_n (N_alloc (z := .agg #[.int .i64 0, .int .i64 0, .int .i64 0, .int .i64 0, .slice none 0 0, .slice none 0 0, .slice none 0 0, .int .i64 0, .int .i64 0, .int .i64 0, .int .i64 0]) (cs := [.int .i64 0, .int .i64 0, .int .i64 0, .int .i64 0, .slice none 0 0, .slice none 0 0, .slice none 0 0, .int .i64 0, .int .i64 0, .int .i64 0, .int .i64 0]) zv29 rfl) (fun _ => (by first | exact keep_no rfl | (refine keep_sub ?_; (repeat (first | exact List.Sublist.refl _ | exact List.nil_sublist _ | apply List.Sublist.cons_cons | apply List.Sublist.cons)); done) | (refine keep_sub (List.Sublist.trans ?_ (List.sublist_append_right _ _)); (repeat (first | exact List.Sublist.refl _ | exact List.nil_sublist _ | apply List.Sublist.cons_cons | apply List.Sublist.cons)); done))) rfl rfl (fun b13 _ => ?_)
        refine t_n (N_makeU (n := 40) (u0 := .int .i64 0) rfl rfl Try.underlying23 inf57 rfl (by omega) rfl (by omega) (by omega)) (fun _ => (by first | exact keep_no rfl | (refine keep_sub ?_; (repeat (first | exact List.Sublist.refl _ | exact List.nil_sublist _ | apply List.Sublist.cons_cons | apply List.Sublist.cons)); done) | (refine keep_sub (List.Sublist.trans ?_ (List.sublist_append_right _ _)); (repeat (first | exact List.Sublist.refl _ | exact List.nil_sublist _ | apply List.Sublist.cons_cons | apply List.Sublist.cons)); done))) rfl rfl (fun b31 _ => ?_)
        refine t_y (Y_build (cs := wcD seed 0 fl 0 (.slice (some ⟨cb, 0, none⟩) 384 384) (.slice (some ⟨b30, 0, none⟩) 32 32) (.slice (some ⟨b31, 0, none⟩) 40 40) ⟨0, 0, 0, 0⟩) (by repeat (first | exact Gp.nil | apply Gp.const | apply Gp.tmp gt_)) (bld29 _ _ (by kernel_rfl))) rfl rfl ?_
        refine t_s (S_storeA (vs := wcD seed 0 fl 0 (.slice (some ⟨cb, 0, none⟩) 384 384) (.slice (some ⟨b30, 0, none⟩) 32 32) (.slice (some ⟨b31, 0, none⟩) 40 40) ⟨0, 0, 0, 0⟩) rfl rfl sz29 (by rfl) (by rfl) (by repeat (first | exact Upd.head | apply Upd.tail)) (by rfl)) (by first | exact keep_no rfl | (refine keep_sub ?_; (repeat (first | exact List.Sublist.refl _ | exact List.nil_sublist _ | apply List.Sublist.cons_cons | apply List.Sublist.cons)); done) | (refine keep_sub (List.Sublist.trans ?_ (List.sublist_append_right _ _)); (repeat (first | exact List.Sublist.refl _ | exact List.nil_sublist _ | apply List.Sublist.cons_cons | apply List.Sublist.cons)); done)) rfl ?_
        refine t_nil ?_
        exact go (b13, cb, b30, b31) _ _ trivial ⟨rfl, trivial⟩ rfl (fun w h => h.pick (by repeat (first | exact Sels.nil | apply Sels.cons (by repeat (first | exact Sel.head | apply Sel.tail)))))
      refine t_two ?_ ?_
      · skip
        refine t_n (N_makeU (n := 40) (u0 := .int .i64 0) rfl rfl Try.underlying23 inf57 rfl (by omega) rfl (by omega) (by omega)) (fun _ => (by first | exact keep_no rfl | (refine keep_sub ?_; (repeat (first | exact List.Sublist.refl _ | exact List.nil_sublist _ | apply List.Sublist.cons_cons | apply List.Sublist.cons)); done) | (refine keep_sub (List.Sublist.trans ?_ (List.sublist_append_right _ _)); (repeat (first | exact List.Sublist.refl _ | exact List.nil_sublist _ | apply List.Sublist.cons_cons | apply List.Sublist.cons)); done))) rfl rfl (fun b31 _ => ?_)
        refine t_two ?_ ?_
        · skip
          refine t_c (En_call (fun _ => rfl) Try.func30 rfl (by kernel_rfl) rfl) (fun w hH => rmakeC_d hfr) (fun _ _ h => by obtain ⟨cb, ev, iv', rfl, rfl⟩ := h; exact (by first | exact keep_no rfl | (refine keep_sub ?_; (repeat (first | exact List.Sublist.refl _ | exact List.nil_sublist _ | apply List.Sublist.cons_cons | apply List.Sublist.cons)); done) | (refine keep_sub (List.Sublist.trans ?_ (List.sublist_append_right _ _)); (repeat (first | exact List.Sublist.refl _ | exact List.nil_sublist _ | apply List.Sublist.cons_cons | apply List.Sublist.cons)); done))) rfl rfl ?_
          rintro _ _ ⟨cb, ev, iv', rfl, rfl⟩
          refine t_y (Y_field rfl Try.underlying63 rfl one25 rfl) rfl rfl ?_
          refine t_y (Y_build (cs := wcD seed 0 fl 0 (.slice (some ⟨cb, 0, none⟩) 384 384) (.slice (some ⟨b30, 0, none⟩) 32 32) (.slice (some ⟨b31, 0, none⟩) 40 40) ⟨0, 0, 0, 0⟩) (by repeat (first | exact Gp.nil | apply Gp.const | apply Gp.tmp gt_)) (bld29 _ _ (by kernel_rfl))) rfl rfl ?_
          refine t_n (N_alloc (z := .agg #[.int .i64 0, .int .i64 0, .int .i64 0, .int .i64 0, .slice none 0 0, .slice none 0 0, .slice none 0 0, .int .i64 0, .int .i64 0, .int .i64 0, .int .i64 0]) (cs := [.int .i64 0, .int .i64 0, .int .i64 0, .int .i64 0, .slice none 0 0, .slice none 0 0, .slice none 0 0, .int .i64 0, .int .i64 0, .int .i64 0, .int .i64 0]) zv29 rfl) (fun _ => (by first | exact keep_no rfl | (refine keep_sub ?_; (repeat (first | exact List.Sublist.refl _ | exact List.nil_sublist _ | apply List.Sublist.cons_cons | apply List.Sublist.cons)); done) | (refine keep_sub (List.Sublist.trans ?_ (List.sublist_append_right _ _)); (repeat (first | exact List.Sublist.refl _ | exact List.nil_sublist _ | apply List.Sublist.cons_cons | apply List.Sublist.cons)); done))) rfl rfl (fun b13 _ => ?_)
          refine t_s (S_storeA (vs := wcD seed 0 fl 0 (.slice (some ⟨cb, 0, none⟩) 384 384) (.slice (some ⟨b30, 0, none⟩) 32 32) (.slice (some ⟨b31, 0, none⟩) 40 40) ⟨0, 0, 0, 0⟩) rfl rfl sz29 (by rfl) (by rfl) (by repeat (first | exact Upd.head | apply Upd.tail)) (by rfl)) (by first | exact keep_no rfl | (refine keep_sub ?_; (repeat (first | exact List.Sublist.refl _ | exact List.nil_sublist _ | apply List.Sublist.cons_cons | apply List.Sublist.cons)); done) | (refine keep_sub (List.Sublist.trans ?_ (List.sublist_append_right _ _)); (repeat (first | exact List.Sublist.refl _ | exact List.nil_sublist _ | apply List.Sublist.cons_cons | apply List.Sublist.cons)); done)) rfl ?_
          refine t_nil ?_
          exact go (b13, cb, b30, b31) _ _ trivial ⟨rfl, trivial⟩ rfl (fun w h => h.pick (by repeat (first | exact Sels.nil | apply Sels.cons (by repeat (first | exact Sel.head | apply Sel.tail)))))
        refine t_n (N_alloc (z := .agg #[.int .i64 0, .int .i64 0, .int .i64 0, .int .i64 0, .slice none 0 0, .slice none 0 0, .slice none 0 0, .int .i64 0, .int .i64 0, .int .i64 0, .int .i64 0]) (cs := [.int .i64 0, .int .i64 0, .int .i64 0, .int .i64 0, .slice none 0 0, .slice none 0 0, .slice none 0 0, .int .i64 0, .int .i64 0, .int .i64 0, .int .i64 0]) zv29 rfl) (fun _ => (by first | exact keep_no rfl | (refine keep_sub ?_; (repeat (first | exact List.Sublist.refl _ | exact List.nil_sublist _ | apply List.Sublist.cons_cons | apply List.Sublist.cons)); done) | (refine keep_sub (List.Sublist.trans ?_ (List.sublist_append_right _ _)); (repeat (first | exact List.Sublist.refl _ | exact List.nil_sublist _ | apply List.Sublist.cons_cons | apply List.Sublist.cons)); done))) rfl rfl (fun b13 _ => ?_)
        refine t_c (En_call (fun _ => rfl) Try.func30 rfl (by kernel_rfl) rfl) (fun w hH => rmakeC_d hfr) (fun _ _ h => by obtain ⟨cb, ev, iv', rfl, rfl⟩ := h; exact (by first | exact keep_no rfl | (refine keep_sub ?_; (repeat (first | exact List.Sublist.refl _ | exact List.nil_sublist _ | apply List.Sublist.cons_cons | apply List.Sublist.cons)); done) | (refine keep_sub (List.Sublist.trans ?_ (List.sublist_append_right _ _)); (repeat (first | exact List.Sublist.refl _ | exact List.nil_sublist _ | apply List.Sublist.cons_cons | apply List.Sublist.cons)); done))) rfl rfl ?_
        rintro _ _ ⟨cb, ev, iv', rfl, rfl⟩
        refine t_y (Y_field rfl Try.underlying63 rfl one25 rfl) rfl rfl ?_
        refine t_y (Y_build (cs := wcD seed 0 fl 0 (.slice (some ⟨cb, 0, none⟩) 384 384) (.slice (some ⟨b30, 0, none⟩) 32 32) (.slice (some ⟨b31, 0, none⟩) 40 40) ⟨0, 0, 0, 0⟩) (by repeat (first | exact Gp.nil | apply Gp.const | apply Gp.tmp gt_)) (bld29 _ _ (by kernel_rfl))) rfl rfl ?_
        refine t_s (S_storeA (vs := wcD seed 0 fl 0 (.slice (some ⟨cb, 0, none⟩) 384 384) (.slice (some ⟨b30, 0, none⟩) 32 32) (.slice (some ⟨b31, 0, none⟩) 40 40) ⟨0, 0, 0, 0⟩) rfl rfl sz29 (by rfl) (by rfl) (by repeat (first | exact Upd.head | apply Upd.tail)) (by rfl)) (by first | exact keep_no rfl | (refine keep_sub ?_; (repeat (first | exact List.Sublist.refl _ | exact List.nil_sublist _ | apply List.Sublist.cons_cons | apply List.Sublist.cons)); done) | (refine keep_sub (List.Sublist.trans ?_ (List.sublist_append_right _ _)); (repeat (first | exact List.Sublist.refl _ | exact List.nil_sublist _ | apply List.Sublist.cons_cons | apply List.Sublist.cons)); done)) rfl ?_
        refine t_nil ?_
        exact go (b13, cb, b30, b31) _ _ trivial ⟨rfl, trivial⟩ rfl (fun w h => h.pick (by repeat (first | exact Sels.nil | apply Sels.cons (by repeat (first | exact Sel.head | apply Sel.tail)))))
      refine t_n (N_alloc (z := .agg #[.int .i64 0, .int .i64 0, .int .i64 0, .int .i64 0, .slice none 0 0, .slice none 0 0, .slice none 0 0, .int .i64 0, .int .i64 0, .int .i64 0, .int .i64 0]) (cs := [.int .i64 0, .int .i64 0, .int .i64 0, .int .i64 0, .slice none 0 0, .slice none 0 0, .slice none 0 0, .int .i64 0, .int .i64 0, .int .i64 0, .int .i64 0]) zv29 rfl) (fun _ => (by first | exact keep_no rfl | (refine keep_sub ?_; (repeat (first | exact List.Sublist.refl _ | exact List.nil_sublist _ | apply List.Sublist.cons_cons | apply List.Sublist.cons)); done) | (refine keep_sub (List.Sublist.trans ?_ (List.sublist_append_right _ _)); (repeat (first | exact List.Sublist.refl _ | exact List.nil_sublist _ | apply List.Sublist.cons_cons | apply List.Sublist.cons)); done))) rfl rfl (fun b13 _ => ?_)
      refine t_two ?_ ?_
      · skip
        refine t_c (En_call (fun _ => rfl) Try.func30 rfl (by kernel_rfl) rfl) (fun w hH => rmakeC_d hfr) (fun _ _ h => by obtain ⟨cb, ev, iv', rfl, rfl⟩ := h; exact (by first | exact keep_no rfl | (refine keep_sub ?_; (repeat (first | exact List.Sublist.refl _ | exact List.nil_sublist _ | apply List.Sublist.cons_cons | apply List.Sublist.cons)); done) | (refine keep_sub (List.Sublist.trans ?_ (List.sublist_append_right _ _)); (repeat (first | exact List.Sublist.refl _ | exact List.nil_sublist _ | apply List.Sublist.cons_cons | apply List.Sublist.cons)); done))) rfl rfl ?_
        rintro _ _ ⟨cb, ev, iv', rfl, rfl⟩
        refine t_y (Y_field rfl Try.underlying63 rfl one25 rfl) rfl rfl ?_
        refine t_n (N_makeU (n := 40) (u0 := .int .i64 0) rfl rfl Try.underlying23 inf57 rfl (by omega) rfl (by omega) (by omega)) (fun _ => (by first | exact keep_no rfl | (refine keep_sub ?_; (repeat (first | exact List.Sublist.refl _ | exact List.nil_sublist _ | apply List.Sublist.cons_cons | apply List.Sublist.cons)); done) | (refine keep_sub (List.Sublist.trans ?_ (List.sublist_append_right _ _)); (repeat (first | exact List.Sublist.refl _ | exact List.nil_sublist _ | apply List.Sublist.cons_cons | apply List.Sublist.cons)); done))) rfl rfl (fun b31 _ => ?_)
        refine t_y (Y_build (cs := wcD seed 0 fl 0 (.slice (some ⟨cb, 0, none⟩) 384 384) (.slice (some ⟨b30, 0, none⟩) 32 32) (.slice (some ⟨b31, 0, none⟩) 40 40) ⟨0, 0, 0, 0⟩) (by repeat (first | exact Gp.nil | apply Gp.const | apply Gp.tmp gt_)) (bld29 _ _ (by kernel_rfl))) rfl rfl ?_
        refine t_s (S_storeA (vs := wcD seed 0 fl 0 (.slice (some ⟨cb, 0, none⟩) 384 384) (.slice (some ⟨b30, 0, none⟩) 32 32) (.slice (some ⟨b31, 0, none⟩) 40 40) ⟨0, 0, 0, 0⟩) rfl rfl sz29 (by rfl) (by rfl) (by repeat (first | exact Upd.head | apply Upd.tail)) (by rfl)) (by first | exact keep_no rfl | (refine keep_sub ?_; (repeat (first | exact List.Sublist.refl _ | exact List.nil_sublist _ | apply List.Sublist.cons_cons | apply List.Sublist.cons)); done) | (refine keep_sub (List.Sublist.trans ?_ (List.sublist_append_right _ _)); (repeat (first | exact List.Sublist.refl _ | exact List.nil_sublist _ | apply List.Sublist.cons_cons | apply List.Sublist.cons)); done)) rfl ?_
        refine t_nil ?_
        exact go (b13, cb, b30, b31) _ _ trivial ⟨rfl, trivial⟩ rfl (fun w h => h.pick (by repeat (first | exact Sels.nil | apply Sels.cons (by repeat (first | exact Sel.head | apply Sel.tail)))))
      refine t_n (N_makeU (n := 40) (u0 := .int .i64 0) rfl rfl Try.underlying23 inf57 rfl (by omega) rfl (by omega) (by omega)) (fun _ => (by first | exact keep_no rfl | (refine keep_sub ?_; (repeat (first | exact List.Sublist.refl _ | exact List.nil_sublist _ | apply List.Sublist.cons_cons | apply List.Sublist.cons)); done) | (refine keep_sub (List.Sublist.trans ?_ (List.sublist_append_right _ _)); (repeat (first | exact List.Sublist.refl _ | exact List.nil_sublist _ | apply List.Sublist.cons_cons | apply List.Sublist.cons)); done))) rfl rfl (fun b31 _ => ?_)
      refine t_c (En_call (fun _ => rfl) Try.func30 rfl (by kernel_rfl) rfl) (fun w hH => rmakeC_d hfr) (fun _ _ h => by obtain ⟨cb, ev, iv', rfl, rfl⟩ := h; exact (by first | exact keep_no rfl | (refine keep_sub ?_; (repeat (first | exact List.Sublist.refl _ | exact List.nil_sublist _ | apply List.Sublist.cons_cons | apply List.Sublist.cons)); done) | (refine keep_sub (List.Sublist.trans ?_ (List.sublist_append_right _ _)); (repeat (first | exact List.Sublist.refl _ | exact List.nil_sublist _ | apply List.Sublist.cons_cons | apply List.Sublist.cons)); done))) rfl rfl ?_
      rintro _ _ ⟨cb, ev, iv', rfl, rfl⟩
      refine t_y (Y_field rfl Try.underlying63 rfl one25 rfl) rfl rfl ?_
      refine t_y (Y_build (cs := wcD seed 0 fl 0 (.slice (some ⟨cb, 0, none⟩) 384 384) (.slice (some ⟨b30, 0, none⟩) 32 32) (.slice (some ⟨b31, 0, none⟩) 40 40) ⟨0, 0, 0, 0⟩) (by repeat (first | exact Gp.nil | apply Gp.const | apply Gp.tmp gt_)) (bld29 _ _ (by kernel_rfl))) rfl rfl ?_
      refine t_s (S_storeA (vs := wcD seed 0 fl 0 (.slice (some ⟨cb, 0, none⟩) 384 384) (.slice (some ⟨b30, 0, none⟩) 32 32) (.slice (some ⟨b31, 0, none⟩) 40 40) ⟨0, 0, 0, 0⟩) rfl rfl sz29 (by rfl) (by rfl) (by repeat (first | exact Upd.head | apply Upd.tail)) (by rfl)) (by first | exact keep_no rfl | (refine keep_sub ?_; (repeat (first | exact List.Sublist.refl _ | exact List.nil_sublist _ | apply List.Sublist.cons_cons | apply List.Sublist.cons)); done) | (refine keep_sub (List.Sublist.trans ?_ (List.sublist_append_right _ _)); (repeat (first | exact List.Sublist.refl _ | exact List.nil_sublist _ | apply List.Sublist.cons_cons | apply List.Sublist.cons)); done)) rfl ?_
      refine t_nil ?_
      exact go (b13, cb, b30, b31) _ _ trivial ⟨rfl, trivial⟩ rfl (fun w h => h.pick (by repeat (first | exact Sels.nil | apply Sels.cons (by repeat (first | exact Sel.head | apply Sel.tail)))))
    refine t_two ?_ ?_
    · skip
      refine t_n (N_makeU (n := 40) (u0 := .int .i64 0) rfl rfl Try.underlying23 inf57 rfl (by omega) rfl (by omega) (by omega)) (fun _ => (by first | exact keep_no rfl | (refine keep_sub ?_; (repeat (first | exact List.Sublist.refl _ | exact List.nil_sublist _ | apply List.Sublist.cons_cons | apply List.Sublist.cons)); done) | (refine keep_sub (List.Sublist.trans ?_ (List.sublist_append_right _ _)); (repeat (first | exact List.Sublist.refl _ | exact List.nil_sublist _ | apply List.Sublist.cons_cons | apply List.Sublist.cons)); done))) rfl rfl (fun b31 _ => ?_)
      refine t_two ?_ ?_
      · skip
        refine t_c (En_call (fun _ => rfl) Try.func30 rfl (by kernel_rfl) rfl) (fun w hH => rmakeC_d hfr) (fun _ _ h => by obtain ⟨cb, ev, iv', rfl, rfl⟩ := h; exact (by first | exact keep_no rfl | (refine keep_sub ?_; (repeat (first | exact List.Sublist.refl _ | exact List.nil_sublist _ | apply List.Sublist.cons_cons | apply List.Sublist.cons)); done) | (refine keep_sub (List.Sublist.trans ?_ (List.sublist_append_right _ _)); (repeat (first | exact List.Sublist.refl _ | exact List.nil_sublist _ | apply List.Sublist.cons_cons | apply List.Sublist.cons)); done))) rfl rfl ?_
        rintro _ _ ⟨cb, ev, iv', rfl, rfl⟩
        refine t_y (Y_field rfl Try.underlying63 rfl one25 rfl) rfl rfl ?_
        refine t_two ?_ ?_
        · skip
          refine t_n (N_makeU (n := 32) (u0 := .int .i64 0) rfl rfl Try.underlying26 inf48 rfl (by omega) rfl (by omega) (by omega)) (fun _ => (by first | exact keep_no rfl | (refine keep_sub ?_; (repeat (first | exact List.Sublist.refl _ | exact List.nil_sublist _ | apply List.Sublist.cons_cons | apply List.Sublist.cons)); done) | (refine keep_sub (List.Sublist.trans ?_ (List.sublist_append_right _ _)); (repeat (first | exact List.Sublist.refl _ | exact List.nil_sublist _ | apply List.Sublist.cons_cons | apply List.Sublist.cons)); done))) rfl rfl (fun b30 _ => ?_)
          refine t_y (Y_build (cs := wcD seed 0 fl 0 (.slice (some ⟨cb, 0, none⟩) 384 384) (.slice (some ⟨b30, 0, none⟩) 32 32) (.slice (some ⟨b31, 0, none⟩) 40 40) ⟨0, 0, 0, 0⟩) (by repeat (first | exact Gp.nil | apply Gp.const | apply Gp.tmp gt_)) (bld29 _ _ (by kernel_rfl))) rfl rfl ?_
          refine t_n (N_alloc (z := .agg #[.int .i64 0, .int .i64 0, .int .i64 0, .int .i64 0, .slice none 0 0, .slice none 0 0, .slice none 0 0, .int .i64 0, .int .i64 0, .int .i64 0, .int .i64 0]) (cs := [.int .i64 0, .int .i64 0, .int .i64 0, .int .i64 0, .slice none 0 0, .slice none 0 0, .slice none 0 0, .int .i64 0, .int .i64 0, .int .i64 0, .int .i64 0]) zv29 rfl) (fun _ => (by first | exact keep_no rfl | (refine keep_sub ?_; (repeat (first | exact List.Sublist.refl _ | exact List.nil_sublist _ | apply List.Sublist.cons_cons | apply List.Sublist.cons)); done) | (refine keep_sub (List.Sublist.trans ?_ (List.sublist_append_right _ _)); (repeat (first | exact List.Sublist.refl _ | exact List.nil_sublist _ | apply List.Sublist.cons_cons | apply List.Sublist.cons)); done))) rfl rfl (fun b13 _ => ?_)
          refine t_s (S_storeA (vs := wcD seed 0 fl 0 (.slice (some ⟨cb, 0, none⟩) 384 384) (.slice (some ⟨b30, 0, none⟩) 32 32) (.slice (some ⟨b31, 0, none⟩) 40 40) ⟨0, 0, 0, 0⟩) rfl rfl sz29 (by rfl) (by rfl) (by repeat (first | exact Upd.head | apply Upd.tail)) (by rfl)) (by first | exact keep_no rfl | (refine keep_sub ?_; (repeat (first | exact List.Sublist.refl _ | exact List.nil_sublist _ | apply List.Sublist.cons_cons | apply List.Sublist.cons)); done) | (refine keep_sub (List.Sublist.trans ?_ (List.sublist_append_right _ _)); (repeat (first | exact List.Sublist.refl _ | exact List.nil_sublist _ | apply List.Sublist.cons_cons | apply List.Sublist.cons)); done)) rfl ?_
          refine t_nil ?_
          exact go (b13, cb, b30, b31) _ _ trivial ⟨rfl, trivial⟩ rfl (fun w h => h.pick (by repeat (first | exact Sels.nil | apply Sels.cons (by repeat (first | exact Sel.head | apply Sel.tail)))))
        refine t_n (N_alloc (z := .agg #[.int .i64 0, .int .i64 0, .int .i64 0, .int .i64 0, .slice none 0 0, .slice none 0 0, .slice none 0 0, .int .i64 0, .int .i64 0, .int .i64 0, .int .i64 0]) (cs := [.int .i64 0, .int .i64 0, .int .i64 0, .int .i64 0, .slice none 0 0, .slice none 0 0, .slice none 0 0, .int .i64 0, .int .i64 0, .int .i64 0, .int .i64 0]) zv29 rfl) (fun _ => (by first | exact keep_no rfl | (refine keep_sub ?_; (repeat (first | exact List.Sublist.refl _ | exact List.nil_sublist _ | apply List.Sublist.cons_cons | apply List.Sublist.cons)); done) | (refine keep_sub (List.Sublist.trans ?_ (List.sublist_append_right _ _)); (repeat (first | exact List.Sublist.refl _ | exact List.nil_sublist _ | apply List.Sublist.cons_cons | apply List.Sublist.cons)); done))) rfl rfl (fun b13 _ => ?_)
        refine t_n (N_makeU (n := 32) (u0 := .int .i64 0) rfl rfl Try.underlying26 inf48 rfl (by omega) rfl (by omega) (by omega)) (fun _ => (by first | exact keep_no rfl | (refine keep_sub ?_; (repeat (first | exact List.Sublist.refl _ | exact List.nil_sublist _ | apply List.Sublist.cons_cons | apply List.Sublist.cons)); done) | (refine keep_sub (List.Sublist.trans ?_ (List.sublist_append_right _ _)); (repeat (first | exact List.Sublist.refl _ | exact List.nil_sublist _ | apply List.Sublist.cons_cons | apply List.Sublist.cons)); done))) rfl rfl (fun b30 _ => ?_)
        refine t_y (Y_build (cs := wcD seed 0 fl 0 (.slice (some ⟨cb, 0, none⟩) 384 384) (.slice (some ⟨b30, 0, none⟩) 32 32) (.slice (some ⟨b31, 0, none⟩) 40 40) ⟨0, 0, 0, 0⟩) (by repeat (first | exact Gp.nil | apply Gp.const | apply Gp.tmp gt_)) (bld29 _ _ (by kernel_rfl))) rfl rfl ?_
        refine t_s (S_storeA (vs := wcD seed 0 fl 0 (.slice (some ⟨cb, 0, none⟩) 384 384) (.slice (some ⟨b30, 0, none⟩) 32 32) (.slice (some ⟨b31, 0, none⟩) 40 40) ⟨0, 0, 0, 0⟩) rfl rfl sz29 (by rfl) (by rfl) (by repeat (first | exact Upd.head | apply Upd.tail)) (by rfl)) (by first | exact keep_no rfl | (refine keep_sub ?_; (repeat (first | exact List.Sublist.refl _ | exact List.nil_sublist _ | apply List.Sublist.cons_cons | apply List.Sublist.cons)); done) | (refine keep_sub (List.Sublist.trans ?_ (List.sublist_append_right _ _)); (repeat (first | exact List.Sublist.refl _ | exact List.nil_sublist _ | apply List.Sublist.cons_cons | apply List.Sublist.cons)); done)) rfl ?_
        refine t_nil ?_
        exact go (b13, cb, b30, b31) _ _ trivial ⟨rfl, trivial⟩ rfl (fun w h => h.pick (by repeat (first | exact Sels.nil | apply Sels.cons (by repeat (first | exact Sel.head | apply Sel.tail)))))
      refine t_two ?_ ?_
      · skip
        refine t_n (N_makeU (n := 32) (u0 := .int .i64 0) rfl rfl Try.underlying26 inf48 rfl (by omega) rfl (by omega) (by omega)) (fun _ => (by first | exact keep_no rfl | (refine keep_sub ?_; (repeat (first | exact List.Sublist.refl _ | exact List.nil_sublist _ | apply List.Sublist.cons_cons | apply List.Sublist.cons)); done) | (refine keep_sub (List.Sublist.trans ?_ (List.sublist_append_right _ _)); (repeat (first | exact List.Sublist.refl _ | exact List.nil_sublist _ | apply List.Sublist.cons_cons | apply List.Sublist.cons)); done))) rfl rfl (fun b30 _ => ?_)
        refine t_two ?_ ?_
        · skip
          refine t_c (En_call (fun _ => rfl) Try.func30 rfl (by kernel_rfl) rfl) (fun w hH => rmakeC_d hfr) (fun _ _ h => by obtain ⟨cb, ev, iv', rfl, rfl⟩ := h; exact (by first | exact keep_no rfl | (refine keep_sub ?_; (repeat (first | exact List.Sublist.refl _ | exact List.nil_sublist _ | apply List.Sublist.cons_cons | apply List.Sublist.cons)); done) | (refine keep_sub (List.Sublist.trans ?_ (List.sublist_append_right _ _)); (repeat (first | exact List.Sublist.refl _ | exact List.nil_sublist _ | apply List.Sublist.cons_cons | apply List.Sublist.cons)); done))) rfl rfl ?_
          rintro _ _ ⟨cb, ev, iv', rfl, rfl⟩
          refine t_y (Y_field rfl Try.underlying63 rfl one25 rfl) rfl rfl ?_
          refine t_y (Y_build (cs := wcD seed 0 fl 0 (.slice (some ⟨cb, 0, none⟩) 384 384) (.slice (some ⟨b30, 0, none⟩) 32 32) (.slice (some ⟨b31, 0, none⟩) 40 40) ⟨0, 0, 0, 0⟩) (by repeat (first | exact Gp.nil | apply Gp.const | apply Gp.tmp gt_)) (bld29 _ _ (by kernel_rfl))) rfl rfl ?_
          refine t_n (N_alloc (z := .agg #[.int .i64 0, .int .i64 0, .int .i64 0, .int .i64 0, .slice none 0 0, .slice none 0 0, .slice none 0 0, .int .i64 0, .int .i64 0, .int .i64 0, .int .i64 0]) (cs := [.int .i64 0, .int .i64 0, .int .i64 0, .int .i64 0, .slice none 0 0, .slice none 0 0, .slice none 0 0, .int .i64 0, .int .i64 0, .int .i64 0, .int .i64 0]) zv29 rfl) (fun _ => (by first | exact keep_no rfl | (refine keep_sub ?_; (repeat (first | exact List.Sublist.refl _ | exact List.nil_sublist _ | apply List.Sublist.cons_cons | apply List.Sublist.cons)); done) | (refine keep_sub (List.Sublist.trans ?_ (List.sublist_append_right _ _)); (repeat (first | exact List.Sublist.refl _ | exact List.nil_sublist _ | apply List.Sublist.cons_cons | apply List.Sublist.cons)); done))) rfl rfl (fun b13 _ => ?_)
          refine t_s (S_storeA (vs := wcD seed 0 fl 0 (.slice (some ⟨cb, 0, none⟩) 384 384) (.slice (some ⟨b30, 0, none⟩) 32 32) (.slice (some ⟨b31, 0, none⟩) 40 40) ⟨0, 0, 0, 0⟩) rfl rfl sz29 (by rfl) (by rfl) (by repeat (first | exact Upd.head | apply Upd.tail)) (by rfl)) (by first | exact keep_no rfl | (refine keep_sub ?_; (repeat (first | exact List.Sublist.refl _ | exact List.nil_sublist _ | apply List.Sublist.cons_cons | apply List.Sublist.cons)); done) | (refine keep_sub (List.Sublist.trans ?_ (List.sublist_append_right _ _)); (repeat (first | exact List.Sublist.refl _ | exact List.nil_sublist _ | apply List.Sublist.cons_cons | apply List.Sublist.cons)); done)) rfl ?_
          refine t_nil ?_
          exact go (b13, cb, b30, b31) _ _ trivial ⟨rfl, trivial⟩ rfl (fun w h => h.pick (by repeat (first | exact Sels.nil | apply Sels.cons (by repeat (first | exact Sel.head | apply Sel.tail)))))
        refine t_n (N_alloc (z := .agg #[.int .i64 0, .int .i64 0, .int .i64 0, .int .i64 0, .slice none 0 0, .slice none 0 0, .slice none 0 0, .int .i64 0, .int .i64 0, .int .i64 0, .int .i64 0]) (cs := [.int .i64 0, .int .i64 0, .int .i64 0, .int .i64 0, .slice none 0 0, .slice none 0 0, .slice none 0 0, .int .i64 0, .int .i64 0, .int .i64 0, .int .i64 0]) zv29 rfl) (fun _ => (by first | exact keep_no rfl | (refine keep_sub ?_; (repeat (first | exact List.Sublist.refl _ | exact List.nil_sublist _ | apply List.Sublist.cons_cons | apply List.Sublist.cons)); done) | (refine keep_sub (List.Sublist.trans ?_ (List.sublist_append_right _ _)); (repeat (first | exact List.Sublist.refl _ | exact List.nil_sublist _ | apply List.Sublist.cons_cons | apply List.Sublist.cons)); done))) rfl rfl (fun b13 _ => ?_)
        refine t_c (En_call (fun _ => rfl) Try.func30 rfl (by kernel_rfl) rfl) (fun w hH => rmakeC_d hfr) (fun _ _ h => by obtain ⟨cb, ev, iv', rfl, rfl⟩ := h; exact (by first | exact keep_no rfl | (refine keep_sub ?_; (repeat (first | exact List.Sublist.refl _ | exact List.nil_sublist _ | apply List.Sublist.cons_cons | apply List.Sublist.cons)); done) | (refine keep_sub (List.Sublist.trans ?_ (List.sublist_append_right _ _)); (repeat (first | exact List.Sublist.refl _ | exact List.nil_sublist _ | apply List.Sublist.cons_cons | apply List.Sublist.cons)); done))) rfl rfl ?_
        rintro _ _ ⟨cb, ev, iv', rfl, rfl⟩
        refine t_y (Y_field rfl Try.underlying63 rfl one25 rfl) rfl rfl ?_
        refine t_y (Y_build (cs := wcD seed 0 fl 0 (.slice (some ⟨cb, 0, none⟩) 384 384) (.slice (some ⟨b30, 0, none⟩) 32 32) (.slice (some ⟨b31, 0, none⟩) 40 40) ⟨0, 0, 0, 0⟩) (by repeat (first | exact Gp.nil | apply Gp.const | apply Gp.tmp gt_)) (bld29 _ _ (by kernel_rfl))) rfl rfl ?_
        refine t_s (S_storeA (vs := wcD seed 0 fl 0 (.slice (some ⟨cb, 0, none⟩) 384 384) (.slice (some ⟨b30, 0, none⟩) 32 32) (.slice (some ⟨b31, 0, none⟩) 40 40) ⟨0, 0, 0, 0⟩) rfl rfl sz29 (by rfl) (by rfl) (by repeat (first | exact Upd.head | apply Upd.tail)) (by rfl)) (by first | exact keep_no rfl | (refine keep_sub ?_; (repeat (first | exact List.Sublist.refl _ | exact List.nil_sublist _ | apply List.Sublist.cons_cons | apply List.Sublist.cons)); done) | (refine keep_sub (List.Sublist.trans ?_ (List.sublist_append_right _ _)); (repeat (first | exact List.Sublist.refl _ | exact List.nil_sublist _ | apply List.Sublist.cons_cons | apply List.Sublist.cons)); done)) rfl ?_
        refine t_nil ?_
        exact go (b13, cb, b30, b31) _ _ trivial ⟨rfl, trivial⟩ rfl (fun w h => h.pick (by repeat (first | exact Sels.nil | apply Sels.cons (by repeat (first | exact Sel.head | apply Sel.tail)))))
      refine t_n (N_alloc (z := .agg #[.int .i64 0, .int .i64 0, .int .i64 0, .int .i64 0, .slice none 0 0, .slice none 0 0, .slice none 0 0, .int .i64 0, .int .i64 0, .int .i64 0, .int .i64 0]) (cs := [.int .i64 0, .int .i64 0, .int .i64 0, .int .i64 0, .slice none 0 0, .slice none 0 0, .slice none 0 0, .int .i64 0, .int .i64 0, .int .i64 0, .int .i64 0]) zv29 rfl) (fun _ => (by first | exact keep_no rfl | (refine keep_sub ?_; (repeat (first | exact List.Sublist.refl _ | exact List.nil_sublist _ | apply List.Sublist.cons_cons | apply List.Sublist.cons)); done) | (refine keep_sub (List.Sublist.trans ?_ (List.sublist_append_right _ _)); (repeat (first | exact List.Sublist.refl _ | exact List.nil_sublist _ | apply List.Sublist.cons_cons | apply List.Sublist.cons)); done))) rfl rfl (fun b13 _ => ?_)
      refine t_two ?_ ?_
      · skip
        refine t_c (En_call (fun _ => rfl) Try.func30 rfl (by kernel_rfl) rfl) (fun w hH => rmakeC_d hfr) (fun _ _ h => by obtain ⟨cb, ev, iv', rfl, rfl⟩ := h; exact (by first | exact keep_no rfl | (refine keep_sub ?_; (repeat (first | exact List.Sublist.refl _ | exact List.nil_sublist _ | apply List.Sublist.cons_cons | apply List.Sublist.cons)); done) | (refine keep_sub (List.Sublist.trans ?_ (List.sublist_append_right _ _)); (repeat (first | exact List.Sublist.refl _ | exact List.nil_sublist _ | apply List.Sublist.cons_cons | apply List.Sublist.cons)); done))) rfl rfl ?_
        rintro _ _ ⟨cb, ev, iv', rfl, rfl⟩
        refine t_y (Y_field rfl Try.underlying63 rfl one25 rfl) rfl rfl ?_
        refine t_n (N_makeU (n := 32) (u0 := .int .i64 0) rfl rfl Try.underlying26 inf48 rfl (by omega) rfl (by omega) (by omega)) (fun _ => (by first | exact keep_no rfl | (refine keep_sub ?_; (repeat (first | exact List.Sublist.refl _ | exact List.nil_sublist _ | apply List.Sublist.cons_cons | apply List.Sublist.cons)); done) | (refine keep_sub (List.Sublist.trans ?_ (List.sublist_append_right _ _)); (repeat (first | exact List.Sublist.refl _ | exact List.nil_sublist _ | apply List.Sublist.cons_cons | apply List.Sublist.cons)); done))) rfl rfl (fun b30 _ => ?_)
        refine t_y (Y_build (cs := wcD seed 0 fl 0 (.slice (some ⟨cb, 0, none⟩) 384 384) (.slice (some ⟨b30, 0, none⟩) 32 32) (.slice (some ⟨b31, 0, none⟩) 40 40) ⟨0, 0, 0, 0⟩) (by repeat (first | exact Gp.nil | apply Gp.const | apply Gp.tmp gt_)) (bld29 _ _ (by kernel_rfl))) rfl rfl ?_
        refine t_s (S_storeA (vs := wcD seed 0 fl 0 (.slice (some ⟨cb, 0, none⟩) 384 384) (.slice (some ⟨b30, 0, none⟩) 32 32) (.slice (some ⟨b31, 0, none⟩) 40 40) ⟨0, 0, 0, 0⟩) rfl rfl sz29 (by rfl) (by rfl) (by repeat (first | exact Upd.head | apply Upd.tail)) (by rfl)) (by first | exact keep_no rfl | (refine keep_sub ?_; (repeat (first | exact List.Sublist.refl _ | exact List.nil_sublist _ | apply List.Sublist.cons_cons | apply List.Sublist.cons)); done) | (refine keep_sub (List.Sublist.trans ?_ (List.sublist_append_right _ _)); (repeat (first | exact List.Sublist.refl _ | exact List.nil_sublist _ | apply List.Sublist.cons_cons | apply List.Sublist.cons)); done)) rfl ?_
        refine t_nil ?_
        exact go (b13, cb, b30, b31) _ _ trivial ⟨rfl, trivial⟩ rfl (fun w h => h.pick (by repeat (first | exact Sels.nil | apply Sels.cons (by repeat (first | exact Sel.head | apply Sel.tail)))))
      refine t_n (N_makeU (n := 32) (u0 := .int .i64 0) rfl rfl Try.underlying26 inf48 rfl (by omega) rfl (by omega) (by omega)) (fun _ => (by first | exact keep_no rfl | (refine keep_sub ?_; (repeat (first | exact List.Sublist.refl _ | exact List.nil_sublist _ | apply List.Sublist.cons_cons | apply List.Sublist.cons)); done) | (refine keep_sub (List.Sublist.trans ?_ (List.sublist_append_right _ _)); (repeat (first | exact List.Sublist.refl _ | exact List.nil_sublist _ | apply List.Sublist.cons_cons | apply List.Sublist.cons)); done))) rfl rfl (fun b30 _ => ?_)
      refine t_c (En_call (fun _ => rfl) Try.func30 rfl (by kernel_rfl) rfl) (fun w hH => rmakeC_d hfr) (fun _ _ h => by obtain ⟨cb, ev, iv', rfl, rfl⟩ := h; exact (by first | exact keep_no rfl | (refine keep_sub ?_; (repeat (first | exact List.Sublist.refl _ | exact List.nil_sublist _ | apply List.Sublist.cons_cons | apply List.Sublist.cons)); done) | (refine keep_sub (List.Sublist.trans ?_ (List.sublist_append_right _ _)); (repeat (first | exact List.Sublist.refl _ | exact List.nil_sublist _ | apply List.Sublist.cons_cons | apply List.Sublist.cons)); done))) rfl rfl ?_
      rintro _ _ ⟨cb, ev, iv', rfl, rfl⟩
      refine t_y (Y_field rfl Try.underlying63 rfl one25 rfl) rfl rfl ?_
      refine t_y (Y_build (cs := wcD seed 0 fl 0 (.slice (some ⟨cb, 0, none⟩) 384 384) (.slice (some ⟨b30, 0, none⟩) 32 32) (.slice (some ⟨b31, 0, none⟩) 40 40) ⟨0, 0, 0, 0⟩) (by repeat (first | exact Gp.nil | apply Gp.const | apply Gp.tmp gt_)) (bld29 _ _ (by kernel_rfl))) rfl rfl ?_
      refine t_s (S_storeA (vs := wcD seed 0 fl 0 (.slice (some ⟨cb, 0, none⟩) 384 384) (.slice (some ⟨b30, 0, none⟩) 32 32) (.slice (some ⟨b31, 0, none⟩) 40 40) ⟨0, 0, 0, 0⟩) rfl rfl sz29 (by rfl) (by rfl) (by repeat (first | exact Upd.head | apply Upd.tail)) (by rfl)) (by first | exact keep_no rfl | (refine keep_sub ?_; (repeat (first | exact List.Sublist.refl _ | exact List.nil_sublist _ | apply List.Sublist.cons_cons | apply List.Sublist.cons)); done) | (refine keep_sub (List.Sublist.trans ?_ (List.sublist_append_right _ _)); (repeat (first | exact List.Sublist.refl _ | exact List.nil_sublist _ | apply List.Sublist.cons_cons | apply List.Sublist.cons)); done)) rfl ?_
      refine t_nil ?_
      exact go (b13, cb, b30, b31) _ _ trivial ⟨rfl, trivial⟩ rfl (fun w h => h.pick (by repeat (first | exact Sels.nil | apply Sels.cons (by repeat (first | exact Sel.head | apply Sel.tail)))))
    refine t_n (N_alloc (z := .agg #[.int .i64 0, .int .i64 0, .int .i64 0, .int .i64 0, .slice none 0 0, .slice none 0 0, .slice none 0 0, .int .i64 0, .int .i64 0, .int .i64 0, .int .i64 0]) (cs := [.int .i64 0, .int .i64 0, .int .i64 0, .int .i64 0, .slice none 0 0, .slice none 0 0, .slice none 0 0, .int .i64 0, .int .i64 0, .int .i64 0, .int .i64 0]) zv29 rfl) (fun _ => (by first | exact keep_no rfl | (refine keep_sub ?_; (repeat (first | exact List.Sublist.refl _ | exact List.nil_sublist _ | apply List.Sublist.cons_cons | apply List.Sublist.cons)); done) | (refine keep_sub (List.Sublist.trans ?_ (List.sublist_append_right _ _)); (repeat (first | exact List.Sublist.refl _ | exact List.nil_sublist _ | apply List.Sublist.cons_cons | apply List.Sublist.cons)); done))) rfl rfl (fun b13 _ => ?_)
    refine t_two ?_ ?_
    · skip
      refine t_c (En_call (fun _ => rfl) Try.func30 rfl (by kernel_rfl) rfl) (fun w hH => rmakeC_d hfr) (fun _ _ h => by obtain ⟨cb, ev, iv', rfl, rfl⟩ := h; exact (by first | exact keep_no rfl | (refine keep_sub ?_; (repeat (first | exact List.Sublist.refl _ | exact List.nil_sublist _ | apply List.Sublist.cons_cons | apply List.Sublist.cons)); done) | (refine keep_sub (List.Sublist.trans ?_ (List.sublist_append_right _ _)); (repeat (first | exact List.Sublist.refl _ | exact List.nil_sublist _ | apply List.Sublist.cons_cons | apply List.Sublist.cons)); done))) rfl rfl ?_
      rintro _ _ ⟨cb, ev, iv', rfl, rfl⟩
      refine t_y (Y_field rfl Try.underlying63 rfl one25 rfl) rfl rfl ?_
      refine t_two ?_ ?_
      · skip
        refine t_n (N_makeU (n := 32) (u0 := .int .i64 0) rfl rfl Try.underlying26 inf48 rfl (by omega) rfl (by omega) (by omega)) (fun _ => (by first | exact keep_no rfl | (refine keep_sub ?_; (repeat (first | exact List.Sublist.refl _ | exact List.nil_sublist _ | apply List.Sublist.cons_cons | apply List.Sublist.cons)); done) | (refine keep_sub (List.Sublist.trans ?_ (List.sublist_append_right _ _)); (repeat (first | exact List.Sublist.refl _ | exact List.nil_sublist _ | apply List.Sublist.cons_cons | apply List.Sublist.cons)); done))) rfl rfl (fun b30 _ => ?_)
        refine t_n (N_makeU (n := 40) (u0 := .int .i64 0) rfl rfl Try.underlying23 inf57 rfl (by omega) rfl (by omega) (by omega)) (fun _ => (by first | exact keep_no rfl | (refine keep_sub ?_; (repeat (first | exact List.Sublist.refl _ | exact List.nil_sublist _ | apply List.Sublist.cons_cons | apply List.Sublist.cons)); done) | (refine keep_sub (List.Sublist.trans ?_ (List.sublist_append_right _ _)); (repeat (first | exact List.Sublist.refl _ | exact List.nil_sublist _ | apply List.Sublist.cons_cons | apply List.Sublist.cons)); done))) rfl rfl (fun b31 _ => ?_)
        refine t_y (Y_build (cs := wcD seed 0 fl 0 (.slice (some ⟨cb, 0, none⟩) 384 384) (.slice (some ⟨b30, 0, none⟩) 32 32) (.slice (some ⟨b31, 0, none⟩) 40 40) ⟨0, 0, 0, 0⟩) (by repeat (first | exact Gp.nil | apply Gp.const | apply Gp.tmp gt_)) (bld29 _ _ (by kernel_rfl))) rfl rfl ?_
        refine t_s (S_storeA (vs := wcD seed 0 fl 0 (.slice (some ⟨cb, 0, none⟩) 384 384) (.slice (some ⟨b30, 0, none⟩) 32 32) (.slice (some ⟨b31, 0, none⟩) 40 40) ⟨0, 0, 0, 0⟩) rfl rfl sz29 (by rfl) (by rfl) (by repeat (first | exact Upd.head | apply Upd.tail)) (by rfl)) (by first | exact keep_no rfl | (refine keep_sub ?_; (repeat (first | exact List.Sublist.refl _ | exact List.nil_sublist _ | apply List.Sublist.cons_cons | apply List.Sublist.cons)); done) | (refine keep_sub (List.Sublist.trans ?_ (List.sublist_append_right _ _)); (repeat (first | exact List.Sublist.refl _ | exact List.nil_sublist _ | apply List.Sublist.cons_cons | apply List.Sublist.cons)); done)) rfl ?_
        refine t_nil ?_
        exact go (b13, cb, b30, b31) _ _ trivial ⟨rfl, trivial⟩ rfl (fun w h => h.pick (by repeat (first | exact Sels.nil | apply Sels.cons (by repeat (first | exact Sel.head | apply Sel.tail)))))
      refine t_n (N_makeU (n := 40) (u0 := .int .i64 0) rfl rfl Try.underlying23 inf57 rfl (by omega) rfl (by omega) (by omega)) (fun _ => (by first | exact keep_no rfl | (refine keep_sub ?_; (repeat (first | exact List.Sublist.refl _ | exact List.nil_sublist _ | apply List.Sublist.cons_cons | apply List.Sublist.cons)); done) | (refine keep_sub (List.Sublist.trans ?_ (List.sublist_append_right _ _)); (repeat (first | exact List.Sublist.refl _ | exact List.nil_sublist _ | apply List.Sublist.cons_cons | apply List.Sublist.cons)); done))) rfl rfl (fun b31 _ => ?_)
      refine t_n (N_makeU (n := 32) (u0 := .int .i64 0) rfl rfl Try.underlying26 inf48 rfl (by omega) rfl (by omega) (by omega)) (fun _ => (by first | exact keep_no rfl | (refine keep_sub ?_; (repeat (first | exact List.Sublist.refl _ | exact List.nil_sublist _ | apply List.Sublist.cons_cons | apply List.Sublist.cons)); done) | (refine keep_sub (List.Sublist.trans ?_ (List.sublist_append_right _ _)); (repeat (first | exact List.Sublist.refl _ | exact List.nil_sublist _ | apply List.Sublist.cons_cons | apply List.Sublist.cons)); done))) rfl rfl (fun b30 _ => ?_)
      refine t_y (Y_build (cs := wcD seed 0 fl 0 (.slice (some ⟨cb, 0, none⟩) 384 384) (.slice (some ⟨b30, 0, none⟩) 32 32) (.slice (some ⟨b31, 0, none⟩) 40 40) ⟨0, 0, 0, 0⟩) (by repeat (first | exact Gp.nil | apply Gp.const | apply Gp.tmp gt_)) (bld29 _ _ (by kernel_rfl))) rfl rfl ?_
      refine t_s (S_storeA (vs := wcD seed 0 fl 0 (.slice (some ⟨cb, 0, none⟩) 384 384) (.slice (some ⟨b30, 0, none⟩) 32 32) (.slice (some ⟨b31, 0, none⟩) 40 40) ⟨0, 0, 0, 0⟩) rfl rfl sz29 (by rfl) (by rfl) (by repeat (first | exact Upd.head | apply Upd.tail)) (by rfl)) (by first | exact keep_no rfl | (refine keep_sub ?_; (repeat (first | exact List.Sublist.refl _ | exact List.nil_sublist _ | apply List.Sublist.cons_cons | apply List.Sublist.cons)); done) | (refine keep_sub (List.Sublist.trans ?_ (List.sublist_append_right _ _)); (repeat (first | exact List.Sublist.refl _ | exact List.nil_sublist _ | apply List.Sublist.cons_cons | apply List.Sublist.cons)); done)) rfl ?_
      refine t_nil ?_
      exact go (b13, cb, b30, b31) _ _ trivial ⟨rfl, trivial⟩ rfl (fun w h => h.pick (by repeat (first | exact Sels.nil | apply Sels.cons (by repeat (first | exact Sel.head | apply Sel.tail)))))
    refine t_two ?_ ?_
    · skip
      refine t_n (N_makeU (n := 32) (u0 := .int .i64 0) rfl rfl Try.underlying26 inf48 rfl (by omega) rfl (by omega) (by omega)) (fun _ => (by first | exact keep_no rfl | (refine keep_sub ?_; (repeat (first | exact List.Sublist.refl _ | exact List.nil_sublist _ | apply List.Sublist.cons_cons | apply List.Sublist.cons)); done) | (refine keep_sub (List.Sublist.trans ?_ (List.sublist_append_right _ _)); (repeat (first | exact List.Sublist.refl _ | exact List.nil_sublist _ | apply List.Sublist.cons_cons | apply List.Sublist.cons)); done))) rfl rfl (fun b30 _ => ?_)
      refine t_two ?_ ?_
      · skip
        refine t_c (En_call (fun _ => rfl) Try.func30 rfl (by kernel_rfl) rfl) (fun w hH => rmakeC_d hfr) (fun _ _ h => by obtain ⟨cb, ev, iv', rfl, rfl⟩ := h; exact (by first | exact keep_no rfl | (refine keep_sub ?_; (repeat (first | exact List.Sublist.refl _ | exact List.nil_sublist _ | apply List.Sublist.cons_cons | apply List.Sublist.cons)); done) | (refine keep_sub (List.Sublist.trans ?_ (List.sublist_append_right _ _)); (repeat (first | exact List.Sublist.refl _ | exact List.nil_sublist _ | apply List.Sublist.cons_cons | apply List.Sublist.cons)); done))) rfl rfl ?_
        rintro _ _ ⟨cb, ev, iv', rfl, rfl⟩
        refine t_y (Y_field rfl Try.underlying63 rfl one25 rfl) rfl rfl ?_
        refine t_n (N_makeU (n := 40) (u0 := .int .i64 0) rfl rfl Try.underlying23 inf57 rfl (by omega) rfl (by omega) (by omega)) (fun _ => (by first | exact keep_no rfl | (refine keep_sub ?_; (repeat (first | exact List.Sublist.refl _ | exact List.nil_sublist _ | apply List.Sublist.cons_cons | apply List.Sublist.cons)); done) | (refine keep_sub (List.Sublist.trans ?_ (List.sublist_append_right _ _)); (repeat (first | exact List.Sublist.refl _ | exact List.nil_sublist _ | apply List.Sublist.cons_cons | apply List.Sublist.cons)); done))) rfl rfl (fun b31 _ => ?_)
        refine t_y (Y_build (cs := wcD seed 0 fl 0 (.slice (some ⟨cb, 0, none⟩) 384 384) (.slice (some ⟨b30, 0, none⟩) 32 32) (.slice (some ⟨b31, 0, none⟩) 40 40) ⟨0, 0, 0, 0⟩) (by repeat (first | exact Gp.nil | apply Gp.const | apply Gp.tmp gt_)) (bld29 _ _ (by kernel_rfl))) rfl rfl ?_
        refine t_s (S_storeA (vs := wcD seed 0 fl 0 (.slice (some ⟨cb, 0, none⟩) 384 384) (.slice (some ⟨b30, 0, none⟩) 32 32) (.slice (some ⟨b31, 0, none⟩) 40 40) ⟨0, 0, 0, 0⟩) rfl rfl sz29 (by rfl) (by rfl) (by repeat (first | exact Upd.head | apply Upd.tail)) (by rfl)) (by first | exact keep_no rfl | (refine keep_sub ?_; (repeat (first | exact List.Sublist.refl _ | exact List.nil_sublist _ | apply List.Sublist.cons_cons | apply List.Sublist.cons)); done) | (refine keep_sub (List.Sublist.trans ?_ (List.sublist_append_right _ _)); (repeat (first | exact List.Sublist.refl _ | exact List.nil_sublist _ | apply List.Sublist.cons_cons | apply List.Sublist.cons)); done)) rfl ?_
        refine t_nil ?_
        exact go (b13, cb, b30, b31) _ _ trivial ⟨rfl, trivial⟩ rfl (fun w h => h.pick (by repeat (first | exact Sels.nil | apply Sels.cons (by repeat (first | exact Sel.head | apply Sel.tail)))))
      refine t_n (N_makeU (n := 40) (u0 := .int .i64 0) rfl rfl Try.underlying23 inf57 rfl (by omega) rfl (by omega) (by omega)) (fun _ => (by first | exact keep_no rfl | (refine keep_sub ?_; (repeat (first | exact List.Sublist.refl _ | exact List.nil_sublist _ | apply List.Sublist.cons_cons | apply List.Sublist.cons)); done) | (refine keep_sub (List.Sublist.trans ?_ (List.sublist_append_right _ _)); (repeat (first | exact List.Sublist.refl _ | exact List.nil_sublist _ | apply List.Sublist.cons_cons | apply List.Sublist.cons)); done))) rfl rfl (fun b31 _ => ?_)
      refine t_c (En_call (fun _ => rfl) Try.func30 rfl (by kernel_rfl) rfl) (fun w hH => rmakeC_d hfr) (fun _ _ h => by obtain ⟨cb, ev, iv', rfl, rfl⟩ := h; exact (by first | exact keep_no rfl | (refine keep_sub ?_; (repeat (first | exact List.Sublist.refl _ | exact List.nil_sublist _ | apply List.Sublist.cons_cons | apply List.Sublist.cons)); done) | (refine keep_sub (List.Sublist.trans ?_ (List.sublist_append_right _ _)); (repeat (first | exact List.Sublist.refl _ | exact List.nil_sublist _ | apply List.Sublist.cons_cons | apply List.Sublist.cons)); done))) rfl rfl ?_
      rintro _ _ ⟨cb, ev, iv', rfl, rfl⟩
      refine t_y (Y_field rfl Try.underlying63 rfl one25 rfl) rfl rfl ?_
      refine t_y (Y_build (cs := wcD seed 0 fl 0 (.slice (some ⟨cb, 0, none⟩) 384 384) (.slice (some ⟨b30, 0, none⟩) 32 32) (.slice (some ⟨b31, 0, none⟩) 40 40) ⟨0, 0, 0, 0⟩) (by repeat (first | exact Gp.nil | apply Gp.const | apply Gp.tmp gt_)) (bld29 _ _ (by kernel_rfl))) rfl rfl ?_
      refine t_s (S_storeA (vs := wcD seed 0 fl 0 (.slice (some ⟨cb, 0, none⟩) 384 384) (.slice (some ⟨b30, 0, none⟩) 32 32) (.slice (some ⟨b31, 0, none⟩) 40 40) ⟨0, 0, 0, 0⟩) rfl rfl sz29 (by rfl) (by rfl) (by repeat (first | exact Upd.head | apply Upd.tail)) (by rfl)) (by first | exact keep_no rfl | (refine keep_sub ?_; (repeat (first | exact List.Sublist.refl _ | exact List.nil_sublist _ | apply List.Sublist.cons_cons | apply List.Sublist.cons)); done) | (refine keep_sub (List.Sublist.trans ?_ (List.sublist_append_right _ _)); (repeat (first | exact List.Sublist.refl _ | exact List.nil_sublist _ | apply List.Sublist.cons_cons | apply List.Sublist.cons)); done)) rfl ?_
      refine t_nil ?_
      exact go (b13, cb, b30, b31) _ _ trivial ⟨rfl, trivial⟩ rfl (fun w h => h.pick (by repeat (first | exact Sels.nil | apply Sels.cons (by repeat (first | exact Sel.head | apply Sel.tail)))))
    refine t_n (N_makeU (n := 40) (u0 := .int .i64 0) rfl rfl Try.underlying23 inf57 rfl (by omega) rfl (by omega) (by omega)) (fun _ => (by first | exact keep_no rfl | (refine keep_sub ?_; (repeat (first | exact List.Sublist.refl _ | exact List.nil_sublist _ | apply List.Sublist.cons_cons | apply List.Sublist.cons)); done) | (refine keep_sub (List.Sublist.trans ?_ (List.sublist_append_right _ _)); (repeat (first | exact List.Sublist.refl _ | exact List.nil_sublist _ | apply List.Sublist.cons_cons | apply List.Sublist.cons)); done))) rfl rfl (fun b31 _ => ?_)
    refine t_two ?_ ?_
    · skip
      refine t_c (En_call (fun _ => rfl) Try.func30 rfl (by kernel_rfl) rfl) (fun w hH => rmakeC_d hfr) (fun _ _ h => by obtain ⟨cb, ev, iv', rfl, rfl⟩ := h; exact (by first | exact keep_no rfl | (refine keep_sub ?_; (repeat (first | exact List.Sublist.refl _ | exact List.nil_sublist _ | apply List.Sublist.cons_cons | apply List.Sublist.cons)); done) | (refine keep_sub (List.Sublist.trans ?_ (List.sublist_append_right _ _)); (repeat (first | exact List.Sublist.refl _ | exact List.nil_sublist _ | apply List.Sublist.cons_cons | apply List.Sublist.cons)); done))) rfl rfl ?_
      rintro _ _ ⟨cb, ev, iv', rfl, rfl⟩
      refine t_y (Y_field rfl Try.underlying63 rfl one25 rfl) rfl rfl ?_
      refine t_n (N_makeU (n := 32) (u0 := .int .i64 0) rfl rfl Try.underlying26 inf48 rfl (by omega) rfl (by omega) (by omega)) (fun _ => (by first | exact keep_no rfl | (refine keep_sub ?_; (repeat (first | exact List.Sublist.refl _ | exact List.nil_sublist _ | apply List.Sublist.cons_cons | apply List.Sublist.cons)); done) | (refine keep_sub (List.Sublist.trans ?_ (List.sublist_append_right _ _)); (repeat (first | exact List.Sublist.refl _ | exact List.nil_sublist _ | apply List.Sublist.cons_cons | apply List.Sublist.cons)); done))) rfl rfl (fun b30 _ => ?_)
      refine t_y (Y_build (cs := wcD seed 0 fl 0 (.slice (some ⟨cb, 0, none⟩) 384 384) (.slice (some ⟨b30, 0, none⟩) 32 32) (.slice (some ⟨b31, 0, none⟩) 40 40) ⟨0, 0, 0, 0⟩) (by repeat (first | exact Gp.nil | apply Gp.const | apply Gp.tmp gt_)) (bld29 _ _ (by kernel_rfl))) rfl rfl ?_
      refine t_s (S_storeA (vs := wcD seed 0 fl 0 (.slice (some ⟨cb, 0, none⟩) 384 384) (.slice (some ⟨b30, 0, none⟩) 32 32) (.slice (some ⟨b31, 0, none⟩) 40 40) ⟨0, 0, 0, 0⟩) rfl rfl sz29 (by rfl) (by rfl) (by repeat (first | exact Upd.head | apply Upd.tail)) (by rfl)) (by first | exact keep_no rfl | (refine keep_sub ?_; (repeat (first | exact List.Sublist.refl _ | exact List.nil_sublist _ | apply List.Sublist.cons_cons | apply List.Sublist.cons)); done) | (refine keep_sub (List.Sublist.trans ?_ (List.sublist_append_right _ _)); (repeat (first | exact List.Sublist.refl _ | exact List.nil_sublist _ | apply List.Sublist.cons_cons | apply List.Sublist.cons)); done)) rfl ?_
      refine t_nil ?_
      exact go (b13, cb, b30, b31) _ _ trivial ⟨rfl, trivial⟩ rfl (fun w h => h.pick (by repeat (first | exact Sels.nil | apply Sels.cons (by repeat (first | exact Sel.head | apply Sel.tail)))))
    refine t_n (N_makeU (n := 32) (u0 := .int .i64 0) rfl rfl Try.underlying26 inf48 rfl (by omega) rfl (by omega) (by omega)) (fun _ => (by first | exact keep_no rfl | (refine keep_sub ?_; (repeat (first | exact List.Sublist.refl _ | exact List.nil_sublist _ | apply List.Sublist.cons_cons | apply List.Sublist.cons)); done) | (refine keep_sub (List.Sublist.trans ?_ (List.sublist_append_right _ _)); (repeat (first | exact List.Sublist.refl _ | exact List.nil_sublist _ | apply List.Sublist.cons_cons | apply List.Sublist.cons)); done))) rfl rfl (fun b30 _ => ?_)
    refine t_c (En_call (fun _ => rfl) Try.func30 rfl (by kernel_rfl) rfl) (fun w hH => rmakeC_d hfr) (fun _ _ h => by obtain ⟨cb, ev, iv', rfl, rfl⟩ := h; exact (by first | exact keep_no rfl | (refine keep_sub ?_; (repeat (first | exact List.Sublist.refl _ | exact List.nil_sublist _ | apply List.Sublist.cons_cons | apply List.Sublist.cons)); done) | (refine keep_sub (List.Sublist.trans ?_ (List.sublist_append_right _ _)); (repeat (first | exact List.Sublist.refl _ | exact List.nil_sublist _ | apply List.Sublist.cons_cons | apply List.Sublist.cons)); done))) rfl rfl ?_
    rintro _ _ ⟨cb, ev, iv', rfl, rfl⟩
    refine t_y (Y_field rfl Try.underlying63 rfl one25 rfl) rfl rfl ?_
    refine t_y (Y_build (cs := wcD seed 0 fl 0 (.slice (some ⟨cb, 0, none⟩) 384 384) (.slice (some ⟨b30, 0, none⟩) 32 32) (.slice (some ⟨b31, 0, none⟩) 40 40) ⟨0, 0, 0, 0⟩) (by repeat (first | exact Gp.nil | apply Gp.const | apply Gp.tmp gt_)) (bld29 _ _ (by kernel_rfl))) rfl rfl ?_
    refine t_s (S_storeA (vs := wcD seed 0 fl 0 (.slice (some ⟨cb, 0, none⟩) 384 384) (.slice (some ⟨b30, 0, none⟩) 32 32) (.slice (some ⟨b31, 0, none⟩) 40 40) ⟨0, 0, 0, 0⟩) rfl rfl sz29 (by rfl) (by rfl) (by repeat (first | exact Upd.head | apply Upd.tail)) (by rfl)) (by first | exact keep_no rfl | (refine keep_sub ?_; (repeat (first | exact List.Sublist.refl _ | exact List.nil_sublist _ | apply List.Sublist.cons_cons | apply List.Sublist.cons)); done) | (refine keep_sub (List.Sublist.trans ?_ (List.sublist_append_right _ _)); (repeat (first | exact List.Sublist.refl _ | exact List.nil_sublist _ | apply List.Sublist.cons_cons | apply List.Sublist.cons)); done)) rfl ?_
    refine t_nil ?_
    exact go (b13, cb, b30, b31) _ _ trivial ⟨rfl, trivial⟩ rfl (fun w h => h.pick (by repeat (first | exact Sels.nil | apply Sels.cons (by repeat (first | exact Sel.head | apply Sel.tail)))))
end
end Go.Proofs.Ytecodneffflpoaa
