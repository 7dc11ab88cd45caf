/- Items are laid, floors stocked, worlds begun: the document's, walked. -/
import Derived.Test.YtecodneffflpoaaD7
import Derived.Test.YtecodneffflpoaaG4
namespace Go.Proofs.Ytecodneffflpoaa
open Go.RowKit Go.Ad Go.Maps
set_option linter.unusedVariables false
set_option linter.unusedSimpArgs false
abbrev eB (b cap : Nat) (l : List Ent) : Bk := ⟨b, 48, 11, cap, ecells l⟩
abbrev iB (b cap : Nat) (l : List Itm) : Bk := ⟨b, 57, 4, cap, icells l⟩
section
variable {W : World}
set_option maxRecDepth 100000 in
theorem rlay_d {b o n c : Nat} {l : List Itm} (hs : SlB W b o n c 4 (icells l)) (h1 : n ≤ 100000) {v2 : Value} {n2 : Nat} {more : List Itm} (hm : SlV W 4 v2 n2 (icells more)) :
    Does Try.prog 55 [.slice (some ⟨b, o, none⟩) n c, v2] W [] (fun v L => ∃ g cap, n ≤ cap ∧ v = .slice (some ⟨g, 0, none⟩) n cap ∧ L = [iB g cap (layM l more)]) := by
  obtain rfl : n = l.length := by have := hs.len; rw [icells_len] at this; omega
  obtain rfl : n2 = more.length := by have := hm.len; rw [icells_len] at this; omega
  have hb := hs.cap
  have hmx := hm.le
  simp only [maxLen] at hmx
  refine enter Try.func55 rfl rfl rfl (Has.start _) ?_
  refine c_seq ?_
  -- ref.go:130 R0
  refine c_reg ?_
  refine s_y (Y_asC) rfl rfl ?_
  refine s_nil ?_
  refine q_then ?_
  refine c_seq ?_
  -- ref.go:131 R1
  refine c_reg ?_
  refine s_n (N_bs0 rfl Try.underlying23 sz57) rfl rfl (fun b8 _ => ?_)
  refine s_y (Y_mv) rfl rfl ?_
  refine s_n (N_appE (news := icells l) rfl rfl Try.underlying23 inf57 rfl (by omega) (by repeat (first | exact Sel.head | apply Sel.tail)) hs.src hs.len (one_i l) (by omega) (by omega)) rfl rfl (fun ⟨g10, cp10⟩ hc10 => ?_)
  refine s_y (Y_as) rfl rfl ?_
  refine s_nil ?_
  refine q_then ?_
  refine c_seq ?_
  refine c_seq ?_
  -- ref.go:132 R2
  refine c_reg ?_
  refine s_y (Y_asC) rfl rfl ?_
  refine s_nil ?_
  refine q_then ?_
  refine c_block ?_
  refine c_loop [6, 7, 11, 12, 13, 14, 15, 16, 17, 18, 19, 20, 21, 22, 23, 24, 25, 26, 27, 28, 29, 30, 31, 32, 33, 34, 35, 36, 37, 38, 39] (fun m (y : Nat × List Itm) => y.1 + m = more.length ∧ y.2.length = l.length ∧ (more.drop y.1).foldl layOne y.2 = layM l more) (fun y => [(6, iv y.1)]) (fun y => [iB g10 cp10 y.2]) (more.length) ((0, l)) (⟨by simp only; omega, rfl, rfl⟩) (by repeat (first | exact trivial | refine ⟨rfl, ?_⟩)) (fun _ h => h.sub sl_) (fun _ => rfl) ?_
  rintro m ⟨k, l'⟩ j ⟨hk, hl, hf⟩ K hK
  simp only at hk hl hf ⊢
  refine c_seq ?_
  refine c_seq ?_
  -- ref.go:132 R3
  refine c_reg ?_
  refine s_y (Y_mv) rfl rfl ?_
  refine s_y (Y_mv) rfl rfl ?_
  refine s_y (Y_lenV hm rfl rfl Try.underlying23) rfl rfl ?_
  refine s_y (Y_lss rfl rfl) rfl rfl ?_
  refine s_nil ?_
  refine q_then ?_
  first | refine c_cond' rfl (fun hc3 => ?_) (fun hc3 => ?_) | refine c_cond rfl (fun hc3 => ?_) (fun hc3 => ?_)
  · skip
    try simp only [nrm_] at hc3
    refine c_skip ?_
    refine q_then ?_
    refine c_seq ?_
    refine c_block ?_
    refine c_seq ?_
    -- ref.go:133 R5
    obtain ⟨x, hx⟩ := take_lt (show k < more.length by omega)
    rw [foldl_drop hx] at hf
    obtain ⟨b2, o2, c2, rfl, hm2⟩ := hm.some_of (by omega)
    have hr := hm2.at' Itm.len hx
    refine c_reg ?_
    refine s_y (Y_asC) rfl rfl ?_
    refine s_nil ?_
    refine q_then ?_
    refine c_block ?_
    refine c_loop [7, 17, 18, 19, 20, 21, 22, 23, 24, 25, 26, 27, 28, 29, 30, 31, 32, 33, 34, 35, 36, 37, 38, 39] (fun m2 i => i + m2 = min l.length 40 ∧ fnd Itm.isZ ((l'.take 40).drop i) i = fnd Itm.isZ (l'.take 40) 0) (fun i => [(7, iv i)]) (fun _ => [iB g10 cp10 l']) (min l.length 40) (0) (⟨by omega, rfl⟩) (by repeat (first | exact trivial | refine ⟨rfl, ?_⟩)) (fun _ h => h.sub sl_) (fun _ => rfl) ?_
    rintro m2 i j2 ⟨hi, hfd⟩ K2 hK2
    refine c_seq ?_
    refine c_seq ?_
    -- ref.go:133 R6
    refine c_reg ?_
    refine s_y (Y_mv) rfl rfl ?_
    refine s_y (Y_mv) rfl rfl ?_
    refine s_y (Y_len rfl rfl Try.underlying23) rfl rfl ?_
    refine s_y (Y_lss rfl rfl) rfl rfl ?_
    refine s_y (Y_mv) rfl rfl ?_
    apply s_and 3 [21, 22, 23, 24] 24 (g := 21) rfl rfl
    · intro ht5 hm
      try simp only [nrm_] at ht5
      first | refine s_y (Y_mv) rfl rfl ?_ | refine s_pass rfl rfl ?_
      first | refine s_y (Y_lss rfl rfl) rfl rfl ?_ | refine s_pass rfl rfl ?_
      refine s_y (Y_pk rfl (Gx.tmp gt_) Gx.const) rfl rfl ?_
      first | exact hm _ ⟨rfl, trivial⟩ rfl | exact QL.sub sl_ (hm _ ⟨rfl, trivial⟩ rfl)
    · intro ht5 hm
      iterate 2 refine s_pass rfl rfl ?_
      refine s_y (Y_pk rfl (Gx.tmp gt_) Gx.const) rfl rfl ?_
      exact hm _ ⟨rfl, trivial⟩ rfl
    intro j24
    refine s_nil ?_
    refine q_then ?_
    first | refine c_cond' rfl (fun hc6 => ?_) (fun hc6 => ?_) | refine c_cond rfl (fun hc6 => ?_) (fun hc6 => ?_)
    · skip
      try simp only [nrm_] at hc6
      refine c_skip ?_
      refine q_then ?_
      refine c_seq ?_
      refine c_block ?_
      refine c_seq ?_
      -- ref.go:134 R8
      obtain ⟨a, ha⟩ := take_lt (show i < (l'.take 40).length by rw [List.length_take]; omega)
      have ha2 : l'[i]? = some a := by rw [List.getElem?_take_of_lt (by omega)] at ha; exact ha
      refine c_reg ?_
      refine s_y (Y_mv) rfl rfl ?_
      refine s_y (Y_mv) rfl rfl ?_
      refine s_y (Y_ia rfl rfl Try.underlying23 sz57 rfl (by omega)) rfl rfl ?_
      refine s_y (Y_loadN (vs := a.cells) rfl many57 mm_ (by rfl) (igetN ha2)) rfl rfl ?_
      refine s_y (Y_build (cs := [.int .i64 0, .int .i64 0, .int .i64 0, .int .i64 0]) (by repeat (first | exact Gp.nil | apply Gp.const | apply Gp.tmp gt_)) (bld57 _ _ (by first | rfl | (simp; rfl)))) rfl rfl ?_
      refine s_y (Y_eqF (zs := [a.kind, a.whr, a.a, a.b]) (zs' := [0, 0, 0, 0]) rfl rfl flat57 rfl rfl) rfl rfl ?_
      refine s_nil ?_
      refine q_then ?_
      first | refine c_cond' rfl (fun hp => ?_) (fun hp => ?_) | refine c_cond rfl (fun hp => ?_) (fun hp => ?_)
      · skip
        try simp only [nrm_] at hp
        refine c_seq ?_
        -- ref.go:135 R9
        refine c_reg ?_
        refine s_y (Y_mv) rfl rfl ?_
        refine s_y (Y_mv) rfl rfl ?_
        refine s_y (Y_mv) rfl rfl ?_
        refine s_y (Y_mv) rfl rfl ?_
        refine s_y (Y_ia rfl rfl Try.underlying23 sz57 rfl (by omega)) rfl rfl ?_
        refine s_y ((by first | exact Y_loadAll rfl many57 mm_ (by rfl) | exact Y_loadN rfl many57 mm_ ‹_› ‹_› | exact Y_loadNR rfl many57 hr rfl | exact Y_loadNR rfl many57 hr2 rfl | exact Y_loadNR rfl many57 ‹_› rfl)) rfl rfl ?_
        refine s_y (Y_ia rfl rfl Try.underlying23 sz57 rfl (by omega)) rfl rfl ?_
        refine s_s (S_storeN (cs' := icells (l'.set i x)) rfl rfl sz57 (by rfl) (by rfl) (by repeat (first | exact Upd.head | apply Upd.tail)) (iall _ (by omega)) (by simp [icells_len, Itm.cells]; omega)) rfl ?_
        refine s_nil ?_
        refine q_then ?_
        refine c_exit ?_
        repeat with_reducible refine q_te ?_
        refine q_past rfl ?_
        repeat with_reducible refine q_te ?_
        refine q_exit ?_
        refine q_bn ?_
        refine q_then ?_
        -- ref.go:132 R4
        refine c_reg ?_
        refine s_y (Y_mv) rfl rfl ?_
        refine s_y ((by first | exact Y_add rfl rfl (by omega) | exact Y_addw rfl rfl)) rfl rfl ?_
        refine s_y (Y_as) rfl rfl ?_
        refine s_nil ?_
        have hz : a.isZ = true := by rw [isz_iff]; exact decide_eq_true hp
        have hfi := fnd_here ha hz
        rw [hfd] at hfi
        have hlo : layOne l' x = l'.set i x := by unfold layOne; rw [hfi, if_neg (by omega), Int.toNat_natCast]
        refine hK (m - 1) (k + 1, l'.set i x) _ _ (by omega) ⟨by simp only; omega, by simp only [List.length_set]; exact hl, by simp only; rw [← hlo]; exact hf⟩ ⟨rfl, trivial⟩ rfl (fun _ h => h)
      · skip
        try simp only [nrm_] at hp
        refine c_skip ?_
        refine q_bn ?_
        refine q_then ?_
        -- ref.go:133 R7
        refine c_reg ?_
        refine s_y (Y_mv) rfl rfl ?_
        refine s_y ((by first | exact Y_add rfl rfl (by omega) | exact Y_addw rfl rfl)) rfl rfl ?_
        refine s_y (Y_as) rfl rfl ?_
        refine s_nil ?_
        refine hK2 (m2 - 1) (i + 1) _ _ (by omega) ⟨by omega, by rw [← fnd_step ha (by rw [isz_iff]; exact decide_eq_false hp)]; exact hfd⟩ ⟨rfl, trivial⟩ rfl (fun _ h => h)
    · skip
      try simp only [nrm_] at hc6
      refine c_exit ?_
      repeat with_reducible refine q_te ?_
      refine q_exit ?_
      refine q_bn ?_
      refine q_then ?_
      -- ref.go:132 R4
      refine c_reg ?_
      refine s_y (Y_mv) rfl rfl ?_
      refine s_y ((by first | exact Y_add rfl rfl (by omega) | exact Y_addw rfl rfl)) rfl rfl ?_
      refine s_y (Y_as) rfl rfl ?_
      refine s_nil ?_
      have hlo : layOne l' x = l' := by unfold layOne; rw [← hfd, fnd_end (by rw [List.length_take]; omega), if_pos (by omega)]
      refine hK (m - 1) (k + 1, l') _ _ (by omega) ⟨by simp only; omega, hl, by simp only; rw [hlo] at hf; exact hf⟩ ⟨rfl, trivial⟩ rfl (fun _ h => h)
  · skip
    try simp only [nrm_] at hc3
    refine c_exit ?_
    repeat with_reducible refine q_te ?_
    refine q_exit ?_
    refine q_then ?_
    refine c_seq ?_
    -- ref.go:140 R10
    refine c_reg ?_
    refine s_y (Y_mv) rfl rfl ?_
    refine s_y (Y_as) rfl rfl ?_
    refine s_nil ?_
    refine q_then ?_
    refine c_ret ?_
    refine q_retG1 rfl gt_ (L' := _) sl_ (⟨g10, cp10, by omega, rfl, by rw [← hf, List.drop_eq_nil_of_le (by omega)]; rfl⟩)
theorem EntsP.sl {b o n c : Nat} {l l' : List Ent} {v : Value} {B L : List Bk} {w : World} (h : EntsP b o n c l l' v B) (hs : SlB W b o n c 11 (ecells l)) (hH : Has W [] L w) (hB : ∀ x ∈ B, x ∈ L) : ∃ b' o' c', v = .slice (some ⟨b', o', none⟩) n c' ∧ SlB w b' o' n c' 11 (ecells l') := by
  cases h with
  | old h => subst h; exact ⟨b, o, c, rfl, hs.has hH⟩
  | @new g cap h1 h2 => exact ⟨g, 0, cap, rfl, (hH.at' (hB _ (List.Mem.head _))).sl (by rw [ecells_len, h2]) (by rw [← h2]; exact h1)⟩
theorem EntsP.at' {b o n c : Nat} {l l' : List Ent} {v : Value} {B : List Bk} (h : EntsP b o n c l l' v B) : ∃ b' o' c', v = .slice (some ⟨b', o', none⟩) n c' ∧ ∀ {W w : World} {L : List Bk}, SlB W b o n c 11 (ecells l) → Has W [] L w → (∀ x ∈ B, x ∈ L) → SlB w b' o' n c' 11 (ecells l') := by
  cases h with
  | old h => subst h; exact ⟨b, o, c, rfl, fun hs hH _ => hs.has hH⟩
  | @new g cap h1 h2 => exact ⟨g, 0, cap, rfl, fun hs hH hB => (hH.at' (hB _ (List.Mem.head _))).sl (by rw [ecells_len, h2]) (by rw [← h2]; exact h1)⟩
theorem EntsP.one {b o n c : Nat} {l l' : List Ent} {v : Value} {B : List Bk} (h : EntsP b o n c l l' v B) : v.oneCell' = true := by cases h <;> rfl
theorem EntsP.open {b n c : Nat} {l l' : List Ent} {v : Value} {B : List Bk} (h : EntsP b 0 n c l l' v B) : ∃ eb ec, v = .slice (some ⟨eb, 0, none⟩) n ec ∧ ((l' = l ∧ eb = b ∧ ec = c ∧ B = []) ∨ (l'.length ≤ ec ∧ l'.length = n ∧ B = [eB eb ec l'])) := by
  cases h with
  | old h => exact ⟨b, c, rfl, .inl ⟨h, rfl, rfl, rfl⟩⟩
  | @new g cap h1 h2 => exact ⟨g, cap, rfl, .inr ⟨h1, h2, rfl⟩⟩
def stockOne (l : List Ent) (e : Ent) : List Ent := if eAt l e.x e.y < 0 then spawnedM l e else l
def stockEnts (l es : List Ent) : List Ent := es.foldl stockOne l
theorem stockOne_len (l : List Ent) (e : Ent) : (stockOne l e).length = l.length := by unfold stockOne; split; exact spawnedM_len l e; rfl
theorem stockEnts_len : ∀ (es l : List Ent), (stockEnts l es).length = l.length
  | [], l => rfl
  | e :: r, l => by
    have := stockEnts_len r (stockOne l e)
    rw [stockOne_len] at this
    exact this
theorem wv_eq {d : Wd} {s : Ws} {n1 n2 n3 : Nat} {z : List Value} (h1 : d.cells.length = n1) (h2 : d.ents.length = n2) (h3 : d.items.length = n3) (h : z = [iv d.seed, iv d.frame, iv d.floor, iv d.state, .slice (some ⟨s.cb, s.co, none⟩) n1 s.cc, .slice (some ⟨s.eb, s.eo, none⟩) n2 s.ec, .slice (some ⟨s.ib, s.io, none⟩) n3 s.ic, iv d.gold.a, iv d.gold.b, iv d.gold.c, iv d.gold.d]) : Value.agg z.toArray = .agg (wv d s).toArray := by
  subst h1 h2 h3 h; rfl
/-- The world that a stocked one is. -/
def stockW (d : Wd) (m : Lvl) : Wd := { d with ents := stockEnts d.ents m.ents, items := layM d.items m.items }
/-- Its value: cells as they were; entities as they were, or anew. -/
def StockP (d : Wd) (s : Ws) (d' : Wd) (v : Value) (L : List Bk) : Prop := ∃ ev B ig ic, v = .agg #[iv d.seed, iv d.frame, iv d.floor, iv d.state, .slice (some ⟨s.cb, s.co, none⟩) d.cells.length s.cc, ev, .slice (some ⟨ig, 0, none⟩) d.items.length ic, iv d.gold.a, iv d.gold.b, iv d.gold.c, iv d.gold.d] ∧ EntsP s.eb s.eo d.ents.length s.ec d.ents d'.ents ev B ∧ d.items.length ≤ ic ∧ L = iB ig ic d'.items :: B
abbrev wz : List Value := [iv 0, iv 0, iv 0, iv 0, .slice none 0 0, .slice none 0 0, .slice none 0 0, iv 0, iv 0, iv 0, iv 0]
abbrev wB (b : Nat) (c : List Value) : Bk := ⟨b, 29, 11, 1, c⟩
set_option maxRecDepth 100000 in
theorem rstock_d {d : Wd} {s : Ws} (hw : WAt W d s) (h1 : d.ents.length ≤ 100000 ∧ d.items.length ≤ 100000) {m : Lvl} {cv mev miv : Value} (hc : cv.oneCell' = true) (hme : SlV W 11 mev m.ents.length (ecells m.ents)) (hmi : SlV W 4 miv m.items.length (icells m.items)) :
    Does Try.prog 31 [.agg (wv d s).toArray, .agg #[cv, mev, miv]] W [] (StockP d s (stockW d m)) := by
  have hmx := hme.le
  simp only [maxLen] at hmx
  refine enter Try.func31 rfl rfl rfl (Has.start _) ?_
  refine c_seq ?_
  -- ref.go:24 R0
  refine c_reg ?_
  refine s_n (N_box (cs := wv d s) rfl) rfl rfl (fun b2 _ => ?_)
  refine s_n (N_box (cs := [cv, mev, miv]) rfl) rfl rfl (fun b3 _ => ?_)
  refine s_n (N_alloc (z := .agg #[.int .i64 0, .int .i64 0, .int .i64 0, .int .i64 0, .slice none 0 0, .slice none 0 0, .slice none 0 0, .int .i64 0, .int .i64 0, .int .i64 0, .int .i64 0]) (cs := [.int .i64 0, .int .i64 0, .int .i64 0, .int .i64 0, .slice none 0 0, .slice none 0 0, .slice none 0 0, .int .i64 0, .int .i64 0, .int .i64 0, .int .i64 0]) zv29 rfl) rfl rfl (fun b4 _ => ?_)
  refine s_nil ?_
  refine q_then ?_
  refine c_seq ?_
  refine c_seq ?_
  -- ref.go:25 R1
  refine c_reg ?_
  refine s_y (Y_asC) rfl rfl ?_
  refine s_nil ?_
  refine q_then ?_
  refine c_block ?_
  refine c_loop [5, 6, 7, 8, 9, 10, 11, 12, 13, 14, 15, 16, 17, 18, 19, 20, 21, 22, 23, 24, 25, 26, 27, 28, 29, 30, 31, 32, 33, 34, 35, 36, 37] (fun q (y : Nat × List Ent × Value × List Bk) => y.1 + q = m.ents.length ∧ (m.ents.drop y.1).foldl stockOne y.2.1 = stockEnts d.ents m.ents ∧ EntsP s.eb s.eo d.ents.length s.ec d.ents y.2.1 y.2.2.1 y.2.2.2) (fun y => [(5, iv y.1)]) (fun y => wB b2 [iv d.seed, iv d.frame, iv d.floor, iv d.state, .slice (some ⟨s.cb, s.co, none⟩) d.cells.length s.cc, y.2.2.1, .slice (some ⟨s.ib, s.io, none⟩) d.items.length s.ic, iv d.gold.a, iv d.gold.b, iv d.gold.c, iv d.gold.d] :: ⟨b3, 63, 3, 1, [cv, mev, miv]⟩ :: wB b4 wz :: y.2.2.2) (m.ents.length) ((0, d.ents, .slice (some ⟨s.eb, s.eo, none⟩) d.ents.length s.ec, [])) (⟨by simp only; omega, rfl, .old rfl⟩) (by repeat (first | exact trivial | refine ⟨rfl, ?_⟩)) (fun w h => h.pick (L' := [wB b2 (wv d s), ⟨b3, 63, 3, 1, [cv, mev, miv]⟩, wB b4 wz]) (by repeat (first | exact Sels.nil | apply Sels.cons (by repeat (first | exact Sel.head | apply Sel.tail))))) (fun _ => rfl) ?_
  rintro q ⟨i, es, v, B⟩ j ⟨hi, hf, hE⟩ K hK
  simp only at hi hf hE ⊢
  refine c_seq ?_
  refine c_seq ?_
  -- ref.go:25 R2
  refine c_reg ?_
  refine s_y (Y_mv) rfl rfl ?_
  refine s_y (Y_fa 1 rfl Try.underlying63 rfl sz26 rfl) rfl rfl ?_
  refine s_y ((by first | exact Y_load rfl one26 mm_ (by rfl) | exact Y_loadR rfl one26 hr rfl rfl | exact Y_loadR rfl one26 hr2 rfl rfl | exact Y_load rfl one26 mm_ (eget he rfl) | exact Y_load rfl one26 mm_ (iget hx rfl) | exact Y_load rfl one26 mm_ (by assumption) | exact Y_loadR rfl one26 (by assumption) rfl (by assumption))) rfl rfl ?_
  refine s_y (Y_lenV hme rfl rfl Try.underlying26) rfl rfl ?_
  refine s_y (Y_lss rfl rfl) rfl rfl ?_
  refine s_nil ?_
  refine q_then ?_
  first | refine c_cond' rfl (fun hc2 => ?_) (fun hc2 => ?_) | refine c_cond rfl (fun hc2 => ?_) (fun hc2 => ?_)
  · skip
    try simp only [nrm_] at hc2
    refine c_skip ?_
    refine q_then ?_
    refine c_seq ?_
    refine c_block ?_
    refine c_seq ?_
    -- ref.go:26 R4
    obtain ⟨e, he⟩ := take_lt (show i < m.ents.length by omega)
    rw [foldl_drop he] at hf
    obtain ⟨lb, lo, lc, rfl, hml⟩ := hme.some_of (by omega)
    have hr := hml.at' Ent.len he
    obtain ⟨eb, eo, ec, rfl, hes⟩ := hE.at'
    refine c_rordS (L0 := [wB b2 [iv d.seed, iv d.frame, iv d.floor, iv d.state, .slice (some ⟨s.cb, s.co, none⟩) d.cells.length s.cc, .slice (some ⟨eb, eo, none⟩) d.ents.length ec, .slice (some ⟨s.ib, s.io, none⟩) d.items.length s.ic, iv d.gold.a, iv d.gold.b, iv d.gold.c, iv d.gold.d], ⟨b3, 63, 3, 1, [cv, .slice (some ⟨lb, lo, none⟩) m.ents.length lc, miv]⟩]) sl_ [] [(0, true), (1, true), (2, true), (3, true), (4, true), (5, true), (6, true), (7, true), (8, true), (9, true), (10, true), (11, true), (12, true), (13, true), (14, false), (15, true)] (by kernel_rfl) (by kernel_rfl) (by kernel_rfl) (by kernel_rfl) rfl (by intro c a d v w h; cases d <;> exact h) rfl ?_
    simp only [mkOrd, List.filterMap_cons, List.filterMap_nil, List.getElem?_toArray, List.getElem?_cons_zero, List.getElem?_cons_succ, Option.map_some]
    refine o_y (Y_fa 5 rfl Try.underlying29 rfl sz26 rfl) rfl rfl ?_
    refine o_y ((by first | exact Y_load rfl one26 mm_ (by rfl) | exact Y_loadR rfl one26 hr rfl rfl | exact Y_loadR rfl one26 hr2 rfl rfl | exact Y_load rfl one26 mm_ (eget he rfl) | exact Y_load rfl one26 mm_ (iget hx rfl) | exact Y_load rfl one26 mm_ (by assumption) | exact Y_loadR rfl one26 (by assumption) rfl (by assumption))) rfl rfl ?_
    refine o_y (Y_fa 1 rfl Try.underlying63 rfl sz26 rfl) rfl rfl ?_
    refine o_y ((by first | exact Y_load rfl one26 mm_ (by rfl) | exact Y_loadR rfl one26 hr rfl rfl | exact Y_loadR rfl one26 hr2 rfl rfl | exact Y_load rfl one26 mm_ (eget he rfl) | exact Y_load rfl one26 mm_ (iget hx rfl) | exact Y_load rfl one26 mm_ (by assumption) | exact Y_loadR rfl one26 (by assumption) rfl (by assumption))) rfl rfl ?_
    refine o_y (Y_mv) rfl rfl ?_
    refine o_y (Y_ia rfl rfl Try.underlying26 sz48 rfl (by omega)) rfl rfl ?_
    refine o_y (Y_fa 3 rfl Try.underlying48 rfl sz3 rfl) rfl rfl ?_
    refine o_y ((by first | exact Y_load rfl one3 mm_ (by rfl) | exact Y_loadR rfl one3 hr rfl rfl | exact Y_loadR rfl one3 hr2 rfl rfl | exact Y_load rfl one3 mm_ (eget he rfl) | exact Y_load rfl one3 mm_ (iget hx rfl) | exact Y_load rfl one3 mm_ (by assumption) | exact Y_loadR rfl one3 (by assumption) rfl (by assumption))) rfl rfl ?_
    refine o_y (Y_fa 1 rfl Try.underlying63 rfl sz26 rfl) rfl rfl ?_
    refine o_y ((by first | exact Y_load rfl one26 mm_ (by rfl) | exact Y_loadR rfl one26 hr rfl rfl | exact Y_loadR rfl one26 hr2 rfl rfl | exact Y_load rfl one26 mm_ (eget he rfl) | exact Y_load rfl one26 mm_ (iget hx rfl) | exact Y_load rfl one26 mm_ (by assumption) | exact Y_loadR rfl one26 (by assumption) rfl (by assumption))) rfl rfl ?_
    refine o_y (Y_mv) rfl rfl ?_
    refine o_y (Y_ia rfl rfl Try.underlying26 sz48 rfl (by omega)) rfl rfl ?_
    refine o_y (Y_fa 4 rfl Try.underlying48 rfl sz3 rfl) rfl rfl ?_
    refine o_y ((by first | exact Y_load rfl one3 mm_ (by rfl) | exact Y_loadR rfl one3 hr rfl rfl | exact Y_loadR rfl one3 hr2 rfl rfl | exact Y_load rfl one3 mm_ (eget he rfl) | exact Y_load rfl one3 mm_ (iget hx rfl) | exact Y_load rfl one3 mm_ (by assumption) | exact Y_loadR rfl one3 (by assumption) rfl (by assumption))) rfl rfl ?_
    refine o_c (En_call (fun _ => rfl) Try.func16 rfl (by kernel_rfl) rfl) (fun w hH => reat_d (l := es) (hes hw.e hH (fun x hx => List.mem_cons_of_mem _ (List.mem_cons_of_mem _ (List.mem_cons_of_mem _ hx))))) (fun _ _ h => by obtain ⟨rfl, rfl⟩ := h; exact (by first | exact keep_no rfl | (refine keep_sub ?_; (repeat (first | exact List.Sublist.refl _ | exact List.nil_sublist _ | apply List.Sublist.cons_cons | apply List.Sublist.cons)); done) | (refine keep_sub (List.Sublist.trans ?_ (List.sublist_append_right _ _)); (repeat (first | exact List.Sublist.refl _ | exact List.nil_sublist _ | apply List.Sublist.cons_cons | apply List.Sublist.cons)); done))) rfl rfl ?_
    rintro _ _ ⟨rfl, rfl⟩
    refine o_y (Y_lss rfl rfl) rfl rfl ?_
    refine o_nil ?_
    refine q_then ?_
    first | refine c_cond' rfl (fun hc4 => ?_) (fun hc4 => ?_) | refine c_cond rfl (fun hc4 => ?_) (fun hc4 => ?_)
    · skip
      try simp only [nrm_] at hc4
      -- ref.go:27 R5
      refine c_rordS (L0 := [wB b2 [iv d.seed, iv d.frame, iv d.floor, iv d.state, .slice (some ⟨s.cb, s.co, none⟩) d.cells.length s.cc, .slice (some ⟨eb, eo, none⟩) d.ents.length ec, .slice (some ⟨s.ib, s.io, none⟩) d.items.length s.ic, iv d.gold.a, iv d.gold.b, iv d.gold.c, iv d.gold.d], ⟨b3, 63, 3, 1, [cv, .slice (some ⟨lb, lo, none⟩) m.ents.length lc, miv]⟩]) sl_ [9] [(0, true), (1, true), (2, true), (3, true), (4, true), (5, true), (6, true), (7, false), (8, true), (9, false)] (by kernel_rfl) (by kernel_rfl) (by kernel_rfl) (by kernel_rfl) rfl (by intro c a d v w h; cases d <;> exact h) rfl ?_
      simp only [mkOrd, List.filterMap_cons, List.filterMap_nil, List.getElem?_toArray, List.getElem?_cons_zero, List.getElem?_cons_succ, Option.map_some]
      refine o_y (Y_fa 5 rfl Try.underlying29 rfl sz26 rfl) rfl rfl ?_
      refine o_y ((by first | exact Y_load rfl one26 mm_ (by rfl) | exact Y_loadR rfl one26 hr rfl rfl | exact Y_loadR rfl one26 hr2 rfl rfl | exact Y_load rfl one26 mm_ (eget he rfl) | exact Y_load rfl one26 mm_ (iget hx rfl) | exact Y_load rfl one26 mm_ (by assumption) | exact Y_loadR rfl one26 (by assumption) rfl (by assumption))) rfl rfl ?_
      refine o_y (Y_fa 1 rfl Try.underlying63 rfl sz26 rfl) rfl rfl ?_
      refine o_y ((by first | exact Y_load rfl one26 mm_ (by rfl) | exact Y_loadR rfl one26 hr rfl rfl | exact Y_loadR rfl one26 hr2 rfl rfl | exact Y_load rfl one26 mm_ (eget he rfl) | exact Y_load rfl one26 mm_ (iget hx rfl) | exact Y_load rfl one26 mm_ (by assumption) | exact Y_loadR rfl one26 (by assumption) rfl (by assumption))) rfl rfl ?_
      refine o_y (Y_mv) rfl rfl ?_
      refine o_y (Y_ia rfl rfl Try.underlying26 sz48 rfl (by omega)) rfl rfl ?_
      refine o_y (Y_loadNR rfl many48 hr rfl) rfl rfl ?_
      refine o_c (En_call (fun _ => rfl) Try.func54 rfl (by kernel_rfl) rfl) (fun w hH => rspawned_d (hes hw.e hH (fun x hx => List.mem_cons_of_mem _ (List.mem_cons_of_mem _ (List.mem_cons_of_mem _ hx)))) h1.1 e) (fun _ _ h => by obtain hP := h; exact (by first | exact keep_no rfl | (refine keep_sub ?_; (repeat (first | exact List.Sublist.refl _ | exact List.nil_sublist _ | apply List.Sublist.cons_cons | apply List.Sublist.cons)); done) | (refine keep_sub (List.Sublist.trans ?_ (List.sublist_append_right _ _)); (repeat (first | exact List.Sublist.refl _ | exact List.nil_sublist _ | apply List.Sublist.cons_cons | apply List.Sublist.cons)); done))) rfl rfl ?_
      rintro _ _ hP
      rename_i v2 L2
      have h12 := hP.one
      refine QL.perm List.perm_append_comm ?_
      refine o_y (Y_fa 5 rfl Try.underlying29 rfl sz26 rfl) rfl rfl ?_
      refine o_s (S_st rfl gt_ sz26 h12 (by repeat (first | exact Upd.head | apply Upd.tail)) (by first | (simp only [Nat.zero_add, Nat.reduceAdd, List.set_cons_succ, List.set_cons_zero]; rfl) | rfl) (by simp)) (by first | exact keep_no rfl | (refine keep_sub ?_; (repeat (first | exact List.Sublist.refl _ | exact List.nil_sublist _ | apply List.Sublist.cons_cons | apply List.Sublist.cons)); done) | (refine keep_sub (List.Sublist.trans ?_ (List.sublist_append_right _ _)); (repeat (first | exact List.Sublist.refl _ | exact List.nil_sublist _ | apply List.Sublist.cons_cons | apply List.Sublist.cons)); done)) rfl ?_
      refine o_nil ?_
      refine q_bn ?_
      refine q_then ?_
      -- ref.go:25 R3
      refine c_reg ?_
      refine s_y (Y_mv) rfl rfl ?_
      refine s_y ((by first | exact Y_add rfl rfl (by omega) | exact Y_addw rfl rfl)) rfl rfl ?_
      refine s_y (Y_as) rfl rfl ?_
      refine s_nil ?_
      have hso : stockOne es e = spawnedM es e := by unfold stockOne; rw [if_pos hc4]
      rw [hso] at hf
      cases hP with
      | old h =>
        rw [h] at hf
        refine hK (q - 1) (i + 1, es, _, B) _ _ (by omega) ⟨by simp only; omega, hf, hE⟩ ⟨rfl, trivial⟩ rfl (fun _ h => ?_)
        simpa using h
      | @new g cap hg1 hg2 =>
        refine hK (q - 1) (i + 1, spawnedM es e, _, [eB g cap (spawnedM es e)]) _ _ (by omega) ⟨by simp only; omega, hf, .new hg1 hg2⟩ ⟨rfl, trivial⟩ rfl (fun _ h => h.sub ?_)
        exact ((List.sublist_append_right B [eB g cap (spawnedM es e)]).cons_cons _).cons_cons _ |>.cons_cons _
    · skip
      try simp only [nrm_] at hc4
      refine c_skip ?_
      refine q_bn ?_
      refine q_then ?_
      -- ref.go:25 R3
      refine c_reg ?_
      refine s_y (Y_mv) rfl rfl ?_
      refine s_y ((by first | exact Y_add rfl rfl (by omega) | exact Y_addw rfl rfl)) rfl rfl ?_
      refine s_y (Y_as) rfl rfl ?_
      refine s_nil ?_
      have hso : stockOne es e = es := by unfold stockOne; rw [if_neg hc4]
      rw [hso] at hf
      refine hK (q - 1) (i + 1, es, _, B) _ _ (by omega) ⟨by simp only; omega, hf, hE⟩ ⟨rfl, trivial⟩ rfl (fun _ h => h)
  · skip
    try simp only [nrm_] at hc2
    refine c_exit ?_
    repeat with_reducible refine q_te ?_
    refine q_exit ?_
    refine q_then ?_
    refine c_seq ?_
    -- ref.go:30 R6
    refine c_reg ?_
    refine s_y (Y_fa 6 rfl Try.underlying29 rfl sz23 rfl) rfl rfl ?_
    refine s_y ((by first | exact Y_load rfl one23 mm_ (by rfl) | exact Y_loadR rfl one23 hr rfl rfl | exact Y_loadR rfl one23 hr2 rfl rfl | exact Y_load rfl one23 mm_ (eget he rfl) | exact Y_load rfl one23 mm_ (iget hx rfl) | exact Y_load rfl one23 mm_ (by assumption) | exact Y_loadR rfl one23 (by assumption) rfl (by assumption))) rfl rfl ?_
    refine s_y (Y_fa 2 rfl Try.underlying63 rfl sz23 rfl) rfl rfl ?_
    refine s_y ((by first | exact Y_load rfl one23 mm_ (by rfl) | exact Y_loadR rfl one23 hr rfl rfl | exact Y_loadR rfl one23 hr2 rfl rfl | exact Y_load rfl one23 mm_ (eget he rfl) | exact Y_load rfl one23 mm_ (iget hx rfl) | exact Y_load rfl one23 mm_ (by assumption) | exact Y_loadR rfl one23 (by assumption) rfl (by assumption))) rfl rfl ?_
    refine s_c (En_call (fun _ => rfl) Try.func55 rfl (by kernel_rfl) rfl) (fun w hH => rlay_d (hw.i.has hH) h1.2 (hmi.has hH)) rfl rfl ?_
    rintro _ _ ⟨ig, ic, hic, rfl, rfl⟩
    refine s_y (Y_fa 6 rfl Try.underlying29 rfl sz23 rfl) rfl rfl ?_
    refine s_s (S_st rfl gt_ sz23 (by rfl) (by repeat (first | exact Upd.head | apply Upd.tail)) (by first | (simp only [Nat.zero_add, Nat.reduceAdd, List.set_cons_succ, List.set_cons_zero]; rfl) | rfl) (by first | (simp; done) | omega)) rfl ?_
    refine s_nil ?_
    refine q_then ?_
    refine c_seq ?_
    -- ref.go:31 R7
    have hall : ([iv d.seed, iv d.frame, iv d.floor, iv d.state, .slice (some ⟨s.cb, s.co, none⟩) d.cells.length s.cc, v, .slice (some ⟨ig, 0, none⟩) d.items.length ic, iv d.gold.a, iv d.gold.b, iv d.gold.c, iv d.gold.d] : List Value).all (·.oneCell') = true := by simp only [List.all_cons, List.all_nil, hE.one]; rfl
    refine c_reg ?_
    refine s_y ((by first | exact Y_loadAll rfl many29 mm_ (by rfl) | exact Y_loadN rfl many29 mm_ ‹_› ‹_› | exact Y_loadNR rfl many29 hr rfl | exact Y_loadNR rfl many29 hr2 rfl | exact Y_loadNR rfl many29 ‹_› rfl)) rfl rfl ?_
    refine s_s ((by first | exact S_storeA rfl rfl sz29 (by first | rfl | assumption) (by first | rfl | assumption) (by repeat (first | exact Upd.head | apply Upd.tail)) (by first | rfl | assumption) | exact S_storeN rfl rfl sz29 (by rfl) (by first | rfl | assumption) (by repeat (first | exact Upd.head | apply Upd.tail)) (by simp only [setAll, List.set_cons_zero, List.set_cons_succ, Nat.zero_add, Nat.reduceAdd]; rfl) (by first | rfl | assumption))) rfl ?_
    refine s_nil ?_
    refine q_then ?_
    refine c_ret ?_
    refine q_ret1c rfl rfl many29 mm_ (by rfl) (L' := _) sl_ (⟨v, B, ig, ic, rfl, by rw [show i = m.ents.length by omega, List.drop_length] at hf; rw [show (stockW d m).ents = es from hf.symm]; exact hE, hic, rfl⟩)
/-- A world whose rows are all its own. -/
def WdN (d : Wd) (v : Value) (L : List Bk) : Prop := ∃ cb cc eb ec ib ic, v = .agg (wv d ⟨cb, 0, cc, eb, 0, ec, ib, 0, ic⟩).toArray ∧ L = [cB cb cc d.cells, eB eb ec d.ents, iB ib ic d.items] ∧ d.cells.length ≤ cc ∧ d.ents.length ≤ ec ∧ d.items.length ≤ ic
theorem wAt_of {w : World} {L : List Bk} {W0 : World} {M : List Nat} {d : Wd} {cb cc eb ec ib ic : Nat} (hH : Has W0 M L w) (h1 : cB cb cc d.cells ∈ L) (h2 : eB eb ec d.ents ∈ L) (h3 : iB ib ic d.items ∈ L) (l1 : d.cells.length ≤ cc) (l2 : d.ents.length ≤ ec) (l3 : d.items.length ≤ ic) : WAt w d ⟨cb, 0, cc, eb, 0, ec, ib, 0, ic⟩ :=
  ⟨(hH.at' h1).sl (by simp) l1, (hH.at' h2).sl (by rw [ecells_len]) l2, (hH.at' h3).sl (by rw [icells_len]) l3⟩
theorem fl_rep {α : Type} {c : α → List Value} {k : Nat} {u : Value} {a : α} (h : c a = List.replicate k u) : ∀ n, (List.replicate n a).flatMap c = List.replicate (n * k) u
  | 0 => by simp
  | n + 1 => by rw [List.replicate_succ, List.flatMap_cons, fl_rep h n, h, List.replicate_append_replicate, Nat.succ_mul, Nat.add_comm]
theorem ezero (b n : Nat) : eB b n (List.replicate n Ent.zero) = ⟨b, 48, 11, n, List.replicate (n * 11) (iv 0)⟩ := by rw [eB, ecells, fl_rep (c := Ent.cells) (k := 11) (u := iv 0) rfl]
theorem izero (b n : Nat) : iB b n (List.replicate n Itm.zero) = ⟨b, 57, 4, n, List.replicate (n * 4) (iv 0)⟩ := by rw [iB, icells, fl_rep (c := Itm.cells) (k := 4) (u := iv 0) rfl]
def newM (seed : Int) : Wd := stockW ⟨seed, 0, 1, 0, (makeM seed 1).cells, List.replicate 32 Ent.zero, List.replicate 40 Itm.zero, ⟨0, 0, 0, 0⟩⟩ (makeM seed 1)
theorem make_len (seed floor : Int) : (makeM seed floor).cells.length = 384 := by
  show (cellsM seed floor).length = 384
  rw [cellsM, shopC_len, down_len]
theorem rmake_d' {seed floor : Int} (hfl : 1 ≤ floor ∧ floor ≤ 3) : Does Try.prog 30 [iv seed, iv floor] W [] (fun v L => ∃ cb ev E iv' I, v = .agg #[.slice (some ⟨cb, 0, none⟩) (makeM seed floor).cells.length 384, ev, iv'] ∧ Row 48 11 ev (makeM seed floor).ents.length (ecells (makeM seed floor).ents) E ∧ Row 57 4 iv' (makeM seed floor).items.length (icells (makeM seed floor).items) I ∧ L = cB cb 384 (makeM seed floor).cells :: (I ++ E)) :=
  (rmake_d hfl).post fun v L ⟨cb, ev, E, iv', I, h1, h2, h3, h4⟩ => ⟨cb, ev, E, iv', I, by rw [make_len]; exact h1, h2, h3, h4⟩
set_option maxRecDepth 100000 in
theorem rnew_d {seed : Int} : Does Try.prog 10 [iv seed] W [] (WdN (newM seed)) := by
  refine enter Try.func10 rfl rfl rfl (Has.start _) ?_
  refine c_seq ?_
  -- ref.go:17 R0
  refine c_reg ?_
  refine s_n (N_alloc (z := .agg #[.int .i64 0, .int .i64 0, .int .i64 0, .int .i64 0, .slice none 0 0, .slice none 0 0, .slice none 0 0, .int .i64 0, .int .i64 0, .int .i64 0, .int .i64 0]) (cs := [.int .i64 0, .int .i64 0, .int .i64 0, .int .i64 0, .slice none 0 0, .slice none 0 0, .slice none 0 0, .int .i64 0, .int .i64 0, .int .i64 0, .int .i64 0]) zv29 rfl) rfl rfl (fun b2 _ => ?_)
  refine s_nil ?_
  refine q_then ?_
  refine c_seq ?_
  -- ref.go:18 R1
  refine c_reg ?_
  refine s_y (Y_mv) rfl rfl ?_
  refine s_c (En_call (fun _ => rfl) Try.func30 rfl (by kernel_rfl) rfl) (fun w hH => rmake_d' (by decide)) rfl rfl ?_
  rintro _ _ ⟨cb, ev, E, iv', I, rfl, hE, hI, rfl⟩
  refine QL.last ?_
  refine s_n (N_alloc (z := .agg #[.slice none 0 0, .slice none 0 0, .slice none 0 0]) (cs := [.slice none 0 0, .slice none 0 0, .slice none 0 0]) zv63 rfl) rfl rfl (fun b3 _ => ?_)
  refine s_s (S_storeA (vs := [.slice (some ⟨cb, 0, none⟩) (makeM seed 1).cells.length 384, ev, iv']) rfl rfl sz63 (by rfl) (by simp only [List.all_cons, List.all_nil, hE.one, hI.one]; rfl) (by repeat (first | exact Upd.head | apply Upd.tail)) (by rfl)) rfl ?_
  refine s_nil ?_
  refine q_then ?_
  refine c_seq ?_
  refine c_meetQ (ks := [4, 7, 8, 9, 10, 11, 12]) (tr := fun y : Nat × Nat × Nat => [(4, .pointer (some ⟨y.1, 0, none⟩))]) (φ := fun y => True) (G := fun y => wB y.1 [iv seed, iv 0, iv 1, iv 0, .slice (some ⟨cb, 0, none⟩) (makeM seed 1).cells.length 384, .slice (some ⟨y.2.1, 0, none⟩) 32 32, .slice (some ⟨y.2.2, 0, none⟩) 40 40, iv 0, iv 0, iv 0, iv 0] :: eB y.2.1 32 (List.replicate 32 Ent.zero) :: iB y.2.2 40 (List.replicate 40 Itm.zero) :: ⟨b3, 63, 3, 1, [.slice (some ⟨cb, 0, none⟩) (makeM seed 1).cells.length 384, ev, iv']⟩ :: wB b2 wz :: cB cb 384 (makeM seed 1).cells :: (I ++ E)) (fun _ => rfl) ?_ ?_
  · rintro ⟨b4, b10, b11⟩ j hj
    refine q_then ?_
    refine c_seq ?_
    -- ref.go:20 R3
    have hcl : (makeM seed 1).cells.length = 384 := make_len seed 1
    refine c_reg ?_
    refine s_y ((by first | exact Y_loadAll rfl many29 mm_ (by rfl) | exact Y_loadN rfl many29 mm_ ‹_› ‹_› | exact Y_loadNR rfl many29 hr rfl | exact Y_loadNR rfl many29 hr2 rfl | exact Y_loadNR rfl many29 ‹_› rfl)) rfl rfl ?_
    refine s_y ((by first | exact Y_loadAll rfl many63 mm_ (by rfl) | exact Y_loadN rfl many63 mm_ ‹_› ‹_› | exact Y_loadNR rfl many63 hr rfl | exact Y_loadNR rfl many63 hr2 rfl | exact Y_loadNR rfl many63 ‹_› rfl)) rfl rfl ?_
    refine s_c (En_call (fun _ => rfl) Try.func31 rfl (by kernel_rfl) rfl) (fun w hH => rstock_d (d := ⟨seed, 0, 1, 0, (makeM seed 1).cells, List.replicate 32 Ent.zero, List.replicate 40 Itm.zero, ⟨0, 0, 0, 0⟩⟩) (s := ⟨cb, 0, 384, b10, 0, 32, b11, 0, 40⟩) (m := makeM seed 1) (wAt_of hH (d := ⟨seed, 0, 1, 0, (makeM seed 1).cells, List.replicate 32 Ent.zero, List.replicate 40 Itm.zero, ⟨0, 0, 0, 0⟩⟩) mm_ mm_ mm_ (Nat.le_of_eq hcl) (by simp) (by simp)) (by simp) rfl (hE.slv hH (fun x hx => by repeat (first | exact hx | exact List.mem_append_left _ hx | exact List.mem_append_right _ hx | apply List.Mem.tail | apply List.mem_append_right))) (hI.slv hH (fun x hx => by repeat (first | exact hx | exact List.mem_append_left _ hx | exact List.mem_append_right _ hx | apply List.Mem.tail | apply List.mem_append_right)))) rfl rfl ?_
    rintro _ _ ⟨ev2, B, ig, ic, rfl, hE2, hi2, rfl⟩
    obtain ⟨eb2, ec2, rfl, hB⟩ := hE2.open
    have hl2 : (newM seed).ents.length = 32 := by show (stockEnts (List.replicate 32 Ent.zero) _).length = 32; rw [stockEnts_len, List.length_replicate]
    have hl3 : (newM seed).items.length = 40 := by show (layM (List.replicate 40 Itm.zero) _).length = 40; rw [layM_len, List.length_replicate]
    have hec : 32 ≤ ec2 := by
      rcases hB with ⟨_, _, h, _⟩ | ⟨h, h2, _⟩
      · have h : ec2 = 32 := h
        omega
      · simp only [List.length_replicate] at h2; omega
    refine QL.conv (L' := [wB b2 wz, cB cb 384 (makeM seed 1).cells, eB eb2 ec2 (newM seed).ents, iB ig ic (newM seed).items]) (fun w hw => ?_) ?_
    · rcases hB with ⟨h1, rfl, rfl, rfl⟩ | ⟨_, _, rfl⟩
      · rw [show (newM seed).ents = List.replicate 32 Ent.zero from h1]; exact hw.pick (by repeat (first | exact Sels.nil | apply Sels.cons (by repeat (first | exact Sel.head | apply Sel.tail))))
      · exact hw.pick (by repeat (first | exact Sels.nil | apply Sels.cons (by repeat (first | exact Sel.head | apply Sel.tail))))
    refine s_s ((by first | exact S_storeA rfl rfl sz29 (by first | rfl | assumption) (by first | rfl | assumption) (by repeat (first | exact Upd.head | apply Upd.tail)) (by first | rfl | assumption) | exact S_storeN rfl rfl sz29 (by rfl) (by first | rfl | assumption) (by repeat (first | exact Upd.head | apply Upd.tail)) (by simp only [setAll, List.set_cons_zero, List.set_cons_succ, Nat.zero_add, Nat.reduceAdd]; rfl) (by first | rfl | assumption))) rfl ?_
    refine s_nil ?_
    refine q_then ?_
    refine c_ret ?_
    refine q_ret1c rfl rfl many29 mm_ (by rfl) (L' := [cB cb 384 (makeM seed 1).cells, eB eb2 ec2 (newM seed).ents, iB ig ic (newM seed).items]) sl_ ⟨cb, 384, eb2, ec2, ig, ic, wv_eq (d := newM seed) (s := ⟨cb, 0, 384, eb2, 0, ec2, ig, 0, ic⟩) hcl hl2 hl3 (by rw [hcl]; simp only [List.length_replicate]; rfl), rfl, by show (makeM seed 1).cells.length ≤ 384; omega, by omega, by simp only [List.length_replicate] at hi2; omega⟩
  · intro go
    -- ref.go:19 R2 ALL WAYS
    refine c_rall (L0 := [⟨b3, 63, 3, 1, [.slice (some ⟨cb, 0, none⟩) (makeM seed 1).cells.length 384, ev, iv']⟩]) sl_ [7] (.take 0 (.take 1 (.take 2 (.alt 3 (.alt 4 (.take 5 (.one 6 (.one 7 .nil))) (.one 6 (.one 4 (.take 5 (.one 7 .nil))))) (.alt 4 (.alt 3 (.take 5 (.one 6 (.one 7 .nil))) (.one 6 (.one 3 (.take 5 (.one 7 .nil))))) (.one 6 (.alt 3 (.one 4 (.take 5 (.one 7 .nil))) (.one 4 (.one 3 (.take 5 (.one 7 .nil))))))))))) (by kernel_rfl) (by kernel_rfl) (by kernel_rfl) (by kernel_rfl) (by kernel_rfl) (by intro c a d v w h; cases d <;> exact h) rfl ?_
    refine t_y (Y_mv) rfl rfl ?_
    refine t_y (Y_fa 0 rfl Try.underlying63 rfl sz25 rfl) rfl rfl ?_
    refine t_y ((by first | exact Y_load rfl one25 mm_ (by rfl) | exact Y_loadR rfl one25 hr rfl rfl | exact Y_loadR rfl one25 hr2 rfl rfl | exact Y_load rfl one25 mm_ (eget he rfl) | exact Y_load rfl one25 mm_ (iget hx rfl) | exact Y_load rfl one25 mm_ (by assumption) | exact Y_loadR rfl one25 (by assumption) rfl (by assumption))) rfl rfl ?_
    refine t_two ?_ ?_
    · skip
      refine t_n (N_makeU (n := 32) (u0 := .int .i64 0) rfl rfl Try.underlying26 inf48 rfl (by omega) rfl (by omega) (by omega)) (fun _ => (by first | exact keep_no rfl | (refine keep_sub ?_; (repeat (first | exact List.Sublist.refl _ | exact List.nil_sublist _ | apply List.Sublist.cons_cons | apply List.Sublist.cons)); done) | (refine keep_sub (List.Sublist.trans ?_ (List.sublist_append_right _ _)); (repeat (first | exact List.Sublist.refl _ | exact List.nil_sublist _ | apply List.Sublist.cons_cons | apply List.Sublist.cons)); done))) rfl rfl (fun b10 _ => ?_)
      refine t_two ?_ ?_
      · skip
        refine t_n (N_makeU (n := 40) (u0 := .int .i64 0) rfl rfl Try.underlying23 inf57 rfl (by omega) rfl (by omega) (by omega)) (fun _ => (by first | exact keep_no rfl | (refine keep_sub ?_; (repeat (first | exact List.Sublist.refl _ | exact List.nil_sublist _ | apply List.Sublist.cons_cons | apply List.Sublist.cons)); done) | (refine keep_sub (List.Sublist.trans ?_ (List.sublist_append_right _ _)); (repeat (first | exact List.Sublist.refl _ | exact List.nil_sublist _ | apply List.Sublist.cons_cons | apply List.Sublist.cons)); done))) rfl rfl (fun b11 _ => ?_)
        refine t_y (Y_build (cs := [iv seed, iv 0, iv 1, iv 0, .slice (some ⟨cb, 0, none⟩) (makeM seed 1).cells.length 384, .slice (some ⟨b10, 0, none⟩) 32 32, .slice (some ⟨b11, 0, none⟩) 40 40, iv 0, iv 0, iv 0, iv 0]) (by repeat (first | exact Gp.nil | apply Gp.const | apply Gp.tmp gt_)) (bld29 _ _ (by kernel_rfl))) rfl rfl ?_
        refine t_n (N_alloc (z := .agg #[.int .i64 0, .int .i64 0, .int .i64 0, .int .i64 0, .slice none 0 0, .slice none 0 0, .slice none 0 0, .int .i64 0, .int .i64 0, .int .i64 0, .int .i64 0]) (cs := [.int .i64 0, .int .i64 0, .int .i64 0, .int .i64 0, .slice none 0 0, .slice none 0 0, .slice none 0 0, .int .i64 0, .int .i64 0, .int .i64 0, .int .i64 0]) zv29 rfl) (fun _ => (by first | exact keep_no rfl | (refine keep_sub ?_; (repeat (first | exact List.Sublist.refl _ | exact List.nil_sublist _ | apply List.Sublist.cons_cons | apply List.Sublist.cons)); done) | (refine keep_sub (List.Sublist.trans ?_ (List.sublist_append_right _ _)); (repeat (first | exact List.Sublist.refl _ | exact List.nil_sublist _ | apply List.Sublist.cons_cons | apply List.Sublist.cons)); done))) rfl rfl (fun b4 _ => ?_)
        refine t_s (S_storeA (vs := [iv seed, iv 0, iv 1, iv 0, .slice (some ⟨cb, 0, none⟩) (makeM seed 1).cells.length 384, .slice (some ⟨b10, 0, none⟩) 32 32, .slice (some ⟨b11, 0, none⟩) 40 40, iv 0, iv 0, iv 0, iv 0]) rfl rfl sz29 (by rfl) (by rfl) (by repeat (first | exact Upd.head | apply Upd.tail)) (by rfl)) (by first | exact keep_no rfl | (refine keep_sub ?_; (repeat (first | exact List.Sublist.refl _ | exact List.nil_sublist _ | apply List.Sublist.cons_cons | apply List.Sublist.cons)); done) | (refine keep_sub (List.Sublist.trans ?_ (List.sublist_append_right _ _)); (repeat (first | exact List.Sublist.refl _ | exact List.nil_sublist _ | apply List.Sublist.cons_cons | apply List.Sublist.cons)); done)) rfl ?_
        refine t_nil ?_
        refine go (b4, b10, b11) _ _ trivial ⟨rfl, trivial⟩ rfl (fun w h => ?_)
        rw [ezero, izero]
        exact h.pick2 (xs := [wB b4 [iv seed, iv 0, iv 1, iv 0, .slice (some ⟨cb, 0, none⟩) (makeM seed 1).cells.length 384, .slice (some ⟨b10, 0, none⟩) 32 32, .slice (some ⟨b11, 0, none⟩) 40 40, iv 0, iv 0, iv 0, iv 0], ⟨b10, 48, 11, 32, List.replicate (32 * 11) (iv 0)⟩, ⟨b11, 57, 4, 40, List.replicate (40 * 4) (iv 0)⟩, ⟨b3, 63, 3, 1, [.slice (some ⟨cb, 0, none⟩) (makeM seed 1).cells.length 384, ev, iv']⟩, wB b2 wz, cB cb 384 (makeM seed 1).cells]) (R' := I ++ E) (by repeat (first | exact Sels.nil | apply Sels.cons (by repeat (first | exact Sel.head | apply Sel.tail)))) sl_
      refine t_n (N_alloc (z := .agg #[.int .i64 0, .int .i64 0, .int .i64 0, .int .i64 0, .slice none 0 0, .slice none 0 0, .slice none 0 0, .int .i64 0, .int .i64 0, .int .i64 0, .int .i64 0]) (cs := [.int .i64 0, .int .i64 0, .int .i64 0, .int .i64 0, .slice none 0 0, .slice none 0 0, .slice none 0 0, .int .i64 0, .int .i64 0, .int .i64 0, .int .i64 0]) zv29 rfl) (fun _ => (by first | exact keep_no rfl | (refine keep_sub ?_; (repeat (first | exact List.Sublist.refl _ | exact List.nil_sublist _ | apply List.Sublist.cons_cons | apply List.Sublist.cons)); done) | (refine keep_sub (List.Sublist.trans ?_ (List.sublist_append_right _ _)); (repeat (first | exact List.Sublist.refl _ | exact List.nil_sublist _ | apply List.Sublist.cons_cons | apply List.Sublist.cons)); done))) rfl rfl (fun b4 _ => ?_)
      refine t_n (N_makeU (n := 40) (u0 := .int .i64 0) rfl rfl Try.underlying23 inf57 rfl (by omega) rfl (by omega) (by omega)) (fun _ => (by first | exact keep_no rfl | (refine keep_sub ?_; (repeat (first | exact List.Sublist.refl _ | exact List.nil_sublist _ | apply List.Sublist.cons_cons | apply List.Sublist.cons)); done) | (refine keep_sub (List.Sublist.trans ?_ (List.sublist_append_right _ _)); (repeat (first | exact List.Sublist.refl _ | exact List.nil_sublist _ | apply List.Sublist.cons_cons | apply List.Sublist.cons)); done))) rfl rfl (fun b11 _ => ?_)
      refine t_y (Y_build (cs := [iv seed, iv 0, iv 1, iv 0, .slice (some ⟨cb, 0, none⟩) (makeM seed 1).cells.length 384, .slice (some ⟨b10, 0, none⟩) 32 32, .slice (some ⟨b11, 0, none⟩) 40 40, iv 0, iv 0, iv 0, iv 0]) (by repeat (first | exact Gp.nil | apply Gp.const | apply Gp.tmp gt_)) (bld29 _ _ (by kernel_rfl))) rfl rfl ?_
      refine t_s (S_storeA (vs := [iv seed, iv 0, iv 1, iv 0, .slice (some ⟨cb, 0, none⟩) (makeM seed 1).cells.length 384, .slice (some ⟨b10, 0, none⟩) 32 32, .slice (some ⟨b11, 0, none⟩) 40 40, iv 0, iv 0, iv 0, iv 0]) rfl rfl sz29 (by rfl) (by rfl) (by repeat (first | exact Upd.head | apply Upd.tail)) (by rfl)) (by first | exact keep_no rfl | (refine keep_sub ?_; (repeat (first | exact List.Sublist.refl _ | exact List.nil_sublist _ | apply List.Sublist.cons_cons | apply List.Sublist.cons)); done) | (refine keep_sub (List.Sublist.trans ?_ (List.sublist_append_right _ _)); (repeat (first | exact List.Sublist.refl _ | exact List.nil_sublist _ | apply List.Sublist.cons_cons | apply List.Sublist.cons)); done)) rfl ?_
      refine t_nil ?_
      refine go (b4, b10, b11) _ _ trivial ⟨rfl, trivial⟩ rfl (fun w h => ?_)
      rw [ezero, izero]
      exact h.pick2 (xs := [wB b4 [iv seed, iv 0, iv 1, iv 0, .slice (some ⟨cb, 0, none⟩) (makeM seed 1).cells.length 384, .slice (some ⟨b10, 0, none⟩) 32 32, .slice (some ⟨b11, 0, none⟩) 40 40, iv 0, iv 0, iv 0, iv 0], ⟨b10, 48, 11, 32, List.replicate (32 * 11) (iv 0)⟩, ⟨b11, 57, 4, 40, List.replicate (40 * 4) (iv 0)⟩, ⟨b3, 63, 3, 1, [.slice (some ⟨cb, 0, none⟩) (makeM seed 1).cells.length 384, ev, iv']⟩, wB b2 wz, cB cb 384 (makeM seed 1).cells]) (R' := I ++ E) (by repeat (first | exact Sels.nil | apply Sels.cons (by repeat (first | exact Sel.head | apply Sel.tail)))) sl_
    refine t_two ?_ ?_
    · skip
      refine t_n (N_makeU (n := 40) (u0 := .int .i64 0) rfl rfl Try.underlying23 inf57 rfl (by omega) rfl (by omega) (by omega)) (fun _ => (by first | exact keep_no rfl | (refine keep_sub ?_; (repeat (first | exact List.Sublist.refl _ | exact List.nil_sublist _ | apply List.Sublist.cons_cons | apply List.Sublist.cons)); done) | (refine keep_sub (List.Sublist.trans ?_ (List.sublist_append_right _ _)); (repeat (first | exact List.Sublist.refl _ | exact List.nil_sublist _ | apply List.Sublist.cons_cons | apply List.Sublist.cons)); done))) rfl rfl (fun b11 _ => ?_)
      refine t_two ?_ ?_
      · skip
        refine t_n (N_makeU (n := 32) (u0 := .int .i64 0) rfl rfl Try.underlying26 inf48 rfl (by omega) rfl (by omega) (by omega)) (fun _ => (by first | exact keep_no rfl | (refine keep_sub ?_; (repeat (first | exact List.Sublist.refl _ | exact List.nil_sublist _ | apply List.Sublist.cons_cons | apply List.Sublist.cons)); done) | (refine keep_sub (List.Sublist.trans ?_ (List.sublist_append_right _ _)); (repeat (first | exact List.Sublist.refl _ | exact List.nil_sublist _ | apply List.Sublist.cons_cons | apply List.Sublist.cons)); done))) rfl rfl (fun b10 _ => ?_)
        refine t_y (Y_build (cs := [iv seed, iv 0, iv 1, iv 0, .slice (some ⟨cb, 0, none⟩) (makeM seed 1).cells.length 384, .slice (some ⟨b10, 0, none⟩) 32 32, .slice (some ⟨b11, 0, none⟩) 40 40, iv 0, iv 0, iv 0, iv 0]) (by repeat (first | exact Gp.nil | apply Gp.const | apply Gp.tmp gt_)) (bld29 _ _ (by kernel_rfl))) rfl rfl ?_
        refine t_n (N_alloc (z := .agg #[.int .i64 0, .int .i64 0, .int .i64 0, .int .i64 0, .slice none 0 0, .slice none 0 0, .slice none 0 0, .int .i64 0, .int .i64 0, .int .i64 0, .int .i64 0]) (cs := [.int .i64 0, .int .i64 0, .int .i64 0, .int .i64 0, .slice none 0 0, .slice none 0 0, .slice none 0 0, .int .i64 0, .int .i64 0, .int .i64 0, .int .i64 0]) zv29 rfl) (fun _ => (by first | exact keep_no rfl | (refine keep_sub ?_; (repeat (first | exact List.Sublist.refl _ | exact List.nil_sublist _ | apply List.Sublist.cons_cons | apply List.Sublist.cons)); done) | (refine keep_sub (List.Sublist.trans ?_ (List.sublist_append_right _ _)); (repeat (first | exact List.Sublist.refl _ | exact List.nil_sublist _ | apply List.Sublist.cons_cons | apply List.Sublist.cons)); done))) rfl rfl (fun b4 _ => ?_)
        refine t_s (S_storeA (vs := [iv seed, iv 0, iv 1, iv 0, .slice (some ⟨cb, 0, none⟩) (makeM seed 1).cells.length 384, .slice (some ⟨b10, 0, none⟩) 32 32, .slice (some ⟨b11, 0, none⟩) 40 40, iv 0, iv 0, iv 0, iv 0]) rfl rfl sz29 (by rfl) (by rfl) (by repeat (first | exact Upd.head | apply Upd.tail)) (by rfl)) (by first | exact keep_no rfl | (refine keep_sub ?_; (repeat (first | exact List.Sublist.refl _ | exact List.nil_sublist _ | apply List.Sublist.cons_cons | apply List.Sublist.cons)); done) | (refine keep_sub (List.Sublist.trans ?_ (List.sublist_append_right _ _)); (repeat (first | exact List.Sublist.refl _ | exact List.nil_sublist _ | apply List.Sublist.cons_cons | apply List.Sublist.cons)); done)) rfl ?_
        refine t_nil ?_
        refine go (b4, b10, b11) _ _ trivial ⟨rfl, trivial⟩ rfl (fun w h => ?_)
        rw [ezero, izero]
        exact h.pick2 (xs := [wB b4 [iv seed, iv 0, iv 1, iv 0, .slice (some ⟨cb, 0, none⟩) (makeM seed 1).cells.length 384, .slice (some ⟨b10, 0, none⟩) 32 32, .slice (some ⟨b11, 0, none⟩) 40 40, iv 0, iv 0, iv 0, iv 0], ⟨b10, 48, 11, 32, List.replicate (32 * 11) (iv 0)⟩, ⟨b11, 57, 4, 40, List.replicate (40 * 4) (iv 0)⟩, ⟨b3, 63, 3, 1, [.slice (some ⟨cb, 0, none⟩) (makeM seed 1).cells.length 384, ev, iv']⟩, wB b2 wz, cB cb 384 (makeM seed 1).cells]) (R' := I ++ E) (by repeat (first | exact Sels.nil | apply Sels.cons (by repeat (first | exact Sel.head | apply Sel.tail)))) sl_
      refine t_n (N_alloc (z := .agg #[.int .i64 0, .int .i64 0, .int .i64 0, .int .i64 0, .slice none 0 0, .slice none 0 0, .slice none 0 0, .int .i64 0, .int .i64 0, .int .i64 0, .int .i64 0]) (cs := [.int .i64 0, .int .i64 0, .int .i64 0, .int .i64 0, .slice none 0 0, .slice none 0 0, .slice none 0 0, .int .i64 0, .int .i64 0, .int .i64 0, .int .i64 0]) zv29 rfl) (fun _ => (by first | exact keep_no rfl | (refine keep_sub ?_; (repeat (first | exact List.Sublist.refl _ | exact List.nil_sublist _ | apply List.Sublist.cons_cons | apply List.Sublist.cons)); done) | (refine keep_sub (List.Sublist.trans ?_ (List.sublist_append_right _ _)); (repeat (first | exact List.Sublist.refl _ | exact List.nil_sublist _ | apply List.Sublist.cons_cons | apply List.Sublist.cons)); done))) rfl rfl (fun b4 _ => ?_)
      refine t_n (N_makeU (n := 32) (u0 := .int .i64 0) rfl rfl Try.underlying26 inf48 rfl (by omega) rfl (by omega) (by omega)) (fun _ => (by first | exact keep_no rfl | (refine keep_sub ?_; (repeat (first | exact List.Sublist.refl _ | exact List.nil_sublist _ | apply List.Sublist.cons_cons | apply List.Sublist.cons)); done) | (refine keep_sub (List.Sublist.trans ?_ (List.sublist_append_right _ _)); (repeat (first | exact List.Sublist.refl _ | exact List.nil_sublist _ | apply List.Sublist.cons_cons | apply List.Sublist.cons)); done))) rfl rfl (fun b10 _ => ?_)
      refine t_y (Y_build (cs := [iv seed, iv 0, iv 1, iv 0, .slice (some ⟨cb, 0, none⟩) (makeM seed 1).cells.length 384, .slice (some ⟨b10, 0, none⟩) 32 32, .slice (some ⟨b11, 0, none⟩) 40 40, iv 0, iv 0, iv 0, iv 0]) (by repeat (first | exact Gp.nil | apply Gp.const | apply Gp.tmp gt_)) (bld29 _ _ (by kernel_rfl))) rfl rfl ?_
      refine t_s (S_storeA (vs := [iv seed, iv 0, iv 1, iv 0, .slice (some ⟨cb, 0, none⟩) (makeM seed 1).cells.length 384, .slice (some ⟨b10, 0, none⟩) 32 32, .slice (some ⟨b11, 0, none⟩) 40 40, iv 0, iv 0, iv 0, iv 0]) rfl rfl sz29 (by rfl) (by rfl) (by repeat (first | exact Upd.head | apply Upd.tail)) (by rfl)) (by first | exact keep_no rfl | (refine keep_sub ?_; (repeat (first | exact List.Sublist.refl _ | exact List.nil_sublist _ | apply List.Sublist.cons_cons | apply List.Sublist.cons)); done) | (refine keep_sub (List.Sublist.trans ?_ (List.sublist_append_right _ _)); (repeat (first | exact List.Sublist.refl _ | exact List.nil_sublist _ | apply List.Sublist.cons_cons | apply List.Sublist.cons)); done)) rfl ?_
      refine t_nil ?_
      refine go (b4, b10, b11) _ _ trivial ⟨rfl, trivial⟩ rfl (fun w h => ?_)
      rw [ezero, izero]
      exact h.pick2 (xs := [wB b4 [iv seed, iv 0, iv 1, iv 0, .slice (some ⟨cb, 0, none⟩) (makeM seed 1).cells.length 384, .slice (some ⟨b10, 0, none⟩) 32 32, .slice (some ⟨b11, 0, none⟩) 40 40, iv 0, iv 0, iv 0, iv 0], ⟨b10, 48, 11, 32, List.replicate (32 * 11) (iv 0)⟩, ⟨b11, 57, 4, 40, List.replicate (40 * 4) (iv 0)⟩, ⟨b3, 63, 3, 1, [.slice (some ⟨cb, 0, none⟩) (makeM seed 1).cells.length 384, ev, iv']⟩, wB b2 wz, cB cb 384 (makeM seed 1).cells]) (R' := I ++ E) (by repeat (first | exact Sels.nil | apply Sels.cons (by repeat (first | exact Sel.head | apply Sel.tail)))) sl_
    refine t_n (N_alloc (z := .agg #[.int .i64 0, .int .i64 0, .int .i64 0, .int .i64 0, .slice none 0 0, .slice none 0 0, .slice none 0 0, .int .i64 0, .int .i64 0, .int .i64 0, .int .i64 0]) (cs := [.int .i64 0, .int .i64 0, .int .i64 0, .int .i64 0, .slice none 0 0, .slice none 0 0, .slice none 0 0, .int .i64 0, .int .i64 0, .int .i64 0, .int .i64 0]) zv29 rfl) (fun _ => (by first | exact keep_no rfl | (refine keep_sub ?_; (repeat (first | exact List.Sublist.refl _ | exact List.nil_sublist _ | apply List.Sublist.cons_cons | apply List.Sublist.cons)); done) | (refine keep_sub (List.Sublist.trans ?_ (List.sublist_append_right _ _)); (repeat (first | exact List.Sublist.refl _ | exact List.nil_sublist _ | apply List.Sublist.cons_cons | apply List.Sublist.cons)); done))) rfl rfl (fun b4 _ => ?_)
    refine t_two ?_ ?_
    · skip
      refine t_n (N_makeU (n := 32) (u0 := .int .i64 0) rfl rfl Try.underlying26 inf48 rfl (by omega) rfl (by omega) (by omega)) (fun _ => (by first | exact keep_no rfl | (refine keep_sub ?_; (repeat (first | exact List.Sublist.refl _ | exact List.nil_sublist _ | apply List.Sublist.cons_cons | apply List.Sublist.cons)); done) | (refine keep_sub (List.Sublist.trans ?_ (List.sublist_append_right _ _)); (repeat (first | exact List.Sublist.refl _ | exact List.nil_sublist _ | apply List.Sublist.cons_cons | apply List.Sublist.cons)); done))) rfl rfl (fun b10 _ => ?_)
      refine t_n (N_makeU (n := 40) (u0 := .int .i64 0) rfl rfl Try.underlying23 inf57 rfl (by omega) rfl (by omega) (by omega)) (fun _ => (by first | exact keep_no rfl | (refine keep_sub ?_; (repeat (first | exact List.Sublist.refl _ | exact List.nil_sublist _ | apply List.Sublist.cons_cons | apply List.Sublist.cons)); done) | (refine keep_sub (List.Sublist.trans ?_ (List.sublist_append_right _ _)); (repeat (first | exact List.Sublist.refl _ | exact List.nil_sublist _ | apply List.Sublist.cons_cons | apply List.Sublist.cons)); done))) rfl rfl (fun b11 _ => ?_)
      refine t_y (Y_build (cs := [iv seed, iv 0, iv 1, iv 0, .slice (some ⟨cb, 0, none⟩) (makeM seed 1).cells.length 384, .slice (some ⟨b10, 0, none⟩) 32 32, .slice (some ⟨b11, 0, none⟩) 40 40, iv 0, iv 0, iv 0, iv 0]) (by repeat (first | exact Gp.nil | apply Gp.const | apply Gp.tmp gt_)) (bld29 _ _ (by kernel_rfl))) rfl rfl ?_
      refine t_s (S_storeA (vs := [iv seed, iv 0, iv 1, iv 0, .slice (some ⟨cb, 0, none⟩) (makeM seed 1).cells.length 384, .slice (some ⟨b10, 0, none⟩) 32 32, .slice (some ⟨b11, 0, none⟩) 40 40, iv 0, iv 0, iv 0, iv 0]) rfl rfl sz29 (by rfl) (by rfl) (by repeat (first | exact Upd.head | apply Upd.tail)) (by rfl)) (by first | exact keep_no rfl | (refine keep_sub ?_; (repeat (first | exact List.Sublist.refl _ | exact List.nil_sublist _ | apply List.Sublist.cons_cons | apply List.Sublist.cons)); done) | (refine keep_sub (List.Sublist.trans ?_ (List.sublist_append_right _ _)); (repeat (first | exact List.Sublist.refl _ | exact List.nil_sublist _ | apply List.Sublist.cons_cons | apply List.Sublist.cons)); done)) rfl ?_
      refine t_nil ?_
      refine go (b4, b10, b11) _ _ trivial ⟨rfl, trivial⟩ rfl (fun w h => ?_)
      rw [ezero, izero]
      exact h.pick2 (xs := [wB b4 [iv seed, iv 0, iv 1, iv 0, .slice (some ⟨cb, 0, none⟩) (makeM seed 1).cells.length 384, .slice (some ⟨b10, 0, none⟩) 32 32, .slice (some ⟨b11, 0, none⟩) 40 40, iv 0, iv 0, iv 0, iv 0], ⟨b10, 48, 11, 32, List.replicate (32 * 11) (iv 0)⟩, ⟨b11, 57, 4, 40, List.replicate (40 * 4) (iv 0)⟩, ⟨b3, 63, 3, 1, [.slice (some ⟨cb, 0, none⟩) (makeM seed 1).cells.length 384, ev, iv']⟩, wB b2 wz, cB cb 384 (makeM seed 1).cells]) (R' := I ++ E) (by repeat (first | exact Sels.nil | apply Sels.cons (by repeat (first | exact Sel.head | apply Sel.tail)))) sl_
    refine t_n (N_makeU (n := 40) (u0 := .int .i64 0) rfl rfl Try.underlying23 inf57 rfl (by omega) rfl (by omega) (by omega)) (fun _ => (by first | exact keep_no rfl | (refine keep_sub ?_; (repeat (first | exact List.Sublist.refl _ | exact List.nil_sublist _ | apply List.Sublist.cons_cons | apply List.Sublist.cons)); done) | (refine keep_sub (List.Sublist.trans ?_ (List.sublist_append_right _ _)); (repeat (first | exact List.Sublist.refl _ | exact List.nil_sublist _ | apply List.Sublist.cons_cons | apply List.Sublist.cons)); done))) rfl rfl (fun b11 _ => ?_)
    refine t_n (N_makeU (n := 32) (u0 := .int .i64 0) rfl rfl Try.underlying26 inf48 rfl (by omega) rfl (by omega) (by omega)) (fun _ => (by first | exact keep_no rfl | (refine keep_sub ?_; (repeat (first | exact List.Sublist.refl _ | exact List.nil_sublist _ | apply List.Sublist.cons_cons | apply List.Sublist.cons)); done) | (refine keep_sub (List.Sublist.trans ?_ (List.sublist_append_right _ _)); (repeat (first | exact List.Sublist.refl _ | exact List.nil_sublist _ | apply List.Sublist.cons_cons | apply List.Sublist.cons)); done))) rfl rfl (fun b10 _ => ?_)
    refine t_y (Y_build (cs := [iv seed, iv 0, iv 1, iv 0, .slice (some ⟨cb, 0, none⟩) (makeM seed 1).cells.length 384, .slice (some ⟨b10, 0, none⟩) 32 32, .slice (some ⟨b11, 0, none⟩) 40 40, iv 0, iv 0, iv 0, iv 0]) (by repeat (first | exact Gp.nil | apply Gp.const | apply Gp.tmp gt_)) (bld29 _ _ (by kernel_rfl))) rfl rfl ?_
    refine t_s (S_storeA (vs := [iv seed, iv 0, iv 1, iv 0, .slice (some ⟨cb, 0, none⟩) (makeM seed 1).cells.length 384, .slice (some ⟨b10, 0, none⟩) 32 32, .slice (some ⟨b11, 0, none⟩) 40 40, iv 0, iv 0, iv 0, iv 0]) rfl rfl sz29 (by rfl) (by rfl) (by repeat (first | exact Upd.head | apply Upd.tail)) (by rfl)) (by first | exact keep_no rfl | (refine keep_sub ?_; (repeat (first | exact List.Sublist.refl _ | exact List.nil_sublist _ | apply List.Sublist.cons_cons | apply List.Sublist.cons)); done) | (refine keep_sub (List.Sublist.trans ?_ (List.sublist_append_right _ _)); (repeat (first | exact List.Sublist.refl _ | exact List.nil_sublist _ | apply List.Sublist.cons_cons | apply List.Sublist.cons)); done)) rfl ?_
    refine t_nil ?_
    refine go (b4, b10, b11) _ _ trivial ⟨rfl, trivial⟩ rfl (fun w h => ?_)
    rw [ezero, izero]
    exact h.pick2 (xs := [wB b4 [iv seed, iv 0, iv 1, iv 0, .slice (some ⟨cb, 0, none⟩) (makeM seed 1).cells.length 384, .slice (some ⟨b10, 0, none⟩) 32 32, .slice (some ⟨b11, 0, none⟩) 40 40, iv 0, iv 0, iv 0, iv 0], ⟨b10, 48, 11, 32, List.replicate (32 * 11) (iv 0)⟩, ⟨b11, 57, 4, 40, List.replicate (40 * 4) (iv 0)⟩, ⟨b3, 63, 3, 1, [.slice (some ⟨cb, 0, none⟩) (makeM seed 1).cells.length 384, ev, iv']⟩, wB b2 wz, cB cb 384 (makeM seed 1).cells]) (R' := I ++ E) (by repeat (first | exact Sels.nil | apply Sels.cons (by repeat (first | exact Sel.head | apply Sel.tail)))) sl_
end
end Go.Proofs.Ytecodneffflpoaa
