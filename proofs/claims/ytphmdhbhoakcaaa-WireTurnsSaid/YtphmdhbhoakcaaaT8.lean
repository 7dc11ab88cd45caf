/- aditref15.Encode: that it gives bytes, for a good message. -/
import Derived.Test.YtphmdhbhoakcaaaT7
namespace Go.Proofs.Ytphmdhbhoakcaaa
open Go.RowKit Go.Ad Go.Maps
set_option linter.unusedVariables false
set_option linter.unusedSimpArgs false
theorem U8.bytes : ∀ {cs : List Value}, U8 cs → ∃ xs : List UInt8, cs = xs.map bv
  | [], _ => ⟨[], rfl⟩
  | v :: r, h => by
    obtain ⟨x, rfl⟩ := h v (List.Mem.head _)
    obtain ⟨xs, rfl⟩ := U8.bytes (cs := r) fun u hu => h u (List.Mem.tail _ hu)
    exact ⟨x :: xs, rfl⟩
theorem _root_.Go.Ad.Sel.toPerm {x : Bk} {L L' : List Bk} (h : Sel x L L') : List.Perm (x :: L') L := by
  induction h with
  | head => exact .refl _
  | tail _ ih => exact (List.Perm.swap _ _ _).trans (ih.cons _)
theorem _root_.Go.Ad.Sels.toPerm {xs L L' : List Bk} (h : Sels xs L L') : List.Perm (xs ++ L') L := by
  induction h with
  | nil => exact .refl _
  | cons h _ ih => exact (ih.cons _).trans h.toPerm
theorem QL.pick {W : World} {M : List Nat} {K : Act → World → Prop} {ov : Ov} {base : List Value} {L L' R : List Bk} (hs : Sels L' L R) (h : QL W M K ov base L') : QL W M K ov base L := fun a w hr hH => h a w hr ((hH.perm hs.toPerm).sub (List.sublist_append_left _ _))
theorem N_appA {P : Program} {W : World} {M : List Nat} {L R : List Bk} {ρ : Operand → Value} {x y : Operand} {ty : TypeId} {b n cap m c2 e kk bytes : Nat} {a2 : Option Addr} {z : Value} {u : TypeId} {cs news : List Value} (hx : ρ x = .slice (some ⟨b, 0, none⟩) n cap) (hy : ρ y = .slice a2 m c2) (hu : P.underlying u = some (.slice e)) (hi : (P.info? e).map (fun i => (i.zero, i.size, i.bytes)) = some (some z, kk, bytes))
    (hz : z.cells.size = kk) (hk : 0 < kk) (hs : Sel ⟨b, e, kk, cap, cs⟩ L R) (hc : cs.length = n * kk) (hn : n ≤ cap) (ha : a2 = none → m = 0 ∧ c2 = 0) (hr : ∀ ad, a2 = some ad → ∀ w, Has W M L w → ∀ j u, news[j]? = some u → w.cell? (ad.add j) = some u) (hl : news.length = m * kk) (h1 : ∀ u ∈ news, u.oneCell' = true)
    (h63 : n + m ≤ 140737488355328) (hb : (n + m) * bytes ≤ 140737488355328) :
    N P W M L ρ (.call { callee := .builtin .append, args := #[x, y], argTypes := #[u, u] }) ty (fun p : Nat × Nat => n + m ≤ p.2) (fun p => .slice (some ⟨p.1, 0, none⟩) (n + m) p.2) (fun p => ⟨p.1, e, kk, p.2, cs ++ news⟩ :: R) := fun w hw o ho ht => by
  cases a2 with
  | some ad => exact N_app hx hy hu hi hz hk hs hc hn (hr ad rfl) hl h1 h63 hb w hw o ho ht
  | none =>
    obtain ⟨rfl, rfl⟩ := ha rfl
    obtain rfl : news = [] := List.eq_nil_of_length_eq_zero (by omega)
    obtain ⟨i, hi1, _⟩ := info_parts hi
    refine ⟨(b, cap), w, by simpa using hn, ?_, ?_⟩
    · exact Y_app0 hx hy hu hi1 hn (by intro h; cases h) w hw o ho ht
    · rw [List.append_nil]; exact hw.perm hs.toPerm
theorem BytesAt.cells {W : World} {L : List Bk} {a : Option Addr} {n : Nat} {xs : List UInt8} (h : BytesAt W a n xs) : ∀ ad, a = some ad → ∀ w, Has W [] L w → ∀ j u, (xs.map bv)[j]? = some u → w.cell? (ad.add j) = some u := by
  rintro ad rfl w hw j u hu
  rcases h.2 with h2 | ⟨b, o, h1, _, h3⟩
  · subst h2; simp at hu
  · cases h1
    rw [Addr.add_mid]
    exact hw.ro h3 (by simp) j u hu
def Out3 (b n : Nat) (L : List Bk) : Prop := ∃ n', 1 ≤ n' ∧ n' ≤ n ∧ OutL b n' L
theorem IntsAt.apart {W w : World} {L : List Bk} {x y : Bk} {a : Option Addr} {zs : List Int} (h : IntsAt W a zs) (hH : Has W [] L w) (hx : x ∈ L) (hy : y ∈ L) : zs ≠ [] → ∀ bb o, a = some ⟨bb, o, none⟩ → bb ∉ [x.b, y.b] := by
  intro hne bb o he
  rcases h with h | ⟨b', o', h1, h2, h3⟩
  · exact absurd h hne
  · rw [he] at h1; cases h1
    have ka := (hH.bk x hx).2
    have kb := (hH.bk y hy).2
    simp at ka kb ⊢
    omega
theorem U8.app {cs news : List Value} (h : U8 cs) (h2 : U8 news) : U8 (cs ++ news) := fun u hu => by
  rcases List.mem_append.1 hu with h' | h'
  · exact h u h'
  · exact h2 u h'
section
variable {W : World} {g : MsgD}
def EncP (v : Value) (L : List Bk) : Prop := ∃ (xs : List UInt8) (gb cp : Nat), 1 ≤ xs.length ∧ xs.length ≤ 6000 ∧ xs.length ≤ cp ∧ v = .tuple #[.slice (some ⟨gb, 0, none⟩) xs.length cp, .int .i64 0] ∧ L = [⟨gb, 5, 1, cp, xs.map bv⟩]
theorem outnum_e {b g1 n cp : Nat} {cs : List Value} {v : Int} (hv : 0 ≤ v ∧ v < 1073741824) (hx : (oB b g1 n cp).holds W) (hy : (⟨g1, 5, 1, cp, cs⟩ : Bk).holds W) (hne : b ≠ g1) (hl : cs.length = n) (hc : n ≤ cp) (hn : n ≤ 90000) (hu : U8 cs) : Does Try.prog 22 [ptr b, .int .i64 v] W [b, g1] (fun v L => v = .tuple #[] ∧ Out3 b (n + 4) L) :=
  (outnum_d hv hx hy hne hl hc (by omega) hu).post fun _ _ h => ⟨h.1, _, by omega, Nat.le_refl _, h.2⟩
theorem outsmall_e {b g1 n cp : Nat} {cs : List Value} {v f t : Int} (hv : f ≤ v ∧ v ≤ t) (hx : (oB b g1 n cp).holds W) (hy : (⟨g1, 5, 1, cp, cs⟩ : Bk).holds W) (hne : b ≠ g1) (hl : cs.length = n) (hc : n ≤ cp) (hn : n ≤ 90000) (hu : U8 cs) : Does Try.prog 24 [ptr b, .int .i64 v, .int .i64 f, .int .i64 t] W [b, g1] (fun v L => v = .tuple #[] ∧ Out3 b (n + 1) L) :=
  (outsmall_d hv hx hy hne hl hc (by omega) hu).post fun _ _ h => ⟨h.1, _, by omega, Nat.le_refl _, h.2⟩
theorem outrow_e {b g1 n cp : Nat} {cs : List Value} {a : Option Addr} {m c : Nat} {zs : List Int} (hz : IntsAt W a zs) (hlz : zs.length = m) (hzs : InB zs) (hM : zs ≠ [] → ∀ bb o, a = some ⟨bb, o, none⟩ → bb ∉ [b, g1]) (hx : (oB b g1 n cp).holds W) (hy : (⟨g1, 5, 1, cp, cs⟩ : Bk).holds W) (hne : b ≠ g1) (hl : cs.length = n) (hc : n ≤ cp) (hn : n ≤ 90000) (hu : U8 cs) : Does Try.prog 23 [ptr b, .slice a m c] W [b, g1] (fun v L => v = .tuple #[] ∧ Out3 b (n + 256) L) :=
  have hm : m ≤ 255 := hlz ▸ hzs.1
  (outrow_d hz hlz hm hzs.2 hM hx hy hne hl hc (by omega) hu).post fun _ _ h => ⟨h.1, _, by omega, by omega, h.2⟩
theorem outrec_e {b g1 n cp : Nat} {cs : List Value} {r : Rec} (hr : (1 ≤ r.kind ∧ r.kind ≤ 3) ∧ (0 ≤ r.input ∧ r.input ≤ 10) ∧ (0 ≤ r.seat ∧ r.seat ≤ 3) ∧ (0 ≤ r.frame ∧ r.frame < 1073741824) ∧ (0 ≤ r.last ∧ r.last < 1073741824)) (hx : (oB b g1 n cp).holds W) (hy : (⟨g1, 5, 1, cp, cs⟩ : Bk).holds W) (hne : b ≠ g1) (hl : cs.length = n) (hc : n ≤ cp) (hn : n ≤ 80000) (hn1 : 1 ≤ n) (hu : U8 cs) : Does Try.prog 25 [ptr b, .agg r.cells.toArray] W [b, g1] (fun v L => v = .tuple #[] ∧ Out3 b (n + 10) L) :=
  (outrec_d hr hx hy hne hl hc (by omega) hu).post fun _ _ ⟨h, n', h1, h2, h3⟩ => ⟨h, _, by omega, h2, h3⟩
theorem QL.pk {M : List Nat} {K : Act → World → Prop} {ov : Ov} {base : List Value} {b N G CP : Nat} {CS : List Value} {R : List Bk} (hl : CS.length = N) (hc : N ≤ CP) (hu : U8 CS) (h : ∀ n g cp cs, n = N → cs.length = n → n ≤ cp → U8 cs → QL W M K ov base (oB b g n cp :: ⟨g, 5, 1, cp, cs⟩ :: R)) : QL W M K ov base (oB b G N CP :: ⟨G, 5, 1, CP, CS⟩ :: R) := h _ _ _ _ rfl hl hc hu
abbrev mB (b : Nat) (g : MsgD) : Bk := ⟨b, 42, 30, 1, (msgCells g).toList⟩
set_option maxRecDepth 100000 in
set_option maxHeartbeats 6400000 in
theorem refenc_d (MV : MsgV W g) (G : Good g) : Does Try.prog 12 [.agg (msgCells g)] W [] EncP := by
  have hk := G.kind
  have htr := G.transfer
  have hep := G.epoch
  have hre := G.records
  have hli := G.live
  have hfi := G.first
  have hba := G.base
  have hfr := G.frm
  have hac := G.ack
  have hto := G.total
  have hix := G.index
  have hsta := G.stage
  have hsea := G.seat
  have hstl := G.stream.1
  have hrl := MV.rl
  have hdl := MV.dat.1
  have hdd := G.data
  simp only [P30] at htr hep hre hli hfi hba hfr hac
  refine enter Try.func12 rfl rfl rfl (Has.start _) ?_
  refine c_seq ?_
  -- ref.go:87 R0
  refine c_reg ?_
  refine s_n (N_box rfl) rfl rfl (fun b1 _ => ?_)
  refine s_y (Y_asC) rfl rfl ?_
  refine s_y (Y_asC) rfl rfl ?_
  refine s_nil ?_
  refine q_then ?_
  refine c_seq ?_
  refine c_seq ?_
  -- ref.go:88 R1
  refine c_reg ?_
  refine s_y (Y_fa 0 rfl Try.underlying42 rfl sz3 rfl) rfl rfl ?_
  refine s_y ((by first | exact Y_load rfl one3 (by repeat (first | exact List.Mem.head _ | assumption | apply List.Mem.tail | apply List.mem_append_right)) (by rfl) | exact Y_load rfl one3 (by repeat (first | exact List.Mem.head _ | assumption | apply List.Mem.tail | apply List.mem_append_right)) (by assumption) | exact Y_loadR rfl one3 (by assumption) rfl (by assumption))) rfl rfl ?_
  refine s_y (Y_lss rfl rfl) rfl rfl ?_
  refine s_y (Y_mv) rfl rfl ?_
  refine s_known (d := 11) rfl (decide_eq_false (by omega)) ?_
  first | refine s_y (Y_fa 0 rfl Try.underlying42 rfl sz3 rfl) rfl rfl ?_ | refine s_pass rfl rfl ?_
  first | refine s_y ((by first | exact Y_load rfl one3 (by repeat (first | exact List.Mem.head _ | assumption | apply List.Mem.tail | apply List.mem_append_right)) (by rfl) | exact Y_load rfl one3 (by repeat (first | exact List.Mem.head _ | assumption | apply List.Mem.tail | apply List.mem_append_right)) (by assumption) | exact Y_loadR rfl one3 (by assumption) rfl (by assumption))) rfl rfl ?_ | refine s_pass rfl rfl ?_
  first | refine s_y (Y_gtr rfl rfl) rfl rfl ?_ | refine s_pass rfl rfl ?_
  refine s_y (Y_pk rfl Gx.const (Gx.tmp (by repeat (first | exact Gt.here | apply Gt.there (by rfl) | exact Gt.base (by rfl))))) rfl rfl ?_
  refine s_nil ?_
  refine q_then ?_
  refine c_F (t := decide (g.kind > 4)) (by rfl) (decide_eq_false (by omega)) ?_
  refine c_skip ?_
  refine q_then ?_
  refine c_seq ?_
  -- ref.go:91 R3
  refine c_reg ?_
  refine s_y (Y_fa 0 rfl Try.underlying42 rfl sz3 rfl) rfl rfl ?_
  refine s_y ((by first | exact Y_load rfl one3 (by repeat (first | exact List.Mem.head _ | assumption | apply List.Mem.tail | apply List.mem_append_right)) (by rfl) | exact Y_load rfl one3 (by repeat (first | exact List.Mem.head _ | assumption | apply List.Mem.tail | apply List.mem_append_right)) (by assumption) | exact Y_loadR rfl one3 (by assumption) rfl (by assumption))) rfl rfl ?_
  refine s_y (Y_convw rfl Try.underlying3 Try.underlying5) rfl rfl ?_
  refine s_n (N_bs (xs := [.tmp 18]) (by repeat (first | exact Gv.nil | apply Gv.const | apply Gv.tmp (by repeat (first | exact Gt.here | apply Gt.there (by rfl) | exact Gt.base (by rfl))))) rfl Try.underlying27 inf5 rfl (by omega) (by omega) (by first | simp [Value.oneCell'] | (intro v hv; simp at hv; subst hv; rfl))) rfl rfl (fun b19 _ => ?_)
  refine s_y (Y_build (cs := [_, .bool false]) (by repeat (first | exact Gp.nil | apply Gp.const | apply Gp.tmp (by repeat (first | exact Gt.here | apply Gt.there (by rfl) | exact Gt.base (by rfl))))) (bld61 _ _ (by first | rfl | (simp; rfl)))) rfl rfl ?_
  refine s_n (N_box rfl) rfl rfl (fun b21 _ => ?_)
  refine s_y (Y_as) rfl rfl ?_
  refine s_nil ?_
  have hu0 : U8 [Value.int .u8 (IntKind.u8.wrap g.kind)] := fun u h => by rw [List.mem_singleton.1 h]; exact u8_any _
  refine QL.pick (L' := [oB b21 b19 1 1, ⟨b19, 5, 1, 1, [Value.int .u8 (IntKind.u8.wrap g.kind)]⟩, mB b1 g]) (by repeat (first | exact Sels.nil | apply Sels.cons (by repeat (first | exact Sel.head | apply Sel.tail)))) ?_
  refine QL.pk rfl (Nat.le_refl _) hu0 (fun n1 g1 cp1 cs1 hn1 hl1 hc1 hu1 => ?_)
  have hm1 : 1 ≤ n1 := by omega
  refine q_then ?_
  refine c_seq ?_
  refine c_seq ?_
  -- ref.go:92 R4
  refine c_reg ?_
  refine s_y (Y_fa 0 rfl Try.underlying42 rfl sz3 rfl) rfl rfl ?_
  refine s_y ((by first | exact Y_load rfl one3 (by repeat (first | exact List.Mem.head _ | assumption | apply List.Mem.tail | apply List.mem_append_right)) (by rfl) | exact Y_load rfl one3 (by repeat (first | exact List.Mem.head _ | assumption | apply List.Mem.tail | apply List.mem_append_right)) (by assumption) | exact Y_loadR rfl one3 (by assumption) rfl (by assumption))) rfl rfl ?_
  refine s_y (Y_neq rfl rfl) rfl rfl ?_
  refine s_nil ?_
  refine q_then ?_
  refine c_cond' rfl (fun hk1 => ?_) (fun hk1 => ?_)
  · skip
    -- ref.go:93 R5
    refine c_reg ?_
    refine s_y (Y_mv) rfl rfl ?_
    refine s_y (Y_fa 1 rfl Try.underlying42 rfl sz3 rfl) rfl rfl ?_
    refine s_y ((by first | exact Y_load rfl one3 (by repeat (first | exact List.Mem.head _ | assumption | apply List.Mem.tail | apply List.mem_append_right)) (by rfl) | exact Y_load rfl one3 (by repeat (first | exact List.Mem.head _ | assumption | apply List.Mem.tail | apply List.mem_append_right)) (by assumption) | exact Y_loadR rfl one3 (by assumption) rfl (by assumption))) rfl rfl ?_
    refine s_cm [oB b21 g1 n1 cp1, ⟨g1, 5, 1, cp1, cs1⟩] (En_call (fun _ => rfl) Try.func22 rfl (by kernel_rfl) rfl) (by repeat (first | exact Sels.nil | apply Sels.cons (by repeat (first | exact Sel.head | apply Sel.tail)))) (fun w hH => outnum_e hep (hH.at' (by repeat (first | exact List.Mem.head _ | assumption | apply List.Mem.tail | apply List.mem_append_right))) (hH.at' (by repeat (first | exact List.Mem.head _ | assumption | apply List.Mem.tail | apply List.mem_append_right))) (ne2 (oB b21 g1 n1 cp1) ⟨g1, 5, 1, cp1, cs1⟩ hH (by repeat (first | exact Sels.nil | apply Sels.cons (by repeat (first | exact Sel.head | apply Sel.tail))))) hl1 hc1 (by omega) hu1) rfl rfl ?_
    rintro _ _ ⟨rfl, n1, hm1, hn1, g1, cp1, cs1, hl1, hc1, hu1, rfl⟩
    refine s_nil ?_
    refine q_then ?_
    refine c_seq ?_
    -- ref.go:95 R6
    refine c_reg ?_
    refine s_y (Y_mv) rfl rfl ?_
    refine s_y (Y_fa 2 rfl Try.underlying42 rfl sz3 rfl) rfl rfl ?_
    refine s_y ((by first | exact Y_load rfl one3 (by repeat (first | exact List.Mem.head _ | assumption | apply List.Mem.tail | apply List.mem_append_right)) (by rfl) | exact Y_load rfl one3 (by repeat (first | exact List.Mem.head _ | assumption | apply List.Mem.tail | apply List.mem_append_right)) (by assumption) | exact Y_loadR rfl one3 (by assumption) rfl (by assumption))) rfl rfl ?_
    refine s_cm [oB b21 g1 n1 cp1, ⟨g1, 5, 1, cp1, cs1⟩] (En_call (fun _ => rfl) Try.func22 rfl (by kernel_rfl) rfl) (by repeat (first | exact Sels.nil | apply Sels.cons (by repeat (first | exact Sel.head | apply Sel.tail)))) (fun w hH => outnum_e htr (hH.at' (by repeat (first | exact List.Mem.head _ | assumption | apply List.Mem.tail | apply List.mem_append_right))) (hH.at' (by repeat (first | exact List.Mem.head _ | assumption | apply List.Mem.tail | apply List.mem_append_right))) (ne2 (oB b21 g1 n1 cp1) ⟨g1, 5, 1, cp1, cs1⟩ hH (by repeat (first | exact Sels.nil | apply Sels.cons (by repeat (first | exact Sel.head | apply Sel.tail))))) hl1 hc1 (by omega) hu1) rfl rfl ?_
    rintro _ _ ⟨rfl, n1, hm1, hn1, g1, cp1, cs1, hl1, hc1, hu1, rfl⟩
    refine s_nil ?_
    refine q_then ?_
    refine c_seq ?_
    refine c_seq ?_
    -- ref.go:96 R7
    refine c_reg ?_
    refine s_y (Y_fa 0 rfl Try.underlying42 rfl sz3 rfl) rfl rfl ?_
    refine s_y ((by first | exact Y_load rfl one3 (by repeat (first | exact List.Mem.head _ | assumption | apply List.Mem.tail | apply List.mem_append_right)) (by rfl) | exact Y_load rfl one3 (by repeat (first | exact List.Mem.head _ | assumption | apply List.Mem.tail | apply List.mem_append_right)) (by assumption) | exact Y_loadR rfl one3 (by assumption) rfl (by assumption))) rfl rfl ?_
    refine s_nil ?_
    refine q_then ?_
    refine c_block ?_
    refine c_seq ?_
    -- ref.go:97 R8
    refine c_reg ?_
    refine s_y (Y_eql rfl rfl) rfl rfl ?_
    refine s_y (Y_as) rfl rfl ?_
    refine s_nil ?_
    refine q_then ?_
    refine c_F rfl ((by simp; omega)) ?_
    refine c_seq ?_
    -- ref.go:103 R12
    refine c_reg ?_
    refine s_y (Y_eql rfl rfl) rfl rfl ?_
    refine s_y (Y_as) rfl rfl ?_
    refine s_nil ?_
    refine q_then ?_
    refine c_cond' rfl (fun hk2 => ?_) (fun hk2 => ?_)
    · skip
      refine c_seq ?_
      -- ref.go:104 R13
      refine c_rordS (L0 := [oB b21 g1 n1 cp1, mB b1 g]) (by repeat (first | exact List.Sublist.refl _ | exact List.nil_sublist _ | apply List.Sublist.cons_cons | apply List.Sublist.cons)) [24] [(0, true), (1, true), (2, true), (3, true), (4, true), (5, true), (6, true), (7, true), (8, true), (9, true), (10, true), (11, true), (12, true), (13, true), (14, true), (15, true), (16, true), (17, true), (18, true), (19, true), (20, false), (21, false), (22, true), (23, true), (24, false)] (by kernel_rfl) (by kernel_rfl) (by kernel_rfl) (by kernel_rfl) rfl (by intro c a d v w h; cases d <;> exact h) rfl ?_
      simp only [mkOrd, List.filterMap_cons, List.filterMap_nil, List.getElem?_toArray, List.getElem?_cons_zero, List.getElem?_cons_succ, Option.map_some]
      refine o_y (Y_mv) rfl rfl ?_
      refine o_y (Y_mv) rfl rfl ?_
      refine o_y ((by first | exact Y_nil rfl | exact Y_nilF rfl | exact Y_nilM rfl (by assumption) | exact Y_nilM rfl (by intro w k; kernel_rfl))) rfl rfl ?_
      refine o_y (Y_fa 0 rfl Try.underlying61 rfl sz27 rfl) rfl rfl ?_
      refine o_y ((by first | exact Y_load rfl one27 (by repeat (first | exact List.Mem.head _ | assumption | apply List.Mem.tail | apply List.mem_append_right)) (by rfl) | exact Y_load rfl one27 (by repeat (first | exact List.Mem.head _ | assumption | apply List.Mem.tail | apply List.mem_append_right)) (by assumption) | exact Y_loadR rfl one27 (by assumption) rfl (by assumption))) rfl rfl ?_
      refine o_y (Y_fa 4 rfl Try.underlying42 rfl sz22 rfl) rfl rfl ?_
      refine o_y ((by first | exact Y_load rfl one22 (by repeat (first | exact List.Mem.head _ | assumption | apply List.Mem.tail | apply List.mem_append_right)) (by rfl) | exact Y_load rfl one22 (by repeat (first | exact List.Mem.head _ | assumption | apply List.Mem.tail | apply List.mem_append_right)) (by assumption) | exact Y_loadR rfl one22 (by assumption) rfl (by assumption))) rfl rfl ?_
      refine o_y (Y_shr rfl rfl (by omega)) rfl rfl ?_
      refine o_y ((by first | exact Y_conv rfl Try.underlying22 Try.underlying5 (by first | exact i64_u8 _ | exact u64_u8 _ | exact i64_id (by omega) | exact u64_id (by omega) | exact u8_id (by omega) | exact u32_id (by omega)) | exact Y_convw rfl Try.underlying22 Try.underlying5)) rfl rfl ?_
      refine o_y (Y_fa 4 rfl Try.underlying42 rfl sz22 rfl) rfl rfl ?_
      refine o_y ((by first | exact Y_load rfl one22 (by repeat (first | exact List.Mem.head _ | assumption | apply List.Mem.tail | apply List.mem_append_right)) (by rfl) | exact Y_load rfl one22 (by repeat (first | exact List.Mem.head _ | assumption | apply List.Mem.tail | apply List.mem_append_right)) (by assumption) | exact Y_loadR rfl one22 (by assumption) rfl (by assumption))) rfl rfl ?_
      refine o_y (Y_shr rfl rfl (by omega)) rfl rfl ?_
      refine o_y ((by first | exact Y_conv rfl Try.underlying22 Try.underlying5 (by first | exact i64_u8 _ | exact u64_u8 _ | exact i64_id (by omega) | exact u64_id (by omega) | exact u8_id (by omega) | exact u32_id (by omega)) | exact Y_convw rfl Try.underlying22 Try.underlying5)) rfl rfl ?_
      refine o_y (Y_fa 4 rfl Try.underlying42 rfl sz22 rfl) rfl rfl ?_
      refine o_y ((by first | exact Y_load rfl one22 (by repeat (first | exact List.Mem.head _ | assumption | apply List.Mem.tail | apply List.mem_append_right)) (by rfl) | exact Y_load rfl one22 (by repeat (first | exact List.Mem.head _ | assumption | apply List.Mem.tail | apply List.mem_append_right)) (by assumption) | exact Y_loadR rfl one22 (by assumption) rfl (by assumption))) rfl rfl ?_
      refine o_y (Y_shr rfl rfl (by omega)) rfl rfl ?_
      refine o_y ((by first | exact Y_conv rfl Try.underlying22 Try.underlying5 (by first | exact i64_u8 _ | exact u64_u8 _ | exact i64_id (by omega) | exact u64_id (by omega) | exact u8_id (by omega) | exact u32_id (by omega)) | exact Y_convw rfl Try.underlying22 Try.underlying5)) rfl rfl ?_
      refine o_y (Y_fa 4 rfl Try.underlying42 rfl sz22 rfl) rfl rfl ?_
      refine o_y ((by first | exact Y_load rfl one22 (by repeat (first | exact List.Mem.head _ | assumption | apply List.Mem.tail | apply List.mem_append_right)) (by rfl) | exact Y_load rfl one22 (by repeat (first | exact List.Mem.head _ | assumption | apply List.Mem.tail | apply List.mem_append_right)) (by assumption) | exact Y_loadR rfl one22 (by assumption) rfl (by assumption))) rfl rfl ?_
      refine o_y ((by first | exact Y_conv rfl Try.underlying22 Try.underlying5 (by first | exact i64_u8 _ | exact u64_u8 _ | exact i64_id (by omega) | exact u64_id (by omega) | exact u8_id (by omega) | exact u32_id (by omega)) | exact Y_convw rfl Try.underlying22 Try.underlying5)) rfl rfl ?_
      refine o_n (N_bs (xs := [.tmp 67, .tmp 71, .tmp 75, .tmp 78]) (by repeat (first | exact Gv.nil | apply Gv.const | apply Gv.tmp (by repeat (first | exact Gt.here | apply Gt.there (by rfl) | exact Gt.base (by rfl))))) rfl Try.underlying27 inf5 rfl (by omega) (by omega) (by first | simp [Value.oneCell'] | (intro v hv; simp at hv; subst hv; rfl))) (fun _ => (by first | exact keep_no rfl | exact keep_sub (by repeat (first | exact List.Sublist.refl _ | exact List.nil_sublist _ | apply List.Sublist.cons_cons | apply List.Sublist.cons)))) rfl rfl (fun b79 _ => ?_)
      refine o_n (N_app rfl rfl Try.underlying27 inf5 rfl (by omega) (by repeat (first | exact Sel.head | apply Sel.tail)) (by first | omega | rfl | (simp; omega)) (by omega) (src (by repeat (first | exact List.Mem.head _ | assumption | apply List.Mem.tail | apply List.mem_append_right))) (by rfl) (by simp [Value.oneCell']) (by omega) (by omega)) (fun _ => (by first | exact keep_no rfl | exact keep_sub (by repeat (first | exact List.Sublist.refl _ | exact List.nil_sublist _ | apply List.Sublist.cons_cons | apply List.Sublist.cons)))) rfl rfl (fun ⟨g80, cp80⟩ hc80 => ?_)
      refine o_y ((by first | exact Y_nil rfl | exact Y_nilF rfl | exact Y_nilM rfl (by assumption) | exact Y_nilM rfl (by intro w k; kernel_rfl))) rfl rfl ?_
      refine o_y (Y_fa 0 rfl Try.underlying61 rfl sz27 rfl) rfl rfl ?_
      refine o_s (S_st rfl (by repeat (first | exact Gt.here | apply Gt.there (by rfl) | exact Gt.base (by rfl))) sz27 (by rfl) (by repeat (first | exact Upd.head | apply Upd.tail)) (by first | (simp only [Nat.zero_add, Nat.reduceAdd, List.set_cons_succ, List.set_cons_zero]; rfl) | rfl) (by first | (simp; done) | omega)) (by first | exact keep_no rfl | exact keep_sub (by repeat (first | exact List.Sublist.refl _ | exact List.nil_sublist _ | apply List.Sublist.cons_cons | apply List.Sublist.cons))) rfl ?_
      refine o_nil ?_
      refine QL.pick (L' := [oB b21 g80 (n1 + 4) cp80, ⟨g80, 5, 1, cp80, _⟩, mB b1 g]) (by repeat (first | exact Sels.nil | apply Sels.cons (by repeat (first | exact Sel.head | apply Sel.tail)))) ?_
      refine QL.pk (by simp [hl1]) (by omega) (hu1.app ?_) (fun n1 g1 cp1 cs1 hn1 hl1 hc1 hu1 => ?_)
      · intro u h
        simp only [List.mem_cons, List.not_mem_nil, or_false] at h
        rcases h with rfl | rfl | rfl | rfl <;> exact u8_any _
      refine q_then ?_
      refine c_seq ?_
      -- ref.go:105 R14
      refine c_reg ?_
      refine s_y (Y_mv) rfl rfl ?_
      refine s_y (Y_fa 5 rfl Try.underlying42 rfl sz3 rfl) rfl rfl ?_
      refine s_y ((by first | exact Y_load rfl one3 (by repeat (first | exact List.Mem.head _ | assumption | apply List.Mem.tail | apply List.mem_append_right)) (by rfl) | exact Y_load rfl one3 (by repeat (first | exact List.Mem.head _ | assumption | apply List.Mem.tail | apply List.mem_append_right)) (by assumption) | exact Y_loadR rfl one3 (by assumption) rfl (by assumption))) rfl rfl ?_
      refine s_cm [oB b21 g1 n1 cp1, ⟨g1, 5, 1, cp1, cs1⟩] (En_call (fun _ => rfl) Try.func22 rfl (by kernel_rfl) rfl) (by repeat (first | exact Sels.nil | apply Sels.cons (by repeat (first | exact Sel.head | apply Sel.tail)))) (fun w hH => outnum_e hre (hH.at' (by repeat (first | exact List.Mem.head _ | assumption | apply List.Mem.tail | apply List.mem_append_right))) (hH.at' (by repeat (first | exact List.Mem.head _ | assumption | apply List.Mem.tail | apply List.mem_append_right))) (ne2 (oB b21 g1 n1 cp1) ⟨g1, 5, 1, cp1, cs1⟩ hH (by repeat (first | exact Sels.nil | apply Sels.cons (by repeat (first | exact Sel.head | apply Sel.tail))))) hl1 hc1 (by omega) hu1) rfl rfl ?_
      rintro _ _ ⟨rfl, n1, hm1, hn1, g1, cp1, cs1, hl1, hc1, hu1, rfl⟩
      refine s_nil ?_
      refine q_then ?_
      refine c_seq ?_
      refine c_seq ?_
      -- ref.go:106 R15
      refine c_reg ?_
      refine s_y (Y_asC) rfl rfl ?_
      refine s_nil ?_
      refine q_then ?_
      refine c_block ?_
      refine c_loop [5, 87, 88, 89, 90, 91, 92, 93, 94, 95, 96] (fun n2 (y : Nat × Nat × Nat × Nat × List Value) => y.1 + n2 = 4 ∧ 1 ≤ y.2.1 ∧ y.2.1 ≤ 100 + 4 * y.1 ∧ y.2.2.2.2.length = y.2.1 ∧ y.2.1 ≤ y.2.2.2.1 ∧ U8 y.2.2.2.2) (fun y => [(5, .int .i64 (y.1 : Int))]) (fun y => [oB b21 y.2.2.1 y.2.1 y.2.2.2.1, ⟨y.2.2.1, 5, 1, y.2.2.2.1, y.2.2.2.2⟩, mB b1 g]) (4) ((0, n1, g1, cp1, cs1)) (⟨by omega, hm1, by simp only; omega, hl1, hc1, hu1⟩) (by repeat (first | exact trivial | refine ⟨rfl, ?_⟩)) (fun _ h => h.sub (by repeat (first | exact List.Sublist.refl _ | exact List.nil_sublist _ | apply List.Sublist.cons_cons | apply List.Sublist.cons))) (fun _ => rfl) ?_
      rintro n2 ⟨i, n1, g1, cp1, cs1⟩ j ⟨hi, hm1, hn1, hl1, hc1, hu1⟩ K hK
      simp only at hi hm1 hn1 hl1 hc1 hu1 ⊢
      refine c_seq ?_
      refine c_seq ?_
      -- ref.go:106 R16
      refine c_reg ?_
      refine s_y (Y_mv) rfl rfl ?_
      refine s_y (Y_lss rfl rfl) rfl rfl ?_
      refine s_nil ?_
      refine q_then ?_
      refine c_cond' rfl (fun h => ?_) (fun h => ?_)
      · skip
        refine c_skip ?_
        refine q_then ?_
        refine c_seq ?_
        refine c_block ?_
        -- ref.go:107 R18
        refine c_reg ?_
        refine s_y (Y_mv) rfl rfl ?_
        refine s_y (Y_mv) rfl rfl ?_
        refine s_y (Y_fa 6 rfl Try.underlying42 rfl sz23 rfl) rfl rfl ?_
        refine s_y (Y_iaA rfl rfl Try.underlying23 sz3 rfl (by omega)) rfl rfl ?_
        refine s_y (Y_load (v := .int .i64 (g.heard i)) rfl one3 (by repeat (first | exact List.Mem.head _ | assumption | apply List.Mem.tail | apply List.mem_append_right)) (by rcases (show i = 0 ∨ i = 1 ∨ i = 2 ∨ i = 3 by omega) with rfl | rfl | rfl | rfl <;> rfl)) rfl rfl ?_
        refine s_cm [oB b21 g1 n1 cp1, ⟨g1, 5, 1, cp1, cs1⟩] (En_call (fun _ => rfl) Try.func22 rfl (by kernel_rfl) rfl) (by repeat (first | exact Sels.nil | apply Sels.cons (by repeat (first | exact Sel.head | apply Sel.tail)))) (fun w hH => outnum_e (by have := G.heard i (by omega); simpa only [P30] using this) (hH.at' (by repeat (first | exact List.Mem.head _ | assumption | apply List.Mem.tail | apply List.mem_append_right))) (hH.at' (by repeat (first | exact List.Mem.head _ | assumption | apply List.Mem.tail | apply List.mem_append_right))) (ne2 (oB b21 g1 n1 cp1) ⟨g1, 5, 1, cp1, cs1⟩ hH (by repeat (first | exact Sels.nil | apply Sels.cons (by repeat (first | exact Sel.head | apply Sel.tail))))) hl1 hc1 (by omega) hu1) rfl rfl ?_
        rintro _ _ ⟨rfl, n1, hm1, hn1, g1, cp1, cs1, hl1, hc1, hu1, rfl⟩
        refine s_nil ?_
        refine q_bn ?_
        refine q_then ?_
        -- ref.go:106 R17
        refine c_reg ?_
        refine s_y (Y_mv) rfl rfl ?_
        refine s_y ((by first | exact Y_add rfl rfl (by omega) | exact Y_addw rfl rfl)) rfl rfl ?_
        refine s_y (Y_as) rfl rfl ?_
        refine s_nil ?_
        refine hK (n2 - 1) (i + 1, n1, g1, cp1, cs1) _ _ (by omega) ⟨by simp only; omega, hm1, by simp only; omega, hl1, hc1, hu1⟩ ⟨rfl, trivial⟩ rfl (fun _ h => h)
      · skip
        refine c_exit ?_
        repeat with_reducible refine q_te ?_
        refine q_exit ?_
        refine q_then ?_
        refine c_seq ?_
        -- ref.go:109 R19
        refine c_reg ?_
        refine s_y (Y_mv) rfl rfl ?_
        refine s_y (Y_fa 10 rfl Try.underlying42 rfl sz3 rfl) rfl rfl ?_
        refine s_y ((by first | exact Y_load rfl one3 (by repeat (first | exact List.Mem.head _ | assumption | apply List.Mem.tail | apply List.mem_append_right)) (by rfl) | exact Y_load rfl one3 (by repeat (first | exact List.Mem.head _ | assumption | apply List.Mem.tail | apply List.mem_append_right)) (by assumption) | exact Y_loadR rfl one3 (by assumption) rfl (by assumption))) rfl rfl ?_
        refine s_cm [oB b21 g1 n1 cp1, ⟨g1, 5, 1, cp1, cs1⟩] (En_call (fun _ => rfl) Try.func22 rfl (by kernel_rfl) rfl) (by repeat (first | exact Sels.nil | apply Sels.cons (by repeat (first | exact Sel.head | apply Sel.tail)))) (fun w hH => outnum_e hli (hH.at' (by repeat (first | exact List.Mem.head _ | assumption | apply List.Mem.tail | apply List.mem_append_right))) (hH.at' (by repeat (first | exact List.Mem.head _ | assumption | apply List.Mem.tail | apply List.mem_append_right))) (ne2 (oB b21 g1 n1 cp1) ⟨g1, 5, 1, cp1, cs1⟩ hH (by repeat (first | exact Sels.nil | apply Sels.cons (by repeat (first | exact Sel.head | apply Sel.tail))))) hl1 hc1 (by omega) hu1) rfl rfl ?_
        rintro _ _ ⟨rfl, n1, hm1, hn1, g1, cp1, cs1, hl1, hc1, hu1, rfl⟩
        refine s_nil ?_
        refine q_then ?_
        refine c_seq ?_
        -- ref.go:110 R20
        refine c_reg ?_
        refine s_y (Y_mv) rfl rfl ?_
        refine s_y (Y_fa 11 rfl Try.underlying42 rfl sz3 rfl) rfl rfl ?_
        refine s_y ((by first | exact Y_load rfl one3 (by repeat (first | exact List.Mem.head _ | assumption | apply List.Mem.tail | apply List.mem_append_right)) (by rfl) | exact Y_load rfl one3 (by repeat (first | exact List.Mem.head _ | assumption | apply List.Mem.tail | apply List.mem_append_right)) (by assumption) | exact Y_loadR rfl one3 (by assumption) rfl (by assumption))) rfl rfl ?_
        refine s_cm [oB b21 g1 n1 cp1, ⟨g1, 5, 1, cp1, cs1⟩] (En_call (fun _ => rfl) Try.func22 rfl (by kernel_rfl) rfl) (by repeat (first | exact Sels.nil | apply Sels.cons (by repeat (first | exact Sel.head | apply Sel.tail)))) (fun w hH => outnum_e hfi (hH.at' (by repeat (first | exact List.Mem.head _ | assumption | apply List.Mem.tail | apply List.mem_append_right))) (hH.at' (by repeat (first | exact List.Mem.head _ | assumption | apply List.Mem.tail | apply List.mem_append_right))) (ne2 (oB b21 g1 n1 cp1) ⟨g1, 5, 1, cp1, cs1⟩ hH (by repeat (first | exact Sels.nil | apply Sels.cons (by repeat (first | exact Sel.head | apply Sel.tail))))) hl1 hc1 (by omega) hu1) rfl rfl ?_
        rintro _ _ ⟨rfl, n1, hm1, hn1, g1, cp1, cs1, hl1, hc1, hu1, rfl⟩
        refine s_nil ?_
        refine q_then ?_
        -- ref.go:111 R21
        refine c_reg ?_
        refine s_y (Y_mv) rfl rfl ?_
        refine s_y (Y_fa 12 rfl Try.underlying42 rfl sz24 rfl) rfl rfl ?_
        refine s_y ((by first | exact Y_load rfl one24 (by repeat (first | exact List.Mem.head _ | assumption | apply List.Mem.tail | apply List.mem_append_right)) (by rfl) | exact Y_load rfl one24 (by repeat (first | exact List.Mem.head _ | assumption | apply List.Mem.tail | apply List.mem_append_right)) (by assumption) | exact Y_loadR rfl one24 (by assumption) rfl (by assumption))) rfl rfl ?_
        refine s_cm [oB b21 g1 n1 cp1, ⟨g1, 5, 1, cp1, cs1⟩] (En_call (fun _ => rfl) Try.func23 rfl (by kernel_rfl) rfl) (by repeat (first | exact Sels.nil | apply Sels.cons (by repeat (first | exact Sel.head | apply Sel.tail)))) (fun w hH => outrow_e (MV.inp.ex hH.ex) MV.il G.inputs (MV.inp.apart hH (x := oB b21 g1 n1 cp1) (y := ⟨g1, 5, 1, cp1, cs1⟩) (by repeat (first | exact List.Mem.head _ | assumption | apply List.Mem.tail | apply List.mem_append_right)) (by repeat (first | exact List.Mem.head _ | assumption | apply List.Mem.tail | apply List.mem_append_right))) (hH.at' (by repeat (first | exact List.Mem.head _ | assumption | apply List.Mem.tail | apply List.mem_append_right))) (hH.at' (by repeat (first | exact List.Mem.head _ | assumption | apply List.Mem.tail | apply List.mem_append_right))) (ne2 (oB b21 g1 n1 cp1) ⟨g1, 5, 1, cp1, cs1⟩ hH (by repeat (first | exact Sels.nil | apply Sels.cons (by repeat (first | exact Sel.head | apply Sel.tail))))) hl1 hc1 (by omega) hu1) rfl rfl ?_
        rintro _ _ ⟨rfl, n1, hm1, hn1, g1, cp1, cs1, hl1, hc1, hu1, rfl⟩
        refine s_nil ?_
        refine q_bn ?_
        refine q_then ?_
        refine c_seq ?_
        refine c_seq ?_
        -- ref.go:142 R49
        refine c_reg ?_
        refine s_y (Y_mv) rfl rfl ?_
        refine s_y ((by first | exact Y_nil rfl | exact Y_nilF rfl | exact Y_nilM rfl (by assumption) | exact Y_nilM rfl (by intro w k; kernel_rfl))) rfl rfl ?_
        refine s_y (Y_fa 1 rfl Try.underlying61 rfl sz4 rfl) rfl rfl ?_
        refine s_y ((by first | exact Y_load rfl one4 (by repeat (first | exact List.Mem.head _ | assumption | apply List.Mem.tail | apply List.mem_append_right)) (by rfl) | exact Y_load rfl one4 (by repeat (first | exact List.Mem.head _ | assumption | apply List.Mem.tail | apply List.mem_append_right)) (by assumption) | exact Y_loadR rfl one4 (by assumption) rfl (by assumption))) rfl rfl ?_
        refine s_nil ?_
        refine q_then ?_
        refine c_F rfl ((by rfl)) ?_
        refine c_skip ?_
        refine q_then ?_
        refine c_seq ?_
        -- ref.go:145 R51
        refine c_reg ?_
        refine s_y (Y_mv) rfl rfl ?_
        refine s_y ((by first | exact Y_nil rfl | exact Y_nilF rfl | exact Y_nilM rfl (by assumption) | exact Y_nilM rfl (by intro w k; kernel_rfl))) rfl rfl ?_
        refine s_y (Y_fa 0 rfl Try.underlying61 rfl sz27 rfl) rfl rfl ?_
        refine s_y ((by first | exact Y_load rfl one27 (by repeat (first | exact List.Mem.head _ | assumption | apply List.Mem.tail | apply List.mem_append_right)) (by rfl) | exact Y_load rfl one27 (by repeat (first | exact List.Mem.head _ | assumption | apply List.Mem.tail | apply List.mem_append_right)) (by assumption) | exact Y_loadR rfl one27 (by assumption) rfl (by assumption))) rfl rfl ?_
        refine s_y (Y_as) rfl rfl ?_
        refine s_y (Y_asC) rfl rfl ?_
        refine s_nil ?_
        refine q_then ?_
        refine c_ret ?_
        obtain ⟨xs, rfl⟩ := U8.bytes hu1
        rw [List.length_map] at hl1
        refine q_ret2 rfl rfl rfl (L' := [⟨g1, 5, 1, cp1, xs.map bv⟩]) (by repeat (first | exact List.Sublist.refl _ | exact List.nil_sublist _ | apply List.Sublist.cons_cons | apply List.Sublist.cons)) ⟨xs, g1, cp1, by omega, by omega, by omega, by rw [hl1]; rfl, rfl⟩
    · skip
      refine c_seq ?_
      -- ref.go:112 R22
      refine c_reg ?_
      refine s_y (Y_eql rfl rfl) rfl rfl ?_
      refine s_y (Y_as) rfl rfl ?_
      refine s_nil ?_
      refine q_then ?_
      refine c_cond' rfl (fun hk3 => ?_) (fun hk3 => ?_)
      · skip
        refine c_seq ?_
        -- ref.go:113 R23
        refine c_reg ?_
        refine s_y (Y_mv) rfl rfl ?_
        refine s_y (Y_fa 13 rfl Try.underlying42 rfl sz3 rfl) rfl rfl ?_
        refine s_y ((by first | exact Y_load rfl one3 (by repeat (first | exact List.Mem.head _ | assumption | apply List.Mem.tail | apply List.mem_append_right)) (by rfl) | exact Y_load rfl one3 (by repeat (first | exact List.Mem.head _ | assumption | apply List.Mem.tail | apply List.mem_append_right)) (by assumption) | exact Y_loadR rfl one3 (by assumption) rfl (by assumption))) rfl rfl ?_
        refine s_cm [oB b21 g1 n1 cp1, ⟨g1, 5, 1, cp1, cs1⟩] (En_call (fun _ => rfl) Try.func24 rfl (by kernel_rfl) rfl) (by repeat (first | exact Sels.nil | apply Sels.cons (by repeat (first | exact Sel.head | apply Sel.tail)))) (fun w hH => outsmall_e hsta (hH.at' (by repeat (first | exact List.Mem.head _ | assumption | apply List.Mem.tail | apply List.mem_append_right))) (hH.at' (by repeat (first | exact List.Mem.head _ | assumption | apply List.Mem.tail | apply List.mem_append_right))) (ne2 (oB b21 g1 n1 cp1) ⟨g1, 5, 1, cp1, cs1⟩ hH (by repeat (first | exact Sels.nil | apply Sels.cons (by repeat (first | exact Sel.head | apply Sel.tail))))) hl1 hc1 (by omega) hu1) rfl rfl ?_
        rintro _ _ ⟨rfl, n1, hm1, hn1, g1, cp1, cs1, hl1, hc1, hu1, rfl⟩
        refine s_nil ?_
        refine q_then ?_
        refine c_seq ?_
        refine c_seq ?_
        -- ref.go:114 R24
        refine c_reg ?_
        refine s_y (Y_fa 14 rfl Try.underlying42 rfl sz3 rfl) rfl rfl ?_
        refine s_y ((by first | exact Y_load rfl one3 (by repeat (first | exact List.Mem.head _ | assumption | apply List.Mem.tail | apply List.mem_append_right)) (by rfl) | exact Y_load rfl one3 (by repeat (first | exact List.Mem.head _ | assumption | apply List.Mem.tail | apply List.mem_append_right)) (by assumption) | exact Y_loadR rfl one3 (by assumption) rfl (by assumption))) rfl rfl ?_
        refine s_y (Y_eql rfl rfl) rfl rfl ?_
        refine s_nil ?_
        refine q_then ?_
        refine c_cond' rfl (fun hse => ?_) (fun hse => ?_)
        · skip
          -- ref.go:115 R25
          refine c_reg ?_
          refine s_y (Y_mv) rfl rfl ?_
          refine s_y (Y_mv) rfl rfl ?_
          refine s_y ((by first | exact Y_nil rfl | exact Y_nilF rfl | exact Y_nilM rfl (by assumption) | exact Y_nilM rfl (by intro w k; kernel_rfl))) rfl rfl ?_
          refine s_y (Y_fa 0 rfl Try.underlying61 rfl sz27 rfl) rfl rfl ?_
          refine s_y ((by first | exact Y_load rfl one27 (by repeat (first | exact List.Mem.head _ | assumption | apply List.Mem.tail | apply List.mem_append_right)) (by rfl) | exact Y_load rfl one27 (by repeat (first | exact List.Mem.head _ | assumption | apply List.Mem.tail | apply List.mem_append_right)) (by assumption) | exact Y_loadR rfl one27 (by assumption) rfl (by assumption))) rfl rfl ?_
          refine s_n (N_bs (xs := [.const (Value.int Go.IntKind.u8 4)]) (by repeat (first | exact Gv.nil | apply Gv.const | apply Gv.tmp (by repeat (first | exact Gt.here | apply Gt.there (by rfl) | exact Gt.base (by rfl))))) rfl Try.underlying27 inf5 rfl (by omega) (by omega) (by first | simp [Value.oneCell'] | (intro v hv; simp at hv; subst hv; rfl))) rfl rfl (fun b123 _ => ?_)
          refine s_n (N_app rfl rfl Try.underlying27 inf5 rfl (by omega) (by repeat (first | exact Sel.head | apply Sel.tail)) (by first | omega | rfl | (simp; omega)) (by omega) (src (by repeat (first | exact List.Mem.head _ | assumption | apply List.Mem.tail | apply List.mem_append_right))) (by rfl) (by simp [Value.oneCell']) (by omega) (by omega)) rfl rfl (fun ⟨g124, cp124⟩ hc124 => ?_)
          refine s_y ((by first | exact Y_nil rfl | exact Y_nilF rfl | exact Y_nilM rfl (by assumption) | exact Y_nilM rfl (by intro w k; kernel_rfl))) rfl rfl ?_
          refine s_y (Y_fa 0 rfl Try.underlying61 rfl sz27 rfl) rfl rfl ?_
          refine s_s (S_st rfl (by repeat (first | exact Gt.here | apply Gt.there (by rfl) | exact Gt.base (by rfl))) sz27 (by rfl) (by repeat (first | exact Upd.head | apply Upd.tail)) (by first | (simp only [Nat.zero_add, Nat.reduceAdd, List.set_cons_succ, List.set_cons_zero]; rfl) | rfl) (by first | (simp; done) | omega)) rfl ?_
          refine s_nil ?_
          refine QL.pick (L' := [oB b21 g124 (n1 + 1) cp124, ⟨g124, 5, 1, cp124, _⟩, mB b1 g]) (by repeat (first | exact Sels.nil | apply Sels.cons (by repeat (first | exact Sel.head | apply Sel.tail)))) ?_
          refine QL.pk (by simp [hl1]) (by omega) (hu1.app (fun u h => by rw [List.mem_singleton.1 h]; exact ⟨4, rfl⟩)) (fun n1 g1 cp1 cs1 hn1 hl1 hc1 hu1 => ?_)
          have hm1 : 1 ≤ n1 := by omega
          refine q_then ?_
          refine c_seq ?_
          -- ref.go:119 R27
          refine c_reg ?_
          refine s_y (Y_mv) rfl rfl ?_
          refine s_y (Y_fa 15 rfl Try.underlying42 rfl sz3 rfl) rfl rfl ?_
          refine s_y ((by first | exact Y_load rfl one3 (by repeat (first | exact List.Mem.head _ | assumption | apply List.Mem.tail | apply List.mem_append_right)) (by rfl) | exact Y_load rfl one3 (by repeat (first | exact List.Mem.head _ | assumption | apply List.Mem.tail | apply List.mem_append_right)) (by assumption) | exact Y_loadR rfl one3 (by assumption) rfl (by assumption))) rfl rfl ?_
          refine s_cm [oB b21 g1 n1 cp1, ⟨g1, 5, 1, cp1, cs1⟩] (En_call (fun _ => rfl) Try.func22 rfl (by kernel_rfl) rfl) (by repeat (first | exact Sels.nil | apply Sels.cons (by repeat (first | exact Sel.head | apply Sel.tail)))) (fun w hH => outnum_e hba (hH.at' (by repeat (first | exact List.Mem.head _ | assumption | apply List.Mem.tail | apply List.mem_append_right))) (hH.at' (by repeat (first | exact List.Mem.head _ | assumption | apply List.Mem.tail | apply List.mem_append_right))) (ne2 (oB b21 g1 n1 cp1) ⟨g1, 5, 1, cp1, cs1⟩ hH (by repeat (first | exact Sels.nil | apply Sels.cons (by repeat (first | exact Sel.head | apply Sel.tail))))) hl1 hc1 (by omega) hu1) rfl rfl ?_
          rintro _ _ ⟨rfl, n1, hm1, hn1, g1, cp1, cs1, hl1, hc1, hu1, rfl⟩
          refine s_nil ?_
          refine q_then ?_
          refine c_seq ?_
          -- ref.go:120 R28
          refine c_reg ?_
          refine s_y (Y_mv) rfl rfl ?_
          refine s_y (Y_fa 16 rfl Try.underlying42 rfl sz3 rfl) rfl rfl ?_
          refine s_y ((by first | exact Y_load rfl one3 (by repeat (first | exact List.Mem.head _ | assumption | apply List.Mem.tail | apply List.mem_append_right)) (by rfl) | exact Y_load rfl one3 (by repeat (first | exact List.Mem.head _ | assumption | apply List.Mem.tail | apply List.mem_append_right)) (by assumption) | exact Y_loadR rfl one3 (by assumption) rfl (by assumption))) rfl rfl ?_
          refine s_cm [oB b21 g1 n1 cp1, ⟨g1, 5, 1, cp1, cs1⟩] (En_call (fun _ => rfl) Try.func22 rfl (by kernel_rfl) rfl) (by repeat (first | exact Sels.nil | apply Sels.cons (by repeat (first | exact Sel.head | apply Sel.tail)))) (fun w hH => outnum_e hfr (hH.at' (by repeat (first | exact List.Mem.head _ | assumption | apply List.Mem.tail | apply List.mem_append_right))) (hH.at' (by repeat (first | exact List.Mem.head _ | assumption | apply List.Mem.tail | apply List.mem_append_right))) (ne2 (oB b21 g1 n1 cp1) ⟨g1, 5, 1, cp1, cs1⟩ hH (by repeat (first | exact Sels.nil | apply Sels.cons (by repeat (first | exact Sel.head | apply Sel.tail))))) hl1 hc1 (by omega) hu1) rfl rfl ?_
          rintro _ _ ⟨rfl, n1, hm1, hn1, g1, cp1, cs1, hl1, hc1, hu1, rfl⟩
          refine s_nil ?_
          refine q_then ?_
          refine c_seq ?_
          refine c_seq ?_
          -- ref.go:121 R29
          refine c_reg ?_
          refine s_y (Y_fa 17 rfl Try.underlying42 rfl sz25 rfl) rfl rfl ?_
          refine s_y ((by first | exact Y_load rfl one25 (by repeat (first | exact List.Mem.head _ | assumption | apply List.Mem.tail | apply List.mem_append_right)) (by rfl) | exact Y_load rfl one25 (by repeat (first | exact List.Mem.head _ | assumption | apply List.Mem.tail | apply List.mem_append_right)) (by assumption) | exact Y_loadR rfl one25 (by assumption) rfl (by assumption))) rfl rfl ?_
          refine s_y (Y_len rfl rfl Try.underlying25) rfl rfl ?_
          refine s_y (Y_gtr rfl rfl) rfl rfl ?_
          refine s_nil ?_
          refine q_then ?_
          refine c_F rfl ((by simp; omega)) ?_
          refine c_skip ?_
          refine q_then ?_
          refine c_seq ?_
          -- ref.go:124 R31
          refine c_rordS (L0 := [oB b21 g1 n1 cp1, mB b1 g]) (by repeat (first | exact List.Sublist.refl _ | exact List.nil_sublist _ | apply List.Sublist.cons_cons | apply List.Sublist.cons)) [18] [(0, true), (1, true), (2, true), (3, true), (4, true), (5, true), (6, true), (7, true), (8, true), (9, true), (10, true), (11, true), (12, true), (13, true), (14, false), (15, false), (16, true), (17, true), (18, false)] (by kernel_rfl) (by kernel_rfl) (by kernel_rfl) (by kernel_rfl) rfl (by intro c a d v w h; cases d <;> exact h) rfl ?_
          simp only [mkOrd, List.filterMap_cons, List.filterMap_nil, List.getElem?_toArray, List.getElem?_cons_zero, List.getElem?_cons_succ, Option.map_some]
          refine o_y (Y_mv) rfl rfl ?_
          refine o_y (Y_mv) rfl rfl ?_
          refine o_y ((by first | exact Y_nil rfl | exact Y_nilF rfl | exact Y_nilM rfl (by assumption) | exact Y_nilM rfl (by intro w k; kernel_rfl))) rfl rfl ?_
          refine o_y (Y_fa 0 rfl Try.underlying61 rfl sz27 rfl) rfl rfl ?_
          refine o_y ((by first | exact Y_load rfl one27 (by repeat (first | exact List.Mem.head _ | assumption | apply List.Mem.tail | apply List.mem_append_right)) (by rfl) | exact Y_load rfl one27 (by repeat (first | exact List.Mem.head _ | assumption | apply List.Mem.tail | apply List.mem_append_right)) (by assumption) | exact Y_loadR rfl one27 (by assumption) rfl (by assumption))) rfl rfl ?_
          refine o_y (Y_fa 17 rfl Try.underlying42 rfl sz25 rfl) rfl rfl ?_
          refine o_y ((by first | exact Y_load rfl one25 (by repeat (first | exact List.Mem.head _ | assumption | apply List.Mem.tail | apply List.mem_append_right)) (by rfl) | exact Y_load rfl one25 (by repeat (first | exact List.Mem.head _ | assumption | apply List.Mem.tail | apply List.mem_append_right)) (by assumption) | exact Y_loadR rfl one25 (by assumption) rfl (by assumption))) rfl rfl ?_
          refine o_y (Y_len rfl rfl Try.underlying25) rfl rfl ?_
          refine o_y (Y_shr rfl rfl (by omega)) rfl rfl ?_
          refine o_y (Y_convw rfl Try.underlying3 Try.underlying5) rfl rfl ?_
          refine o_y (Y_fa 17 rfl Try.underlying42 rfl sz25 rfl) rfl rfl ?_
          refine o_y ((by first | exact Y_load rfl one25 (by repeat (first | exact List.Mem.head _ | assumption | apply List.Mem.tail | apply List.mem_append_right)) (by rfl) | exact Y_load rfl one25 (by repeat (first | exact List.Mem.head _ | assumption | apply List.Mem.tail | apply List.mem_append_right)) (by assumption) | exact Y_loadR rfl one25 (by assumption) rfl (by assumption))) rfl rfl ?_
          refine o_y (Y_len rfl rfl Try.underlying25) rfl rfl ?_
          refine o_y (Y_convw rfl Try.underlying3 Try.underlying5) rfl rfl ?_
          refine o_n (N_bs (xs := [.tmp 152, .tmp 156]) (by repeat (first | exact Gv.nil | apply Gv.const | apply Gv.tmp (by repeat (first | exact Gt.here | apply Gt.there (by rfl) | exact Gt.base (by rfl))))) rfl Try.underlying27 inf5 rfl (by omega) (by omega) (by first | simp [Value.oneCell'] | (intro v hv; simp at hv; subst hv; rfl))) (fun _ => (by first | exact keep_no rfl | exact keep_sub (by repeat (first | exact List.Sublist.refl _ | exact List.nil_sublist _ | apply List.Sublist.cons_cons | apply List.Sublist.cons)))) rfl rfl (fun b157 _ => ?_)
          refine o_n (N_app rfl rfl Try.underlying27 inf5 rfl (by omega) (by repeat (first | exact Sel.head | apply Sel.tail)) (by first | omega | rfl | (simp; omega)) (by omega) (src (by repeat (first | exact List.Mem.head _ | assumption | apply List.Mem.tail | apply List.mem_append_right))) (by rfl) (by simp [Value.oneCell']) (by omega) (by omega)) (fun _ => (by first | exact keep_no rfl | exact keep_sub (by repeat (first | exact List.Sublist.refl _ | exact List.nil_sublist _ | apply List.Sublist.cons_cons | apply List.Sublist.cons)))) rfl rfl (fun ⟨g158, cp158⟩ hc158 => ?_)
          refine o_y ((by first | exact Y_nil rfl | exact Y_nilF rfl | exact Y_nilM rfl (by assumption) | exact Y_nilM rfl (by intro w k; kernel_rfl))) rfl rfl ?_
          refine o_y (Y_fa 0 rfl Try.underlying61 rfl sz27 rfl) rfl rfl ?_
          refine o_s (S_st rfl (by repeat (first | exact Gt.here | apply Gt.there (by rfl) | exact Gt.base (by rfl))) sz27 (by rfl) (by repeat (first | exact Upd.head | apply Upd.tail)) (by first | (simp only [Nat.zero_add, Nat.reduceAdd, List.set_cons_succ, List.set_cons_zero]; rfl) | rfl) (by first | (simp; done) | omega)) (by first | exact keep_no rfl | exact keep_sub (by repeat (first | exact List.Sublist.refl _ | exact List.nil_sublist _ | apply List.Sublist.cons_cons | apply List.Sublist.cons))) rfl ?_
          refine o_nil ?_
          refine QL.pick (L' := [oB b21 g158 (n1 + 2) cp158, ⟨g158, 5, 1, cp158, _⟩, mB b1 g]) (by repeat (first | exact Sels.nil | apply Sels.cons (by repeat (first | exact Sel.head | apply Sel.tail)))) ?_
          refine QL.pk (by simp [hl1]) (by omega) (hu1.app ?_) (fun n1 g1 cp1 cs1 hn1 hl1 hc1 hu1 => ?_)
          · intro u h
            simp only [List.mem_cons, List.not_mem_nil, or_false] at h
            rcases h with rfl | rfl <;> exact u8_any _
          have hm1 : 1 ≤ n1 := by omega
          refine q_then ?_
          refine c_seq ?_
          refine c_seq ?_
          -- ref.go:125 R32
          refine c_reg ?_
          refine s_y (Y_asC) rfl rfl ?_
          refine s_nil ?_
          refine q_then ?_
          refine c_block ?_
          refine c_loop [6, 161, 162, 163, 164, 165, 166, 167, 168, 169, 170, 171, 172, 173, 174] (fun n2 (y : Nat × Nat × Nat × Nat × List Value) => y.1 + n2 = g.rl ∧ 1 ≤ y.2.1 ∧ y.2.1 ≤ 100 + 10 * y.1 ∧ y.2.2.2.2.length = y.2.1 ∧ y.2.1 ≤ y.2.2.2.1 ∧ U8 y.2.2.2.2) (fun y => [(6, .int .i64 (y.1 : Int))]) (fun y => [oB b21 y.2.2.1 y.2.1 y.2.2.2.1, ⟨y.2.2.1, 5, 1, y.2.2.2.1, y.2.2.2.2⟩, mB b1 g]) (g.rl) ((0, n1, g1, cp1, cs1)) (⟨by omega, hm1, by simp only; omega, hl1, hc1, hu1⟩) (by repeat (first | exact trivial | refine ⟨rfl, ?_⟩)) (fun _ h => h.sub (by repeat (first | exact List.Sublist.refl _ | exact List.nil_sublist _ | apply List.Sublist.cons_cons | apply List.Sublist.cons))) (fun _ => rfl) ?_
          rintro n2 ⟨i, n1, g1, cp1, cs1⟩ j ⟨hi, hm1, hn1, hl1, hc1, hu1⟩ K hK
          simp only at hi hm1 hn1 hl1 hc1 hu1 ⊢
          refine c_seq ?_
          refine c_seq ?_
          -- ref.go:125 R33
          refine c_reg ?_
          refine s_y (Y_mv) rfl rfl ?_
          refine s_y (Y_fa 17 rfl Try.underlying42 rfl sz25 rfl) rfl rfl ?_
          refine s_y ((by first | exact Y_load rfl one25 (by repeat (first | exact List.Mem.head _ | assumption | apply List.Mem.tail | apply List.mem_append_right)) (by rfl) | exact Y_load rfl one25 (by repeat (first | exact List.Mem.head _ | assumption | apply List.Mem.tail | apply List.mem_append_right)) (by assumption) | exact Y_loadR rfl one25 (by assumption) rfl (by assumption))) rfl rfl ?_
          refine s_y (Y_len rfl rfl Try.underlying25) rfl rfl ?_
          refine s_y (Y_lss rfl rfl) rfl rfl ?_
          refine s_nil ?_
          refine q_then ?_
          refine c_cond' rfl (fun h => ?_) (fun h => ?_)
          · skip
            refine c_skip ?_
            refine q_then ?_
            refine c_seq ?_
            refine c_block ?_
            -- ref.go:126 R35
            obtain ⟨r, hr1, hr2⟩ : ∃ r, g.stream[i]? = some r ∧ r ∈ g.stream := ⟨g.stream[i]'(by omega), by simp, List.getElem_mem _⟩
            obtain ⟨bb, ob, hra, hrr⟩ := MV.str.at' hr1
            refine c_reg ?_
            refine s_y (Y_mv) rfl rfl ?_
            refine s_y (Y_fa 17 rfl Try.underlying42 rfl sz25 rfl) rfl rfl ?_
            refine s_y ((by first | exact Y_load rfl one25 (by repeat (first | exact List.Mem.head _ | assumption | apply List.Mem.tail | apply List.mem_append_right)) (by rfl) | exact Y_load rfl one25 (by repeat (first | exact List.Mem.head _ | assumption | apply List.Mem.tail | apply List.mem_append_right)) (by assumption) | exact Y_loadR rfl one25 (by assumption) rfl (by assumption))) rfl rfl ?_
            refine s_y (Y_mv) rfl rfl ?_
            refine s_y (Y_ia (b' := bb) (off := ob) (len := g.rl) (cap := g.rc) (by rw [← hra]; rfl) rfl Try.underlying25 sz37 rfl (by omega)) rfl rfl ?_
            refine s_y (Y_loadNR (vs := r.cells) rfl many37 hrr rfl) rfl rfl ?_
            refine s_cm [oB b21 g1 n1 cp1, ⟨g1, 5, 1, cp1, cs1⟩] (En_call (fun _ => rfl) Try.func25 rfl (by kernel_rfl) rfl) (by repeat (first | exact Sels.nil | apply Sels.cons (by repeat (first | exact Sel.head | apply Sel.tail)))) (fun w hH => outrec_e (r := r) (by have := G.stream.2 r hr2; simp only [P30] at this; omega) (hH.at' (by repeat (first | exact List.Mem.head _ | assumption | apply List.Mem.tail | apply List.mem_append_right))) (hH.at' (by repeat (first | exact List.Mem.head _ | assumption | apply List.Mem.tail | apply List.mem_append_right))) (ne2 (oB b21 g1 n1 cp1) ⟨g1, 5, 1, cp1, cs1⟩ hH (by repeat (first | exact Sels.nil | apply Sels.cons (by repeat (first | exact Sel.head | apply Sel.tail))))) hl1 hc1 (by omega) hm1 hu1) rfl rfl ?_
            rintro _ _ ⟨rfl, n1, hm1, hn1, g1, cp1, cs1, hl1, hc1, hu1, rfl⟩
            refine s_nil ?_
            refine q_bn ?_
            refine q_then ?_
            -- ref.go:125 R34
            refine c_reg ?_
            refine s_y (Y_mv) rfl rfl ?_
            refine s_y ((by first | exact Y_add rfl rfl (by omega) | exact Y_addw rfl rfl)) rfl rfl ?_
            refine s_y (Y_as) rfl rfl ?_
            refine s_nil ?_
            refine hK (n2 - 1) (i + 1, n1, g1, cp1, cs1) _ _ (by omega) ⟨by simp only; omega, hm1, by simp only; omega, hl1, hc1, hu1⟩ ⟨rfl, trivial⟩ rfl (fun _ h => h)
          · skip
            refine c_exit ?_
            repeat with_reducible refine q_te ?_
            refine q_exit ?_
            refine q_then ?_
            refine c_seq ?_
            refine c_seq ?_
            -- ref.go:128 R36
            refine c_reg ?_
            refine s_y (Y_asC) rfl rfl ?_
            refine s_nil ?_
            refine q_then ?_
            refine c_block ?_
            refine c_loop [7, 175, 176, 177, 178, 179, 180, 181, 182, 183, 184, 185, 186, 187, 188, 189, 190] (fun n2 (y : Nat × Nat × Nat × Nat × List Value) => y.1 + n2 = 4 ∧ 1 ≤ y.2.1 ∧ y.2.1 ≤ 4110 + 260 * y.1 ∧ y.2.2.2.2.length = y.2.1 ∧ y.2.1 ≤ y.2.2.2.1 ∧ U8 y.2.2.2.2) (fun y => [(7, .int .i64 (y.1 : Int))]) (fun y => [oB b21 y.2.2.1 y.2.1 y.2.2.2.1, ⟨y.2.2.1, 5, 1, y.2.2.2.1, y.2.2.2.2⟩, mB b1 g]) (4) ((0, n1, g1, cp1, cs1)) (⟨by omega, hm1, by simp only; omega, hl1, hc1, hu1⟩) (by repeat (first | exact trivial | refine ⟨rfl, ?_⟩)) (fun _ h => h.sub (by repeat (first | exact List.Sublist.refl _ | exact List.nil_sublist _ | apply List.Sublist.cons_cons | apply List.Sublist.cons))) (fun _ => rfl) ?_
            rintro n2 ⟨i, n1, g1, cp1, cs1⟩ j ⟨hi, hm1, hn1, hl1, hc1, hu1⟩ K hK
            simp only at hi hm1 hn1 hl1 hc1 hu1 ⊢
            refine c_seq ?_
            refine c_seq ?_
            -- ref.go:128 R37
            refine c_reg ?_
            refine s_y (Y_mv) rfl rfl ?_
            refine s_y (Y_lss rfl rfl) rfl rfl ?_
            refine s_nil ?_
            refine q_then ?_
            refine c_cond' rfl (fun h => ?_) (fun h => ?_)
            · skip
              refine c_skip ?_
              refine q_then ?_
              refine c_seq ?_
              refine c_block ?_
              refine c_seq ?_
              -- ref.go:129 R39
              refine c_reg ?_
              refine s_y (Y_mv) rfl rfl ?_
              refine s_y (Y_mv) rfl rfl ?_
              refine s_y (Y_fa 18 rfl Try.underlying42 rfl sz23 rfl) rfl rfl ?_
              refine s_y (Y_iaA rfl rfl Try.underlying23 sz3 rfl (by omega)) rfl rfl ?_
              refine s_y (Y_load (v := .int .i64 (g.firsts i)) rfl one3 (by repeat (first | exact List.Mem.head _ | assumption | apply List.Mem.tail | apply List.mem_append_right)) (by rcases (show i = 0 ∨ i = 1 ∨ i = 2 ∨ i = 3 by omega) with rfl | rfl | rfl | rfl <;> rfl)) rfl rfl ?_
              refine s_cm [oB b21 g1 n1 cp1, ⟨g1, 5, 1, cp1, cs1⟩] (En_call (fun _ => rfl) Try.func22 rfl (by kernel_rfl) rfl) (by repeat (first | exact Sels.nil | apply Sels.cons (by repeat (first | exact Sel.head | apply Sel.tail)))) (fun w hH => outnum_e (by have := G.firsts i (by omega); simpa only [P30] using this) (hH.at' (by repeat (first | exact List.Mem.head _ | assumption | apply List.Mem.tail | apply List.mem_append_right))) (hH.at' (by repeat (first | exact List.Mem.head _ | assumption | apply List.Mem.tail | apply List.mem_append_right))) (ne2 (oB b21 g1 n1 cp1) ⟨g1, 5, 1, cp1, cs1⟩ hH (by repeat (first | exact Sels.nil | apply Sels.cons (by repeat (first | exact Sel.head | apply Sel.tail))))) hl1 hc1 (by omega) hu1) rfl rfl ?_
              rintro _ _ ⟨rfl, n1, hm1, hn1, g1, cp1, cs1, hl1, hc1, hu1, rfl⟩
              refine s_nil ?_
              refine q_then ?_
              -- ref.go:130 R40
              refine c_reg ?_
              refine s_y (Y_mv) rfl rfl ?_
              refine s_y (Y_mv) rfl rfl ?_
              refine s_y (Y_fa 22 rfl Try.underlying42 rfl sz26 rfl) rfl rfl ?_
              refine s_y (Y_iaA rfl rfl Try.underlying26 sz24 rfl (by omega)) rfl rfl ?_
              refine s_y (Y_load (v := .slice (g.sa i) (g.sl i) (g.sc i)) rfl one24 (by repeat (first | exact List.Mem.head _ | assumption | apply List.Mem.tail | apply List.mem_append_right)) (by rcases (show i = 0 ∨ i = 1 ∨ i = 2 ∨ i = 3 by omega) with rfl | rfl | rfl | rfl <;> rfl)) rfl rfl ?_
              refine s_cm [oB b21 g1 n1 cp1, ⟨g1, 5, 1, cp1, cs1⟩] (En_call (fun _ => rfl) Try.func23 rfl (by kernel_rfl) rfl) (by repeat (first | exact Sels.nil | apply Sels.cons (by repeat (first | exact Sel.head | apply Sel.tail)))) (fun w hH => outrow_e ((MV.sts i (by omega)).ex hH.ex) (MV.sl i (by omega)) (G.seats i (by omega)) ((MV.sts i (by omega)).apart hH (x := oB b21 g1 n1 cp1) (y := ⟨g1, 5, 1, cp1, cs1⟩) (by repeat (first | exact List.Mem.head _ | assumption | apply List.Mem.tail | apply List.mem_append_right)) (by repeat (first | exact List.Mem.head _ | assumption | apply List.Mem.tail | apply List.mem_append_right))) (hH.at' (by repeat (first | exact List.Mem.head _ | assumption | apply List.Mem.tail | apply List.mem_append_right))) (hH.at' (by repeat (first | exact List.Mem.head _ | assumption | apply List.Mem.tail | apply List.mem_append_right))) (ne2 (oB b21 g1 n1 cp1) ⟨g1, 5, 1, cp1, cs1⟩ hH (by repeat (first | exact Sels.nil | apply Sels.cons (by repeat (first | exact Sel.head | apply Sel.tail))))) hl1 hc1 (by omega) hu1) rfl rfl ?_
              rintro _ _ ⟨rfl, n1, hm1, hn1, g1, cp1, cs1, hl1, hc1, hu1, rfl⟩
              refine s_nil ?_
              refine q_bn ?_
              refine q_then ?_
              -- ref.go:128 R38
              refine c_reg ?_
              refine s_y (Y_mv) rfl rfl ?_
              refine s_y ((by first | exact Y_add rfl rfl (by omega) | exact Y_addw rfl rfl)) rfl rfl ?_
              refine s_y (Y_as) rfl rfl ?_
              refine s_nil ?_
              refine hK (n2 - 1) (i + 1, n1, g1, cp1, cs1) _ _ (by omega) ⟨by simp only; omega, hm1, by simp only; omega, hl1, hc1, hu1⟩ ⟨rfl, trivial⟩ rfl (fun _ h => h)
            · skip
              refine c_exit ?_
              repeat with_reducible refine q_te ?_
              refine q_exit ?_
              refine q_then ?_
              -- ref.go:132 R41
              refine c_reg ?_
              refine s_y (Y_mv) rfl rfl ?_
              refine s_y (Y_fa 26 rfl Try.underlying42 rfl sz3 rfl) rfl rfl ?_
              refine s_y ((by first | exact Y_load rfl one3 (by repeat (first | exact List.Mem.head _ | assumption | apply List.Mem.tail | apply List.mem_append_right)) (by rfl) | exact Y_load rfl one3 (by repeat (first | exact List.Mem.head _ | assumption | apply List.Mem.tail | apply List.mem_append_right)) (by assumption) | exact Y_loadR rfl one3 (by assumption) rfl (by assumption))) rfl rfl ?_
              refine s_cm [oB b21 g1 n1 cp1, ⟨g1, 5, 1, cp1, cs1⟩] (En_call (fun _ => rfl) Try.func22 rfl (by kernel_rfl) rfl) (by repeat (first | exact Sels.nil | apply Sels.cons (by repeat (first | exact Sel.head | apply Sel.tail)))) (fun w hH => outnum_e hac (hH.at' (by repeat (first | exact List.Mem.head _ | assumption | apply List.Mem.tail | apply List.mem_append_right))) (hH.at' (by repeat (first | exact List.Mem.head _ | assumption | apply List.Mem.tail | apply List.mem_append_right))) (ne2 (oB b21 g1 n1 cp1) ⟨g1, 5, 1, cp1, cs1⟩ hH (by repeat (first | exact Sels.nil | apply Sels.cons (by repeat (first | exact Sel.head | apply Sel.tail))))) hl1 hc1 (by omega) hu1) rfl rfl ?_
              rintro _ _ ⟨rfl, n1, hm1, hn1, g1, cp1, cs1, hl1, hc1, hu1, rfl⟩
              refine s_nil ?_
              refine q_bn ?_
              refine q_then ?_
              refine c_seq ?_
              refine c_seq ?_
              -- ref.go:142 R49
              refine c_reg ?_
              refine s_y (Y_mv) rfl rfl ?_
              refine s_y ((by first | exact Y_nil rfl | exact Y_nilF rfl | exact Y_nilM rfl (by assumption) | exact Y_nilM rfl (by intro w k; kernel_rfl))) rfl rfl ?_
              refine s_y (Y_fa 1 rfl Try.underlying61 rfl sz4 rfl) rfl rfl ?_
              refine s_y ((by first | exact Y_load rfl one4 (by repeat (first | exact List.Mem.head _ | assumption | apply List.Mem.tail | apply List.mem_append_right)) (by rfl) | exact Y_load rfl one4 (by repeat (first | exact List.Mem.head _ | assumption | apply List.Mem.tail | apply List.mem_append_right)) (by assumption) | exact Y_loadR rfl one4 (by assumption) rfl (by assumption))) rfl rfl ?_
              refine s_nil ?_
              refine q_then ?_
              refine c_F rfl ((by rfl)) ?_
              refine c_skip ?_
              refine q_then ?_
              refine c_seq ?_
              -- ref.go:145 R51
              refine c_reg ?_
              refine s_y (Y_mv) rfl rfl ?_
              refine s_y ((by first | exact Y_nil rfl | exact Y_nilF rfl | exact Y_nilM rfl (by assumption) | exact Y_nilM rfl (by intro w k; kernel_rfl))) rfl rfl ?_
              refine s_y (Y_fa 0 rfl Try.underlying61 rfl sz27 rfl) rfl rfl ?_
              refine s_y ((by first | exact Y_load rfl one27 (by repeat (first | exact List.Mem.head _ | assumption | apply List.Mem.tail | apply List.mem_append_right)) (by rfl) | exact Y_load rfl one27 (by repeat (first | exact List.Mem.head _ | assumption | apply List.Mem.tail | apply List.mem_append_right)) (by assumption) | exact Y_loadR rfl one27 (by assumption) rfl (by assumption))) rfl rfl ?_
              refine s_y (Y_as) rfl rfl ?_
              refine s_y (Y_asC) rfl rfl ?_
              refine s_nil ?_
              refine q_then ?_
              refine c_ret ?_
              obtain ⟨xs, rfl⟩ := U8.bytes hu1
              rw [List.length_map] at hl1
              refine q_ret2 rfl rfl rfl (L' := [⟨g1, 5, 1, cp1, xs.map bv⟩]) (by repeat (first | exact List.Sublist.refl _ | exact List.nil_sublist _ | apply List.Sublist.cons_cons | apply List.Sublist.cons)) ⟨xs, g1, cp1, by omega, by omega, by omega, by rw [hl1]; rfl, rfl⟩
        · skip
          -- ref.go:117 R26
          refine c_reg ?_
          refine s_y (Y_mv) rfl rfl ?_
          refine s_y (Y_fa 14 rfl Try.underlying42 rfl sz3 rfl) rfl rfl ?_
          refine s_y ((by first | exact Y_load rfl one3 (by repeat (first | exact List.Mem.head _ | assumption | apply List.Mem.tail | apply List.mem_append_right)) (by rfl) | exact Y_load rfl one3 (by repeat (first | exact List.Mem.head _ | assumption | apply List.Mem.tail | apply List.mem_append_right)) (by assumption) | exact Y_loadR rfl one3 (by assumption) rfl (by assumption))) rfl rfl ?_
          refine s_cm [oB b21 g1 n1 cp1, ⟨g1, 5, 1, cp1, cs1⟩] (En_call (fun _ => rfl) Try.func24 rfl (by kernel_rfl) rfl) (by repeat (first | exact Sels.nil | apply Sels.cons (by repeat (first | exact Sel.head | apply Sel.tail)))) (fun w hH => outsmall_e (by omega) (hH.at' (by repeat (first | exact List.Mem.head _ | assumption | apply List.Mem.tail | apply List.mem_append_right))) (hH.at' (by repeat (first | exact List.Mem.head _ | assumption | apply List.Mem.tail | apply List.mem_append_right))) (ne2 (oB b21 g1 n1 cp1) ⟨g1, 5, 1, cp1, cs1⟩ hH (by repeat (first | exact Sels.nil | apply Sels.cons (by repeat (first | exact Sel.head | apply Sel.tail))))) hl1 hc1 (by omega) hu1) rfl rfl ?_
          rintro _ _ ⟨rfl, n1, hm1, hn1, g1, cp1, cs1, hl1, hc1, hu1, rfl⟩
          refine s_nil ?_
          refine q_then ?_
          refine c_seq ?_
          -- ref.go:119 R27
          refine c_reg ?_
          refine s_y (Y_mv) rfl rfl ?_
          refine s_y (Y_fa 15 rfl Try.underlying42 rfl sz3 rfl) rfl rfl ?_
          refine s_y ((by first | exact Y_load rfl one3 (by repeat (first | exact List.Mem.head _ | assumption | apply List.Mem.tail | apply List.mem_append_right)) (by rfl) | exact Y_load rfl one3 (by repeat (first | exact List.Mem.head _ | assumption | apply List.Mem.tail | apply List.mem_append_right)) (by assumption) | exact Y_loadR rfl one3 (by assumption) rfl (by assumption))) rfl rfl ?_
          refine s_cm [oB b21 g1 n1 cp1, ⟨g1, 5, 1, cp1, cs1⟩] (En_call (fun _ => rfl) Try.func22 rfl (by kernel_rfl) rfl) (by repeat (first | exact Sels.nil | apply Sels.cons (by repeat (first | exact Sel.head | apply Sel.tail)))) (fun w hH => outnum_e hba (hH.at' (by repeat (first | exact List.Mem.head _ | assumption | apply List.Mem.tail | apply List.mem_append_right))) (hH.at' (by repeat (first | exact List.Mem.head _ | assumption | apply List.Mem.tail | apply List.mem_append_right))) (ne2 (oB b21 g1 n1 cp1) ⟨g1, 5, 1, cp1, cs1⟩ hH (by repeat (first | exact Sels.nil | apply Sels.cons (by repeat (first | exact Sel.head | apply Sel.tail))))) hl1 hc1 (by omega) hu1) rfl rfl ?_
          rintro _ _ ⟨rfl, n1, hm1, hn1, g1, cp1, cs1, hl1, hc1, hu1, rfl⟩
          refine s_nil ?_
          refine q_then ?_
          refine c_seq ?_
          -- ref.go:120 R28
          refine c_reg ?_
          refine s_y (Y_mv) rfl rfl ?_
          refine s_y (Y_fa 16 rfl Try.underlying42 rfl sz3 rfl) rfl rfl ?_
          refine s_y ((by first | exact Y_load rfl one3 (by repeat (first | exact List.Mem.head _ | assumption | apply List.Mem.tail | apply List.mem_append_right)) (by rfl) | exact Y_load rfl one3 (by repeat (first | exact List.Mem.head _ | assumption | apply List.Mem.tail | apply List.mem_append_right)) (by assumption) | exact Y_loadR rfl one3 (by assumption) rfl (by assumption))) rfl rfl ?_
          refine s_cm [oB b21 g1 n1 cp1, ⟨g1, 5, 1, cp1, cs1⟩] (En_call (fun _ => rfl) Try.func22 rfl (by kernel_rfl) rfl) (by repeat (first | exact Sels.nil | apply Sels.cons (by repeat (first | exact Sel.head | apply Sel.tail)))) (fun w hH => outnum_e hfr (hH.at' (by repeat (first | exact List.Mem.head _ | assumption | apply List.Mem.tail | apply List.mem_append_right))) (hH.at' (by repeat (first | exact List.Mem.head _ | assumption | apply List.Mem.tail | apply List.mem_append_right))) (ne2 (oB b21 g1 n1 cp1) ⟨g1, 5, 1, cp1, cs1⟩ hH (by repeat (first | exact Sels.nil | apply Sels.cons (by repeat (first | exact Sel.head | apply Sel.tail))))) hl1 hc1 (by omega) hu1) rfl rfl ?_
          rintro _ _ ⟨rfl, n1, hm1, hn1, g1, cp1, cs1, hl1, hc1, hu1, rfl⟩
          refine s_nil ?_
          refine q_then ?_
          refine c_seq ?_
          refine c_seq ?_
          -- ref.go:121 R29
          refine c_reg ?_
          refine s_y (Y_fa 17 rfl Try.underlying42 rfl sz25 rfl) rfl rfl ?_
          refine s_y ((by first | exact Y_load rfl one25 (by repeat (first | exact List.Mem.head _ | assumption | apply List.Mem.tail | apply List.mem_append_right)) (by rfl) | exact Y_load rfl one25 (by repeat (first | exact List.Mem.head _ | assumption | apply List.Mem.tail | apply List.mem_append_right)) (by assumption) | exact Y_loadR rfl one25 (by assumption) rfl (by assumption))) rfl rfl ?_
          refine s_y (Y_len rfl rfl Try.underlying25) rfl rfl ?_
          refine s_y (Y_gtr rfl rfl) rfl rfl ?_
          refine s_nil ?_
          refine q_then ?_
          refine c_F rfl ((by simp; omega)) ?_
          refine c_skip ?_
          refine q_then ?_
          refine c_seq ?_
          -- ref.go:124 R31
          refine c_rordS (L0 := [oB b21 g1 n1 cp1, mB b1 g]) (by repeat (first | exact List.Sublist.refl _ | exact List.nil_sublist _ | apply List.Sublist.cons_cons | apply List.Sublist.cons)) [18] [(0, true), (1, true), (2, true), (3, true), (4, true), (5, true), (6, true), (7, true), (8, true), (9, true), (10, true), (11, true), (12, true), (13, true), (14, false), (15, false), (16, true), (17, true), (18, false)] (by kernel_rfl) (by kernel_rfl) (by kernel_rfl) (by kernel_rfl) rfl (by intro c a d v w h; cases d <;> exact h) rfl ?_
          simp only [mkOrd, List.filterMap_cons, List.filterMap_nil, List.getElem?_toArray, List.getElem?_cons_zero, List.getElem?_cons_succ, Option.map_some]
          refine o_y (Y_mv) rfl rfl ?_
          refine o_y (Y_mv) rfl rfl ?_
          refine o_y ((by first | exact Y_nil rfl | exact Y_nilF rfl | exact Y_nilM rfl (by assumption) | exact Y_nilM rfl (by intro w k; kernel_rfl))) rfl rfl ?_
          refine o_y (Y_fa 0 rfl Try.underlying61 rfl sz27 rfl) rfl rfl ?_
          refine o_y ((by first | exact Y_load rfl one27 (by repeat (first | exact List.Mem.head _ | assumption | apply List.Mem.tail | apply List.mem_append_right)) (by rfl) | exact Y_load rfl one27 (by repeat (first | exact List.Mem.head _ | assumption | apply List.Mem.tail | apply List.mem_append_right)) (by assumption) | exact Y_loadR rfl one27 (by assumption) rfl (by assumption))) rfl rfl ?_
          refine o_y (Y_fa 17 rfl Try.underlying42 rfl sz25 rfl) rfl rfl ?_
          refine o_y ((by first | exact Y_load rfl one25 (by repeat (first | exact List.Mem.head _ | assumption | apply List.Mem.tail | apply List.mem_append_right)) (by rfl) | exact Y_load rfl one25 (by repeat (first | exact List.Mem.head _ | assumption | apply List.Mem.tail | apply List.mem_append_right)) (by assumption) | exact Y_loadR rfl one25 (by assumption) rfl (by assumption))) rfl rfl ?_
          refine o_y (Y_len rfl rfl Try.underlying25) rfl rfl ?_
          refine o_y (Y_shr rfl rfl (by omega)) rfl rfl ?_
          refine o_y (Y_convw rfl Try.underlying3 Try.underlying5) rfl rfl ?_
          refine o_y (Y_fa 17 rfl Try.underlying42 rfl sz25 rfl) rfl rfl ?_
          refine o_y ((by first | exact Y_load rfl one25 (by repeat (first | exact List.Mem.head _ | assumption | apply List.Mem.tail | apply List.mem_append_right)) (by rfl) | exact Y_load rfl one25 (by repeat (first | exact List.Mem.head _ | assumption | apply List.Mem.tail | apply List.mem_append_right)) (by assumption) | exact Y_loadR rfl one25 (by assumption) rfl (by assumption))) rfl rfl ?_
          refine o_y (Y_len rfl rfl Try.underlying25) rfl rfl ?_
          refine o_y (Y_convw rfl Try.underlying3 Try.underlying5) rfl rfl ?_
          refine o_n (N_bs (xs := [.tmp 152, .tmp 156]) (by repeat (first | exact Gv.nil | apply Gv.const | apply Gv.tmp (by repeat (first | exact Gt.here | apply Gt.there (by rfl) | exact Gt.base (by rfl))))) rfl Try.underlying27 inf5 rfl (by omega) (by omega) (by first | simp [Value.oneCell'] | (intro v hv; simp at hv; subst hv; rfl))) (fun _ => (by first | exact keep_no rfl | exact keep_sub (by repeat (first | exact List.Sublist.refl _ | exact List.nil_sublist _ | apply List.Sublist.cons_cons | apply List.Sublist.cons)))) rfl rfl (fun b157 _ => ?_)
          refine o_n (N_app rfl rfl Try.underlying27 inf5 rfl (by omega) (by repeat (first | exact Sel.head | apply Sel.tail)) (by first | omega | rfl | (simp; omega)) (by omega) (src (by repeat (first | exact List.Mem.head _ | assumption | apply List.Mem.tail | apply List.mem_append_right))) (by rfl) (by simp [Value.oneCell']) (by omega) (by omega)) (fun _ => (by first | exact keep_no rfl | exact keep_sub (by repeat (first | exact List.Sublist.refl _ | exact List.nil_sublist _ | apply List.Sublist.cons_cons | apply List.Sublist.cons)))) rfl rfl (fun ⟨g158, cp158⟩ hc158 => ?_)
          refine o_y ((by first | exact Y_nil rfl | exact Y_nilF rfl | exact Y_nilM rfl (by assumption) | exact Y_nilM rfl (by intro w k; kernel_rfl))) rfl rfl ?_
          refine o_y (Y_fa 0 rfl Try.underlying61 rfl sz27 rfl) rfl rfl ?_
          refine o_s (S_st rfl (by repeat (first | exact Gt.here | apply Gt.there (by rfl) | exact Gt.base (by rfl))) sz27 (by rfl) (by repeat (first | exact Upd.head | apply Upd.tail)) (by first | (simp only [Nat.zero_add, Nat.reduceAdd, List.set_cons_succ, List.set_cons_zero]; rfl) | rfl) (by first | (simp; done) | omega)) (by first | exact keep_no rfl | exact keep_sub (by repeat (first | exact List.Sublist.refl _ | exact List.nil_sublist _ | apply List.Sublist.cons_cons | apply List.Sublist.cons))) rfl ?_
          refine o_nil ?_
          refine QL.pick (L' := [oB b21 g158 (n1 + 2) cp158, ⟨g158, 5, 1, cp158, _⟩, mB b1 g]) (by repeat (first | exact Sels.nil | apply Sels.cons (by repeat (first | exact Sel.head | apply Sel.tail)))) ?_
          refine QL.pk (by simp [hl1]) (by omega) (hu1.app ?_) (fun n1 g1 cp1 cs1 hn1 hl1 hc1 hu1 => ?_)
          · intro u h
            simp only [List.mem_cons, List.not_mem_nil, or_false] at h
            rcases h with rfl | rfl <;> exact u8_any _
          have hm1 : 1 ≤ n1 := by omega
          refine q_then ?_
          refine c_seq ?_
          refine c_seq ?_
          -- ref.go:125 R32
          refine c_reg ?_
          refine s_y (Y_asC) rfl rfl ?_
          refine s_nil ?_
          refine q_then ?_
          refine c_block ?_
          refine c_loop [6, 161, 162, 163, 164, 165, 166, 167, 168, 169, 170, 171, 172, 173, 174] (fun n2 (y : Nat × Nat × Nat × Nat × List Value) => y.1 + n2 = g.rl ∧ 1 ≤ y.2.1 ∧ y.2.1 ≤ 100 + 10 * y.1 ∧ y.2.2.2.2.length = y.2.1 ∧ y.2.1 ≤ y.2.2.2.1 ∧ U8 y.2.2.2.2) (fun y => [(6, .int .i64 (y.1 : Int))]) (fun y => [oB b21 y.2.2.1 y.2.1 y.2.2.2.1, ⟨y.2.2.1, 5, 1, y.2.2.2.1, y.2.2.2.2⟩, mB b1 g]) (g.rl) ((0, n1, g1, cp1, cs1)) (⟨by omega, hm1, by simp only; omega, hl1, hc1, hu1⟩) (by repeat (first | exact trivial | refine ⟨rfl, ?_⟩)) (fun _ h => h.sub (by repeat (first | exact List.Sublist.refl _ | exact List.nil_sublist _ | apply List.Sublist.cons_cons | apply List.Sublist.cons))) (fun _ => rfl) ?_
          rintro n2 ⟨i, n1, g1, cp1, cs1⟩ j ⟨hi, hm1, hn1, hl1, hc1, hu1⟩ K hK
          simp only at hi hm1 hn1 hl1 hc1 hu1 ⊢
          refine c_seq ?_
          refine c_seq ?_
          -- ref.go:125 R33
          refine c_reg ?_
          refine s_y (Y_mv) rfl rfl ?_
          refine s_y (Y_fa 17 rfl Try.underlying42 rfl sz25 rfl) rfl rfl ?_
          refine s_y ((by first | exact Y_load rfl one25 (by repeat (first | exact List.Mem.head _ | assumption | apply List.Mem.tail | apply List.mem_append_right)) (by rfl) | exact Y_load rfl one25 (by repeat (first | exact List.Mem.head _ | assumption | apply List.Mem.tail | apply List.mem_append_right)) (by assumption) | exact Y_loadR rfl one25 (by assumption) rfl (by assumption))) rfl rfl ?_
          refine s_y (Y_len rfl rfl Try.underlying25) rfl rfl ?_
          refine s_y (Y_lss rfl rfl) rfl rfl ?_
          refine s_nil ?_
          refine q_then ?_
          refine c_cond' rfl (fun h => ?_) (fun h => ?_)
          · skip
            refine c_skip ?_
            refine q_then ?_
            refine c_seq ?_
            refine c_block ?_
            -- ref.go:126 R35
            obtain ⟨r, hr1, hr2⟩ : ∃ r, g.stream[i]? = some r ∧ r ∈ g.stream := ⟨g.stream[i]'(by omega), by simp, List.getElem_mem _⟩
            obtain ⟨bb, ob, hra, hrr⟩ := MV.str.at' hr1
            refine c_reg ?_
            refine s_y (Y_mv) rfl rfl ?_
            refine s_y (Y_fa 17 rfl Try.underlying42 rfl sz25 rfl) rfl rfl ?_
            refine s_y ((by first | exact Y_load rfl one25 (by repeat (first | exact List.Mem.head _ | assumption | apply List.Mem.tail | apply List.mem_append_right)) (by rfl) | exact Y_load rfl one25 (by repeat (first | exact List.Mem.head _ | assumption | apply List.Mem.tail | apply List.mem_append_right)) (by assumption) | exact Y_loadR rfl one25 (by assumption) rfl (by assumption))) rfl rfl ?_
            refine s_y (Y_mv) rfl rfl ?_
            refine s_y (Y_ia (b' := bb) (off := ob) (len := g.rl) (cap := g.rc) (by rw [← hra]; rfl) rfl Try.underlying25 sz37 rfl (by omega)) rfl rfl ?_
            refine s_y (Y_loadNR (vs := r.cells) rfl many37 hrr rfl) rfl rfl ?_
            refine s_cm [oB b21 g1 n1 cp1, ⟨g1, 5, 1, cp1, cs1⟩] (En_call (fun _ => rfl) Try.func25 rfl (by kernel_rfl) rfl) (by repeat (first | exact Sels.nil | apply Sels.cons (by repeat (first | exact Sel.head | apply Sel.tail)))) (fun w hH => outrec_e (r := r) (by have := G.stream.2 r hr2; simp only [P30] at this; omega) (hH.at' (by repeat (first | exact List.Mem.head _ | assumption | apply List.Mem.tail | apply List.mem_append_right))) (hH.at' (by repeat (first | exact List.Mem.head _ | assumption | apply List.Mem.tail | apply List.mem_append_right))) (ne2 (oB b21 g1 n1 cp1) ⟨g1, 5, 1, cp1, cs1⟩ hH (by repeat (first | exact Sels.nil | apply Sels.cons (by repeat (first | exact Sel.head | apply Sel.tail))))) hl1 hc1 (by omega) hm1 hu1) rfl rfl ?_
            rintro _ _ ⟨rfl, n1, hm1, hn1, g1, cp1, cs1, hl1, hc1, hu1, rfl⟩
            refine s_nil ?_
            refine q_bn ?_
            refine q_then ?_
            -- ref.go:125 R34
            refine c_reg ?_
            refine s_y (Y_mv) rfl rfl ?_
            refine s_y ((by first | exact Y_add rfl rfl (by omega) | exact Y_addw rfl rfl)) rfl rfl ?_
            refine s_y (Y_as) rfl rfl ?_
            refine s_nil ?_
            refine hK (n2 - 1) (i + 1, n1, g1, cp1, cs1) _ _ (by omega) ⟨by simp only; omega, hm1, by simp only; omega, hl1, hc1, hu1⟩ ⟨rfl, trivial⟩ rfl (fun _ h => h)
          · skip
            refine c_exit ?_
            repeat with_reducible refine q_te ?_
            refine q_exit ?_
            refine q_then ?_
            refine c_seq ?_
            refine c_seq ?_
            -- ref.go:128 R36
            refine c_reg ?_
            refine s_y (Y_asC) rfl rfl ?_
            refine s_nil ?_
            refine q_then ?_
            refine c_block ?_
            refine c_loop [7, 175, 176, 177, 178, 179, 180, 181, 182, 183, 184, 185, 186, 187, 188, 189, 190] (fun n2 (y : Nat × Nat × Nat × Nat × List Value) => y.1 + n2 = 4 ∧ 1 ≤ y.2.1 ∧ y.2.1 ≤ 4110 + 260 * y.1 ∧ y.2.2.2.2.length = y.2.1 ∧ y.2.1 ≤ y.2.2.2.1 ∧ U8 y.2.2.2.2) (fun y => [(7, .int .i64 (y.1 : Int))]) (fun y => [oB b21 y.2.2.1 y.2.1 y.2.2.2.1, ⟨y.2.2.1, 5, 1, y.2.2.2.1, y.2.2.2.2⟩, mB b1 g]) (4) ((0, n1, g1, cp1, cs1)) (⟨by omega, hm1, by simp only; omega, hl1, hc1, hu1⟩) (by repeat (first | exact trivial | refine ⟨rfl, ?_⟩)) (fun _ h => h.sub (by repeat (first | exact List.Sublist.refl _ | exact List.nil_sublist _ | apply List.Sublist.cons_cons | apply List.Sublist.cons))) (fun _ => rfl) ?_
            rintro n2 ⟨i, n1, g1, cp1, cs1⟩ j ⟨hi, hm1, hn1, hl1, hc1, hu1⟩ K hK
            simp only at hi hm1 hn1 hl1 hc1 hu1 ⊢
            refine c_seq ?_
            refine c_seq ?_
            -- ref.go:128 R37
            refine c_reg ?_
            refine s_y (Y_mv) rfl rfl ?_
            refine s_y (Y_lss rfl rfl) rfl rfl ?_
            refine s_nil ?_
            refine q_then ?_
            refine c_cond' rfl (fun h => ?_) (fun h => ?_)
            · skip
              refine c_skip ?_
              refine q_then ?_
              refine c_seq ?_
              refine c_block ?_
              refine c_seq ?_
              -- ref.go:129 R39
              refine c_reg ?_
              refine s_y (Y_mv) rfl rfl ?_
              refine s_y (Y_mv) rfl rfl ?_
              refine s_y (Y_fa 18 rfl Try.underlying42 rfl sz23 rfl) rfl rfl ?_
              refine s_y (Y_iaA rfl rfl Try.underlying23 sz3 rfl (by omega)) rfl rfl ?_
              refine s_y (Y_load (v := .int .i64 (g.firsts i)) rfl one3 (by repeat (first | exact List.Mem.head _ | assumption | apply List.Mem.tail | apply List.mem_append_right)) (by rcases (show i = 0 ∨ i = 1 ∨ i = 2 ∨ i = 3 by omega) with rfl | rfl | rfl | rfl <;> rfl)) rfl rfl ?_
              refine s_cm [oB b21 g1 n1 cp1, ⟨g1, 5, 1, cp1, cs1⟩] (En_call (fun _ => rfl) Try.func22 rfl (by kernel_rfl) rfl) (by repeat (first | exact Sels.nil | apply Sels.cons (by repeat (first | exact Sel.head | apply Sel.tail)))) (fun w hH => outnum_e (by have := G.firsts i (by omega); simpa only [P30] using this) (hH.at' (by repeat (first | exact List.Mem.head _ | assumption | apply List.Mem.tail | apply List.mem_append_right))) (hH.at' (by repeat (first | exact List.Mem.head _ | assumption | apply List.Mem.tail | apply List.mem_append_right))) (ne2 (oB b21 g1 n1 cp1) ⟨g1, 5, 1, cp1, cs1⟩ hH (by repeat (first | exact Sels.nil | apply Sels.cons (by repeat (first | exact Sel.head | apply Sel.tail))))) hl1 hc1 (by omega) hu1) rfl rfl ?_
              rintro _ _ ⟨rfl, n1, hm1, hn1, g1, cp1, cs1, hl1, hc1, hu1, rfl⟩
              refine s_nil ?_
              refine q_then ?_
              -- ref.go:130 R40
              refine c_reg ?_
              refine s_y (Y_mv) rfl rfl ?_
              refine s_y (Y_mv) rfl rfl ?_
              refine s_y (Y_fa 22 rfl Try.underlying42 rfl sz26 rfl) rfl rfl ?_
              refine s_y (Y_iaA rfl rfl Try.underlying26 sz24 rfl (by omega)) rfl rfl ?_
              refine s_y (Y_load (v := .slice (g.sa i) (g.sl i) (g.sc i)) rfl one24 (by repeat (first | exact List.Mem.head _ | assumption | apply List.Mem.tail | apply List.mem_append_right)) (by rcases (show i = 0 ∨ i = 1 ∨ i = 2 ∨ i = 3 by omega) with rfl | rfl | rfl | rfl <;> rfl)) rfl rfl ?_
              refine s_cm [oB b21 g1 n1 cp1, ⟨g1, 5, 1, cp1, cs1⟩] (En_call (fun _ => rfl) Try.func23 rfl (by kernel_rfl) rfl) (by repeat (first | exact Sels.nil | apply Sels.cons (by repeat (first | exact Sel.head | apply Sel.tail)))) (fun w hH => outrow_e ((MV.sts i (by omega)).ex hH.ex) (MV.sl i (by omega)) (G.seats i (by omega)) ((MV.sts i (by omega)).apart hH (x := oB b21 g1 n1 cp1) (y := ⟨g1, 5, 1, cp1, cs1⟩) (by repeat (first | exact List.Mem.head _ | assumption | apply List.Mem.tail | apply List.mem_append_right)) (by repeat (first | exact List.Mem.head _ | assumption | apply List.Mem.tail | apply List.mem_append_right))) (hH.at' (by repeat (first | exact List.Mem.head _ | assumption | apply List.Mem.tail | apply List.mem_append_right))) (hH.at' (by repeat (first | exact List.Mem.head _ | assumption | apply List.Mem.tail | apply List.mem_append_right))) (ne2 (oB b21 g1 n1 cp1) ⟨g1, 5, 1, cp1, cs1⟩ hH (by repeat (first | exact Sels.nil | apply Sels.cons (by repeat (first | exact Sel.head | apply Sel.tail))))) hl1 hc1 (by omega) hu1) rfl rfl ?_
              rintro _ _ ⟨rfl, n1, hm1, hn1, g1, cp1, cs1, hl1, hc1, hu1, rfl⟩
              refine s_nil ?_
              refine q_bn ?_
              refine q_then ?_
              -- ref.go:128 R38
              refine c_reg ?_
              refine s_y (Y_mv) rfl rfl ?_
              refine s_y ((by first | exact Y_add rfl rfl (by omega) | exact Y_addw rfl rfl)) rfl rfl ?_
              refine s_y (Y_as) rfl rfl ?_
              refine s_nil ?_
              refine hK (n2 - 1) (i + 1, n1, g1, cp1, cs1) _ _ (by omega) ⟨by simp only; omega, hm1, by simp only; omega, hl1, hc1, hu1⟩ ⟨rfl, trivial⟩ rfl (fun _ h => h)
            · skip
              refine c_exit ?_
              repeat with_reducible refine q_te ?_
              refine q_exit ?_
              refine q_then ?_
              -- ref.go:132 R41
              refine c_reg ?_
              refine s_y (Y_mv) rfl rfl ?_
              refine s_y (Y_fa 26 rfl Try.underlying42 rfl sz3 rfl) rfl rfl ?_
              refine s_y ((by first | exact Y_load rfl one3 (by repeat (first | exact List.Mem.head _ | assumption | apply List.Mem.tail | apply List.mem_append_right)) (by rfl) | exact Y_load rfl one3 (by repeat (first | exact List.Mem.head _ | assumption | apply List.Mem.tail | apply List.mem_append_right)) (by assumption) | exact Y_loadR rfl one3 (by assumption) rfl (by assumption))) rfl rfl ?_
              refine s_cm [oB b21 g1 n1 cp1, ⟨g1, 5, 1, cp1, cs1⟩] (En_call (fun _ => rfl) Try.func22 rfl (by kernel_rfl) rfl) (by repeat (first | exact Sels.nil | apply Sels.cons (by repeat (first | exact Sel.head | apply Sel.tail)))) (fun w hH => outnum_e hac (hH.at' (by repeat (first | exact List.Mem.head _ | assumption | apply List.Mem.tail | apply List.mem_append_right))) (hH.at' (by repeat (first | exact List.Mem.head _ | assumption | apply List.Mem.tail | apply List.mem_append_right))) (ne2 (oB b21 g1 n1 cp1) ⟨g1, 5, 1, cp1, cs1⟩ hH (by repeat (first | exact Sels.nil | apply Sels.cons (by repeat (first | exact Sel.head | apply Sel.tail))))) hl1 hc1 (by omega) hu1) rfl rfl ?_
              rintro _ _ ⟨rfl, n1, hm1, hn1, g1, cp1, cs1, hl1, hc1, hu1, rfl⟩
              refine s_nil ?_
              refine q_bn ?_
              refine q_then ?_
              refine c_seq ?_
              refine c_seq ?_
              -- ref.go:142 R49
              refine c_reg ?_
              refine s_y (Y_mv) rfl rfl ?_
              refine s_y ((by first | exact Y_nil rfl | exact Y_nilF rfl | exact Y_nilM rfl (by assumption) | exact Y_nilM rfl (by intro w k; kernel_rfl))) rfl rfl ?_
              refine s_y (Y_fa 1 rfl Try.underlying61 rfl sz4 rfl) rfl rfl ?_
              refine s_y ((by first | exact Y_load rfl one4 (by repeat (first | exact List.Mem.head _ | assumption | apply List.Mem.tail | apply List.mem_append_right)) (by rfl) | exact Y_load rfl one4 (by repeat (first | exact List.Mem.head _ | assumption | apply List.Mem.tail | apply List.mem_append_right)) (by assumption) | exact Y_loadR rfl one4 (by assumption) rfl (by assumption))) rfl rfl ?_
              refine s_nil ?_
              refine q_then ?_
              refine c_F rfl ((by rfl)) ?_
              refine c_skip ?_
              refine q_then ?_
              refine c_seq ?_
              -- ref.go:145 R51
              refine c_reg ?_
              refine s_y (Y_mv) rfl rfl ?_
              refine s_y ((by first | exact Y_nil rfl | exact Y_nilF rfl | exact Y_nilM rfl (by assumption) | exact Y_nilM rfl (by intro w k; kernel_rfl))) rfl rfl ?_
              refine s_y (Y_fa 0 rfl Try.underlying61 rfl sz27 rfl) rfl rfl ?_
              refine s_y ((by first | exact Y_load rfl one27 (by repeat (first | exact List.Mem.head _ | assumption | apply List.Mem.tail | apply List.mem_append_right)) (by rfl) | exact Y_load rfl one27 (by repeat (first | exact List.Mem.head _ | assumption | apply List.Mem.tail | apply List.mem_append_right)) (by assumption) | exact Y_loadR rfl one27 (by assumption) rfl (by assumption))) rfl rfl ?_
              refine s_y (Y_as) rfl rfl ?_
              refine s_y (Y_asC) rfl rfl ?_
              refine s_nil ?_
              refine q_then ?_
              refine c_ret ?_
              obtain ⟨xs, rfl⟩ := U8.bytes hu1
              rw [List.length_map] at hl1
              refine q_ret2 rfl rfl rfl (L' := [⟨g1, 5, 1, cp1, xs.map bv⟩]) (by repeat (first | exact List.Sublist.refl _ | exact List.nil_sublist _ | apply List.Sublist.cons_cons | apply List.Sublist.cons)) ⟨xs, g1, cp1, by omega, by omega, by omega, by rw [hl1]; rfl, rfl⟩
      · skip
        refine c_seq ?_
        -- ref.go:133 R42
        refine c_reg ?_
        refine s_y (Y_eql rfl rfl) rfl rfl ?_
        refine s_y (Y_as) rfl rfl ?_
        refine s_nil ?_
        refine q_then ?_
        refine c_T rfl ((by simp; omega)) ?_
        refine c_seq ?_
        -- ref.go:134 R43
        refine c_reg ?_
        refine s_y (Y_mv) rfl rfl ?_
        refine s_y (Y_fa 15 rfl Try.underlying42 rfl sz3 rfl) rfl rfl ?_
        refine s_y ((by first | exact Y_load rfl one3 (by repeat (first | exact List.Mem.head _ | assumption | apply List.Mem.tail | apply List.mem_append_right)) (by rfl) | exact Y_load rfl one3 (by repeat (first | exact List.Mem.head _ | assumption | apply List.Mem.tail | apply List.mem_append_right)) (by assumption) | exact Y_loadR rfl one3 (by assumption) rfl (by assumption))) rfl rfl ?_
        refine s_cm [oB b21 g1 n1 cp1, ⟨g1, 5, 1, cp1, cs1⟩] (En_call (fun _ => rfl) Try.func22 rfl (by kernel_rfl) rfl) (by repeat (first | exact Sels.nil | apply Sels.cons (by repeat (first | exact Sel.head | apply Sel.tail)))) (fun w hH => outnum_e hba (hH.at' (by repeat (first | exact List.Mem.head _ | assumption | apply List.Mem.tail | apply List.mem_append_right))) (hH.at' (by repeat (first | exact List.Mem.head _ | assumption | apply List.Mem.tail | apply List.mem_append_right))) (ne2 (oB b21 g1 n1 cp1) ⟨g1, 5, 1, cp1, cs1⟩ hH (by repeat (first | exact Sels.nil | apply Sels.cons (by repeat (first | exact Sel.head | apply Sel.tail))))) hl1 hc1 (by omega) hu1) rfl rfl ?_
        rintro _ _ ⟨rfl, n1, hm1, hn1, g1, cp1, cs1, hl1, hc1, hu1, rfl⟩
        refine s_nil ?_
        refine q_then ?_
        refine c_seq ?_
        -- ref.go:135 R44
        refine c_reg ?_
        refine s_y (Y_mv) rfl rfl ?_
        refine s_y (Y_fa 27 rfl Try.underlying42 rfl sz3 rfl) rfl rfl ?_
        refine s_y ((by first | exact Y_load rfl one3 (by repeat (first | exact List.Mem.head _ | assumption | apply List.Mem.tail | apply List.mem_append_right)) (by rfl) | exact Y_load rfl one3 (by repeat (first | exact List.Mem.head _ | assumption | apply List.Mem.tail | apply List.mem_append_right)) (by assumption) | exact Y_loadR rfl one3 (by assumption) rfl (by assumption))) rfl rfl ?_
        refine s_y (Y_fa 28 rfl Try.underlying42 rfl sz3 rfl) rfl rfl ?_
        refine s_y ((by first | exact Y_load rfl one3 (by repeat (first | exact List.Mem.head _ | assumption | apply List.Mem.tail | apply List.mem_append_right)) (by rfl) | exact Y_load rfl one3 (by repeat (first | exact List.Mem.head _ | assumption | apply List.Mem.tail | apply List.mem_append_right)) (by assumption) | exact Y_loadR rfl one3 (by assumption) rfl (by assumption))) rfl rfl ?_
        refine s_y ((by first | exact Y_sub rfl rfl (by omega) | exact Y_subw rfl rfl)) rfl rfl ?_
        refine s_cm [oB b21 g1 n1 cp1, ⟨g1, 5, 1, cp1, cs1⟩] (En_call (fun _ => rfl) Try.func24 rfl (by kernel_rfl) rfl) (by repeat (first | exact Sels.nil | apply Sels.cons (by repeat (first | exact Sel.head | apply Sel.tail)))) (fun w hH => outsmall_e (by omega) (hH.at' (by repeat (first | exact List.Mem.head _ | assumption | apply List.Mem.tail | apply List.mem_append_right))) (hH.at' (by repeat (first | exact List.Mem.head _ | assumption | apply List.Mem.tail | apply List.mem_append_right))) (ne2 (oB b21 g1 n1 cp1) ⟨g1, 5, 1, cp1, cs1⟩ hH (by repeat (first | exact Sels.nil | apply Sels.cons (by repeat (first | exact Sel.head | apply Sel.tail))))) hl1 hc1 (by omega) hu1) rfl rfl ?_
        rintro _ _ ⟨rfl, n1, hm1, hn1, g1, cp1, cs1, hl1, hc1, hu1, rfl⟩
        refine s_nil ?_
        refine q_then ?_
        refine c_seq ?_
        -- ref.go:136 R45
        refine c_reg ?_
        refine s_y (Y_mv) rfl rfl ?_
        refine s_y (Y_fa 28 rfl Try.underlying42 rfl sz3 rfl) rfl rfl ?_
        refine s_y ((by first | exact Y_load rfl one3 (by repeat (first | exact List.Mem.head _ | assumption | apply List.Mem.tail | apply List.mem_append_right)) (by rfl) | exact Y_load rfl one3 (by repeat (first | exact List.Mem.head _ | assumption | apply List.Mem.tail | apply List.mem_append_right)) (by assumption) | exact Y_loadR rfl one3 (by assumption) rfl (by assumption))) rfl rfl ?_
        refine s_cm [oB b21 g1 n1 cp1, ⟨g1, 5, 1, cp1, cs1⟩] (En_call (fun _ => rfl) Try.func24 rfl (by kernel_rfl) rfl) (by repeat (first | exact Sels.nil | apply Sels.cons (by repeat (first | exact Sel.head | apply Sel.tail)))) (fun w hH => outsmall_e hto (hH.at' (by repeat (first | exact List.Mem.head _ | assumption | apply List.Mem.tail | apply List.mem_append_right))) (hH.at' (by repeat (first | exact List.Mem.head _ | assumption | apply List.Mem.tail | apply List.mem_append_right))) (ne2 (oB b21 g1 n1 cp1) ⟨g1, 5, 1, cp1, cs1⟩ hH (by repeat (first | exact Sels.nil | apply Sels.cons (by repeat (first | exact Sel.head | apply Sel.tail))))) hl1 hc1 (by omega) hu1) rfl rfl ?_
        rintro _ _ ⟨rfl, n1, hm1, hn1, g1, cp1, cs1, hl1, hc1, hu1, rfl⟩
        refine s_nil ?_
        refine q_then ?_
        refine c_seq ?_
        refine c_seq ?_
        -- ref.go:137 R46
        refine c_reg ?_
        refine s_y (Y_fa 29 rfl Try.underlying42 rfl sz27 rfl) rfl rfl ?_
        refine s_y ((by first | exact Y_load rfl one27 (by repeat (first | exact List.Mem.head _ | assumption | apply List.Mem.tail | apply List.mem_append_right)) (by rfl) | exact Y_load rfl one27 (by repeat (first | exact List.Mem.head _ | assumption | apply List.Mem.tail | apply List.mem_append_right)) (by assumption) | exact Y_loadR rfl one27 (by assumption) rfl (by assumption))) rfl rfl ?_
        refine s_y (Y_len rfl rfl Try.underlying27) rfl rfl ?_
        refine s_y (Y_gtr rfl rfl) rfl rfl ?_
        refine s_nil ?_
        refine q_then ?_
        refine c_F rfl ((by simp; omega)) ?_
        refine c_skip ?_
        refine q_then ?_
        -- ref.go:140 R48
        refine c_rordS (L0 := [oB b21 g1 n1 cp1, mB b1 g]) (by repeat (first | exact List.Sublist.refl _ | exact List.nil_sublist _ | apply List.Sublist.cons_cons | apply List.Sublist.cons)) [16] [(0, true), (1, true), (2, true), (3, true), (4, true), (5, true), (6, true), (7, true), (8, true), (11, true), (12, true), (9, false), (10, false), (13, false), (14, true), (15, true), (16, false)] (by kernel_rfl) (by kernel_rfl) (by kernel_rfl) (by kernel_rfl) rfl (by intro c a d v w h; cases d <;> exact h) rfl ?_
        simp only [mkOrd, List.filterMap_cons, List.filterMap_nil, List.getElem?_toArray, List.getElem?_cons_zero, List.getElem?_cons_succ, Option.map_some]
        refine o_y (Y_mv) rfl rfl ?_
        refine o_y (Y_mv) rfl rfl ?_
        refine o_y ((by first | exact Y_nil rfl | exact Y_nilF rfl | exact Y_nilM rfl (by assumption) | exact Y_nilM rfl (by intro w k; kernel_rfl))) rfl rfl ?_
        refine o_y (Y_fa 0 rfl Try.underlying61 rfl sz27 rfl) rfl rfl ?_
        refine o_y ((by first | exact Y_load rfl one27 (by repeat (first | exact List.Mem.head _ | assumption | apply List.Mem.tail | apply List.mem_append_right)) (by rfl) | exact Y_load rfl one27 (by repeat (first | exact List.Mem.head _ | assumption | apply List.Mem.tail | apply List.mem_append_right)) (by assumption) | exact Y_loadR rfl one27 (by assumption) rfl (by assumption))) rfl rfl ?_
        refine o_y (Y_fa 29 rfl Try.underlying42 rfl sz27 rfl) rfl rfl ?_
        refine o_y ((by first | exact Y_load rfl one27 (by repeat (first | exact List.Mem.head _ | assumption | apply List.Mem.tail | apply List.mem_append_right)) (by rfl) | exact Y_load rfl one27 (by repeat (first | exact List.Mem.head _ | assumption | apply List.Mem.tail | apply List.mem_append_right)) (by assumption) | exact Y_loadR rfl one27 (by assumption) rfl (by assumption))) rfl rfl ?_
        refine o_y (Y_len rfl rfl Try.underlying27) rfl rfl ?_
        refine o_y (Y_convw rfl Try.underlying3 Try.underlying5) rfl rfl ?_
        refine o_y (Y_fa 29 rfl Try.underlying42 rfl sz27 rfl) rfl rfl ?_
        refine o_y ((by first | exact Y_load rfl one27 (by repeat (first | exact List.Mem.head _ | assumption | apply List.Mem.tail | apply List.mem_append_right)) (by rfl) | exact Y_load rfl one27 (by repeat (first | exact List.Mem.head _ | assumption | apply List.Mem.tail | apply List.mem_append_right)) (by assumption) | exact Y_loadR rfl one27 (by assumption) rfl (by assumption))) rfl rfl ?_
        refine o_n (N_bs (xs := [.tmp 224]) (by repeat (first | exact Gv.nil | apply Gv.const | apply Gv.tmp (by repeat (first | exact Gt.here | apply Gt.there (by rfl) | exact Gt.base (by rfl))))) rfl Try.underlying27 inf5 rfl (by omega) (by omega) (by first | simp [Value.oneCell'] | (intro v hv; simp at hv; subst hv; rfl))) (fun _ => (by first | exact keep_no rfl | exact keep_sub (by repeat (first | exact List.Sublist.refl _ | exact List.nil_sublist _ | apply List.Sublist.cons_cons | apply List.Sublist.cons)))) rfl rfl (fun b225 _ => ?_)
        refine o_n (N_app rfl rfl Try.underlying27 inf5 rfl (by omega) (by repeat (first | exact Sel.head | apply Sel.tail)) (by first | omega | rfl | (simp; omega)) (by omega) (src (by repeat (first | exact List.Mem.head _ | assumption | apply List.Mem.tail | apply List.mem_append_right))) (by rfl) (by simp [Value.oneCell']) (by omega) (by omega)) (fun _ => (by first | exact keep_no rfl | exact keep_sub (by repeat (first | exact List.Sublist.refl _ | exact List.nil_sublist _ | apply List.Sublist.cons_cons | apply List.Sublist.cons)))) rfl rfl (fun ⟨g226, cp226⟩ hc226 => ?_)
        refine o_n (N_appA (a2 := g.da) (news := g.data.map bv) rfl rfl Try.underlying27 inf5 rfl (by omega) (by repeat (first | exact Sel.head | apply Sel.tail)) (by simp [hl1]) (by omega) (fun h => ⟨by have := MV.dat.2; rcases this with h2 | ⟨_, _, h2, _⟩ <;> simp_all, MV.dnil h⟩) (BytesAt.cells MV.dat) (by simp [hdl]) (by simp [Value.oneCell', bv]) (by omega) (by omega)) (fun _ => (by first | exact keep_no rfl | exact keep_sub (by repeat (first | exact List.Sublist.refl _ | exact List.nil_sublist _ | apply List.Sublist.cons_cons | apply List.Sublist.cons)))) rfl rfl (fun ⟨g229, cp229⟩ hc229 => ?_)
        refine o_y ((by first | exact Y_nil rfl | exact Y_nilF rfl | exact Y_nilM rfl (by assumption) | exact Y_nilM rfl (by intro w k; kernel_rfl))) rfl rfl ?_
        refine o_y (Y_fa 0 rfl Try.underlying61 rfl sz27 rfl) rfl rfl ?_
        refine o_s (S_st rfl (by repeat (first | exact Gt.here | apply Gt.there (by rfl) | exact Gt.base (by rfl))) sz27 (by rfl) (by repeat (first | exact Upd.head | apply Upd.tail)) (by first | (simp only [Nat.zero_add, Nat.reduceAdd, List.set_cons_succ, List.set_cons_zero]; rfl) | rfl) (by first | (simp; done) | omega)) (by first | exact keep_no rfl | exact keep_sub (by repeat (first | exact List.Sublist.refl _ | exact List.nil_sublist _ | apply List.Sublist.cons_cons | apply List.Sublist.cons))) rfl ?_
        refine o_nil ?_
        refine QL.pick (L' := [oB b21 g229 (n1 + 1 + g.dl) cp229, ⟨g229, 5, 1, cp229, _⟩, mB b1 g]) (by repeat (first | exact Sels.nil | apply Sels.cons (by repeat (first | exact Sel.head | apply Sel.tail)))) ?_
        refine QL.pk (by simp [hl1, hdl]; omega) (by omega) ((hu1.app (fun u h => by rw [List.mem_singleton.1 h]; exact u8_any _)).app (fun u h => by obtain ⟨x, _, rfl⟩ := List.mem_map.1 h; exact ⟨x, rfl⟩)) (fun n1 g1 cp1 cs1 hn1 hl1 hc1 hu1 => ?_)
        have hm1 : 1 ≤ n1 := by omega
        refine q_bn ?_
        refine q_then ?_
        refine c_seq ?_
        refine c_seq ?_
        -- ref.go:142 R49
        refine c_reg ?_
        refine s_y (Y_mv) rfl rfl ?_
        refine s_y ((by first | exact Y_nil rfl | exact Y_nilF rfl | exact Y_nilM rfl (by assumption) | exact Y_nilM rfl (by intro w k; kernel_rfl))) rfl rfl ?_
        refine s_y (Y_fa 1 rfl Try.underlying61 rfl sz4 rfl) rfl rfl ?_
        refine s_y ((by first | exact Y_load rfl one4 (by repeat (first | exact List.Mem.head _ | assumption | apply List.Mem.tail | apply List.mem_append_right)) (by rfl) | exact Y_load rfl one4 (by repeat (first | exact List.Mem.head _ | assumption | apply List.Mem.tail | apply List.mem_append_right)) (by assumption) | exact Y_loadR rfl one4 (by assumption) rfl (by assumption))) rfl rfl ?_
        refine s_nil ?_
        refine q_then ?_
        refine c_F rfl ((by rfl)) ?_
        refine c_skip ?_
        refine q_then ?_
        refine c_seq ?_
        -- ref.go:145 R51
        refine c_reg ?_
        refine s_y (Y_mv) rfl rfl ?_
        refine s_y ((by first | exact Y_nil rfl | exact Y_nilF rfl | exact Y_nilM rfl (by assumption) | exact Y_nilM rfl (by intro w k; kernel_rfl))) rfl rfl ?_
        refine s_y (Y_fa 0 rfl Try.underlying61 rfl sz27 rfl) rfl rfl ?_
        refine s_y ((by first | exact Y_load rfl one27 (by repeat (first | exact List.Mem.head _ | assumption | apply List.Mem.tail | apply List.mem_append_right)) (by rfl) | exact Y_load rfl one27 (by repeat (first | exact List.Mem.head _ | assumption | apply List.Mem.tail | apply List.mem_append_right)) (by assumption) | exact Y_loadR rfl one27 (by assumption) rfl (by assumption))) rfl rfl ?_
        refine s_y (Y_as) rfl rfl ?_
        refine s_y (Y_asC) rfl rfl ?_
        refine s_nil ?_
        refine q_then ?_
        refine c_ret ?_
        obtain ⟨xs, rfl⟩ := U8.bytes hu1
        rw [List.length_map] at hl1
        refine q_ret2 rfl rfl rfl (L' := [⟨g1, 5, 1, cp1, xs.map bv⟩]) (by repeat (first | exact List.Sublist.refl _ | exact List.nil_sublist _ | apply List.Sublist.cons_cons | apply List.Sublist.cons)) ⟨xs, g1, cp1, by omega, by omega, by omega, by rw [hl1]; rfl, rfl⟩
  · skip
    refine c_skip ?_
    refine q_then ?_
    refine c_seq ?_
    -- ref.go:95 R6
    refine c_reg ?_
    refine s_y (Y_mv) rfl rfl ?_
    refine s_y (Y_fa 2 rfl Try.underlying42 rfl sz3 rfl) rfl rfl ?_
    refine s_y ((by first | exact Y_load rfl one3 (by repeat (first | exact List.Mem.head _ | assumption | apply List.Mem.tail | apply List.mem_append_right)) (by rfl) | exact Y_load rfl one3 (by repeat (first | exact List.Mem.head _ | assumption | apply List.Mem.tail | apply List.mem_append_right)) (by assumption) | exact Y_loadR rfl one3 (by assumption) rfl (by assumption))) rfl rfl ?_
    refine s_cm [oB b21 g1 n1 cp1, ⟨g1, 5, 1, cp1, cs1⟩] (En_call (fun _ => rfl) Try.func22 rfl (by kernel_rfl) rfl) (by repeat (first | exact Sels.nil | apply Sels.cons (by repeat (first | exact Sel.head | apply Sel.tail)))) (fun w hH => outnum_e htr (hH.at' (by repeat (first | exact List.Mem.head _ | assumption | apply List.Mem.tail | apply List.mem_append_right))) (hH.at' (by repeat (first | exact List.Mem.head _ | assumption | apply List.Mem.tail | apply List.mem_append_right))) (ne2 (oB b21 g1 n1 cp1) ⟨g1, 5, 1, cp1, cs1⟩ hH (by repeat (first | exact Sels.nil | apply Sels.cons (by repeat (first | exact Sel.head | apply Sel.tail))))) hl1 hc1 (by omega) hu1) rfl rfl ?_
    rintro _ _ ⟨rfl, n1, hm1, hn1, g1, cp1, cs1, hl1, hc1, hu1, rfl⟩
    refine s_nil ?_
    refine q_then ?_
    refine c_seq ?_
    refine c_seq ?_
    -- ref.go:96 R7
    refine c_reg ?_
    refine s_y (Y_fa 0 rfl Try.underlying42 rfl sz3 rfl) rfl rfl ?_
    refine s_y ((by first | exact Y_load rfl one3 (by repeat (first | exact List.Mem.head _ | assumption | apply List.Mem.tail | apply List.mem_append_right)) (by rfl) | exact Y_load rfl one3 (by repeat (first | exact List.Mem.head _ | assumption | apply List.Mem.tail | apply List.mem_append_right)) (by assumption) | exact Y_loadR rfl one3 (by assumption) rfl (by assumption))) rfl rfl ?_
    refine s_nil ?_
    refine q_then ?_
    refine c_block ?_
    refine c_seq ?_
    -- ref.go:97 R8
    refine c_reg ?_
    refine s_y (Y_eql rfl rfl) rfl rfl ?_
    refine s_y (Y_as) rfl rfl ?_
    refine s_nil ?_
    refine q_then ?_
    refine c_T rfl ((by simp; omega)) ?_
    refine c_seq ?_
    -- ref.go:98 R9
    refine c_reg ?_
    refine s_y (Y_fa 3 rfl Try.underlying42 rfl sz4 rfl) rfl rfl ?_
    refine s_y ((by first | exact Y_load rfl one4 (by repeat (first | exact List.Mem.head _ | assumption | apply List.Mem.tail | apply List.mem_append_right)) (by rfl) | exact Y_load rfl one4 (by repeat (first | exact List.Mem.head _ | assumption | apply List.Mem.tail | apply List.mem_append_right)) (by assumption) | exact Y_loadR rfl one4 (by assumption) rfl (by assumption))) rfl rfl ?_
    refine s_nil ?_
    refine q_then ?_
    refine c_cond (t := g.watch) rfl (fun hw => ?_) (fun hw => ?_)
    · skip
      -- ref.go:99 R10
      refine c_reg ?_
      refine s_y (Y_mv) rfl rfl ?_
      refine s_y (Y_mv) rfl rfl ?_
      refine s_y ((by first | exact Y_nil rfl | exact Y_nilF rfl | exact Y_nilM rfl (by assumption) | exact Y_nilM rfl (by intro w k; kernel_rfl))) rfl rfl ?_
      refine s_y (Y_fa 0 rfl Try.underlying61 rfl sz27 rfl) rfl rfl ?_
      refine s_y ((by first | exact Y_load rfl one27 (by repeat (first | exact List.Mem.head _ | assumption | apply List.Mem.tail | apply List.mem_append_right)) (by rfl) | exact Y_load rfl one27 (by repeat (first | exact List.Mem.head _ | assumption | apply List.Mem.tail | apply List.mem_append_right)) (by assumption) | exact Y_loadR rfl one27 (by assumption) rfl (by assumption))) rfl rfl ?_
      refine s_n (N_bs (xs := [.const (Value.int Go.IntKind.u8 1)]) (by repeat (first | exact Gv.nil | apply Gv.const | apply Gv.tmp (by repeat (first | exact Gt.here | apply Gt.there (by rfl) | exact Gt.base (by rfl))))) rfl Try.underlying27 inf5 rfl (by omega) (by omega) (by first | simp [Value.oneCell'] | (intro v hv; simp at hv; subst hv; rfl))) rfl rfl (fun b44 _ => ?_)
      refine s_n (N_app rfl rfl Try.underlying27 inf5 rfl (by omega) (by repeat (first | exact Sel.head | apply Sel.tail)) (by first | omega | rfl | (simp; omega)) (by omega) (src (by repeat (first | exact List.Mem.head _ | assumption | apply List.Mem.tail | apply List.mem_append_right))) (by rfl) (by simp [Value.oneCell']) (by omega) (by omega)) rfl rfl (fun ⟨g45, cp45⟩ hc45 => ?_)
      refine s_y ((by first | exact Y_nil rfl | exact Y_nilF rfl | exact Y_nilM rfl (by assumption) | exact Y_nilM rfl (by intro w k; kernel_rfl))) rfl rfl ?_
      refine s_y (Y_fa 0 rfl Try.underlying61 rfl sz27 rfl) rfl rfl ?_
      refine s_s (S_st rfl (by repeat (first | exact Gt.here | apply Gt.there (by rfl) | exact Gt.base (by rfl))) sz27 (by rfl) (by repeat (first | exact Upd.head | apply Upd.tail)) (by first | (simp only [Nat.zero_add, Nat.reduceAdd, List.set_cons_succ, List.set_cons_zero]; rfl) | rfl) (by first | (simp; done) | omega)) rfl ?_
      refine s_nil ?_
      refine QL.pick (L' := [oB b21 g45 (n1 + 1) cp45, ⟨g45, 5, 1, cp45, _⟩, mB b1 g]) (by repeat (first | exact Sels.nil | apply Sels.cons (by repeat (first | exact Sel.head | apply Sel.tail)))) ?_
      refine QL.pk (by simp [hl1]) (by omega) (hu1.app (fun u h => by rw [List.mem_singleton.1 h]; exact ⟨1, rfl⟩)) (fun n1 g1 cp1 cs1 hn1 hl1 hc1 hu1 => ?_)
      refine q_bn ?_
      refine q_then ?_
      refine c_seq ?_
      refine c_seq ?_
      -- ref.go:142 R49
      refine c_reg ?_
      refine s_y (Y_mv) rfl rfl ?_
      refine s_y ((by first | exact Y_nil rfl | exact Y_nilF rfl | exact Y_nilM rfl (by assumption) | exact Y_nilM rfl (by intro w k; kernel_rfl))) rfl rfl ?_
      refine s_y (Y_fa 1 rfl Try.underlying61 rfl sz4 rfl) rfl rfl ?_
      refine s_y ((by first | exact Y_load rfl one4 (by repeat (first | exact List.Mem.head _ | assumption | apply List.Mem.tail | apply List.mem_append_right)) (by rfl) | exact Y_load rfl one4 (by repeat (first | exact List.Mem.head _ | assumption | apply List.Mem.tail | apply List.mem_append_right)) (by assumption) | exact Y_loadR rfl one4 (by assumption) rfl (by assumption))) rfl rfl ?_
      refine s_nil ?_
      refine q_then ?_
      refine c_F rfl ((by rfl)) ?_
      refine c_skip ?_
      refine q_then ?_
      refine c_seq ?_
      -- ref.go:145 R51
      refine c_reg ?_
      refine s_y (Y_mv) rfl rfl ?_
      refine s_y ((by first | exact Y_nil rfl | exact Y_nilF rfl | exact Y_nilM rfl (by assumption) | exact Y_nilM rfl (by intro w k; kernel_rfl))) rfl rfl ?_
      refine s_y (Y_fa 0 rfl Try.underlying61 rfl sz27 rfl) rfl rfl ?_
      refine s_y ((by first | exact Y_load rfl one27 (by repeat (first | exact List.Mem.head _ | assumption | apply List.Mem.tail | apply List.mem_append_right)) (by rfl) | exact Y_load rfl one27 (by repeat (first | exact List.Mem.head _ | assumption | apply List.Mem.tail | apply List.mem_append_right)) (by assumption) | exact Y_loadR rfl one27 (by assumption) rfl (by assumption))) rfl rfl ?_
      refine s_y (Y_as) rfl rfl ?_
      refine s_y (Y_asC) rfl rfl ?_
      refine s_nil ?_
      refine q_then ?_
      refine c_ret ?_
      obtain ⟨xs, rfl⟩ := U8.bytes hu1
      rw [List.length_map] at hl1
      refine q_ret2 rfl rfl rfl (L' := [⟨g1, 5, 1, cp1, xs.map bv⟩]) (by repeat (first | exact List.Sublist.refl _ | exact List.nil_sublist _ | apply List.Sublist.cons_cons | apply List.Sublist.cons)) ⟨xs, g1, cp1, by omega, by omega, by omega, by rw [hl1]; rfl, rfl⟩
    · skip
      -- ref.go:101 R11
      refine c_reg ?_
      refine s_y (Y_mv) rfl rfl ?_
      refine s_y (Y_mv) rfl rfl ?_
      refine s_y ((by first | exact Y_nil rfl | exact Y_nilF rfl | exact Y_nilM rfl (by assumption) | exact Y_nilM rfl (by intro w k; kernel_rfl))) rfl rfl ?_
      refine s_y (Y_fa 0 rfl Try.underlying61 rfl sz27 rfl) rfl rfl ?_
      refine s_y ((by first | exact Y_load rfl one27 (by repeat (first | exact List.Mem.head _ | assumption | apply List.Mem.tail | apply List.mem_append_right)) (by rfl) | exact Y_load rfl one27 (by repeat (first | exact List.Mem.head _ | assumption | apply List.Mem.tail | apply List.mem_append_right)) (by assumption) | exact Y_loadR rfl one27 (by assumption) rfl (by assumption))) rfl rfl ?_
      refine s_n (N_bs (xs := [.const (Value.int Go.IntKind.u8 0)]) (by repeat (first | exact Gv.nil | apply Gv.const | apply Gv.tmp (by repeat (first | exact Gt.here | apply Gt.there (by rfl) | exact Gt.base (by rfl))))) rfl Try.underlying27 inf5 rfl (by omega) (by omega) (by first | simp [Value.oneCell'] | (intro v hv; simp at hv; subst hv; rfl))) rfl rfl (fun b53 _ => ?_)
      refine s_n (N_app rfl rfl Try.underlying27 inf5 rfl (by omega) (by repeat (first | exact Sel.head | apply Sel.tail)) (by first | omega | rfl | (simp; omega)) (by omega) (src (by repeat (first | exact List.Mem.head _ | assumption | apply List.Mem.tail | apply List.mem_append_right))) (by rfl) (by simp [Value.oneCell']) (by omega) (by omega)) rfl rfl (fun ⟨g54, cp54⟩ hc54 => ?_)
      refine s_y ((by first | exact Y_nil rfl | exact Y_nilF rfl | exact Y_nilM rfl (by assumption) | exact Y_nilM rfl (by intro w k; kernel_rfl))) rfl rfl ?_
      refine s_y (Y_fa 0 rfl Try.underlying61 rfl sz27 rfl) rfl rfl ?_
      refine s_s (S_st rfl (by repeat (first | exact Gt.here | apply Gt.there (by rfl) | exact Gt.base (by rfl))) sz27 (by rfl) (by repeat (first | exact Upd.head | apply Upd.tail)) (by first | (simp only [Nat.zero_add, Nat.reduceAdd, List.set_cons_succ, List.set_cons_zero]; rfl) | rfl) (by first | (simp; done) | omega)) rfl ?_
      refine s_nil ?_
      refine QL.pick (L' := [oB b21 g54 (n1 + 1) cp54, ⟨g54, 5, 1, cp54, _⟩, mB b1 g]) (by repeat (first | exact Sels.nil | apply Sels.cons (by repeat (first | exact Sel.head | apply Sel.tail)))) ?_
      refine QL.pk (by simp [hl1]) (by omega) (hu1.app (fun u h => by rw [List.mem_singleton.1 h]; exact ⟨0, rfl⟩)) (fun n1 g1 cp1 cs1 hn1 hl1 hc1 hu1 => ?_)
      refine q_bn ?_
      refine q_then ?_
      refine c_seq ?_
      refine c_seq ?_
      -- ref.go:142 R49
      refine c_reg ?_
      refine s_y (Y_mv) rfl rfl ?_
      refine s_y ((by first | exact Y_nil rfl | exact Y_nilF rfl | exact Y_nilM rfl (by assumption) | exact Y_nilM rfl (by intro w k; kernel_rfl))) rfl rfl ?_
      refine s_y (Y_fa 1 rfl Try.underlying61 rfl sz4 rfl) rfl rfl ?_
      refine s_y ((by first | exact Y_load rfl one4 (by repeat (first | exact List.Mem.head _ | assumption | apply List.Mem.tail | apply List.mem_append_right)) (by rfl) | exact Y_load rfl one4 (by repeat (first | exact List.Mem.head _ | assumption | apply List.Mem.tail | apply List.mem_append_right)) (by assumption) | exact Y_loadR rfl one4 (by assumption) rfl (by assumption))) rfl rfl ?_
      refine s_nil ?_
      refine q_then ?_
      refine c_F rfl ((by rfl)) ?_
      refine c_skip ?_
      refine q_then ?_
      refine c_seq ?_
      -- ref.go:145 R51
      refine c_reg ?_
      refine s_y (Y_mv) rfl rfl ?_
      refine s_y ((by first | exact Y_nil rfl | exact Y_nilF rfl | exact Y_nilM rfl (by assumption) | exact Y_nilM rfl (by intro w k; kernel_rfl))) rfl rfl ?_
      refine s_y (Y_fa 0 rfl Try.underlying61 rfl sz27 rfl) rfl rfl ?_
      refine s_y ((by first | exact Y_load rfl one27 (by repeat (first | exact List.Mem.head _ | assumption | apply List.Mem.tail | apply List.mem_append_right)) (by rfl) | exact Y_load rfl one27 (by repeat (first | exact List.Mem.head _ | assumption | apply List.Mem.tail | apply List.mem_append_right)) (by assumption) | exact Y_loadR rfl one27 (by assumption) rfl (by assumption))) rfl rfl ?_
      refine s_y (Y_as) rfl rfl ?_
      refine s_y (Y_asC) rfl rfl ?_
      refine s_nil ?_
      refine q_then ?_
      refine c_ret ?_
      obtain ⟨xs, rfl⟩ := U8.bytes hu1
      rw [List.length_map] at hl1
      refine q_ret2 rfl rfl rfl (L' := [⟨g1, 5, 1, cp1, xs.map bv⟩]) (by repeat (first | exact List.Sublist.refl _ | exact List.nil_sublist _ | apply List.Sublist.cons_cons | apply List.Sublist.cons)) ⟨xs, g1, cp1, by omega, by omega, by omega, by rw [hl1]; rfl, rfl⟩
end
end Go.Proofs.Ytphmdhbhoakcaaa
