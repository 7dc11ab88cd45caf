/- Comparisons that find the same: rows, bytes, records. -/
import Derived.Test.YtphmdhbhoakcaaaRU
namespace Go.Proofs.Ytphmdhbhoakcaaa
open Go.RowKit Go.Ad Go.Maps
set_option linter.unusedVariables false
set_option linter.unusedSimpArgs false
section
variable {W : World} {a a' : Option Addr} {n c c' : Nat} {zs : List Int}
theorem IntsAt.has (h : IntsAt W a zs) {M : List Nat} {L : List Bk} (hM : ∀ b o, a = some ⟨b, o, none⟩ → b ∉ M) {w : World} (hH : Has W M L w) : IntsAt w a zs := by
  rcases h with h | ⟨b, o, h1, h2, h3⟩
  · exact .inl h
  · exact .inr ⟨b, o, h1, Nat.lt_of_lt_of_le h2 hH.size, hH.ro h3 (hM b o h1)⟩
theorem RecsAt.has {rs : List Rec} (h : RecsAt W a rs) {M : List Nat} {L : List Bk} (hM : ∀ b o, a = some ⟨b, o, none⟩ → b ∉ M) {w : World} (hH : Has W M L w) : RecsAt w a rs := by
  rcases h with h | ⟨b, o, h1, h2, h3⟩
  · exact .inl h
  · exact .inr ⟨b, o, h1, Nat.lt_of_lt_of_le h2 hH.size, hH.ro h3 (hM b o h1)⟩
theorem IntsAt.at' (h : IntsAt W a zs) {i : Nat} {x : Int} (hx : zs[i]? = some x) : ∃ b o, a = some ⟨b, o, none⟩ ∧ Ro W b o (zs.map (Value.int .i64)) ∧ (zs.map (Value.int .i64))[i]? = some (.int .i64 x) := by
  rcases h with h | ⟨b, o, h1, h2, h3⟩
  · rw [h] at hx; simp at hx
  · exact ⟨b, o, h1, h3, by simp [hx]⟩
set_option maxRecDepth 100000 in
theorem sameInts_d (h : IntsAt W a zs) (h' : IntsAt W a' zs) (hl : zs.length = n) (hn : n ≤ 4611686018427387904) : Does Try.prog 33 [.slice a n c, .slice a' n c'] W [] (fun v L => v = .bool true ∧ L = []) := by
  refine enter Try.func33 rfl rfl rfl (Has.start _) ?_
  refine c_seq ?_
  refine c_reg ?_
  refine s_y (Y_asC) rfl rfl ?_
  refine s_nil ?_
  refine q_then ?_
  refine c_seq ?_
  refine c_seq ?_
  refine c_reg ?_
  refine s_y (Y_mv) rfl rfl ?_
  refine s_y (Y_len rfl rfl Try.underlying24) rfl rfl ?_
  refine s_y (Y_mv) rfl rfl ?_
  refine s_y (Y_len rfl rfl Try.underlying24) rfl rfl ?_
  refine s_y (Y_neq rfl rfl) rfl rfl ?_
  refine s_nil ?_
  refine q_then ?_
  refine c_F rfl (by simp) ?_
  refine c_skip ?_
  refine q_then ?_
  refine c_seq ?_
  refine c_seq ?_
  refine c_reg ?_
  refine s_y (Y_asC) rfl rfl ?_
  refine s_nil ?_
  refine q_then ?_
  refine c_block ?_
  refine c_loop [4, 5, 11, 12, 13, 14, 15, 16, 17, 18, 19, 20, 21, 22, 23, 24, 25] (fun n2 i => i + n2 = n) (fun i => [(5, .int .i64 (i : Int))]) (fun _ => []) n 0 (by omega) ⟨rfl, trivial⟩ (fun _ h => h) (fun _ => rfl) ?_
  rintro n2 i j hi K hK
  refine c_seq ?_
  refine c_seq ?_
  refine c_reg ?_
  refine s_y (Y_mv) rfl rfl ?_
  refine s_y (Y_mv) rfl rfl ?_
  refine s_y (Y_len rfl rfl Try.underlying24) rfl rfl ?_
  refine s_y (Y_lss rfl rfl) rfl rfl ?_
  refine s_nil ?_
  refine q_then ?_
  refine c_cond' rfl (fun h1 => ?_) (fun h1 => ?_)
  · obtain ⟨x, hx⟩ : ∃ x, zs[i]? = some x := ⟨zs[i]'(by omega), by simp⟩
    obtain ⟨b, o, rfl, hr, hv⟩ := h.at' hx
    obtain ⟨b', o', rfl, hr', hv'⟩ := h'.at' hx
    refine c_skip ?_
    refine q_then ?_
    refine c_seq ?_
    refine c_block ?_
    refine c_seq ?_
    -- ref.go:293
    refine c_rord [] [(0, true), (1, true), (2, true), (3, true), (4, true), (5, true), (6, true), (7, true), (8, true)] (by kernel_rfl) (by kernel_rfl) (by kernel_rfl) (by kernel_rfl) rfl (by intro c a d v w h; cases d <;> exact h) rfl ?_
    simp only [mkOrd, List.filterMap_cons, List.filterMap_nil, List.getElem?_toArray, List.getElem?_cons_zero, List.getElem?_cons_succ, Option.map_some]
    refine o_y (Y_mv) rfl rfl ?_
    refine o_y (Y_mv) rfl rfl ?_
    refine o_y (Y_ia1 rfl rfl Try.underlying24 sz3 rfl (by omega)) rfl rfl ?_
    refine o_y (Y_loadR (i := i) rfl one3 hr rfl hv) rfl rfl ?_
    refine o_y (Y_mv) rfl rfl ?_
    refine o_y (Y_mv) rfl rfl ?_
    refine o_y (Y_ia1 rfl rfl Try.underlying24 sz3 rfl (by omega)) rfl rfl ?_
    refine o_y (Y_loadR (i := i) rfl one3 hr' rfl hv') rfl rfl ?_
    refine o_y (Y_neq rfl rfl) rfl rfl ?_
    refine o_nil ?_
    refine q_then ?_
    refine c_F rfl (by simp) ?_
    refine c_skip ?_
    refine q_bn ?_
    refine q_then ?_
    refine c_reg ?_
    refine s_y (Y_mv) rfl rfl ?_
    refine s_y ((by first | exact Y_add rfl rfl (by omega) | exact Y_addw rfl rfl)) rfl rfl ?_
    refine s_y (Y_as) rfl rfl ?_
    refine s_nil ?_
    refine hK (n2 - 1) (i + 1) _ _ (by omega) (by omega) ⟨rfl, trivial⟩ rfl (fun _ h => h)
  · refine c_exit ?_
    repeat with_reducible refine q_te ?_
    refine q_exit ?_
    refine q_then ?_
    refine c_seq ?_
    refine c_reg ?_
    refine s_y (Y_asC) rfl rfl ?_
    refine s_nil ?_
    refine q_then ?_
    refine c_ret ?_
    refine q_ret1 rfl rfl (L' := []) (by repeat (first | exact List.Sublist.refl _ | exact List.nil_sublist _ | apply List.Sublist.cons_cons | apply List.Sublist.cons)) ⟨rfl, rfl⟩
set_option maxRecDepth 100000 in
theorem eqInts_d (h : IntsAt W a zs) (h' : IntsAt W a' zs) (hl : zs.length = n) (hn : n ≤ 4611686018427387904) : Does Try.prog 35 [.slice a n c, .slice a' n c'] W [] (fun v L => v = .bool true ∧ L = []) := by
  refine enter Try.func35 rfl rfl rfl (Has.start _) ?_
  refine c_seq ?_
  refine c_reg ?_
  refine s_y (Y_asC) rfl rfl ?_
  refine s_nil ?_
  refine q_then ?_
  refine c_seq ?_
  refine c_seq ?_
  refine c_reg ?_
  refine s_y (Y_mv) rfl rfl ?_
  refine s_y (Y_len rfl rfl Try.underlying24) rfl rfl ?_
  refine s_y (Y_mv) rfl rfl ?_
  refine s_y (Y_len rfl rfl Try.underlying24) rfl rfl ?_
  refine s_y (Y_neq rfl rfl) rfl rfl ?_
  refine s_nil ?_
  refine q_then ?_
  refine c_F rfl (by simp) ?_
  refine c_skip ?_
  refine q_then ?_
  refine c_seq ?_
  refine c_seq ?_
  refine c_reg ?_
  refine s_y (Y_mv) rfl rfl ?_
  refine s_y (Y_len rfl rfl Try.underlying24) rfl rfl ?_
  refine s_y (Y_mvC) rfl rfl ?_
  refine s_nil ?_
  refine q_then ?_
  refine c_block ?_
  refine c_loop [4, 5, 13, 14, 15, 16, 17, 18, 19, 20, 21, 22, 23, 24, 25] (fun n2 i => i + n2 = n) (fun i => [(13, .int .i64 (i : Int))]) (fun _ => []) n 0 (by omega) ⟨rfl, trivial⟩ (fun _ h => h) (fun _ => rfl) ?_
  rintro n2 i j hi K hK
  refine c_seq ?_
  refine c_reg ?_
  refine s_y (Y_lss rfl rfl) rfl rfl ?_
  refine s_nil ?_
  refine q_then ?_
  refine c_seq ?_
  refine c_cond' rfl (fun h1 => ?_) (fun h1 => ?_)
  · obtain ⟨x, hx⟩ : ∃ x, zs[i]? = some x := ⟨zs[i]'(by omega), by simp⟩
    obtain ⟨b, o, rfl, hr, hv⟩ := h.at' hx
    obtain ⟨b', o', rfl, hr', hv'⟩ := h'.at' hx
    refine c_skip ?_
    refine q_then ?_
    refine c_seq ?_
    refine c_block ?_
    refine c_seq ?_
    refine c_reg ?_
    refine s_y (Y_mv) rfl rfl ?_
    refine s_y (Y_as) rfl rfl ?_
    refine s_nil ?_
    refine q_then ?_
    refine c_seq ?_
    refine c_rord [] [(0, true), (1, true), (2, true), (3, true), (4, true), (5, true), (6, true), (7, true), (8, true)] (by kernel_rfl) (by kernel_rfl) (by kernel_rfl) (by kernel_rfl) rfl (by intro c a d v w h; cases d <;> exact h) rfl ?_
    simp only [mkOrd, List.filterMap_cons, List.filterMap_nil, List.getElem?_toArray, List.getElem?_cons_zero, List.getElem?_cons_succ, Option.map_some]
    refine o_y (Y_mv) rfl rfl ?_
    refine o_y (Y_mv) rfl rfl ?_
    refine o_y (Y_ia1 rfl rfl Try.underlying24 sz3 rfl (by omega)) rfl rfl ?_
    refine o_y (Y_loadR (i := i) rfl one3 hr rfl hv) rfl rfl ?_
    refine o_y (Y_mv) rfl rfl ?_
    refine o_y (Y_mv) rfl rfl ?_
    refine o_y (Y_ia1 rfl rfl Try.underlying24 sz3 rfl (by omega)) rfl rfl ?_
    refine o_y (Y_loadR (i := i) rfl one3 hr' rfl hv') rfl rfl ?_
    refine o_y (Y_neq rfl rfl) rfl rfl ?_
    refine o_nil ?_
    refine q_then ?_
    refine c_F rfl (by simp) ?_
    refine c_skip ?_
    refine q_bn ?_
    refine q_then ?_
    refine c_reg ?_
    refine s_y ((by first | exact Y_add rfl rfl (by omega) | exact Y_addw rfl rfl)) rfl rfl ?_
    refine s_y (Y_mv) rfl rfl ?_
    refine s_nil ?_
    refine hK (n2 - 1) (i + 1) _ _ (by omega) (by omega) ⟨rfl, trivial⟩ rfl (fun _ h => h)
  · refine c_exit ?_
    repeat with_reducible refine q_te ?_
    refine q_exit ?_
    refine q_then ?_
    refine c_seq ?_
    refine c_reg ?_
    refine s_y (Y_asC) rfl rfl ?_
    refine s_nil ?_
    refine q_then ?_
    refine c_ret ?_
    refine q_ret1 rfl rfl (L' := []) (by repeat (first | exact List.Sublist.refl _ | exact List.nil_sublist _ | apply List.Sublist.cons_cons | apply List.Sublist.cons)) ⟨rfl, rfl⟩
set_option maxRecDepth 100000 in
theorem eqBytes_d {xs : List UInt8} (h : BytesAt W a n xs) (h' : BytesAt W a' n xs) : Does Try.prog 37 [.slice a n c, .slice a' n c'] W [] (fun v L => v = .bool true ∧ L = []) := by
  have hb : ∀ w, Has W [] [] w → BytesAt w a n xs := fun w hH => h.has (by simp) hH
  have hb' : ∀ w, Has W [] [] w → BytesAt w a' n xs := fun w hH => h'.has (by simp) hH
  refine enter Try.func37 rfl rfl rfl (Has.start _) ?_
  refine c_seq ?_
  refine c_reg ?_
  refine s_y (Y_asC) rfl rfl ?_
  refine s_nil ?_
  refine q_then ?_
  refine c_seq ?_
  refine c_reg ?_
  refine s_y (Y_mv) rfl rfl ?_
  refine s_y (Y_bs rfl Try.underlying27 Try.underlying5 Try.underlying9 hb) rfl rfl ?_
  refine s_y (Y_mv) rfl rfl ?_
  refine s_y (Y_bs rfl Try.underlying27 Try.underlying5 Try.underlying9 hb') rfl rfl ?_
  refine s_y (Y_eqS rfl rfl) rfl rfl ?_
  refine s_y (Y_as) rfl rfl ?_
  refine s_nil ?_
  refine q_then ?_
  refine c_ret ?_
  refine q_ret1 rfl rfl (L' := []) (by repeat (first | exact List.Sublist.refl _ | exact List.nil_sublist _ | apply List.Sublist.cons_cons | apply List.Sublist.cons)) ⟨by simp; rfl, rfl⟩
theorem canon_eq {r r' : Rec} (h : canonR r = canonR r') : r.kind = r'.kind ∧ (r.kind = 1 → r.input = r'.input) ∧ (r.kind = 2 → r.seat = r'.seat ∧ r.frame = r'.frame) ∧ (r.kind = 3 → r.seat = r'.seat ∧ r.frame = r'.frame ∧ r.last = r'.last) := by
  have hk : ∀ r : Rec, (canonR r).kind = r.kind := fun r => by
    unfold canonR
    split
    · rename_i h; exact h.symm
    · split
      · rename_i h; exact h.symm
      · split
        · rename_i h; exact h.symm
        · rfl
  have hkk : r.kind = r'.kind := by rw [← hk r, h, hk]
  refine ⟨hkk, fun h1 => ?_, fun h1 => ?_, fun h1 => ?_⟩
  all_goals
    have h2 := hkk.symm.trans h1
    simp only [canonR, h1, h2] at h
    simp at h
    first | exact h | exact h.1
set_option maxRecDepth 100000 in
theorem sameRec_d {r r' : Rec} (h : canonR r = canonR r') (hk : 1 ≤ r.kind ∧ r.kind ≤ 3) : Does Try.prog 46 [.agg r.cells.toArray, .agg r'.cells.toArray] W [] (fun v L => v = .bool true ∧ L = []) := by
  obtain ⟨h0, h1, h2, h3⟩ := canon_eq h
  obtain ⟨kd, i, s, f, l⟩ := r
  obtain ⟨kd', i', s', f', l'⟩ := r'
  simp only at h0 h1 h2 h3 hk
  subst h0
  unfold Rec.cells
  refine enter Try.func46 rfl rfl rfl (Has.start _) ?_
  refine c_seq ?_
  -- wire.go:314
  refine c_reg ?_
  refine s_n (N_box rfl) rfl rfl (fun b2 _ => ?_)
  refine s_n (N_box rfl) rfl rfl (fun b3 _ => ?_)
  refine s_y (Y_asC) rfl rfl ?_
  refine s_nil ?_
  refine q_then ?_
  refine c_seq ?_
  refine c_block ?_
  refine c_seq ?_
  -- wire.go:316
  refine c_reg ?_
  refine s_y (Y_fa 0 rfl Try.underlying37 rfl sz3 rfl) rfl rfl ?_
  refine s_y ((by first | exact Y_load rfl one3 (by repeat (first | exact List.Mem.head _ | assumption | apply List.Mem.tail | apply List.mem_append_right)) (by rfl) | exact Y_load rfl one3 (by repeat (first | exact List.Mem.head _ | assumption | apply List.Mem.tail | apply List.mem_append_right)) (by assumption) | exact Y_loadR rfl one3 (by assumption) rfl (by assumption))) rfl rfl ?_
  refine s_y (Y_fa 0 rfl Try.underlying37 rfl sz3 rfl) rfl rfl ?_
  refine s_y ((by first | exact Y_load rfl one3 (by repeat (first | exact List.Mem.head _ | assumption | apply List.Mem.tail | apply List.mem_append_right)) (by rfl) | exact Y_load rfl one3 (by repeat (first | exact List.Mem.head _ | assumption | apply List.Mem.tail | apply List.mem_append_right)) (by assumption) | exact Y_loadR rfl one3 (by assumption) rfl (by assumption))) rfl rfl ?_
  refine s_y (Y_neq rfl rfl) rfl rfl ?_
  refine s_y (Y_as) rfl rfl ?_
  refine s_nil ?_
  refine q_then ?_
  refine c_F rfl (by simp) ?_
  refine c_seq ?_
  -- wire.go:318
  refine c_reg ?_
  refine s_y (Y_fa 0 rfl Try.underlying37 rfl sz3 rfl) rfl rfl ?_
  refine s_y ((by first | exact Y_load rfl one3 (by repeat (first | exact List.Mem.head _ | assumption | apply List.Mem.tail | apply List.mem_append_right)) (by rfl) | exact Y_load rfl one3 (by repeat (first | exact List.Mem.head _ | assumption | apply List.Mem.tail | apply List.mem_append_right)) (by assumption) | exact Y_loadR rfl one3 (by assumption) rfl (by assumption))) rfl rfl ?_
  refine s_y (Y_eql rfl rfl) rfl rfl ?_
  refine s_y (Y_as) rfl rfl ?_
  refine s_nil ?_
  refine q_then ?_
  obtain rfl | rfl | rfl : kd = 1 ∨ kd = 2 ∨ kd = 3 := by omega
  · obtain rfl := h1 rfl
    refine c_T rfl rfl ?_
    refine c_seq ?_
    -- wire.go:319
    refine c_reg ?_
    refine s_y (Y_fa 1 rfl Try.underlying37 rfl sz3 rfl) rfl rfl ?_
    refine s_y ((by first | exact Y_load rfl one3 (by repeat (first | exact List.Mem.head _ | assumption | apply List.Mem.tail | apply List.mem_append_right)) (by rfl) | exact Y_load rfl one3 (by repeat (first | exact List.Mem.head _ | assumption | apply List.Mem.tail | apply List.mem_append_right)) (by assumption) | exact Y_loadR rfl one3 (by assumption) rfl (by assumption))) rfl rfl ?_
    refine s_y (Y_fa 1 rfl Try.underlying37 rfl sz3 rfl) rfl rfl ?_
    refine s_y ((by first | exact Y_load rfl one3 (by repeat (first | exact List.Mem.head _ | assumption | apply List.Mem.tail | apply List.mem_append_right)) (by rfl) | exact Y_load rfl one3 (by repeat (first | exact List.Mem.head _ | assumption | apply List.Mem.tail | apply List.mem_append_right)) (by assumption) | exact Y_loadR rfl one3 (by assumption) rfl (by assumption))) rfl rfl ?_
    refine s_y (Y_eql rfl rfl) rfl rfl ?_
    refine s_y (Y_as) rfl rfl ?_
    refine s_nil ?_
    refine q_then ?_
    refine c_ret ?_
    refine q_ret1 (v := .bool true) rfl (by simp [Ov.get]) (L' := []) (by repeat (first | exact List.Sublist.refl _ | exact List.nil_sublist _ | apply List.Sublist.cons_cons | apply List.Sublist.cons)) ⟨rfl, rfl⟩
  · obtain ⟨rfl, rfl⟩ := h2 rfl
    refine c_F rfl rfl ?_
    refine c_seq ?_
    -- wire.go:320
    refine c_reg ?_
    refine s_y (Y_fa 0 rfl Try.underlying37 rfl sz3 rfl) rfl rfl ?_
    refine s_y ((by first | exact Y_load rfl one3 (by repeat (first | exact List.Mem.head _ | assumption | apply List.Mem.tail | apply List.mem_append_right)) (by rfl) | exact Y_load rfl one3 (by repeat (first | exact List.Mem.head _ | assumption | apply List.Mem.tail | apply List.mem_append_right)) (by assumption) | exact Y_loadR rfl one3 (by assumption) rfl (by assumption))) rfl rfl ?_
    refine s_y (Y_eql rfl rfl) rfl rfl ?_
    refine s_y (Y_as) rfl rfl ?_
    refine s_nil ?_
    refine q_then ?_
    refine c_T rfl rfl ?_
    refine c_seq ?_
    -- wire.go:321 GUARDS (op, want): [(5, True)] slots [29]
    refine c_reg ?_
    refine s_y (Y_fa 2 rfl Try.underlying37 rfl sz3 rfl) rfl rfl ?_
    refine s_y ((by first | exact Y_load rfl one3 (by repeat (first | exact List.Mem.head _ | assumption | apply List.Mem.tail | apply List.mem_append_right)) (by rfl) | exact Y_load rfl one3 (by repeat (first | exact List.Mem.head _ | assumption | apply List.Mem.tail | apply List.mem_append_right)) (by assumption) | exact Y_loadR rfl one3 (by assumption) rfl (by assumption))) rfl rfl ?_
    refine s_y (Y_fa 2 rfl Try.underlying37 rfl sz3 rfl) rfl rfl ?_
    refine s_y ((by first | exact Y_load rfl one3 (by repeat (first | exact List.Mem.head _ | assumption | apply List.Mem.tail | apply List.mem_append_right)) (by rfl) | exact Y_load rfl one3 (by repeat (first | exact List.Mem.head _ | assumption | apply List.Mem.tail | apply List.mem_append_right)) (by assumption) | exact Y_loadR rfl one3 (by assumption) rfl (by assumption))) rfl rfl ?_
    refine s_y (Y_eql rfl rfl) rfl rfl ?_
    refine s_y (Y_mv) rfl rfl ?_
    refine s_known (d := 29) rfl (decide_eq_true rfl) ?_
    first | refine s_y (Y_fa 3 rfl Try.underlying37 rfl sz3 rfl) rfl rfl ?_ | refine s_pass rfl rfl ?_
    first | refine s_y ((by first | exact Y_load rfl one3 (by repeat (first | exact List.Mem.head _ | assumption | apply List.Mem.tail | apply List.mem_append_right)) (by rfl) | exact Y_load rfl one3 (by repeat (first | exact List.Mem.head _ | assumption | apply List.Mem.tail | apply List.mem_append_right)) (by assumption) | exact Y_loadR rfl one3 (by assumption) rfl (by assumption))) rfl rfl ?_ | refine s_pass rfl rfl ?_
    first | refine s_y (Y_fa 3 rfl Try.underlying37 rfl sz3 rfl) rfl rfl ?_ | refine s_pass rfl rfl ?_
    first | refine s_y ((by first | exact Y_load rfl one3 (by repeat (first | exact List.Mem.head _ | assumption | apply List.Mem.tail | apply List.mem_append_right)) (by rfl) | exact Y_load rfl one3 (by repeat (first | exact List.Mem.head _ | assumption | apply List.Mem.tail | apply List.mem_append_right)) (by assumption) | exact Y_loadR rfl one3 (by assumption) rfl (by assumption))) rfl rfl ?_ | refine s_pass rfl rfl ?_
    first | refine s_y (Y_eql rfl rfl) rfl rfl ?_ | refine s_pass rfl rfl ?_
    refine s_y (Y_pk rfl (Gx.tmp (by repeat (first | exact Gt.here | apply Gt.there (by rfl) | exact Gt.base (by rfl)))) Gx.const) rfl rfl ?_
    refine s_y (Y_as) rfl rfl ?_
    refine s_nil ?_
    refine q_then ?_
    refine c_ret ?_
    refine q_ret1 (v := .bool true) rfl (by simp [Ov.get]) (L' := []) (by repeat (first | exact List.Sublist.refl _ | exact List.nil_sublist _ | apply List.Sublist.cons_cons | apply List.Sublist.cons)) ⟨rfl, rfl⟩
  · obtain ⟨rfl, rfl, rfl⟩ := h3 rfl
    refine c_F rfl rfl ?_
    refine c_seq ?_
    -- wire.go:320
    refine c_reg ?_
    refine s_y (Y_fa 0 rfl Try.underlying37 rfl sz3 rfl) rfl rfl ?_
    refine s_y ((by first | exact Y_load rfl one3 (by repeat (first | exact List.Mem.head _ | assumption | apply List.Mem.tail | apply List.mem_append_right)) (by rfl) | exact Y_load rfl one3 (by repeat (first | exact List.Mem.head _ | assumption | apply List.Mem.tail | apply List.mem_append_right)) (by assumption) | exact Y_loadR rfl one3 (by assumption) rfl (by assumption))) rfl rfl ?_
    refine s_y (Y_eql rfl rfl) rfl rfl ?_
    refine s_y (Y_as) rfl rfl ?_
    refine s_nil ?_
    refine q_then ?_
    refine c_F rfl rfl ?_
    refine c_seq ?_
    -- wire.go:322
    refine c_reg ?_
    refine s_y (Y_fa 0 rfl Try.underlying37 rfl sz3 rfl) rfl rfl ?_
    refine s_y ((by first | exact Y_load rfl one3 (by repeat (first | exact List.Mem.head _ | assumption | apply List.Mem.tail | apply List.mem_append_right)) (by rfl) | exact Y_load rfl one3 (by repeat (first | exact List.Mem.head _ | assumption | apply List.Mem.tail | apply List.mem_append_right)) (by assumption) | exact Y_loadR rfl one3 (by assumption) rfl (by assumption))) rfl rfl ?_
    refine s_y (Y_eql rfl rfl) rfl rfl ?_
    refine s_y (Y_as) rfl rfl ?_
    refine s_nil ?_
    refine q_then ?_
    refine c_T rfl rfl ?_
    refine c_seq ?_
    refine c_reg ?_
    refine s_y (Y_fa 2 rfl Try.underlying37 rfl sz3 rfl) rfl rfl ?_
    refine s_y ((by first | exact Y_load rfl one3 (by repeat (first | exact List.Mem.head _ | assumption | apply List.Mem.tail | apply List.mem_append_right)) (by rfl) | exact Y_load rfl one3 (by repeat (first | exact List.Mem.head _ | assumption | apply List.Mem.tail | apply List.mem_append_right)) (by assumption) | exact Y_loadR rfl one3 (by assumption) rfl (by assumption))) rfl rfl ?_
    refine s_y (Y_fa 2 rfl Try.underlying37 rfl sz3 rfl) rfl rfl ?_
    refine s_y ((by first | exact Y_load rfl one3 (by repeat (first | exact List.Mem.head _ | assumption | apply List.Mem.tail | apply List.mem_append_right)) (by rfl) | exact Y_load rfl one3 (by repeat (first | exact List.Mem.head _ | assumption | apply List.Mem.tail | apply List.mem_append_right)) (by assumption) | exact Y_loadR rfl one3 (by assumption) rfl (by assumption))) rfl rfl ?_
    refine s_y (Y_eql rfl rfl) rfl rfl ?_
    refine s_y (Y_mv) rfl rfl ?_
    refine s_known (d := 45) rfl (decide_eq_true rfl) ?_
    first | refine s_y (Y_fa 3 rfl Try.underlying37 rfl sz3 rfl) rfl rfl ?_ | refine s_pass rfl rfl ?_
    first | refine s_y ((by first | exact Y_load rfl one3 (by repeat (first | exact List.Mem.head _ | assumption | apply List.Mem.tail | apply List.mem_append_right)) (by rfl) | exact Y_load rfl one3 (by repeat (first | exact List.Mem.head _ | assumption | apply List.Mem.tail | apply List.mem_append_right)) (by assumption) | exact Y_loadR rfl one3 (by assumption) rfl (by assumption))) rfl rfl ?_ | refine s_pass rfl rfl ?_
    first | refine s_y (Y_fa 3 rfl Try.underlying37 rfl sz3 rfl) rfl rfl ?_ | refine s_pass rfl rfl ?_
    first | refine s_y ((by first | exact Y_load rfl one3 (by repeat (first | exact List.Mem.head _ | assumption | apply List.Mem.tail | apply List.mem_append_right)) (by rfl) | exact Y_load rfl one3 (by repeat (first | exact List.Mem.head _ | assumption | apply List.Mem.tail | apply List.mem_append_right)) (by assumption) | exact Y_loadR rfl one3 (by assumption) rfl (by assumption))) rfl rfl ?_ | refine s_pass rfl rfl ?_
    first | refine s_y (Y_eql rfl rfl) rfl rfl ?_ | refine s_pass rfl rfl ?_
    refine s_y (Y_pk rfl (Gx.tmp (by repeat (first | exact Gt.here | apply Gt.there (by rfl) | exact Gt.base (by rfl)))) Gx.const) rfl rfl ?_
    refine s_y (Y_mv) rfl rfl ?_
    refine s_known (d := 52) rfl (decide_eq_true rfl) ?_
    first | refine s_y (Y_fa 4 rfl Try.underlying37 rfl sz3 rfl) rfl rfl ?_ | refine s_pass rfl rfl ?_
    first | refine s_y ((by first | exact Y_load rfl one3 (by repeat (first | exact List.Mem.head _ | assumption | apply List.Mem.tail | apply List.mem_append_right)) (by rfl) | exact Y_load rfl one3 (by repeat (first | exact List.Mem.head _ | assumption | apply List.Mem.tail | apply List.mem_append_right)) (by assumption) | exact Y_loadR rfl one3 (by assumption) rfl (by assumption))) rfl rfl ?_ | refine s_pass rfl rfl ?_
    first | refine s_y (Y_fa 4 rfl Try.underlying37 rfl sz3 rfl) rfl rfl ?_ | refine s_pass rfl rfl ?_
    first | refine s_y ((by first | exact Y_load rfl one3 (by repeat (first | exact List.Mem.head _ | assumption | apply List.Mem.tail | apply List.mem_append_right)) (by rfl) | exact Y_load rfl one3 (by repeat (first | exact List.Mem.head _ | assumption | apply List.Mem.tail | apply List.mem_append_right)) (by assumption) | exact Y_loadR rfl one3 (by assumption) rfl (by assumption))) rfl rfl ?_ | refine s_pass rfl rfl ?_
    first | refine s_y (Y_eql rfl rfl) rfl rfl ?_ | refine s_pass rfl rfl ?_
    refine s_y (Y_pk rfl (Gx.tmp (by repeat (first | exact Gt.here | apply Gt.there (by rfl) | exact Gt.base (by rfl)))) Gx.const) rfl rfl ?_
    refine s_y (Y_as) rfl rfl ?_
    refine s_nil ?_
    refine q_then ?_
    refine c_ret ?_
    refine q_ret1 (v := .bool true) rfl (by simp [Ov.get]) (L' := []) (by repeat (first | exact List.Sublist.refl _ | exact List.nil_sublist _ | apply List.Sublist.cons_cons | apply List.Sublist.cons)) ⟨rfl, rfl⟩
theorem RecsAt.at' {rs : List Rec} (h : RecsAt W a rs) {i : Nat} {r : Rec} (hx : rs[i]? = some r) : ∃ b o, a = some ⟨b, o, none⟩ ∧ Ro W b (o + i * 5) r.cells := by
  rcases h with h | ⟨b, o, h1, h2, h3⟩
  · rw [h] at hx; simp at hx
  · refine ⟨b, o, h1, fun j v hv => ?_⟩
    have hj : j < 5 := (List.getElem?_eq_some_iff.1 hv).1
    have := h3 (i * 5 + j) v (by rw [rcells_at rs i j r hx hj]; exact hv)
    rwa [← Nat.add_assoc] at this
set_option maxRecDepth 100000 in
theorem eqRecs_d {rs rs' : List Rec} (h : RecsAt W a rs) (h' : RecsAt W a' rs') (hl : rs.length = n) (hc : rs.map canonR = rs'.map canonR) (hn : n ≤ 4611686018427387904) (hk : ∀ r ∈ rs, 1 ≤ r.kind ∧ r.kind ≤ 3) : Does Try.prog 45 [.slice a n c, .slice a' n c', .func (.func 46) #[] #[]] W [] (fun v L => v = .bool true ∧ L = []) := by
  have hl' : rs'.length = n := by have := congrArg List.length hc; simp at this; omega
  refine enter Try.func45 rfl rfl rfl (Has.start _) ?_
  refine c_seq ?_
  refine c_reg ?_
  refine s_y (Y_asC) rfl rfl ?_
  refine s_nil ?_
  refine q_then ?_
  refine c_seq ?_
  refine c_seq ?_
  refine c_reg ?_
  refine s_y (Y_mv) rfl rfl ?_
  refine s_y (Y_len rfl rfl Try.underlying25) rfl rfl ?_
  refine s_y (Y_mv) rfl rfl ?_
  refine s_y (Y_len rfl rfl Try.underlying25) rfl rfl ?_
  refine s_y (Y_neq rfl rfl) rfl rfl ?_
  refine s_nil ?_
  refine q_then ?_
  refine c_F rfl (by simp) ?_
  refine c_skip ?_
  refine q_then ?_
  refine c_seq ?_
  refine c_seq ?_
  refine c_reg ?_
  refine s_y (Y_mv) rfl rfl ?_
  refine s_y (Y_len rfl rfl Try.underlying25) rfl rfl ?_
  refine s_y (Y_mvC) rfl rfl ?_
  refine s_nil ?_
  refine q_then ?_
  refine c_block ?_
  refine c_loop [6, 7, 8, 9, 17, 18, 19, 20, 21, 22, 23, 24, 25, 26, 27, 28, 29, 30, 31] (fun n2 i => i + n2 = n) (fun i => [(17, .int .i64 (i : Int))]) (fun _ => []) n 0 (by omega) ⟨rfl, trivial⟩ (fun _ h => h) (fun _ => rfl) ?_
  rintro n2 i j hi K hK
  refine c_seq ?_
  refine c_reg ?_
  refine s_y (Y_lss rfl rfl) rfl rfl ?_
  refine s_nil ?_
  refine q_then ?_
  refine c_seq ?_
  refine c_cond' rfl (fun h1 => ?_) (fun h1 => ?_)
  · obtain ⟨r, hx⟩ : ∃ x, rs[i]? = some x := ⟨rs[i]'(by omega), by simp⟩
    obtain ⟨r', hx'⟩ : ∃ x, rs'[i]? = some x := ⟨rs'[i]'(by omega), by simp⟩
    obtain ⟨b, o, rfl, hr⟩ := h.at' hx
    obtain ⟨b', o', rfl, hr'⟩ := h'.at' hx'
    have hcc : canonR r = canonR r' := by
      have := congrArg (fun l => l[i]?) hc
      simp only [List.getElem?_map, hx, hx', Option.map_some, Option.some.injEq] at this
      exact this
    have hkk := hk r (List.mem_of_getElem? hx)
    refine c_skip ?_
    refine q_then ?_
    refine c_seq ?_
    refine c_block ?_
    refine c_seq ?_
    refine c_reg ?_
    refine s_y (Y_mv) rfl rfl ?_
    refine s_y (Y_ia rfl rfl Try.underlying25 sz37 rfl (by omega)) rfl rfl ?_
    refine s_y (Y_loadNR rfl many37 hr rfl) rfl rfl ?_
    refine s_n (N_alloc (z := .agg #[.int .i64 0, .int .i64 0, .int .i64 0, .int .i64 0, .int .i64 0]) (cs := [.int .i64 0, .int .i64 0, .int .i64 0, .int .i64 0, .int .i64 0]) zv37 rfl) rfl rfl (fun b8 _ => ?_)
    refine s_y (Y_as) rfl rfl ?_
    refine s_s ((by first | exact S_storeA rfl rfl sz37 (by first | rfl | assumption) (by first | rfl | assumption) (by repeat (first | exact Upd.head | apply Upd.tail)) (by first | rfl | assumption) | exact S_storeN rfl rfl sz37 (by rfl) (by first | rfl | assumption) (by repeat (first | exact Upd.head | apply Upd.tail)) (by simp only [setAll, List.set_cons_zero, List.set_cons_succ, Nat.zero_add, Nat.reduceAdd]; rfl) (by first | rfl | assumption))) rfl ?_
    refine s_nil ?_
    refine q_then ?_
    refine c_seq ?_
    refine c_reg ?_
    refine s_y (Y_mv) rfl rfl ?_
    refine s_y (Y_mv) rfl rfl ?_
    refine s_y (Y_ia rfl rfl Try.underlying25 sz37 rfl (by omega)) rfl rfl ?_
    refine s_y (Y_loadNR rfl many37 hr' rfl) rfl rfl ?_
    refine s_n (N_alloc (z := .agg #[.int .i64 0, .int .i64 0, .int .i64 0, .int .i64 0, .int .i64 0]) (cs := [.int .i64 0, .int .i64 0, .int .i64 0, .int .i64 0, .int .i64 0]) zv37 rfl) rfl rfl (fun b9 _ => ?_)
    refine s_s ((by first | exact S_storeA rfl rfl sz37 (by first | rfl | assumption) (by first | rfl | assumption) (by repeat (first | exact Upd.head | apply Upd.tail)) (by first | rfl | assumption) | exact S_storeN rfl rfl sz37 (by rfl) (by first | rfl | assumption) (by repeat (first | exact Upd.head | apply Upd.tail)) (by simp only [setAll, List.set_cons_zero, List.set_cons_succ, Nat.zero_add, Nat.reduceAdd]; rfl) (by first | rfl | assumption))) rfl ?_
    refine s_nil ?_
    refine q_then ?_
    refine c_seq ?_
    refine c_reg ?_
    refine s_y (Y_mv) rfl rfl ?_
    refine s_y ((by first | exact Y_loadAll rfl many37 (by repeat (first | exact List.Mem.head _ | assumption | apply List.Mem.tail | apply List.mem_append_right)) (by rfl) | exact Y_loadN rfl many37 (by repeat (first | exact List.Mem.head _ | assumption | apply List.Mem.tail | apply List.mem_append_right)) ‹_› ‹_› | exact Y_loadNR rfl many37 ‹_› rfl)) rfl rfl ?_
    refine s_y ((by first | exact Y_loadAll rfl many37 (by repeat (first | exact List.Mem.head _ | assumption | apply List.Mem.tail | apply List.mem_append_right)) (by rfl) | exact Y_loadN rfl many37 (by repeat (first | exact List.Mem.head _ | assumption | apply List.Mem.tail | apply List.mem_append_right)) ‹_› ‹_› | exact Y_loadNR rfl many37 ‹_› rfl)) rfl rfl ?_
    refine s_c (En_callV rfl Try.func46 rfl (by kernel_rfl) rfl) (fun w hH => sameRec_d hcc hkk) rfl rfl ?_
    rintro _ _ ⟨rfl, rfl⟩
    refine s_y (Y_not rfl) rfl rfl ?_
    refine s_nil ?_
    refine q_then ?_
    refine c_F rfl (by simp) ?_
    refine c_skip ?_
    refine q_bn ?_
    refine q_then ?_
    refine c_reg ?_
    refine s_y ((by first | exact Y_add rfl rfl (by omega) | exact Y_addw rfl rfl)) rfl rfl ?_
    refine s_y (Y_mv) rfl rfl ?_
    refine s_nil ?_
    refine hK (n2 - 1) (i + 1) _ _ (by omega) (by omega) ⟨rfl, trivial⟩ rfl (fun _ h => h.sub (L' := []) (by repeat (first | exact List.Sublist.refl _ | exact List.nil_sublist _ | apply List.Sublist.cons_cons | apply List.Sublist.cons)))
  · refine c_exit ?_
    repeat with_reducible refine q_te ?_
    refine q_exit ?_
    refine q_then ?_
    refine c_seq ?_
    refine c_reg ?_
    refine s_y (Y_asC) rfl rfl ?_
    refine s_nil ?_
    refine q_then ?_
    refine c_ret ?_
    refine q_ret1 rfl rfl (L' := []) (by repeat (first | exact List.Sublist.refl _ | exact List.nil_sublist _ | apply List.Sublist.cons_cons | apply List.Sublist.cons)) ⟨rfl, rfl⟩
end
end Go.Proofs.Ytphmdhbhoakcaaa
