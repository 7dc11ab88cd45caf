/- The reader: Parse. -/
import Derived.Test.YtphmdhbhoakcaaaR7
import Derived.Test.YtphmdhbhoakcaaaHR
namespace Go.Proofs.Ytphmdhbhoakcaaa
open Go.RowKit Go.Ad Go.Maps
set_option linter.unusedVariables false
set_option linter.unusedSimpArgs false
theorem rdNums_len (bs : List UInt8) : ∀ (js : List Nat) (c : List Value) (k : Nat) (e : Int), (rdNums bs js c k e).1.length = c.length
  | [], _, _, _ => rfl
  | j :: js, c, k, e => by rw [rdNums, rdNums_len bs js]; simp
theorem seatC_len (bs : List UInt8) (p : Nat × Int) (us : Nat → Value) : ∀ (i : Nat) (c : List Value), (seatC bs p us i c).length = c.length
  | 0, _ => rfl
  | i + 1, c => by rw [seatC, List.length_set, List.length_set, seatC_len bs p us i]
theorem FldP.len {bs : List UInt8} {k : Nat} {e kd : Int} {c : List Value} {p : Nat × Int} {bl : List Bk} (h : FldP bs k e kd c p bl) : c.length = 30 := by
  cases h with
  | join => simp [rdNums_len]
  | up h hr =>
    have h1 := rdNums_len bs [1, 2] (zc 2) k e
    rw [h] at h1
    simp only [upR, List.length_set, rdNums_len]; exact h1
  | down h h2 h3 h4 hr =>
    have h1 := rdNums_len bs [1, 2] (zc 3) k e
    rw [h] at h1
    have h5 := congrArg (fun x => x.1.length) h2
    simp only [downH, rdNums_len, List.length_set] at h5
    simp only [List.length_set, seatC_len]; rw [← h5]; exact h1
  | chunk h h2 hd =>
    have h1 := rdNums_len bs [1, 2] (zc 4) k e
    rw [h] at h1
    have h5 := congrArg (fun x => x.1.length) h2
    simp only [chunkR, List.length_set] at h5
    simp only [List.length_set]; rw [← h5]; exact h1
def One1 (c : List Value) : Prop := ∀ v ∈ c, v.oneCell' = true
theorem One1.set {c : List Value} (h : One1 c) {v : Value} (hv : v.oneCell' = true) (j : Nat) : One1 (c.set j v) := fun u hu => by
  rcases List.mem_or_eq_of_mem_set hu with h1 | rfl
  · exact h u h1
  · exact hv
theorem rdNums_1 (bs : List UInt8) : ∀ (js : List Nat) {c : List Value} {k : Nat} {e : Int}, One1 c → One1 (rdNums bs js c k e).1
  | [], _, _, _, h => h
  | j :: js, c, k, e, h => rdNums_1 bs js (h.set rfl _)
theorem seatC_1 (bs : List UInt8) (p : Nat × Int) (us : Nat → Value) : ∀ (i : Nat) {c : List Value}, (∀ s, s < i → (us s).oneCell' = true) → One1 c → One1 (seatC bs p us i c)
  | 0, _, _, h => h
  | i + 1, c, hu, h => ((seatC_1 bs p us i (fun s hs => hu s (by omega)) h).set rfl _).set (hu i (by omega)) _
theorem InRow.one {v : Value} {bl : List Bk} {o : Option (List Int)} (h : InRow v bl o) : v.oneCell' = true := by
  cases o with
  | none => obtain rfl : v = _ := h; rfl
  | some zs => obtain ⟨g, _, rfl⟩ := h; rfl
theorem InStr.one {v : Value} {bl : List Bk} {o : Option (Nat × List Value)} (h : InStr v bl o) : v.oneCell' = true := by
  cases o with
  | none => obtain rfl : v = _ := h; rfl
  | some zs => obtain ⟨g, _, rfl⟩ := h; rfl
theorem InDat.one {v : Value} {bl : List Bk} {l : List UInt8} (h : InDat v bl l) : v.oneCell' = true := by
  rcases h with ⟨_, rfl⟩ | ⟨g, cap, _, _, rfl⟩ <;> rfl
theorem zc_1 (kd : Int) : One1 (zc kd) := by
  intro v hv
  simp only [List.mem_cons, List.not_mem_nil, or_false] at hv
  rcases hv with rfl | rfl | rfl | rfl | rfl | rfl | rfl | rfl | rfl | rfl | rfl | rfl | rfl | rfl | rfl | rfl | rfl | rfl | rfl | rfl | rfl | rfl | rfl | rfl | rfl | rfl | rfl | rfl | rfl | rfl <;> rfl
theorem FldP.one {bs : List UInt8} {k : Nat} {e kd : Int} {c : List Value} {p : Nat × Int} {bl : List Bk} (h : FldP bs k e kd c p bl) : One1 c := by
  cases h with
  | join => exact (rdNums_1 bs _ (zc_1 _)).set rfl _
  | up h hr =>
    have h1 := rdNums_1 bs [1, 2] (k := k) (e := e) (zc_1 2)
    rw [h] at h1
    simp only [upR]
    exact (rdNums_1 bs _ (h1.set rfl _)).set hr.one _
  | down h h2 h3 h4 hr =>
    have h1 := rdNums_1 bs [1, 2] (k := k) (e := e) (zc_1 3)
    rw [h] at h1
    have h5 := congrArg (fun x => x.1) h2
    simp only [downH] at h5
    refine (seatC_1 bs _ _ 4 (fun s hs => (hr s hs).one) (One1.set ?_ h4.one _)).set rfl _
    rw [← h5]
    exact rdNums_1 bs _ ((h1.set rfl _).set rfl _)
  | chunk h h2 hd =>
    have h1 := rdNums_1 bs [1, 2] (k := k) (e := e) (zc_1 4)
    rw [h] at h1
    have h5 := congrArg (fun x => x.1) h2
    simp only [chunkR] at h5
    refine One1.set ?_ hd.one _
    rw [← h5]
    exact ((h1.set rfl _).set rfl _).set rfl _
theorem list30 (c : List Value) (h : c.length = 30) : ∃ v0 v1 v2 v3 v4 v5 v6 v7 v8 v9 v10 v11 v12 v13 v14 v15 v16 v17 v18 v19 v20 v21 v22 v23 v24 v25 v26 v27 v28 v29 : Value, c = [v0, v1, v2, v3, v4, v5, v6, v7, v8, v9, v10, v11, v12, v13, v14, v15, v16, v17, v18, v19, v20, v21, v22, v23, v24, v25, v26, v27, v28, v29] := by
  have key : ∀ (n : Nat) (l : List Value), l.length = n + 1 → ∃ x r, l = x :: r ∧ r.length = n := fun n l hl => by
    cases l with
    | nil => simp at hl
    | cons x r => exact ⟨x, r, rfl, by simpa using hl⟩
  obtain ⟨v0, c0, rfl, h0⟩ := key 29 c h
  obtain ⟨v1, c1, rfl, h1⟩ := key 28 c0 h0
  obtain ⟨v2, c2, rfl, h2⟩ := key 27 c1 h1
  obtain ⟨v3, c3, rfl, h3⟩ := key 26 c2 h2
  obtain ⟨v4, c4, rfl, h4⟩ := key 25 c3 h3
  obtain ⟨v5, c5, rfl, h5⟩ := key 24 c4 h4
  obtain ⟨v6, c6, rfl, h6⟩ := key 23 c5 h5
  obtain ⟨v7, c7, rfl, h7⟩ := key 22 c6 h6
  obtain ⟨v8, c8, rfl, h8⟩ := key 21 c7 h7
  obtain ⟨v9, c9, rfl, h9⟩ := key 20 c8 h8
  obtain ⟨v10, c10, rfl, h10⟩ := key 19 c9 h9
  obtain ⟨v11, c11, rfl, h11⟩ := key 18 c10 h10
  obtain ⟨v12, c12, rfl, h12⟩ := key 17 c11 h11
  obtain ⟨v13, c13, rfl, h13⟩ := key 16 c12 h12
  obtain ⟨v14, c14, rfl, h14⟩ := key 15 c13 h13
  obtain ⟨v15, c15, rfl, h15⟩ := key 14 c14 h14
  obtain ⟨v16, c16, rfl, h16⟩ := key 13 c15 h15
  obtain ⟨v17, c17, rfl, h17⟩ := key 12 c16 h16
  obtain ⟨v18, c18, rfl, h18⟩ := key 11 c17 h17
  obtain ⟨v19, c19, rfl, h19⟩ := key 10 c18 h18
  obtain ⟨v20, c20, rfl, h20⟩ := key 9 c19 h19
  obtain ⟨v21, c21, rfl, h21⟩ := key 8 c20 h20
  obtain ⟨v22, c22, rfl, h22⟩ := key 7 c21 h21
  obtain ⟨v23, c23, rfl, h23⟩ := key 6 c22 h22
  obtain ⟨v24, c24, rfl, h24⟩ := key 5 c23 h23
  obtain ⟨v25, c25, rfl, h25⟩ := key 4 c24 h24
  obtain ⟨v26, c26, rfl, h26⟩ := key 3 c25 h25
  obtain ⟨v27, c27, rfl, h27⟩ := key 2 c26 h26
  obtain ⟨v28, c28, rfl, h28⟩ := key 1 c27 h27
  obtain ⟨v29, c29, rfl, h29⟩ := key 0 c28 h28
  obtain rfl := List.eq_nil_of_length_eq_zero h29
  exact ⟨v0, v1, v2, v3, v4, v5, v6, v7, v8, v9, v10, v11, v12, v13, v14, v15, v16, v17, v18, v19, v20, v21, v22, v23, v24, v25, v26, v27, v28, v29, rfl⟩
inductive ParseP (bs : List UInt8) : Value → List Bk → Prop
  | cut {L : List Bk} (h : bs = []) : ParseP bs (.tuple #[.agg (zc 0).toArray, .int .i64 7]) L
  | kind {L : List Bk} {x : UInt8} {r : List UInt8} (h : bs = x :: r) (hx : ¬ (1 ≤ x.toNat ∧ x.toNat ≤ 4)) : ParseP bs (.tuple #[.agg (zc 0).toArray, .int .i64 3]) L
  | bad {L bl : List Bk} {x : UInt8} {r : List UInt8} {c : List Value} {p : Nat × Int} (h : bs = x :: r) (hx : 1 ≤ x.toNat ∧ x.toNat ≤ 4) (hF : FldP bs 1 0 x.toNat c p bl) (hp : p.1 ≤ bs.length) (he : noted (decide (p.1 = bs.length)) p.2 8 ≠ 0) : ParseP bs (.tuple #[.agg (zc 0).toArray, .int .i64 (noted (decide (p.1 = bs.length)) p.2 8)]) L
  | ok {L : List Bk} {x : UInt8} {r : List UInt8} {c : List Value} (h : bs = x :: r) (hx : 1 ≤ x.toNat ∧ x.toNat ≤ 4) (hF : FldP bs 1 0 x.toNat c (bs.length, 0) L) : ParseP bs (.tuple #[.agg c.toArray, .int .i64 0]) L
section
variable {W : World} {a : Option Addr} {n c : Nat} {bs : List UInt8}
set_option maxRecDepth 100000 in
theorem parse_d (hs : Src W [] a n c bs) : Does Try.prog 14 [.slice a n c] W [] (ParseP bs) := by
  have hlen := hs.len
  have hcap := hs.cap
  have hbig := hs.big
  refine enter Try.func14 rfl rfl rfl (Has.start _) ?_
  refine c_seq ?_
  -- wire.go:286
  refine c_reg ?_
  refine s_n (N_alloc (z := .agg #[.int .i64 0, .int .i64 0, .int .i64 0, .bool false, .int .u32 0, .int .i64 0, .int .i64 0, .int .i64 0, .int .i64 0, .int .i64 0, .int .i64 0, .int .i64 0, .slice none 0 0, .int .i64 0, .int .i64 0, .int .i64 0, .int .i64 0, .slice none 0 0, .int .i64 0, .int .i64 0, .int .i64 0, .int .i64 0, .slice none 0 0, .slice none 0 0, .slice none 0 0, .slice none 0 0, .int .i64 0, .int .i64 0, .int .i64 0, .slice none 0 0]) (cs := [.int .i64 0, .int .i64 0, .int .i64 0, .bool false, .int .u32 0, .int .i64 0, .int .i64 0, .int .i64 0, .int .i64 0, .int .i64 0, .int .i64 0, .int .i64 0, .slice none 0 0, .int .i64 0, .int .i64 0, .int .i64 0, .int .i64 0, .slice none 0 0, .int .i64 0, .int .i64 0, .int .i64 0, .int .i64 0, .slice none 0 0, .slice none 0 0, .slice none 0 0, .slice none 0 0, .int .i64 0, .int .i64 0, .int .i64 0, .slice none 0 0]) zv29 rfl) rfl rfl (fun b2 _ => ?_)
  refine s_y (Y_asC) rfl rfl ?_
  refine s_nil ?_
  refine q_then ?_
  refine c_seq ?_
  refine c_seq ?_
  -- wire.go:287
  refine c_reg ?_
  refine s_y (Y_mv) rfl rfl ?_
  refine s_y (Y_len rfl rfl Try.underlying27) rfl rfl ?_
  refine s_y (Y_eql rfl rfl) rfl rfl ?_
  refine s_nil ?_
  refine q_then ?_
  refine c_cond' rfl (fun h => ?_) (fun h => ?_)
  · refine c_seq ?_
    -- wire.go:288
    refine c_reg ?_
    refine s_y (Y_build (cs := [.int .i64 0, .int .i64 0, .int .i64 0, .bool false, .int .u32 0, .int .i64 0, .int .i64 0, .int .i64 0, .int .i64 0, .int .i64 0, .int .i64 0, .int .i64 0, .slice none 0 0, .int .i64 0, .int .i64 0, .int .i64 0, .int .i64 0, .slice none 0 0, .int .i64 0, .int .i64 0, .int .i64 0, .int .i64 0, .slice none 0 0, .slice none 0 0, .slice none 0 0, .slice none 0 0, .int .i64 0, .int .i64 0, .int .i64 0, .slice none 0 0]) (by repeat (first | exact Gp.nil | apply Gp.const | apply Gp.tmp (by repeat (first | exact Gt.here | apply Gt.there (by rfl) | exact Gt.base (by rfl))))) (bld29 _ _ (by first | rfl | (simp; rfl)))) rfl rfl ?_
    refine s_s ((by first | exact S_storeA rfl rfl sz29 (by first | rfl | assumption) (by first | rfl | assumption) (by repeat (first | exact Upd.head | apply Upd.tail)) (by first | rfl | assumption) | exact S_storeN rfl rfl sz29 (by rfl) (by first | rfl | assumption) (by repeat (first | exact Upd.head | apply Upd.tail)) (by simp only [setAll, List.set_cons_zero, List.set_cons_succ, Nat.zero_add, Nat.reduceAdd]; rfl) (by first | rfl | assumption))) rfl ?_
    refine s_y (Y_asC) rfl rfl ?_
    refine s_nil ?_
    refine q_then ?_
    refine c_ret ?_
    refine q_ret2c rfl rfl many29 rfl (by repeat (first | exact List.Mem.head _ | assumption | apply List.Mem.tail | apply List.mem_append_right)) rfl (L' := []) (by repeat (first | exact List.Sublist.refl _ | exact List.nil_sublist _ | apply List.Sublist.cons_cons | apply List.Sublist.cons)) (.cut ?_)
    exact List.eq_nil_of_length_eq_zero (by omega)
  · obtain ⟨x, r, hbs⟩ : ∃ x r, bs = x :: r := by
      cases bs with
      | nil => simp at hlen; omega
      | cons x r => exact ⟨x, r, rfl⟩
    obtain ⟨bb, o, rfl, hro, hMb, hbb⟩ := hs.ro (by omega)
    have h0 : (bs.map bv)[0]? = some (bv x) := by rw [hbs]; rfl
    have hxt := x.toNat_lt
    refine c_skip ?_
    refine q_then ?_
    refine c_seq ?_
    -- wire.go:290
    refine c_reg ?_
    refine s_y (Y_mv) rfl rfl ?_
    refine s_y (Y_ia1 (n := 0) rfl rfl Try.underlying27 sz5 rfl (by omega)) rfl rfl ?_
    refine s_y (Y_loadR (i := 0) rfl one5 hro rfl h0) rfl rfl ?_
    refine s_y ((by first | exact Y_conv rfl Try.underlying5 Try.underlying3 (by first | exact i64_u8 _ | exact u64_u8 _ | exact i64_id (by omega) | exact u64_id (by omega) | exact u8_id (by omega) | exact u32_id (by omega)) | exact Y_convw rfl Try.underlying5 Try.underlying3)) rfl rfl ?_
    refine s_y (Y_build (cs := zc x.toNat) (by repeat (first | exact Gp.nil | apply Gp.const | apply Gp.tmp (by repeat (first | exact Gt.here | apply Gt.there (by rfl) | exact Gt.base (by rfl))))) (bld29 _ _ (by first | rfl | (simp; rfl)))) rfl rfl ?_
    refine s_n (N_alloc (z := .agg #[.int .i64 0, .int .i64 0, .int .i64 0, .bool false, .int .u32 0, .int .i64 0, .int .i64 0, .int .i64 0, .int .i64 0, .int .i64 0, .int .i64 0, .int .i64 0, .slice none 0 0, .int .i64 0, .int .i64 0, .int .i64 0, .int .i64 0, .slice none 0 0, .int .i64 0, .int .i64 0, .int .i64 0, .int .i64 0, .slice none 0 0, .slice none 0 0, .slice none 0 0, .slice none 0 0, .int .i64 0, .int .i64 0, .int .i64 0, .slice none 0 0]) (cs := [.int .i64 0, .int .i64 0, .int .i64 0, .bool false, .int .u32 0, .int .i64 0, .int .i64 0, .int .i64 0, .int .i64 0, .int .i64 0, .int .i64 0, .int .i64 0, .slice none 0 0, .int .i64 0, .int .i64 0, .int .i64 0, .int .i64 0, .slice none 0 0, .int .i64 0, .int .i64 0, .int .i64 0, .int .i64 0, .slice none 0 0, .slice none 0 0, .slice none 0 0, .slice none 0 0, .int .i64 0, .int .i64 0, .int .i64 0, .slice none 0 0]) zv29 rfl) rfl rfl (fun b4 _ => ?_)
    refine s_s ((by first | exact S_storeA rfl rfl sz29 (by first | rfl | assumption) (by first | rfl | assumption) (by repeat (first | exact Upd.head | apply Upd.tail)) (by first | rfl | assumption) | exact S_storeN rfl rfl sz29 (by rfl) (by first | rfl | assumption) (by repeat (first | exact Upd.head | apply Upd.tail)) (by simp only [setAll, List.set_cons_zero, List.set_cons_succ, Nat.zero_add, Nat.reduceAdd]; rfl) (by first | rfl | assumption))) rfl ?_
    refine s_nil ?_
    refine q_then ?_
    refine c_seq ?_
    refine c_seq ?_
    -- wire.go:291
    refine c_reg ?_
    refine s_y (Y_fa 0 rfl Try.underlying29 rfl sz3 rfl) rfl rfl ?_
    refine s_y ((by first | exact Y_load rfl one3 (by repeat (first | exact List.Mem.head _ | assumption | apply List.Mem.tail | apply List.mem_append_right)) (by rfl) | exact Y_load rfl one3 (by repeat (first | exact List.Mem.head _ | assumption | apply List.Mem.tail | apply List.mem_append_right)) (by assumption) | exact Y_loadR rfl one3 (by assumption) rfl (by assumption))) rfl rfl ?_
    refine s_y (Y_lss rfl rfl) rfl rfl ?_
    refine s_y (Y_mv) rfl rfl ?_
    refine s_split (d := 18) rfl (fun h2 => ?_) (fun h2 => ?_)
    · skip
      first | refine s_y (Y_fa 0 rfl Try.underlying29 rfl sz3 rfl) rfl rfl ?_ | refine s_pass rfl rfl ?_
      first | refine s_y ((by first | exact Y_load rfl one3 (by repeat (first | exact List.Mem.head _ | assumption | apply List.Mem.tail | apply List.mem_append_right)) (by rfl) | exact Y_load rfl one3 (by repeat (first | exact List.Mem.head _ | assumption | apply List.Mem.tail | apply List.mem_append_right)) (by assumption) | exact Y_loadR rfl one3 (by assumption) rfl (by assumption))) rfl rfl ?_ | refine s_pass rfl rfl ?_
      first | refine s_y (Y_gtr rfl rfl) rfl rfl ?_ | refine s_pass rfl rfl ?_
      refine s_y (Y_pk rfl Gx.const (Gx.tmp (by repeat (first | exact Gt.here | apply Gt.there (by rfl) | exact Gt.base (by rfl))))) rfl rfl ?_
      refine s_nil ?_
      refine q_then ?_
      refine c_T rfl rfl ?_
      refine c_seq ?_
      -- wire.go:292
      refine c_reg ?_
      refine s_y (Y_build (cs := [.int .i64 0, .int .i64 0, .int .i64 0, .bool false, .int .u32 0, .int .i64 0, .int .i64 0, .int .i64 0, .int .i64 0, .int .i64 0, .int .i64 0, .int .i64 0, .slice none 0 0, .int .i64 0, .int .i64 0, .int .i64 0, .int .i64 0, .slice none 0 0, .int .i64 0, .int .i64 0, .int .i64 0, .int .i64 0, .slice none 0 0, .slice none 0 0, .slice none 0 0, .slice none 0 0, .int .i64 0, .int .i64 0, .int .i64 0, .slice none 0 0]) (by repeat (first | exact Gp.nil | apply Gp.const | apply Gp.tmp (by repeat (first | exact Gt.here | apply Gt.there (by rfl) | exact Gt.base (by rfl))))) (bld29 _ _ (by first | rfl | (simp; rfl)))) rfl rfl ?_
      refine s_s ((by first | exact S_storeA rfl rfl sz29 (by first | rfl | assumption) (by first | rfl | assumption) (by repeat (first | exact Upd.head | apply Upd.tail)) (by first | rfl | assumption) | exact S_storeN rfl rfl sz29 (by rfl) (by first | rfl | assumption) (by repeat (first | exact Upd.head | apply Upd.tail)) (by simp only [setAll, List.set_cons_zero, List.set_cons_succ, Nat.zero_add, Nat.reduceAdd]; rfl) (by first | rfl | assumption))) rfl ?_
      refine s_y (Y_asC) rfl rfl ?_
      refine s_nil ?_
      refine q_then ?_
      refine c_ret ?_
      refine q_ret2c rfl rfl many29 rfl (by repeat (first | exact List.Mem.head _ | assumption | apply List.Mem.tail | apply List.mem_append_right)) rfl (L' := []) (by repeat (first | exact List.Sublist.refl _ | exact List.nil_sublist _ | apply List.Sublist.cons_cons | apply List.Sublist.cons)) (.kind hbs ?_)
      simp at h2; omega
    first | refine s_y (Y_fa 0 rfl Try.underlying29 rfl sz3 rfl) rfl rfl ?_ | refine s_pass rfl rfl ?_
    first | refine s_y ((by first | exact Y_load rfl one3 (by repeat (first | exact List.Mem.head _ | assumption | apply List.Mem.tail | apply List.mem_append_right)) (by rfl) | exact Y_load rfl one3 (by repeat (first | exact List.Mem.head _ | assumption | apply List.Mem.tail | apply List.mem_append_right)) (by assumption) | exact Y_loadR rfl one3 (by assumption) rfl (by assumption))) rfl rfl ?_ | refine s_pass rfl rfl ?_
    first | refine s_y (Y_gtr rfl rfl) rfl rfl ?_ | refine s_pass rfl rfl ?_
    refine s_y (Y_pk rfl Gx.const (Gx.tmp (by repeat (first | exact Gt.here | apply Gt.there (by rfl) | exact Gt.base (by rfl))))) rfl rfl ?_
    refine s_nil ?_
    refine q_then ?_
    refine c_cond' rfl (fun hx => ?_) (fun hx => ?_)
    · refine c_seq ?_
      -- wire.go:292
      refine c_reg ?_
      refine s_y (Y_build (cs := [.int .i64 0, .int .i64 0, .int .i64 0, .bool false, .int .u32 0, .int .i64 0, .int .i64 0, .int .i64 0, .int .i64 0, .int .i64 0, .int .i64 0, .int .i64 0, .slice none 0 0, .int .i64 0, .int .i64 0, .int .i64 0, .int .i64 0, .slice none 0 0, .int .i64 0, .int .i64 0, .int .i64 0, .int .i64 0, .slice none 0 0, .slice none 0 0, .slice none 0 0, .slice none 0 0, .int .i64 0, .int .i64 0, .int .i64 0, .slice none 0 0]) (by repeat (first | exact Gp.nil | apply Gp.const | apply Gp.tmp (by repeat (first | exact Gt.here | apply Gt.there (by rfl) | exact Gt.base (by rfl))))) (bld29 _ _ (by first | rfl | (simp; rfl)))) rfl rfl ?_
      refine s_s ((by first | exact S_storeA rfl rfl sz29 (by first | rfl | assumption) (by first | rfl | assumption) (by repeat (first | exact Upd.head | apply Upd.tail)) (by first | rfl | assumption) | exact S_storeN rfl rfl sz29 (by rfl) (by first | rfl | assumption) (by repeat (first | exact Upd.head | apply Upd.tail)) (by simp only [setAll, List.set_cons_zero, List.set_cons_succ, Nat.zero_add, Nat.reduceAdd]; rfl) (by first | rfl | assumption))) rfl ?_
      refine s_y (Y_asC) rfl rfl ?_
      refine s_nil ?_
      refine q_then ?_
      refine c_ret ?_
      refine q_ret2c rfl rfl many29 rfl (by repeat (first | exact List.Mem.head _ | assumption | apply List.Mem.tail | apply List.mem_append_right)) rfl (L' := []) (by repeat (first | exact List.Sublist.refl _ | exact List.nil_sublist _ | apply List.Sublist.cons_cons | apply List.Sublist.cons)) (.kind hbs ?_)
      omega
    · replace hx : 1 ≤ x.toNat ∧ x.toNat ≤ 4 := by simp at h2; omega
      refine c_skip ?_
      refine q_then ?_
      refine c_seq ?_
      -- wire.go:294
      refine c_reg ?_
      refine s_y (Y_mv) rfl rfl ?_
      refine s_y (Y_slLo (l := 1) rfl rfl Try.underlying27 sz5 rfl (by omega)) rfl rfl ?_
      refine s_y (Y_build (cs := [.slice (slAt (some ⟨bb, o, none⟩) c 1 1) (n - 1) (c - 1), .int .i64 0, .int .i64 9]) (by repeat (first | exact Gp.nil | apply Gp.const | apply Gp.tmp (by repeat (first | exact Gt.here | apply Gt.there (by rfl) | exact Gt.base (by rfl))))) (bld54 _ _ (by first | rfl | (simp; rfl)))) rfl rfl ?_
      refine s_y (Y_build (cs := [.slice (slAt (some ⟨bb, o, none⟩) c 1 1) (n - 1) (c - 1), .int .i64 0, .int .i64 9]) (by repeat (first | exact Gp.nil | apply Gp.const | apply Gp.tmp (by repeat (first | exact Gt.here | apply Gt.there (by rfl) | exact Gt.base (by rfl))))) (bld68 _ _ (by first | rfl | (simp; rfl)))) rfl rfl ?_
      refine s_n (N_box rfl) rfl rfl (fun b28 _ => ?_)
      refine s_y (Y_as) rfl rfl ?_
      refine s_nil ?_
      refine q_then ?_
      refine c_seq ?_
      have hk1 : RdAt (some ⟨bb, o, none⟩) n c 1 (slAt (some ⟨bb, o, none⟩) c 1 1) := ⟨by omega, fun h1 => by
        have : ¬ c = 1 := by omega
        simp [slAt, this], by unfold slAt; split <;> simp⟩
      -- wire.go:295
      refine c_reg ?_
      refine s_y (Y_mv) rfl rfl ?_
      refine s_y (Y_mkI rfl Try.underlying67 rfl) rfl rfl ?_
      refine s_cm [rd b28 (slAt (some ⟨bb, o, none⟩) c 1 1) n c 1 0, ⟨b4, 29, 30, 1, zc x.toNat⟩] (En_call (fun _ => rfl) Try.func20 rfl (by kernel_rfl) rfl) (by repeat (first | exact Sels.nil | apply Sels.cons (by repeat (first | exact Sel.head | apply Sel.tail)))) (fun w hH => fields_d (bs := bs) (kd := x.toNat) (yt := 29) (yk := 30) (ycap := 1) (a := some ⟨bb, o, none⟩) (by omega) (by omega) hk1 (hH.at' (by repeat (first | exact List.Mem.head _ | assumption | apply List.Mem.tail | apply List.mem_append_right))) (hH.at' (by repeat (first | exact List.Mem.head _ | assumption | apply List.Mem.tail | apply List.mem_append_right))) (ne2 (rd b28 (slAt (some ⟨bb, o, none⟩) c 1 1) n c 1 0) ⟨b4, 29, 30, 1, zc x.toNat⟩ hH (by repeat (first | exact Sels.nil | apply Sels.cons (by repeat (first | exact Sel.head | apply Sel.tail))))) (hs.call2 (rd b28 (slAt (some ⟨bb, o, none⟩) c 1 1) n c 1 0) ⟨b4, 29, 30, 1, zc x.toNat⟩ hH (by repeat (first | exact Sels.nil | apply Sels.cons (by repeat (first | exact Sel.head | apply Sel.tail)))))) rfl rfl ?_
      rintro _ _ ⟨rfl, _, c', p, bl, ⟨a2, rfl, hk2⟩, rfl, hF⟩
      obtain ⟨kp, ep⟩ := p
      simp only at hk2 ⊢
      have hk2n := hk2.le
      refine QL.last ?_
      refine s_nil ?_
      refine q_then ?_
      refine c_seq ?_
      -- wire.go:296
      refine c_rord [10] [(0, true), (1, true), (2, true), (3, true), (4, true), (5, true), (6, true), (7, true), (8, true), (9, true), (10, false)] (by kernel_rfl) (by kernel_rfl) (by kernel_rfl) (by kernel_rfl) rfl (by intro c a d v w h; cases d <;> exact h) rfl ?_
      simp only [mkOrd, List.filterMap_cons, List.filterMap_nil, List.getElem?_toArray, List.getElem?_cons_zero, List.getElem?_cons_succ, Option.map_some]
      refine o_y (Y_mv) rfl rfl ?_
      refine o_y ((by first | exact Y_nil rfl | exact Y_nilF rfl | exact Y_nilM rfl (by assumption) | exact Y_nilM rfl (by intro w k; kernel_rfl))) rfl rfl ?_
      refine o_y (Y_fa 0 rfl Try.underlying68 rfl sz54 rfl) rfl rfl ?_
      refine o_y (Y_mv) rfl rfl ?_
      refine o_y ((by first | exact Y_nil rfl | exact Y_nilF rfl | exact Y_nilM rfl (by assumption) | exact Y_nilM rfl (by intro w k; kernel_rfl))) rfl rfl ?_
      refine o_y (Y_fa 0 rfl Try.underlying68 rfl sz54 rfl) rfl rfl ?_
      refine o_y (Y_fa 0 rfl Try.underlying54 rfl sz27 rfl) rfl rfl ?_
      refine o_y ((by first | exact Y_load rfl one27 (by repeat (first | exact List.Mem.head _ | assumption | apply List.Mem.tail | apply List.mem_append_right)) (by rfl) | exact Y_load rfl one27 (by repeat (first | exact List.Mem.head _ | assumption | apply List.Mem.tail | apply List.mem_append_right)) (by assumption) | exact Y_loadR rfl one27 (by assumption) rfl (by assumption))) rfl rfl ?_
      refine o_y (Y_len rfl rfl Try.underlying27) rfl rfl ?_
      refine o_y (Y_eql rfl rfl) rfl rfl ?_
      refine o_cm [rd b28 a2 n c kp ep] (En_call (fun _ => rfl) Try.func26 rfl (by kernel_rfl) rfl) (by repeat (first | exact Sels.nil | apply Sels.cons (by repeat (first | exact Sel.head | apply Sel.tail)))) (fun w hH => must_d _ _ (hH.at' (by repeat (first | exact List.Mem.head _ | assumption | apply List.Mem.tail | apply List.mem_append_right)))) (fun _ _ h => by obtain ⟨rfl, rfl⟩ := h; exact (by first | exact keep_no rfl | exact keep_sub (by repeat (first | exact List.Sublist.refl _ | exact List.nil_sublist _ | apply List.Sublist.cons_cons | apply List.Sublist.cons)))) rfl rfl ?_
      rintro _ _ ⟨rfl, rfl⟩
      refine o_nil ?_
      refine q_then ?_
      have hn0 : decide (((n - kp : Nat) : Int) = 0) = decide (kp = bs.length) := by
        rw [hlen]; congr 1; apply propext; omega
      rw [hn0]
      obtain ⟨e9, he9⟩ : ∃ e9, noted (decide (kp = bs.length)) ep 8 = e9 := ⟨_, rfl⟩
      rw [he9]
      refine c_seq ?_
      refine c_seq ?_
      -- wire.go:297
      refine c_reg ?_
      refine s_y (Y_mv) rfl rfl ?_
      refine s_y ((by first | exact Y_nil rfl | exact Y_nilF rfl | exact Y_nilM rfl (by assumption) | exact Y_nilM rfl (by intro w k; kernel_rfl))) rfl rfl ?_
      refine s_y (Y_fa 0 rfl Try.underlying68 rfl sz54 rfl) rfl rfl ?_
      refine s_cm [wk b28 68 a2 (n - kp) (c - kp) e9 9] (En_call (fun _ => rfl) Try.func21 rfl (by kernel_rfl) rfl) (by repeat (first | exact Sels.nil | apply Sels.cons (by repeat (first | exact Sel.head | apply Sel.tail)))) (fun w hH => failed_d (hH.at' (by repeat (first | exact List.Mem.head _ | assumption | apply List.Mem.tail | apply List.mem_append_right)))) rfl rfl ?_
      rintro _ _ ⟨rfl, rfl⟩
      refine s_nil ?_
      refine q_then ?_
      refine c_cond' rfl (fun h9 => ?_) (fun h9 => ?_)
      · refine c_seq ?_
        -- wire.go:298
        refine c_rord [] [(0, true), (1, true), (2, true), (3, true), (4, true), (5, true), (6, false), (7, true)] (by kernel_rfl) (by kernel_rfl) (by kernel_rfl) (by kernel_rfl) rfl (by intro c a d v w h; cases d <;> exact h) rfl ?_
        simp only [mkOrd, List.filterMap_cons, List.filterMap_nil, List.getElem?_toArray, List.getElem?_cons_zero, List.getElem?_cons_succ, Option.map_some]
        refine o_y (Y_build (cs := [.int .i64 0, .int .i64 0, .int .i64 0, .bool false, .int .u32 0, .int .i64 0, .int .i64 0, .int .i64 0, .int .i64 0, .int .i64 0, .int .i64 0, .int .i64 0, .slice none 0 0, .int .i64 0, .int .i64 0, .int .i64 0, .int .i64 0, .slice none 0 0, .int .i64 0, .int .i64 0, .int .i64 0, .int .i64 0, .slice none 0 0, .slice none 0 0, .slice none 0 0, .slice none 0 0, .int .i64 0, .int .i64 0, .int .i64 0, .slice none 0 0]) (by repeat (first | exact Gp.nil | apply Gp.const | apply Gp.tmp (by repeat (first | exact Gt.here | apply Gt.there (by rfl) | exact Gt.base (by rfl))))) (bld29 _ _ (by first | rfl | (simp; rfl)))) rfl rfl ?_
        refine o_y (Y_mv) rfl rfl ?_
        refine o_y ((by first | exact Y_nil rfl | exact Y_nilF rfl | exact Y_nilM rfl (by assumption) | exact Y_nilM rfl (by intro w k; kernel_rfl))) rfl rfl ?_
        refine o_y (Y_fa 0 rfl Try.underlying68 rfl sz54 rfl) rfl rfl ?_
        refine o_y (Y_fa 1 rfl Try.underlying54 rfl sz33 rfl) rfl rfl ?_
        refine o_y ((by first | exact Y_load rfl one33 (by repeat (first | exact List.Mem.head _ | assumption | apply List.Mem.tail | apply List.mem_append_right)) (by rfl) | exact Y_load rfl one33 (by repeat (first | exact List.Mem.head _ | assumption | apply List.Mem.tail | apply List.mem_append_right)) (by assumption) | exact Y_loadR rfl one33 (by assumption) rfl (by assumption))) rfl rfl ?_
        refine o_s ((by first | exact S_storeA rfl rfl sz29 (by first | rfl | assumption) (by first | rfl | assumption) (by repeat (first | exact Upd.head | apply Upd.tail)) (by first | rfl | assumption) | exact S_storeN rfl rfl sz29 (by rfl) (by first | rfl | assumption) (by repeat (first | exact Upd.head | apply Upd.tail)) (by simp only [setAll, List.set_cons_zero, List.set_cons_succ, Nat.zero_add, Nat.reduceAdd]; rfl) (by first | rfl | assumption))) (by first | exact keep_no rfl | exact keep_sub (by repeat (first | exact List.Sublist.refl _ | exact List.nil_sublist _ | apply List.Sublist.cons_cons | apply List.Sublist.cons))) rfl ?_
        refine o_y (Y_as) rfl rfl ?_
        refine o_nil ?_
        refine q_then ?_
        refine c_ret ?_
        refine q_ret2c rfl rfl many29 rfl (by repeat (first | exact List.Mem.head _ | assumption | apply List.Mem.tail | apply List.mem_append_right)) rfl (L' := []) (by repeat (first | exact List.Sublist.refl _ | exact List.nil_sublist _ | apply List.Sublist.cons_cons | apply List.Sublist.cons)) ?_
        rw [← he9]
        exact .bad hbs hx hF (by rw [hlen]; exact hk2n) (by rw [he9]; exact h9)
      · replace h9 : e9 = 0 := by omega
        have hend : ep = 0 ∧ kp = bs.length := by
          rw [h9] at he9
          unfold noted at he9
          by_cases h1 : kp = bs.length
          · simp [h1] at he9; exact ⟨he9, h1⟩
          · by_cases h2 : ep = 0 <;> simp [h1, h2] at he9
        obtain ⟨rfl, rfl⟩ := hend
        have h30 := hF.len
        have hone := List.all_eq_true.2 hF.one
        refine c_skip ?_
        refine q_then ?_
        refine c_seq ?_
        -- wire.go:300
        refine c_reg ?_
        refine s_y (Y_loadAll rfl many29 (by repeat (first | exact List.Mem.head _ | assumption | apply List.Mem.tail | apply List.mem_append_right)) h30) rfl rfl ?_
        refine s_s (S_storeA rfl rfl sz29 h30 hone (by repeat (first | exact Upd.head | apply Upd.tail)) (by rw [h30]; rfl)) rfl ?_
        refine s_y (Y_asC) rfl rfl ?_
        refine s_nil ?_
        refine q_then ?_
        refine c_ret ?_
        refine q_ret2c rfl rfl many29 rfl (by repeat (first | exact List.Mem.head _ | assumption | apply List.Mem.tail | apply List.mem_append_right)) h30 (L' := bl) ?_ (.ok hbs hx hF)
        exact .cons _ (.cons _ (.cons _ (.refl _)))
end
end Go.Proofs.Ytphmdhbhoakcaaa
