/- The reader of aditref15: byte, wide, num, small. -/
import Derived.Test.YtphmdhbhoakcaaaRW
namespace Go.Proofs.Ytphmdhbhoakcaaa
open Go.RowKit Go.Ad Go.Maps
set_option linter.unusedVariables false
set_option linter.unusedSimpArgs false
abbrev ib (b : Nat) (a : Option Addr) (n c k : Nat) (e : Int) : Bk := ⟨b, 72, 3, 1, [.slice a n c, .int .i64 (k : Int), .int .i64 e]⟩
section
variable {W : World} {b : Nat} {a : Option Addr} {n c k : Nat} {e : Int} {bs : List UInt8}
theorem rdRaw_le {m : Nat} (hk : k ≤ bs.length) : (rdRaw bs m k e).2.1 ≤ bs.length := by
  unfold rdRaw
  split
  · split
    · assumption
    · exact hk
  · exact hk
theorem rdRaw_one {x : UInt8} (h : bs[k]? = some x) : rdRaw bs 1 k 0 = (x.toNat, k + 1, 0) := by
  have hl := (List.getElem?_eq_some_iff.1 h).1
  have : (bs.drop k).take 1 = [x] := by
    rw [List.take_add_one, List.getElem?_drop]
    simp [h]
  simp only [rdRaw, if_true, show k + 1 ≤ bs.length from hl, this]
  simp [beval]
set_option maxRecDepth 100000 in
theorem byte_d (hx : (ib b a n c k e).holds W) (hs : Src W [b] a n c bs) (hk : k ≤ n) : Does Try.prog 27 [ptr b] W [b] (fun v L => v = .int .i64 ((rdRaw bs 1 k e).1 : Int) ∧ L = [ib b a n c (rdRaw bs 1 k e).2.1 (rdRaw bs 1 k e).2.2]) := by
  have hlen := hs.len
  have hcap := hs.cap
  have hbig := hs.big
  refine enter Try.func27 rfl rfl rfl (Has.start1 hx) ?_
  refine c_seq ?_
  -- ref.go:155
  refine c_reg ?_
  refine s_y (Y_asC) rfl rfl ?_
  refine s_nil ?_
  refine q_then ?_
  refine c_seq ?_
  refine c_seq ?_
  -- ref.go:156
  refine c_reg ?_
  refine s_y (Y_mv) rfl rfl ?_
  refine s_y ((by first | exact Y_nil rfl | exact Y_nilF rfl | exact Y_nilM rfl (by assumption) | exact Y_nilM rfl (by intro w k; kernel_rfl))) rfl rfl ?_
  refine s_y (Y_fa 2 rfl Try.underlying72 rfl sz3 rfl) rfl rfl ?_
  refine s_y ((by first | exact Y_load rfl one3 (by repeat (first | exact List.Mem.head _ | assumption | apply List.Mem.tail | apply List.mem_append_right)) (by rfl) | exact Y_load rfl one3 (by repeat (first | exact List.Mem.head _ | assumption | apply List.Mem.tail | apply List.mem_append_right)) (by assumption) | exact Y_loadR rfl one3 (by assumption) rfl (by assumption))) rfl rfl ?_
  refine s_y (Y_neq rfl rfl) rfl rfl ?_
  refine s_nil ?_
  refine q_then ?_
  refine c_cond' rfl (fun h => ?_) (fun h => ?_)
  · have hR : rdRaw bs 1 k e = (0, k, e) := by simp [rdRaw, h]
    rw [hR]
    refine c_seq ?_
    -- ref.go:157
    refine c_reg ?_
    refine s_y (Y_asC) rfl rfl ?_
    refine s_nil ?_
    refine q_then ?_
    refine c_ret ?_
    refine q_ret1 rfl rfl (L' := _) (by repeat (first | exact List.Sublist.refl _ | exact List.nil_sublist _ | apply List.Sublist.cons_cons | apply List.Sublist.cons)) ⟨rfl, rfl⟩
  · obtain rfl : e = 0 := by omega
    refine c_skip ?_
    refine q_then ?_
    refine c_seq ?_
    refine c_seq ?_
    -- ref.go:159
    refine c_rord [] [(0, true), (1, true), (2, true), (3, true), (4, true), (5, true), (6, true), (7, true), (8, true), (9, true)] (by kernel_rfl) (by kernel_rfl) (by kernel_rfl) (by kernel_rfl) rfl (by intro c a d v w h; cases d <;> exact h) rfl ?_
    simp only [mkOrd, List.filterMap_cons, List.filterMap_nil, List.getElem?_toArray, List.getElem?_cons_zero, List.getElem?_cons_succ, Option.map_some]
    refine o_y (Y_mv) rfl rfl ?_
    refine o_y ((by first | exact Y_nil rfl | exact Y_nilF rfl | exact Y_nilM rfl (by assumption) | exact Y_nilM rfl (by intro w k; kernel_rfl))) rfl rfl ?_
    refine o_y (Y_fa 1 rfl Try.underlying72 rfl sz3 rfl) rfl rfl ?_
    refine o_y ((by first | exact Y_load rfl one3 (by repeat (first | exact List.Mem.head _ | assumption | apply List.Mem.tail | apply List.mem_append_right)) (by rfl) | exact Y_load rfl one3 (by repeat (first | exact List.Mem.head _ | assumption | apply List.Mem.tail | apply List.mem_append_right)) (by assumption) | exact Y_loadR rfl one3 (by assumption) rfl (by assumption))) rfl rfl ?_
    refine o_y (Y_mv) rfl rfl ?_
    refine o_y ((by first | exact Y_nil rfl | exact Y_nilF rfl | exact Y_nilM rfl (by assumption) | exact Y_nilM rfl (by intro w k; kernel_rfl))) rfl rfl ?_
    refine o_y (Y_fa 0 rfl Try.underlying72 rfl sz27 rfl) rfl rfl ?_
    refine o_y ((by first | exact Y_load rfl one27 (by repeat (first | exact List.Mem.head _ | assumption | apply List.Mem.tail | apply List.mem_append_right)) (by rfl) | exact Y_load rfl one27 (by repeat (first | exact List.Mem.head _ | assumption | apply List.Mem.tail | apply List.mem_append_right)) (by assumption) | exact Y_loadR rfl one27 (by assumption) rfl (by assumption))) rfl rfl ?_
    refine o_y (Y_len rfl rfl Try.underlying27) rfl rfl ?_
    refine o_y (Y_geq rfl rfl) rfl rfl ?_
    refine o_nil ?_
    refine q_then ?_
    refine c_cond' rfl (fun h2 => ?_) (fun h2 => ?_)
    · have hR : rdRaw bs 1 k 0 = (0, k, 7) := by
        have : ¬ (k + 1 ≤ bs.length) := by omega
        simp [rdRaw, this]
      rw [hR]
      refine c_seq ?_
      -- ref.go:160
      refine c_reg ?_
      refine s_y (Y_mv) rfl rfl ?_
      refine s_y ((by first | exact Y_nil rfl | exact Y_nilF rfl | exact Y_nilM rfl (by assumption) | exact Y_nilM rfl (by intro w k; kernel_rfl))) rfl rfl ?_
      refine s_y (Y_fa 2 rfl Try.underlying72 rfl sz3 rfl) rfl rfl ?_
      refine s_s (S_stC rfl sz3 (by rfl) (by repeat (first | exact Upd.head | apply Upd.tail)) (by first | (simp only [Nat.zero_add, Nat.reduceAdd, List.set_cons_succ, List.set_cons_zero]; rfl) | rfl) (by first | (simp; done) | omega)) rfl ?_
      refine s_nil ?_
      refine q_then ?_
      refine c_seq ?_
      -- ref.go:161
      refine c_reg ?_
      refine s_y (Y_asC) rfl rfl ?_
      refine s_nil ?_
      refine q_then ?_
      refine c_ret ?_
      refine q_ret1 rfl rfl (L' := _) (by repeat (first | exact List.Sublist.refl _ | exact List.nil_sublist _ | apply List.Sublist.cons_cons | apply List.Sublist.cons)) ⟨rfl, rfl⟩
    · refine c_skip ?_
      refine q_then ?_
      refine c_seq ?_
      -- ref.go:163
      refine c_reg ?_
      refine s_y (Y_mv) rfl rfl ?_
      refine s_y ((by first | exact Y_nil rfl | exact Y_nilF rfl | exact Y_nilM rfl (by assumption) | exact Y_nilM rfl (by intro w k; kernel_rfl))) rfl rfl ?_
      refine s_y (Y_fa 1 rfl Try.underlying72 rfl sz3 rfl) rfl rfl ?_
      refine s_y ((by first | exact Y_load rfl one3 (by repeat (first | exact List.Mem.head _ | assumption | apply List.Mem.tail | apply List.mem_append_right)) (by rfl) | exact Y_load rfl one3 (by repeat (first | exact List.Mem.head _ | assumption | apply List.Mem.tail | apply List.mem_append_right)) (by assumption) | exact Y_loadR rfl one3 (by assumption) rfl (by assumption))) rfl rfl ?_
      refine s_y ((by first | exact Y_add rfl rfl (by omega) | exact Y_addw rfl rfl)) rfl rfl ?_
      refine s_y ((by first | exact Y_nil rfl | exact Y_nilF rfl | exact Y_nilM rfl (by assumption) | exact Y_nilM rfl (by intro w k; kernel_rfl))) rfl rfl ?_
      refine s_y (Y_fa 1 rfl Try.underlying72 rfl sz3 rfl) rfl rfl ?_
      refine s_s (S_st rfl (by repeat (first | exact Gt.here | apply Gt.there (by rfl) | exact Gt.base (by rfl))) sz3 (by rfl) (by repeat (first | exact Upd.head | apply Upd.tail)) (by first | (simp only [Nat.zero_add, Nat.reduceAdd, List.set_cons_succ, List.set_cons_zero]; rfl) | rfl) (by first | (simp; done) | omega)) rfl ?_
      refine s_nil ?_
      refine q_then ?_
      refine c_seq ?_
      -- ref.go:164
      obtain ⟨x, hpx⟩ : ∃ x, bs[k]? = some x := ⟨bs[k]'(by omega), by simp⟩
      rw [rdRaw_one hpx]
      obtain ⟨bb, o, rfl, hr, hMb, _⟩ := hs.ro (by omega)
      have hxx : (bs.map bv)[k]? = some (bv x) := by simp [hpx]
      refine c_rord [] [(0, true), (1, true), (2, true), (3, true), (4, true), (5, true), (6, true), (7, true), (8, true), (9, true), (10, true), (11, true), (12, true)] (by kernel_rfl) (by kernel_rfl) (by kernel_rfl) (by kernel_rfl) rfl (by intro c a d v w h; cases d <;> exact h) rfl ?_
      simp only [mkOrd, List.filterMap_cons, List.filterMap_nil, List.getElem?_toArray, List.getElem?_cons_zero, List.getElem?_cons_succ, Option.map_some]
      refine o_y (Y_mv) rfl rfl ?_
      refine o_y ((by first | exact Y_nil rfl | exact Y_nilF rfl | exact Y_nilM rfl (by assumption) | exact Y_nilM rfl (by intro w k; kernel_rfl))) rfl rfl ?_
      refine o_y (Y_fa 0 rfl Try.underlying72 rfl sz27 rfl) rfl rfl ?_
      refine o_y ((by first | exact Y_load rfl one27 (by repeat (first | exact List.Mem.head _ | assumption | apply List.Mem.tail | apply List.mem_append_right)) (by rfl) | exact Y_load rfl one27 (by repeat (first | exact List.Mem.head _ | assumption | apply List.Mem.tail | apply List.mem_append_right)) (by assumption) | exact Y_loadR rfl one27 (by assumption) rfl (by assumption))) rfl rfl ?_
      refine o_y (Y_mv) rfl rfl ?_
      refine o_y ((by first | exact Y_nil rfl | exact Y_nilF rfl | exact Y_nilM rfl (by assumption) | exact Y_nilM rfl (by intro w k; kernel_rfl))) rfl rfl ?_
      refine o_y (Y_fa 1 rfl Try.underlying72 rfl sz3 rfl) rfl rfl ?_
      refine o_y ((by first | exact Y_load rfl one3 (by repeat (first | exact List.Mem.head _ | assumption | apply List.Mem.tail | apply List.mem_append_right)) (by rfl) | exact Y_load rfl one3 (by repeat (first | exact List.Mem.head _ | assumption | apply List.Mem.tail | apply List.mem_append_right)) (by assumption) | exact Y_loadR rfl one3 (by assumption) rfl (by assumption))) rfl rfl ?_
      refine o_y ((by first | exact Y_sub rfl rfl (by omega) | exact Y_subw rfl rfl)) rfl rfl ?_
      refine o_y (Y_ia1 (n := k) rfl rfl Try.underlying27 sz5 (by omega) (by omega)) rfl rfl ?_
      refine o_y (Y_loadR rfl one5 hr rfl hxx hMb) rfl rfl ?_
      refine o_y ((by first | exact Y_conv rfl Try.underlying5 Try.underlying3 (by first | exact i64_u8 _ | exact u64_u8 _ | exact i64_id (by omega) | exact u64_id (by omega) | exact u8_id (by omega) | exact u32_id (by omega)) | exact Y_convw rfl Try.underlying5 Try.underlying3)) rfl rfl ?_
      refine o_y (Y_as) rfl rfl ?_
      refine o_nil ?_
      refine q_then ?_
      refine c_ret ?_
      refine q_ret1 rfl rfl (L' := _) (by repeat (first | exact List.Sublist.refl _ | exact List.nil_sublist _ | apply List.Sublist.cons_cons | apply List.Sublist.cons)) ⟨rfl, rfl⟩
/-! ### Four bytes, one by one -/
def wideF (bs : List UInt8) (k : Nat) (e : Int) : Nat → Nat × Nat × Int
  | 0 => (0, k, e)
  | i + 1 => ((wideF bs k e i).1 * 256 + (rdRaw bs 1 (wideF bs k e i).2.1 (wideF bs k e i).2.2).1, (rdRaw bs 1 (wideF bs k e i).2.1 (wideF bs k e i).2.2).2)
theorem wideF_le (hk : k ≤ bs.length) : ∀ i, (wideF bs k e i).2.1 ≤ bs.length
  | 0 => hk
  | i + 1 => rdRaw_le (wideF_le hk i)
theorem rdRaw1_lt : (rdRaw bs 1 k e).1 < 256 := by
  unfold rdRaw
  split
  · split
    · refine Nat.lt_of_lt_of_le (beval_lt _) ?_
      have : ((bs.drop k).take 1).length ≤ 1 := by simp; omega
      exact Nat.le_trans (Nat.pow_le_pow_right (by omega) this) (by decide)
    · simp
  · simp
theorem wideF_lt : ∀ i, (wideF bs k e i).1 < 256 ^ i
  | 0 => by simp [wideF]
  | i + 1 => by
    have h1 := wideF_lt i
    have h2 := rdRaw1_lt (bs := bs) (k := (wideF bs k e i).2.1) (e := (wideF bs k e i).2.2)
    rw [wideF, Nat.pow_succ]
    simp only
    omega
theorem wideF_bad (h : e ≠ 0) : ∀ i, wideF bs k e i = (0, k, e)
  | 0 => rfl
  | i + 1 => by
    rw [wideF, wideF_bad h i]
    simp [rdRaw, h]
theorem wideF_ok (h : k + 4 ≤ bs.length) : ∀ i, i ≤ 4 → wideF bs k 0 i = (beval ((bs.drop k).take i), k + i, 0)
  | 0, _ => by simp [wideF, beval]
  | i + 1, hi => by
    obtain ⟨x, hx⟩ : ∃ x, bs[k + i]? = some x := ⟨bs[k + i]'(by omega), by simp⟩
    rw [wideF, wideF_ok h i (by omega)]
    simp only
    rw [rdRaw_one hx, List.take_add_one, List.getElem?_drop, hx, Option.toList_some, beval_snoc]
    rfl
theorem wideF_four : wideF bs k (if e = 0 ∧ ¬ (k + 4 ≤ bs.length) then 7 else e) 4 = rdRaw bs 4 k e := by
  by_cases h : e = 0
  · subst h
    by_cases h2 : k + 4 ≤ bs.length
    · simp only [h2, not_true, and_false, if_false]
      rw [wideF_ok h2 4 (by omega)]
      simp only [rdRaw, if_true, h2]
    · simp only [h2, not_false_eq_true, and_self, if_true]
      rw [wideF_bad (by omega)]
      simp [rdRaw, h2]
  · simp only [h, false_and, if_false]
    rw [wideF_bad h]
    simp [rdRaw, h]
theorem shl_or_i (v x : Nat) (hv : v < 16777216) (hx : x < 256) : IntKind.i64.wrap (BitVec.ofInt 64 (IntKind.i64.wrap ((v : Int) * 2 ^ 8)) ||| BitVec.ofInt 64 (x : Int)).toNat = ((v * 256 + x : Nat) : Int) := by
  rw [i64_id (n := (v : Int) * 2 ^ 8) (by omega)]
  have h1 : BitVec.ofInt 64 ((v : Int) * 2 ^ 8) = BitVec.ofNat 64 (v * 256) := by
    rw [show (v : Int) * 2 ^ 8 = ((v * 256 : Nat) : Int) by omega, BitVec.ofInt_natCast]
  rw [h1, BitVec.ofInt_natCast, BitVec.toNat_or, BitVec.toNat_ofNat, BitVec.toNat_ofNat, Nat.mod_eq_of_lt (by omega), Nat.mod_eq_of_lt (by omega)]
  have h2 := Nat.shiftLeft_add_eq_or_of_lt (i := 8) (b := x) (by omega) v
  rw [Nat.shiftLeft_eq] at h2
  rw [← h2]
  exact i64_id (by omega)
set_option maxRecDepth 100000 in
theorem wide_d (hx : (ib b a n c k e).holds W) (hs : Src W [b] a n c bs) (hk : k ≤ n) : Does Try.prog 30 [ptr b] W [b] (fun v L => v = .int .i64 ((rdRaw bs 4 k e).1 : Int) ∧ L = [ib b a n c (rdRaw bs 4 k e).2.1 (rdRaw bs 4 k e).2.2]) := by
  have hlen := hs.len
  have hcap := hs.cap
  have hbig := hs.big
  have he1 := wideF_four (bs := bs) (k := k) (e := e)
  refine enter Try.func30 rfl rfl rfl (Has.start1 hx) ?_
  refine c_seq ?_
  -- ref.go:167
  refine c_reg ?_
  refine s_y (Y_asC) rfl rfl ?_
  refine s_nil ?_
  refine q_then ?_
  refine c_seq ?_
  refine c_seq ?_
  by_cases h0 : e = 0
  · subst h0
    -- ref.go:168 GUARDS (op, want): [(5, True)] slots [10]
    refine c_rord [] [(0, true), (1, true), (2, true), (3, true), (4, true), (5, true), (6, true), (7, true), (8, true), (9, true), (10, true), (11, true), (12, true), (13, true), (14, true), (15, true), (16, true), (17, true)] (by kernel_rfl) (by kernel_rfl) (by kernel_rfl) (by kernel_rfl) rfl (by intro c a d v w h; cases d <;> exact h) rfl ?_
    simp only [mkOrd, List.filterMap_cons, List.filterMap_nil, List.getElem?_toArray, List.getElem?_cons_zero, List.getElem?_cons_succ, Option.map_some]
    refine o_y (Y_mv) rfl rfl ?_
    refine o_y ((by first | exact Y_nil rfl | exact Y_nilF rfl | exact Y_nilM rfl (by assumption) | exact Y_nilM rfl (by intro w k; kernel_rfl))) rfl rfl ?_
    refine o_y (Y_fa 2 rfl Try.underlying72 rfl sz3 rfl) rfl rfl ?_
    refine o_y ((by first | exact Y_load rfl one3 (by repeat (first | exact List.Mem.head _ | assumption | apply List.Mem.tail | apply List.mem_append_right)) (by rfl) | exact Y_load rfl one3 (by repeat (first | exact List.Mem.head _ | assumption | apply List.Mem.tail | apply List.mem_append_right)) (by assumption) | exact Y_loadR rfl one3 (by assumption) rfl (by assumption))) rfl rfl ?_
    refine o_y (Y_eql rfl rfl) rfl rfl ?_
    refine o_y (Y_mv) rfl rfl ?_
    first | refine o_y (Y_mv) rfl rfl ?_ | refine o_pass rfl rfl ?_
    first | refine o_y ((by first | exact Y_nil rfl | exact Y_nilF rfl | exact Y_nilM rfl (by assumption) | exact Y_nilM rfl (by intro w k; kernel_rfl))) rfl rfl ?_ | refine o_pass rfl rfl ?_
    first | refine o_y (Y_fa 0 rfl Try.underlying72 rfl sz27 rfl) rfl rfl ?_ | refine o_pass rfl rfl ?_
    first | refine o_y ((by first | exact Y_load rfl one27 (by repeat (first | exact List.Mem.head _ | assumption | apply List.Mem.tail | apply List.mem_append_right)) (by rfl) | exact Y_load rfl one27 (by repeat (first | exact List.Mem.head _ | assumption | apply List.Mem.tail | apply List.mem_append_right)) (by assumption) | exact Y_loadR rfl one27 (by assumption) rfl (by assumption))) rfl rfl ?_ | refine o_pass rfl rfl ?_
    first | refine o_y (Y_len rfl rfl Try.underlying27) rfl rfl ?_ | refine o_pass rfl rfl ?_
    first | refine o_y (Y_mv) rfl rfl ?_ | refine o_pass rfl rfl ?_
    first | refine o_y ((by first | exact Y_nil rfl | exact Y_nilF rfl | exact Y_nilM rfl (by assumption) | exact Y_nilM rfl (by intro w k; kernel_rfl))) rfl rfl ?_ | refine o_pass rfl rfl ?_
    first | refine o_y (Y_fa 1 rfl Try.underlying72 rfl sz3 rfl) rfl rfl ?_ | refine o_pass rfl rfl ?_
    first | refine o_y ((by first | exact Y_load rfl one3 (by repeat (first | exact List.Mem.head _ | assumption | apply List.Mem.tail | apply List.mem_append_right)) (by rfl) | exact Y_load rfl one3 (by repeat (first | exact List.Mem.head _ | assumption | apply List.Mem.tail | apply List.mem_append_right)) (by assumption) | exact Y_loadR rfl one3 (by assumption) rfl (by assumption))) rfl rfl ?_ | refine o_pass rfl rfl ?_
    first | refine o_y ((by first | exact Y_sub rfl rfl (by omega) | exact Y_subw rfl rfl)) rfl rfl ?_ | refine o_pass rfl rfl ?_
    first | refine o_y (Y_lss rfl rfl) rfl rfl ?_ | refine o_pass rfl rfl ?_
    refine o_y (Y_pk rfl (Gx.tmp (by repeat (first | exact Gt.here | apply Gt.there (by rfl) | exact Gt.base (by rfl)))) Gx.const) rfl rfl ?_
    refine o_nil ?_
    refine q_then ?_
    by_cases h4 : k + 4 ≤ bs.length
    · rw [if_neg (by simp [h4])] at he1
      refine c_F (t := decide ((n : Int) - (k : Int) < 4)) (by rfl) (by simp; omega) ?_
      refine c_skip ?_
      refine q_then ?_
      refine c_seq ?_
      -- ref.go:171
      refine c_reg ?_
      refine s_y (Y_asC) rfl rfl ?_
      refine s_nil ?_
      refine q_then ?_
      refine c_seq ?_
      refine c_seq ?_
      -- ref.go:172
      refine c_reg ?_
      refine s_y (Y_asC) rfl rfl ?_
      refine s_nil ?_
      refine q_then ?_
      refine c_block ?_
      refine c_loop [3, 4, 26, 27, 28, 29, 30, 31, 32, 33, 34] (fun n2 i => i + n2 = 4) (fun i => [(3, .int .i64 ((wideF bs k (0) i).1 : Int)), (4, .int .i64 (i : Int))]) (fun i => [ib b a n c (wideF bs k (0) i).2.1 (wideF bs k (0) i).2.2]) 4 0 (by omega) ⟨rfl, rfl, trivial⟩ (fun _ h => h) (fun _ => rfl) ?_
      rintro n2 i j hi K hK
      refine c_seq ?_
      refine c_seq ?_
      -- ref.go:172
      refine c_reg ?_
      refine s_y (Y_mv) rfl rfl ?_
      refine s_y (Y_lss rfl rfl) rfl rfl ?_
      refine s_nil ?_
      refine q_then ?_
      refine c_cond' rfl (fun h => ?_) (fun h => ?_)
      · have hi4 : i < 4 := by omega
        have hlt := wideF_lt (bs := bs) (k := k) (e := (0)) i
        have hl2 : (wideF bs k (0) i).1 < 16777216 := Nat.lt_of_lt_of_le hlt (Nat.le_trans (Nat.pow_le_pow_right (by omega) (show i ≤ 3 by omega)) (by decide))
        have hle := wideF_le (bs := bs) (k := k) (e := (0)) (by omega) i
        have h1l := rdRaw1_lt (bs := bs) (k := (wideF bs k (0) i).2.1) (e := (wideF bs k (0) i).2.2)
        have hS : wideF bs k (0) (i + 1) = ((wideF bs k (0) i).1 * 256 + (rdRaw bs 1 (wideF bs k (0) i).2.1 (wideF bs k (0) i).2.2).1, (rdRaw bs 1 (wideF bs k (0) i).2.1 (wideF bs k (0) i).2.2).2) := rfl
        generalize wideF bs k (0) i = q at *
        obtain ⟨v1, k1, e2⟩ := q
        simp only at hl2 hle h1l hS ⊢
        refine c_skip ?_
        refine q_then ?_
        refine c_seq ?_
        refine c_block ?_
        -- ref.go:173
        refine c_reg ?_
        refine s_y (Y_mv) rfl rfl ?_
        refine s_y (Y_shl rfl rfl (by omega)) rfl rfl ?_
        refine s_y (Y_mv) rfl rfl ?_
        refine s_cm [ib b a n c k1 e2] (En_call (fun _ => rfl) Try.func27 rfl (by kernel_rfl) rfl) (by repeat (first | exact Sels.nil | apply Sels.cons (by repeat (first | exact Sel.head | apply Sel.tail)))) (fun w hH => byte_d (hH.at' (by repeat (first | exact List.Mem.head _ | assumption | apply List.Mem.tail | apply List.mem_append_right))) (hs.call1 (R := []) (ib b a n c k1 e2) hH (by repeat (first | exact List.Mem.head _ | assumption | apply List.Mem.tail | apply List.mem_append_right))) (by omega)) rfl rfl ?_
        rintro _ _ ⟨rfl, rfl⟩
        refine s_y ((Y_bits rfl rfl rfl (by simp)).num (shl_or_i _ _ hl2 h1l)) rfl rfl ?_
        refine s_y (Y_as) rfl rfl ?_
        refine s_nil ?_
        refine q_bn ?_
        refine q_then ?_
        -- ref.go:172
        refine c_reg ?_
        refine s_y (Y_mv) rfl rfl ?_
        refine s_y ((by first | exact Y_add rfl rfl (by omega) | exact Y_addw rfl rfl)) rfl rfl ?_
        refine s_y (Y_as) rfl rfl ?_
        refine s_nil ?_
        refine hK (n2 - 1) (i + 1) _ _ (by omega) (by omega) ⟨by rw [hS]; rfl, rfl, trivial⟩ rfl (fun w h => ?_)
        dsimp only
        rw [hS]
        exact h
      · obtain rfl : i = 4 := by omega
        refine c_exit ?_
        repeat with_reducible refine q_te ?_
        refine q_exit ?_
        refine q_then ?_
        refine c_seq ?_
        -- ref.go:175
        rw [he1]
        refine c_reg ?_
        refine s_y (Y_mv) rfl rfl ?_
        refine s_y (Y_as) rfl rfl ?_
        refine s_nil ?_
        refine q_then ?_
        refine c_ret ?_
        refine q_ret1 rfl rfl (L' := _) (by repeat (first | exact List.Sublist.refl _ | exact List.nil_sublist _ | apply List.Sublist.cons_cons | apply List.Sublist.cons)) ⟨rfl, rfl⟩
    · rw [if_pos ⟨rfl, h4⟩] at he1
      refine c_T (t := decide ((n : Int) - (k : Int) < 4)) (by rfl) (by simp; omega) ?_
      -- ref.go:169
      refine c_reg ?_
      refine s_y (Y_mv) rfl rfl ?_
      refine s_y ((by first | exact Y_nil rfl | exact Y_nilF rfl | exact Y_nilM rfl (by assumption) | exact Y_nilM rfl (by intro w k; kernel_rfl))) rfl rfl ?_
      refine s_y (Y_fa 2 rfl Try.underlying72 rfl sz3 rfl) rfl rfl ?_
      refine s_s (S_stC rfl sz3 (by rfl) (by repeat (first | exact Upd.head | apply Upd.tail)) (by first | (simp only [Nat.zero_add, Nat.reduceAdd, List.set_cons_succ, List.set_cons_zero]; rfl) | rfl) (by first | (simp; done) | omega)) rfl ?_
      refine s_nil ?_
      refine q_then ?_
      refine c_seq ?_
      -- ref.go:171
      refine c_reg ?_
      refine s_y (Y_asC) rfl rfl ?_
      refine s_nil ?_
      refine q_then ?_
      refine c_seq ?_
      refine c_seq ?_
      -- ref.go:172
      refine c_reg ?_
      refine s_y (Y_asC) rfl rfl ?_
      refine s_nil ?_
      refine q_then ?_
      refine c_block ?_
      refine c_loop [3, 4, 26, 27, 28, 29, 30, 31, 32, 33, 34] (fun n2 i => i + n2 = 4) (fun i => [(3, .int .i64 ((wideF bs k (7) i).1 : Int)), (4, .int .i64 (i : Int))]) (fun i => [ib b a n c (wideF bs k (7) i).2.1 (wideF bs k (7) i).2.2]) 4 0 (by omega) ⟨rfl, rfl, trivial⟩ (fun _ h => h) (fun _ => rfl) ?_
      rintro n2 i j hi K hK
      refine c_seq ?_
      refine c_seq ?_
      -- ref.go:172
      refine c_reg ?_
      refine s_y (Y_mv) rfl rfl ?_
      refine s_y (Y_lss rfl rfl) rfl rfl ?_
      refine s_nil ?_
      refine q_then ?_
      refine c_cond' rfl (fun h => ?_) (fun h => ?_)
      · have hi4 : i < 4 := by omega
        have hlt := wideF_lt (bs := bs) (k := k) (e := (7)) i
        have hl2 : (wideF bs k (7) i).1 < 16777216 := Nat.lt_of_lt_of_le hlt (Nat.le_trans (Nat.pow_le_pow_right (by omega) (show i ≤ 3 by omega)) (by decide))
        have hle := wideF_le (bs := bs) (k := k) (e := (7)) (by omega) i
        have h1l := rdRaw1_lt (bs := bs) (k := (wideF bs k (7) i).2.1) (e := (wideF bs k (7) i).2.2)
        have hS : wideF bs k (7) (i + 1) = ((wideF bs k (7) i).1 * 256 + (rdRaw bs 1 (wideF bs k (7) i).2.1 (wideF bs k (7) i).2.2).1, (rdRaw bs 1 (wideF bs k (7) i).2.1 (wideF bs k (7) i).2.2).2) := rfl
        generalize wideF bs k (7) i = q at *
        obtain ⟨v1, k1, e2⟩ := q
        simp only at hl2 hle h1l hS ⊢
        refine c_skip ?_
        refine q_then ?_
        refine c_seq ?_
        refine c_block ?_
        -- ref.go:173
        refine c_reg ?_
        refine s_y (Y_mv) rfl rfl ?_
        refine s_y (Y_shl rfl rfl (by omega)) rfl rfl ?_
        refine s_y (Y_mv) rfl rfl ?_
        refine s_cm [ib b a n c k1 e2] (En_call (fun _ => rfl) Try.func27 rfl (by kernel_rfl) rfl) (by repeat (first | exact Sels.nil | apply Sels.cons (by repeat (first | exact Sel.head | apply Sel.tail)))) (fun w hH => byte_d (hH.at' (by repeat (first | exact List.Mem.head _ | assumption | apply List.Mem.tail | apply List.mem_append_right))) (hs.call1 (R := []) (ib b a n c k1 e2) hH (by repeat (first | exact List.Mem.head _ | assumption | apply List.Mem.tail | apply List.mem_append_right))) (by omega)) rfl rfl ?_
        rintro _ _ ⟨rfl, rfl⟩
        refine s_y ((Y_bits rfl rfl rfl (by simp)).num (shl_or_i _ _ hl2 h1l)) rfl rfl ?_
        refine s_y (Y_as) rfl rfl ?_
        refine s_nil ?_
        refine q_bn ?_
        refine q_then ?_
        -- ref.go:172
        refine c_reg ?_
        refine s_y (Y_mv) rfl rfl ?_
        refine s_y ((by first | exact Y_add rfl rfl (by omega) | exact Y_addw rfl rfl)) rfl rfl ?_
        refine s_y (Y_as) rfl rfl ?_
        refine s_nil ?_
        refine hK (n2 - 1) (i + 1) _ _ (by omega) (by omega) ⟨by rw [hS]; rfl, rfl, trivial⟩ rfl (fun w h => ?_)
        dsimp only
        rw [hS]
        exact h
      · obtain rfl : i = 4 := by omega
        refine c_exit ?_
        repeat with_reducible refine q_te ?_
        refine q_exit ?_
        refine q_then ?_
        refine c_seq ?_
        -- ref.go:175
        rw [he1]
        refine c_reg ?_
        refine s_y (Y_mv) rfl rfl ?_
        refine s_y (Y_as) rfl rfl ?_
        refine s_nil ?_
        refine q_then ?_
        refine c_ret ?_
        refine q_ret1 rfl rfl (L' := _) (by repeat (first | exact List.Sublist.refl _ | exact List.nil_sublist _ | apply List.Sublist.cons_cons | apply List.Sublist.cons)) ⟨rfl, rfl⟩
  · rw [if_neg (by simp [h0])] at he1
    refine c_rord [] [(0, true), (1, true), (2, true), (3, true), (4, true), (5, true), (6, true), (7, true), (8, true), (9, true), (10, true), (11, true), (12, true), (13, true), (14, true), (15, true), (16, true), (17, true)] (by kernel_rfl) (by kernel_rfl) (by kernel_rfl) (by kernel_rfl) rfl (by intro c a d v w h; cases d <;> exact h) rfl ?_
    simp only [mkOrd, List.filterMap_cons, List.filterMap_nil, List.getElem?_toArray, List.getElem?_cons_zero, List.getElem?_cons_succ, Option.map_some]
    refine o_y (Y_mv) rfl rfl ?_
    refine o_y ((by first | exact Y_nil rfl | exact Y_nilF rfl | exact Y_nilM rfl (by assumption) | exact Y_nilM rfl (by intro w k; kernel_rfl))) rfl rfl ?_
    refine o_y (Y_fa 2 rfl Try.underlying72 rfl sz3 rfl) rfl rfl ?_
    refine o_y ((by first | exact Y_load rfl one3 (by repeat (first | exact List.Mem.head _ | assumption | apply List.Mem.tail | apply List.mem_append_right)) (by rfl) | exact Y_load rfl one3 (by repeat (first | exact List.Mem.head _ | assumption | apply List.Mem.tail | apply List.mem_append_right)) (by assumption) | exact Y_loadR rfl one3 (by assumption) rfl (by assumption))) rfl rfl ?_
    refine o_y (Y_eql rfl rfl) rfl rfl ?_
    refine o_y (Y_mv) rfl rfl ?_
    refine QL.known (d := 10) rfl (decide_eq_false h0) ?_
    first | refine o_y (Y_mv) rfl rfl ?_ | refine o_pass rfl rfl ?_
    first | refine o_y ((by first | exact Y_nil rfl | exact Y_nilF rfl | exact Y_nilM rfl (by assumption) | exact Y_nilM rfl (by intro w k; kernel_rfl))) rfl rfl ?_ | refine o_pass rfl rfl ?_
    first | refine o_y (Y_fa 0 rfl Try.underlying72 rfl sz27 rfl) rfl rfl ?_ | refine o_pass rfl rfl ?_
    first | refine o_y ((by first | exact Y_load rfl one27 (by repeat (first | exact List.Mem.head _ | assumption | apply List.Mem.tail | apply List.mem_append_right)) (by rfl) | exact Y_load rfl one27 (by repeat (first | exact List.Mem.head _ | assumption | apply List.Mem.tail | apply List.mem_append_right)) (by assumption) | exact Y_loadR rfl one27 (by assumption) rfl (by assumption))) rfl rfl ?_ | refine o_pass rfl rfl ?_
    first | refine o_y (Y_len rfl rfl Try.underlying27) rfl rfl ?_ | refine o_pass rfl rfl ?_
    first | refine o_y (Y_mv) rfl rfl ?_ | refine o_pass rfl rfl ?_
    first | refine o_y ((by first | exact Y_nil rfl | exact Y_nilF rfl | exact Y_nilM rfl (by assumption) | exact Y_nilM rfl (by intro w k; kernel_rfl))) rfl rfl ?_ | refine o_pass rfl rfl ?_
    first | refine o_y (Y_fa 1 rfl Try.underlying72 rfl sz3 rfl) rfl rfl ?_ | refine o_pass rfl rfl ?_
    first | refine o_y ((by first | exact Y_load rfl one3 (by repeat (first | exact List.Mem.head _ | assumption | apply List.Mem.tail | apply List.mem_append_right)) (by rfl) | exact Y_load rfl one3 (by repeat (first | exact List.Mem.head _ | assumption | apply List.Mem.tail | apply List.mem_append_right)) (by assumption) | exact Y_loadR rfl one3 (by assumption) rfl (by assumption))) rfl rfl ?_ | refine o_pass rfl rfl ?_
    first | refine o_y ((by first | exact Y_sub rfl rfl (by omega) | exact Y_subw rfl rfl)) rfl rfl ?_ | refine o_pass rfl rfl ?_
    first | refine o_y (Y_lss rfl rfl) rfl rfl ?_ | refine o_pass rfl rfl ?_
    refine o_y (Y_pk rfl (Gx.tmp (by repeat (first | exact Gt.here | apply Gt.there (by rfl) | exact Gt.base (by rfl)))) Gx.const) rfl rfl ?_
    refine o_nil ?_
    refine q_then ?_
    refine c_F rfl rfl ?_
    refine c_skip ?_
    refine q_then ?_
    refine c_seq ?_
    -- ref.go:171
    refine c_reg ?_
    refine s_y (Y_asC) rfl rfl ?_
    refine s_nil ?_
    refine q_then ?_
    refine c_seq ?_
    refine c_seq ?_
    -- ref.go:172
    refine c_reg ?_
    refine s_y (Y_asC) rfl rfl ?_
    refine s_nil ?_
    refine q_then ?_
    refine c_block ?_
    refine c_loop [3, 4, 26, 27, 28, 29, 30, 31, 32, 33, 34] (fun n2 i => i + n2 = 4) (fun i => [(3, .int .i64 ((wideF bs k (e) i).1 : Int)), (4, .int .i64 (i : Int))]) (fun i => [ib b a n c (wideF bs k (e) i).2.1 (wideF bs k (e) i).2.2]) 4 0 (by omega) ⟨rfl, rfl, trivial⟩ (fun _ h => h) (fun _ => rfl) ?_
    rintro n2 i j hi K hK
    refine c_seq ?_
    refine c_seq ?_
    -- ref.go:172
    refine c_reg ?_
    refine s_y (Y_mv) rfl rfl ?_
    refine s_y (Y_lss rfl rfl) rfl rfl ?_
    refine s_nil ?_
    refine q_then ?_
    refine c_cond' rfl (fun h => ?_) (fun h => ?_)
    · have hi4 : i < 4 := by omega
      have hlt := wideF_lt (bs := bs) (k := k) (e := (e)) i
      have hl2 : (wideF bs k (e) i).1 < 16777216 := Nat.lt_of_lt_of_le hlt (Nat.le_trans (Nat.pow_le_pow_right (by omega) (show i ≤ 3 by omega)) (by decide))
      have hle := wideF_le (bs := bs) (k := k) (e := (e)) (by omega) i
      have h1l := rdRaw1_lt (bs := bs) (k := (wideF bs k (e) i).2.1) (e := (wideF bs k (e) i).2.2)
      have hS : wideF bs k (e) (i + 1) = ((wideF bs k (e) i).1 * 256 + (rdRaw bs 1 (wideF bs k (e) i).2.1 (wideF bs k (e) i).2.2).1, (rdRaw bs 1 (wideF bs k (e) i).2.1 (wideF bs k (e) i).2.2).2) := rfl
      generalize wideF bs k (e) i = q at *
      obtain ⟨v1, k1, e2⟩ := q
      simp only at hl2 hle h1l hS ⊢
      refine c_skip ?_
      refine q_then ?_
      refine c_seq ?_
      refine c_block ?_
      -- ref.go:173
      refine c_reg ?_
      refine s_y (Y_mv) rfl rfl ?_
      refine s_y (Y_shl rfl rfl (by omega)) rfl rfl ?_
      refine s_y (Y_mv) rfl rfl ?_
      refine s_cm [ib b a n c k1 e2] (En_call (fun _ => rfl) Try.func27 rfl (by kernel_rfl) rfl) (by repeat (first | exact Sels.nil | apply Sels.cons (by repeat (first | exact Sel.head | apply Sel.tail)))) (fun w hH => byte_d (hH.at' (by repeat (first | exact List.Mem.head _ | assumption | apply List.Mem.tail | apply List.mem_append_right))) (hs.call1 (R := []) (ib b a n c k1 e2) hH (by repeat (first | exact List.Mem.head _ | assumption | apply List.Mem.tail | apply List.mem_append_right))) (by omega)) rfl rfl ?_
      rintro _ _ ⟨rfl, rfl⟩
      refine s_y ((Y_bits rfl rfl rfl (by simp)).num (shl_or_i _ _ hl2 h1l)) rfl rfl ?_
      refine s_y (Y_as) rfl rfl ?_
      refine s_nil ?_
      refine q_bn ?_
      refine q_then ?_
      -- ref.go:172
      refine c_reg ?_
      refine s_y (Y_mv) rfl rfl ?_
      refine s_y ((by first | exact Y_add rfl rfl (by omega) | exact Y_addw rfl rfl)) rfl rfl ?_
      refine s_y (Y_as) rfl rfl ?_
      refine s_nil ?_
      refine hK (n2 - 1) (i + 1) _ _ (by omega) (by omega) ⟨by rw [hS]; rfl, rfl, trivial⟩ rfl (fun w h => ?_)
      dsimp only
      rw [hS]
      exact h
    · obtain rfl : i = 4 := by omega
      refine c_exit ?_
      repeat with_reducible refine q_te ?_
      refine q_exit ?_
      refine q_then ?_
      refine c_seq ?_
      -- ref.go:175
      rw [he1]
      refine c_reg ?_
      refine s_y (Y_mv) rfl rfl ?_
      refine s_y (Y_as) rfl rfl ?_
      refine s_nil ?_
      refine q_then ?_
      refine c_ret ?_
      refine q_ret1 rfl rfl (L' := _) (by repeat (first | exact List.Sublist.refl _ | exact List.nil_sublist _ | apply List.Sublist.cons_cons | apply List.Sublist.cons)) ⟨rfl, rfl⟩
set_option maxRecDepth 100000 in
theorem innum_d (hx : (ib b a n c k e).holds W) (hs : Src W [b] a n c bs) (hk : k ≤ n) : Does Try.prog 28 [ptr b] W [b] (fun v L => v = .int .i64 (rdNum bs 4 0 1073741823 k e).1 ∧ L = [ib b a n c (rdNum bs 4 0 1073741823 k e).2.1 (rdNum bs 4 0 1073741823 k e).2.2]) := by
  refine enter Try.func28 rfl rfl rfl (Has.start1 hx) ?_
  refine c_seq ?_
  -- ref.go:178
  refine c_reg ?_
  refine s_y (Y_asC) rfl rfl ?_
  refine s_nil ?_
  refine q_then ?_
  refine c_seq ?_
  -- ref.go:179
  refine c_reg ?_
  refine s_y (Y_mv) rfl rfl ?_
  refine s_cm [ib b a n c k e] (En_call (fun _ => rfl) Try.func30 rfl (by kernel_rfl) rfl) (by repeat (first | exact Sels.nil | apply Sels.cons (by repeat (first | exact Sel.head | apply Sel.tail)))) (fun w hH => wide_d (hH.at' (by repeat (first | exact List.Mem.head _ | assumption | apply List.Mem.tail | apply List.mem_append_right))) (hs.call1 (R := []) (ib b a n c k e) hH (by repeat (first | exact List.Mem.head _ | assumption | apply List.Mem.tail | apply List.mem_append_right))) hk) rfl rfl ?_
  rintro _ _ ⟨rfl, rfl⟩
  have hR : rdNum bs 4 0 1073741823 k e = (((rdRaw bs 4 k e).1 : Int), (rdRaw bs 4 k e).2.1, noted (inB (rdRaw bs 4 k e).1 0 1073741823) (rdRaw bs 4 k e).2.2 9) := rfl
  rw [hR]
  generalize rdRaw bs 4 k e = r at *
  obtain ⟨z, k1, e1⟩ := r
  simp only
  refine s_y (Y_as) rfl rfl ?_
  refine s_nil ?_
  refine q_then ?_
  refine c_seq ?_
  refine c_seq ?_
  -- ref.go:180 GUARDS (op, want): [(5, True)] slots [11]
  refine c_reg ?_
  refine s_y (Y_mv) rfl rfl ?_
  refine s_y ((by first | exact Y_nil rfl | exact Y_nilF rfl | exact Y_nilM rfl (by assumption) | exact Y_nilM rfl (by intro w k; kernel_rfl))) rfl rfl ?_
  refine s_y (Y_fa 2 rfl Try.underlying72 rfl sz3 rfl) rfl rfl ?_
  refine s_y ((by first | exact Y_load rfl one3 (by repeat (first | exact List.Mem.head _ | assumption | apply List.Mem.tail | apply List.mem_append_right)) (by rfl) | exact Y_load rfl one3 (by repeat (first | exact List.Mem.head _ | assumption | apply List.Mem.tail | apply List.mem_append_right)) (by assumption) | exact Y_loadR rfl one3 (by assumption) rfl (by assumption))) rfl rfl ?_
  refine s_y (Y_eql rfl rfl) rfl rfl ?_
  refine s_y (Y_mv) rfl rfl ?_
  by_cases h0 : e1 = 0
  · subst h0
    refine s_known (d := 11) rfl rfl ?_
    first | refine s_y (Y_mv) rfl rfl ?_ | refine s_pass rfl rfl ?_
    first | refine s_y (Y_geq rfl rfl) rfl rfl ?_ | refine s_pass rfl rfl ?_
    refine s_y (Y_pk rfl (Gx.tmp (by repeat (first | exact Gt.here | apply Gt.there (by rfl) | exact Gt.base (by rfl)))) Gx.const) rfl rfl ?_
    refine s_nil ?_
    refine q_then ?_
    by_cases hz : z ≥ 1073741824
    · have hn : noted (inB (z : Int) 0 1073741823) 0 9 = 9 := by
        have : inB (z : Int) 0 1073741823 = false := by simp [inB]; omega
        simp [noted, this]
      rw [hn]
      refine c_T (t := decide ((z : Int) ≥ 1073741824)) (by rfl) (by simp; omega) ?_
      -- ref.go:181
      refine c_reg ?_
      refine s_y (Y_mv) rfl rfl ?_
      refine s_y ((by first | exact Y_nil rfl | exact Y_nilF rfl | exact Y_nilM rfl (by assumption) | exact Y_nilM rfl (by intro w k; kernel_rfl))) rfl rfl ?_
      refine s_y (Y_fa 2 rfl Try.underlying72 rfl sz3 rfl) rfl rfl ?_
      refine s_s (S_stC rfl sz3 (by rfl) (by repeat (first | exact Upd.head | apply Upd.tail)) (by first | (simp only [Nat.zero_add, Nat.reduceAdd, List.set_cons_succ, List.set_cons_zero]; rfl) | rfl) (by first | (simp; done) | omega)) rfl ?_
      refine s_nil ?_
      refine q_then ?_
      refine c_seq ?_
      -- ref.go:183
      refine c_reg ?_
      refine s_y (Y_mv) rfl rfl ?_
      refine s_y (Y_as) rfl rfl ?_
      refine s_nil ?_
      refine q_then ?_
      refine c_ret ?_
      refine q_ret1 rfl rfl (L' := _) (by repeat (first | exact List.Sublist.refl _ | exact List.nil_sublist _ | apply List.Sublist.cons_cons | apply List.Sublist.cons)) ⟨rfl, rfl⟩
    · have hn : noted (inB (z : Int) 0 1073741823) 0 9 = 0 := by
        have : inB (z : Int) 0 1073741823 = true := by simp [inB]; omega
        simp [noted, this]
      rw [hn]
      refine c_F (t := decide ((z : Int) ≥ 1073741824)) (by rfl) (by simp; omega) ?_
      refine c_skip ?_
      refine q_then ?_
      refine c_seq ?_
      -- ref.go:183
      refine c_reg ?_
      refine s_y (Y_mv) rfl rfl ?_
      refine s_y (Y_as) rfl rfl ?_
      refine s_nil ?_
      refine q_then ?_
      refine c_ret ?_
      refine q_ret1 rfl rfl (L' := _) (by repeat (first | exact List.Sublist.refl _ | exact List.nil_sublist _ | apply List.Sublist.cons_cons | apply List.Sublist.cons)) ⟨rfl, rfl⟩
  · have hn : noted (inB (z : Int) 0 1073741823) e1 9 = e1 := by simp [noted, h0]
    rw [hn]
    refine s_known (d := 11) rfl (decide_eq_false h0) ?_
    first | refine s_y (Y_mv) rfl rfl ?_ | refine s_pass rfl rfl ?_
    first | refine s_y (Y_geq rfl rfl) rfl rfl ?_ | refine s_pass rfl rfl ?_
    refine s_y (Y_pk rfl (Gx.tmp (by repeat (first | exact Gt.here | apply Gt.there (by rfl) | exact Gt.base (by rfl)))) Gx.const) rfl rfl ?_
    refine s_nil ?_
    refine q_then ?_
    refine c_F rfl rfl ?_
    refine c_skip ?_
    refine q_then ?_
    refine c_seq ?_
    -- ref.go:183
    refine c_reg ?_
    refine s_y (Y_mv) rfl rfl ?_
    refine s_y (Y_as) rfl rfl ?_
    refine s_nil ?_
    refine q_then ?_
    refine c_ret ?_
    refine q_ret1 rfl rfl (L' := _) (by repeat (first | exact List.Sublist.refl _ | exact List.nil_sublist _ | apply List.Sublist.cons_cons | apply List.Sublist.cons)) ⟨rfl, rfl⟩
set_option maxRecDepth 100000 in
theorem insmall_d (f t : Int) (hx : (ib b a n c k e).holds W) (hs : Src W [b] a n c bs) (hk : k ≤ n) : Does Try.prog 29 [ptr b, .int .i64 f, .int .i64 t] W [b] (fun v L => v = .int .i64 (rdNum bs 1 f t k e).1 ∧ L = [ib b a n c (rdNum bs 1 f t k e).2.1 (rdNum bs 1 f t k e).2.2]) := by
  refine enter Try.func29 rfl rfl rfl (Has.start1 hx) ?_
  refine c_seq ?_
  refine c_reg ?_
  refine s_y (Y_asC) rfl rfl ?_
  refine s_nil ?_
  refine q_then ?_
  refine c_seq ?_
  refine c_reg ?_
  refine s_y (Y_mv) rfl rfl ?_
  refine s_cm [ib b a n c k e] (En_call (fun _ => rfl) Try.func27 rfl (by kernel_rfl) rfl) (by repeat (first | exact Sels.nil | apply Sels.cons (by repeat (first | exact Sel.head | apply Sel.tail)))) (fun w hH => byte_d (hH.at' (by repeat (first | exact List.Mem.head _ | assumption | apply List.Mem.tail | apply List.mem_append_right))) (hs.call1 (R := []) (ib b a n c k e) hH (by repeat (first | exact List.Mem.head _ | assumption | apply List.Mem.tail | apply List.mem_append_right))) hk) rfl rfl ?_
  rintro _ _ ⟨rfl, rfl⟩
  have hR : rdNum bs 1 f t k e = (((rdRaw bs 1 k e).1 : Int), (rdRaw bs 1 k e).2.1, noted (inB (rdRaw bs 1 k e).1 f t) (rdRaw bs 1 k e).2.2 9) := rfl
  rw [hR]
  generalize rdRaw bs 1 k e = r at *
  obtain ⟨z, k1, e1⟩ := r
  simp only
  refine s_y (Y_as) rfl rfl ?_
  refine s_nil ?_
  refine q_then ?_
  refine c_seq ?_
  refine c_seq ?_
  -- ref.go:188 GUARDS (op, want): [(5, True), (9, False)] slots [15, 19]
  refine c_reg ?_
  refine s_y (Y_mv) rfl rfl ?_
  refine s_y ((by first | exact Y_nil rfl | exact Y_nilF rfl | exact Y_nilM rfl (by assumption) | exact Y_nilM rfl (by intro w k; kernel_rfl))) rfl rfl ?_
  refine s_y (Y_fa 2 rfl Try.underlying72 rfl sz3 rfl) rfl rfl ?_
  refine s_y ((by first | exact Y_load rfl one3 (by repeat (first | exact List.Mem.head _ | assumption | apply List.Mem.tail | apply List.mem_append_right)) (by rfl) | exact Y_load rfl one3 (by repeat (first | exact List.Mem.head _ | assumption | apply List.Mem.tail | apply List.mem_append_right)) (by assumption) | exact Y_loadR rfl one3 (by assumption) rfl (by assumption))) rfl rfl ?_
  refine s_y (Y_eql rfl rfl) rfl rfl ?_
  refine s_y (Y_mv) rfl rfl ?_
  by_cases h0 : e1 = 0
  · subst h0
    refine s_known (d := 15) rfl rfl ?_
    first | refine s_y (Y_mv) rfl rfl ?_ | refine s_pass rfl rfl ?_
    first | refine s_y (Y_mv) rfl rfl ?_ | refine s_pass rfl rfl ?_
    first | refine s_y (Y_lss rfl rfl) rfl rfl ?_ | refine s_pass rfl rfl ?_
    first | refine s_y (Y_mv) rfl rfl ?_ | refine s_pass rfl rfl ?_
    by_cases hz : (z : Int) < f
    · have hn : noted (inB (z : Int) f t) 0 9 = 9 := by
        have : inB (z : Int) f t = false := by simp [inB]; omega
        simp [noted, this]
      rw [hn]
      refine s_known (d := 19) rfl (decide_eq_true hz) ?_
      first | refine s_y (Y_mv) rfl rfl ?_ | refine s_pass rfl rfl ?_
      first | refine s_y (Y_mv) rfl rfl ?_ | refine s_pass rfl rfl ?_
      first | refine s_y (Y_gtr rfl rfl) rfl rfl ?_ | refine s_pass rfl rfl ?_
      first | refine s_y (Y_pk rfl Gx.const (Gx.tmp (by repeat (first | exact Gt.here | apply Gt.there (by rfl) | exact Gt.base (by rfl))))) rfl rfl ?_ | refine s_pass rfl rfl ?_
      refine s_y (Y_pk rfl (Gx.tmp (by repeat (first | exact Gt.here | apply Gt.there (by rfl) | exact Gt.base (by rfl)))) Gx.const) rfl rfl ?_
      refine s_nil ?_
      refine q_then ?_
      refine c_T rfl rfl ?_
      refine c_reg ?_
      refine s_y (Y_mv) rfl rfl ?_
      refine s_y ((by first | exact Y_nil rfl | exact Y_nilF rfl | exact Y_nilM rfl (by assumption) | exact Y_nilM rfl (by intro w k; kernel_rfl))) rfl rfl ?_
      refine s_y (Y_fa 2 rfl Try.underlying72 rfl sz3 rfl) rfl rfl ?_
      refine s_s (S_stC rfl sz3 (by rfl) (by repeat (first | exact Upd.head | apply Upd.tail)) (by first | (simp only [Nat.zero_add, Nat.reduceAdd, List.set_cons_succ, List.set_cons_zero]; rfl) | rfl) (by first | (simp; done) | omega)) rfl ?_
      refine s_nil ?_
      refine q_then ?_
      refine c_seq ?_
      refine c_reg ?_
      refine s_y (Y_mv) rfl rfl ?_
      refine s_y (Y_as) rfl rfl ?_
      refine s_nil ?_
      refine q_then ?_
      refine c_ret ?_
      refine q_ret1 rfl rfl (L' := _) (by repeat (first | exact List.Sublist.refl _ | exact List.nil_sublist _ | apply List.Sublist.cons_cons | apply List.Sublist.cons)) ⟨rfl, rfl⟩
    · refine s_known (d := 19) rfl (decide_eq_false hz) ?_
      first | refine s_y (Y_mv) rfl rfl ?_ | refine s_pass rfl rfl ?_
      first | refine s_y (Y_mv) rfl rfl ?_ | refine s_pass rfl rfl ?_
      first | refine s_y (Y_gtr rfl rfl) rfl rfl ?_ | refine s_pass rfl rfl ?_
      first | refine s_y (Y_pk rfl Gx.const (Gx.tmp (by repeat (first | exact Gt.here | apply Gt.there (by rfl) | exact Gt.base (by rfl))))) rfl rfl ?_ | refine s_pass rfl rfl ?_
      refine s_y (Y_pk rfl (Gx.tmp (by repeat (first | exact Gt.here | apply Gt.there (by rfl) | exact Gt.base (by rfl)))) Gx.const) rfl rfl ?_
      refine s_nil ?_
      refine q_then ?_
      by_cases hz2 : (z : Int) > t
      · have hn : noted (inB (z : Int) f t) 0 9 = 9 := by
          have : inB (z : Int) f t = false := by simp [inB]; omega
          simp [noted, this]
        rw [hn]
        refine c_T (t := decide ((z : Int) > t)) (by rfl) (decide_eq_true hz2) ?_
        refine c_reg ?_
        refine s_y (Y_mv) rfl rfl ?_
        refine s_y ((by first | exact Y_nil rfl | exact Y_nilF rfl | exact Y_nilM rfl (by assumption) | exact Y_nilM rfl (by intro w k; kernel_rfl))) rfl rfl ?_
        refine s_y (Y_fa 2 rfl Try.underlying72 rfl sz3 rfl) rfl rfl ?_
        refine s_s (S_stC rfl sz3 (by rfl) (by repeat (first | exact Upd.head | apply Upd.tail)) (by first | (simp only [Nat.zero_add, Nat.reduceAdd, List.set_cons_succ, List.set_cons_zero]; rfl) | rfl) (by first | (simp; done) | omega)) rfl ?_
        refine s_nil ?_
        refine q_then ?_
        refine c_seq ?_
        refine c_reg ?_
        refine s_y (Y_mv) rfl rfl ?_
        refine s_y (Y_as) rfl rfl ?_
        refine s_nil ?_
        refine q_then ?_
        refine c_ret ?_
        refine q_ret1 rfl rfl (L' := _) (by repeat (first | exact List.Sublist.refl _ | exact List.nil_sublist _ | apply List.Sublist.cons_cons | apply List.Sublist.cons)) ⟨rfl, rfl⟩
      · have hn : noted (inB (z : Int) f t) 0 9 = 0 := by
          have : inB (z : Int) f t = true := by simp [inB]; omega
          simp [noted, this]
        rw [hn]
        refine c_F (t := decide ((z : Int) > t)) (by rfl) (decide_eq_false hz2) ?_
        refine c_skip ?_
        refine q_then ?_
        refine c_seq ?_
        refine c_reg ?_
        refine s_y (Y_mv) rfl rfl ?_
        refine s_y (Y_as) rfl rfl ?_
        refine s_nil ?_
        refine q_then ?_
        refine c_ret ?_
        refine q_ret1 rfl rfl (L' := _) (by repeat (first | exact List.Sublist.refl _ | exact List.nil_sublist _ | apply List.Sublist.cons_cons | apply List.Sublist.cons)) ⟨rfl, rfl⟩
  · have hn : noted (inB (z : Int) f t) e1 9 = e1 := by simp [noted, h0]
    rw [hn]
    refine s_known (d := 15) rfl (decide_eq_false h0) ?_
    first | refine s_y (Y_mv) rfl rfl ?_ | refine s_pass rfl rfl ?_
    first | refine s_y (Y_mv) rfl rfl ?_ | refine s_pass rfl rfl ?_
    first | refine s_y (Y_lss rfl rfl) rfl rfl ?_ | refine s_pass rfl rfl ?_
    first | refine s_y (Y_mv) rfl rfl ?_ | refine s_pass rfl rfl ?_
    first | refine s_y (Y_mv) rfl rfl ?_ | refine s_pass rfl rfl ?_
    first | refine s_y (Y_mv) rfl rfl ?_ | refine s_pass rfl rfl ?_
    first | refine s_y (Y_gtr rfl rfl) rfl rfl ?_ | refine s_pass rfl rfl ?_
    first | refine s_y (Y_pk rfl Gx.const (Gx.tmp (by repeat (first | exact Gt.here | apply Gt.there (by rfl) | exact Gt.base (by rfl))))) rfl rfl ?_ | refine s_pass rfl rfl ?_
    refine s_y (Y_pk rfl (Gx.tmp (by repeat (first | exact Gt.here | apply Gt.there (by rfl) | exact Gt.base (by rfl)))) Gx.const) rfl rfl ?_
    refine s_nil ?_
    refine q_then ?_
    refine c_F rfl rfl ?_
    refine c_skip ?_
    refine q_then ?_
    refine c_seq ?_
    refine c_reg ?_
    refine s_y (Y_mv) rfl rfl ?_
    refine s_y (Y_as) rfl rfl ?_
    refine s_nil ?_
    refine q_then ?_
    refine c_ret ?_
    refine q_ret1 rfl rfl (L' := _) (by repeat (first | exact List.Sublist.refl _ | exact List.nil_sublist _ | apply List.Sublist.cons_cons | apply List.Sublist.cons)) ⟨rfl, rfl⟩
end
end Go.Proofs.Ytphmdhbhoakcaaa
