/- Bytes are read as a world: the program's reader, walked. -/
import Derived.Test.YtecodneffflpoaaE8
namespace Go.Ad
def numM (l : List UInt8) : Nat := l.foldl (fun v x => v * 256 + x.toNat) 0
theorem num_lt : ∀ (l : List UInt8) (v : Nat), l.foldl (fun v x => v * 256 + x.toNat) v < (v + 1) * 256 ^ l.length
  | [], v => by simp
  | x :: r, v => by
    have h := num_lt r (v * 256 + x.toNat)
    have hx := x.toNat_lt
    rw [List.foldl_cons, List.length_cons, Nat.pow_succ, Nat.mul_comm (256 ^ r.length) 256, ← Nat.mul_assoc]
    exact Nat.lt_of_lt_of_le h (Nat.mul_le_mul_right _ (by omega))
theorem numM_lt (l : List UInt8) : numM l < 256 ^ l.length := by
  have := num_lt l 0
  simpa [numM] using this
theorem num_step {l : List UInt8} {i : Nat} {x : UInt8} (h : l[i]? = some x) : numM (l.take (i + 1)) = numM (l.take i) * 256 + x.toNat := by
  obtain ⟨hi, rfl⟩ := List.getElem?_eq_some_iff.1 h
  unfold numM
  rw [← List.take_append_getElem hi, List.foldl_append, List.foldl_cons, List.foldl_nil]
theorem shl_or8 (v x : Nat) (hv : v < 72057594037927936) (hx : x < 256) : IntKind.u64.wrap (BitVec.ofInt 64 (IntKind.u64.wrap ((v : Int) * 2 ^ 8)) ||| BitVec.ofInt 64 (x : Int)).toNat = ((v * 256 + x : Nat) : Int) := by
  rw [u64_id (n := (v : Int) * 2 ^ 8) (by omega)]
  have h1 : BitVec.ofInt 64 ((v : Int) * 2 ^ 8) = BitVec.ofNat 64 (v * 256) := by
    rw [show (v : Int) * 2 ^ 8 = ((v * 256 : Nat) : Int) by omega, BitVec.ofInt_natCast]
  rw [h1, BitVec.ofInt_natCast, BitVec.toNat_or, BitVec.toNat_ofNat, BitVec.toNat_ofNat, Nat.mod_eq_of_lt (by omega), Nat.mod_eq_of_lt (by omega)]
  have h2 := Nat.shiftLeft_add_eq_or_of_lt (i := 8) (b := x) (by omega) v
  rw [Nat.shiftLeft_eq] at h2
  rw [← h2]
  exact u64_id (by omega)
/-- What is left of a slice that is read from its begin on. -/
def RdV (bb o n c k : Nat) (v : Value) : Prop := ∃ a', v = .slice (some a') (n - k) (c - k) ∧ (k < n → a' = ⟨bb, o + k, none⟩)
theorem RdV.next {bb o n c k m : Nat} (hn : n ≤ c) (hk : k + m ≤ n) : RdV bb o n c (k + m) (.slice (slAt (some ⟨bb, o + k, none⟩) (c - k) m 1) (n - k - m) (c - k - m)) := by
  unfold slAt
  split
  · refine ⟨_, by rw [Nat.sub_sub, Nat.sub_sub], fun h => ?_⟩
    omega
  · refine ⟨_, by rw [Nat.sub_sub, Nat.sub_sub]; rfl, fun h => ?_⟩
    show Addr.add ⟨bb, o + k, none⟩ (m * 1) = _
    rw [Addr.add_mid, Nat.mul_one, Nat.add_assoc]
end Go.Ad
namespace Go.Proofs.Ytecodneffflpoaa
open Go.RowKit Go.Ad Go.Maps
set_option linter.unusedVariables false
set_option linter.unusedSimpArgs false
abbrev rB (b : Nat) (v : Value) : Bk := ⟨b, 68, 1, 1, [v]⟩
section
variable {W : World}
set_option maxRecDepth 100000 in
theorem prnum_d {rb bb o n c k m : Nat} {v : Value} {bs : List UInt8} (hs : SlB W bb o n c 1 (bs.map bv)) (hv : RdV bb o n c k v) (hm : 0 < m ∧ m ≤ 8) (hk : k + m ≤ n) (hx : (rB rb v).holds W) (hne : bb ≠ rb) : Does Try.prog 32 [.pointer (some ⟨rb, 0, none⟩), iv m] W [rb] (fun z L => z = .int .u64 (numM ((bs.drop k).take m) : Nat) ∧ ∃ v', RdV bb o n c (k + m) v' ∧ L = [rB rb v']) := by
  obtain ⟨a', rfl, ha⟩ := hv
  obtain rfl := ha (by omega)
  have hcap := hs.cap
  have hbig := hs.big
  simp only [maxLen] at hbig
  have hbl : bs.length = n := by have := hs.len; simpa using this
  have hll : ((bs.drop k).take m).length = m := by rw [List.length_take, List.length_drop]; omega
  refine enter Try.func32 rfl rfl rfl (Has.start1 hx) ?_
  refine c_seq ?_
  -- snap.go:124 R0
  refine c_reg ?_
  refine s_y (Y_asC) rfl rfl ?_
  refine s_nil ?_
  refine q_then ?_
  refine c_seq ?_
  -- snap.go:125 R1
  refine c_reg ?_
  refine s_y (Y_asC) rfl rfl ?_
  refine s_nil ?_
  refine q_then ?_
  refine c_seq ?_
  refine c_seq ?_
  -- snap.go:126 R2
  refine c_reg ?_
  refine s_y (Y_mv) rfl rfl ?_
  refine s_y ((by first | exact Y_nil rfl | exact Y_nilF rfl | exact Y_nilM rfl (by assumption) | exact Y_nilM rfl (by intro w k; kernel_rfl))) rfl rfl ?_
  refine s_y (Y_fa 0 rfl Try.underlying68 rfl sz25 rfl) rfl rfl ?_
  refine s_y ((by first | exact Y_load rfl one25 mm_ (by rfl) | exact Y_loadR rfl one25 hr rfl rfl | exact Y_loadR rfl one25 hr2 rfl rfl | exact Y_load rfl one25 mm_ (eget he rfl) | exact Y_load rfl one25 mm_ (iget hx rfl) | exact Y_load rfl one25 mm_ (by assumption) | exact Y_loadR rfl one25 (by assumption) rfl (by assumption))) rfl rfl ?_
  refine s_y (Y_mv) rfl rfl ?_
  refine s_y (Y_slHi rfl rfl Try.underlying25 sz5 rfl (by omega)) rfl rfl ?_
  refine s_y (Y_len rfl rfl Try.underlying25) rfl rfl ?_
  refine s_y (Y_mvC) rfl rfl ?_
  refine s_nil ?_
  refine q_then ?_
  refine c_block ?_
  refine c_loop [5, 7, 15, 16, 17, 18, 19, 20, 21, 22, 23, 24] (fun q i => i + q = m) (fun i => [(15, iv i), (5, .int .u64 (numM (((bs.drop k).take m).take i) : Nat))]) (fun _ => [rB rb (.slice (some ⟨bb, o + k, none⟩) (n - k) (c - k))]) (m) (0) (by omega) (by repeat (first | exact trivial | refine ⟨rfl, ?_⟩)) (fun _ h => h.sub sl_) (fun _ => rfl) ?_
  rintro q i j hi K hK
  refine c_seq ?_
  -- snap.go:126 R3
  refine c_reg ?_
  refine s_y (Y_lss rfl rfl) rfl rfl ?_
  refine s_nil ?_
  refine q_then ?_
  refine c_seq ?_
  first | refine c_cond' rfl (fun hc3 => ?_) (fun hc3 => ?_) | refine c_cond rfl (fun hc3 => ?_) (fun hc3 => ?_)
  · skip
    try simp only [nrm_] at hc3
    refine c_skip ?_
    refine q_then ?_
    refine c_seq ?_
    refine c_block ?_
    refine c_seq ?_
    -- snap.go:126 R4
    obtain ⟨x, hx2⟩ := take_lt (show i < ((bs.drop k).take m).length by omega)
    have hx3 : bs[k + i]? = some x := by rw [List.getElem?_take_of_lt (by omega), List.getElem?_drop] at hx2; exact hx2
    have hnl := numM_lt (((bs.drop k).take m).take i)
    have hil : (((bs.drop k).take m).take i).length = i := by rw [List.length_take]; omega
    rw [hil] at hnl
    have hp : 256 ^ i ≤ 256 ^ 7 := Nat.pow_le_pow_right (by omega) (by omega)
    have hxl := x.toNat_lt
    refine c_reg ?_
    refine s_y (Y_ia1 rfl rfl Try.underlying25 sz5 rfl (by omega)) rfl rfl ?_
    refine s_y (Y_loadR (v := bv x) (i := k + i) rfl one5 hs.ro (by omega) (by rw [List.getElem?_map, hx3]; rfl) (by simpa using hne)) rfl rfl ?_
    refine s_y (Y_as) rfl rfl ?_
    refine s_nil ?_
    refine q_then ?_
    -- snap.go:127 R5
    refine c_reg ?_
    refine s_y (Y_mv) rfl rfl ?_
    refine s_y (Y_shl rfl rfl (by decide)) rfl rfl ?_
    refine s_y (Y_mv) rfl rfl ?_
    refine s_y ((by first | exact Y_conv rfl Try.underlying5 Try.underlying54 (by first | exact i64_u8 _ | exact u64_u8 _ | exact i64_id (by omega) | exact u64_id (by omega) | exact u8_id (by omega) | exact u32_id (by omega)) | exact Y_convw rfl Try.underlying5 Try.underlying54)) rfl rfl ?_
    refine s_y ((Y_bits rfl rfl rfl (by simp)).num (show _ = ((numM (((bs.drop k).take m).take (i + 1)) : Nat) : Int) by rw [num_step hx2]; exact shl_or8 _ _ (by omega) (by omega))) rfl rfl ?_
    refine s_y (Y_as) rfl rfl ?_
    refine s_nil ?_
    refine q_bn ?_
    refine q_then ?_
    -- snap.go:126 R6
    refine c_reg ?_
    refine s_y ((by first | exact Y_add rfl rfl (by omega) | exact Y_addw rfl rfl)) rfl rfl ?_
    refine s_y (Y_mv) rfl rfl ?_
    refine s_nil ?_
    refine hK (q - 1) (i + 1) _ _ (by omega) (by omega) ⟨rfl, rfl, trivial⟩ rfl (fun _ h => h)
  · skip
    try simp only [nrm_] at hc3
    refine c_exit ?_
    repeat with_reducible refine q_te ?_
    refine q_exit ?_
    refine q_then ?_
    refine c_seq ?_
    -- snap.go:129 R7
    obtain rfl : i = m := by omega
    rw [List.take_of_length_le (Nat.le_of_eq hll)]
    refine c_reg ?_
    refine s_y (Y_mv) rfl rfl ?_
    refine s_y (Y_mv) rfl rfl ?_
    refine s_y ((by first | exact Y_nil rfl | exact Y_nilF rfl | exact Y_nilM rfl (by assumption) | exact Y_nilM rfl (by intro w k; kernel_rfl))) rfl rfl ?_
    refine s_y (Y_fa 0 rfl Try.underlying68 rfl sz25 rfl) rfl rfl ?_
    refine s_y ((by first | exact Y_load rfl one25 mm_ (by rfl) | exact Y_loadR rfl one25 hr rfl rfl | exact Y_loadR rfl one25 hr2 rfl rfl | exact Y_load rfl one25 mm_ (eget he rfl) | exact Y_load rfl one25 mm_ (iget hx rfl) | exact Y_load rfl one25 mm_ (by assumption) | exact Y_loadR rfl one25 (by assumption) rfl (by assumption))) rfl rfl ?_
    refine s_y (Y_mv) rfl rfl ?_
    refine s_y (Y_slLo (l := i) rfl rfl Try.underlying25 sz5 rfl (by omega)) rfl rfl ?_
    refine s_y ((by first | exact Y_nil rfl | exact Y_nilF rfl | exact Y_nilM rfl (by assumption) | exact Y_nilM rfl (by intro w k; kernel_rfl))) rfl rfl ?_
    refine s_y (Y_fa 0 rfl Try.underlying68 rfl sz25 rfl) rfl rfl ?_
    refine s_s (S_st rfl gt_ sz25 (by rfl) (by repeat (first | exact Upd.head | apply Upd.tail)) (by first | (simp only [Nat.zero_add, Nat.reduceAdd, List.set_cons_succ, List.set_cons_zero]; rfl) | rfl) (by first | (simp; done) | omega)) rfl ?_
    refine s_nil ?_
    refine q_then ?_
    refine c_seq ?_
    -- snap.go:130 R8
    refine c_reg ?_
    refine s_y (Y_mv) rfl rfl ?_
    refine s_y (Y_as) rfl rfl ?_
    refine s_nil ?_
    refine q_then ?_
    refine c_ret ?_
    refine q_retG1 rfl gt_ (L' := _) sl_ (⟨rfl, _, RdV.next hcap hk, rfl⟩)
theorem ptrs_get {tb j0 n i : Nat} (h : i < n) : ((List.range n).map fun t => Value.pointer (some ⟨tb, j0 + t, none⟩))[i]? = some (.pointer (some ⟨tb, j0 + i, none⟩)) := by
  rw [List.getElem?_map, List.getElem?_range h]; rfl
/-- Bytes put into cells, one behind the other. -/
def putB (cs : List Value) (j0 : Nat) (bs : List UInt8) (k : Nat) : Nat → List Value
  | 0 => cs
  | i + 1 => (putB cs j0 bs k i).set (j0 + i) (iv (byteAt bs (k + i)))
theorem putB_len (cs : List Value) (j0 : Nat) (bs : List UInt8) (k : Nat) : ∀ i, (putB cs j0 bs k i).length = cs.length
  | 0 => rfl
  | i + 1 => by rw [putB, List.length_set, putB_len cs j0 bs k i]
set_option maxRecDepth 100000 in
theorem prsmall_d {rb bb o n c k m : Nat} {v : Value} {bs : List UInt8} (hs : SlB W bb o n c 1 (bs.map bv)) (hv : RdV bb o n c k v) (hm : m ≤ 100) (hk : k + m ≤ n) (hx : (rB rb v).holds W) {y : Bk} (hy : y.holds W) (hne : bb ≠ rb) (hne2 : rb ≠ y.b) (hne3 : bb ≠ y.b) {lb j0 : Nat} (hl : Ro W lb 0 ((List.range m).map fun t => Value.pointer (some ⟨y.b, j0 + t, none⟩))) (hlb : lb ≠ rb ∧ lb ≠ y.b) (hj : j0 + m ≤ y.c.length) :
    Does Try.prog 33 [.pointer (some ⟨rb, 0, none⟩), .slice (some ⟨lb, 0, none⟩) m m] W [rb, y.b] (fun z L => z = .tuple #[] ∧ ∃ v', RdV bb o n c (k + m) v' ∧ L = [rB rb v', { y with c := putB y.c j0 bs k m }]) := by
  obtain ⟨yb, yt, yk, ycap, yc⟩ := y
  simp only at hne2 hne3 hl hlb hj ⊢
  have hcap := hs.cap
  have hbl : bs.length = n := by have := hs.len; simpa using this
  refine enter Try.func33 rfl rfl rfl (Has.starts (xs := [rB rb v, ⟨yb, yt, yk, ycap, yc⟩]) (by intro x hx2; rcases List.mem_cons.1 hx2 with rfl | hx2; exact hx; obtain rfl := List.mem_singleton.1 hx2; exact hy) (by simpa using hne2)) ?_
  refine c_seq ?_
  -- snap.go:135 R0
  refine c_reg ?_
  refine s_y (Y_mv) rfl rfl ?_
  refine s_y (Y_len rfl rfl Try.underlying93) rfl rfl ?_
  refine s_y (Y_mvC) rfl rfl ?_
  refine s_nil ?_
  refine q_then ?_
  refine c_block ?_
  refine c_loop [5, 8, 9, 10, 11, 12, 13, 14, 15, 16, 17] (fun q (y : Nat × Value) => y.1 + q = m ∧ RdV bb o n c (k + y.1) y.2) (fun y => [(8, iv y.1)]) (fun y => [rB rb y.2, ⟨yb, yt, yk, ycap, putB yc j0 bs k y.1⟩]) (m) ((0, v)) (⟨by simp only; omega, hv⟩) (by repeat (first | exact trivial | refine ⟨rfl, ?_⟩)) (fun _ h => h.sub sl_) (fun _ => rfl) ?_
  rintro q ⟨i, v2⟩ j ⟨hi, hv2⟩ K hK
  simp only at hi hv2 ⊢
  refine c_seq ?_
  -- snap.go:135 R1
  refine c_reg ?_
  refine s_y (Y_lss rfl rfl) rfl rfl ?_
  refine s_nil ?_
  refine q_then ?_
  refine c_seq ?_
  first | refine c_cond' rfl (fun hc1 => ?_) (fun hc1 => ?_) | refine c_cond rfl (fun hc1 => ?_) (fun hc1 => ?_)
  · skip
    try simp only [nrm_] at hc1
    refine c_skip ?_
    refine q_then ?_
    refine c_seq ?_
    refine c_block ?_
    refine c_seq ?_
    -- snap.go:135 R2
    refine c_reg ?_
    refine s_y (Y_ia1 rfl rfl Try.underlying93 sz71 rfl (by omega)) rfl rfl ?_
    refine s_y (Y_loadR (v := .pointer (some ⟨yb, j0 + i, none⟩)) (i := i) rfl one71 hl (by omega) (ptrs_get (by omega)) (by simp only [List.map_cons, List.map_nil, List.mem_cons, List.not_mem_nil, or_false, not_or]; exact hlb)) rfl rfl ?_
    refine s_y (Y_as) rfl rfl ?_
    refine s_nil ?_
    refine q_then ?_
    -- snap.go:136 R3
    refine c_reg ?_
    refine s_y (Y_mv) rfl rfl ?_
    refine s_y (Y_mv) rfl rfl ?_
    refine s_cm [rB rb v2] (En_call (fun _ => rfl) Try.func32 rfl (by kernel_rfl) rfl) (by repeat (first | exact Sels.nil | apply Sels.cons (by repeat (first | exact Sel.head | apply Sel.tail)))) (fun w hH => prnum_d (m := 1) (hs.has hH (by simp only [List.map_cons, List.map_nil, List.mem_cons, List.not_mem_nil, or_false, not_or]; exact ⟨hne, hne3⟩)) hv2 (by decide) (by omega) (hH.at' mm_) hne) rfl rfl ?_
    rintro _ _ ⟨rfl, v3, hv3, rfl⟩
    obtain ⟨x, hx3⟩ := take_lt (show k + i < bs.length by omega)
    have hn1 : numM ((bs.drop (k + i)).take 1) = x.toNat := by
      rw [List.drop_eq_getElem_cons (by omega), List.take_succ_cons, List.take_zero]
      obtain ⟨h1, rfl⟩ := List.getElem?_eq_some_iff.1 hx3
      simp [numM]
    have hxl := x.toNat_lt
    have hpb : putB yc j0 bs k (i + 1) = (putB yc j0 bs k i).set (j0 + i) (iv (x.toNat : Int)) := by rw [putB, byteAt_of hx3]
    have hpl := putB_len yc j0 bs k i
    rw [hn1]
    refine s_y (Y_conv rfl Try.underlying54 Try.underlying3 (i64_id (by omega))) rfl rfl ?_
    refine s_y ((by first | exact Y_nil rfl | exact Y_nilF rfl | exact Y_nilM rfl (by assumption) | exact Y_nilM rfl (by intro w k; kernel_rfl))) rfl rfl ?_
    refine s_s (S_st (cs' := putB yc j0 bs k (i + 1)) rfl gt_ sz3 (by rfl) (by repeat (first | exact Upd.head | apply Upd.tail)) hpb.symm (by omega)) rfl ?_
    refine s_nil ?_
    refine q_bn ?_
    refine q_then ?_
    -- snap.go:135 R4
    refine c_reg ?_
    refine s_y ((by first | exact Y_add rfl rfl (by omega) | exact Y_addw rfl rfl)) rfl rfl ?_
    refine s_y (Y_mv) rfl rfl ?_
    refine s_nil ?_
    refine hK (q - 1) (i + 1, v3) _ _ (by omega) ⟨by simp only; omega, hv3⟩ ⟨rfl, trivial⟩ rfl (fun _ h => h.pick (by repeat (first | exact Sels.nil | apply Sels.cons (by repeat (first | exact Sel.head | apply Sel.tail)))))
  · skip
    try simp only [nrm_] at hc1
    refine c_exit ?_
    repeat with_reducible refine q_te ?_
    refine q_exit ?_
    refine q_end0 rfl (L' := _) sl_ (⟨rfl, v2, by rw [show m = i by omega]; exact hv2, by rw [show m = i by omega]⟩)
end
end Go.Proofs.Ytecodneffflpoaa
