/- The reader of package wire: what each call does to it. -/
import Derived.Test.YtphmdhbhoakcaaaHT
import Derived.Test.YtphmdhbhoakcaaaWireL
namespace Go.Proofs.Ytphmdhbhoakcaaa
open Go.RowKit Go.Ad Go.Maps
set_option linter.unusedVariables false
set_option linter.unusedSimpArgs false
/-- A worker's block. -/
abbrev wk (b T : Nat) (a : Option Addr) (n c : Nat) (e bad : Int) : Bk := ⟨b, T, 3, 1, [.slice a n c, .int .i64 e, .int .i64 bad]⟩
section
variable {W : World} {b T : Nat} {a : Option Addr} {n c : Nat} {e bad : Int}
set_option maxRecDepth 100000 in
theorem must_d (is : Bool) (er : Int) (hx : (wk b T a n c e bad).holds W) : Does Try.prog 26 [ptr b, .bool is, .int .i64 er] W [b] (fun v L => v = .tuple #[] ∧ L = [wk b T a n c (noted is e er) bad]) := by
  have hpost : ∀ e', e' = noted is e er → ((Value.tuple #[] : Value) = .tuple #[] ∧ [wk b T a n c e' bad] = [wk b T a n c (noted is e er) bad]) := by rintro e' rfl; exact ⟨rfl, rfl⟩
  refine enter Try.func26 rfl rfl rfl (Has.start1 hx) ?_
  refine c_seq ?_
  cases is
  · skip
    refine c_reg ?_
    refine s_y (Y_mv) rfl rfl ?_
    refine s_y (Y_not rfl) rfl rfl ?_
    refine s_y (Y_mv) rfl rfl ?_
    first | refine s_y (Y_mv) rfl rfl ?_ | refine s_pass rfl rfl ?_
    first | refine s_y ((by first | exact Y_nil rfl | exact Y_nilF rfl | exact Y_nilM rfl (by assumption) | exact Y_nilM rfl (by intro w k; kernel_rfl))) rfl rfl ?_ | refine s_pass rfl rfl ?_
    first | refine s_y (Y_fa 1 rfl Try.underlying54 rfl sz33 rfl) rfl rfl ?_ | refine s_pass rfl rfl ?_
    first | refine s_y ((by first | exact Y_load rfl one33 (by repeat (first | exact List.Mem.head _ | assumption | apply List.Mem.tail | apply List.mem_append_right)) (by rfl) | exact Y_load rfl one33 (by repeat (first | exact List.Mem.head _ | assumption | apply List.Mem.tail | apply List.mem_append_right)) (by assumption) | exact Y_loadR rfl one33 (by assumption) rfl (by assumption))) rfl rfl ?_ | refine s_pass rfl rfl ?_
    first | refine s_y (Y_eql rfl rfl) rfl rfl ?_ | refine s_pass rfl rfl ?_
    refine s_y (Y_pk rfl (Gx.tmp (by repeat (first | exact Gt.here | apply Gt.there (by rfl) | exact Gt.base (by rfl)))) Gx.const) rfl rfl ?_
    refine s_nil ?_
    refine q_then ?_
    refine c_cond' rfl (fun h => ?_) (fun h => ?_)
    · skip
      refine c_reg ?_
      refine s_y (Y_mv) rfl rfl ?_
      refine s_y (Y_mv) rfl rfl ?_
      refine s_y ((by first | exact Y_nil rfl | exact Y_nilF rfl | exact Y_nilM rfl (by assumption) | exact Y_nilM rfl (by intro w k; kernel_rfl))) rfl rfl ?_
      refine s_y (Y_fa 1 rfl Try.underlying54 rfl sz33 rfl) rfl rfl ?_
      refine s_s (S_st rfl (by repeat (first | exact Gt.here | apply Gt.there (by rfl) | exact Gt.base (by rfl))) sz33 (by rfl) (by repeat (first | exact Upd.head | apply Upd.tail)) (by first | (simp only [Nat.zero_add, Nat.reduceAdd, List.set_cons_succ, List.set_cons_zero]; rfl) | rfl) (by first | (simp; done) | omega)) rfl ?_
      refine s_nil ?_
      refine q_end0 rfl (by repeat (first | exact List.Sublist.refl _ | exact List.nil_sublist _ | apply List.Sublist.cons_cons | apply List.Sublist.cons)) (hpost _ (by simp [noted, h]))
    · refine c_skip ?_
      refine q_end0 rfl (by repeat (first | exact List.Sublist.refl _ | exact List.nil_sublist _ | apply List.Sublist.cons_cons | apply List.Sublist.cons)) (hpost _ (by simp [noted, h]))
  · skip
    refine c_reg ?_
    refine s_y (Y_mv) rfl rfl ?_
    refine s_y (Y_not rfl) rfl rfl ?_
    refine s_y (Y_mv) rfl rfl ?_
    first | refine s_y (Y_mv) rfl rfl ?_ | refine s_pass rfl rfl ?_
    first | refine s_y ((by first | exact Y_nil rfl | exact Y_nilF rfl | exact Y_nilM rfl (by assumption) | exact Y_nilM rfl (by intro w k; kernel_rfl))) rfl rfl ?_ | refine s_pass rfl rfl ?_
    first | refine s_y (Y_fa 1 rfl Try.underlying54 rfl sz33 rfl) rfl rfl ?_ | refine s_pass rfl rfl ?_
    first | refine s_y ((by first | exact Y_load rfl one33 (by repeat (first | exact List.Mem.head _ | assumption | apply List.Mem.tail | apply List.mem_append_right)) (by rfl) | exact Y_load rfl one33 (by repeat (first | exact List.Mem.head _ | assumption | apply List.Mem.tail | apply List.mem_append_right)) (by assumption) | exact Y_loadR rfl one33 (by assumption) rfl (by assumption))) rfl rfl ?_ | refine s_pass rfl rfl ?_
    first | refine s_y (Y_eql rfl rfl) rfl rfl ?_ | refine s_pass rfl rfl ?_
    refine s_y (Y_pk rfl (Gx.tmp (by repeat (first | exact Gt.here | apply Gt.there (by rfl) | exact Gt.base (by rfl)))) Gx.const) rfl rfl ?_
    refine s_nil ?_
    refine q_then ?_
    refine c_F rfl rfl ?_
    refine c_skip ?_
    refine q_end0 rfl (by repeat (first | exact List.Sublist.refl _ | exact List.nil_sublist _ | apply List.Sublist.cons_cons | apply List.Sublist.cons)) (hpost _ (by simp [noted]))
set_option maxRecDepth 100000 in
theorem failed_d (hx : (wk b T a n c e bad).holds W) : Does Try.prog 21 [ptr b] W [b] (fun v L => v = .bool (decide (e ≠ 0)) ∧ L = [wk b T a n c e bad]) := by
  refine enter Try.func21 rfl rfl rfl (Has.start1 hx) ?_
  refine c_seq ?_
  refine c_reg ?_
  refine s_y (Y_asC) rfl rfl ?_
  refine s_nil ?_
  refine q_then ?_
  refine c_seq ?_
  refine c_reg ?_
  refine s_y (Y_mv) rfl rfl ?_
  refine s_y ((by first | exact Y_nil rfl | exact Y_nilF rfl | exact Y_nilM rfl (by assumption) | exact Y_nilM rfl (by intro w k; kernel_rfl))) rfl rfl ?_
  refine s_y (Y_fa 1 rfl Try.underlying54 rfl sz33 rfl) rfl rfl ?_
  refine s_y ((by first | exact Y_load rfl one33 (by repeat (first | exact List.Mem.head _ | assumption | apply List.Mem.tail | apply List.mem_append_right)) (by rfl) | exact Y_load rfl one33 (by repeat (first | exact List.Mem.head _ | assumption | apply List.Mem.tail | apply List.mem_append_right)) (by assumption) | exact Y_loadR rfl one33 (by assumption) rfl (by assumption))) rfl rfl ?_
  refine s_y (Y_neq rfl rfl) rfl rfl ?_
  refine s_y (Y_as) rfl rfl ?_
  refine s_nil ?_
  refine q_then ?_
  refine c_ret ?_
  refine q_ret1 rfl rfl (L' := _) (by repeat (first | exact List.Sublist.refl _ | exact List.nil_sublist _ | apply List.Sublist.cons_cons | apply List.Sublist.cons)) ⟨rfl, rfl⟩
set_option maxRecDepth 100000 in
theorem within_d (x f t : Int) (hx : (wk b T a n c e bad).holds W) : Does Try.prog 69 [ptr b, .int .i64 x, .int .i64 f, .int .i64 t] W [b] (fun v L => v = .tuple #[] ∧ L = [wk b T a n c (noted (inB x f t) e bad) bad]) := by
  refine enter Try.func69 rfl rfl rfl (Has.start1 hx) ?_
  by_cases h1 : x ≥ f
  · have hb : inB x f t = decide (x ≤ t) := by simp [inB, h1]
    rw [hb]
    refine c_reg ?_
    refine s_y (Y_mv) rfl rfl ?_
    refine s_y (Y_mv) rfl rfl ?_
    refine s_y (Y_mv) rfl rfl ?_
    refine s_y (Y_geq rfl rfl) rfl rfl ?_
    refine s_y (Y_mv) rfl rfl ?_
    refine s_known (d := 12) rfl (decide_eq_true h1) ?_
    first | refine s_y (Y_mv) rfl rfl ?_ | refine s_pass rfl rfl ?_
    first | refine s_y (Y_mv) rfl rfl ?_ | refine s_pass rfl rfl ?_
    first | refine s_y (Y_leq rfl rfl) rfl rfl ?_ | refine s_pass rfl rfl ?_
    refine s_y (Y_pk rfl (Gx.tmp (by repeat (first | exact Gt.here | apply Gt.there (by rfl) | exact Gt.base (by rfl)))) Gx.const) rfl rfl ?_
    refine s_y (Y_mv) rfl rfl ?_
    refine s_y ((by first | exact Y_nil rfl | exact Y_nilF rfl | exact Y_nilM rfl (by assumption) | exact Y_nilM rfl (by intro w k; kernel_rfl))) rfl rfl ?_
    refine s_y (Y_fa 2 rfl Try.underlying54 rfl sz33 rfl) rfl rfl ?_
    refine s_y ((by first | exact Y_load rfl one33 (by repeat (first | exact List.Mem.head _ | assumption | apply List.Mem.tail | apply List.mem_append_right)) (by rfl) | exact Y_load rfl one33 (by repeat (first | exact List.Mem.head _ | assumption | apply List.Mem.tail | apply List.mem_append_right)) (by assumption) | exact Y_loadR rfl one33 (by assumption) rfl (by assumption))) rfl rfl ?_
    refine s_cm [wk b T a n c e bad] (En_call (fun _ => rfl) Try.func26 rfl (by kernel_rfl) rfl) (by repeat (first | exact Sels.nil | apply Sels.cons (by repeat (first | exact Sel.head | apply Sel.tail)))) (fun w hH => must_d _ _ (hH.at' (by repeat (first | exact List.Mem.head _ | assumption | apply List.Mem.tail | apply List.mem_append_right)))) rfl rfl ?_
    rintro _ _ ⟨rfl, rfl⟩
    refine s_nil ?_
    refine q_end0 rfl (by repeat (first | exact List.Sublist.refl _ | exact List.nil_sublist _ | apply List.Sublist.cons_cons | apply List.Sublist.cons)) ⟨rfl, rfl⟩
  · have hb : inB x f t = false := by simp [inB, h1]
    rw [hb]
    refine c_reg ?_
    refine s_y (Y_mv) rfl rfl ?_
    refine s_y (Y_mv) rfl rfl ?_
    refine s_y (Y_mv) rfl rfl ?_
    refine s_y (Y_geq rfl rfl) rfl rfl ?_
    refine s_y (Y_mv) rfl rfl ?_
    refine s_known (d := 12) rfl (decide_eq_false h1) ?_
    first | refine s_y (Y_mv) rfl rfl ?_ | refine s_pass rfl rfl ?_
    first | refine s_y (Y_mv) rfl rfl ?_ | refine s_pass rfl rfl ?_
    first | refine s_y (Y_leq rfl rfl) rfl rfl ?_ | refine s_pass rfl rfl ?_
    refine s_y (Y_pk rfl (Gx.tmp (by repeat (first | exact Gt.here | apply Gt.there (by rfl) | exact Gt.base (by rfl)))) Gx.const) rfl rfl ?_
    refine s_y (Y_mv) rfl rfl ?_
    refine s_y ((by first | exact Y_nil rfl | exact Y_nilF rfl | exact Y_nilM rfl (by assumption) | exact Y_nilM rfl (by intro w k; kernel_rfl))) rfl rfl ?_
    refine s_y (Y_fa 2 rfl Try.underlying54 rfl sz33 rfl) rfl rfl ?_
    refine s_y ((by first | exact Y_load rfl one33 (by repeat (first | exact List.Mem.head _ | assumption | apply List.Mem.tail | apply List.mem_append_right)) (by rfl) | exact Y_load rfl one33 (by repeat (first | exact List.Mem.head _ | assumption | apply List.Mem.tail | apply List.mem_append_right)) (by assumption) | exact Y_loadR rfl one33 (by assumption) rfl (by assumption))) rfl rfl ?_
    refine s_cm [wk b T a n c e bad] (En_call (fun _ => rfl) Try.func26 rfl (by kernel_rfl) rfl) (by repeat (first | exact Sels.nil | apply Sels.cons (by repeat (first | exact Sel.head | apply Sel.tail)))) (fun w hH => must_d _ _ (hH.at' (by repeat (first | exact List.Mem.head _ | assumption | apply List.Mem.tail | apply List.mem_append_right)))) rfl rfl ?_
    rintro _ _ ⟨rfl, rfl⟩
    refine s_nil ?_
    refine q_end0 rfl (by repeat (first | exact List.Sublist.refl _ | exact List.nil_sublist _ | apply List.Sublist.cons_cons | apply List.Sublist.cons)) ⟨rfl, rfl⟩
end
/-! ### Bytes that are read -/
def beval (l : List UInt8) : Nat := l.foldl (fun v x => v * 256 + x.toNat) 0
theorem beval_snoc (l : List UInt8) (x : UInt8) : beval (l ++ [x]) = beval l * 256 + x.toNat := by simp [beval]
theorem beval_lt : ∀ (l : List UInt8), beval l < 256 ^ l.length := by
  intro l
  have h : ∀ (l : List UInt8) (v : Nat), l.foldl (fun v x => v * 256 + x.toNat) v < (v + 1) * 256 ^ l.length := by
    intro l
    induction l with
    | nil => intro v; simp
    | cons x r ih =>
      intro v
      have h1 := ih (v * 256 + x.toNat)
      have h2 := x.toNat_lt
      simp only [List.foldl_cons, List.length_cons]
      refine Nat.lt_of_lt_of_le h1 ?_
      rw [Nat.pow_succ, Nat.mul_comm (256 ^ r.length) 256, ← Nat.mul_assoc]
      exact Nat.mul_le_mul_right _ (by omega)
  simpa [beval] using h l 0
/-- What is read from: bytes that lie somewhere and stay. -/
structure Src (W : World) (M : List Nat) (a : Option Addr) (n c : Nat) (bs : List UInt8) : Prop where
  len : bs.length = n
  cap : n ≤ c
  big : c ≤ 9223372036854775807
  ro : n ≠ 0 → ∃ bb o, a = some ⟨bb, o, none⟩ ∧ Ro W bb o (bs.map bv) ∧ bb ∉ M ∧ bb < W.heap.size
theorem Src.call {W w : World} {M : List Nat} {L xs : List Bk} {a : Option Addr} {n c : Nat} {bs : List UInt8} (h : Src W M a n c bs) (hH : Has W M L w) (hx : ∀ x ∈ xs, x ∈ L) : Src w (xs.map (·.b)) a n c bs := by
  refine ⟨h.len, h.cap, h.big, fun h0 => ?_⟩
  obtain ⟨bb, o, h1, h2, h3, h4⟩ := h.ro h0
  refine ⟨bb, o, h1, hH.ro h2 h3, fun hm => ?_, Nat.lt_of_lt_of_le h4 hH.size⟩
  obtain ⟨x, hxx, he⟩ := List.mem_map.1 hm
  rcases (hH.bk x (hx x hxx)).2 with h5 | h5
  · exact h3 (he ▸ h5)
  · omega
theorem Src.call2 {W w : World} {M : List Nat} {L R : List Bk} (x y : Bk) {a : Option Addr} {n c : Nat} {bs : List UInt8} (h : Src W M a n c bs) (hH : Has W M L w) (hs : Sels [x, y] L R) : Src w [x.b, y.b] a n c bs := h.call (xs := [x, y]) hH hs.mem
theorem Src.call1 {W w : World} {M : List Nat} {L R : List Bk} (x : Bk) {a : Option Addr} {n c : Nat} {bs : List UInt8} (h : Src W M a n c bs) (hH : Has W M L w) (hs : x ∈ L) : Src w [x.b] a n c bs := h.call (xs := [x]) hH (by simpa using hs)
theorem ne2 {W w : World} {M : List Nat} {L R : List Bk} (x y : Bk) (hH : Has W M L w) (hs : Sels [x, y] L R) : x.b ≠ y.b := hH.nodup2 hs
/-- The reader's block behind k bytes. -/
structure RdAt (a : Option Addr) (n c k : Nat) (a' : Option Addr) : Prop where
  le : k ≤ n
  at' : k < n → a' = a.map (·.add k)
  sm : a' ≠ none
abbrev rd (b : Nat) (a' : Option Addr) (n c k : Nat) (e : Int) : Bk := wk b 68 a' (n - k) (c - k) e 9
def rdRaw (bs : List UInt8) (n k : Nat) (e : Int) : Nat × Nat × Int := if e = 0 then (if k + n ≤ bs.length then (beval ((bs.drop k).take n), k + n, 0) else (0, k, 7)) else (0, k, e)
/-- What becomes of the reader. -/
def Rds (b : Nat) (a : Option Addr) (n c : Nat) (k : Nat) (e : Int) (x : Bk) : Prop := ∃ a', x = rd b a' n c k e ∧ RdAt a n c k a'
theorem shl_or (v x : Nat) (hv : v < 16777216) (hx : x < 256) : IntKind.u64.wrap (BitVec.ofInt 64 (IntKind.u64.wrap ((v : Int) * 2 ^ 8)) ||| BitVec.ofInt 64 (x : Int)).toNat = ((v * 256 + x : Nat) : Int) := by
  rw [u64_id (n := (v : Int) * 2 ^ 8) (by omega)]
  have h1 : BitVec.ofInt 64 ((v : Int) * 2 ^ 8) = BitVec.ofNat 64 (v * 256) := by
    rw [show (v : Int) * 2 ^ 8 = ((v * 256 : Nat) : Int) by omega, BitVec.ofInt_natCast]
  rw [h1, BitVec.ofInt_natCast, BitVec.toNat_or, BitVec.toNat_ofNat, BitVec.toNat_ofNat, Nat.mod_eq_of_lt (by omega), Nat.mod_eq_of_lt (by omega)]
  have h2 := Nat.shiftLeft_add_eq_or_of_lt (i := 8) (b := x) (by omega) v
  rw [Nat.shiftLeft_eq] at h2
  rw [← h2]
  exact u64_id (by omega)
section
variable {W : World} {b : Nat} {a a' : Option Addr} {n c k : Nat} {e : Int} {bs : List UInt8} {y : Bk} {j : Nat} {u0 : Value}
set_option maxRecDepth 100000 in
theorem raw_d {m : Nat} (hm0 : 0 < m) (hm : m ≤ 4) (hk : RdAt a n c k a') (hx : (rd b a' n c k e).holds W) (hy : y.holds W) (hne : b ≠ y.b) (hs : Src W [b, y.b] a n c bs) (hj : y.c[j]? = some u0) :
    Does Try.prog 71 [ptr b, .int .i64 (m : Int), ptrAt y.b j] W [b, y.b] (fun v L => v = .tuple #[] ∧ ∃ x, Rds b a n c (rdRaw bs m k e).2.1 (rdRaw bs m k e).2.2 x ∧ L = [x, { y with c := y.c.set j (.int .u64 ((rdRaw bs m k e).1 : Int)) }]) := by
  obtain ⟨yb, yt, yk, ycap, yc⟩ := y
  simp only at hne hs hj ⊢
  have hjl : j < yc.length := (List.getElem?_eq_some_iff.1 hj).1
  have hkn := hk.le
  have hcap := hs.cap
  have hbig := hs.big
  refine enter Try.func71 rfl rfl rfl (Has.starts (xs := [rd b a' n c k e, ⟨yb, yt, yk, ycap, yc⟩]) (by simp; exact ⟨hx, hy⟩) (by simpa using hne)) ?_
  refine c_seq ?_
  -- wire.go:89
  refine c_reg ?_
  refine s_y (Y_mv) rfl rfl ?_
  refine s_y ((by first | exact Y_nil rfl | exact Y_nilF rfl | exact Y_nilM rfl (by assumption) | exact Y_nilM rfl (by intro w k; kernel_rfl))) rfl rfl ?_
  refine s_s (S_stC rfl sz90 (by rfl) (by repeat (first | exact Upd.head | apply Upd.tail)) (by first | (simp only [Nat.zero_add, Nat.reduceAdd, List.set_cons_succ, List.set_cons_zero]; rfl) | rfl) (by first | (simp; done) | omega)) rfl ?_
  refine s_nil ?_
  refine q_then ?_
  refine c_seq ?_
  -- wire.go:90
  refine c_rord [11] [(0, true), (1, true), (2, true), (3, true), (4, true), (5, true), (6, true), (7, true), (8, true), (9, true), (10, true), (11, false)] (by kernel_rfl) (by kernel_rfl) (by kernel_rfl) (by kernel_rfl) rfl (by intro c a d v w h; cases d <;> exact h) rfl ?_
  simp only [mkOrd, List.filterMap_cons, List.filterMap_nil, List.getElem?_toArray, List.getElem?_cons_zero, List.getElem?_cons_succ, Option.map_some]
  refine o_y (Y_mv) rfl rfl ?_
  refine o_y ((by first | exact Y_nil rfl | exact Y_nilF rfl | exact Y_nilM rfl (by assumption) | exact Y_nilM rfl (by intro w k; kernel_rfl))) rfl rfl ?_
  refine o_y (Y_fa 0 rfl Try.underlying68 rfl sz54 rfl) rfl rfl ?_
  refine o_y (Y_mv) rfl rfl ?_
  refine o_y (Y_mv) rfl rfl ?_
  refine o_y ((by first | exact Y_nil rfl | exact Y_nilF rfl | exact Y_nilM rfl (by assumption) | exact Y_nilM rfl (by intro w k; kernel_rfl))) rfl rfl ?_
  refine o_y (Y_fa 0 rfl Try.underlying68 rfl sz54 rfl) rfl rfl ?_
  refine o_y (Y_fa 0 rfl Try.underlying54 rfl sz27 rfl) rfl rfl ?_
  refine o_y ((by first | exact Y_load rfl one27 (by repeat (first | exact List.Mem.head _ | assumption | apply List.Mem.tail | apply List.mem_append_right)) (by rfl) | exact Y_load rfl one27 (by repeat (first | exact List.Mem.head _ | assumption | apply List.Mem.tail | apply List.mem_append_right)) (by assumption) | exact Y_loadR rfl one27 (by assumption) rfl (by assumption))) rfl rfl ?_
  refine o_y (Y_len rfl rfl Try.underlying27) rfl rfl ?_
  refine o_y (Y_leq rfl rfl) rfl rfl ?_
  refine o_cm [rd b a' n c k e] (En_call (fun _ => rfl) Try.func26 rfl (by kernel_rfl) rfl) (by repeat (first | exact Sels.nil | apply Sels.cons (by repeat (first | exact Sel.head | apply Sel.tail)))) (fun w hH => must_d _ _ (hH.at' (by repeat (first | exact List.Mem.head _ | assumption | apply List.Mem.tail | apply List.mem_append_right)))) (fun _ _ h => by obtain ⟨rfl, rfl⟩ := h; exact (by first | exact keep_no rfl | exact keep_sub (by repeat (first | exact List.Sublist.refl _ | exact List.nil_sublist _ | apply List.Sublist.cons_cons | apply List.Sublist.cons)))) rfl rfl ?_
  rintro _ _ ⟨rfl, rfl⟩
  refine o_nil ?_
  refine q_then ?_
  refine c_seq ?_
  refine c_seq ?_
  -- wire.go:91
  refine c_reg ?_
  refine s_y (Y_mv) rfl rfl ?_
  refine s_y ((by first | exact Y_nil rfl | exact Y_nilF rfl | exact Y_nilM rfl (by assumption) | exact Y_nilM rfl (by intro w k; kernel_rfl))) rfl rfl ?_
  refine s_y (Y_fa 0 rfl Try.underlying68 rfl sz54 rfl) rfl rfl ?_
  refine s_cm [wk b 68 a' (n - k) (c - k) _ 9] (En_call (fun _ => rfl) Try.func21 rfl (by kernel_rfl) rfl) (by repeat (first | exact Sels.nil | apply Sels.cons (by repeat (first | exact Sel.head | apply Sel.tail)))) (fun w hH => failed_d (hH.at' (by repeat (first | exact List.Mem.head _ | assumption | apply List.Mem.tail | apply List.mem_append_right)))) rfl rfl ?_
  rintro _ _ ⟨rfl, rfl⟩
  refine s_nil ?_
  refine q_then ?_
  refine c_cond' rfl (fun h => ?_) (fun h => ?_)
  · refine c_ret ?_
    refine q_ret0 rfl (L' := _) (by repeat (first | exact List.Sublist.refl _ | exact List.nil_sublist _ | apply List.Sublist.cons_cons | apply List.Sublist.cons)) ⟨rfl, _, ⟨a', rfl, ?_⟩, ?_⟩
    · by_cases h0 : e = 0
      · have h1 : ¬ (m ≤ n - k) := fun h1 => h (by simp [noted, h0, h1])
        have h2 : ¬ (k + m ≤ bs.length) := by have := hs.len; omega
        simpa [rdRaw, h0, h2] using hk
      · simpa [rdRaw, h0] using hk
    · by_cases h0 : e = 0
      · have h1 : ¬ ((m : Int) ≤ (n - k : Nat)) := fun h1 => h (by simp [noted, h0, h1])
        have h2 : ¬ (k + m ≤ bs.length) := by have := hs.len; omega
        simp only [rdRaw, h0, h2, if_true, if_false, noted, h1, decide_false, and_self]
        rfl
      · simp only [rdRaw, h0, if_false, noted, and_false]
        rfl
  · have he : e = 0 ∧ m ≤ n - k := by
      by_cases h0 : e = 0
      · refine ⟨h0, ?_⟩
        by_cases h1 : (m : Int) ≤ (n - k : Nat)
        · omega
        · exact absurd (by simp [noted, h0, h1]) h
      · exact absurd (by simp [noted, h0]) h
    obtain ⟨rfl, hmk⟩ := he
    have hlen := hs.len
    obtain ⟨bb, o, rfl, hr, hMb, _⟩ := hs.ro (by omega)
    have hat := hk.at' (by omega)
    simp only [Option.map_some, Addr.add_mid] at hat
    subst hat
    have hne0 : noted (decide ((m : Int) ≤ (n - k : Nat))) 0 7 = 0 := by
      have : ((m : Int) ≤ (n - k : Nat)) := by omega
      simp [noted, this]
    have hR : rdRaw bs m k 0 = (beval ((bs.drop k).take m), k + m, 0) := by
      have : k + m ≤ bs.length := by omega
      simp [rdRaw, this]
    rw [hR, hne0]
    clear hne0 h
    refine c_skip ?_
    refine q_then ?_
    refine c_seq ?_
    refine c_seq ?_
    -- wire.go:94
    refine c_reg ?_
    refine s_y (Y_mv) rfl rfl ?_
    refine s_y ((by first | exact Y_nil rfl | exact Y_nilF rfl | exact Y_nilM rfl (by assumption) | exact Y_nilM rfl (by intro w k; kernel_rfl))) rfl rfl ?_
    refine s_y (Y_fa 0 rfl Try.underlying68 rfl sz54 rfl) rfl rfl ?_
    refine s_y (Y_fa 0 rfl Try.underlying54 rfl sz27 rfl) rfl rfl ?_
    refine s_y ((by first | exact Y_load rfl one27 (by repeat (first | exact List.Mem.head _ | assumption | apply List.Mem.tail | apply List.mem_append_right)) (by rfl) | exact Y_load rfl one27 (by repeat (first | exact List.Mem.head _ | assumption | apply List.Mem.tail | apply List.mem_append_right)) (by assumption) | exact Y_loadR rfl one27 (by assumption) rfl (by assumption))) rfl rfl ?_
    refine s_y (Y_mv) rfl rfl ?_
    refine s_y (Y_slHi rfl rfl Try.underlying27 sz5 rfl (by omega)) rfl rfl ?_
    refine s_y (Y_len rfl rfl Try.underlying27) rfl rfl ?_
    refine s_y (Y_mvC) rfl rfl ?_
    refine s_nil ?_
    refine q_then ?_
    refine c_block ?_
    refine c_loop [7, 34, 35, 36, 37, 38, 39, 40, 41, 42, 43, 44, 45, 46, 47] (fun n i => i + n = m) (fun i => [(34, .int .i64 (i : Int))]) (fun i => [rd b (some ⟨bb, o + k, none⟩) n c k 0, ⟨yb, yt, yk, ycap, yc.set j (.int .u64 (beval ((bs.drop k).take i) : Int))⟩]) m 0 (by omega) ⟨rfl, trivial⟩ (fun _ h => h) (fun _ => rfl) ?_
    rintro n2 i jj hφ K hK
    refine c_seq ?_
    -- wire.go:94
    refine c_reg ?_
    refine s_y (Y_lss rfl rfl) rfl rfl ?_
    refine s_nil ?_
    refine q_then ?_
    refine c_seq ?_
    refine c_cond' rfl (fun h => ?_) (fun h => ?_)
    · have hi : i < m := by omega
      obtain ⟨x, hpx⟩ : ∃ x, bs[k + i]? = some x := ⟨bs[k + i]'(by omega), by simp⟩
      have hxx : (bs.map bv)[k + i]? = some (bv x) := by simp [hpx]
      have hxt := x.toNat_lt
      have hbl : beval ((bs.drop k).take i) < 16777216 := by
        refine Nat.lt_of_lt_of_le (beval_lt _) ?_
        have : ((bs.drop k).take i).length ≤ 3 := by simp; omega
        exact Nat.le_trans (Nat.pow_le_pow_right (by omega) this) (by decide)
      refine c_skip ?_
      refine q_then ?_
      refine c_seq ?_
      refine c_block ?_
      refine c_seq ?_
      -- wire.go:94
      refine c_reg ?_
      refine s_y (Y_ia1 rfl rfl Try.underlying27 sz5 rfl (by omega)) rfl rfl ?_
      refine s_y (Y_loadR (i := k + i) rfl one5 hr (by omega) hxx hMb) rfl rfl ?_
      refine s_y (Y_as) rfl rfl ?_
      refine s_nil ?_
      refine q_then ?_
      -- wire.go:95
      refine c_reg ?_
      refine s_y (Y_mv) rfl rfl ?_
      refine s_y (Y_mv) rfl rfl ?_
      refine s_y ((by first | exact Y_nil rfl | exact Y_nilF rfl | exact Y_nilM rfl (by assumption) | exact Y_nilM rfl (by intro w k; kernel_rfl))) rfl rfl ?_
      refine s_y (Y_load rfl one90 (by repeat (first | exact List.Mem.head _ | assumption | apply List.Mem.tail | apply List.mem_append_right)) (List.getElem?_set_self hjl)) rfl rfl ?_
      refine s_y (Y_shl rfl rfl (by omega)) rfl rfl ?_
      refine s_y (Y_mv) rfl rfl ?_
      refine s_y ((by first | exact Y_conv rfl Try.underlying5 Try.underlying90 (by first | exact i64_u8 _ | exact u64_u8 _ | exact i64_id (by omega) | exact u64_id (by omega) | exact u8_id (by omega) | exact u32_id (by omega)) | exact Y_convw rfl Try.underlying5 Try.underlying90)) rfl rfl ?_
      refine s_y ((Y_bits rfl rfl rfl (by simp)).num (shl_or _ _ hbl hxt)) rfl rfl ?_
      refine s_y ((by first | exact Y_nil rfl | exact Y_nilF rfl | exact Y_nilM rfl (by assumption) | exact Y_nilM rfl (by intro w k; kernel_rfl))) rfl rfl ?_
      refine s_s (S_st rfl (by repeat (first | exact Gt.here | apply Gt.there (by rfl) | exact Gt.base (by rfl))) sz90 (by rfl) (by repeat (first | exact Upd.head | apply Upd.tail)) (List.set_set _) (by simp [hjl])) rfl ?_
      refine s_nil ?_
      refine q_bn ?_
      refine q_then ?_
      -- wire.go:94
      refine c_reg ?_
      refine s_y ((by first | exact Y_add rfl rfl (by omega) | exact Y_addw rfl rfl)) rfl rfl ?_
      refine s_y (Y_mv) rfl rfl ?_
      refine s_nil ?_
      refine hK (n2 - 1) (i + 1) _ _ (by omega) (by omega) ⟨rfl, trivial⟩ rfl (fun w h => ?_)
      dsimp only
      rw [List.take_add_one, List.getElem?_drop, hpx, Option.toList_some, beval_snoc]
      exact h
    · refine c_exit ?_
      repeat with_reducible refine q_te ?_
      refine q_exit ?_
      refine q_then ?_
      obtain rfl : i = m := by omega
      -- wire.go:97
      refine c_reg ?_
      refine s_y (Y_mv) rfl rfl ?_
      refine s_y (Y_mv) rfl rfl ?_
      refine s_y ((by first | exact Y_nil rfl | exact Y_nilF rfl | exact Y_nilM rfl (by assumption) | exact Y_nilM rfl (by intro w k; kernel_rfl))) rfl rfl ?_
      refine s_y (Y_fa 0 rfl Try.underlying68 rfl sz54 rfl) rfl rfl ?_
      refine s_y (Y_fa 0 rfl Try.underlying54 rfl sz27 rfl) rfl rfl ?_
      refine s_y ((by first | exact Y_load rfl one27 (by repeat (first | exact List.Mem.head _ | assumption | apply List.Mem.tail | apply List.mem_append_right)) (by rfl) | exact Y_load rfl one27 (by repeat (first | exact List.Mem.head _ | assumption | apply List.Mem.tail | apply List.mem_append_right)) (by assumption) | exact Y_loadR rfl one27 (by assumption) rfl (by assumption))) rfl rfl ?_
      refine s_y (Y_mv) rfl rfl ?_
      refine s_y (Y_slLo (l := i) rfl rfl Try.underlying27 sz5 rfl hmk) rfl rfl ?_
      refine s_y ((by first | exact Y_nil rfl | exact Y_nilF rfl | exact Y_nilM rfl (by assumption) | exact Y_nilM rfl (by intro w k; kernel_rfl))) rfl rfl ?_
      refine s_y (Y_fa 0 rfl Try.underlying68 rfl sz54 rfl) rfl rfl ?_
      refine s_y (Y_fa 0 rfl Try.underlying54 rfl sz27 rfl) rfl rfl ?_
      refine s_s (S_st rfl (by repeat (first | exact Gt.here | apply Gt.there (by rfl) | exact Gt.base (by rfl))) sz27 (by rfl) (by repeat (first | exact Upd.head | apply Upd.tail)) (by first | (simp only [Nat.zero_add, Nat.reduceAdd, List.set_cons_succ, List.set_cons_zero]; rfl) | rfl) (by first | (simp; done) | omega)) rfl ?_
      refine s_nil ?_
      refine q_end0 rfl (by repeat (first | exact List.Sublist.refl _ | exact List.nil_sublist _ | apply List.Sublist.cons_cons | apply List.Sublist.cons)) ⟨rfl, rd b (slAt (some ⟨bb, o + k, none⟩) (c - k) i 1) n c (k + i) 0, ⟨_, rfl, ⟨by show k + i ≤ n; omega, fun hlt => ?_, by unfold slAt; split <;> simp⟩⟩, ?_⟩
      · have hlt : k + i < n := hlt
        have : ¬ (c - k = i) := by omega
        simp [slAt, this, Addr.add_mid, Nat.add_assoc]
      · simp only [Nat.sub_sub]
end
end Go.Proofs.Ytphmdhbhoakcaaa
