/- The reader: row, stream. -/
import Derived.Test.YtphmdhbhoakcaaaR3
namespace Go.Proofs.Ytphmdhbhoakcaaa
open Go.RowKit Go.Ad Go.Maps
set_option linter.unusedVariables false
set_option linter.unusedSimpArgs false
def rdInts (bs : List UInt8) : Nat → Nat → Int → List Int × Nat × Int
  | 0, k, e => ([], k, e)
  | m + 1, k, e => ((rdInts bs m k e).1 ++ [(rdNum bs 1 0 10 (rdInts bs m k e).2.1 (rdInts bs m k e).2.2).1], (rdNum bs 1 0 10 (rdInts bs m k e).2.1 (rdInts bs m k e).2.2).2)
theorem rdInts_len (bs : List UInt8) : ∀ (m k : Nat) (e : Int), (rdInts bs m k e).1.length = m
  | 0, _, _ => rfl
  | m + 1, k, e => by simp [rdInts, rdInts_len bs m k e]
def rdRow (bs : List UInt8) (k : Nat) (e : Int) : Option (List Int) × Nat × Int :=
  let r := rdNum bs 1 0 255 k e
  if r.2.2 = 0 then (some (rdInts bs r.1.toNat r.2.1 0).1, (rdInts bs r.1.toNat r.2.1 0).2) else (none, r.2)
def RowPost (y : Bk) (j : Nat) (x : Bk) (L : List Bk) : Option (List Int) → Prop
  | none => L = [x, y]
  | some zs => ∃ g, L = [x, ⟨g, 3, 1, zs.length, zs.map (Value.int .i64)⟩, { y with c := y.c.set j (.slice (some ⟨g, 0, none⟩) zs.length zs.length) }]
/-- A row that is filled from its begin. -/
def fillI (zs : List Int) (m : Nat) : List Value := zs.map (Value.int .i64) ++ List.replicate (m - zs.length) (.int .i64 0)
theorem fillI_get {zs : List Int} {m : Nat} (h : zs.length < m) : (fillI zs m)[zs.length]? = some (.int .i64 0) := by
  unfold fillI
  rw [List.getElem?_append_right (by simp), List.length_map, Nat.sub_self, List.getElem?_replicate, if_pos (by omega)]
theorem fillI_set {zs : List Int} {m : Nat} (h : zs.length < m) (z : Int) : (fillI zs m).set zs.length (.int .i64 z) = fillI (zs ++ [z]) m := by
  unfold fillI
  rw [List.set_append_right _ _ (by simp)]
  obtain ⟨d, hd⟩ : ∃ d, m - zs.length = d + 1 := ⟨m - zs.length - 1, by omega⟩
  have hd2 : m - (zs ++ [z]).length = d := by simp; omega
  rw [hd, hd2]
  simp [List.replicate_succ]
theorem fillI_all {zs : List Int} {m : Nat} (h : zs.length = m) : fillI zs m = zs.map (Value.int .i64) := by
  unfold fillI; simp [h]
theorem inB_num {bs : List UInt8} {m : Nat} {f t : Int} {k : Nat} {e : Int} (h : (rdNum bs m f t k e).2.2 = 0) : f ≤ (rdNum bs m f t k e).1 ∧ (rdNum bs m f t k e).1 ≤ t := by
  unfold rdNum at h ⊢
  simp only at h ⊢
  cases hb : inB ((rdRaw bs m k e).1 : Int) f t
  · rw [hb] at h
    by_cases h0 : (rdRaw bs m k e).2.2 = 0
    · simp [noted, h0] at h
    · simp [noted, h0] at h
  · simpa [inB] using hb
section
variable {W : World} {b : Nat} {a a' : Option Addr} {n c k : Nat} {e : Int} {bs : List UInt8} {y : Bk} {j : Nat} {u0 : Value}
set_option maxRecDepth 100000 in
theorem row_d (hk : RdAt a n c k a') (hx : (rd b a' n c k e).holds W) (hy : y.holds W) (hne : b ≠ y.b) (hs : Src W [b, y.b] a n c bs) (hj : y.c[j]? = some (.slice none 0 0)) :
    Does Try.prog 48 [.iface 67 (ptr b), ptrAt y.b j] W [b, y.b] (fun v L => v = .tuple #[] ∧ ∃ x, Rds b a n c (rdRow bs k e).2.1 (rdRow bs k e).2.2 x ∧ RowPost y j x L (rdRow bs k e).1) := by
  obtain ⟨yb, yt, yk, ycap, yc⟩ := y
  simp only at hne hs hj ⊢
  have hjl : j < yc.length := (List.getElem?_eq_some_iff.1 hj).1
  have has := assert_rr b
  refine enter Try.func48 rfl rfl rfl (Has.starts (xs := [rd b a' n c k e, ⟨yb, yt, yk, ycap, yc⟩]) (by simp; exact ⟨hx, hy⟩) (by simpa using hne)) ?_
  refine c_seq ?_
  refine c_reg ?_
  refine s_y (Y_mv) rfl rfl ?_
  refine s_y ((by first | exact Y_nil rfl | exact Y_nilF rfl | exact Y_nilM rfl (by assumption) | exact Y_nilM rfl (by intro w k; kernel_rfl))) rfl rfl ?_
  refine s_y ((by first | exact Y_load rfl one24 (by repeat (first | exact List.Mem.head _ | assumption | apply List.Mem.tail | apply List.mem_append_right)) (by rfl) | exact Y_load rfl one24 (by repeat (first | exact List.Mem.head _ | assumption | apply List.Mem.tail | apply List.mem_append_right)) (by assumption) | exact Y_loadR rfl one24 (by assumption) rfl (by assumption))) rfl rfl ?_
  refine s_y (Y_len rfl rfl Try.underlying24) rfl rfl ?_
  refine s_n (N_alloc (z := .int .i64 0) (cs := [.int .i64 0]) zv3 rfl) rfl rfl (fun b4 _ => ?_)
  refine s_s (S_st rfl (by repeat (first | exact Gt.here | apply Gt.there (by rfl) | exact Gt.base (by rfl))) sz3 (by rfl) (by repeat (first | exact Upd.head | apply Upd.tail)) (by first | (simp only [Nat.zero_add, Nat.reduceAdd, List.set_cons_succ, List.set_cons_zero]; rfl) | rfl) (by first | (simp; done) | omega)) rfl ?_
  refine s_nil ?_
  refine q_then ?_
  refine c_seq ?_
  refine c_reg ?_
  refine s_y (Y_mv) rfl rfl ?_
  refine s_cm [rd b a' n c k e, intB b4 0] (En_call (fun _ => rfl) Try.func47 rfl (by kernel_rfl) rfl) (by repeat (first | exact Sels.nil | apply Sels.cons (by repeat (first | exact Sel.head | apply Sel.tail)))) (fun w hH => number_d (m := 1) (y := intB b4 0) (by omega) (by omega) hk (hH.at' (by repeat (first | exact List.Mem.head _ | assumption | apply List.Mem.tail | apply List.mem_append_right))) (hH.at' (by repeat (first | exact List.Mem.head _ | assumption | apply List.Mem.tail | apply List.mem_append_right))) (ne2 (rd b a' n c k e) (intB b4 0) hH (by repeat (first | exact Sels.nil | apply Sels.cons (by repeat (first | exact Sel.head | apply Sel.tail))))) (hs.call2 (rd b a' n c k e) (intB b4 0) hH (by repeat (first | exact Sels.nil | apply Sels.cons (by repeat (first | exact Sel.head | apply Sel.tail))))) rfl) rfl rfl ?_
  rintro _ _ ⟨rfl, _, ⟨a2, rfl, hk2⟩, rfl⟩
  have hR : rdRow bs k e = rdRow bs k e := rfl
  conv at hR => rhs; unfold rdRow
  have hB := inB_num (bs := bs) (m := 1) (f := 0) (t := 255) (k := k) (e := e)
  generalize rdNum bs 1 0 255 k e = r at *
  obtain ⟨z1, k1, e1⟩ := r
  simp only at hk2 hR hB
  refine s_nil ?_
  refine q_then ?_
  refine c_seq ?_
  refine c_seq ?_
  refine c_reg ?_
  refine s_y (Y_mv) rfl rfl ?_
  refine s_cm [rd b a2 n c k1 e1] (En_inv rfl rfl (by intro w; kernel_rfl)) (by repeat (first | exact Sels.nil | apply Sels.cons (by repeat (first | exact Sel.head | apply Sel.tail)))) (fun w hH => failed_d (hH.at' (by repeat (first | exact List.Mem.head _ | assumption | apply List.Mem.tail | apply List.mem_append_right)))) rfl rfl ?_
  rintro _ _ ⟨rfl, rfl⟩
  refine s_nil ?_
  refine q_then ?_
  refine c_cond' rfl (fun h => ?_) (fun h => ?_)
  · rw [if_neg h] at hR
    rw [hR]
    refine c_ret ?_
    refine q_ret0 rfl (L' := [rd b a2 n c k1 e1, ⟨yb, yt, yk, ycap, yc⟩]) (by repeat (first | exact List.Sublist.refl _ | exact List.nil_sublist _ | apply List.Sublist.cons_cons | apply List.Sublist.cons)) ⟨rfl, _, ⟨a2, rfl, hk2⟩, rfl⟩
  · have he1 : e1 = 0 := by simpa using h
    subst he1
    obtain ⟨hb0, hb1⟩ := hB rfl
    obtain ⟨m, rfl⟩ := Int.eq_ofNat_of_zero_le hb0
    rw [if_pos rfl] at hR
    simp only [Int.toNat_natCast] at hR
    rw [hR]
    clear hB hb0 h
    refine c_skip ?_
    refine q_then ?_
    refine c_seq ?_
    refine c_seq ?_
    refine c_reg ?_
    refine s_y (Y_mv) rfl rfl ?_
    refine s_y (Y_assert rfl (by first | assumption | (intro w; kernel_rfl))) rfl rfl ?_
    refine s_y (Y_mv) rfl rfl ?_
    refine s_y (Y_extract rfl rfl) rfl rfl ?_
    refine s_y (Y_extract rfl rfl) rfl rfl ?_
    refine s_y (Y_as) rfl rfl ?_
    refine s_y (Y_as) rfl rfl ?_
    refine s_nil ?_
    refine q_then ?_
    refine c_seq ?_
    refine c_reg ?_
    refine s_y (Y_mv) rfl rfl ?_
    refine s_nil ?_
    refine q_then ?_
    refine c_T rfl rfl ?_
    refine c_reg ?_
    refine s_y (Y_mv) rfl rfl ?_
    refine s_y ((by first | exact Y_load rfl one3 (by repeat (first | exact List.Mem.head _ | assumption | apply List.Mem.tail | apply List.mem_append_right)) (by rfl) | exact Y_load rfl one3 (by repeat (first | exact List.Mem.head _ | assumption | apply List.Mem.tail | apply List.mem_append_right)) (by assumption) | exact Y_loadR rfl one3 (by assumption) rfl (by assumption))) rfl rfl ?_
    refine s_n (N_make1 rfl rfl Try.underlying24 inf3 rfl rfl (by omega) (by omega)) rfl rfl (fun b24 _ => ?_)
    refine s_y ((by first | exact Y_nil rfl | exact Y_nilF rfl | exact Y_nilM rfl (by assumption) | exact Y_nilM rfl (by intro w k; kernel_rfl))) rfl rfl ?_
    refine s_s (S_st rfl (by repeat (first | exact Gt.here | apply Gt.there (by rfl) | exact Gt.base (by rfl))) sz24 (by rfl) (by repeat (first | exact Upd.head | apply Upd.tail)) rfl (by simp [hjl])) rfl ?_
    refine s_nil ?_
    refine q_then ?_
    refine c_seq ?_
    refine c_reg ?_
    refine s_y (Y_mv) rfl rfl ?_
    refine s_y ((by first | exact Y_nil rfl | exact Y_nilF rfl | exact Y_nilM rfl (by assumption) | exact Y_nilM rfl (by intro w k; kernel_rfl))) rfl rfl ?_
    refine s_y (Y_load rfl one24 (by repeat (first | exact List.Mem.head _ | assumption | apply List.Mem.tail | apply List.mem_append_right)) (List.getElem?_set_self hjl)) rfl rfl ?_
    refine s_y (Y_len rfl rfl Try.underlying24) rfl rfl ?_
    refine s_y (Y_mvC) rfl rfl ?_
    refine s_nil ?_
    refine q_then ?_
    refine c_block ?_
    refine c_loop [7, 30, 31, 32, 33, 34, 35, 36, 37, 38, 39, 40] (fun n2 (p : Nat × Option Addr) => p.1 + n2 = m ∧ RdAt a n c (rdInts bs p.1 k1 0).2.1 p.2) (fun p => [(30, .int .i64 (p.1 : Int))])
      (fun p => [rd b p.2 n c (rdInts bs p.1 k1 0).2.1 (rdInts bs p.1 k1 0).2.2, ⟨b24, 3, 1, m, fillI (rdInts bs p.1 k1 0).1 m⟩, ⟨yb, yt, yk, ycap, yc.set j (.slice (some ⟨b24, 0, none⟩) m m)⟩]) m (0, a2) ⟨by omega, hk2⟩ ⟨rfl, trivial⟩ (fun _ h => Has.swap (h.sub (L' := [_, _, _]) (by repeat (first | exact List.Sublist.refl _ | exact List.nil_sublist _ | apply List.Sublist.cons_cons | apply List.Sublist.cons)))) (fun _ => rfl) ?_
    rintro n2 ⟨i, a3⟩ jj ⟨hi, hk3⟩ K hK
    have hil := rdInts_len bs i k1 0
    have hiS : rdInts bs (i + 1) k1 0 = ((rdInts bs i k1 0).1 ++ [(rdNum bs 1 0 10 (rdInts bs i k1 0).2.1 (rdInts bs i k1 0).2.2).1], (rdNum bs 1 0 10 (rdInts bs i k1 0).2.1 (rdInts bs i k1 0).2.2).2) := rfl
    refine c_seq ?_
    refine c_reg ?_
    refine s_y (Y_lss rfl rfl) rfl rfl ?_
    refine s_nil ?_
    refine q_then ?_
    refine c_seq ?_
    refine c_cond' rfl (fun h => ?_) (fun h => ?_)
    · have him : i < m := by omega
      generalize rdInts bs i k1 0 = r at *
      obtain ⟨zs, k2, e2⟩ := r
      simp only at hk3 hil hiS
      subst hil
      refine c_skip ?_
      refine q_then ?_
      refine c_seq ?_
      refine c_block ?_
      refine c_seq ?_
      refine c_reg ?_
      refine s_y (Y_mv) rfl rfl ?_
      refine s_y (Y_as) rfl rfl ?_
      refine s_nil ?_
      refine q_then ?_
      refine c_reg ?_
      refine s_y (Y_mv) rfl rfl ?_
      refine s_y (Y_mv) rfl rfl ?_
      refine s_y ((by first | exact Y_nil rfl | exact Y_nilF rfl | exact Y_nilM rfl (by assumption) | exact Y_nilM rfl (by intro w k; kernel_rfl))) rfl rfl ?_
      refine s_y (Y_load rfl one24 (by repeat (first | exact List.Mem.head _ | assumption | apply List.Mem.tail | apply List.mem_append_right)) (List.getElem?_set_self hjl)) rfl rfl ?_
      refine s_y (Y_mv) rfl rfl ?_
      refine s_y (Y_ia1 rfl rfl Try.underlying24 sz3 rfl (by omega)) rfl rfl ?_
      refine s_cm [rd b a3 n c k2 e2, ⟨b24, 3, 1, m, fillI zs m⟩] (En_call (fun _ => rfl) Try.func47 rfl (by kernel_rfl) rfl) (by repeat (first | exact Sels.nil | apply Sels.cons (by repeat (first | exact Sel.head | apply Sel.tail)))) (fun w hH => number_d (m := 1) (y := ⟨b24, 3, 1, m, fillI zs m⟩) (j := 0 + zs.length) (by omega) (by omega) hk3 (hH.at' (by repeat (first | exact List.Mem.head _ | assumption | apply List.Mem.tail | apply List.mem_append_right))) (hH.at' (by repeat (first | exact List.Mem.head _ | assumption | apply List.Mem.tail | apply List.mem_append_right))) (ne2 (rd b a3 n c k2 e2) ⟨b24, 3, 1, m, fillI zs m⟩ hH (by repeat (first | exact Sels.nil | apply Sels.cons (by repeat (first | exact Sel.head | apply Sel.tail))))) (hs.call2 (rd b a3 n c k2 e2) ⟨b24, 3, 1, m, fillI zs m⟩ hH (by repeat (first | exact Sels.nil | apply Sels.cons (by repeat (first | exact Sel.head | apply Sel.tail))))) (by rw [Nat.zero_add]; exact fillI_get him)) rfl rfl ?_
      rintro _ _ ⟨rfl, _, ⟨a4, rfl, hk4⟩, rfl⟩
      refine s_nil ?_
      refine q_bn ?_
      refine q_then ?_
      refine c_reg ?_
      refine s_y ((by first | exact Y_add rfl rfl (by omega) | exact Y_addw rfl rfl)) rfl rfl ?_
      refine s_y (Y_mv) rfl rfl ?_
      refine s_nil ?_
      refine hK (n2 - 1) (zs.length + 1, a4) _ _ (by omega) ⟨by simp only; omega, ?_⟩ ⟨rfl, trivial⟩ rfl (fun w h => ?_)
      · rw [hiS]; exact hk4
      · dsimp only
        rw [hiS]
        have h2 : Has W [b, yb] [rd b a4 n c (rdNum bs 1 0 10 k2 e2).2.1 (rdNum bs 1 0 10 k2 e2).2.2, ⟨b24, 3, 1, m, (fillI zs m).set (0 + zs.length) (.int .i64 (rdNum bs 1 0 10 k2 e2).1)⟩, ⟨yb, yt, yk, ycap, yc.set j (.slice (some ⟨b24, 0, none⟩) m m)⟩] w := h
        rw [Nat.zero_add, fillI_set him] at h2
        exact h2
    · obtain rfl : i = m := by omega
      refine c_exit ?_
      repeat with_reducible refine q_te ?_
      refine q_exit ?_
      rw [fillI_all hil]
      refine q_end0 rfl (L' := _) (by repeat (first | exact List.Sublist.refl _ | exact List.nil_sublist _ | apply List.Sublist.cons_cons | apply List.Sublist.cons)) ⟨rfl, rd b a3 n c (rdInts bs i k1 0).2.1 (rdInts bs i k1 0).2.2, ⟨a3, rfl, hk3⟩, b24, ?_⟩
      simp only [hil]
/-! ### Streams -/
def recs (bs : List UInt8) : Nat → List Value → Nat → Int → List Value × Nat × Int
  | 0, c, k, e => (c, k, e)
  | i + 1, c, k, e => if (recs bs i c k e).2.2 = 0 then recR bs (recs bs i c k e).1 (i * 5) (recs bs i c k e).2.1 0 else recs bs i c k e
theorem recs_stop {bs : List UInt8} {i : Nat} {c0 : List Value} {k : Nat} {e : Int} (h : (recs bs i c0 k e).2.2 ≠ 0) : ∀ d, recs bs (i + d) c0 k e = recs bs i c0 k e
  | 0 => rfl
  | d + 1 => by
    have := recs_stop h d
    rw [← Nat.add_assoc, recs, this, if_neg h]
theorem recR_int {bs : List UInt8} {c : List Value} {o k i : Nat} {e : Int} (h : IntAt c i) : IntAt (recR bs c o k e).1 i := by
  unfold recR
  simp only
  split
  · exact (h.set _).set _
  · split
    · exact rdNums_int _ ((h.set _).set _)
    · split
      · exact rdNums_int _ ((h.set _).set _)
      · exact h.set _
theorem recs_int {bs : List UInt8} {c : List Value} {k q : Nat} {e : Int} (h : IntAt c q) : ∀ i, IntAt (recs bs i c k e).1 q
  | 0 => h
  | i + 1 => by
    unfold recs
    split
    · exact recR_int (recs_int h i)
    · exact recs_int h i
def rdStream (bs : List UInt8) (k : Nat) (e : Int) : Option (Nat × List Value) × Nat × Int :=
  let r := rdNum bs 2 0 400 k e
  if r.2.2 = 0 then (some (r.1.toNat, (recs bs r.1.toNat (List.replicate (r.1.toNat * 5) (.int .i64 0)) r.2.1 0).1), (recs bs r.1.toNat (List.replicate (r.1.toNat * 5) (.int .i64 0)) r.2.1 0).2) else (none, r.2)
def StrPost (y : Bk) (j : Nat) (x : Bk) (L : List Bk) : Option (Nat × List Value) → Prop
  | none => L = [x, y]
  | some p => ∃ g, L = [x, ⟨g, 37, 5, p.1, p.2⟩, { y with c := y.c.set j (.slice (some ⟨g, 0, none⟩) p.1 p.1) }]
set_option maxRecDepth 100000 in
theorem stream_d (hk : RdAt a n c k a') (hx : (rd b a' n c k e).holds W) (hy : y.holds W) (hne : b ≠ y.b) (hs : Src W [b, y.b] a n c bs) (hj : y.c[j]? = some (.slice none 0 0)) :
    Does Try.prog 49 [.iface 67 (ptr b), ptrAt y.b j] W [b, y.b] (fun v L => v = .tuple #[] ∧ ∃ x, Rds b a n c (rdStream bs k e).2.1 (rdStream bs k e).2.2 x ∧ StrPost y j x L (rdStream bs k e).1) := by
  obtain ⟨yb, yt, yk, ycap, yc⟩ := y
  simp only at hne hs hj ⊢
  have hjl : j < yc.length := (List.getElem?_eq_some_iff.1 hj).1
  have has := assert_rr b
  refine enter Try.func49 rfl rfl rfl (Has.starts (xs := [rd b a' n c k e, ⟨yb, yt, yk, ycap, yc⟩]) (by simp; exact ⟨hx, hy⟩) (by simpa using hne)) ?_
  refine c_seq ?_
  refine c_reg ?_
  refine s_y (Y_mv) rfl rfl ?_
  refine s_y ((by first | exact Y_nil rfl | exact Y_nilF rfl | exact Y_nilM rfl (by assumption) | exact Y_nilM rfl (by intro w k; kernel_rfl))) rfl rfl ?_
  refine s_y ((by first | exact Y_load rfl one25 (by repeat (first | exact List.Mem.head _ | assumption | apply List.Mem.tail | apply List.mem_append_right)) (by rfl) | exact Y_load rfl one25 (by repeat (first | exact List.Mem.head _ | assumption | apply List.Mem.tail | apply List.mem_append_right)) (by assumption) | exact Y_loadR rfl one25 (by assumption) rfl (by assumption))) rfl rfl ?_
  refine s_y (Y_len rfl rfl Try.underlying25) rfl rfl ?_
  refine s_n (N_alloc (z := .int .i64 0) (cs := [.int .i64 0]) zv3 rfl) rfl rfl (fun b4 _ => ?_)
  refine s_s (S_st rfl (by repeat (first | exact Gt.here | apply Gt.there (by rfl) | exact Gt.base (by rfl))) sz3 (by rfl) (by repeat (first | exact Upd.head | apply Upd.tail)) (by first | (simp only [Nat.zero_add, Nat.reduceAdd, List.set_cons_succ, List.set_cons_zero]; rfl) | rfl) (by first | (simp; done) | omega)) rfl ?_
  refine s_nil ?_
  refine q_then ?_
  refine c_seq ?_
  refine c_reg ?_
  refine s_y (Y_mv) rfl rfl ?_
  refine s_cm [rd b a' n c k e, intB b4 0] (En_call (fun _ => rfl) Try.func47 rfl (by kernel_rfl) rfl) (by repeat (first | exact Sels.nil | apply Sels.cons (by repeat (first | exact Sel.head | apply Sel.tail)))) (fun w hH => number_d (m := 2) (y := intB b4 0) (by omega) (by omega) hk (hH.at' (by repeat (first | exact List.Mem.head _ | assumption | apply List.Mem.tail | apply List.mem_append_right))) (hH.at' (by repeat (first | exact List.Mem.head _ | assumption | apply List.Mem.tail | apply List.mem_append_right))) (ne2 (rd b a' n c k e) (intB b4 0) hH (by repeat (first | exact Sels.nil | apply Sels.cons (by repeat (first | exact Sel.head | apply Sel.tail))))) (hs.call2 (rd b a' n c k e) (intB b4 0) hH (by repeat (first | exact Sels.nil | apply Sels.cons (by repeat (first | exact Sel.head | apply Sel.tail))))) rfl) rfl rfl ?_
  rintro _ _ ⟨rfl, _, ⟨a2, rfl, hk2⟩, rfl⟩
  have hR : rdStream bs k e = rdStream bs k e := rfl
  conv at hR => rhs; unfold rdStream
  have hB := inB_num (bs := bs) (m := 2) (f := 0) (t := 400) (k := k) (e := e)
  generalize rdNum bs 2 0 400 k e = r at *
  obtain ⟨z1, k1, e1⟩ := r
  simp only at hk2 hR hB
  refine s_nil ?_
  refine q_then ?_
  refine c_seq ?_
  refine c_seq ?_
  refine c_reg ?_
  refine s_y (Y_mv) rfl rfl ?_
  refine s_cm [rd b a2 n c k1 e1] (En_inv rfl rfl (by intro w; kernel_rfl)) (by repeat (first | exact Sels.nil | apply Sels.cons (by repeat (first | exact Sel.head | apply Sel.tail)))) (fun w hH => failed_d (hH.at' (by repeat (first | exact List.Mem.head _ | assumption | apply List.Mem.tail | apply List.mem_append_right)))) rfl rfl ?_
  rintro _ _ ⟨rfl, rfl⟩
  refine s_nil ?_
  refine q_then ?_
  refine c_cond' rfl (fun h => ?_) (fun h => ?_)
  · rw [if_neg h] at hR
    rw [hR]
    refine c_ret ?_
    refine q_ret0 rfl (L' := [rd b a2 n c k1 e1, ⟨yb, yt, yk, ycap, yc⟩]) (by repeat (first | exact List.Sublist.refl _ | exact List.nil_sublist _ | apply List.Sublist.cons_cons | apply List.Sublist.cons)) ⟨rfl, _, ⟨a2, rfl, hk2⟩, rfl⟩
  · have he1 : e1 = 0 := by simpa using h
    subst he1
    obtain ⟨hb0, hb1⟩ := hB rfl
    obtain ⟨m, rfl⟩ := Int.eq_ofNat_of_zero_le hb0
    rw [if_pos rfl] at hR
    simp only [Int.toNat_natCast] at hR
    rw [hR]
    clear hB hb0 h
    refine c_skip ?_
    refine q_then ?_
    refine c_seq ?_
    refine c_seq ?_
    refine c_reg ?_
    refine s_y (Y_mv) rfl rfl ?_
    refine s_y (Y_assert rfl (by first | assumption | (intro w; kernel_rfl))) rfl rfl ?_
    refine s_y (Y_mv) rfl rfl ?_
    refine s_y (Y_extract rfl rfl) rfl rfl ?_
    refine s_y (Y_extract rfl rfl) rfl rfl ?_
    refine s_y (Y_as) rfl rfl ?_
    refine s_y (Y_as) rfl rfl ?_
    refine s_nil ?_
    refine q_then ?_
    refine c_seq ?_
    refine c_reg ?_
    refine s_y (Y_mv) rfl rfl ?_
    refine s_nil ?_
    refine q_then ?_
    refine c_T rfl rfl ?_
    refine c_reg ?_
    refine s_y (Y_mv) rfl rfl ?_
    refine s_y ((by first | exact Y_load rfl one3 (by repeat (first | exact List.Mem.head _ | assumption | apply List.Mem.tail | apply List.mem_append_right)) (by rfl) | exact Y_load rfl one3 (by repeat (first | exact List.Mem.head _ | assumption | apply List.Mem.tail | apply List.mem_append_right)) (by assumption) | exact Y_loadR rfl one3 (by assumption) rfl (by assumption))) rfl rfl ?_
    refine s_n (N_makeU (u0 := .int .i64 0) rfl rfl Try.underlying25 inf37 rfl (by omega) rfl (by omega) (by omega)) rfl rfl (fun b24 _ => ?_)
    refine s_y ((by first | exact Y_nil rfl | exact Y_nilF rfl | exact Y_nilM rfl (by assumption) | exact Y_nilM rfl (by intro w k; kernel_rfl))) rfl rfl ?_
    refine s_s (S_st rfl (by repeat (first | exact Gt.here | apply Gt.there (by rfl) | exact Gt.base (by rfl))) sz25 (by rfl) (by repeat (first | exact Upd.head | apply Upd.tail)) rfl (by simp [hjl])) rfl ?_
    refine s_nil ?_
    refine q_then ?_
    refine c_seq ?_
    refine c_reg ?_
    refine s_y (Y_mv) rfl rfl ?_
    refine s_y ((by first | exact Y_nil rfl | exact Y_nilF rfl | exact Y_nilM rfl (by assumption) | exact Y_nilM rfl (by intro w k; kernel_rfl))) rfl rfl ?_
    refine s_y (Y_load rfl one25 (by repeat (first | exact List.Mem.head _ | assumption | apply List.Mem.tail | apply List.mem_append_right)) (List.getElem?_set_self hjl)) rfl rfl ?_
    refine s_y (Y_len rfl rfl Try.underlying25) rfl rfl ?_
    refine s_y (Y_mvC) rfl rfl ?_
    refine s_nil ?_
    refine q_then ?_
    refine c_block ?_
    have hI : ∀ q, q < m * 5 → IntAt (List.replicate (m * 5) (.int .i64 0)) q := fun q hq => ⟨0, by rw [List.getElem?_replicate, if_pos hq]⟩
    generalize hC : List.replicate (m * 5) (Value.int .i64 0) = C at *
    refine c_loop [7, 30, 31, 32, 33, 34, 35, 36, 37, 38, 39, 40, 41, 42] (fun n2 (p : Nat × Option Addr) => p.1 + n2 = m ∧ (recs bs p.1 C k1 0).2.2 = 0 ∧ RdAt a n c (recs bs p.1 C k1 0).2.1 p.2) (fun p => [(30, .int .i64 (p.1 : Int))])
      (fun p => [rd b p.2 n c (recs bs p.1 C k1 0).2.1 0, ⟨b24, 37, 5, m, (recs bs p.1 C k1 0).1⟩, ⟨yb, yt, yk, ycap, yc.set j (.slice (some ⟨b24, 0, none⟩) m m)⟩]) m (0, a2) ⟨by omega, rfl, hk2⟩ ⟨rfl, trivial⟩ (fun _ h => Has.swap (h.sub (L' := [_, _, _]) (by repeat (first | exact List.Sublist.refl _ | exact List.nil_sublist _ | apply List.Sublist.cons_cons | apply List.Sublist.cons)))) (fun _ => rfl) ?_
    rintro n2 ⟨i, a3⟩ jj ⟨hi, he0, hk3⟩ K hK
    have hiS : recs bs (i + 1) C k1 0 = recR bs (recs bs i C k1 0).1 (i * 5) (recs bs i C k1 0).2.1 0 := by rw [recs, if_pos he0]
    have hI2 : ∀ q, q < m * 5 → IntAt (recs bs i C k1 0).1 q := fun q hq => recs_int (hI q hq) i
    have hrs := recs_stop (bs := bs) (i := i + 1) (c0 := C) (k := k1) (e := 0)
    refine c_seq ?_
    refine c_reg ?_
    refine s_y (Y_lss rfl rfl) rfl rfl ?_
    refine s_nil ?_
    refine q_then ?_
    refine c_seq ?_
    refine c_cond' rfl (fun h => ?_) (fun h => ?_)
    · have him : i < m := by omega
      generalize hgr : recs bs i C k1 0 = r at hk3 hiS hI2 he0 ⊢
      obtain ⟨cs, k2, e2⟩ := r
      simp only at hk3 hiS hI2 he0
      subst he0
      refine c_skip ?_
      refine q_then ?_
      refine c_seq ?_
      refine c_block ?_
      refine c_seq ?_
      refine c_reg ?_
      refine s_y (Y_mv) rfl rfl ?_
      refine s_y (Y_as) rfl rfl ?_
      refine s_nil ?_
      refine q_then ?_
      refine c_seq ?_
      refine c_reg ?_
      refine s_y (Y_mv) rfl rfl ?_
      refine s_y (Y_mv) rfl rfl ?_
      refine s_y ((by first | exact Y_nil rfl | exact Y_nilF rfl | exact Y_nilM rfl (by assumption) | exact Y_nilM rfl (by intro w k; kernel_rfl))) rfl rfl ?_
      refine s_y (Y_load rfl one25 (by repeat (first | exact List.Mem.head _ | assumption | apply List.Mem.tail | apply List.mem_append_right)) (List.getElem?_set_self hjl)) rfl rfl ?_
      refine s_y (Y_mv) rfl rfl ?_
      refine s_y (Y_ia rfl rfl Try.underlying25 sz37 rfl (by omega)) rfl rfl ?_
      refine s_cm [rd b a3 n c k2 0, ⟨b24, 37, 5, m, cs⟩] (En_call (fun _ => rfl) Try.func50 rfl (by kernel_rfl) rfl) (by repeat (first | exact Sels.nil | apply Sels.cons (by repeat (first | exact Sel.head | apply Sel.tail)))) (fun w hH => record_d (y := ⟨b24, 37, 5, m, cs⟩) (o := 0 + i * 5) hk3 (hH.at' (by repeat (first | exact List.Mem.head _ | assumption | apply List.Mem.tail | apply List.mem_append_right))) (hH.at' (by repeat (first | exact List.Mem.head _ | assumption | apply List.Mem.tail | apply List.mem_append_right))) (ne2 (rd b a3 n c k2 0) ⟨b24, 37, 5, m, cs⟩ hH (by repeat (first | exact Sels.nil | apply Sels.cons (by repeat (first | exact Sel.head | apply Sel.tail))))) (hs.call2 (rd b a3 n c k2 0) ⟨b24, 37, 5, m, cs⟩ hH (by repeat (first | exact Sels.nil | apply Sels.cons (by repeat (first | exact Sel.head | apply Sel.tail))))) (fun q hq => hI2 _ (by omega))) rfl rfl ?_
      rintro _ _ ⟨rfl, _, ⟨a4, rfl, hk4⟩, rfl⟩
      simp only [Nat.zero_add] at hk4 ⊢
      rw [← hiS] at hk4 ⊢
      refine s_nil ?_
      refine q_then ?_
      refine c_seq ?_
      refine c_reg ?_
      refine s_y (Y_mv) rfl rfl ?_
      refine s_cm [rd b a4 n c (recs bs (i + 1) C k1 0).2.1 (recs bs (i + 1) C k1 0).2.2] (En_inv rfl rfl (by intro w; kernel_rfl)) (by repeat (first | exact Sels.nil | apply Sels.cons (by repeat (first | exact Sel.head | apply Sel.tail)))) (fun w hH => failed_d (hH.at' (by repeat (first | exact List.Mem.head _ | assumption | apply List.Mem.tail | apply List.mem_append_right)))) rfl rfl ?_
      rintro _ _ ⟨rfl, rfl⟩
      refine s_nil ?_
      refine q_then ?_
      refine c_cond' rfl (fun h => ?_) (fun h => ?_)
      · have hend : recs bs m C k1 0 = recs bs (i + 1) C k1 0 := by
          have := hrs h (m - (i + 1))
          rwa [show i + 1 + (m - (i + 1)) = m by omega] at this
        rw [hend]
        refine c_ret ?_
        refine q_ret0 rfl (L' := _) (by repeat (first | exact List.Sublist.refl _ | exact List.nil_sublist _ | apply List.Sublist.cons_cons | apply List.Sublist.cons)) ⟨rfl, _, ⟨a4, rfl, hk4⟩, b24, rfl⟩
      · have h0 : (recs bs (i + 1) C k1 0).2.2 = 0 := by simpa using h
        refine c_skip ?_
        refine q_bn ?_
        refine q_then ?_
        refine c_reg ?_
        refine s_y ((by first | exact Y_add rfl rfl (by omega) | exact Y_addw rfl rfl)) rfl rfl ?_
        refine s_y (Y_mv) rfl rfl ?_
        refine s_nil ?_
        refine hK (n2 - 1) (i + 1, a4) _ _ (by omega) ⟨by simp only; omega, h0, hk4⟩ ⟨rfl, trivial⟩ rfl (fun w h => ?_)
        rw [h0] at h
        exact h
    · obtain rfl : i = m := by omega
      refine c_exit ?_
      repeat with_reducible refine q_te ?_
      refine q_exit ?_
      refine q_end0 rfl (L' := _) (by repeat (first | exact List.Sublist.refl _ | exact List.nil_sublist _ | apply List.Sublist.cons_cons | apply List.Sublist.cons)) ⟨rfl, rd b a3 n c (recs bs i C k1 0).2.1 (recs bs i C k1 0).2.2, ⟨a3, rfl, hk3⟩, b24, ?_⟩
      rw [he0]
end
end Go.Proofs.Ytphmdhbhoakcaaa
