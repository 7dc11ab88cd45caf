/- The reader's bytes, number, plain, truth. -/
import Derived.Test.YtphmdhbhoakcaaaR1
import Derived.Test.YtphmdhbhoakcaaaCl
namespace Go.Proofs.Ytphmdhbhoakcaaa
open Go.RowKit Go.Ad Go.Maps
set_option linter.unusedVariables false
set_option linter.unusedSimpArgs false
def rdBytes (bs : List UInt8) (m k : Nat) (e : Int) : List UInt8 × Nat × Int := if e = 0 then (if k + m ≤ bs.length then ((bs.drop k).take m, k + m, 0) else ([], k, 7)) else ([], k, e)
theorem noted_fit {m n k : Nat} {e : Int} (h : noted (decide ((m : Int) ≤ (n - k : Nat))) e 7 = 0) : e = 0 ∧ m ≤ n - k := by
  by_cases h0 : e = 0
  · refine ⟨h0, ?_⟩
    by_cases h1 : (m : Int) ≤ (n - k : Nat)
    · omega
    · simp [noted, h0, h1] at h
  · simp [noted, h0] at h
theorem noted_no {m n k : Nat} {e : Int} {bs : List UInt8} (hl : bs.length = n) (hk : k ≤ n) (h : noted (decide ((m : Int) ≤ (n - k : Nat))) e 7 ≠ 0) : (e = 0 ∧ ¬ (k + m ≤ bs.length) ∧ noted (decide ((m : Int) ≤ (n - k : Nat))) e 7 = 7) ∨ (e ≠ 0 ∧ noted (decide ((m : Int) ≤ (n - k : Nat))) e 7 = e) := by
  by_cases h0 : e = 0
  · left
    have h1 : ¬ ((m : Int) ≤ (n - k : Nat)) := fun h1 => h (by simp [noted, h0, h1])
    exact ⟨h0, by omega, by simp [noted, h0, h1]⟩
  · right
    exact ⟨h0, by simp [noted, h0]⟩
section
variable {W : World} {b : Nat} {a a' : Option Addr} {n c k : Nat} {e : Int} {bs : List UInt8} {y : Bk} {j : Nat} {u0 : Value}
set_option maxRecDepth 100000 in
theorem bytes_d {m : Nat} (hm : m ≤ 1000) (hk : RdAt a n c k a') (hx : (rd b a' n c k e).holds W) (hy : y.holds W) (hne : b ≠ y.b) (hs : Src W [b, y.b] a n c bs) (hj : y.c[j]? = some u0) :
    Does Try.prog 70 [ptr b, .int .i64 (m : Int), ptrAt y.b j] W [b, y.b] (fun v L => v = .tuple #[] ∧ ∃ x u L2, Rds b a n c (rdBytes bs m k e).2.1 (rdBytes bs m k e).2.2 x ∧ NewRow 5 1 (rdBytes bs m k e).1.length ((rdBytes bs m k e).1.map bv) u L2 ∧ L = L2 ++ [x, { y with c := y.c.set j u }]) := by
  obtain ⟨yb, yt, yk, ycap, yc⟩ := y
  simp only at hne hs hj ⊢
  have hjl : j < yc.length := (List.getElem?_eq_some_iff.1 hj).1
  have hkn := hk.le
  have hcap := hs.cap
  have hbig := hs.big
  have hlen := hs.len
  refine enter Try.func70 rfl rfl rfl (Has.starts (xs := [rd b a' n c k e, ⟨yb, yt, yk, ycap, yc⟩]) (by simp; exact ⟨hx, hy⟩) (by simpa using hne)) ?_
  refine c_seq ?_
  refine c_rord [11] [(0, true), (1, true), (2, true), (3, true), (4, true), (5, true), (6, true), (7, true), (8, true), (9, true), (10, true), (11, false)] (by kernel_rfl) (by kernel_rfl) (by kernel_rfl) (by kernel_rfl) rfl (by intro c a d v w h; cases d <;> exact h) rfl ?_
  simp only [mkOrd, List.filterMap_cons, List.filterMap_nil, List.getElem?_toArray, List.getElem?_cons_zero, List.getElem?_cons_succ, Option.map_some]
  refine o_y (Y_mv) rfl rfl ?_
  refine o_y ((by first | exact Y_nil rfl | exact Y_nilF rfl | exact Y_nilM rfl (by assumption) | exact Y_nilM rfl (by intro w k; kernel_rfl))) rfl rfl ?_
  refine o_y (Y_fa 0 rfl Try.underlying68 rfl sz54 rfl) rfl rfl ?_
  refine o_y (Y_mv) rfl rfl ?_
  refine o_y (Y_mv) rfl rfl ?_
  refine o_y ((by first | exact Y_nil rfl | exact Y_nilF rfl | exact Y_nilM rfl (by assumption) | exact Y_nilM rfl (by intro w k; kernel_rfl))) rfl rfl ?_
  refine o_y (Y_fa 0 rfl Try.underlying68 rfl sz54 rfl) rfl rfl ?_
  refine o_y (Y_fa 0 rfl Try.underlying54 rfl sz27 rfl) rfl rfl ?_
  refine o_y ((by first | exact Y_load rfl one27 (by repeat (first | exact List.Mem.head _ | assumption | apply List.Mem.tail | apply List.mem_append_right)) (by rfl) | exact Y_load rfl one27 (by repeat (first | exact List.Mem.head _ | assumption | apply List.Mem.tail | apply List.mem_append_right)) (by assumption) | exact Y_loadR rfl one27 (by assumption) rfl (by assumption))) rfl rfl ?_
  refine o_y (Y_len rfl rfl Try.underlying27) rfl rfl ?_
  refine o_y (Y_leq rfl rfl) rfl rfl ?_
  refine o_cm [rd b a' n c k e] (En_call (fun _ => rfl) Try.func26 rfl (by kernel_rfl) rfl) (by repeat (first | exact Sels.nil | apply Sels.cons (by repeat (first | exact Sel.head | apply Sel.tail)))) (fun w hH => must_d _ _ (hH.at' (by repeat (first | exact List.Mem.head _ | assumption | apply List.Mem.tail | apply List.mem_append_right)))) (fun _ _ h => by obtain ⟨rfl, rfl⟩ := h; exact (by first | exact keep_no rfl | exact keep_sub (by repeat (first | exact List.Sublist.refl _ | exact List.nil_sublist _ | apply List.Sublist.cons_cons | apply List.Sublist.cons)))) rfl rfl ?_
  rintro _ _ ⟨rfl, rfl⟩
  refine o_nil ?_
  refine q_then ?_
  refine c_seq ?_
  refine c_seq ?_
  refine c_reg ?_
  refine s_y (Y_mv) rfl rfl ?_
  refine s_y ((by first | exact Y_nil rfl | exact Y_nilF rfl | exact Y_nilM rfl (by assumption) | exact Y_nilM rfl (by intro w k; kernel_rfl))) rfl rfl ?_
  refine s_y (Y_fa 0 rfl Try.underlying68 rfl sz54 rfl) rfl rfl ?_
  refine s_cm [wk b 68 a' (n - k) (c - k) _ 9] (En_call (fun _ => rfl) Try.func21 rfl (by kernel_rfl) rfl) (by repeat (first | exact Sels.nil | apply Sels.cons (by repeat (first | exact Sel.head | apply Sel.tail)))) (fun w hH => failed_d (hH.at' (by repeat (first | exact List.Mem.head _ | assumption | apply List.Mem.tail | apply List.mem_append_right)))) rfl rfl ?_
  rintro _ _ ⟨rfl, rfl⟩
  refine s_nil ?_
  refine q_then ?_
  refine c_cond' rfl (fun h => ?_) (fun h => ?_)
  · refine c_seq ?_
    refine c_reg ?_
    refine s_y (Y_mv) rfl rfl ?_
    refine s_y ((by first | exact Y_nil rfl | exact Y_nilF rfl | exact Y_nilM rfl (by assumption) | exact Y_nilM rfl (by intro w k; kernel_rfl))) rfl rfl ?_
    refine s_s (S_stC rfl sz27 (by rfl) (by repeat (first | exact Upd.head | apply Upd.tail)) rfl (by simp [hjl])) rfl ?_
    refine s_nil ?_
    refine q_then ?_
    refine c_ret ?_
    rcases noted_no hlen hkn h with ⟨h0, h1, h2⟩ | ⟨h0, h2⟩
    · have hR : rdBytes bs m k e = ([], k, 7) := by simp [rdBytes, h0, h1]
      rw [hR, h2]
      refine q_ret0 rfl (L' := _) (by repeat (first | exact List.Sublist.refl _ | exact List.nil_sublist _ | apply List.Sublist.cons_cons | apply List.Sublist.cons)) ⟨rfl, _, _, [], ⟨a', rfl, hk⟩, .inl ⟨rfl, rfl, rfl, rfl⟩, rfl⟩
    · have hR : rdBytes bs m k e = ([], k, e) := by simp [rdBytes, h0]
      rw [hR, h2]
      refine q_ret0 rfl (L' := _) (by repeat (first | exact List.Sublist.refl _ | exact List.nil_sublist _ | apply List.Sublist.cons_cons | apply List.Sublist.cons)) ⟨rfl, _, _, [], ⟨a', rfl, hk⟩, .inl ⟨rfl, rfl, rfl, rfl⟩, rfl⟩
  · obtain ⟨rfl, hmk⟩ := noted_fit (by simpa using h)
    have hne0 : noted (decide ((m : Int) ≤ (n - k : Nat))) 0 7 = 0 := by simpa using h
    have hR : rdBytes bs m k 0 = ((bs.drop k).take m, k + m, 0) := by
      have : k + m ≤ bs.length := by omega
      simp [rdBytes, this]
    have hRl : ((bs.drop k).take m).length = m := by simp; omega
    rw [hR, hne0]
    clear hne0 h
    have hsl : SlAt W a' m (c - k) 1 (((bs.drop k).take m).map bv) := by
      refine ⟨by simp; omega, fun ha' => absurd ha' hk.sm, (fun u hu => by obtain ⟨x, _, rfl⟩ := List.mem_map.1 hu; rfl), fun ad had i u hu => ?_⟩
      have hi := (List.getElem?_eq_some_iff.1 hu).1
      simp only [List.length_map, hRl] at hi
      obtain ⟨bb, o, h1, h2, _⟩ := hs.ro (by omega)
      have h3 := hk.at' (by omega)
      rw [h1, had] at h3
      simp only [Option.map_some, Addr.add_mid, Option.some.injEq] at h3
      subst h3
      rw [Addr.add_mid, Nat.add_assoc]
      refine h2 (k + i) u ?_
      rw [← hu, List.getElem?_map, List.getElem?_map, List.getElem?_take_of_lt hi, List.getElem?_drop]
    refine c_skip ?_
    refine q_then ?_
    refine c_seq ?_
    refine c_reg ?_
    refine s_y (Y_mv) rfl rfl ?_
    refine s_y (Y_mv) rfl rfl ?_
    refine s_y ((by first | exact Y_nil rfl | exact Y_nilF rfl | exact Y_nilM rfl (by assumption) | exact Y_nilM rfl (by intro w k; kernel_rfl))) rfl rfl ?_
    refine s_y (Y_fa 0 rfl Try.underlying68 rfl sz54 rfl) rfl rfl ?_
    refine s_y (Y_fa 0 rfl Try.underlying54 rfl sz27 rfl) rfl rfl ?_
    refine s_y ((by first | exact Y_load rfl one27 (by repeat (first | exact List.Mem.head _ | assumption | apply List.Mem.tail | apply List.mem_append_right)) (by rfl) | exact Y_load rfl one27 (by repeat (first | exact List.Mem.head _ | assumption | apply List.Mem.tail | apply List.mem_append_right)) (by assumption) | exact Y_loadR rfl one27 (by assumption) rfl (by assumption))) rfl rfl ?_
    refine s_y (Y_mv) rfl rfl ?_
    refine s_y (Y_slHi rfl rfl Try.underlying27 sz5 rfl (by omega)) rfl rfl ?_
    obtain ⟨ad, rfl⟩ : ∃ ad, a' = some ad := by
      have := hk.sm
      cases a' with
      | none => simp at this
      | some ad => exact ⟨ad, rfl⟩
    have hadM : ∀ ad', some ad = some ad' → ((bs.drop k).take m).map bv ≠ [] → ad'.block ∉ [b, yb] := by
      rintro _ ⟨⟩ hne2
      have hm0 : 0 < m := by
        rcases Nat.eq_zero_or_pos m with h0 | h0
        · rw [h0] at hne2; simp at hne2
        · exact h0
      obtain ⟨bb, o, h1, h2, h3, _⟩ := hs.ro (by omega)
      have h4 := hk.at' (by omega)
      rw [h1] at h4
      simp only [Option.map_some, Addr.add_mid, Option.some.injEq] at h4
      subst h4
      exact h3
    refine s_c (En_call (fun _ => rfl) Try.func72 rfl (by kernel_rfl) rfl) (fun w hH => clone_byte.some (hsl.ex hH hadM) (by omega)) rfl rfl ?_
    rintro _ _ ⟨g, cp, hcp, rfl, rfl⟩
    refine s_y ((by first | exact Y_nil rfl | exact Y_nilF rfl | exact Y_nilM rfl (by assumption) | exact Y_nilM rfl (by intro w k; kernel_rfl))) rfl rfl ?_
    refine s_s (S_st rfl (by repeat (first | exact Gt.here | apply Gt.there (by rfl) | exact Gt.base (by rfl))) sz27 (by rfl) (by repeat (first | exact Upd.head | apply Upd.tail)) rfl (by simp [hjl])) rfl ?_
    refine s_nil ?_
    refine q_then ?_
    refine c_reg ?_
    refine s_y (Y_mv) rfl rfl ?_
    refine s_y (Y_mv) rfl rfl ?_
    refine s_y ((by first | exact Y_nil rfl | exact Y_nilF rfl | exact Y_nilM rfl (by assumption) | exact Y_nilM rfl (by intro w k; kernel_rfl))) rfl rfl ?_
    refine s_y (Y_fa 0 rfl Try.underlying68 rfl sz54 rfl) rfl rfl ?_
    refine s_y (Y_fa 0 rfl Try.underlying54 rfl sz27 rfl) rfl rfl ?_
    refine s_y ((by first | exact Y_load rfl one27 (by repeat (first | exact List.Mem.head _ | assumption | apply List.Mem.tail | apply List.mem_append_right)) (by rfl) | exact Y_load rfl one27 (by repeat (first | exact List.Mem.head _ | assumption | apply List.Mem.tail | apply List.mem_append_right)) (by assumption) | exact Y_loadR rfl one27 (by assumption) rfl (by assumption))) rfl rfl ?_
    refine s_y (Y_mv) rfl rfl ?_
    refine s_y (Y_slLo (l := m) rfl rfl Try.underlying27 sz5 rfl hmk) rfl rfl ?_
    refine s_y ((by first | exact Y_nil rfl | exact Y_nilF rfl | exact Y_nilM rfl (by assumption) | exact Y_nilM rfl (by intro w k; kernel_rfl))) rfl rfl ?_
    refine s_y (Y_fa 0 rfl Try.underlying68 rfl sz54 rfl) rfl rfl ?_
    refine s_y (Y_fa 0 rfl Try.underlying54 rfl sz27 rfl) rfl rfl ?_
    refine s_s (S_st rfl (by repeat (first | exact Gt.here | apply Gt.there (by rfl) | exact Gt.base (by rfl))) sz27 (by rfl) (by repeat (first | exact Upd.head | apply Upd.tail)) (by first | (simp only [Nat.zero_add, Nat.reduceAdd, List.set_cons_succ, List.set_cons_zero]; rfl) | rfl) (by first | (simp; done) | omega)) rfl ?_
    refine s_nil ?_
    refine q_end0 rfl (by repeat (first | exact List.Sublist.refl _ | exact List.nil_sublist _ | apply List.Sublist.cons_cons | apply List.Sublist.cons)) ⟨rfl, rd b (slAt (some ad) (c - k) m 1) n c (k + m) 0, .slice (some ⟨g, 0, none⟩) m cp, [⟨g, 5, 1, cp, ((bs.drop k).take m).map bv⟩], ⟨_, rfl, ⟨by show k + m ≤ n; omega, fun hlt => ?_, by unfold slAt; split <;> simp⟩⟩, ?_, ?_⟩
    · have hlt : k + m < n := hlt
      have h2 : ¬ (c - k = m) := by omega
      obtain ⟨bb, o, h3, _⟩ := hs.ro (by omega)
      have h4 := hk.at' (by omega)
      rw [h3] at h4
      simp only [Option.map_some, Addr.add_mid, Option.some.injEq] at h4
      subst h4
      rw [h3]
      simp [slAt, h2, Addr.add_mid, Nat.add_assoc]
    · right
      refine ⟨g, cp, ?_, ?_, rfl⟩
      · show ((bs.drop k).take m).length ≤ cp; omega
      · show _ = Value.slice _ ((bs.drop k).take m).length _; rw [hRl]
    · simp only [Nat.sub_sub]
      rfl
/-! ### Numbers -/
def rdNum (bs : List UInt8) (m : Nat) (f t : Int) (k : Nat) (e : Int) : Int × Nat × Int :=
  let r := rdRaw bs m k e
  ((r.1 : Int), r.2.1, noted (inB r.1 f t) r.2.2 9)
theorem rdRaw_lt (bs : List UInt8) {m : Nat} (hm : m ≤ 4) (k : Nat) (e : Int) : (rdRaw bs m k e).1 < 4294967296 := by
  unfold rdRaw
  split
  · split
    · refine Nat.lt_of_lt_of_le (beval_lt _) ?_
      have : ((bs.drop k).take m).length ≤ 4 := by simp; omega
      exact Nat.le_trans (Nat.pow_le_pow_right (by omega) this) (by decide)
    · simp
  · simp
theorem assert_rw (rb : Nat) (w : World) : (Instr.typeAssert (.iface 67 (ptr rb)) 81 52 true).run Try.prog w = .ok (.tuple #[.pointer none, .bool false]) w := by kernel_rfl
theorem assert_rr (rb : Nat) (w : World) : (Instr.typeAssert (.iface 67 (ptr rb)) 81 67 true).run Try.prog w = .ok (.tuple #[ptr rb, .bool true]) w := by kernel_rfl
theorem nilR_within (rb : Nat) (w : World) (k : Nat) : (nilAhead (k + 1) 67 (ptr rb) "adit/wire.within").run Try.prog w = .ok (some false) w := by kernel_rfl
abbrev u64B (b : Nat) (v : Int) : Bk := ⟨b, 90, 1, 1, [.int .u64 v]⟩
set_option maxRecDepth 100000 in
theorem number_d {m : Nat} {f t old : Int} (hm0 : 0 < m) (hm : m ≤ 4) (hk : RdAt a n c k a') (hx : (rd b a' n c k e).holds W) (hy : y.holds W) (hne : b ≠ y.b) (hs : Src W [b, y.b] a n c bs) (hj : y.c[j]? = some (.int .i64 old)) :
    Does Try.prog 47 [.iface 67 (ptr b), .int .i64 (m : Int), ptrAt y.b j, .int .i64 f, .int .i64 t] W [b, y.b] (fun v L => v = .tuple #[] ∧ ∃ x, Rds b a n c (rdNum bs m f t k e).2.1 (rdNum bs m f t k e).2.2 x ∧ L = [x, { y with c := y.c.set j (.int .i64 (rdNum bs m f t k e).1) }]) := by
  obtain ⟨yb, yt, yk, ycap, yc⟩ := y
  simp only at hne hs hj ⊢
  have hjl : j < yc.length := (List.getElem?_eq_some_iff.1 hj).1
  have hlt := rdRaw_lt bs hm k e
  have has := assert_rw b
  have hnw := nilR_within b
  refine enter Try.func47 rfl rfl rfl (Has.starts (xs := [rd b a' n c k e, ⟨yb, yt, yk, ycap, yc⟩]) (by simp; exact ⟨hx, hy⟩) (by simpa using hne)) ?_
  refine c_seq ?_
  refine c_reg ?_
  refine s_y (Y_mv) rfl rfl ?_
  refine s_y ((by first | exact Y_nil rfl | exact Y_nilF rfl | exact Y_nilM rfl (by assumption) | exact Y_nilM rfl (by intro w k; kernel_rfl))) rfl rfl ?_
  refine s_y ((by first | exact Y_load rfl one3 (by repeat (first | exact List.Mem.head _ | assumption | apply List.Mem.tail | apply List.mem_append_right)) (by rfl) | exact Y_load rfl one3 (by repeat (first | exact List.Mem.head _ | assumption | apply List.Mem.tail | apply List.mem_append_right)) (by assumption) | exact Y_loadR rfl one3 (by assumption) rfl (by assumption))) rfl rfl ?_
  refine s_y (Y_mv) rfl rfl ?_
  refine s_y (Y_geq rfl rfl) rfl rfl ?_
  refine s_y (Y_mv) rfl rfl ?_
  refine s_meet 6 [19, 20, 21, 22, 23, 24, 25] (fun q : Bool => [(25, .bool q)]) (fun _ => True) (fun _ => rfl) (fun hm => ?_) ?_
  · refine s_split (d := 19) rfl (fun _ => ?_) (fun _ => ?_)
    · skip
      first | refine s_y (Y_mv) rfl rfl ?_ | refine s_pass rfl rfl ?_
      first | refine s_y ((by first | exact Y_nil rfl | exact Y_nilF rfl | exact Y_nilM rfl (by assumption) | exact Y_nilM rfl (by intro w k; kernel_rfl))) rfl rfl ?_ | refine s_pass rfl rfl ?_
      first | refine s_y ((by first | exact Y_load rfl one3 (by repeat (first | exact List.Mem.head _ | assumption | apply List.Mem.tail | apply List.mem_append_right)) (by rfl) | exact Y_load rfl one3 (by repeat (first | exact List.Mem.head _ | assumption | apply List.Mem.tail | apply List.mem_append_right)) (by assumption) | exact Y_loadR rfl one3 (by assumption) rfl (by assumption))) rfl rfl ?_ | refine s_pass rfl rfl ?_
      first | refine s_y (Y_mv) rfl rfl ?_ | refine s_pass rfl rfl ?_
      first | refine s_y (Y_leq rfl rfl) rfl rfl ?_ | refine s_pass rfl rfl ?_
      refine s_y (Y_pk rfl (Gx.tmp (by repeat (first | exact Gt.here | apply Gt.there (by rfl) | exact Gt.base (by rfl)))) Gx.const) rfl rfl ?_
      exact hm _ _ trivial ⟨rfl, trivial⟩ rfl
    · skip
      first | refine s_y (Y_mv) rfl rfl ?_ | refine s_pass rfl rfl ?_
      first | refine s_y ((by first | exact Y_nil rfl | exact Y_nilF rfl | exact Y_nilM rfl (by assumption) | exact Y_nilM rfl (by intro w k; kernel_rfl))) rfl rfl ?_ | refine s_pass rfl rfl ?_
      first | refine s_y ((by first | exact Y_load rfl one3 (by repeat (first | exact List.Mem.head _ | assumption | apply List.Mem.tail | apply List.mem_append_right)) (by rfl) | exact Y_load rfl one3 (by repeat (first | exact List.Mem.head _ | assumption | apply List.Mem.tail | apply List.mem_append_right)) (by assumption) | exact Y_loadR rfl one3 (by assumption) rfl (by assumption))) rfl rfl ?_ | refine s_pass rfl rfl ?_
      first | refine s_y (Y_mv) rfl rfl ?_ | refine s_pass rfl rfl ?_
      first | refine s_y (Y_leq rfl rfl) rfl rfl ?_ | refine s_pass rfl rfl ?_
      refine s_y (Y_pk rfl (Gx.tmp (by repeat (first | exact Gt.here | apply Gt.there (by rfl) | exact Gt.base (by rfl)))) Gx.const) rfl rfl ?_
      exact hm _ _ trivial ⟨rfl, trivial⟩ rfl
  intro q j1 _
  refine s_y (Y_as) rfl rfl ?_
  refine s_nil ?_
  refine q_then ?_
  refine c_seq ?_
  refine c_reg ?_
  refine s_y (Y_mv) rfl rfl ?_
  refine s_y ((by first | exact Y_nil rfl | exact Y_nilF rfl | exact Y_nilM rfl (by assumption) | exact Y_nilM rfl (by intro w k; kernel_rfl))) rfl rfl ?_
  refine s_y ((by first | exact Y_load rfl one3 (by repeat (first | exact List.Mem.head _ | assumption | apply List.Mem.tail | apply List.mem_append_right)) (by rfl) | exact Y_load rfl one3 (by repeat (first | exact List.Mem.head _ | assumption | apply List.Mem.tail | apply List.mem_append_right)) (by assumption) | exact Y_loadR rfl one3 (by assumption) rfl (by assumption))) rfl rfl ?_
  refine s_y ((by first | exact Y_conv rfl Try.underlying3 Try.underlying90 (by first | exact i64_u8 _ | exact u64_u8 _ | exact i64_id (by omega) | exact u64_id (by omega) | exact u8_id (by omega) | exact u32_id (by omega)) | exact Y_convw rfl Try.underlying3 Try.underlying90)) rfl rfl ?_
  refine s_n (N_alloc (z := .int .u64 0) (cs := [.int .u64 0]) zv90 rfl) rfl rfl (fun b11 _ => ?_)
  refine s_s (S_st rfl (by repeat (first | exact Gt.here | apply Gt.there (by rfl) | exact Gt.base (by rfl))) sz90 (by rfl) (by repeat (first | exact Upd.head | apply Upd.tail)) (by first | (simp only [Nat.zero_add, Nat.reduceAdd, List.set_cons_succ, List.set_cons_zero]; rfl) | rfl) (by first | (simp; done) | omega)) rfl ?_
  refine s_nil ?_
  refine q_then ?_
  refine c_seq ?_
  refine c_seq ?_
  refine c_reg ?_
  refine s_y (Y_mv) rfl rfl ?_
  refine s_y (Y_assert rfl (by first | assumption | (intro w; kernel_rfl))) rfl rfl ?_
  refine s_y (Y_mv) rfl rfl ?_
  refine s_y (Y_extract rfl rfl) rfl rfl ?_
  refine s_y (Y_extract rfl rfl) rfl rfl ?_
  refine s_y (Y_as) rfl rfl ?_
  refine s_y (Y_as) rfl rfl ?_
  refine s_nil ?_
  refine q_then ?_
  refine c_seq ?_
  refine c_reg ?_
  refine s_y (Y_mv) rfl rfl ?_
  refine s_y (Y_mv) rfl rfl ?_
  first | refine s_y (Y_mv) rfl rfl ?_ | refine s_pass rfl rfl ?_
  first | refine s_y (Y_not rfl) rfl rfl ?_ | refine s_pass rfl rfl ?_
  refine s_y (Y_pk rfl (Gx.tmp (by repeat (first | exact Gt.here | apply Gt.there (by rfl) | exact Gt.base (by rfl)))) Gx.const) rfl rfl ?_
  refine s_nil ?_
  refine q_then ?_
  refine c_F rfl rfl ?_
  refine c_skip ?_
  refine q_then ?_
  refine c_seq ?_
  refine c_reg ?_
  refine s_y (Y_mv) rfl rfl ?_
  refine s_y (Y_mv) rfl rfl ?_
  refine s_cm [rd b a' n c k e, u64B b11 (IntKind.u64.wrap old)] (En_inv rfl rfl (by intro w; kernel_rfl)) (by repeat (first | exact Sels.nil | apply Sels.cons (by repeat (first | exact Sel.head | apply Sel.tail)))) (fun w hH => raw_d (y := u64B b11 (IntKind.u64.wrap old)) hm0 hm hk (hH.at' (by repeat (first | exact List.Mem.head _ | assumption | apply List.Mem.tail | apply List.mem_append_right))) (hH.at' (by repeat (first | exact List.Mem.head _ | assumption | apply List.Mem.tail | apply List.mem_append_right))) (ne2 (rd b a' n c k e) (u64B b11 (IntKind.u64.wrap old)) hH (by repeat (first | exact Sels.nil | apply Sels.cons (by repeat (first | exact Sel.head | apply Sel.tail))))) (hs.call2 (rd b a' n c k e) (u64B b11 (IntKind.u64.wrap old)) hH (by repeat (first | exact Sels.nil | apply Sels.cons (by repeat (first | exact Sel.head | apply Sel.tail))))) rfl) rfl rfl ?_
  rintro _ _ ⟨rfl, _, ⟨a2, rfl, hk2⟩, rfl⟩
  refine s_nil ?_
  refine q_then ?_
  refine c_seq ?_
  refine c_reg ?_
  refine s_y (Y_mv) rfl rfl ?_
  refine s_y ((by first | exact Y_load rfl one90 (by repeat (first | exact List.Mem.head _ | assumption | apply List.Mem.tail | apply List.mem_append_right)) (by rfl) | exact Y_load rfl one90 (by repeat (first | exact List.Mem.head _ | assumption | apply List.Mem.tail | apply List.mem_append_right)) (by assumption) | exact Y_loadR rfl one90 (by assumption) rfl (by assumption))) rfl rfl ?_
  refine s_y ((by first | exact Y_conv rfl Try.underlying90 Try.underlying3 (by first | exact i64_u8 _ | exact u64_u8 _ | exact i64_id (by omega) | exact u64_id (by omega) | exact u8_id (by omega) | exact u32_id (by omega)) | exact Y_convw rfl Try.underlying90 Try.underlying3)) rfl rfl ?_
  refine s_y ((by first | exact Y_nil rfl | exact Y_nilF rfl | exact Y_nilM rfl (by assumption) | exact Y_nilM rfl (by intro w k; kernel_rfl))) rfl rfl ?_
  refine s_s (S_st rfl (by repeat (first | exact Gt.here | apply Gt.there (by rfl) | exact Gt.base (by rfl))) sz3 (by rfl) (by repeat (first | exact Upd.head | apply Upd.tail)) (by first | (simp only [Nat.zero_add, Nat.reduceAdd, List.set_cons_succ, List.set_cons_zero]; rfl) | rfl) (by first | (simp; done) | omega)) rfl ?_
  refine s_nil ?_
  refine q_then ?_
  refine c_seq ?_
  refine c_reg ?_
  refine s_y (Y_mv) rfl rfl ?_
  refine s_cm [rd b a2 n c (rdRaw bs m k e).2.1 (rdRaw bs m k e).2.2] (En_inv rfl rfl (by intro w; kernel_rfl)) (by repeat (first | exact Sels.nil | apply Sels.cons (by repeat (first | exact Sel.head | apply Sel.tail)))) (fun w hH => failed_d (hH.at' (by repeat (first | exact List.Mem.head _ | assumption | apply List.Mem.tail | apply List.mem_append_right)))) rfl rfl ?_
  rintro _ _ ⟨rfl, rfl⟩
  refine s_y (Y_not rfl) rfl rfl ?_
  refine s_nil ?_
  refine q_then ?_
  by_cases he : (rdRaw bs m k e).2.2 = 0
  · have hR : rdNum bs m f t k e = (((rdRaw bs m k e).1 : Int), (rdRaw bs m k e).2.1, noted (inB (rdRaw bs m k e).1 f t) (rdRaw bs m k e).2.2 9) := rfl
    refine c_T rfl (by simp [he]) ?_
    refine c_rord [9] [(0, true), (1, true), (2, true), (3, true), (4, true), (5, true), (6, false), (7, true), (8, true), (9, false)] (by kernel_rfl) (by kernel_rfl) (by kernel_rfl) (by kernel_rfl) rfl (by intro c a d v w h; cases d <;> exact h) rfl ?_
    simp only [mkOrd, List.filterMap_cons, List.filterMap_nil, List.getElem?_toArray, List.getElem?_cons_zero, List.getElem?_cons_succ, Option.map_some]
    refine o_y (Y_mv) rfl rfl ?_
    refine o_y (Y_mv) rfl rfl ?_
    refine o_y ((by first | exact Y_nil rfl | exact Y_nilF rfl | exact Y_nilM rfl (by assumption) | exact Y_nilM rfl (by intro w k; kernel_rfl))) rfl rfl ?_
    refine o_y (Y_load rfl one3 (by repeat (first | exact List.Mem.head _ | assumption | apply List.Mem.tail | apply List.mem_append_right)) (List.getElem?_set_self hjl)) rfl rfl ?_
    refine o_y (Y_mv) rfl rfl ?_
    refine o_y (Y_mv) rfl rfl ?_
    refine o_v (Y_mk (by repeat (first | exact Gv.nil | apply Gv.const | apply Gv.tmp (by repeat (first | exact Gt.here | apply Gt.there (by rfl) | exact Gt.base (by rfl))))) (by repeat (first | exact Gv.nil | apply Gv.const | apply Gv.tmp (by repeat (first | exact Gt.here | apply Gt.there (by rfl) | exact Gt.base (by rfl)))))) (by first | exact keep_no rfl | exact keep_sub (by repeat (first | exact List.Sublist.refl _ | exact List.nil_sublist _ | apply List.Sublist.cons_cons | apply List.Sublist.cons))) rfl rfl ?_
    refine o_y ((by first | exact Y_nil rfl | exact Y_nilF rfl | exact Y_nilM rfl (by assumption) | exact Y_nilM rfl (by intro w k; kernel_rfl))) rfl rfl ?_
    refine o_y (Y_mv) rfl rfl ?_
    refine o_cm [rd b a2 n c (rdRaw bs m k e).2.1 (rdRaw bs m k e).2.2] (En_inv rfl rfl (by intro w; kernel_rfl)) (by repeat (first | exact Sels.nil | apply Sels.cons (by repeat (first | exact Sel.head | apply Sel.tail)))) (fun w hH => within_d _ _ _ (hH.at' (by repeat (first | exact List.Mem.head _ | assumption | apply List.Mem.tail | apply List.mem_append_right)))) (fun _ _ h => by obtain ⟨rfl, rfl⟩ := h; exact (by first | exact keep_no rfl | exact keep_sub (by repeat (first | exact List.Sublist.refl _ | exact List.nil_sublist _ | apply List.Sublist.cons_cons | apply List.Sublist.cons)))) rfl rfl ?_
    rintro _ _ ⟨rfl, rfl⟩
    refine o_nil ?_
    refine q_end0 rfl (L' := [rd b a2 n c (rdRaw bs m k e).2.1 (noted (inB (rdRaw bs m k e).1 f t) (rdRaw bs m k e).2.2 9), ⟨yb, yt, yk, ycap, yc.set j (.int .i64 (rdRaw bs m k e).1)⟩]) (by repeat (first | exact List.Sublist.refl _ | exact List.nil_sublist _ | apply List.Sublist.cons_cons | apply List.Sublist.cons)) ⟨rfl, _, ⟨a2, rfl, hk2⟩, rfl⟩
  · have hR : rdNum bs m f t k e = (((rdRaw bs m k e).1 : Int), (rdRaw bs m k e).2.1, (rdRaw bs m k e).2.2) := by simp [rdNum, noted, he]
    refine c_F rfl (by simp [he]) ?_
    refine c_skip ?_
    rw [hR]
    refine q_end0 rfl (L' := [rd b a2 n c (rdRaw bs m k e).2.1 (rdRaw bs m k e).2.2, ⟨yb, yt, yk, ycap, yc.set j (.int .i64 (rdRaw bs m k e).1)⟩]) (by repeat (first | exact List.Sublist.refl _ | exact List.nil_sublist _ | apply List.Sublist.cons_cons | apply List.Sublist.cons)) ⟨rfl, _, ⟨a2, rfl, hk2⟩, rfl⟩
/-! ### Several numbers -/
def rdNums (bs : List UInt8) : List Nat → List Value → Nat → Int → List Value × Nat × Int
  | [], c, k, e => (c, k, e)
  | j :: js, c, k, e => rdNums bs js (c.set j (.int .i64 (rdNum bs 4 0 1073741823 k e).1)) (rdNum bs 4 0 1073741823 k e).2.1 (rdNum bs 4 0 1073741823 k e).2.2
theorem rdNums_snoc (bs : List UInt8) (j : Nat) : ∀ (js : List Nat) (c : List Value) (k : Nat) (e : Int), rdNums bs (js ++ [j]) c k e =
    ((rdNums bs js c k e).1.set j (.int .i64 (rdNum bs 4 0 1073741823 (rdNums bs js c k e).2.1 (rdNums bs js c k e).2.2).1), (rdNum bs 4 0 1073741823 (rdNums bs js c k e).2.1 (rdNums bs js c k e).2.2).2)
  | [], _, _, _ => rfl
  | i :: js, c, k, e => by rw [List.cons_append, rdNums, rdNums_snoc bs j js]; rfl
def IntAt (c : List Value) (j : Nat) : Prop := ∃ x, c[j]? = some (.int .i64 x)
theorem IntAt.set {c : List Value} {i j : Nat} (h : IntAt c i) (x : Int) : IntAt (c.set j (.int .i64 x)) i := by
  obtain ⟨y, hy⟩ := h
  have hl := (List.getElem?_eq_some_iff.1 hy).1
  by_cases hij : j = i
  · subst hij; exact ⟨x, List.getElem?_set_self hl⟩
  · exact ⟨y, by rw [List.getElem?_set_ne hij]; exact hy⟩
theorem rdNums_int {bs : List UInt8} {i : Nat} : ∀ (js : List Nat) {c : List Value} {k : Nat} {e : Int}, IntAt c i → IntAt (rdNums bs js c k e).1 i
  | [], _, _, _, h => h
  | j :: js, c, k, e, h => rdNums_int js (h.set _)
set_option maxRecDepth 100000 in
theorem plain_d {sb N sc : Nat} {js : List Nat} (hk : RdAt a n c k a') (hx : (rd b a' n c k e).holds W) (hy : y.holds W) (hne : b ≠ y.b) (hs : Src W [b, y.b] a n c bs) (hl : js.length = N) (hN : N ≤ 1000) (hp : Ro W sb 0 (js.map (ptrAt y.b))) (hsb : sb ∉ [b, y.b]) (hj : ∀ j ∈ js, IntAt y.c j) :
    Does Try.prog 40 [.iface 67 (ptr b), .slice (some ⟨sb, 0, none⟩) N sc] W [b, y.b] (fun v L => v = .tuple #[] ∧ ∃ x, Rds b a n c (rdNums bs js y.c k e).2.1 (rdNums bs js y.c k e).2.2 x ∧ L = [x, { y with c := (rdNums bs js y.c k e).1 }]) := by
  obtain ⟨yb, yt, yk, ycap, yc⟩ := y
  simp only at hne hs hj hp hsb ⊢
  refine enter Try.func40 rfl rfl rfl (Has.starts (xs := [rd b a' n c k e, ⟨yb, yt, yk, ycap, yc⟩]) (by simp; exact ⟨hx, hy⟩) (by simpa using hne)) ?_
  refine c_seq ?_
  refine c_reg ?_
  refine s_y (Y_mv) rfl rfl ?_
  refine s_y (Y_len rfl rfl Try.underlying88) rfl rfl ?_
  refine s_y (Y_mvC) rfl rfl ?_
  refine s_nil ?_
  refine q_then ?_
  refine c_block ?_
  refine c_loop [5, 8, 9, 10, 11, 12, 13, 14, 15] (fun n2 (p : Nat × Option Addr) => p.1 + n2 = N ∧ RdAt a n c (rdNums bs (js.take p.1) yc k e).2.1 p.2) (fun p => [(8, .int .i64 (p.1 : Int))])
    (fun p => [rd b p.2 n c (rdNums bs (js.take p.1) yc k e).2.1 (rdNums bs (js.take p.1) yc k e).2.2, ⟨yb, yt, yk, ycap, (rdNums bs (js.take p.1) yc k e).1⟩]) N (0, a') ⟨by omega, by simpa [rdNums] using hk⟩ ⟨rfl, trivial⟩ (fun _ h => h) (fun _ => rfl) ?_
  rintro n2 ⟨i, a2⟩ jj ⟨hi, hk2⟩ K hK
  refine c_seq ?_
  refine c_reg ?_
  refine s_y (Y_lss rfl rfl) rfl rfl ?_
  refine s_nil ?_
  refine q_then ?_
  refine c_seq ?_
  refine c_cond' rfl (fun h => ?_) (fun h => ?_)
  · have hiN : i < js.length := by omega
    have hpi : (js.map (ptrAt yb))[i]? = some (ptrAt yb js[i]) := by simp [hiN]
    obtain ⟨old, hold⟩ := rdNums_int (bs := bs) (k := k) (e := e) (js.take i) (hj js[i] (by simp))
    have hts : js.take (i + 1) = js.take i ++ [js[i]] := by simp
    refine c_skip ?_
    refine q_then ?_
    refine c_seq ?_
    refine c_block ?_
    refine c_seq ?_
    refine c_reg ?_
    refine s_y (Y_ia1 rfl rfl Try.underlying88 sz83 rfl (by omega)) rfl rfl ?_
    refine s_y (Y_loadR (i := i) rfl one83 hp (by omega) hpi hsb) rfl rfl ?_
    refine s_y (Y_as) rfl rfl ?_
    refine s_nil ?_
    refine q_then ?_
    refine c_reg ?_
    refine s_y (Y_mv) rfl rfl ?_
    refine s_y (Y_mv) rfl rfl ?_
    refine s_cm [rd b a2 n c (rdNums bs (js.take i) yc k e).2.1 (rdNums bs (js.take i) yc k e).2.2, ⟨yb, yt, yk, ycap, (rdNums bs (js.take i) yc k e).1⟩] (En_call (fun _ => rfl) Try.func47 rfl (by kernel_rfl) rfl) (by repeat (first | exact Sels.nil | apply Sels.cons (by repeat (first | exact Sel.head | apply Sel.tail)))) (fun w hH => number_d (m := 4) (y := ⟨yb, yt, yk, ycap, (rdNums bs (js.take i) yc k e).1⟩) (by omega) (by omega) hk2 (hH.at' (by repeat (first | exact List.Mem.head _ | assumption | apply List.Mem.tail | apply List.mem_append_right))) (hH.at' (by repeat (first | exact List.Mem.head _ | assumption | apply List.Mem.tail | apply List.mem_append_right))) hne (hs.call2 (rd b a2 n c (rdNums bs (js.take i) yc k e).2.1 (rdNums bs (js.take i) yc k e).2.2) ⟨yb, yt, yk, ycap, (rdNums bs (js.take i) yc k e).1⟩ hH (by repeat (first | exact Sels.nil | apply Sels.cons (by repeat (first | exact Sel.head | apply Sel.tail))))) hold) rfl rfl ?_
    rintro _ _ ⟨rfl, _, ⟨a3, rfl, hk3⟩, rfl⟩
    refine s_nil ?_
    refine q_bn ?_
    refine q_then ?_
    refine c_reg ?_
    refine s_y ((by first | exact Y_add rfl rfl (by omega) | exact Y_addw rfl rfl)) rfl rfl ?_
    refine s_y (Y_mv) rfl rfl ?_
    refine s_nil ?_
    refine hK (n2 - 1) (i + 1, a3) _ _ (by omega) ⟨by simp only; omega, ?_⟩ ⟨rfl, trivial⟩ rfl (fun w h => ?_)
    · rw [hts, rdNums_snoc]; exact hk3
    · dsimp only
      rw [hts, rdNums_snoc]; exact h
  · obtain rfl : i = N := by omega
    rw [List.take_of_length_le (by omega)] at hk2 ⊢
    refine c_exit ?_
    repeat with_reducible refine q_te ?_
    refine q_exit ?_
    refine q_end0 rfl (by repeat (first | exact List.Sublist.refl _ | exact List.nil_sublist _ | apply List.Sublist.cons_cons | apply List.Sublist.cons)) ⟨rfl, _, ⟨a2, rfl, hk2⟩, rfl⟩
end
end Go.Proofs.Ytphmdhbhoakcaaa
