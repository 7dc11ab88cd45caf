/- What the reader leaves, as a message. -/
import Derived.Test.YtphmdhbhoakcaaaRS
namespace Go.Proofs.Ytphmdhbhoakcaaa
open Go.RowKit Go.Ad Go.Maps
set_option linter.unusedVariables false
set_option linter.unusedSimpArgs false
section
variable {bs : List UInt8}
def setMany (c : List Value) : List Nat → List Int → List Value
  | j :: js, z :: zs => setMany (c.set j (.int .i64 z)) js zs
  | _, _ => c
theorem nums_len (bs : List UInt8) : ∀ (n k : Nat) (e : Int), (nums bs n k e).1.length = n
  | 0, _, _ => rfl
  | n + 1, k, e => by simp [nums, nums_len bs n]
theorem rdNums_X (bs : List UInt8) : ∀ (js : List Nat) (c : List Value) (k : Nat) (e : Int), rdNums bs js c k e = (setMany c js (nums bs js.length k e).1, (nums bs js.length k e).2)
  | [], _, _, _ => rfl
  | j :: js, c, k, e => by rw [rdNums, rdNums_X bs js]; rfl
theorem set_mid {A M B : List Value} {o j : Nat} (h : A.length = o) {v : Value} (hj : j < M.length) : (A ++ (M ++ B)).set (o + j) v = A ++ (M.set j v ++ B) := by
  subst h
  rw [List.set_append_right _ _ (by omega), Nat.add_sub_cancel_left, List.set_append_left _ _ hj]
abbrev z5 : List Value := [.int .i64 0, .int .i64 0, .int .i64 0, .int .i64 0, .int .i64 0]
theorem recR_X {A B : List Value} {o : Nat} (h : A.length = o) (k : Nat) (e : Int) : recR bs (A ++ (z5 ++ B)) o k e = (A ++ ((recX bs k e).1.cells ++ B), (recX bs k e).2) := by
  unfold recR recX Rd.pair
  simp only [rdNums, num, n4X]
  rw [set_mid h (by simp)]
  generalize rdNum bs 1 1 3 k e = q
  obtain ⟨z, k1, e1⟩ := q
  simp only
  split
  · rw [set_mid h (by simp)]; rfl
  · split
    · rw [set_mid h (by simp), set_mid h (by simp), set_mid h (by simp)]; rfl
    · split
      · rw [set_mid h (by simp), set_mid h (by simp)]; rfl
      · rfl
theorem rcells_snoc (rs : List Rec) (r : Rec) : rcells (rs ++ [r]) = rcells rs ++ r.cells := by simp [rcells]
theorem recsX_len : ∀ (i k : Nat) (e : Int), (recsX bs i k e).1.length ≤ i ∧ ((recsX bs i k e).2.2 = 0 → (recsX bs i k e).1.length = i)
  | 0, _, _ => ⟨Nat.le_refl _, fun _ => rfl⟩
  | i + 1, k, e => by
    obtain ⟨h1, h2⟩ := recsX_len i k e
    simp only [recsX]
    split
    · rename_i h
      simp only [List.length_append, List.length_singleton]
      exact ⟨by omega, fun _ => by rw [h2 h]⟩
    · rename_i h
      exact ⟨by omega, fun h3 => absurd h3 h⟩
theorem recs_X (n : Nat) : ∀ (i k : Nat) (e : Int), i ≤ n → recs bs i (List.replicate (n * 5) (.int .i64 0)) k e = (rcells (recsX bs i k e).1 ++ List.replicate ((n - (recsX bs i k e).1.length) * 5) (.int .i64 0), (recsX bs i k e).2)
  | 0, k, e, _ => by simp [recs, recsX, rcells]
  | i + 1, k, e, hi => by
    have ih := recs_X n i k e (by omega)
    obtain ⟨h1, h2⟩ := recsX_len (bs := bs) i k e
    unfold recs recsX
    rw [ih]
    generalize recsX bs i k e = q at *
    obtain ⟨rs, k1, e1⟩ := q
    simp only at h1 h2 ⊢
    split
    · rename_i h
      have h3 := h2 h
      have h4 : (n - rs.length) * 5 = 5 + (n - (i + 1)) * 5 := by omega
      rw [h4, ← List.replicate_append_replicate]
      have h5 := recR_X (bs := bs) (A := rcells rs) (B := List.replicate ((n - (i + 1)) * 5) (.int .i64 0)) (o := i * 5) (by rw [rcells_length, h3]) k1 0
      rw [show List.replicate 5 (Value.int .i64 0) = z5 from rfl, h5]
      simp only [rcells_snoc, List.length_append, List.length_singleton, h3, List.append_assoc]
    · rfl
theorem rdStream_X {k : Nat} {e : Int} : (rdStream bs k e).2 = (streamX bs k e).2 ∧ ((streamX bs k e).2.2 = 0 → (rdStream bs k e).1 = some ((streamX bs k e).1.length, rcells (streamX bs k e).1)) := by
  unfold rdStream streamX num
  generalize rdNum bs 2 0 400 k e = q
  obtain ⟨z, k1, e1⟩ := q
  simp only
  split
  · rw [recs_X _ _ _ _ (Nat.le_refl _)]
    refine ⟨rfl, fun h => ?_⟩
    have h1 := (recsX_len (bs := bs) z.toNat k1 0).2 h
    simp only [h1, Nat.sub_self, Nat.zero_mul, List.replicate_zero, List.append_nil]
  · rename_i h
    exact ⟨rfl, fun h2 => absurd h2 h⟩
theorem seatK_X {p : Nat × Int} {i : Nat} : seatK bs p (i + 1) = (seatX bs (seatK bs p i).1 (seatK bs p i).2).2 := by
  rw [seatK, rdRow_X.1]; rfl
theorem n4_stick {p : Nat × Int} (h : p.2 ≠ 0) : (n4 bs p).2.2 = p.2 := n4_bij.stick h
theorem seatK_stick {p : Nat × Int} {i : Nat} (h : (seatK bs p i).2 ≠ 0) : ∀ d, (seatK bs p (i + d)).2 ≠ 0
  | 0 => h
  | d + 1 => by
    have := seatK_stick h d
    rw [← Nat.add_assoc, seatK_X]
    rw [seat_bij.stick this]
    exact this
theorem rowF_X {p : Nat × Int} {i : Nat} (h : (seatK bs p 4).2 = 0) (hi : i < 4) : rowF bs p i = some (seatX bs (seatK bs p i).1 (seatK bs p i).2).1.2 := by
  have h1 : (seatK bs p (i + 1)).2 = 0 := by
    rcases Int.decEq (seatK bs p (i + 1)).2 0 with h2 | h2
    · have := seatK_stick h2 (4 - (i + 1))
      rw [show i + 1 + (4 - (i + 1)) = 4 by omega] at this
      exact absurd h this
    · exact h2
  rw [seatK_X] at h1
  exact rdRow_X.2 h1
/-! ### The message -/
structure Zer (o : MsgD) : Prop where
  join : o.kind = 1 → o.epoch = 0 ∧ o.bits = 0 ∧ o.rl = 0 ∧ o.dl = 0 ∧ o.ack = 0
  chunk : o.kind = 4 → o.watch = false ∧ o.records = 0 ∧ o.il = 0 ∧ o.stage = 0 ∧ o.seat = 0
  mid : o.kind ≠ 1 → o.kind ≠ 4 → o.dl = 0 ∧ o.total = 0
structure LenC (o d : MsgD) : Prop where
  c1 : o.inputs = d.inputs
  c2 : o.stream = d.stream
  c3 : ∀ s, s < 4 → o.seats s = d.seats s
  c4 : o.data = d.data
  l1 : o.inputs.length = o.il
  l2 : o.stream.length = o.rl
  l3 : ∀ s, s < 4 → (o.seats s).length = o.sl s
  l4 : o.data.length = o.dl
def FldM (bs : List UInt8) (kd : Int) (c : List Value) (p : Nat × Int) (bl : List Bk) : Prop :=
  p = (pI bs kd).2 ∧ (p.2 = 0 → ∃ o : MsgD, c.toArray = msgCells o ∧ SameC o (pI bs kd).1 ∧ Zer o ∧ LenC o (pI bs kd).1 ∧ ∀ w, (∀ x ∈ bl, x.holds w) → Small (pI bs kd).1 → MsgV w o)
theorem ints_at {u : Value} {bl : List Bk} {zs : List Int} (h : InRow u bl (some zs)) : ∃ g, u = .slice (some ⟨g, 0, none⟩) zs.length zs.length ∧ ∀ w, (∀ x ∈ bl, x.holds w) → IntsAt w (some ⟨g, 0, none⟩) zs := by
  obtain ⟨g, h1, h2⟩ := h
  refine ⟨g, h2, fun w hw => .inr ⟨g, 0, rfl, (hw _ h1).lt, fun j u hu => ?_⟩⟩
  rw [Nat.zero_add]; exact (hw _ h1).cell hu
theorem recs_at {u : Value} {bl : List Bk} {rs : List Rec} (h : InStr u bl (some (rs.length, rcells rs))) : ∃ g, u = .slice (some ⟨g, 0, none⟩) rs.length rs.length ∧ ∀ w, (∀ x ∈ bl, x.holds w) → RecsAt w (some ⟨g, 0, none⟩) rs := by
  obtain ⟨g, h1, h2⟩ := h
  refine ⟨g, h2, fun w hw => .inr ⟨g, 0, rfl, (hw _ h1).lt, fun j u hu => ?_⟩⟩
  rw [Nat.zero_add]; exact (hw _ h1).cell hu
theorem fld_join {c : List Value} {p : Nat × Int} {bl : List Bk} (h : FldP bs 1 0 1 c p bl) : FldM bs 1 c p bl := by
  cases h with
  | join =>
    refine ⟨rfl, fun _ => ⟨joinD (joinX bs 1 0).1, rfl, SameC.refl _, ⟨fun _ => ⟨rfl, rfl, rfl, rfl, rfl⟩, fun h => absurd h (by simp [joinD]), fun h => absurd rfl h⟩, ⟨rfl, rfl, fun _ _ => rfl, rfl, rfl, rfl, fun _ _ => rfl, rfl⟩, fun w _ _ => ⟨by simp [joinD], .inl rfl, rfl, fun _ => ⟨rfl, rfl⟩, by simp [joinD], .inl rfl, rfl, fun _ => ⟨rfl, rfl⟩, by simp [joinD], fun _ _ => .inl rfl, fun _ _ => rfl, fun _ _ _ => ⟨rfl, rfl⟩, fun _ _ => by simp [joinD], ⟨rfl, .inl rfl⟩, fun _ => rfl⟩⟩⟩
theorem fld_up {c : List Value} {p : Nat × Int} {bl : List Bk} (h : FldP bs 1 0 2 c p bl) : FldM bs 2 c p bl := by
  cases h with
  | @up C p bl u h hr =>
    rw [rdNums_X] at h
    simp only [Prod.mk.injEq, List.length_cons, List.length_nil, Nat.zero_add, Nat.reduceAdd] at h
    obtain ⟨rfl, rfl⟩ := h
    have hl2 := nums_len bs 2 1 0
    have hU : upX bs 1 0 = upX bs 1 0 := rfl
    conv at hU => rhs; unfold upX Rd.pair
    simp only [upR, rdNums_X, List.length_cons, List.length_nil, Nat.zero_add, Nat.reduceAdd] at hr ⊢
    generalize nums bs 2 1 0 = q at *
    obtain ⟨l2, k2, e2⟩ := q
    simp only at hU hr hl2 ⊢
    generalize rdRaw bs 4 k2 e2 = q at *
    obtain ⟨b, k3, e3⟩ := q
    simp only at hU hr ⊢
    have hl7 := nums_len bs 7 k3 e3
    generalize nums bs 7 k3 e3 = q at *
    obtain ⟨l7, k4, e4⟩ := q
    simp only at hU hr hl7 ⊢
    obtain ⟨hx1, hx2⟩ := rdRow_X (bs := bs) (k := k4) (e := e4)
    rw [hx1]
    generalize rowX bs k4 e4 = q at *
    obtain ⟨zs, k5, e5⟩ := q
    simp only at hU hx2 ⊢
    have hpI : pI bs 2 = (upD (l2, b, l7, zs), k5, e5) := by
      unfold pI
      rw [if_neg (by decide), if_pos rfl, hU]
    unfold FldM
    rw [hpI]
    refine ⟨rfl, fun he => ?_⟩
    rw [hx2 he] at hr
    obtain ⟨g, rfl, hI⟩ := ints_at hr
    obtain ⟨a0, a1, rfl⟩ : ∃ a0 a1, l2 = [a0, a1] := ⟨_, _, two hl2⟩
    obtain ⟨m0, m1, m2, m3, m4, m5, m6, rfl⟩ : ∃ m0 m1 m2 m3 m4 m5 m6, l7 = [m0, m1, m2, m3, m4, m5, m6] := ⟨_, _, _, _, _, _, _, seven hl7⟩
    refine ⟨{ upD ([a0, a1], b, [m0, m1, m2, m3, m4, m5, m6], zs) with ia := some ⟨g, 0, none⟩, il := zs.length, ic := zs.length }, rfl, ⟨rfl, rfl, fun _ => rfl, fun _ => rfl, fun _ => ⟨rfl, rfl, fun _ _ => rfl, rfl, rfl, rfl⟩, fun _ => ⟨rfl, rfl, rfl, rfl, rfl, fun _ _ => rfl, fun _ _ => rfl, rfl⟩, fun _ => ⟨rfl, rfl, rfl, rfl⟩⟩, ⟨fun h => absurd h (by simp [upD]), fun h => absurd h (by simp [upD]), fun _ _ => ⟨rfl, rfl⟩⟩, ⟨rfl, rfl, fun _ _ => rfl, rfl, rfl, rfl, fun _ _ => rfl, rfl⟩, fun w hw hs => ?_⟩
    have hb := hs.bits
    have := hs.inp
    exact ⟨hb, hI w hw, rfl, fun h => (by cases h), by simp only [upD] at this; simp only; omega, .inl rfl, rfl, fun _ => ⟨rfl, rfl⟩, by simp [upD], fun _ _ => .inl rfl, fun _ _ => rfl, fun _ _ _ => ⟨rfl, rfl⟩, fun _ _ => by simp [upD], ⟨rfl, .inl rfl⟩, fun _ => rfl⟩
theorem fld_down {c : List Value} {p : Nat × Int} {bl : List Bk} (h : FldP bs 1 0 3 c p bl) : FldM bs 3 c p bl := by
  cases h with
  | @down C H p q bl sr t u us h h2 h3 hs hr =>
    rw [rdNums_X] at h
    simp only [Prod.mk.injEq, List.length_cons, List.length_nil, Nat.zero_add, Nat.reduceAdd] at h
    obtain ⟨rfl, rfl⟩ := h
    have hl2 := nums_len bs 2 1 0
    have hU : downX bs 1 0 = downX bs 1 0 := rfl
    conv at hU => rhs; unfold downX; unfold Rd.pair
    simp only [downH, rdNums_X, List.length_cons, List.length_nil, Nat.zero_add, Nat.reduceAdd] at h2
    simp only [num] at hU
    generalize nums bs 2 1 0 = r at *
    obtain ⟨l2, k2, e2⟩ := r
    simp only at hU h2 hl2 ⊢
    generalize rdNum bs 1 1 7 k2 e2 = r at *
    obtain ⟨z1, k3, e3⟩ := r
    simp only at hU h2 ⊢
    generalize rdNum bs 1 0 4 k3 e3 = r at *
    obtain ⟨z2, k4, e4⟩ := r
    simp only at hU h2 ⊢
    have hm2 := nums_len bs 2 k4 e4
    generalize nums bs 2 k4 e4 = r at *
    obtain ⟨m2, k5, e5⟩ := r
    simp only [Prod.mk.injEq] at hU h2 hm2 ⊢
    obtain ⟨rfl, rfl⟩ := h2
    obtain ⟨hx1, hx2⟩ := rdStream_X (bs := bs) (k := k5) (e := e5)
    rw [h3] at hx1 hx2
    simp only at hx1 hx2 h3
    generalize streamX bs k5 e5 = r at *
    obtain ⟨rs, k6, e6⟩ := r
    simp only at hU hx1 hx2 ⊢
    subst hx1
    have hpI : pI bs 3 = (downD (downX bs 1 0).1, (downX bs 1 0).2) := by
      unfold pI
      rw [if_neg (by decide), if_neg (by decide), if_pos rfl]
    have hS : seatsX bs k6 e6 = (((seatX bs (seatK bs (k6, e6) 0).1 (seatK bs (k6, e6) 0).2).1, (seatX bs (seatK bs (k6, e6) 1).1 (seatK bs (k6, e6) 1).2).1, (seatX bs (seatK bs (k6, e6) 2).1 (seatK bs (k6, e6) 2).2).1, (seatX bs (seatK bs (k6, e6) 3).1 (seatK bs (k6, e6) 3).2).1), seatK bs (k6, e6) 4) := by
      unfold seatsX Rd.pair
      simp only [seatK_X]
      rfl
    rw [hS] at hU
    simp only at hU
    unfold FldM
    rw [hpI, hU]
    refine ⟨rfl, fun he => ?_⟩
    replace he : (n4 bs (seatK bs (k6, e6) 4)).2.2 = 0 := he
    have hk4 : (seatK bs (k6, e6) 4).2 = 0 := by
      rcases Int.decEq (seatK bs (k6, e6) 4).2 0 with h4 | h4
      · exact absurd ((n4_stick h4).symm.trans he) h4
      · exact h4
    have he6 : e6 = 0 := by
      rcases Int.decEq e6 0 with h4 | h4
      · exact absurd hk4 (seatK_stick (bs := bs) (p := (k6, e6)) (i := 0) h4 4)
      · exact h4
    rw [hx2 he6] at hs
    obtain ⟨g, rfl, hR⟩ := recs_at hs
    have r0 := hr 0 (by omega); have r1 := hr 1 (by omega); have r2 := hr 2 (by omega); have r3 := hr 3 (by omega)
    rw [rowF_X hk4 (by omega)] at r0 r1 r2 r3
    obtain ⟨g0, u0, I0⟩ := ints_at r0
    obtain ⟨g1, u1, I1⟩ := ints_at r1
    obtain ⟨g2, u2, I2⟩ := ints_at r2
    obtain ⟨g3, u3, I3⟩ := ints_at r3
    have hC : ∀ C : List Value, seatC bs (k6, e6) us 4 C = ((((((((C.set 18 (.int .i64 (seatX bs (seatK bs (k6, e6) 0).1 (seatK bs (k6, e6) 0).2).1.1)).set 22 (us 0)).set 19 (.int .i64 (seatX bs (seatK bs (k6, e6) 1).1 (seatK bs (k6, e6) 1).2).1.1)).set 23 (us 1)).set 20 (.int .i64 (seatX bs (seatK bs (k6, e6) 2).1 (seatK bs (k6, e6) 2).2).1.1)).set 24 (us 2)).set 21 (.int .i64 (seatX bs (seatK bs (k6, e6) 3).1 (seatK bs (k6, e6) 3).2).1.1)).set 25 (us 3)) := fun C => rfl
    rw [hC, u0, u1, u2, u3]
    clear hC u0 u1 u2 u3 hr r0 r1 r2 r3 hU hS hpI
    generalize (seatX bs (seatK bs (k6, e6) 0).1 (seatK bs (k6, e6) 0).2).1 = f0 at *
    generalize (seatX bs (seatK bs (k6, e6) 1).1 (seatK bs (k6, e6) 1).2).1 = f1 at *
    generalize (seatX bs (seatK bs (k6, e6) 2).1 (seatK bs (k6, e6) 2).2).1 = f2 at *
    generalize (seatX bs (seatK bs (k6, e6) 3).1 (seatK bs (k6, e6) 3).2).1 = f3 at *
    have hack : n4X bs (seatK bs (k6, e6) 4).1 (seatK bs (k6, e6) 4).2 = n4 bs (seatK bs (k6, e6) 4) := rfl
    rw [hack]
    generalize (n4 bs (seatK bs (k6, e6) 4)).1 = ack at *
    obtain ⟨a0, a1, rfl⟩ : ∃ a0 a1, l2 = [a0, a1] := ⟨_, _, two hl2⟩
    obtain ⟨b0, b1, rfl⟩ : ∃ b0 b1, m2 = [b0, b1] := ⟨_, _, two hm2⟩
    refine ⟨{ downD ([a0, a1], z1, z2, [b0, b1], rs, (f0, f1, f2, f3), ack) with ra := some ⟨g, 0, none⟩, rl := rs.length, rc := rs.length, sa := fun s => match s with | 0 => some ⟨g0, 0, none⟩ | 1 => some ⟨g1, 0, none⟩ | 2 => some ⟨g2, 0, none⟩ | _ => some ⟨g3, 0, none⟩, sl := fun s => (q4 (f0, f1, f2, f3) s).2.length, sc := fun s => (q4 (f0, f1, f2, f3) s).2.length }, by simp only [setMany, List.set_cons_succ, List.set_cons_zero]; rfl, ⟨rfl, rfl, fun _ => rfl, fun _ => rfl, fun _ => ⟨rfl, rfl, fun _ _ => rfl, rfl, rfl, rfl⟩, fun _ => ⟨rfl, rfl, rfl, rfl, rfl, fun _ _ => rfl, fun _ _ => rfl, rfl⟩, fun _ => ⟨rfl, rfl, rfl, rfl⟩⟩, ⟨fun h => absurd h (by simp [downD]), fun h => absurd h (by simp [downD]), fun _ _ => ⟨rfl, rfl⟩⟩, ⟨rfl, rfl, fun _ _ => rfl, rfl, rfl, rfl, fun _ _ => rfl, rfl⟩, fun w hw hsm => ?_⟩
    have hb := hsm.bits
    have s1 := hsm.str
    have s2 := hsm.sts
    refine ⟨hb, .inl rfl, rfl, fun _ => ⟨rfl, rfl⟩, by simp [downD], hR w hw, rfl, fun h => (by cases h), by simp only [downD] at s1; simp only; omega, fun s hs => ?_, fun _ _ => rfl, fun s hs h => ?_, fun s hs => ?_, ⟨rfl, .inl rfl⟩, fun _ => rfl⟩
    · obtain rfl | rfl | rfl | rfl : s = 0 ∨ s = 1 ∨ s = 2 ∨ s = 3 := by omega
      · exact I0 w hw
      · exact I1 w hw
      · exact I2 w hw
      · exact I3 w hw
    · obtain rfl | rfl | rfl | rfl : s = 0 ∨ s = 1 ∨ s = 2 ∨ s = 3 := by omega
      all_goals cases h
    · have := s2 s hs
      simp only [downD] at this
      simp only
      omega
theorem fld_chunk {c : List Value} {p : Nat × Int} {bl : List Bk} (h : FldP bs 1 0 4 c p bl) : FldM bs 4 c p bl := by
  cases h with
  | @chunk C H p q bl u h h2 hd =>
    rw [rdNums_X] at h
    simp only [Prod.mk.injEq, List.length_cons, List.length_nil, Nat.zero_add, Nat.reduceAdd] at h
    obtain ⟨rfl, rfl⟩ := h
    have hl2 := nums_len bs 2 1 0
    have hU : chunkX bs 1 0 = chunkX bs 1 0 := rfl
    conv at hU => rhs; unfold chunkX chunkHX; unfold Rd.pair
    simp only [chunkR] at h2
    simp only [num, n4X, chkX] at hU
    generalize nums bs 2 1 0 = r at *
    obtain ⟨l2, k2, e2⟩ := r
    simp only at hU h2 hl2 ⊢
    generalize rdNum bs 4 0 1073741823 k2 e2 = r at *
    obtain ⟨z1, k3, e3⟩ := r
    simp only at hU h2 ⊢
    generalize rdNum bs 1 0 255 k3 e3 = r at *
    obtain ⟨z2, k4, e4⟩ := r
    simp only at hU h2 ⊢
    generalize rdNum bs 1 1 16 k4 e4 = r at *
    obtain ⟨z3, k5, e5⟩ := r
    simp only [Prod.mk.injEq] at hU h2 ⊢
    obtain ⟨rfl, rfl⟩ := h2
    generalize rdNum bs 1 0 64 k5 (noted (inB z2 0 (z3 - 1)) e5 9) = r at *
    obtain ⟨z4, k6, e6⟩ := r
    try simp only at hU
    try simp only at hd
    try simp only
    have hB : chunkB bs (z4, k6, e6) = dataX bs z4 k6 e6 := rfl
    rw [hB] at hd ⊢
    have hpI : pI bs 4 = (chunkD (chunkX bs 1 0).1, (chunkX bs 1 0).2) := by
      unfold pI
      rw [if_neg (by decide), if_neg (by decide), if_neg (by decide)]
    unfold FldM
    rw [hpI, hU]
    generalize dataX bs z4 k6 e6 = r at *
    obtain ⟨dt, k7, e7⟩ := r
    try simp only at hd
    try simp only
    refine ⟨(by first | rfl | trivial), fun he => ?_⟩
    obtain ⟨a0, a1, rfl⟩ : ∃ a0 a1, l2 = [a0, a1] := ⟨_, _, two hl2⟩
    rcases hd with ⟨rfl, rfl⟩ | ⟨g, cap, h1, h2, rfl⟩
    · refine ⟨chunkD (([a0, a1], z1, z2, z3, (), z4), []), rfl, SameC.refl _, ⟨fun h => absurd h (by simp [chunkD]), fun _ => ⟨rfl, rfl, rfl, rfl, rfl⟩, fun _ h => absurd rfl h⟩, ⟨rfl, rfl, fun _ _ => rfl, rfl, rfl, rfl, fun _ _ => rfl, rfl⟩, fun w hw hsm => ⟨hsm.bits, .inl rfl, rfl, fun _ => ⟨rfl, rfl⟩, by simp [chunkD], .inl rfl, rfl, fun _ => ⟨rfl, rfl⟩, by simp [chunkD], fun _ _ => .inl rfl, fun _ _ => rfl, fun _ _ _ => ⟨rfl, rfl⟩, fun _ _ => by simp [chunkD], ⟨rfl, .inl rfl⟩, fun _ => rfl⟩⟩
    · refine ⟨{ chunkD (([a0, a1], z1, z2, z3, (), z4), dt) with da := some ⟨g, 0, none⟩, dc := cap }, rfl, ⟨rfl, rfl, fun _ => rfl, fun _ => rfl, fun _ => ⟨rfl, rfl, fun _ _ => rfl, rfl, rfl, rfl⟩, fun _ => ⟨rfl, rfl, rfl, rfl, rfl, fun _ _ => rfl, fun _ _ => rfl, rfl⟩, fun _ => ⟨rfl, rfl, rfl, rfl⟩⟩, ⟨fun h => absurd h (by simp [chunkD]), fun _ => ⟨rfl, rfl, rfl, rfl, rfl⟩, fun _ h => absurd rfl h⟩, ⟨rfl, rfl, fun _ _ => rfl, rfl, rfl, rfl, fun _ _ => rfl, rfl⟩, fun w hw hsm => ⟨hsm.bits, .inl rfl, rfl, fun _ => ⟨rfl, rfl⟩, by simp [chunkD], .inl rfl, rfl, fun _ => ⟨rfl, rfl⟩, by simp [chunkD], fun _ _ => .inl rfl, fun _ _ => rfl, fun _ _ _ => ⟨rfl, rfl⟩, fun _ _ => by simp [chunkD], ⟨rfl, .inr ⟨g, 0, rfl, (hw _ h2).lt, fun j u hu => ?_⟩⟩, fun h => by cases h⟩⟩
      rw [Nat.zero_add]; exact (hw _ h2).cell hu
theorem fld_msg {kd : Int} {c : List Value} {p : Nat × Int} {bl : List Bk} (h : FldP bs 1 0 kd c p bl) : FldM bs kd c p bl := by
  cases h with
  | join => exact fld_join .join
  | up h hr => exact fld_up (.up h hr)
  | down h h2 h3 hs hr => exact fld_down (.down h h2 h3 hs hr)
  | chunk h h2 hd => exact fld_chunk (.chunk h h2 hd)
end
end Go.Proofs.Ytphmdhbhoakcaaa
