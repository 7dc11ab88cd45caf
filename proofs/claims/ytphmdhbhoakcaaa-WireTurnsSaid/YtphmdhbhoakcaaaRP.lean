/- What is read is what was written: plain laws. -/
import Derived.Test.YtphmdhbhoakcaaaR8
namespace Go.Proofs.Ytphmdhbhoakcaaa
open Go.RowKit Go.Ad Go.Maps
set_option linter.unusedVariables false
set_option linter.unusedSimpArgs false
/-! ### Numbers of several bytes -/
theorem be_succ (n x : Nat) : be (n + 1) x = be n (x / 256) ++ [UInt8.ofNat x] := by
  unfold be
  rw [List.range_succ, List.map_append]
  congr 1
  · refine List.map_congr_left fun k hk => ?_
    have hk := List.mem_range.1 hk
    have h1 : n + 1 - 1 - k = (n - 1 - k) + 1 := by omega
    rw [h1, Nat.pow_succ, Nat.mul_comm, ← Nat.div_div_eq_div_mul]
  · simp
theorem beval_be : ∀ (n x : Nat), x < 256 ^ n → beval (be n x) = x
  | 0, x, h => by simp at h; subst h; rfl
  | n + 1, x, h => by
    have h1 : x / 256 < 256 ^ n := by rw [Nat.pow_succ] at h; exact Nat.div_lt_of_lt_mul (by omega)
    rw [be_succ, beval_snoc, beval_be n _ h1]
    have : (UInt8.ofNat x).toNat = x % 256 := by simp [UInt8.toNat_ofNat']
    rw [this]; omega
theorem be_beval : ∀ (n : Nat) (l : List UInt8), l.length = n → be n (beval l) = l
  | 0, l, h => by rw [List.eq_nil_of_length_eq_zero h]; rfl
  | n + 1, l, h => by
    obtain ⟨r, x, rfl⟩ : ∃ r x, l = r ++ [x] := ⟨l.dropLast, l.getLast (by intro hn; simp [hn] at h), (List.dropLast_concat_getLast _).symm⟩
    have hx := x.toNat_lt
    rw [be_succ, beval_snoc]
    have h1 : (beval r * 256 + x.toNat) / 256 = beval r := by omega
    rw [h1, be_beval n r (by simpa using h)]
    congr 1
    have : UInt8.ofNat (beval r * 256 + x.toNat) = x := by
      apply UInt8.toNat.inj
      rw [UInt8.toNat_ofNat']; omega
    rw [this]
/-! ### Reading as the inverse of writing -/
abbrev Rd (α : Type) := Nat → Int → α × Nat × Int
structure Bij {α : Type} (bs : List UInt8) (X : Rd α) (enc : α → List UInt8) (ok : α → Prop) : Prop where
  sound : ∀ {k : Nat} {e : Int} {x : α} {k' : Nat}, X k e = (x, k', 0) → e = 0 ∧ ok x ∧ k' = k + (enc x).length ∧ bs.drop k = enc x ++ bs.drop k'
  comp : ∀ {k : Nat} {x : α} {r : List UInt8}, ok x → bs.drop k = enc x ++ r → X k 0 = (x, k + (enc x).length, 0)
  stick : ∀ {k : Nat} {e : Int}, e ≠ 0 → (X k e).2.2 = e
def Rd.pair {α β : Type} (X : Rd α) (Y : α → Rd β) : Rd (α × β) := fun k e => ((((X k e).1, (Y (X k e).1 (X k e).2.1 (X k e).2.2).1)), (Y (X k e).1 (X k e).2.1 (X k e).2.2).2)
section
variable {bs : List UInt8} {α β : Type}
theorem drop_more {k : Nat} {l r : List UInt8} (h : bs.drop k = l ++ r) : bs.drop (k + l.length) = r := by
  rw [← List.drop_drop, h, List.drop_left]
theorem Bij.pair {X : Rd α} {Y : α → Rd β} {ex : α → List UInt8} {ey : α → β → List UInt8} {ox : α → Prop} {oy : α → β → Prop} (hX : Bij bs X ex ox) (hs : ∀ x k e, e ≠ 0 → (Y x k e).2.2 = e) (hY : ∀ x, ox x → Bij bs (Y x) (ey x) (oy x)) : Bij bs (X.pair Y) (fun p => ex p.1 ++ ey p.1 p.2) (fun p => ox p.1 ∧ oy p.1 p.2) where
  sound := by
    rintro k e ⟨x, y⟩ k' h
    unfold Rd.pair at h
    generalize hr : X k e = r at h
    obtain ⟨x1, k1, e1⟩ := r
    simp only [Prod.mk.injEq] at h
    obtain ⟨⟨rfl, h2⟩, h3⟩ := h
    by_cases he : e1 = 0
    · subst he
      obtain ⟨rfl, h4, rfl, h5⟩ := hX.sound hr
      obtain ⟨_, h6, h7, h8⟩ := (hY _ h4).sound (show Y x1 _ 0 = (y, k', 0) from Prod.ext h2 h3)
      exact ⟨rfl, ⟨h4, h6⟩, by simp only [List.length_append]; omega, by rw [h5, h8, List.append_assoc]⟩
    · have := hs x1 k1 e1 he
      rw [h3] at this
      exact absurd this.symm he
  comp := by
    rintro k ⟨x, y⟩ r ⟨h1, h2⟩ h
    simp only [List.append_assoc] at h
    have h3 := hX.comp h1 h
    have h4 := (hY x h1).comp h2 (drop_more h)
    unfold Rd.pair
    rw [h3]
    simp only [h4, List.length_append, Nat.add_assoc]
  stick := by
    intro k e he
    unfold Rd.pair
    have h1 := hX.stick (k := k) he
    simp only [h1]
    exact hs _ _ _ he
theorem Bij.congr {X Y : Rd α} {ex ey : α → List UInt8} {ox oy : α → Prop} (h : Bij bs X ex ox) (hX : ∀ k e, Y k e = X k e) (he : ∀ x, ox x → ey x = ex x) (ho : ∀ x, oy x ↔ ox x) : Bij bs Y ey oy where
  sound := fun h1 => by
    rw [hX] at h1
    obtain ⟨h2, h3, h4, h5⟩ := h.sound h1
    exact ⟨h2, (ho _).2 h3, by rw [he _ h3]; exact h4, by rw [he _ h3]; exact h5⟩
  comp := fun h1 h2 => by
    have h3 := (ho _).1 h1
    rw [he _ h3] at h2
    rw [hX, he _ h3]; exact h.comp h3 h2
  stick := fun h1 => by rw [hX]; exact h.stick h1
theorem raw_bij {m : Nat} (hm : 0 < m) : Bij bs (fun k e => rdRaw bs m k e) (be m) (fun x => x < 256 ^ m) where
  sound := by
    intro k e x k' h
    simp only [rdRaw] at h
    split at h
    · rename_i he
      split at h
      · rename_i hk
        simp only [Prod.mk.injEq] at h
        obtain ⟨rfl, rfl, _⟩ := h
        have hl : ((bs.drop k).take m).length = m := by simp; omega
        refine ⟨he, ?_, by rw [be_length], ?_⟩
        · have := beval_lt ((bs.drop k).take m)
          rwa [hl] at this
        · rw [be_beval m _ hl, ← List.drop_drop]
          exact (List.take_append_drop m _).symm
      · simp at h
    · rename_i he
      simp only [Prod.mk.injEq] at h
      exact absurd h.2.2 he
  comp := by
    intro k x r hx h
    have hl := congrArg List.length h
    simp only [List.length_append, be_length, List.length_drop] at hl
    have hk : k + m ≤ bs.length := by omega
    have ht : (bs.drop k).take m = be m x := by rw [h]; exact List.take_left' (be_length m x)
    simp only [rdRaw, if_true, hk, ht, beval_be m x hx, be_length]
  stick := by
    intro k e he
    simp [rdRaw, he]
abbrev num (bs : List UInt8) (m : Nat) (f t : Int) : Rd Int := fun k e => rdNum bs m f t k e
theorem num_bij {m : Nat} {f t : Int} (hm : 0 < m) (hf : 0 ≤ f) (ht : t < ((256 ^ m : Nat) : Int)) : Bij bs (num bs m f t) (fun x => be m x.toNat) (fun x => f ≤ x ∧ x ≤ t) where
  sound := by
    intro k e x k' h
    simp only [num, rdNum, Prod.mk.injEq] at h
    obtain ⟨rfl, rfl, h3⟩ := h
    have hn : (rdRaw bs m k e).2.2 = 0 ∧ inB ((rdRaw bs m k e).1 : Int) f t = true := by
      unfold noted at h3
      split at h3
      · simp at h3
      · rename_i hc
        refine ⟨h3, ?_⟩
        cases hb : inB ((rdRaw bs m k e).1 : Int) f t
        · exact absurd ⟨hb, h3⟩ hc
        · rfl
    obtain ⟨h4, h5⟩ := hn
    obtain ⟨h6, h7, h8, h9⟩ := (raw_bij (bs := bs) hm).sound (show (fun k e => rdRaw bs m k e) k e = ((rdRaw bs m k e).1, (rdRaw bs m k e).2.1, 0) by rw [← h4])
    exact ⟨h6, by simpa [inB] using h5, by simpa using h8, by simpa using h9⟩
  comp := by
    intro k x r hx h
    obtain ⟨n, rfl⟩ := Int.eq_ofNat_of_zero_le (show 0 ≤ x by omega)
    have h1 := (raw_bij (bs := bs) hm).comp (x := n) (r := r) (k := k) (by omega) (by simpa using h)
    have hb : inB ((n : Nat) : Int) f t = true := by simp [inB]; exact hx
    simp only [num, rdNum, h1, hb, noted, Int.toNat_natCast]
    simp
  stick := by
    intro k e he
    simp only [num, rdNum]
    rw [(raw_bij (bs := bs) hm).stick he]
    simp [noted, he]
abbrev n4X (bs : List UInt8) : Rd Int := num bs 4 0 1073741823
def nums (bs : List UInt8) : Nat → Rd (List Int)
  | 0 => fun k e => ([], k, e)
  | n + 1 => fun k e => ((n4X bs k e).1 :: (nums bs n (n4X bs k e).2.1 (n4X bs k e).2.2).1, (nums bs n (n4X bs k e).2.1 (n4X bs k e).2.2).2)
theorem n4_bij : Bij bs (n4X bs) (fun x => be 4 x.toNat) (fun x => 0 ≤ x ∧ x ≤ 1073741823) := num_bij (by omega) (by omega) (by decide)
theorem nums_bij : ∀ n, Bij bs (nums bs n) nenc (fun xs => xs.length = n ∧ nokAll xs = true)
  | 0 => ⟨fun h => by simp only [nums, Prod.mk.injEq] at h; obtain ⟨rfl, rfl, rfl⟩ := h; exact ⟨rfl, ⟨rfl, rfl⟩, rfl, rfl⟩, fun {k x r} h1 h2 => by
      obtain rfl := List.eq_nil_of_length_eq_zero h1.1; rfl, fun h => rfl⟩
  | n + 1 => by
    have h1 := Bij.pair n4_bij (fun _ k e he => (nums_bij n).stick he) (fun _ _ => nums_bij n)
    refine ⟨fun {k e x k'} h => ?_, fun {k x r} h2 h3 => ?_, fun {k e} he => ?_⟩
    · simp only [nums, Prod.mk.injEq] at h
      obtain ⟨rfl, h⟩ := h
      obtain ⟨h4, ⟨h5, h6⟩, h7, h8⟩ := h1.sound (x := ((n4X bs k e).1, _)) (Prod.ext rfl h)
      simp only at h5 h6 h7 h8
      refine ⟨h4, ⟨by simp [h6.1], ?_⟩, ?_, ?_⟩
      · have := h6.2
        simp only [nokAll, List.all_cons, Bool.and_eq_true] at this ⊢
        exact ⟨by simp [inB]; exact h5, this⟩
      · rw [h7]; simp [nenc]
      · rw [h8]; simp [nenc]
    · obtain ⟨h4, h5⟩ := h2
      cases x with
      | nil => simp at h4
      | cons y ys =>
        simp only [nokAll, List.all_cons, Bool.and_eq_true] at h5
        have h6 := h1.comp (x := (y, ys)) (r := r) (k := k) ⟨by simpa [inB] using h5.1, by simpa using h4, h5.2⟩ (by simpa [nenc] using h3)
        unfold Rd.pair at h6
        simp only [Prod.mk.injEq] at h6
        simp only [nums, h6]
        simp [nenc]
    · exact h1.stick he
/-! ### Rows -/
abbrev small (zs : List Int) : Prop := ∀ z ∈ zs, 0 ≤ z ∧ z ≤ 10
theorem d_bij : Bij bs (num bs 1 0 10) (fun x => be 1 x.toNat) (fun x => 0 ≤ x ∧ x ≤ 10) := num_bij (by omega) (by omega) (by decide)
theorem ints_bij : ∀ n, Bij bs (fun k e => rdInts bs n k e) (fun zs => zs.flatMap fun x => be 1 x.toNat) (fun zs => zs.length = n ∧ small zs)
  | 0 => ⟨fun h => by simp only [rdInts, Prod.mk.injEq] at h; obtain ⟨rfl, rfl, rfl⟩ := h; exact ⟨rfl, ⟨rfl, by simp [small]⟩, rfl, rfl⟩, fun {k x r} h1 h2 => by
      obtain rfl := List.eq_nil_of_length_eq_zero h1.1; rfl, fun h => rfl⟩
  | n + 1 => by
    have h1 := Bij.pair (ints_bij n) (fun _ k e he => d_bij.stick he) (fun _ _ => d_bij (bs := bs))
    refine ⟨fun {k e x k'} h => ?_, fun {k x r} h2 h3 => ?_, fun {k e} he => ?_⟩
    · simp only [rdInts, Prod.mk.injEq] at h
      obtain ⟨rfl, h⟩ := h
      obtain ⟨h4, ⟨h5, h6⟩, h7, h8⟩ := h1.sound (x := ((rdInts bs n k e).1, _)) (Prod.ext rfl h)
      simp only at h5 h6 h7 h8
      refine ⟨h4, ⟨by simp [h5.1], ?_⟩, ?_, ?_⟩
      · intro z hz
        rcases List.mem_append.1 hz with hz | hz
        · exact h5.2 z hz
        · rw [List.mem_singleton.1 hz]; exact h6
      · rw [h7]; simp
      · rw [h8]; simp
    · obtain ⟨h4, h5⟩ := h2
      obtain ⟨ys, y, rfl⟩ : ∃ ys y, x = ys ++ [y] := ⟨x.dropLast, x.getLast (by intro hn; simp [hn] at h4), (List.dropLast_concat_getLast _).symm⟩
      have h6 := h1.comp (x := (ys, y)) (r := r) (k := k) ⟨⟨by simpa using h4, fun z hz => h5 z (List.mem_append_left _ hz)⟩, h5 y (by simp)⟩ (by simpa using h3)
      unfold Rd.pair at h6
      simp only [Prod.mk.injEq] at h6
      obtain ⟨⟨h7, h8⟩, h9⟩ := h6
      simp only [rdInts, h7, h8, h9]
      simp
    · exact h1.stick he
def rowX (bs : List UInt8) : Rd (List Int) := fun k e => if (rdNum bs 1 0 255 k e).2.2 = 0 then rdInts bs (rdNum bs 1 0 255 k e).1.toNat (rdNum bs 1 0 255 k e).2.1 0 else ([], (rdNum bs 1 0 255 k e).2)
theorem rdRow_X {k : Nat} {e : Int} : (rdRow bs k e).2 = (rowX bs k e).2 ∧ ((rowX bs k e).2.2 = 0 → (rdRow bs k e).1 = some (rowX bs k e).1) := by
  unfold rdRow rowX
  simp only
  split
  · exact ⟨rfl, fun _ => rfl⟩
  · rename_i h
    exact ⟨rfl, fun h2 => absurd h2 h⟩
theorem b_bij : Bij bs (num bs 1 0 255) (fun x => be 1 x.toNat) (fun x => 0 ≤ x ∧ x ≤ 255) := num_bij (by omega) (by omega) (by decide)
theorem row_bij : Bij bs (rowX bs) rowEnc (fun zs => rowOk zs = true) := by
  have hY : ∀ n : Int, ∀ k e, e ≠ 0 → ((fun k e => if e = 0 then rdInts bs n.toNat k 0 else ([], k, e)) k e : List Int × Nat × Int).2.2 = e := fun n k e he => by simp [he]
  have h1 := Bij.pair (ey := fun (n : Int) (zs : List Int) => zs.flatMap fun x => be 1 x.toNat) (oy := fun (n : Int) (zs : List Int) => zs.length = n.toNat ∧ small zs) (Y := fun (n : Int) k e => if e = 0 then rdInts bs n.toNat k 0 else ([], k, e)) b_bij hY (fun n hn => ⟨fun {k e x k'} h => by
    split at h
    · rename_i he
      subst he
      exact (ints_bij n.toNat).sound h
    · rename_i he
      simp only [Prod.mk.injEq] at h
      exact absurd h.2.2 he, fun {k x r} h2 h3 => by
        rw [if_pos rfl]
        exact (ints_bij n.toNat).comp h2 h3, fun {k e} he => by simp [he]⟩)
  have hP : ∀ k e, rowX bs k e = (((num bs 1 0 255).pair (fun (n : Int) k e => if e = 0 then rdInts bs n.toNat k 0 else ([], k, e)) k e).1.2, ((num bs 1 0 255).pair (fun (n : Int) k e => if e = 0 then rdInts bs n.toNat k 0 else ([], k, e)) k e).2) := by
    intro k e
    unfold rowX Rd.pair num
    simp only
  refine ⟨fun {k e x k'} h => ?_, fun {k x r} h2 h3 => ?_, fun {k e} he => ?_⟩
  · rw [hP] at h
    generalize hq : (num bs 1 0 255).pair (fun (n : Int) k e => if e = 0 then rdInts bs n.toNat k 0 else ([], k, e)) k e = q at h
    obtain ⟨⟨n, zs⟩, k2, e2⟩ := q
    simp only [Prod.mk.injEq] at h
    obtain ⟨rfl, rfl, rfl⟩ := h
    obtain ⟨h4, ⟨h5, h6, h7⟩, h8, h9⟩ := h1.sound hq
    simp only at h5 h6 h7 h8 h9
    have hz : (zs.length : Nat) = n.toNat := h6
    refine ⟨h4, ?_, ?_, ?_⟩
    · simp only [rowOk, Bool.and_eq_true, List.all_eq_true]
      exact ⟨by simp [inB]; omega, fun z hz => by simp [inB]; exact h7 z hz⟩
    · rw [h8]; simp only [rowEnc, ← hz, List.length_append]
    · rw [h9]; simp only [rowEnc, ← hz, List.append_assoc]
  · simp only [rowOk, Bool.and_eq_true, List.all_eq_true] at h2
    have h4 := h1.comp (x := ((x.length : Int), x)) (r := r) (k := k) ⟨by simpa [inB] using h2.1, by simp, fun z hz => by simpa [inB] using h2.2 z hz⟩ (by simpa [rowEnc] using h3)
    rw [hP, h4]
    simp [rowEnc]
  · rw [hP]; exact h1.stick he
/-! ### Bytes -/
theorem bytes_bij {n : Nat} (hn : 0 < n) : Bij bs (fun k e => rdBytes bs n k e) id (fun l => l.length = n) where
  sound := by
    intro k e x k' h
    simp only [rdBytes] at h
    split at h
    · rename_i he
      split at h
      · rename_i hk
        simp only [Prod.mk.injEq] at h
        obtain ⟨rfl, rfl, _⟩ := h
        have hl : ((bs.drop k).take n).length = n := by simp; omega
        refine ⟨he, hl, by simp only [id, hl], ?_⟩
        rw [id, ← List.drop_drop]
        exact (List.take_append_drop n _).symm
      · simp at h
    · rename_i he
      simp only [Prod.mk.injEq] at h
      exact absurd h.2.2 he
  comp := by
    intro k x r hx h
    have hl := congrArg List.length h
    simp only [List.length_append, id, hx, List.length_drop] at hl
    have hk : k + n ≤ bs.length := by omega
    have ht : (bs.drop k).take n = x := by rw [h]; exact List.take_left' hx
    simp only [rdBytes, if_true, hk, ht, id, hx]
  stick := by
    intro k e he
    simp [rdBytes, he]
/-- .. none too, in a place that is. -/
theorem bytes_snd {n k : Nat} {e : Int} {x : List UInt8} {k' : Nat} (h : rdBytes bs n k e = (x, k', 0)) : e = 0 ∧ x.length = n ∧ k' = k + x.length ∧ bs.drop k = x ++ bs.drop k' := by
  simp only [rdBytes] at h
  split at h
  · rename_i he
    split at h
    · rename_i hk
      simp only [Prod.mk.injEq] at h
      obtain ⟨rfl, rfl, _⟩ := h
      have hl : ((bs.drop k).take n).length = n := by simp; omega
      refine ⟨he, hl, by rw [hl], ?_⟩
      rw [← List.drop_drop]
      exact (List.take_append_drop n _).symm
    · simp at h
  · rename_i he
    simp only [Prod.mk.injEq] at h
    exact absurd h.2.2 he
theorem bytes_cmp {n k : Nat} {x r : List UInt8} (hx : x.length = n) (hk0 : k ≤ bs.length) (h : bs.drop k = x ++ r) : rdBytes bs n k 0 = (x, k + n, 0) := by
  have hl := congrArg List.length h
  simp only [List.length_append, hx, List.length_drop] at hl
  have hk : k + n ≤ bs.length := by omega
  have ht : (bs.drop k).take n = x := by rw [h]; exact List.take_left' hx
  simp only [rdBytes, if_true, hk, ht]
/-! ### Records -/
def recX (bs : List UInt8) : Rd Rec := fun k e =>
  if (num bs 1 1 3 k e).1 = 1 then (⟨(num bs 1 1 3 k e).1, (num bs 1 0 10 (num bs 1 1 3 k e).2.1 (num bs 1 1 3 k e).2.2).1, 0, 0, 0⟩, (num bs 1 0 10 (num bs 1 1 3 k e).2.1 (num bs 1 1 3 k e).2.2).2)
  else if (num bs 1 1 3 k e).1 = 3 then
    (⟨(num bs 1 1 3 k e).1, 0, ((num bs 1 0 3).pair (fun _ => n4X bs |>.pair fun _ => n4X bs) (num bs 1 1 3 k e).2.1 (num bs 1 1 3 k e).2.2).1.1, ((num bs 1 0 3).pair (fun _ => n4X bs |>.pair fun _ => n4X bs) (num bs 1 1 3 k e).2.1 (num bs 1 1 3 k e).2.2).1.2.1, ((num bs 1 0 3).pair (fun _ => n4X bs |>.pair fun _ => n4X bs) (num bs 1 1 3 k e).2.1 (num bs 1 1 3 k e).2.2).1.2.2⟩, ((num bs 1 0 3).pair (fun _ => n4X bs |>.pair fun _ => n4X bs) (num bs 1 1 3 k e).2.1 (num bs 1 1 3 k e).2.2).2)
  else if (num bs 1 1 3 k e).1 = 2 then
    (⟨(num bs 1 1 3 k e).1, 0, ((num bs 1 0 3).pair (fun _ => n4X bs) (num bs 1 1 3 k e).2.1 (num bs 1 1 3 k e).2.2).1.1, ((num bs 1 0 3).pair (fun _ => n4X bs) (num bs 1 1 3 k e).2.1 (num bs 1 1 3 k e).2.2).1.2, 0⟩, ((num bs 1 0 3).pair (fun _ => n4X bs) (num bs 1 1 3 k e).2.1 (num bs 1 1 3 k e).2.2).2)
  else (⟨(num bs 1 1 3 k e).1, 0, 0, 0, 0⟩, (num bs 1 1 3 k e).2)
/-- A record without what its kind does not name. -/
def canonR (r : Rec) : Rec := if r.kind = 1 then ⟨1, r.input, 0, 0, 0⟩ else if r.kind = 3 then ⟨3, 0, r.seat, r.frame, r.last⟩ else if r.kind = 2 then ⟨2, 0, r.seat, r.frame, 0⟩ else ⟨r.kind, 0, 0, 0, 0⟩
theorem k_bij : Bij bs (num bs 1 1 3) (fun x => be 1 x.toNat) (fun x => 1 ≤ x ∧ x ≤ 3) := num_bij (by omega) (by omega) (by decide)
theorem s_bij : Bij bs (num bs 1 0 3) (fun x => be 1 x.toNat) (fun x => 0 ≤ x ∧ x ≤ 3) := num_bij (by omega) (by omega) (by decide)
theorem sf_bij : Bij bs ((num bs 1 0 3).pair (fun _ => n4X bs)) (fun p => be 1 p.1.toNat ++ be 4 p.2.toNat) (fun p => (0 ≤ p.1 ∧ p.1 ≤ 3) ∧ 0 ≤ p.2 ∧ p.2 ≤ 1073741823) := Bij.pair s_bij (fun _ _ _ he => n4_bij.stick he) (fun _ _ => n4_bij)
theorem ff_bij : Bij bs ((n4X bs).pair (fun _ => n4X bs)) (fun p => be 4 p.1.toNat ++ be 4 p.2.toNat) (fun p => (0 ≤ p.1 ∧ p.1 ≤ 1073741823) ∧ 0 ≤ p.2 ∧ p.2 ≤ 1073741823) := Bij.pair n4_bij (fun _ _ _ he => n4_bij.stick he) (fun _ _ => n4_bij)
theorem sff_bij : Bij bs ((num bs 1 0 3).pair (fun _ => n4X bs |>.pair fun _ => n4X bs)) (fun p => be 1 p.1.toNat ++ (be 4 p.2.1.toNat ++ be 4 p.2.2.toNat)) (fun p => (0 ≤ p.1 ∧ p.1 ≤ 3) ∧ (0 ≤ p.2.1 ∧ p.2.1 ≤ 1073741823) ∧ 0 ≤ p.2.2 ∧ p.2.2 ≤ 1073741823) := Bij.pair s_bij (fun _ _ _ he => ff_bij.stick he) (fun _ _ => ff_bij)
theorem rec_bij : Bij bs (recX bs) recEnc (fun r => recOk r = true ∧ r = canonR r) where
  sound := by
    intro k e x k' h
    unfold recX at h
    generalize hk : num bs 1 1 3 k e = q at h
    obtain ⟨kd, k1, e1⟩ := q
    simp only at h
    by_cases he : e1 = 0
    · subst he
      obtain ⟨rfl, h1, rfl, h2⟩ := k_bij.sound hk
      obtain rfl | rfl | rfl : kd = 1 ∨ kd = 2 ∨ kd = 3 := by omega
      · simp only [if_true, Prod.mk.injEq] at h
        obtain ⟨rfl, h⟩ := h
        obtain ⟨_, h3, h4, h5⟩ := d_bij.sound (x := _) (Prod.ext rfl h)
        refine ⟨rfl, ⟨by simp [recOk, recTail, inB]; exact h3, by simp [canonR]⟩, ?_, ?_⟩
        · rw [h4]; simp [recEnc, recTail, be_length]
        · rw [h2, h5]; simp [recEnc, recTail]
      · simp only [show ¬ ((2 : Int) = 1) by decide, show ¬ ((2 : Int) = 3) by decide, if_true, if_false, Prod.mk.injEq] at h
        obtain ⟨rfl, h⟩ := h
        obtain ⟨_, h3, h4, h5⟩ := sf_bij.sound (x := _) (Prod.ext rfl h)
        refine ⟨rfl, ⟨by simp [recOk, recTail, inB, nokAll]; exact h3, by simp [canonR]⟩, ?_, ?_⟩
        · rw [h4]; simp [recEnc, recTail, be_length, nenc]
        · rw [h2, h5]; simp [recEnc, recTail, nenc]
      · simp only [show ¬ ((3 : Int) = 1) by decide, if_true, if_false, Prod.mk.injEq] at h
        obtain ⟨rfl, h⟩ := h
        obtain ⟨_, h3, h4, h5⟩ := sff_bij.sound (x := _) (Prod.ext rfl h)
        refine ⟨rfl, ⟨by simp [recOk, recTail, inB, nokAll]; exact h3, by simp [canonR]⟩, ?_, ?_⟩
        · rw [h4]; simp [recEnc, recTail, be_length, nenc]
        · rw [h2, h5]; simp [recEnc, recTail, nenc]
    · exfalso
      split at h
      · exact he ((d_bij.stick (bs := bs) (k := k1) he).symm.trans (congrArg (fun p => p.2.2) h))
      · split at h
        · exact he ((sff_bij.stick (bs := bs) (k := k1) he).symm.trans (congrArg (fun p => p.2.2) h))
        · split at h
          · exact he ((sf_bij.stick (bs := bs) (k := k1) he).symm.trans (congrArg (fun p => p.2.2) h))
          · exact he (congrArg (fun p => p.2.2) h)
  comp := by
    rintro k ⟨kd, inp, st, fr, ls⟩ r ⟨h1, h2⟩ h
    simp only [recOk, Bool.and_eq_true, inB, decide_eq_true_eq] at h1
    obtain ⟨h0, h1⟩ := h1
    unfold recX
    simp only [recEnc, List.append_assoc] at h
    have hk := k_bij.comp h0 h
    have hd := drop_more h
    rw [hk]
    simp only [be_length] at hd ⊢
    obtain rfl | rfl | rfl : kd = 1 ∨ kd = 2 ∨ kd = 3 := by omega
    · simp only [canonR, if_true, Rec.mk.injEq] at h2
      obtain ⟨_, _, rfl, rfl, rfl⟩ := h2
      simp only [recTail, if_true, inB, decide_eq_true_eq] at h1 hd
      have h5 := d_bij.comp h1 hd
      simp only [if_true, h5, recEnc, recTail, be_length, List.length_append, Nat.add_assoc]
    · simp only [canonR, show ¬ ((2 : Int) = 1) by decide, show ¬ ((2 : Int) = 3) by decide, if_true, if_false, Rec.mk.injEq] at h2
      obtain ⟨_, rfl, _, _, rfl⟩ := h2
      simp only [recTail, show ¬ ((2 : Int) = 1) by decide, show ¬ ((2 : Int) = 3) by decide, if_true, if_false, inB, decide_eq_true_eq, nokAll, Bool.and_eq_true, List.all_cons, List.all_nil, nenc, List.flatMap_cons, List.flatMap_nil, List.append_nil, and_true] at h1 hd
      have h5 := sf_bij.comp (x := (st, fr)) h1 hd
      simp only [show ¬ ((2 : Int) = 1) by decide, show ¬ ((2 : Int) = 3) by decide, if_true, if_false, h5, recEnc, recTail, be_length, List.length_append, Nat.add_assoc, nenc, List.flatMap_cons, List.flatMap_nil, List.append_nil]
    · simp only [canonR, show ¬ ((3 : Int) = 1) by decide, if_true, if_false, Rec.mk.injEq] at h2
      obtain ⟨_, rfl, _, _, _⟩ := h2
      simp only [recTail, show ¬ ((3 : Int) = 1) by decide, if_true, if_false, inB, decide_eq_true_eq, nokAll, Bool.and_eq_true, List.all_cons, List.all_nil, nenc, List.flatMap_cons, List.flatMap_nil, List.append_nil, and_true] at h1 hd
      have h5 := sff_bij.comp (x := (st, fr, ls)) h1 (by simpa using hd)
      simp only [show ¬ ((3 : Int) = 1) by decide, if_true, if_false, h5, recEnc, recTail, be_length, List.length_append, Nat.add_assoc, nenc, List.flatMap_cons, List.flatMap_nil, List.append_nil]
  stick := by
    intro k e he
    unfold recX
    have h1 := k_bij.stick (bs := bs) (k := k) he
    generalize num bs 1 1 3 k e = q at *
    obtain ⟨kd, k1, e1⟩ := q
    simp only at h1 ⊢
    subst h1
    split
    · exact d_bij.stick he
    · split
      · exact sff_bij.stick he
      · split
        · exact sf_bij.stick he
        · rfl
/-! ### Streams -/
def recsX (bs : List UInt8) : Nat → Rd (List Rec)
  | 0 => fun k e => ([], k, e)
  | i + 1 => fun k e => if (recsX bs i k e).2.2 = 0 then ((recsX bs i k e).1 ++ [(recX bs (recsX bs i k e).2.1 0).1], (recX bs (recsX bs i k e).2.1 0).2) else recsX bs i k e
theorem recs_bij : ∀ n, Bij bs (recsX bs n) (fun rs => rs.flatMap recEnc) (fun rs => rs.length = n ∧ ∀ r ∈ rs, recOk r = true ∧ r = canonR r)
  | 0 => ⟨fun h => by simp only [recsX, Prod.mk.injEq] at h; obtain ⟨rfl, rfl, rfl⟩ := h; exact ⟨rfl, ⟨rfl, by simp⟩, rfl, rfl⟩, fun {k x r} h1 h2 => by
      obtain rfl := List.eq_nil_of_length_eq_zero h1.1; rfl, fun h => rfl⟩
  | n + 1 => by
    have ih := recs_bij n
    refine ⟨fun {k e x k'} h => ?_, fun {k x r} h2 h3 => ?_, fun {k e} he => ?_⟩
    · simp only [recsX] at h
      generalize hq : recsX bs n k e = q at h
      obtain ⟨rs, k1, e1⟩ := q
      simp only at h
      split at h
      · rename_i he
        subst he
        simp only [Prod.mk.injEq] at h
        obtain ⟨rfl, h⟩ := h
        obtain ⟨rfl, ⟨h4, h5⟩, h6, h7⟩ := ih.sound hq
        obtain ⟨_, h8, h9, h10⟩ := rec_bij.sound (x := _) (Prod.ext rfl h)
        refine ⟨rfl, ⟨by simp [h4], fun r hr => ?_⟩, ?_, ?_⟩
        · rcases List.mem_append.1 hr with hr | hr
          · exact h5 r hr
          · rw [List.mem_singleton.1 hr]; exact h8
        · rw [List.flatMap_append, List.length_append, List.flatMap_singleton, ← Nat.add_assoc, ← h6]; exact h9
        · rw [h7, h10, List.flatMap_append, List.flatMap_singleton, List.append_assoc]
      · rename_i he
        simp only [Prod.mk.injEq] at h
        exact absurd h.2.2 he
    · obtain ⟨h4, h5⟩ := h2
      obtain ⟨ys, y, rfl⟩ : ∃ ys y, x = ys ++ [y] := ⟨x.dropLast, x.getLast (by intro hn; simp [hn] at h4), (List.dropLast_concat_getLast _).symm⟩
      simp only [List.flatMap_append, List.flatMap_singleton, List.append_assoc] at h3
      have h6 := ih.comp (x := ys) ⟨by simpa using h4, fun r hr => h5 r (List.mem_append_left _ hr)⟩ h3
      have h7 := rec_bij.comp (h5 y (by simp)) (drop_more h3)
      simp only [recsX, h6, if_true, h7]
      simp
      omega
    · simp only [recsX]
      have := ih.stick (k := k) he
      rw [this, if_neg he, this]
def streamX (bs : List UInt8) : Rd (List Rec) := fun k e => if (num bs 2 0 400 k e).2.2 = 0 then recsX bs (num bs 2 0 400 k e).1.toNat (num bs 2 0 400 k e).2.1 0 else ([], (num bs 2 0 400 k e).2)
theorem c_bij : Bij bs (num bs 2 0 400) (fun x => be 2 x.toNat) (fun x => 0 ≤ x ∧ x ≤ 400) := num_bij (by omega) (by omega) (by decide)
theorem stream_bij : Bij bs (streamX bs) streamEnc (fun rs => streamOk rs = true ∧ ∀ r ∈ rs, r = canonR r) := by
  refine ⟨fun {k e x k'} h => ?_, fun {k x r} h2 h3 => ?_, fun {k e} he => ?_⟩
  · unfold streamX at h
    generalize hq : num bs 2 0 400 k e = q at h
    obtain ⟨n, k1, e1⟩ := q
    simp only at h
    split at h
    · rename_i he
      subst he
      obtain ⟨rfl, h1, rfl, h2⟩ := c_bij.sound hq
      obtain ⟨_, ⟨h4, h5⟩, h6, h7⟩ := (recs_bij n.toNat).sound h
      refine ⟨rfl, ⟨?_, fun r hr => (h5 r hr).2⟩, ?_, ?_⟩
      · simp only [streamOk, Bool.and_eq_true, List.all_eq_true]
        exact ⟨by simp [inB]; omega, fun r hr => (h5 r hr).1⟩
      · rw [h6]; simp only [streamEnc, h4, List.length_append]; omega
      · rw [h2, h7]; simp only [streamEnc, h4, List.append_assoc]
    · rename_i he
      simp only [Prod.mk.injEq] at h
      exact absurd h.2.2 he
  · obtain ⟨h4, h5⟩ := h2
    simp only [streamOk, Bool.and_eq_true, List.all_eq_true, inB, decide_eq_true_eq] at h4
    simp only [streamEnc, List.append_assoc] at h3
    have h6 := c_bij.comp (x := (x.length : Int)) h4.1 (by simpa using h3)
    have h7 := (recs_bij x.length).comp ⟨rfl, fun r hr => ⟨h4.2 r hr, h5 r hr⟩⟩ (drop_more h3)
    unfold streamX
    rw [h6]
    simp only [if_true, Int.toNat_natCast, h7, streamEnc, List.length_append, Nat.add_assoc]
  · unfold streamX
    have h1 := c_bij.stick (bs := bs) (k := k) he
    generalize num bs 2 0 400 k e = q at *
    obtain ⟨n, k1, e1⟩ := q
    simp only at h1 ⊢
    subst h1
    rw [if_neg he]
end
end Go.Proofs.Ytphmdhbhoakcaaa
