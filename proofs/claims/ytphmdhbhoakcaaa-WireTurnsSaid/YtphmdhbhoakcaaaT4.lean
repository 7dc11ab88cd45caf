/- aditref15.Parse. -/
import Derived.Test.YtphmdhbhoakcaaaT3
namespace Go.Proofs.Ytphmdhbhoakcaaa
open Go.RowKit Go.Ad Go.Maps
set_option linter.unusedVariables false
set_option linter.unusedSimpArgs false
section
variable {W : World} {a : Option Addr} {n c : Nat} {bs : List UInt8}
def pErr (bs : List UInt8) : Int :=
  match bs with
  | [] => 7
  | x :: _ => if 1 ≤ x.toNat ∧ x.toNat ≤ 4 then noted (decide ((pI bs x.toNat).2.1 = bs.length)) (pI bs x.toNat).2.2 8 else 3
inductive RefP (bs : List UInt8) : Value → List Bk → Prop
  | bad {L : List Bk} {er : Int} (h : pErr bs = er) (he : er ≠ 0) : RefP bs (.tuple #[.agg (zc 0).toArray, .int .i64 er]) L
  | ok {L : List Bk} {x : UInt8} {r : List UInt8} {o : MsgD} (hbs : bs = x :: r) (hx : 1 ≤ x.toNat ∧ x.toNat ≤ 4) (hE : pErr bs = 0) (ho : SameC o (pI bs x.toNat).1) (hm : Small (pI bs x.toNat).1 → ∀ w, (∀ y ∈ L, y.holds w) → MsgV w o) (hl : o.data.length = o.dl) : RefP bs (.tuple #[.agg (msgCells o), .int .i64 0]) L
/-- How what was read stands to what the bytes say. -/
structure RefM (bs : List UInt8) (kd : Int) (C : List Value) (k : Nat) (e : Int) (bl : List Bk) : Prop where
  err : e = (pI bs kd).2.2
  ok : e = 0 → k = (pI bs kd).2.1 ∧ ∃ o, C = (msgCells o).toList ∧ SameC o (pI bs kd).1 ∧ (Small (pI bs kd).1 → ∀ w, (∀ y ∈ bl, y.holds w) → MsgV w o) ∧ o.data.length = o.dl
/-- One number behind the other. -/
def nK (bs : List UInt8) (p : Nat × Int) : Nat → Nat × Int
  | 0 => p
  | i + 1 => (n4 bs (nK bs p i)).2
def nF (bs : List UInt8) (p : Nat × Int) (i : Nat) : Int := (n4 bs (nK bs p i)).1
theorem nK_le {p : Nat × Int} (h : p.1 ≤ bs.length) : ∀ i, (nK bs p i).1 ≤ bs.length
  | 0 => h
  | i + 1 => rdNum_le (nK_le h i)
theorem nK_shift {p : Nat × Int} : ∀ i, nK bs p (i + 1) = nK bs (n4 bs p).2 i
  | 0 => rfl
  | i + 1 => by rw [nK, nK_shift i]; rfl
theorem nums_nK : ∀ (i : Nat) (p : Nat × Int), nums bs i p.1 p.2 = ((List.range i).map (nF bs p), nK bs p i)
  | 0, _ => rfl
  | i + 1, p => by
    have h := nums_nK i (n4 bs p).2
    rw [nums]
    simp only
    have e1 : n4X bs p.1 p.2 = n4 bs p := rfl
    rw [e1, h, List.range_succ_eq_map, List.map_cons, List.map_map, nK_shift]
    refine Prod.ext ?_ rfl
    simp only [List.cons.injEq]
    refine ⟨rfl, List.map_congr_left fun s _ => ?_⟩
    simp only [Function.comp, nF]
    rw [show Nat.succ s = s + 1 from rfl, nK_shift]
theorem rowS_le {k : Nat} {e : Int} (h : k ≤ bs.length) : (rowS bs k e).2.1 ≤ bs.length := stopX_le (fun h => rdNum_le h) (rdRaw_le h) _
theorem row_ints {v : Value} {zs : List Int} {B : List Bk} (h : Row 3 1 v zs.length (zs.map (Value.int .i64)) B) : ∃ a' cp, v = .slice a' zs.length cp ∧ (a' = none → zs.length = 0 ∧ cp = 0) ∧ ∀ w, (∀ y ∈ B, y.holds w) → IntsAt w a' zs := by
  generalize hm : zs.length = m at h
  generalize hz : zs.map (Value.int .i64) = cs at h
  cases h with
  | nil => exact ⟨none, 0, rfl, fun _ => ⟨rfl, rfl⟩, fun w _ => .inl (List.eq_nil_of_length_eq_zero hm)⟩
  | @some g n cap cs hn hc =>
    refine ⟨some ⟨g, 0, none⟩, cap, rfl, (fun h => by cases h), fun w hw => .inr ⟨g, 0, rfl, (hw _ (List.Mem.head _)).lt, fun j u hu => ?_⟩⟩
    rw [hz] at hu
    rw [Nat.zero_add]; exact (hw _ (List.Mem.head _)).cell hu
theorem Row.one {e kk n : Nat} {v : Value} {cs : List Value} {B : List Bk} (h : Row e kk v n cs B) : v.oneCell' = true := by
  cases h <;> rfl
theorem sub3 {x y z : Bk} {B : List Bk} : List.Sublist B (x :: y :: z :: B) := .cons _ (.cons _ (.cons _ (.refl _)))
def upd (h : Nat → Int) (i : Nat) (z : Int) (s : Nat) : Int := if s = i then z else h s
def upC (e t : Int) (b : Nat) (r : Int) (h : Nat → Int) (lv f : Int) (v : Value) : List Value := [.int .i64 2, .int .i64 e, .int .i64 t, .bool false, .int .u32 (b : Int), .int .i64 r, .int .i64 (h 0), .int .i64 (h 1), .int .i64 (h 2), .int .i64 (h 3), .int .i64 lv, .int .i64 f, v, .int .i64 0, .int .i64 0, .int .i64 0, .int .i64 0, .slice none 0 0, .int .i64 0, .int .i64 0, .int .i64 0, .int .i64 0, .slice none 0 0, .slice none 0 0, .slice none 0 0, .slice none 0 0, .int .i64 0, .int .i64 0, .int .i64 0, .slice none 0 0]
theorem upC_set {e t r lv f z : Int} {b : Nat} {h : Nat → Int} {v : Value} {i : Nat} (hi : i < 4) : (upC e t b r h lv f v).set (0 + 6 + i * 1) (.int .i64 z) = upC e t b r (upd h i z) lv f v := by
  obtain rfl | rfl | rfl | rfl : i = 0 ∨ i = 1 ∨ i = 2 ∨ i = 3 := by omega
  all_goals rfl
def hh (F : Nat → Int) (i : Nat) (s : Nat) : Int := if s < i then F s else 0
theorem hh_upd (F : Nat → Int) (i : Nat) : upd (hh F i) i (F i) = hh F (i + 1) := by
  funext s
  unfold upd hh
  by_cases h1 : s = i
  · subst h1; simp
  · by_cases h2 : s < i
    · simp [h1, h2, show s < i + 1 by omega]
    · simp [h1, h2, show ¬ s < i + 1 by omega]
theorem chkE {i : Nat} {t e : Int} : noted (inB (i : Int) 0 (t - 1)) (noted (inB t 1 16) e 9) 9 = if e = 0 ∧ ¬ (1 ≤ t ∧ t ≤ 16 ∧ (i : Int) < t) then 9 else e := by
  by_cases he : e = 0
  · subst he
    by_cases h1 : 1 ≤ t ∧ t ≤ 16
    · have e1 : inB t 1 16 = true := by simp [inB]; exact h1
      by_cases h2 : (i : Int) < t
      · have e2 : inB (i : Int) 0 (t - 1) = true := by simp [inB]; omega
        simp [e1, e2, noted, h1, h2]
      · have e2 : inB (i : Int) 0 (t - 1) = false := by simp [inB]; omega
        simp [e1, e2, noted, h2]
    · have e1 : inB t 1 16 = false := by simp [inB]; omega
      have h3 : ¬ (1 ≤ t ∧ t ≤ 16 ∧ (i : Int) < t) := fun h => h1 ⟨h.1, h.2.1⟩
      simp only [e1, noted, h3]
      simp
  · simp [noted, he]
abbrev byteX (bs : List UInt8) : Rd UInt8 := fun k e => (UInt8.ofNat (rdRaw bs 1 k e).1, (rdRaw bs 1 k e).2)
theorem stopB (k : Nat) (hk : k ≤ bs.length) : ∀ i, (k + i ≤ bs.length → stopX (byteX bs) i k 0 = ((bs.drop k).take i, k + i, 0)) ∧ (¬ (k + i ≤ bs.length) → (stopX (byteX bs) i k 0).2.2 = 7)
  | 0 => ⟨fun _ => by simp [stopX], fun h => absurd hk h⟩
  | i + 1 => by
    obtain ⟨h1, h2⟩ := stopB k hk i
    refine ⟨fun h => ?_, fun h => ?_⟩
    · obtain ⟨x, hx⟩ : ∃ x, bs[k + i]? = some x := ⟨bs[k + i]'(by omega), by simp⟩
      simp only [stopX, h1 (by omega), if_true, byteX, rdRaw_one hx]
      rw [List.take_add_one, List.getElem?_drop, hx]
      simp [Nat.add_assoc]
    · by_cases h3 : k + i ≤ bs.length
      · simp only [stopX, h1 h3, if_true, byteX]
        have : ¬ (k + i + 1 ≤ bs.length) := by omega
        simp [rdRaw, this]
      · have := h2 h3
        simp only [stopX, this]
        simp [this]
theorem dataS (k : Nat) (hk : k ≤ bs.length) (e z : Int) : (stopX (byteX bs) z.toNat k e).2.2 = (dataX bs z k e).2.2 ∧ ((dataX bs z k e).2.2 = 0 → stopX (byteX bs) z.toNat k e = dataX bs z k e) := by
  unfold dataX
  by_cases he : e = 0
  · subst he
    rw [if_pos rfl]
    obtain ⟨h1, h2⟩ := stopB (bs := bs) k hk z.toNat
    unfold rdBytes
    by_cases h3 : k + z.toNat ≤ bs.length
    · rw [h1 h3]
      simp [h3]
    · simp only [if_true, h3, if_false]
      exact ⟨h2 h3, fun h => by simp at h⟩
  · rw [if_neg he, stopX_bad he]
    exact ⟨rfl, fun _ => rfl⟩
theorem dataS_le {k : Nat} (hk : k ≤ bs.length) {e : Int} (i : Nat) : (stopX (byteX bs) i k e).2.1 ≤ bs.length := stopX_le (X := byteX bs) (fun {k e} h => rdRaw_le (m := 1) (k := k) (e := e) h) hk i
abbrev chC (e t bs ix tt : Int) (v : Value) : List Value := [.int .i64 4, .int .i64 e, .int .i64 t, .bool false, .int .u32 0, .int .i64 0, .int .i64 0, .int .i64 0, .int .i64 0, .int .i64 0, .int .i64 0, .int .i64 0, .slice none 0 0, .int .i64 0, .int .i64 0, .int .i64 bs, .int .i64 0, .slice none 0 0, .int .i64 0, .int .i64 0, .int .i64 0, .int .i64 0, .slice none 0 0, .slice none 0 0, .slice none 0 0, .slice none 0 0, .int .i64 0, .int .i64 ix, .int .i64 tt, v]
theorem row_bytes {v : Value} {xs : List UInt8} {B : List Bk} (h : Row 5 1 v xs.length (xs.map bv) B) : ∃ a' cp, v = .slice a' xs.length cp ∧ (a' = none → cp = 0) ∧ ∀ w, (∀ y ∈ B, y.holds w) → BytesAt w a' xs.length xs := by
  generalize hm : xs.length = m at h
  generalize hz : xs.map bv = cs at h
  cases h with
  | nil => exact ⟨none, 0, rfl, fun _ => rfl, fun w _ => ⟨hm, .inl (List.eq_nil_of_length_eq_zero hm)⟩⟩
  | @some g n cap cs hn hc =>
    refine ⟨some ⟨g, 0, none⟩, cap, rfl, (fun h => by cases h), fun w hw => ⟨hm, .inr ⟨g, 0, rfl, (hw _ (List.Mem.head _)).lt, fun j u hu => ?_⟩⟩⟩
    rw [hz] at hu
    rw [Nat.zero_add]; exact (hw _ (List.Mem.head _)).cell hu
abbrev dnC (e t st se ba fr : Int) (str : Value) (F : Nat → Int) (us : Nat → Value) (ack : Int) : List Value := [.int .i64 3, .int .i64 e, .int .i64 t, .bool false, .int .u32 0, .int .i64 0, .int .i64 0, .int .i64 0, .int .i64 0, .int .i64 0, .int .i64 0, .int .i64 0, .slice none 0 0, .int .i64 st, .int .i64 se, .int .i64 ba, .int .i64 fr, str, .int .i64 (F 0), .int .i64 (F 1), .int .i64 (F 2), .int .i64 (F 3), us 0, us 1, us 2, us 3, .int .i64 ack, .int .i64 0, .int .i64 0, .slice none 0 0]
def rst (bs : List UInt8) : Rd (List Rec) := fun k e =>
  stopX (recX bs) ((rdRaw bs 1 k e).1 * 256 + (rdRaw bs 1 (rdRaw bs 1 k e).2.1 (rdRaw bs 1 k e).2.2).1) (rdRaw bs 1 (rdRaw bs 1 k e).2.1 (rdRaw bs 1 k e).2.2).2.1
    (if (rdRaw bs 1 (rdRaw bs 1 k e).2.1 (rdRaw bs 1 k e).2.2).2.2 = 0 ∧ (rdRaw bs 1 k e).1 * 256 + (rdRaw bs 1 (rdRaw bs 1 k e).2.1 (rdRaw bs 1 k e).2.2).1 > 400 then 9 else (rdRaw bs 1 (rdRaw bs 1 k e).2.1 (rdRaw bs 1 k e).2.2).2.2)
theorem rst_X {k : Nat} {e : Int} : (rst bs k e).2.2 = (streamX bs k e).2.2 ∧ ((streamX bs k e).2.2 = 0 → rst bs k e = streamX bs k e) := by
  unfold rst streamX
  by_cases he : e = 0
  · subst he
    by_cases h1 : k + 1 ≤ bs.length
    · obtain ⟨x, hx⟩ : ∃ x, bs[k]? = some x := ⟨bs[k]'(by omega), by simp⟩
      rw [rdRaw_one hx]
      simp only
      by_cases h2 : k + 2 ≤ bs.length
      · obtain ⟨y, hy⟩ : ∃ y, bs[k + 1]? = some y := ⟨bs[k + 1]'(by omega), by simp⟩
        rw [rdRaw_one hy]
        simp only
        have hxt := x.toNat_lt
        have hyt := y.toNat_lt
        have hN : num bs 2 0 400 k 0 = (((x.toNat * 256 + y.toNat : Nat) : Int), k + 2, noted (inB ((x.toNat * 256 + y.toNat : Nat) : Int) 0 400) 0 9) := by
          have ht : (bs.drop k).take 2 = [x, y] := by
            rw [List.take_add_one, List.take_add_one, List.getElem?_drop, List.getElem?_drop, hy]
            simp [hx]
          simp only [num, rdNum, rdRaw, if_true, h2, ht]
          simp [beval]
        rw [hN]
        simp only [Int.toNat_natCast, true_and]
        by_cases h4 : x.toNat * 256 + y.toNat > 400
        · have hb : inB ((x.toNat * 256 + y.toNat : Nat) : Int) 0 400 = false := by simp [inB]; omega
          have hn : noted (inB ((x.toNat * 256 + y.toNat : Nat) : Int) 0 400) 0 9 = 9 := by simp only [hb]; rfl
          rw [if_pos h4, stopX_bad (by decide), hn]
          simp only
          rw [if_neg (by decide)]
          exact ⟨rfl, fun h => absurd h (by simp)⟩
        · have hb : inB ((x.toNat * 256 + y.toNat : Nat) : Int) 0 400 = true := by simp [inB]; omega
          have hn : noted (inB ((x.toNat * 256 + y.toNat : Nat) : Int) 0 400) 0 9 = 0 := by simp only [hb]; rfl
          rw [if_neg h4, hn]
          simp only
          rw [if_pos trivial, recsX_stop]
          exact ⟨rfl, fun _ => rfl⟩
      · have hR : rdRaw bs 1 (k + 1) 0 = (0, k + 1, 7) := by
          have : ¬ (k + 1 + 1 ≤ bs.length) := by omega
          simp [rdRaw, this]
        have hN : num bs 2 0 400 k 0 = (0, k, 7) := by simp [num, rdNum, rdRaw, h2, noted]
        rw [hR, hN]
        simp only
        rw [if_neg (by omega), stopX_bad (by decide)]
        exact ⟨rfl, fun h => by simp at h⟩
    · have hR : rdRaw bs 1 k 0 = (0, k, 7) := by simp [rdRaw, h1]
      have hR2 : rdRaw bs 1 k 7 = (0, k, 7) := by simp [rdRaw]
      have hN : num bs 2 0 400 k 0 = (0, k, 7) := by
        have : ¬ (k + 2 ≤ bs.length) := by omega
        simp [num, rdNum, rdRaw, this, noted]
      rw [hR, hN]
      simp only [hR2]
      rw [if_neg (by omega), stopX_bad (by decide)]
      exact ⟨rfl, fun h => by simp at h⟩
  · have hR : rdRaw bs 1 k e = (0, k, e) := by simp [rdRaw, he]
    have hN : num bs 2 0 400 k e = (0, k, e) := by simp [num, rdNum, rdRaw, he, noted]
    rw [hR, hN]
    simp only [hR]
    rw [if_neg (by omega), stopX_bad he, if_neg he]
    exact ⟨rfl, fun _ => rfl⟩
theorem recX_le {k : Nat} {e : Int} (h : k ≤ bs.length) : (recX bs k e).2.1 ≤ bs.length := by
  unfold recX Rd.pair
  simp only [num, n4X]
  split
  · exact rdNum_le (rdNum_le h)
  · split
    · exact rdNum_le (rdNum_le (rdNum_le (rdNum_le h)))
    · split
      · exact rdNum_le (rdNum_le (rdNum_le h))
      · exact rdNum_le h
theorem seatK_bad {p : Nat × Int} (h : p.2 ≠ 0) : ∀ i, seatK bs p i = p
  | 0 => rfl
  | i + 1 => by
    rw [seatK, seatK_bad h i]
    have h1 : (n4 bs p).2 = p := num_stay h
    have h2 : rdRow bs p.1 p.2 = (none, p) := by
      unfold rdRow
      have : (rdNum bs 1 0 255 p.1 p.2).2 = p := num_stay h
      simp only [this, h, if_false]
    rw [h1, h2]
theorem seatK_S {p : Nat × Int} {i : Nat} : seatK bs p (i + 1) = (rowS bs (n4 bs (seatK bs p i)).2.1 (n4 bs (seatK bs p i)).2.2).2 := by
  rw [seatK, rdRow_X.1, rowS_X.1]
theorem seatK_le {p : Nat × Int} (h : p.1 ≤ bs.length) : ∀ i, (seatK bs p i).1 ≤ bs.length
  | 0 => h
  | i + 1 => by rw [seatK_S]; exact rowS_le (rdNum_le (seatK_le h i))
theorem seatsX_K {k : Nat} {e : Int} : seatsX bs k e = (((seatX bs (seatK bs (k, e) 0).1 (seatK bs (k, e) 0).2).1, (seatX bs (seatK bs (k, e) 1).1 (seatK bs (k, e) 1).2).1, (seatX bs (seatK bs (k, e) 2).1 (seatK bs (k, e) 2).2).1, (seatX bs (seatK bs (k, e) 3).1 (seatK bs (k, e) 3).2).1), seatK bs (k, e) 4) := by
  unfold seatsX Rd.pair
  simp only [seatK_X]
  rfl
theorem rst_le {k : Nat} {e : Int} (h : k ≤ bs.length) : (rst bs k e).2.1 ≤ bs.length := stopX_le (X := recX bs) (fun {k e} h => recX_le (k := k) (e := e) h) (rdRaw_le (rdRaw_le h)) _
abbrev sF (bs : List UInt8) (p : Nat × Int) (s : Nat) : Int := (n4 bs (seatK bs p s)).1
abbrev sZ (bs : List UInt8) (p : Nat × Int) (s : Nat) : List Int := (rowS bs (n4 bs (seatK bs p s)).2.1 (n4 bs (seatK bs p s)).2.2).1
theorem rowS_seat {p : Nat × Int} {i : Nat} (h : (seatK bs p 4).2 = 0) (hi : i < 4) : (seatX bs (seatK bs p i).1 (seatK bs p i).2).1 = (sF bs p i, sZ bs p i) := by
  have h1 : (seatK bs p (i + 1)).2 = 0 := by
    rcases Int.decEq (seatK bs p (i + 1)).2 0 with h2 | h2
    · have := seatK_stick h2 (4 - (i + 1))
      rw [show i + 1 + (4 - (i + 1)) = 4 by omega] at this
      exact absurd h this
    · exact h2
  rw [seatK_X] at h1
  exact Prod.ext rfl (rowS_X.2 h1).symm
def RowIn (v : Value) (zs : List Int) (bl : List Bk) : Prop := ∃ B, Row 3 1 v zs.length (zs.map (Value.int .i64)) B ∧ ∀ y ∈ B, y ∈ bl
theorem RowIn.mono {v : Value} {zs : List Int} {bl bl' : List Bk} (h : RowIn v zs bl) (hs : ∀ y ∈ bl, y ∈ bl') : RowIn v zs bl' := by
  obtain ⟨B, h1, h2⟩ := h
  exact ⟨B, h1, fun y hy => hs y (h2 y hy)⟩
theorem RowIn.ints {v : Value} {zs : List Int} {bl : List Bk} (h : RowIn v zs bl) : ∃ a' cp, v = .slice a' zs.length cp ∧ (a' = none → zs.length = 0 ∧ cp = 0) ∧ ∀ w, (∀ y ∈ bl, y.holds w) → IntsAt w a' zs := by
  obtain ⟨B, h1, h2⟩ := h
  obtain ⟨a', cp, h3, h4, h5⟩ := row_ints h1
  exact ⟨a', cp, h3, h4, fun w hw => h5 w fun y hy => hw y (h2 y hy)⟩
theorem row_recs {v : Value} {rs : List Rec} {B : List Bk} (h : Row 37 5 v rs.length (rcells rs) B) : ∃ a' cp, v = .slice a' rs.length cp ∧ (a' = none → rs.length = 0 ∧ cp = 0) ∧ ∀ w, (∀ y ∈ B, y.holds w) → RecsAt w a' rs := by
  generalize hm : rs.length = m at h
  generalize hz : rcells rs = cs at h
  cases h with
  | nil => exact ⟨none, 0, rfl, fun _ => ⟨rfl, rfl⟩, fun w _ => .inl (List.eq_nil_of_length_eq_zero hm)⟩
  | @some g n cap cs hn hc =>
    refine ⟨some ⟨g, 0, none⟩, cap, rfl, (fun h => by cases h), fun w hw => .inr ⟨g, 0, rfl, (hw _ (List.Mem.head _)).lt, fun j u hu => ?_⟩⟩
    rw [hz] at hu
    rw [Nat.zero_add]; exact (hw _ (List.Mem.head _)).cell hu
def updV (us : Nat → Value) (i : Nat) (v : Value) (s : Nat) : Value := if s = i then v else us s
theorem dn_set1 {e t st se ba fr ack z : Int} {str : Value} {F : Nat → Int} {us : Nat → Value} {i : Nat} (hi : i < 4) : (dnC e t st se ba fr str F us ack).set (0 + 18 + i * 1) (.int .i64 z) = dnC e t st se ba fr str (upd F i z) us ack := by
  obtain rfl | rfl | rfl | rfl : i = 0 ∨ i = 1 ∨ i = 2 ∨ i = 3 := by omega
  all_goals rfl
theorem dn_set2 {e t st se ba fr ack : Int} {str v : Value} {F : Nat → Int} {us : Nat → Value} {i : Nat} (hi : i < 4) : (dnC e t st se ba fr str F us ack).set (0 + 22 + i * 1) v = dnC e t st se ba fr str F (updV us i v) ack := by
  obtain rfl | rfl | rfl | rfl : i = 0 ∨ i = 1 ∨ i = 2 ∨ i = 3 := by omega
  all_goals rfl
set_option maxRecDepth 100000 in
set_option maxHeartbeats 6400000 in
theorem refparse_d (hs : Src W [] a n c bs) : Does Try.prog 15 [.slice a n c] W [] (RefP bs) := by
  have hlen := hs.len
  have hcap := hs.cap
  have hbig := hs.big
  refine enter Try.func15 rfl rfl rfl (Has.start _) ?_
  refine c_seq ?_
  -- ref.go:223
  refine c_reg ?_
  refine s_n (N_alloc (z := .agg #[.int .i64 0, .int .i64 0, .int .i64 0, .bool false, .int .u32 0, .int .i64 0, .int .i64 0, .int .i64 0, .int .i64 0, .int .i64 0, .int .i64 0, .int .i64 0, .slice none 0 0, .int .i64 0, .int .i64 0, .int .i64 0, .int .i64 0, .slice none 0 0, .int .i64 0, .int .i64 0, .int .i64 0, .int .i64 0, .slice none 0 0, .slice none 0 0, .slice none 0 0, .slice none 0 0, .int .i64 0, .int .i64 0, .int .i64 0, .slice none 0 0]) (cs := [.int .i64 0, .int .i64 0, .int .i64 0, .bool false, .int .u32 0, .int .i64 0, .int .i64 0, .int .i64 0, .int .i64 0, .int .i64 0, .int .i64 0, .int .i64 0, .slice none 0 0, .int .i64 0, .int .i64 0, .int .i64 0, .int .i64 0, .slice none 0 0, .int .i64 0, .int .i64 0, .int .i64 0, .int .i64 0, .slice none 0 0, .slice none 0 0, .slice none 0 0, .slice none 0 0, .int .i64 0, .int .i64 0, .int .i64 0, .slice none 0 0]) zv42 rfl) rfl rfl (fun b2 _ => ?_)
  refine s_y (Y_asC) rfl rfl ?_
  refine s_nil ?_
  refine q_then ?_
  refine c_seq ?_
  -- ref.go:224
  refine c_reg ?_
  refine s_y (Y_mv) rfl rfl ?_
  refine s_y (Y_build (cs := [.slice a n c, .int .i64 0, .int .i64 0]) (by repeat (first | exact Gp.nil | apply Gp.const | apply Gp.tmp (by repeat (first | exact Gt.here | apply Gt.there (by rfl) | exact Gt.base (by rfl))))) (bld72 _ _ (by first | rfl | (simp; rfl)))) rfl rfl ?_
  refine s_n (N_box rfl) rfl rfl (fun b14 _ => ?_)
  refine s_y (Y_as) rfl rfl ?_
  refine s_nil ?_
  refine q_then ?_
  refine c_seq ?_
  -- ref.go:225
  refine c_reg ?_
  refine s_y (Y_mv) rfl rfl ?_
  refine s_cm [ib b14 a n c 0 0] (En_call (fun _ => rfl) Try.func27 rfl (by kernel_rfl) rfl) (by repeat (first | exact Sels.nil | apply Sels.cons (by repeat (first | exact Sel.head | apply Sel.tail)))) (fun w hH => byte_d (k := 0) (e := 0) (hH.at' (by repeat (first | exact List.Mem.head _ | assumption | apply List.Mem.tail | apply List.mem_append_right))) (hs.call (xs := [ib b14 a n c 0 0]) hH (by simp)) (by omega)) rfl rfl ?_
  rintro _ _ ⟨rfl, rfl⟩
  have hle := rdRaw_le (bs := bs) (m := 1) (k := 0) (e := 0) (by omega)
  by_cases hn0 : bs = []
  · have hR : rdRaw bs 1 0 0 = (0, 0, 7) := by rw [hn0]; rfl
    rw [hR]
    have hP : pErr bs = 7 := by rw [hn0]; rfl
    have hst : ∀ m f t, (rdNum bs m f t 0 7).2 = (0, 7) := fun m f t => num_stay (by decide)
    refine s_y (Y_build (cs := zc 0) (by repeat (first | exact Gp.nil | apply Gp.const | apply Gp.tmp (by repeat (first | exact Gt.here | apply Gt.there (by rfl) | exact Gt.base (by rfl))))) (bld42 _ _ (by first | rfl | (simp; rfl)))) rfl rfl ?_
    refine s_n (N_alloc (z := .agg #[.int .i64 0, .int .i64 0, .int .i64 0, .bool false, .int .u32 0, .int .i64 0, .int .i64 0, .int .i64 0, .int .i64 0, .int .i64 0, .int .i64 0, .int .i64 0, .slice none 0 0, .int .i64 0, .int .i64 0, .int .i64 0, .int .i64 0, .slice none 0 0, .int .i64 0, .int .i64 0, .int .i64 0, .int .i64 0, .slice none 0 0, .slice none 0 0, .slice none 0 0, .slice none 0 0, .int .i64 0, .int .i64 0, .int .i64 0, .slice none 0 0]) (cs := [.int .i64 0, .int .i64 0, .int .i64 0, .bool false, .int .u32 0, .int .i64 0, .int .i64 0, .int .i64 0, .int .i64 0, .int .i64 0, .int .i64 0, .int .i64 0, .slice none 0 0, .int .i64 0, .int .i64 0, .int .i64 0, .int .i64 0, .slice none 0 0, .int .i64 0, .int .i64 0, .int .i64 0, .int .i64 0, .slice none 0 0, .slice none 0 0, .slice none 0 0, .slice none 0 0, .int .i64 0, .int .i64 0, .int .i64 0, .slice none 0 0]) zv42 rfl) rfl rfl (fun b5 _ => ?_)
    refine s_s ((by first | exact S_storeA rfl rfl sz42 (by first | rfl | assumption) (by first | rfl | assumption) (by repeat (first | exact Upd.head | apply Upd.tail)) (by first | rfl | assumption) | exact S_storeN rfl rfl sz42 (by rfl) (by first | rfl | assumption) (by repeat (first | exact Upd.head | apply Upd.tail)) (by simp only [setAll, List.set_cons_zero, List.set_cons_succ, Nat.zero_add, Nat.reduceAdd]; rfl) (by first | rfl | assumption))) rfl ?_
    refine s_nil ?_
    refine q_then ?_
    refine c_seq ?_
    refine c_seq ?_
    refine c_reg ?_
    refine s_y (Y_mv) rfl rfl ?_
    refine s_y ((by first | exact Y_nil rfl | exact Y_nilF rfl | exact Y_nilM rfl (by assumption) | exact Y_nilM rfl (by intro w k; kernel_rfl))) rfl rfl ?_
    refine s_y (Y_fa 2 rfl Try.underlying72 rfl sz3 rfl) rfl rfl ?_
    refine s_y ((by first | exact Y_load rfl one3 (by repeat (first | exact List.Mem.head _ | assumption | apply List.Mem.tail | apply List.mem_append_right)) (by rfl) | exact Y_load rfl one3 (by repeat (first | exact List.Mem.head _ | assumption | apply List.Mem.tail | apply List.mem_append_right)) (by assumption) | exact Y_loadR rfl one3 (by assumption) rfl (by assumption))) rfl rfl ?_
    refine s_y (Y_eql rfl rfl) rfl rfl ?_
    refine s_y (Y_mv) rfl rfl ?_
    refine s_known (d := 23) (u := false) rfl rfl ?_
    first | refine s_y (Y_fa 0 rfl Try.underlying42 rfl sz3 rfl) rfl rfl ?_ | refine s_pass rfl rfl ?_
    first | refine s_y ((by first | exact Y_load rfl one3 (by repeat (first | exact List.Mem.head _ | assumption | apply List.Mem.tail | apply List.mem_append_right)) (by rfl) | exact Y_load rfl one3 (by repeat (first | exact List.Mem.head _ | assumption | apply List.Mem.tail | apply List.mem_append_right)) (by assumption) | exact Y_loadR rfl one3 (by assumption) rfl (by assumption))) rfl rfl ?_ | refine s_pass rfl rfl ?_
    first | refine s_y (Y_lss rfl rfl) rfl rfl ?_ | refine s_pass rfl rfl ?_
    first | refine s_y (Y_mv) rfl rfl ?_ | refine s_pass rfl rfl ?_
    first | refine s_y (Y_fa 0 rfl Try.underlying42 rfl sz3 rfl) rfl rfl ?_ | refine s_pass rfl rfl ?_
    first | refine s_y ((by first | exact Y_load rfl one3 (by repeat (first | exact List.Mem.head _ | assumption | apply List.Mem.tail | apply List.mem_append_right)) (by rfl) | exact Y_load rfl one3 (by repeat (first | exact List.Mem.head _ | assumption | apply List.Mem.tail | apply List.mem_append_right)) (by assumption) | exact Y_loadR rfl one3 (by assumption) rfl (by assumption))) rfl rfl ?_ | refine s_pass rfl rfl ?_
    first | refine s_y (Y_gtr rfl rfl) rfl rfl ?_ | refine s_pass rfl rfl ?_
    first | refine s_y (Y_pk rfl Gx.const (Gx.tmp (by repeat (first | exact Gt.here | apply Gt.there (by rfl) | exact Gt.base (by rfl))))) rfl rfl ?_ | refine s_pass rfl rfl ?_
    refine s_y (Y_pk rfl (Gx.tmp (by repeat (first | exact Gt.here | apply Gt.there (by rfl) | exact Gt.base (by rfl)))) Gx.const) rfl rfl ?_
    refine s_nil ?_
    refine q_then ?_
    refine c_F rfl rfl ?_
    refine c_skip ?_
    refine q_then ?_
    refine c_seq ?_
    refine c_seq ?_
    refine c_reg ?_
    refine s_y (Y_fa 0 rfl Try.underlying42 rfl sz3 rfl) rfl rfl ?_
    refine s_y ((by first | exact Y_load rfl one3 (by repeat (first | exact List.Mem.head _ | assumption | apply List.Mem.tail | apply List.mem_append_right)) (by rfl) | exact Y_load rfl one3 (by repeat (first | exact List.Mem.head _ | assumption | apply List.Mem.tail | apply List.mem_append_right)) (by assumption) | exact Y_loadR rfl one3 (by assumption) rfl (by assumption))) rfl rfl ?_
    refine s_y (Y_neq rfl rfl) rfl rfl ?_
    refine s_nil ?_
    refine q_then ?_
    refine c_T rfl rfl ?_
    refine c_reg ?_
    refine s_y (Y_mv) rfl rfl ?_
    refine s_cm [ib b14 a n c 0 7] (En_call (fun _ => rfl) Try.func28 rfl (by kernel_rfl) rfl) (by repeat (first | exact Sels.nil | apply Sels.cons (by repeat (first | exact Sel.head | apply Sel.tail)))) (fun w hH => innum_d (k := 0) (e := 7) (hH.at' (by repeat (first | exact List.Mem.head _ | assumption | apply List.Mem.tail | apply List.mem_append_right))) (hs.call (xs := [ib b14 a n c 0 7]) hH (by simp)) (by omega)) rfl rfl ?_
    rintro _ _ ⟨rfl, rfl⟩
    rw [hst]
    refine s_y (Y_fa 1 rfl Try.underlying42 rfl sz3 rfl) rfl rfl ?_
    refine s_s (S_st rfl (by repeat (first | exact Gt.here | apply Gt.there (by rfl) | exact Gt.base (by rfl))) sz3 (by rfl) (by repeat (first | exact Upd.head | apply Upd.tail)) (by first | (simp only [Nat.zero_add, Nat.reduceAdd, List.set_cons_succ, List.set_cons_zero]; rfl) | rfl) (by first | (simp; done) | omega)) rfl ?_
    refine s_nil ?_
    refine q_then ?_
    refine c_seq ?_
    refine c_reg ?_
    refine s_y (Y_mv) rfl rfl ?_
    refine s_cm [ib b14 a n c 0 7] (En_call (fun _ => rfl) Try.func28 rfl (by kernel_rfl) rfl) (by repeat (first | exact Sels.nil | apply Sels.cons (by repeat (first | exact Sel.head | apply Sel.tail)))) (fun w hH => innum_d (k := 0) (e := 7) (hH.at' (by repeat (first | exact List.Mem.head _ | assumption | apply List.Mem.tail | apply List.mem_append_right))) (hs.call (xs := [ib b14 a n c 0 7]) hH (by simp)) (by omega)) rfl rfl ?_
    rintro _ _ ⟨rfl, rfl⟩
    rw [hst]
    refine s_y (Y_fa 2 rfl Try.underlying42 rfl sz3 rfl) rfl rfl ?_
    refine s_s (S_st rfl (by repeat (first | exact Gt.here | apply Gt.there (by rfl) | exact Gt.base (by rfl))) sz3 (by rfl) (by repeat (first | exact Upd.head | apply Upd.tail)) (by first | (simp only [Nat.zero_add, Nat.reduceAdd, List.set_cons_succ, List.set_cons_zero]; rfl) | rfl) (by first | (simp; done) | omega)) rfl ?_
    refine s_nil ?_
    refine q_then ?_
    refine c_seq ?_
    refine c_seq ?_
    refine c_reg ?_
    refine s_y (Y_fa 0 rfl Try.underlying42 rfl sz3 rfl) rfl rfl ?_
    refine s_y ((by first | exact Y_load rfl one3 (by repeat (first | exact List.Mem.head _ | assumption | apply List.Mem.tail | apply List.mem_append_right)) (by rfl) | exact Y_load rfl one3 (by repeat (first | exact List.Mem.head _ | assumption | apply List.Mem.tail | apply List.mem_append_right)) (by assumption) | exact Y_loadR rfl one3 (by assumption) rfl (by assumption))) rfl rfl ?_
    refine s_nil ?_
    refine q_then ?_
    refine c_block ?_
    refine c_seq ?_
    refine c_reg ?_
    refine s_y (Y_eql rfl rfl) rfl rfl ?_
    refine s_y (Y_as) rfl rfl ?_
    refine s_nil ?_
    refine q_then ?_
    refine c_F rfl rfl ?_
    refine c_seq ?_
    refine c_reg ?_
    refine s_y (Y_eql rfl rfl) rfl rfl ?_
    refine s_y (Y_as) rfl rfl ?_
    refine s_nil ?_
    refine q_then ?_
    refine c_F rfl rfl ?_
    refine c_seq ?_
    refine c_reg ?_
    refine s_y (Y_eql rfl rfl) rfl rfl ?_
    refine s_y (Y_as) rfl rfl ?_
    refine s_nil ?_
    refine q_then ?_
    refine c_F rfl rfl ?_
    refine c_seq ?_
    refine c_reg ?_
    refine s_y (Y_eql rfl rfl) rfl rfl ?_
    refine s_y (Y_as) rfl rfl ?_
    refine s_nil ?_
    refine q_then ?_
    refine c_F rfl rfl ?_
    refine c_skip ?_
    refine q_bn ?_
    refine q_then ?_
    refine c_seq ?_
    refine c_seq ?_
    refine c_reg ?_
    refine s_y (Y_mv) rfl rfl ?_
    refine s_y ((by first | exact Y_nil rfl | exact Y_nilF rfl | exact Y_nilM rfl (by assumption) | exact Y_nilM rfl (by intro w k; kernel_rfl))) rfl rfl ?_
    refine s_y (Y_fa 2 rfl Try.underlying72 rfl sz3 rfl) rfl rfl ?_
    refine s_y ((by first | exact Y_load rfl one3 (by repeat (first | exact List.Mem.head _ | assumption | apply List.Mem.tail | apply List.mem_append_right)) (by rfl) | exact Y_load rfl one3 (by repeat (first | exact List.Mem.head _ | assumption | apply List.Mem.tail | apply List.mem_append_right)) (by assumption) | exact Y_loadR rfl one3 (by assumption) rfl (by assumption))) rfl rfl ?_
    refine s_y (Y_neq rfl rfl) rfl rfl ?_
    refine s_nil ?_
    refine q_then ?_
    refine c_T rfl rfl ?_
    refine c_seq ?_
    refine c_rord [] [(0, true), (1, true), (2, true), (3, true), (4, true), (5, false), (6, true)] (by kernel_rfl) (by kernel_rfl) (by kernel_rfl) (by kernel_rfl) rfl (by intro c a d v w h; cases d <;> exact h) rfl ?_
    simp only [mkOrd, List.filterMap_cons, List.filterMap_nil, List.getElem?_toArray, List.getElem?_cons_zero, List.getElem?_cons_succ, Option.map_some]
    refine o_y (Y_build (cs := [.int .i64 0, .int .i64 0, .int .i64 0, .bool false, .int .u32 0, .int .i64 0, .int .i64 0, .int .i64 0, .int .i64 0, .int .i64 0, .int .i64 0, .int .i64 0, .slice none 0 0, .int .i64 0, .int .i64 0, .int .i64 0, .int .i64 0, .slice none 0 0, .int .i64 0, .int .i64 0, .int .i64 0, .int .i64 0, .slice none 0 0, .slice none 0 0, .slice none 0 0, .slice none 0 0, .int .i64 0, .int .i64 0, .int .i64 0, .slice none 0 0]) (by repeat (first | exact Gp.nil | apply Gp.const | apply Gp.tmp (by repeat (first | exact Gt.here | apply Gt.there (by rfl) | exact Gt.base (by rfl))))) (bld42 _ _ (by first | rfl | (simp; rfl)))) rfl rfl ?_
    refine o_y (Y_mv) rfl rfl ?_
    refine o_y ((by first | exact Y_nil rfl | exact Y_nilF rfl | exact Y_nilM rfl (by assumption) | exact Y_nilM rfl (by intro w k; kernel_rfl))) rfl rfl ?_
    refine o_y (Y_fa 2 rfl Try.underlying72 rfl sz3 rfl) rfl rfl ?_
    refine o_y ((by first | exact Y_load rfl one3 (by repeat (first | exact List.Mem.head _ | assumption | apply List.Mem.tail | apply List.mem_append_right)) (by rfl) | exact Y_load rfl one3 (by repeat (first | exact List.Mem.head _ | assumption | apply List.Mem.tail | apply List.mem_append_right)) (by assumption) | exact Y_loadR rfl one3 (by assumption) rfl (by assumption))) rfl rfl ?_
    refine o_s ((by first | exact S_storeA rfl rfl sz42 (by first | rfl | assumption) (by first | rfl | assumption) (by repeat (first | exact Upd.head | apply Upd.tail)) (by first | rfl | assumption) | exact S_storeN rfl rfl sz42 (by rfl) (by first | rfl | assumption) (by repeat (first | exact Upd.head | apply Upd.tail)) (by simp only [setAll, List.set_cons_zero, List.set_cons_succ, Nat.zero_add, Nat.reduceAdd]; rfl) (by first | rfl | assumption))) (by first | exact keep_no rfl | exact keep_sub (by repeat (first | exact List.Sublist.refl _ | exact List.nil_sublist _ | apply List.Sublist.cons_cons | apply List.Sublist.cons))) rfl ?_
    refine o_y (Y_as) rfl rfl ?_
    refine o_nil ?_
    refine q_then ?_
    refine c_ret ?_
    refine q_ret2c rfl rfl many42 rfl (by repeat (first | exact List.Mem.head _ | assumption | apply List.Mem.tail | apply List.mem_append_right)) rfl (L' := []) (List.nil_sublist _) (.bad hP (by decide))
  · obtain ⟨x, r, hbs⟩ : ∃ x r, bs = x :: r := by
      cases bs with
      | nil => exact absurd rfl hn0
      | cons x r => exact ⟨x, r, rfl⟩
    have hR : rdRaw bs 1 0 0 = (x.toNat, 1, 0) := rdRaw_one (by rw [hbs]; rfl)
    rw [hR]
    have hxt := x.toNat_lt
    have hn1 : 1 ≤ bs.length := by rw [hbs]; simp
    refine s_y (Y_build (cs := zc x.toNat) (by repeat (first | exact Gp.nil | apply Gp.const | apply Gp.tmp (by repeat (first | exact Gt.here | apply Gt.there (by rfl) | exact Gt.base (by rfl))))) (bld42 _ _ (by first | rfl | (simp; rfl)))) rfl rfl ?_
    refine s_n (N_alloc (z := .agg #[.int .i64 0, .int .i64 0, .int .i64 0, .bool false, .int .u32 0, .int .i64 0, .int .i64 0, .int .i64 0, .int .i64 0, .int .i64 0, .int .i64 0, .int .i64 0, .slice none 0 0, .int .i64 0, .int .i64 0, .int .i64 0, .int .i64 0, .slice none 0 0, .int .i64 0, .int .i64 0, .int .i64 0, .int .i64 0, .slice none 0 0, .slice none 0 0, .slice none 0 0, .slice none 0 0, .int .i64 0, .int .i64 0, .int .i64 0, .slice none 0 0]) (cs := [.int .i64 0, .int .i64 0, .int .i64 0, .bool false, .int .u32 0, .int .i64 0, .int .i64 0, .int .i64 0, .int .i64 0, .int .i64 0, .int .i64 0, .int .i64 0, .slice none 0 0, .int .i64 0, .int .i64 0, .int .i64 0, .int .i64 0, .slice none 0 0, .int .i64 0, .int .i64 0, .int .i64 0, .int .i64 0, .slice none 0 0, .slice none 0 0, .slice none 0 0, .slice none 0 0, .int .i64 0, .int .i64 0, .int .i64 0, .slice none 0 0]) zv42 rfl) rfl rfl (fun b5 _ => ?_)
    refine s_s ((by first | exact S_storeA rfl rfl sz42 (by first | rfl | assumption) (by first | rfl | assumption) (by repeat (first | exact Upd.head | apply Upd.tail)) (by first | rfl | assumption) | exact S_storeN rfl rfl sz42 (by rfl) (by first | rfl | assumption) (by repeat (first | exact Upd.head | apply Upd.tail)) (by simp only [setAll, List.set_cons_zero, List.set_cons_succ, Nat.zero_add, Nat.reduceAdd]; rfl) (by first | rfl | assumption))) rfl ?_
    refine s_nil ?_
    refine q_then ?_
    refine c_seq ?_
    refine c_seq ?_
    -- ref.go:226 GUARDS (op, want): [(5, True), (9, False)] slots [23, 27]
    refine c_reg ?_
    refine s_y (Y_mv) rfl rfl ?_
    refine s_y ((by first | exact Y_nil rfl | exact Y_nilF rfl | exact Y_nilM rfl (by assumption) | exact Y_nilM rfl (by intro w k; kernel_rfl))) rfl rfl ?_
    refine s_y (Y_fa 2 rfl Try.underlying72 rfl sz3 rfl) rfl rfl ?_
    refine s_y ((by first | exact Y_load rfl one3 (by repeat (first | exact List.Mem.head _ | assumption | apply List.Mem.tail | apply List.mem_append_right)) (by rfl) | exact Y_load rfl one3 (by repeat (first | exact List.Mem.head _ | assumption | apply List.Mem.tail | apply List.mem_append_right)) (by assumption) | exact Y_loadR rfl one3 (by assumption) rfl (by assumption))) rfl rfl ?_
    refine s_y (Y_eql rfl rfl) rfl rfl ?_
    refine s_y (Y_mv) rfl rfl ?_
    refine s_known (d := 23) rfl rfl ?_
    first | refine s_y (Y_fa 0 rfl Try.underlying42 rfl sz3 rfl) rfl rfl ?_ | refine s_pass rfl rfl ?_
    first | refine s_y ((by first | exact Y_load rfl one3 (by repeat (first | exact List.Mem.head _ | assumption | apply List.Mem.tail | apply List.mem_append_right)) (by rfl) | exact Y_load rfl one3 (by repeat (first | exact List.Mem.head _ | assumption | apply List.Mem.tail | apply List.mem_append_right)) (by assumption) | exact Y_loadR rfl one3 (by assumption) rfl (by assumption))) rfl rfl ?_ | refine s_pass rfl rfl ?_
    first | refine s_y (Y_lss rfl rfl) rfl rfl ?_ | refine s_pass rfl rfl ?_
    first | refine s_y (Y_mv) rfl rfl ?_ | refine s_pass rfl rfl ?_
    by_cases hx : 1 ≤ x.toNat ∧ x.toNat ≤ 4
    · have hpE : pErr bs = noted (decide ((pI bs x.toNat).2.1 = bs.length)) (pI bs x.toNat).2.2 8 := by
        simp only [pErr, hbs]
        rw [if_pos hx]
      refine s_known (d := 27) rfl (decide_eq_false (by omega)) ?_
      first | refine s_y (Y_fa 0 rfl Try.underlying42 rfl sz3 rfl) rfl rfl ?_ | refine s_pass rfl rfl ?_
      first | refine s_y ((by first | exact Y_load rfl one3 (by repeat (first | exact List.Mem.head _ | assumption | apply List.Mem.tail | apply List.mem_append_right)) (by rfl) | exact Y_load rfl one3 (by repeat (first | exact List.Mem.head _ | assumption | apply List.Mem.tail | apply List.mem_append_right)) (by assumption) | exact Y_loadR rfl one3 (by assumption) rfl (by assumption))) rfl rfl ?_ | refine s_pass rfl rfl ?_
      first | refine s_y (Y_gtr rfl rfl) rfl rfl ?_ | refine s_pass rfl rfl ?_
      first | refine s_y (Y_pk rfl Gx.const (Gx.tmp (by repeat (first | exact Gt.here | apply Gt.there (by rfl) | exact Gt.base (by rfl))))) rfl rfl ?_ | refine s_pass rfl rfl ?_
      refine s_y (Y_pk rfl (Gx.tmp (by repeat (first | exact Gt.here | apply Gt.there (by rfl) | exact Gt.base (by rfl)))) Gx.const) rfl rfl ?_
      refine s_nil ?_
      refine q_then ?_
      refine c_F (t := decide ((x.toNat : Int) > 4)) (by rfl) (decide_eq_false (by omega)) ?_
      refine c_skip ?_
      refine q_then ?_
      refine c_seq ?_
      refine c_seq ?_
      -- ref.go:229
      refine c_reg ?_
      refine s_y (Y_fa 0 rfl Try.underlying42 rfl sz3 rfl) rfl rfl ?_
      refine s_y ((by first | exact Y_load rfl one3 (by repeat (first | exact List.Mem.head _ | assumption | apply List.Mem.tail | apply List.mem_append_right)) (by rfl) | exact Y_load rfl one3 (by repeat (first | exact List.Mem.head _ | assumption | apply List.Mem.tail | apply List.mem_append_right)) (by assumption) | exact Y_loadR rfl one3 (by assumption) rfl (by assumption))) rfl rfl ?_
      refine s_y (Y_neq rfl rfl) rfl rfl ?_
      refine s_nil ?_
      refine q_then ?_
      obtain hk | hk | hk | hk : (x.toNat : Int) = 1 ∨ (x.toNat : Int) = 2 ∨ (x.toNat : Int) = 3 ∨ (x.toNat : Int) = 4 := by omega
      · rw [hk] at hpE ⊢
        refine c_F rfl rfl ?_
        refine c_skip ?_
        refine q_then ?_
        refine c_seq ?_
        -- ref.go:232
        refine c_reg ?_
        refine s_y (Y_mv) rfl rfl ?_
        refine s_cm [ib b14 a n c 1 0] (En_call (fun _ => rfl) Try.func28 rfl (by kernel_rfl) rfl) (by repeat (first | exact Sels.nil | apply Sels.cons (by repeat (first | exact Sel.head | apply Sel.tail)))) (fun w hH => innum_d (k := 1) (e := 0) (hH.at' (by repeat (first | exact List.Mem.head _ | assumption | apply List.Mem.tail | apply List.mem_append_right))) (hs.call (xs := [ib b14 a n c 1 0]) hH (by simp)) (by omega)) rfl rfl ?_
        rintro _ _ ⟨rfl, rfl⟩
        have hU : joinX bs 1 0 = joinX bs 1 0 := rfl
        conv at hU => rhs; unfold joinX; unfold Rd.pair
        simp only [num, n4X] at hU
        have hle1 := rdNum_le (bs := bs) (m := 4) (f := 0) (t := 1073741823) (k := 1) (e := 0) (by omega)
        generalize rdNum bs 4 0 1073741823 1 0 = r1 at *
        obtain ⟨z1, k1, e1⟩ := r1
        simp only at hU hle1 ⊢
        refine s_y (Y_fa 2 rfl Try.underlying42 rfl sz3 rfl) rfl rfl ?_
        refine s_s (S_st rfl (by repeat (first | exact Gt.here | apply Gt.there (by rfl) | exact Gt.base (by rfl))) sz3 (by rfl) (by repeat (first | exact Upd.head | apply Upd.tail)) (by first | (simp only [Nat.zero_add, Nat.reduceAdd, List.set_cons_succ, List.set_cons_zero]; rfl) | rfl) (by first | (simp; done) | omega)) rfl ?_
        refine s_nil ?_
        refine q_then ?_
        refine c_seq ?_
        refine c_seq ?_
        -- ref.go:233
        refine c_reg ?_
        refine s_y (Y_fa 0 rfl Try.underlying42 rfl sz3 rfl) rfl rfl ?_
        refine s_y ((by first | exact Y_load rfl one3 (by repeat (first | exact List.Mem.head _ | assumption | apply List.Mem.tail | apply List.mem_append_right)) (by rfl) | exact Y_load rfl one3 (by repeat (first | exact List.Mem.head _ | assumption | apply List.Mem.tail | apply List.mem_append_right)) (by assumption) | exact Y_loadR rfl one3 (by assumption) rfl (by assumption))) rfl rfl ?_
        refine s_nil ?_
        refine q_then ?_
        refine c_block ?_
        refine c_seq ?_
        refine c_reg ?_
        refine s_y (Y_eql rfl rfl) rfl rfl ?_
        refine s_y (Y_as) rfl rfl ?_
        refine s_nil ?_
        refine q_then ?_
        refine c_T rfl rfl ?_
        -- ref.go:235
        refine c_reg ?_
        refine s_y (Y_mv) rfl rfl ?_
        refine s_cm [ib b14 a n c k1 e1] (En_call (fun _ => rfl) Try.func29 rfl (by kernel_rfl) rfl) (by repeat (first | exact Sels.nil | apply Sels.cons (by repeat (first | exact Sel.head | apply Sel.tail)))) (fun w hH => insmall_d (k := k1) (e := e1) 0 1 (hH.at' (by repeat (first | exact List.Mem.head _ | assumption | apply List.Mem.tail | apply List.mem_append_right))) (hs.call (xs := [ib b14 a n c k1 e1]) hH (by simp)) (by omega)) rfl rfl ?_
        rintro _ _ ⟨rfl, rfl⟩
        have hle2 := rdNum_le (bs := bs) (m := 1) (f := 0) (t := 1) (k := k1) (e := e1) (by omega)
        generalize rdNum bs 1 0 1 k1 e1 = r1 at *
        obtain ⟨z2, k2, e2⟩ := r1
        simp only at hU hle2 ⊢
        refine s_y (Y_eql rfl rfl) rfl rfl ?_
        refine s_y (Y_fa 3 rfl Try.underlying42 rfl sz4 rfl) rfl rfl ?_
        refine s_s (S_st rfl (by repeat (first | exact Gt.here | apply Gt.there (by rfl) | exact Gt.base (by rfl))) sz4 (by rfl) (by repeat (first | exact Upd.head | apply Upd.tail)) (by first | (simp only [Nat.zero_add, Nat.reduceAdd, List.set_cons_succ, List.set_cons_zero]; rfl) | rfl) (by first | (simp; done) | omega)) rfl ?_
        refine s_nil ?_
        refine q_bn ?_
        have hpI : pI bs 1 = (joinD (z1, z2), k2, e2) := by
          unfold pI
          rw [if_pos rfl, hU]
        have hM : RefM bs 1 (msgCells (joinD (z1, z2))).toList k2 e2 [] := ⟨by rw [hpI], fun _ => ⟨by rw [hpI], joinD (z1, z2), rfl, by rw [hpI]; exact SameC.refl _, fun _ w _ => ⟨by simp [joinD], .inl rfl, rfl, fun _ => ⟨rfl, rfl⟩, by simp [joinD], .inl rfl, rfl, fun _ => ⟨rfl, rfl⟩, by simp [joinD], fun _ _ => .inl rfl, fun _ _ => rfl, fun _ _ _ => ⟨rfl, rfl⟩, fun _ _ => by simp [joinD], ⟨rfl, .inl rfl⟩, fun _ => rfl⟩, rfl⟩⟩
        refine QL.perm (L' := [ib b14 a n c k2 e2, ⟨b5, 42, 30, 1, (msgCells (joinD (z1, z2))).toList⟩, ⟨b2, 42, 30, 1, zc 0⟩]) (List.Perm.refl _) ?_
        generalize (msgCells (joinD (z1, z2))).toList = C at *
        obtain ⟨hM1, hM2⟩ := hM
        rw [← hM1] at hpE
        refine q_then ?_
        refine c_seq ?_
        refine c_seq ?_
        refine c_reg ?_
        refine s_y (Y_mv) rfl rfl ?_
        refine s_y ((by first | exact Y_nil rfl | exact Y_nilF rfl | exact Y_nilM rfl (by assumption) | exact Y_nilM rfl (by intro w k; kernel_rfl))) rfl rfl ?_
        refine s_y (Y_fa 2 rfl Try.underlying72 rfl sz3 rfl) rfl rfl ?_
        refine s_y ((by first | exact Y_load rfl one3 (by repeat (first | exact List.Mem.head _ | assumption | apply List.Mem.tail | apply List.mem_append_right)) (by rfl) | exact Y_load rfl one3 (by repeat (first | exact List.Mem.head _ | assumption | apply List.Mem.tail | apply List.mem_append_right)) (by assumption) | exact Y_loadR rfl one3 (by assumption) rfl (by assumption))) rfl rfl ?_
        refine s_y (Y_neq rfl rfl) rfl rfl ?_
        refine s_nil ?_
        refine q_then ?_
        by_cases he : e2 = 0
        · subst he
          obtain ⟨hK, o, hC, hSm, hMs, hDl⟩ := hM2 rfl
          rw [← hK] at hpE
          refine c_F rfl (by simp) ?_
          refine c_skip ?_
          refine q_then ?_
          refine c_seq ?_
          refine c_seq ?_
          refine c_reg ?_
          refine s_y (Y_mv) rfl rfl ?_
          refine s_y ((by first | exact Y_nil rfl | exact Y_nilF rfl | exact Y_nilM rfl (by assumption) | exact Y_nilM rfl (by intro w k; kernel_rfl))) rfl rfl ?_
          refine s_y (Y_fa 1 rfl Try.underlying72 rfl sz3 rfl) rfl rfl ?_
          refine s_y ((by first | exact Y_load rfl one3 (by repeat (first | exact List.Mem.head _ | assumption | apply List.Mem.tail | apply List.mem_append_right)) (by rfl) | exact Y_load rfl one3 (by repeat (first | exact List.Mem.head _ | assumption | apply List.Mem.tail | apply List.mem_append_right)) (by assumption) | exact Y_loadR rfl one3 (by assumption) rfl (by assumption))) rfl rfl ?_
          refine s_y (Y_mv) rfl rfl ?_
          refine s_y (Y_len rfl rfl Try.underlying27) rfl rfl ?_
          refine s_y (Y_lss rfl rfl) rfl rfl ?_
          refine s_nil ?_
          refine q_then ?_
          by_cases hkn : k2 = bs.length
          · rw [decide_eq_true hkn] at hpE
            refine c_F rfl (decide_eq_false (by omega)) ?_
            refine c_skip ?_
            refine q_then ?_
            refine c_seq ?_
            rw [hC]
            refine c_reg ?_
            refine s_y ((by first | exact Y_loadAll rfl many42 (by repeat (first | exact List.Mem.head _ | assumption | apply List.Mem.tail | apply List.mem_append_right)) (by rfl) | exact Y_loadN rfl many42 (by repeat (first | exact List.Mem.head _ | assumption | apply List.Mem.tail | apply List.mem_append_right)) ‹_› ‹_› | exact Y_loadNR rfl many42 ‹_› rfl)) rfl rfl ?_
            refine s_s ((by first | exact S_storeA rfl rfl sz42 (by first | rfl | assumption) (by first | rfl | assumption) (by repeat (first | exact Upd.head | apply Upd.tail)) (by first | rfl | assumption) | exact S_storeN rfl rfl sz42 (by rfl) (by first | rfl | assumption) (by repeat (first | exact Upd.head | apply Upd.tail)) (by simp only [setAll, List.set_cons_zero, List.set_cons_succ, Nat.zero_add, Nat.reduceAdd]; rfl) (by first | rfl | assumption))) rfl ?_
            refine s_y (Y_asC) rfl rfl ?_
            refine s_nil ?_
            refine q_then ?_
            refine c_ret ?_
            exact q_ret2c rfl rfl many42 rfl (by repeat (first | exact List.Mem.head _ | assumption | apply List.Mem.tail | apply List.mem_append_right)) rfl (L' := []) (List.nil_sublist _) (.ok hbs hx hpE (by rw [hk]; exact hSm) (by rw [hk]; exact hMs) hDl)
          · rw [decide_eq_false hkn] at hpE
            refine c_T rfl (decide_eq_true (by omega)) ?_
            refine c_seq ?_
            refine c_reg ?_
            refine s_y (Y_build (cs := [.int .i64 0, .int .i64 0, .int .i64 0, .bool false, .int .u32 0, .int .i64 0, .int .i64 0, .int .i64 0, .int .i64 0, .int .i64 0, .int .i64 0, .int .i64 0, .slice none 0 0, .int .i64 0, .int .i64 0, .int .i64 0, .int .i64 0, .slice none 0 0, .int .i64 0, .int .i64 0, .int .i64 0, .int .i64 0, .slice none 0 0, .slice none 0 0, .slice none 0 0, .slice none 0 0, .int .i64 0, .int .i64 0, .int .i64 0, .slice none 0 0]) (by repeat (first | exact Gp.nil | apply Gp.const | apply Gp.tmp (by repeat (first | exact Gt.here | apply Gt.there (by rfl) | exact Gt.base (by rfl))))) (bld42 _ _ (by first | rfl | (simp; rfl)))) rfl rfl ?_
            refine s_s ((by first | exact S_storeA rfl rfl sz42 (by first | rfl | assumption) (by first | rfl | assumption) (by repeat (first | exact Upd.head | apply Upd.tail)) (by first | rfl | assumption) | exact S_storeN rfl rfl sz42 (by rfl) (by first | rfl | assumption) (by repeat (first | exact Upd.head | apply Upd.tail)) (by simp only [setAll, List.set_cons_zero, List.set_cons_succ, Nat.zero_add, Nat.reduceAdd]; rfl) (by first | rfl | assumption))) rfl ?_
            refine s_y (Y_asC) rfl rfl ?_
            refine s_nil ?_
            refine q_then ?_
            refine c_ret ?_
            refine q_ret2c rfl rfl many42 rfl (by repeat (first | exact List.Mem.head _ | assumption | apply List.Mem.tail | apply List.mem_append_right)) rfl (L' := []) (List.nil_sublist _) (.bad hpE (by decide))
        · have hpE2 : pErr bs = e2 := by rw [hpE]; simp [noted, he]
          refine c_T rfl (by simp [he]) ?_
          refine c_seq ?_
          refine c_rord [] [(0, true), (1, true), (2, true), (3, true), (4, true), (5, false), (6, true)] (by kernel_rfl) (by kernel_rfl) (by kernel_rfl) (by kernel_rfl) rfl (by intro c a d v w h; cases d <;> exact h) rfl ?_
          simp only [mkOrd, List.filterMap_cons, List.filterMap_nil, List.getElem?_toArray, List.getElem?_cons_zero, List.getElem?_cons_succ, Option.map_some]
          refine o_y (Y_build (cs := [.int .i64 0, .int .i64 0, .int .i64 0, .bool false, .int .u32 0, .int .i64 0, .int .i64 0, .int .i64 0, .int .i64 0, .int .i64 0, .int .i64 0, .int .i64 0, .slice none 0 0, .int .i64 0, .int .i64 0, .int .i64 0, .int .i64 0, .slice none 0 0, .int .i64 0, .int .i64 0, .int .i64 0, .int .i64 0, .slice none 0 0, .slice none 0 0, .slice none 0 0, .slice none 0 0, .int .i64 0, .int .i64 0, .int .i64 0, .slice none 0 0]) (by repeat (first | exact Gp.nil | apply Gp.const | apply Gp.tmp (by repeat (first | exact Gt.here | apply Gt.there (by rfl) | exact Gt.base (by rfl))))) (bld42 _ _ (by first | rfl | (simp; rfl)))) rfl rfl ?_
          refine o_y (Y_mv) rfl rfl ?_
          refine o_y ((by first | exact Y_nil rfl | exact Y_nilF rfl | exact Y_nilM rfl (by assumption) | exact Y_nilM rfl (by intro w k; kernel_rfl))) rfl rfl ?_
          refine o_y (Y_fa 2 rfl Try.underlying72 rfl sz3 rfl) rfl rfl ?_
          refine o_y ((by first | exact Y_load rfl one3 (by repeat (first | exact List.Mem.head _ | assumption | apply List.Mem.tail | apply List.mem_append_right)) (by rfl) | exact Y_load rfl one3 (by repeat (first | exact List.Mem.head _ | assumption | apply List.Mem.tail | apply List.mem_append_right)) (by assumption) | exact Y_loadR rfl one3 (by assumption) rfl (by assumption))) rfl rfl ?_
          refine o_s ((by first | exact S_storeA rfl rfl sz42 (by first | rfl | assumption) (by first | rfl | assumption) (by repeat (first | exact Upd.head | apply Upd.tail)) (by first | rfl | assumption) | exact S_storeN rfl rfl sz42 (by rfl) (by first | rfl | assumption) (by repeat (first | exact Upd.head | apply Upd.tail)) (by simp only [setAll, List.set_cons_zero, List.set_cons_succ, Nat.zero_add, Nat.reduceAdd]; rfl) (by first | rfl | assumption))) (by first | exact keep_no rfl | exact keep_sub (by repeat (first | exact List.Sublist.refl _ | exact List.nil_sublist _ | apply List.Sublist.cons_cons | apply List.Sublist.cons))) rfl ?_
          refine o_y (Y_as) rfl rfl ?_
          refine o_nil ?_
          refine q_then ?_
          refine c_ret ?_
          refine q_ret2c rfl rfl many42 rfl (by repeat (first | exact List.Mem.head _ | assumption | apply List.Mem.tail | apply List.mem_append_right)) rfl (L' := []) (List.nil_sublist _) (.bad hpE2 he)
      · rw [hk] at hpE ⊢
        refine c_T rfl rfl ?_
        refine c_reg ?_
        refine s_y (Y_mv) rfl rfl ?_
        refine s_cm [ib b14 a n c 1 0] (En_call (fun _ => rfl) Try.func28 rfl (by kernel_rfl) rfl) (by repeat (first | exact Sels.nil | apply Sels.cons (by repeat (first | exact Sel.head | apply Sel.tail)))) (fun w hH => innum_d (k := 1) (e := 0) (hH.at' (by repeat (first | exact List.Mem.head _ | assumption | apply List.Mem.tail | apply List.mem_append_right))) (hs.call (xs := [ib b14 a n c 1 0]) hH (by simp)) (by omega)) rfl rfl ?_
        rintro _ _ ⟨rfl, rfl⟩
        have hU : upX bs 1 0 = upX bs 1 0 := rfl
        conv at hU => rhs; unfold upX; unfold Rd.pair
        simp only [nums, num, n4X] at hU
        have hle1 := rdNum_le (bs := bs) (m := 4) (f := 0) (t := 1073741823) (k := 1) (e := 0) (by omega)
        generalize rdNum bs 4 0 1073741823 1 0 = r1 at *
        obtain ⟨z1, k1, e1⟩ := r1
        simp only at hU hle1 ⊢
        refine s_y (Y_fa 1 rfl Try.underlying42 rfl sz3 rfl) rfl rfl ?_
        refine s_s (S_st rfl (by repeat (first | exact Gt.here | apply Gt.there (by rfl) | exact Gt.base (by rfl))) sz3 (by rfl) (by repeat (first | exact Upd.head | apply Upd.tail)) (by first | (simp only [Nat.zero_add, Nat.reduceAdd, List.set_cons_succ, List.set_cons_zero]; rfl) | rfl) (by first | (simp; done) | omega)) rfl ?_
        refine s_nil ?_
        refine q_then ?_
        refine c_seq ?_
        -- ref.go:232
        refine c_reg ?_
        refine s_y (Y_mv) rfl rfl ?_
        refine s_cm [ib b14 a n c k1 e1] (En_call (fun _ => rfl) Try.func28 rfl (by kernel_rfl) rfl) (by repeat (first | exact Sels.nil | apply Sels.cons (by repeat (first | exact Sel.head | apply Sel.tail)))) (fun w hH => innum_d (k := k1) (e := e1) (hH.at' (by repeat (first | exact List.Mem.head _ | assumption | apply List.Mem.tail | apply List.mem_append_right))) (hs.call (xs := [ib b14 a n c k1 e1]) hH (by simp)) (by omega)) rfl rfl ?_
        rintro _ _ ⟨rfl, rfl⟩
        have hle2 := rdNum_le (bs := bs) (m := 4) (f := 0) (t := 1073741823) (k := k1) (e := e1) (by omega)
        generalize rdNum bs 4 0 1073741823 k1 e1 = r1 at *
        obtain ⟨z2, k2, e2⟩ := r1
        simp only at hU hle2 ⊢
        refine s_y (Y_fa 2 rfl Try.underlying42 rfl sz3 rfl) rfl rfl ?_
        refine s_s (S_st rfl (by repeat (first | exact Gt.here | apply Gt.there (by rfl) | exact Gt.base (by rfl))) sz3 (by rfl) (by repeat (first | exact Upd.head | apply Upd.tail)) (by first | (simp only [Nat.zero_add, Nat.reduceAdd, List.set_cons_succ, List.set_cons_zero]; rfl) | rfl) (by first | (simp; done) | omega)) rfl ?_
        refine s_nil ?_
        refine q_then ?_
        refine c_seq ?_
        refine c_seq ?_
        -- ref.go:233
        refine c_reg ?_
        refine s_y (Y_fa 0 rfl Try.underlying42 rfl sz3 rfl) rfl rfl ?_
        refine s_y ((by first | exact Y_load rfl one3 (by repeat (first | exact List.Mem.head _ | assumption | apply List.Mem.tail | apply List.mem_append_right)) (by rfl) | exact Y_load rfl one3 (by repeat (first | exact List.Mem.head _ | assumption | apply List.Mem.tail | apply List.mem_append_right)) (by assumption) | exact Y_loadR rfl one3 (by assumption) rfl (by assumption))) rfl rfl ?_
        refine s_nil ?_
        refine q_then ?_
        refine c_block ?_
        refine c_seq ?_
        refine c_reg ?_
        refine s_y (Y_eql rfl rfl) rfl rfl ?_
        refine s_y (Y_as) rfl rfl ?_
        refine s_nil ?_
        refine q_then ?_
        refine c_F rfl rfl ?_
        refine c_seq ?_
        refine c_reg ?_
        refine s_y (Y_eql rfl rfl) rfl rfl ?_
        refine s_y (Y_as) rfl rfl ?_
        refine s_nil ?_
        refine q_then ?_
        refine c_T rfl rfl ?_
        refine c_seq ?_
        refine c_reg ?_
        refine s_y (Y_mv) rfl rfl ?_
        refine s_cm [ib b14 a n c k2 e2] (En_call (fun _ => rfl) Try.func30 rfl (by kernel_rfl) rfl) (by repeat (first | exact Sels.nil | apply Sels.cons (by repeat (first | exact Sel.head | apply Sel.tail)))) (fun w hH => wide_d (k := k2) (e := e2) (hH.at' (by repeat (first | exact List.Mem.head _ | assumption | apply List.Mem.tail | apply List.mem_append_right))) (hs.call (xs := [ib b14 a n c k2 e2]) hH (by simp)) (by omega)) rfl rfl ?_
        rintro _ _ ⟨rfl, rfl⟩
        have hle3 := rdRaw_le (bs := bs) (m := 4) (k := k2) (e := e2) (by omega)
        have hlt3 := rdRaw_lt bs (m := 4) (by omega) k2 e2
        generalize rdRaw bs 4 k2 e2 = r1 at *
        obtain ⟨bt, k3, e3⟩ := r1
        simp only at hU hle3 hlt3 ⊢
        refine s_y ((by first | exact Y_conv rfl Try.underlying3 Try.underlying22 (by first | exact i64_u8 _ | exact u64_u8 _ | exact i64_id (by omega) | exact u64_id (by omega) | exact u8_id (by omega) | exact u32_id (by omega)) | exact Y_convw rfl Try.underlying3 Try.underlying22)) rfl rfl ?_
        refine s_y (Y_fa 4 rfl Try.underlying42 rfl sz22 rfl) rfl rfl ?_
        refine s_s (S_st rfl (by repeat (first | exact Gt.here | apply Gt.there (by rfl) | exact Gt.base (by rfl))) sz22 (by rfl) (by repeat (first | exact Upd.head | apply Upd.tail)) (by first | (simp only [Nat.zero_add, Nat.reduceAdd, List.set_cons_succ, List.set_cons_zero]; rfl) | rfl) (by first | (simp; done) | omega)) rfl ?_
        refine s_nil ?_
        refine q_then ?_
        refine c_seq ?_
        refine c_reg ?_
        refine s_y (Y_mv) rfl rfl ?_
        refine s_cm [ib b14 a n c k3 e3] (En_call (fun _ => rfl) Try.func28 rfl (by kernel_rfl) rfl) (by repeat (first | exact Sels.nil | apply Sels.cons (by repeat (first | exact Sel.head | apply Sel.tail)))) (fun w hH => innum_d (k := k3) (e := e3) (hH.at' (by repeat (first | exact List.Mem.head _ | assumption | apply List.Mem.tail | apply List.mem_append_right))) (hs.call (xs := [ib b14 a n c k3 e3]) hH (by simp)) (by omega)) rfl rfl ?_
        rintro _ _ ⟨rfl, rfl⟩
        have hle4 := rdNum_le (bs := bs) (m := 4) (f := 0) (t := 1073741823) (k := k3) (e := e3) (by omega)
        generalize rdNum bs 4 0 1073741823 k3 e3 = r1 at *
        obtain ⟨z3, k4, e4⟩ := r1
        simp only at hU hle4 ⊢
        refine s_y (Y_fa 5 rfl Try.underlying42 rfl sz3 rfl) rfl rfl ?_
        refine s_s (S_st rfl (by repeat (first | exact Gt.here | apply Gt.there (by rfl) | exact Gt.base (by rfl))) sz3 (by rfl) (by repeat (first | exact Upd.head | apply Upd.tail)) (by first | (simp only [Nat.zero_add, Nat.reduceAdd, List.set_cons_succ, List.set_cons_zero]; rfl) | rfl) (by first | (simp; done) | omega)) rfl ?_
        refine s_nil ?_
        refine q_then ?_
        refine c_seq ?_
        refine c_seq ?_
        refine c_reg ?_
        refine s_y (Y_asC) rfl rfl ?_
        refine s_nil ?_
        refine q_then ?_
        refine c_block ?_
        have hnl := nK_le (bs := bs) (p := (k4, e4)) hle4
        refine c_loop [6, 60, 61, 62, 63, 64, 65, 66, 67, 68] (fun n2 i => i + n2 = 4) (fun i => [(6, .int .i64 (i : Int))]) (fun i => [ib b14 a n c (nK bs (k4, e4) i).1 (nK bs (k4, e4) i).2, ⟨b5, 42, 30, 1, upC z1 z2 bt z3 (hh (nF bs (k4, e4)) i) 0 0 (.slice none 0 0)⟩, ⟨b2, 42, 30, 1, zc 0⟩]) 4 0 (by omega) ⟨rfl, trivial⟩ (fun _ h => ?_) (fun _ => rfl) ?_
        · rename_i h; exact h
        rintro n2 i jj hi K hK
        refine c_seq ?_
        refine c_seq ?_
        refine c_reg ?_
        refine s_y (Y_mv) rfl rfl ?_
        refine s_y (Y_lss rfl rfl) rfl rfl ?_
        refine s_nil ?_
        refine q_then ?_
        refine c_cond' rfl (fun h => ?_) (fun h => ?_)
        · have hi4 : i < 4 := by omega
          have hni := hnl i
          have hset := upC_set (e := z1) (t := z2) (r := z3) (lv := 0) (f := 0) (b := bt) (h := hh (nF bs (k4, e4)) i) (v := .slice none 0 0) (z := nF bs (k4, e4) i) hi4
          rw [hh_upd] at hset
          have hS : nK bs (k4, e4) (i + 1) = (n4 bs (nK bs (k4, e4) i)).2 := rfl
          have hF : nF bs (k4, e4) i = (n4 bs (nK bs (k4, e4) i)).1 := rfl
          generalize nK bs (k4, e4) i = q at *
          obtain ⟨ki, ei⟩ := q
          simp only [n4] at hni hS hF ⊢
          refine c_skip ?_
          refine q_then ?_
          refine c_seq ?_
          refine c_block ?_
          refine c_reg ?_
          refine s_y (Y_mv) rfl rfl ?_
          refine s_y (Y_mv) rfl rfl ?_
          refine s_cm [ib b14 a n c ki ei] (En_call (fun _ => rfl) Try.func28 rfl (by kernel_rfl) rfl) (by repeat (first | exact Sels.nil | apply Sels.cons (by repeat (first | exact Sel.head | apply Sel.tail)))) (fun w hH => innum_d (k := ki) (e := ei) (hH.at' (by repeat (first | exact List.Mem.head _ | assumption | apply List.Mem.tail | apply List.mem_append_right))) (hs.call (xs := [ib b14 a n c ki ei]) hH (by simp)) (by omega)) rfl rfl ?_
          rintro _ _ ⟨rfl, rfl⟩
          rw [← hF, ← hS]
          refine s_y (Y_fa 6 rfl Try.underlying42 rfl sz23 rfl) rfl rfl ?_
          refine s_y (Y_iaA rfl rfl Try.underlying23 sz3 rfl (by omega)) rfl rfl ?_
          refine s_s (S_st rfl (by repeat (first | exact Gt.here | apply Gt.there (by rfl) | exact Gt.base (by rfl))) sz3 (by rfl) (by repeat (first | exact Upd.head | apply Upd.tail)) hset (by simp [upC]; omega)) rfl ?_
          refine s_nil ?_
          refine q_bn ?_
          refine q_then ?_
          refine c_reg ?_
          refine s_y (Y_mv) rfl rfl ?_
          refine s_y ((by first | exact Y_add rfl rfl (by omega) | exact Y_addw rfl rfl)) rfl rfl ?_
          refine s_y (Y_as) rfl rfl ?_
          refine s_nil ?_
          refine hK (n2 - 1) (i + 1) _ _ (by omega) (by omega) ⟨rfl, trivial⟩ rfl (fun _ h => h)
        · obtain rfl : i = 4 := by omega
          refine c_exit ?_
          repeat with_reducible refine q_te ?_
          refine q_exit ?_
          refine q_then ?_
          refine c_seq ?_
          have hU2 : upX bs 1 0 = (([z1, z2], bt, [z3, nF bs (k4, e4) 0, nF bs (k4, e4) 1, nF bs (k4, e4) 2, nF bs (k4, e4) 3, (rdNum bs 4 0 1073741823 (nK bs (k4, e4) 4).1 (nK bs (k4, e4) 4).2).1, (rdNum bs 4 0 1073741823 (rdNum bs 4 0 1073741823 (nK bs (k4, e4) 4).1 (nK bs (k4, e4) 4).2).2.1 (rdNum bs 4 0 1073741823 (nK bs (k4, e4) 4).1 (nK bs (k4, e4) 4).2).2.2).1], (rowX bs (rdNum bs 4 0 1073741823 (rdNum bs 4 0 1073741823 (nK bs (k4, e4) 4).1 (nK bs (k4, e4) 4).2).2.1 (rdNum bs 4 0 1073741823 (nK bs (k4, e4) 4).1 (nK bs (k4, e4) 4).2).2.2).2.1 (rdNum bs 4 0 1073741823 (rdNum bs 4 0 1073741823 (nK bs (k4, e4) 4).1 (nK bs (k4, e4) 4).2).2.1 (rdNum bs 4 0 1073741823 (nK bs (k4, e4) 4).1 (nK bs (k4, e4) 4).2).2.2).2.2).1), (rowX bs (rdNum bs 4 0 1073741823 (rdNum bs 4 0 1073741823 (nK bs (k4, e4) 4).1 (nK bs (k4, e4) 4).2).2.1 (rdNum bs 4 0 1073741823 (nK bs (k4, e4) 4).1 (nK bs (k4, e4) 4).2).2.2).2.1 (rdNum bs 4 0 1073741823 (rdNum bs 4 0 1073741823 (nK bs (k4, e4) 4).1 (nK bs (k4, e4) 4).2).2.1 (rdNum bs 4 0 1073741823 (nK bs (k4, e4) 4).1 (nK bs (k4, e4) 4).2).2.2).2.2).2) := hU
          have hhx : (hh (nF bs (k4, e4)) 4 0 = nF bs (k4, e4) 0) ∧ (hh (nF bs (k4, e4)) 4 1 = nF bs (k4, e4) 1) ∧ (hh (nF bs (k4, e4)) 4 2 = nF bs (k4, e4) 2) ∧ (hh (nF bs (k4, e4)) 4 3 = nF bs (k4, e4) 3) := ⟨rfl, rfl, rfl, rfl⟩
          have hni := hnl 4
          clear hU hnl
          unfold upC
          rw [hhx.1, hhx.2.1, hhx.2.2.1, hhx.2.2.2]
          clear hhx
          generalize nF bs (k4, e4) = F at *
          generalize nK bs (k4, e4) 4 = q at *
          obtain ⟨k5, e5⟩ := q
          simp only at hU2 hni ⊢
          refine c_reg ?_
          refine s_y (Y_mv) rfl rfl ?_
          refine s_cm [ib b14 a n c k5 e5] (En_call (fun _ => rfl) Try.func28 rfl (by kernel_rfl) rfl) (by repeat (first | exact Sels.nil | apply Sels.cons (by repeat (first | exact Sel.head | apply Sel.tail)))) (fun w hH => innum_d (k := k5) (e := e5) (hH.at' (by repeat (first | exact List.Mem.head _ | assumption | apply List.Mem.tail | apply List.mem_append_right))) (hs.call (xs := [ib b14 a n c k5 e5]) hH (by simp)) (by omega)) rfl rfl ?_
          rintro _ _ ⟨rfl, rfl⟩
          have hle6 := rdNum_le (bs := bs) (m := 4) (f := 0) (t := 1073741823) (k := k5) (e := e5) (by omega)
          generalize rdNum bs 4 0 1073741823 k5 e5 = r1 at *
          obtain ⟨z5, k6, e6⟩ := r1
          simp only at hU2 hle6 ⊢
          refine s_y (Y_fa 10 rfl Try.underlying42 rfl sz3 rfl) rfl rfl ?_
          refine s_s (S_st rfl (by repeat (first | exact Gt.here | apply Gt.there (by rfl) | exact Gt.base (by rfl))) sz3 (by rfl) (by repeat (first | exact Upd.head | apply Upd.tail)) (by first | (simp only [Nat.zero_add, Nat.reduceAdd, List.set_cons_succ, List.set_cons_zero]; rfl) | rfl) (by first | (simp; done) | omega)) rfl ?_
          refine s_nil ?_
          refine q_then ?_
          refine c_seq ?_
          refine c_reg ?_
          refine s_y (Y_mv) rfl rfl ?_
          refine s_cm [ib b14 a n c k6 e6] (En_call (fun _ => rfl) Try.func28 rfl (by kernel_rfl) rfl) (by repeat (first | exact Sels.nil | apply Sels.cons (by repeat (first | exact Sel.head | apply Sel.tail)))) (fun w hH => innum_d (k := k6) (e := e6) (hH.at' (by repeat (first | exact List.Mem.head _ | assumption | apply List.Mem.tail | apply List.mem_append_right))) (hs.call (xs := [ib b14 a n c k6 e6]) hH (by simp)) (by omega)) rfl rfl ?_
          rintro _ _ ⟨rfl, rfl⟩
          have hle7 := rdNum_le (bs := bs) (m := 4) (f := 0) (t := 1073741823) (k := k6) (e := e6) (by omega)
          generalize rdNum bs 4 0 1073741823 k6 e6 = r1 at *
          obtain ⟨z6, k7, e7⟩ := r1
          simp only at hU2 hle7 ⊢
          refine s_y (Y_fa 11 rfl Try.underlying42 rfl sz3 rfl) rfl rfl ?_
          refine s_s (S_st rfl (by repeat (first | exact Gt.here | apply Gt.there (by rfl) | exact Gt.base (by rfl))) sz3 (by rfl) (by repeat (first | exact Upd.head | apply Upd.tail)) (by first | (simp only [Nat.zero_add, Nat.reduceAdd, List.set_cons_succ, List.set_cons_zero]; rfl) | rfl) (by first | (simp; done) | omega)) rfl ?_
          refine s_nil ?_
          refine q_then ?_
          refine c_reg ?_
          refine s_y (Y_mv) rfl rfl ?_
          refine s_cm [ib b14 a n c k7 e7] (En_call (fun _ => rfl) Try.func31 rfl (by kernel_rfl) rfl) (by repeat (first | exact Sels.nil | apply Sels.cons (by repeat (first | exact Sel.head | apply Sel.tail)))) (fun w hH => inrow_d (k := k7) (e := e7) (hH.at' (by repeat (first | exact List.Mem.head _ | assumption | apply List.Mem.tail | apply List.mem_append_right))) (hs.call (xs := [ib b14 a n c k7 e7]) hH (by simp)) (by omega)) rfl rfl ?_
          rintro _ _ ⟨B, hB, rfl⟩
          obtain ⟨hx1, hx2⟩ := rowS_X (bs := bs) (k := k7) (e := e7)
          rw [← hx1] at hU2 hx2
          have hv1 := Row.one hB
          rename_i v7
          refine QL.perm (.cons _ List.perm_append_comm) ?_
          refine s_y (Y_fa 12 rfl Try.underlying42 rfl sz24 rfl) rfl rfl ?_
          refine s_s (S_st rfl (by repeat (first | exact Gt.here | apply Gt.there (by rfl) | exact Gt.base (by rfl))) sz24 hv1 (by repeat (first | exact Upd.head | apply Upd.tail)) (by simp only [Nat.zero_add, Nat.reduceAdd, List.set_cons_succ, List.set_cons_zero]; rfl) (by simp)) rfl ?_
          refine s_nil ?_
          refine q_bn ?_
          have hle8 := rowS_le (bs := bs) (k := k7) (e := e7) (by omega)
          generalize rowS bs k7 e7 = r1 at *
          obtain ⟨zs, k8, e8⟩ := r1
          simp only at hB hU2 hx2 hle8 ⊢
          obtain ⟨a', cp, rfl, hnil, hIa⟩ := row_ints hB
          have hpI : pI bs 2 = (upD ([z1, z2], bt, [z3, F 0, F 1, F 2, F 3, z5, z6], (rowX bs k7 e7).1), k8, e8) := by
            unfold pI
            rw [if_neg (by decide), if_pos rfl, hU2]
          have hM : RefM bs 2 (msgCells { upD ([z1, z2], bt, [z3, F 0, F 1, F 2, F 3, z5, z6], zs) with ia := a', il := zs.length, ic := cp }).toList k8 e8 B := by
            refine ⟨by rw [hpI], fun he => ⟨by rw [hpI], _, rfl, ?_, fun hsm w hw => ?_, rfl⟩⟩
            · rw [hpI, ← hx2 he]
              exact ⟨rfl, rfl, fun _ => rfl, fun _ => rfl, fun _ => ⟨rfl, rfl, fun _ _ => rfl, rfl, rfl, rfl⟩, fun _ => ⟨rfl, rfl, rfl, rfl, rfl, fun _ _ => rfl, fun _ _ => rfl, rfl⟩, fun _ => ⟨rfl, rfl, rfl, rfl⟩⟩
            · rw [hpI, ← hx2 he] at hsm
              have hb := hsm.bits
              have hsi := hsm.inp
              exact ⟨hb, hIa w hw, rfl, hnil, by simp only [upD] at hsi; simp only; omega, .inl rfl, rfl, fun _ => ⟨rfl, rfl⟩, by simp [upD], fun _ _ => .inl rfl, fun _ _ => rfl, fun _ _ _ => ⟨rfl, rfl⟩, fun _ _ => by simp [upD], ⟨rfl, .inl rfl⟩, fun _ => rfl⟩
          refine QL.perm (L' := ib b14 a n c k8 e8 :: ⟨b5, 42, 30, 1, (msgCells { upD ([z1, z2], bt, [z3, F 0, F 1, F 2, F 3, z5, z6], zs) with ia := a', il := zs.length, ic := cp }).toList⟩ :: ⟨b2, 42, 30, 1, zc 0⟩ :: B) (List.Perm.refl _) ?_
          clear hU2 hx2
          generalize (msgCells { upD ([z1, z2], bt, [z3, F 0, F 1, F 2, F 3, z5, z6], zs) with ia := a', il := zs.length, ic := cp }).toList = C at *
          obtain ⟨hM1, hM2⟩ := hM
          rw [← hM1] at hpE
          refine q_then ?_
          refine c_seq ?_
          refine c_seq ?_
          refine c_reg ?_
          refine s_y (Y_mv) rfl rfl ?_
          refine s_y ((by first | exact Y_nil rfl | exact Y_nilF rfl | exact Y_nilM rfl (by assumption) | exact Y_nilM rfl (by intro w k; kernel_rfl))) rfl rfl ?_
          refine s_y (Y_fa 2 rfl Try.underlying72 rfl sz3 rfl) rfl rfl ?_
          refine s_y ((by first | exact Y_load rfl one3 (by repeat (first | exact List.Mem.head _ | assumption | apply List.Mem.tail | apply List.mem_append_right)) (by rfl) | exact Y_load rfl one3 (by repeat (first | exact List.Mem.head _ | assumption | apply List.Mem.tail | apply List.mem_append_right)) (by assumption) | exact Y_loadR rfl one3 (by assumption) rfl (by assumption))) rfl rfl ?_
          refine s_y (Y_neq rfl rfl) rfl rfl ?_
          refine s_nil ?_
          refine q_then ?_
          by_cases he : e8 = 0
          · subst he
            obtain ⟨hK, o, hC, hSm, hMs, hDl⟩ := hM2 rfl
            rw [← hK] at hpE
            refine c_F rfl (by simp) ?_
            refine c_skip ?_
            refine q_then ?_
            refine c_seq ?_
            refine c_seq ?_
            refine c_reg ?_
            refine s_y (Y_mv) rfl rfl ?_
            refine s_y ((by first | exact Y_nil rfl | exact Y_nilF rfl | exact Y_nilM rfl (by assumption) | exact Y_nilM rfl (by intro w k; kernel_rfl))) rfl rfl ?_
            refine s_y (Y_fa 1 rfl Try.underlying72 rfl sz3 rfl) rfl rfl ?_
            refine s_y ((by first | exact Y_load rfl one3 (by repeat (first | exact List.Mem.head _ | assumption | apply List.Mem.tail | apply List.mem_append_right)) (by rfl) | exact Y_load rfl one3 (by repeat (first | exact List.Mem.head _ | assumption | apply List.Mem.tail | apply List.mem_append_right)) (by assumption) | exact Y_loadR rfl one3 (by assumption) rfl (by assumption))) rfl rfl ?_
            refine s_y (Y_mv) rfl rfl ?_
            refine s_y (Y_len rfl rfl Try.underlying27) rfl rfl ?_
            refine s_y (Y_lss rfl rfl) rfl rfl ?_
            refine s_nil ?_
            refine q_then ?_
            by_cases hkn : k8 = bs.length
            · rw [decide_eq_true hkn] at hpE
              refine c_F rfl (decide_eq_false (by omega)) ?_
              refine c_skip ?_
              refine q_then ?_
              refine c_seq ?_
              rw [hC]
              refine c_reg ?_
              refine s_y ((by first | exact Y_loadAll rfl many42 (by repeat (first | exact List.Mem.head _ | assumption | apply List.Mem.tail | apply List.mem_append_right)) (by rfl) | exact Y_loadN rfl many42 (by repeat (first | exact List.Mem.head _ | assumption | apply List.Mem.tail | apply List.mem_append_right)) ‹_› ‹_› | exact Y_loadNR rfl many42 ‹_› rfl)) rfl rfl ?_
              refine s_s ((by first | exact S_storeA rfl rfl sz42 (by first | rfl | assumption) (by first | rfl | assumption) (by repeat (first | exact Upd.head | apply Upd.tail)) (by first | rfl | assumption) | exact S_storeN rfl rfl sz42 (by rfl) (by first | rfl | assumption) (by repeat (first | exact Upd.head | apply Upd.tail)) (by simp only [setAll, List.set_cons_zero, List.set_cons_succ, Nat.zero_add, Nat.reduceAdd]; rfl) (by first | rfl | assumption))) rfl ?_
              refine s_y (Y_asC) rfl rfl ?_
              refine s_nil ?_
              refine q_then ?_
              refine c_ret ?_
              exact q_ret2c rfl rfl many42 rfl (by repeat (first | exact List.Mem.head _ | assumption | apply List.Mem.tail | apply List.mem_append_right)) rfl (L' := B) sub3 (.ok hbs hx hpE (by rw [hk]; exact hSm) (by rw [hk]; exact hMs) hDl)
            · rw [decide_eq_false hkn] at hpE
              refine c_T rfl (decide_eq_true (by omega)) ?_
              refine c_seq ?_
              refine c_reg ?_
              refine s_y (Y_build (cs := [.int .i64 0, .int .i64 0, .int .i64 0, .bool false, .int .u32 0, .int .i64 0, .int .i64 0, .int .i64 0, .int .i64 0, .int .i64 0, .int .i64 0, .int .i64 0, .slice none 0 0, .int .i64 0, .int .i64 0, .int .i64 0, .int .i64 0, .slice none 0 0, .int .i64 0, .int .i64 0, .int .i64 0, .int .i64 0, .slice none 0 0, .slice none 0 0, .slice none 0 0, .slice none 0 0, .int .i64 0, .int .i64 0, .int .i64 0, .slice none 0 0]) (by repeat (first | exact Gp.nil | apply Gp.const | apply Gp.tmp (by repeat (first | exact Gt.here | apply Gt.there (by rfl) | exact Gt.base (by rfl))))) (bld42 _ _ (by first | rfl | (simp; rfl)))) rfl rfl ?_
              refine s_s ((by first | exact S_storeA rfl rfl sz42 (by first | rfl | assumption) (by first | rfl | assumption) (by repeat (first | exact Upd.head | apply Upd.tail)) (by first | rfl | assumption) | exact S_storeN rfl rfl sz42 (by rfl) (by first | rfl | assumption) (by repeat (first | exact Upd.head | apply Upd.tail)) (by simp only [setAll, List.set_cons_zero, List.set_cons_succ, Nat.zero_add, Nat.reduceAdd]; rfl) (by first | rfl | assumption))) rfl ?_
              refine s_y (Y_asC) rfl rfl ?_
              refine s_nil ?_
              refine q_then ?_
              refine c_ret ?_
              refine q_ret2c rfl rfl many42 rfl (by repeat (first | exact List.Mem.head _ | assumption | apply List.Mem.tail | apply List.mem_append_right)) rfl (L' := []) (List.nil_sublist _) (.bad hpE (by decide))
          · have hpE2 : pErr bs = e8 := by rw [hpE]; simp [noted, he]
            refine c_T rfl (by simp [he]) ?_
            refine c_seq ?_
            refine c_rord [] [(0, true), (1, true), (2, true), (3, true), (4, true), (5, false), (6, true)] (by kernel_rfl) (by kernel_rfl) (by kernel_rfl) (by kernel_rfl) rfl (by intro c a d v w h; cases d <;> exact h) rfl ?_
            simp only [mkOrd, List.filterMap_cons, List.filterMap_nil, List.getElem?_toArray, List.getElem?_cons_zero, List.getElem?_cons_succ, Option.map_some]
            refine o_y (Y_build (cs := [.int .i64 0, .int .i64 0, .int .i64 0, .bool false, .int .u32 0, .int .i64 0, .int .i64 0, .int .i64 0, .int .i64 0, .int .i64 0, .int .i64 0, .int .i64 0, .slice none 0 0, .int .i64 0, .int .i64 0, .int .i64 0, .int .i64 0, .slice none 0 0, .int .i64 0, .int .i64 0, .int .i64 0, .int .i64 0, .slice none 0 0, .slice none 0 0, .slice none 0 0, .slice none 0 0, .int .i64 0, .int .i64 0, .int .i64 0, .slice none 0 0]) (by repeat (first | exact Gp.nil | apply Gp.const | apply Gp.tmp (by repeat (first | exact Gt.here | apply Gt.there (by rfl) | exact Gt.base (by rfl))))) (bld42 _ _ (by first | rfl | (simp; rfl)))) rfl rfl ?_
            refine o_y (Y_mv) rfl rfl ?_
            refine o_y ((by first | exact Y_nil rfl | exact Y_nilF rfl | exact Y_nilM rfl (by assumption) | exact Y_nilM rfl (by intro w k; kernel_rfl))) rfl rfl ?_
            refine o_y (Y_fa 2 rfl Try.underlying72 rfl sz3 rfl) rfl rfl ?_
            refine o_y ((by first | exact Y_load rfl one3 (by repeat (first | exact List.Mem.head _ | assumption | apply List.Mem.tail | apply List.mem_append_right)) (by rfl) | exact Y_load rfl one3 (by repeat (first | exact List.Mem.head _ | assumption | apply List.Mem.tail | apply List.mem_append_right)) (by assumption) | exact Y_loadR rfl one3 (by assumption) rfl (by assumption))) rfl rfl ?_
            refine o_s ((by first | exact S_storeA rfl rfl sz42 (by first | rfl | assumption) (by first | rfl | assumption) (by repeat (first | exact Upd.head | apply Upd.tail)) (by first | rfl | assumption) | exact S_storeN rfl rfl sz42 (by rfl) (by first | rfl | assumption) (by repeat (first | exact Upd.head | apply Upd.tail)) (by simp only [setAll, List.set_cons_zero, List.set_cons_succ, Nat.zero_add, Nat.reduceAdd]; rfl) (by first | rfl | assumption))) (by first | exact keep_no rfl | exact keep_sub (by repeat (first | exact List.Sublist.refl _ | exact List.nil_sublist _ | apply List.Sublist.cons_cons | apply List.Sublist.cons))) rfl ?_
            refine o_y (Y_as) rfl rfl ?_
            refine o_nil ?_
            refine q_then ?_
            refine c_ret ?_
            refine q_ret2c rfl rfl many42 rfl (by repeat (first | exact List.Mem.head _ | assumption | apply List.Mem.tail | apply List.mem_append_right)) rfl (L' := []) (List.nil_sublist _) (.bad hpE2 he)
      · rw [hk] at hpE ⊢
        refine c_T rfl rfl ?_
        refine c_reg ?_
        refine s_y (Y_mv) rfl rfl ?_
        refine s_cm [ib b14 a n c 1 0] (En_call (fun _ => rfl) Try.func28 rfl (by kernel_rfl) rfl) (by repeat (first | exact Sels.nil | apply Sels.cons (by repeat (first | exact Sel.head | apply Sel.tail)))) (fun w hH => innum_d (k := 1) (e := 0) (hH.at' (by repeat (first | exact List.Mem.head _ | assumption | apply List.Mem.tail | apply List.mem_append_right))) (hs.call (xs := [ib b14 a n c 1 0]) hH (by simp)) (by omega)) rfl rfl ?_
        rintro _ _ ⟨rfl, rfl⟩
        have hU : downX bs 1 0 = downX bs 1 0 := rfl
        conv at hU => rhs; unfold downX; skip; unfold Rd.pair
        simp only [nums, num, n4X, chkX] at hU
        have hle1 := rdNum_le (bs := bs) (m := 4) (f := 0) (t := 1073741823) (k := 1) (e := 0) (by omega)
        generalize rdNum bs 4 0 1073741823 1 0 = r1 at *
        obtain ⟨z1, k1, e1⟩ := r1
        simp only at hU hle1 ⊢
        refine s_y (Y_fa 1 rfl Try.underlying42 rfl sz3 rfl) rfl rfl ?_
        refine s_s (S_st rfl (by repeat (first | exact Gt.here | apply Gt.there (by rfl) | exact Gt.base (by rfl))) sz3 (by rfl) (by repeat (first | exact Upd.head | apply Upd.tail)) (by first | (simp only [Nat.zero_add, Nat.reduceAdd, List.set_cons_succ, List.set_cons_zero]; rfl) | rfl) (by first | (simp; done) | omega)) rfl ?_
        refine s_nil ?_
        refine q_then ?_
        refine c_seq ?_
        -- ref.go:232
        refine c_reg ?_
        refine s_y (Y_mv) rfl rfl ?_
        refine s_cm [ib b14 a n c k1 e1] (En_call (fun _ => rfl) Try.func28 rfl (by kernel_rfl) rfl) (by repeat (first | exact Sels.nil | apply Sels.cons (by repeat (first | exact Sel.head | apply Sel.tail)))) (fun w hH => innum_d (k := k1) (e := e1) (hH.at' (by repeat (first | exact List.Mem.head _ | assumption | apply List.Mem.tail | apply List.mem_append_right))) (hs.call (xs := [ib b14 a n c k1 e1]) hH (by simp)) (by omega)) rfl rfl ?_
        rintro _ _ ⟨rfl, rfl⟩
        have hle2 := rdNum_le (bs := bs) (m := 4) (f := 0) (t := 1073741823) (k := k1) (e := e1) (by omega)
        generalize rdNum bs 4 0 1073741823 k1 e1 = r1 at *
        obtain ⟨z2, k2, e2⟩ := r1
        simp only at hU hle2 ⊢
        refine s_y (Y_fa 2 rfl Try.underlying42 rfl sz3 rfl) rfl rfl ?_
        refine s_s (S_st rfl (by repeat (first | exact Gt.here | apply Gt.there (by rfl) | exact Gt.base (by rfl))) sz3 (by rfl) (by repeat (first | exact Upd.head | apply Upd.tail)) (by first | (simp only [Nat.zero_add, Nat.reduceAdd, List.set_cons_succ, List.set_cons_zero]; rfl) | rfl) (by first | (simp; done) | omega)) rfl ?_
        refine s_nil ?_
        refine q_then ?_
        refine c_seq ?_
        refine c_seq ?_
        -- ref.go:233
        refine c_reg ?_
        refine s_y (Y_fa 0 rfl Try.underlying42 rfl sz3 rfl) rfl rfl ?_
        refine s_y ((by first | exact Y_load rfl one3 (by repeat (first | exact List.Mem.head _ | assumption | apply List.Mem.tail | apply List.mem_append_right)) (by rfl) | exact Y_load rfl one3 (by repeat (first | exact List.Mem.head _ | assumption | apply List.Mem.tail | apply List.mem_append_right)) (by assumption) | exact Y_loadR rfl one3 (by assumption) rfl (by assumption))) rfl rfl ?_
        refine s_nil ?_
        refine q_then ?_
        refine c_block ?_
        refine c_seq ?_
        refine c_reg ?_
        refine s_y (Y_eql rfl rfl) rfl rfl ?_
        refine s_y (Y_as) rfl rfl ?_
        refine s_nil ?_
        refine q_then ?_
        refine c_F rfl rfl ?_
        refine c_seq ?_
        refine c_reg ?_
        refine s_y (Y_eql rfl rfl) rfl rfl ?_
        refine s_y (Y_as) rfl rfl ?_
        refine s_nil ?_
        refine q_then ?_
        refine c_F rfl rfl ?_
        refine c_seq ?_
        refine c_reg ?_
        refine s_y (Y_eql rfl rfl) rfl rfl ?_
        refine s_y (Y_as) rfl rfl ?_
        refine s_nil ?_
        refine q_then ?_
        refine c_T rfl rfl ?_
        refine c_seq ?_
        refine c_reg ?_
        refine s_y (Y_mv) rfl rfl ?_
        refine s_cm [ib b14 a n c k2 e2] (En_call (fun _ => rfl) Try.func29 rfl (by kernel_rfl) rfl) (by repeat (first | exact Sels.nil | apply Sels.cons (by repeat (first | exact Sel.head | apply Sel.tail)))) (fun w hH => insmall_d (k := k2) (e := e2) 1 7 (hH.at' (by repeat (first | exact List.Mem.head _ | assumption | apply List.Mem.tail | apply List.mem_append_right))) (hs.call (xs := [ib b14 a n c k2 e2]) hH (by simp)) (by omega)) rfl rfl ?_
        rintro _ _ ⟨rfl, rfl⟩
        have hle3 := rdNum_le (bs := bs) (m := 1) (f := 1) (t := 7) (k := k2) (e := e2) (by omega)
        generalize rdNum bs 1 1 7 k2 e2 = r1 at *
        obtain ⟨z3, k3, e3⟩ := r1
        simp only at hU hle3 ⊢
        refine s_y (Y_fa 13 rfl Try.underlying42 rfl sz3 rfl) rfl rfl ?_
        refine s_s (S_st rfl (by repeat (first | exact Gt.here | apply Gt.there (by rfl) | exact Gt.base (by rfl))) sz3 (by rfl) (by repeat (first | exact Upd.head | apply Upd.tail)) (by first | (simp only [Nat.zero_add, Nat.reduceAdd, List.set_cons_succ, List.set_cons_zero]; rfl) | rfl) (by first | (simp; done) | omega)) rfl ?_
        refine s_nil ?_
        refine q_then ?_
        refine c_seq ?_
        refine c_reg ?_
        refine s_y (Y_mv) rfl rfl ?_
        refine s_cm [ib b14 a n c k3 e3] (En_call (fun _ => rfl) Try.func29 rfl (by kernel_rfl) rfl) (by repeat (first | exact Sels.nil | apply Sels.cons (by repeat (first | exact Sel.head | apply Sel.tail)))) (fun w hH => insmall_d (k := k3) (e := e3) 0 4 (hH.at' (by repeat (first | exact List.Mem.head _ | assumption | apply List.Mem.tail | apply List.mem_append_right))) (hs.call (xs := [ib b14 a n c k3 e3]) hH (by simp)) (by omega)) rfl rfl ?_
        rintro _ _ ⟨rfl, rfl⟩
        have hle4 := rdNum_le (bs := bs) (m := 1) (f := 0) (t := 4) (k := k3) (e := e3) (by omega)
        generalize rdNum bs 1 0 4 k3 e3 = r1 at *
        obtain ⟨z4, k4, e4⟩ := r1
        simp only at hU hle4 ⊢
        refine s_y (Y_fa 14 rfl Try.underlying42 rfl sz3 rfl) rfl rfl ?_
        refine s_s (S_st rfl (by repeat (first | exact Gt.here | apply Gt.there (by rfl) | exact Gt.base (by rfl))) sz3 (by rfl) (by repeat (first | exact Upd.head | apply Upd.tail)) (by first | (simp only [Nat.zero_add, Nat.reduceAdd, List.set_cons_succ, List.set_cons_zero]; rfl) | rfl) (by first | (simp; done) | omega)) rfl ?_
        refine s_nil ?_
        refine q_then ?_
        refine c_seq ?_
        refine c_meetQ [86, 87, 88, 89] (fun _ : Int => []) (fun sv => sv = if z4 = 4 then -1 else z4) (fun sv => [ib b14 a n c k4 e4, ⟨b5, 42, 30, 1, dnC z1 z2 z3 sv 0 0 (.slice none 0 0) (fun _ => 0) (fun _ => .slice none 0 0) 0⟩, ⟨b2, 42, 30, 1, zc 0⟩]) (fun _ => rfl) (fun sv j6 hsv => ?_) (fun hm => ?_)
        · refine q_then ?_
          refine c_seq ?_
          refine c_reg ?_
          refine s_y (Y_mv) rfl rfl ?_
          refine s_cm [ib b14 a n c k4 e4] (En_call (fun _ => rfl) Try.func28 rfl (by kernel_rfl) rfl) (by repeat (first | exact Sels.nil | apply Sels.cons (by repeat (first | exact Sel.head | apply Sel.tail)))) (fun w hH => innum_d (k := k4) (e := e4) (hH.at' (by repeat (first | exact List.Mem.head _ | assumption | apply List.Mem.tail | apply List.mem_append_right))) (hs.call (xs := [ib b14 a n c k4 e4]) hH (by simp)) (by omega)) rfl rfl ?_
          rintro _ _ ⟨rfl, rfl⟩
          have hle5 := rdNum_le (bs := bs) (m := 4) (f := 0) (t := 1073741823) (k := k4) (e := e4) (by omega)
          generalize rdNum bs 4 0 1073741823 k4 e4 = r1 at *
          obtain ⟨z5, k5, e5⟩ := r1
          simp only at hU hle5 ⊢
          refine s_y (Y_fa 15 rfl Try.underlying42 rfl sz3 rfl) rfl rfl ?_
          refine s_s (S_st rfl (by repeat (first | exact Gt.here | apply Gt.there (by rfl) | exact Gt.base (by rfl))) sz3 (by rfl) (by repeat (first | exact Upd.head | apply Upd.tail)) (by first | (simp only [Nat.zero_add, Nat.reduceAdd, List.set_cons_succ, List.set_cons_zero]; rfl) | rfl) (by first | (simp; done) | omega)) rfl ?_
          refine s_nil ?_
          refine q_then ?_
          refine c_seq ?_
          refine c_reg ?_
          refine s_y (Y_mv) rfl rfl ?_
          refine s_cm [ib b14 a n c k5 e5] (En_call (fun _ => rfl) Try.func28 rfl (by kernel_rfl) rfl) (by repeat (first | exact Sels.nil | apply Sels.cons (by repeat (first | exact Sel.head | apply Sel.tail)))) (fun w hH => innum_d (k := k5) (e := e5) (hH.at' (by repeat (first | exact List.Mem.head _ | assumption | apply List.Mem.tail | apply List.mem_append_right))) (hs.call (xs := [ib b14 a n c k5 e5]) hH (by simp)) (by omega)) rfl rfl ?_
          rintro _ _ ⟨rfl, rfl⟩
          have hle6 := rdNum_le (bs := bs) (m := 4) (f := 0) (t := 1073741823) (k := k5) (e := e5) (by omega)
          generalize rdNum bs 4 0 1073741823 k5 e5 = r1 at *
          obtain ⟨z6, k6, e6⟩ := r1
          simp only at hU hle6 ⊢
          refine s_y (Y_fa 16 rfl Try.underlying42 rfl sz3 rfl) rfl rfl ?_
          refine s_s (S_st rfl (by repeat (first | exact Gt.here | apply Gt.there (by rfl) | exact Gt.base (by rfl))) sz3 (by rfl) (by repeat (first | exact Upd.head | apply Upd.tail)) (by first | (simp only [Nat.zero_add, Nat.reduceAdd, List.set_cons_succ, List.set_cons_zero]; rfl) | rfl) (by first | (simp; done) | omega)) rfl ?_
          refine s_nil ?_
          refine q_then ?_
          refine c_seq ?_
          have hRS := rst_X (bs := bs) (k := k6) (e := e6)
          have hRu : rst bs k6 e6 = rst bs k6 e6 := rfl
          conv at hRu => rhs; unfold rst
          refine c_reg ?_
          refine s_y (Y_mv) rfl rfl ?_
          refine s_cm [ib b14 a n c k6 e6] (En_call (fun _ => rfl) Try.func27 rfl (by kernel_rfl) rfl) (by repeat (first | exact Sels.nil | apply Sels.cons (by repeat (first | exact Sel.head | apply Sel.tail)))) (fun w hH => byte_d (k := k6) (e := e6) (hH.at' (by repeat (first | exact List.Mem.head _ | assumption | apply List.Mem.tail | apply List.mem_append_right))) (hs.call (xs := [ib b14 a n c k6 e6]) hH (by simp)) (by omega)) rfl rfl ?_
          rintro _ _ ⟨rfl, rfl⟩
          have hle7 := rdRaw_le (bs := bs) (m := 1) (k := k6) (e := e6) (by omega)
          have hlt7 := rdRaw1_lt (bs := bs) (k := k6) (e := e6)
          generalize rdRaw bs 1 k6 e6 = r1 at *
          obtain ⟨m1, k7, e7⟩ := r1
          simp only at hRu hle7 hlt7 ⊢
          refine s_y ((by first | exact Y_mul rfl rfl (by omega) | exact Y_mulw rfl rfl)) rfl rfl ?_
          refine s_y (Y_as) rfl rfl ?_
          refine s_nil ?_
          refine q_then ?_
          refine c_seq ?_
          refine c_reg ?_
          refine s_y (Y_mv) rfl rfl ?_
          refine s_y (Y_mv) rfl rfl ?_
          refine s_cm [ib b14 a n c k7 e7] (En_call (fun _ => rfl) Try.func27 rfl (by kernel_rfl) rfl) (by repeat (first | exact Sels.nil | apply Sels.cons (by repeat (first | exact Sel.head | apply Sel.tail)))) (fun w hH => byte_d (k := k7) (e := e7) (hH.at' (by repeat (first | exact List.Mem.head _ | assumption | apply List.Mem.tail | apply List.mem_append_right))) (hs.call (xs := [ib b14 a n c k7 e7]) hH (by simp)) (by omega)) rfl rfl ?_
          rintro _ _ ⟨rfl, rfl⟩
          have hle8 := rdRaw_le (bs := bs) (m := 1) (k := k7) (e := e7) (by omega)
          have hlt8 := rdRaw1_lt (bs := bs) (k := k7) (e := e7)
          generalize rdRaw bs 1 k7 e7 = r1 at *
          obtain ⟨m2, k8, e8⟩ := r1
          simp only at hRu hle8 hlt8 ⊢
          refine s_y ((by first | exact Y_add rfl rfl (by omega) | exact Y_addw rfl rfl)) rfl rfl ?_
          refine s_y (Y_as) rfl rfl ?_
          refine s_nil ?_
          have hm12 : (m1 : Int) * 256 + (m2 : Int) = ((m1 * 256 + m2 : Nat) : Int) := by omega
          rw [hm12]
          generalize hmm : m1 * 256 + m2 = m at *
          refine q_then ?_
          refine c_seq ?_
          refine c_meetQ [103, 104, 105, 106, 107, 108, 109, 110, 111, 112, 113, 114] (fun _ : Int => []) (fun e9 => e9 = if e8 = 0 ∧ m > 400 then 9 else e8) (fun e9 => [ib b14 a n c k8 e9, ⟨b5, 42, 30, 1, dnC z1 z2 z3 sv z5 z6 (.slice none 0 0) (fun _ => 0) (fun _ => .slice none 0 0) 0⟩, ⟨b2, 42, 30, 1, zc 0⟩]) (fun _ => rfl) (fun e9 j9 he9 => ?_) (fun hm => ?_)
          · rw [← he9] at hRu
            have hm5 : m < 65792 := by omega
            refine q_then ?_
            refine c_seq ?_
            refine c_seq ?_
            refine c_reg ?_
            refine s_y (Y_asC) rfl rfl ?_
            refine s_nil ?_
            refine q_then ?_
            refine c_block ?_
            refine c_loop [8, 115, 116, 117, 118, 119, 120, 121, 122, 123, 124, 125, 126, 127, 128, 129, 130, 131, 132, 133] (fun n2 (y : Nat × Value × List Bk) => y.1 + n2 = m ∧ Row 37 5 y.2.1 (stopX (recX bs) y.1 k8 e9).1.length (rcells (stopX (recX bs) y.1 k8 e9).1) y.2.2) (fun y => [(8, .int .i64 (y.1 : Int))]) (fun y => ib b14 a n c (stopX (recX bs) y.1 k8 e9).2.1 (stopX (recX bs) y.1 k8 e9).2.2 :: ⟨b5, 42, 30, 1, dnC z1 z2 z3 sv z5 z6 y.2.1 (fun _ => 0) (fun _ => .slice none 0 0) 0⟩ :: ⟨b2, 42, 30, 1, zc 0⟩ :: y.2.2) m (0, .slice none 0 0, []) ⟨by omega, .nil⟩ ⟨rfl, trivial⟩ (fun _ h => h) (fun _ => rfl) ?_
            rintro n2 ⟨i, u, B⟩ j ⟨hi, hB⟩ K hK
            have hS : stopX (recX bs) (i + 1) k8 e9 = if (stopX (recX bs) i k8 e9).2.2 = 0 then ((stopX (recX bs) i k8 e9).1 ++ [(recX bs (stopX (recX bs) i k8 e9).2.1 0).1], (recX bs (stopX (recX bs) i k8 e9).2.1 0).2) else stopX (recX bs) i k8 e9 := rfl
            have hstop := stopX_stop (X := recX bs) (i := i) (k := k8) (e := e9)
            have hil := (stopX_len (X := recX bs) (k := k8) (e := e9) i).1
            have hq := stopX_le (X := recX bs) (fun {k e} h => recX_le (k := k) (e := e) h) hle8 (e := e9) i
            have hgo : i < m → (stopX (recX bs) i k8 e9).2.2 ≠ 0 → stopX (recX bs) m k8 e9 = stopX (recX bs) i k8 e9 := fun h1 h2 => by
              have := hstop h2 (m - i)
              rwa [show i + (m - i) = m by omega] at this
            simp only at hB hi ⊢
            refine c_seq ?_
            refine c_seq ?_
            refine c_reg ?_
            refine s_y (Y_mv) rfl rfl ?_
            refine s_y (Y_mv) rfl rfl ?_
            refine s_y (Y_lss rfl rfl) rfl rfl ?_
            refine s_y (Y_mv) rfl rfl ?_
            by_cases him : i < m
            · refine s_known (d := 118) rfl (decide_eq_true (by omega)) ?_
              first | refine s_y (Y_mv) rfl rfl ?_ | refine s_pass rfl rfl ?_
              first | refine s_y ((by first | exact Y_nil rfl | exact Y_nilF rfl | exact Y_nilM rfl (by assumption) | exact Y_nilM rfl (by intro w k; kernel_rfl))) rfl rfl ?_ | refine s_pass rfl rfl ?_
              first | refine s_y (Y_fa 2 rfl Try.underlying72 rfl sz3 rfl) rfl rfl ?_ | refine s_pass rfl rfl ?_
              first | refine s_y ((by first | exact Y_load rfl one3 (by repeat (first | exact List.Mem.head _ | assumption | apply List.Mem.tail | apply List.mem_append_right)) (by rfl) | exact Y_load rfl one3 (by repeat (first | exact List.Mem.head _ | assumption | apply List.Mem.tail | apply List.mem_append_right)) (by assumption) | exact Y_loadR rfl one3 (by assumption) rfl (by assumption))) rfl rfl ?_ | refine s_pass rfl rfl ?_
              first | refine s_y (Y_eql rfl rfl) rfl rfl ?_ | refine s_pass rfl rfl ?_
              refine s_y (Y_pk rfl (Gx.tmp (by repeat (first | exact Gt.here | apply Gt.there (by rfl) | exact Gt.base (by rfl)))) Gx.const) rfl rfl ?_
              refine s_nil ?_
              refine q_then ?_
              by_cases he2 : (stopX (recX bs) i k8 e9).2.2 = 0
              · rw [if_pos he2] at hS
                generalize stopX (recX bs) i k8 e9 = q at *
                obtain ⟨xs, ki, ei⟩ := q
                simp only at hB hS hil hq he2 ⊢
                subst he2
                refine c_T (t := true) (by rfl) rfl ?_
                refine c_skip ?_
                refine q_then ?_
                refine c_seq ?_
                refine c_block ?_
                have hub := Row.one hB
                refine c_rordS (L0 := [⟨b5, 42, 30, 1, dnC z1 z2 z3 sv z5 z6 u (fun _ => 0) (fun _ => .slice none 0 0) 0⟩]) (by repeat (first | exact List.Sublist.refl _ | exact List.nil_sublist _ | apply List.Sublist.cons_cons | apply List.Sublist.cons)) [7] [(0, true), (1, true), (2, true), (3, false), (4, false), (5, false), (6, true), (7, false)] (by kernel_rfl) (by kernel_rfl) (by kernel_rfl) (by kernel_rfl) rfl (by intro c a d v w h; cases d <;> exact h) rfl ?_
                simp only [mkOrd, List.filterMap_cons, List.filterMap_nil, List.getElem?_toArray, List.getElem?_cons_zero, List.getElem?_cons_succ, Option.map_some]
                refine o_y (Y_fa 17 rfl Try.underlying42 rfl sz25 rfl) rfl rfl ?_
                refine o_y ((by first | exact Y_load rfl one25 (by repeat (first | exact List.Mem.head _ | assumption | apply List.Mem.tail | apply List.mem_append_right)) (by rfl) | exact Y_load rfl one25 (by repeat (first | exact List.Mem.head _ | assumption | apply List.Mem.tail | apply List.mem_append_right)) (by assumption) | exact Y_loadR rfl one25 (by assumption) rfl (by assumption))) rfl rfl ?_
                refine o_y (Y_mv) rfl rfl ?_
                refine o_cm [ib b14 a n c ki 0] (En_call (fun _ => rfl) Try.func32 rfl (by kernel_rfl) rfl) (by repeat (first | exact Sels.nil | apply Sels.cons (by repeat (first | exact Sel.head | apply Sel.tail)))) (fun w hH => inrec_d (k := ki) (e := 0) (hH.at' (by repeat (first | exact List.Mem.head _ | assumption | apply List.Mem.tail | apply List.mem_append_right))) (hs.call (xs := [ib b14 a n c ki 0]) hH (by simp)) (by omega)) (fun _ _ h => by obtain ⟨rfl, rfl⟩ := h; exact (by first | exact keep_no rfl | exact keep_sub (by repeat (first | exact List.Sublist.refl _ | exact List.nil_sublist _ | apply List.Sublist.cons_cons | apply List.Sublist.cons)))) rfl rfl ?_
                rintro _ _ ⟨rfl, rfl⟩
                generalize recX bs ki 0 = q at *
                obtain ⟨rv, k10, e10⟩ := q
                simp only at hS ⊢
                refine o_n (N_bsA (by repeat (first | exact Gt.here | apply Gt.there (by rfl) | exact Gt.base (by rfl))) Try.underlying25 inf37 rfl rfl (by omega) (by omega)) (fun _ => (by first | exact keep_no rfl | exact keep_sub (by repeat (first | exact List.Sublist.refl _ | exact List.nil_sublist _ | apply List.Sublist.cons_cons | apply List.Sublist.cons)))) rfl rfl (fun b131 _ => ?_)
                refine o_n (N_appR (bytes := 40) hB (List.perm_append_comm (l₁ := B) (l₂ := [_, _, _, _])) rfl rfl Try.underlying25 inf37 rfl (by omega) (src (by repeat (first | exact List.Mem.head _ | assumption | apply List.Mem.tail | apply List.mem_append_right))) (by rfl) (by simp [Rec.cells, Value.oneCell']) (by omega) (by omega) (by omega)) (fun _ => (by first | exact keep_no rfl | exact keep_sub (by repeat (first | exact List.Sublist.refl _ | exact List.nil_sublist _ | apply List.Sublist.cons_cons | apply List.Sublist.cons)))) rfl rfl (fun ⟨g132, cp132⟩ hc132 => ?_)
                refine o_y (Y_fa 17 rfl Try.underlying42 rfl sz25 rfl) rfl rfl ?_
                refine o_s (S_st rfl (by repeat (first | exact Gt.here | apply Gt.there (by rfl) | exact Gt.base (by rfl))) sz25 (by rfl) (by repeat (first | exact Upd.head | apply Upd.tail)) (by first | (simp only [Nat.zero_add, Nat.reduceAdd, List.set_cons_succ, List.set_cons_zero]; rfl) | rfl) (by first | (simp; done) | omega)) (by first | exact keep_no rfl | exact keep_sub (by repeat (first | exact List.Sublist.refl _ | exact List.nil_sublist _ | apply List.Sublist.cons_cons | apply List.Sublist.cons))) rfl ?_
                refine o_nil ?_
                refine q_bn ?_
                refine q_then ?_
                refine c_reg ?_
                refine s_y (Y_mv) rfl rfl ?_
                refine s_y ((by first | exact Y_add rfl rfl (by omega) | exact Y_addw rfl rfl)) rfl rfl ?_
                refine s_y (Y_as) rfl rfl ?_
                refine s_nil ?_
                have hrow : Row 37 5 (.slice (some ⟨g132, 0, none⟩) (xs.length + 1) cp132) (xs ++ [rv]).length (rcells (xs ++ [rv])) [⟨g132, 37, 5, cp132, rcells xs ++ rv.cells⟩] := by
                  rw [List.length_append, rcells_snoc]
                  exact .some hc132 (by simp [rcells_length, Rec.cells]; omega)
                refine hK (n2 - 1) (i + 1, .slice (some ⟨g132, 0, none⟩) (xs.length + 1) cp132, [⟨g132, 37, 5, cp132, rcells xs ++ rv.cells⟩]) _ _ (by omega) ⟨by simp only; omega, by rw [hS]; exact hrow⟩ ⟨rfl, trivial⟩ rfl (fun w h => ?_)
                dsimp only
                rw [hS]
                exact (h.sub (L' := [_, _, _, _]) (by repeat (first | exact List.Sublist.refl _ | exact List.nil_sublist _ | apply List.Sublist.cons_cons | apply List.Sublist.cons))).perm (List.perm_append_singleton _ [_, _, _])
              · have hm2 := hgo him he2
                refine c_F (t := decide ((stopX (recX bs) i k8 e9).2.2 = 0)) (by rfl) (decide_eq_false he2) ?_
                refine c_exit ?_
                repeat with_reducible refine q_te ?_
                refine q_exit ?_
                rw [← hm2] at hB ⊢
                rw [← hRu] at hB ⊢
                have hpl := rst_le (bs := bs) (k := k6) (e := e6) hle6
                clear hRu
                generalize rst bs k6 e6 = q at *
                obtain ⟨rs, p⟩ := q
                simp only at hB hRS hpl ⊢
                have hkl := seatK_le hpl
                refine q_then ?_
                refine c_seq ?_
                refine c_seq ?_
                refine c_reg ?_
                refine s_y (Y_asC) rfl rfl ?_
                refine s_nil ?_
                refine q_then ?_
                refine c_block ?_
                refine c_loop [9, 134, 135, 136, 137, 138, 139, 140, 141, 142, 143, 144, 145, 146, 147] (fun n2 (y : Nat × (Nat → Value) × List Bk) => y.1 + n2 = 4 ∧ (∀ z ∈ B, z ∈ y.2.2) ∧ ∀ s, s < y.1 → RowIn (y.2.1 s) (sZ bs p s) y.2.2) (fun y => [(9, .int .i64 (y.1 : Int))]) (fun y => ib b14 a n c (seatK bs p y.1).1 (seatK bs p y.1).2 :: ⟨b5, 42, 30, 1, dnC z1 z2 z3 sv z5 z6 u (hh (sF bs p) y.1) y.2.1 0⟩ :: ⟨b2, 42, 30, 1, zc 0⟩ :: y.2.2) 4 (0, (fun _ => .slice none 0 0), B) ⟨by omega, fun _ h => h, fun s hs => absurd hs (by omega)⟩ ⟨rfl, trivial⟩ (fun _ h => h) (fun _ => rfl) ?_
                rintro n3 ⟨s, us, bl⟩ js ⟨hs4, hBl, hus⟩ K2 hK2
                simp only at hs4 hBl hus ⊢
                refine c_seq ?_
                refine c_seq ?_
                refine c_reg ?_
                refine s_y (Y_mv) rfl rfl ?_
                refine s_y (Y_lss rfl rfl) rfl rfl ?_
                refine s_nil ?_
                refine q_then ?_
                refine c_cond' rfl (fun h => ?_) (fun h => ?_)
                · have hs5 : s < 4 := by omega
                  have hKS := seatK_S (bs := bs) (p := p) (i := s)
                  have hF : sF bs p s = (n4 bs (seatK bs p s)).1 := rfl
                  have hZ : sZ bs p s = (rowS bs (n4 bs (seatK bs p s)).2.1 (n4 bs (seatK bs p s)).2.2).1 := rfl
                  have hksl := hkl s
                  have hset1 := dn_set1 (e := z1) (t := z2) (st := z3) (se := sv) (ba := z5) (fr := z6) (ack := 0) (str := u) (F := hh (sF bs p) s) (us := us) (z := sF bs p s) hs5
                  rw [hh_upd] at hset1
                  refine c_skip ?_
                  refine q_then ?_
                  refine c_seq ?_
                  refine c_block ?_
                  refine c_seq ?_
                  generalize seatK bs p s = q at *
                  obtain ⟨kx, ex⟩ := q
                  simp only [n4] at hKS hF hZ hksl ⊢
                  refine c_reg ?_
                  refine s_y (Y_mv) rfl rfl ?_
                  refine s_y (Y_mv) rfl rfl ?_
                  refine s_cm [ib b14 a n c kx ex] (En_call (fun _ => rfl) Try.func28 rfl (by kernel_rfl) rfl) (by repeat (first | exact Sels.nil | apply Sels.cons (by repeat (first | exact Sel.head | apply Sel.tail)))) (fun w hH => innum_d (k := kx) (e := ex) (hH.at' (by repeat (first | exact List.Mem.head _ | assumption | apply List.Mem.tail | apply List.mem_append_right))) (hs.call (xs := [ib b14 a n c kx ex]) hH (by simp)) (by omega)) rfl rfl ?_
                  rintro _ _ ⟨rfl, rfl⟩
                  have hley := rdNum_le (bs := bs) (m := 4) (f := 0) (t := 1073741823) (k := kx) (e := ex) hksl
                  rw [← hF]
                  generalize (rdNum bs 4 0 1073741823 kx ex).2 = q at *
                  obtain ⟨ky, ey⟩ := q
                  simp only at hKS hZ hley ⊢
                  refine s_y (Y_fa 18 rfl Try.underlying42 rfl sz23 rfl) rfl rfl ?_
                  refine s_y (Y_iaA rfl rfl Try.underlying23 sz3 rfl (by omega)) rfl rfl ?_
                  refine s_s (S_st rfl (by repeat (first | exact Gt.here | apply Gt.there (by rfl) | exact Gt.base (by rfl))) sz3 (by rfl) (by repeat (first | exact Upd.head | apply Upd.tail)) hset1 (by simp; omega)) rfl ?_
                  refine s_nil ?_
                  refine q_then ?_
                  refine c_reg ?_
                  refine s_y (Y_mv) rfl rfl ?_
                  refine s_y (Y_mv) rfl rfl ?_
                  refine s_cm [ib b14 a n c ky ey] (En_call (fun _ => rfl) Try.func31 rfl (by kernel_rfl) rfl) (by repeat (first | exact Sels.nil | apply Sels.cons (by repeat (first | exact Sel.head | apply Sel.tail)))) (fun w hH => inrow_d (k := ky) (e := ey) (hH.at' (by repeat (first | exact List.Mem.head _ | assumption | apply List.Mem.tail | apply List.mem_append_right))) (hs.call (xs := [ib b14 a n c ky ey]) hH (by simp)) (by omega)) rfl rfl ?_
                  rintro _ _ ⟨B2, hB2, rfl⟩
                  rename_i v7
                  have hv1 := Row.one hB2
                  have hset2 := dn_set2 (e := z1) (t := z2) (st := z3) (se := sv) (ba := z5) (fr := z6) (ack := 0) (str := u) (F := hh (sF bs p) (s + 1)) (us := us) (v := v7) hs5
                  refine QL.perm (.cons _ List.perm_append_comm) ?_
                  refine s_y (Y_fa 22 rfl Try.underlying42 rfl sz26 rfl) rfl rfl ?_
                  refine s_y (Y_iaA rfl rfl Try.underlying26 sz24 rfl (by omega)) rfl rfl ?_
                  refine s_s (S_st rfl (by repeat (first | exact Gt.here | apply Gt.there (by rfl) | exact Gt.base (by rfl))) sz24 hv1 (by repeat (first | exact Upd.head | apply Upd.tail)) hset2 (by simp; omega)) rfl ?_
                  refine s_nil ?_
                  refine q_bn ?_
                  refine q_then ?_
                  refine c_reg ?_
                  refine s_y (Y_mv) rfl rfl ?_
                  refine s_y ((by first | exact Y_add rfl rfl (by omega) | exact Y_addw rfl rfl)) rfl rfl ?_
                  refine s_y (Y_as) rfl rfl ?_
                  refine s_nil ?_
                  refine hK2 (n3 - 1) (s + 1, updV us s v7, bl ++ B2) _ _ (by omega) ⟨by simp only; omega, fun z hz => List.mem_append_left _ (hBl z hz), fun s' hs' => ?_⟩ ⟨rfl, trivial⟩ rfl (fun w h => ?_)
                  · simp only at hs' ⊢
                    unfold updV
                    by_cases hss : s' = s
                    · subst hss
                      rw [if_pos rfl, hZ]
                      exact ⟨B2, hB2, fun y hy => List.mem_append_right _ hy⟩
                    · rw [if_neg hss]
                      exact (hus s' (by omega)).mono fun y hy => List.mem_append_left _ hy
                  · dsimp only
                    rw [hKS]
                    exact h
                · obtain rfl : s = 4 := by omega
                  refine c_exit ?_
                  repeat with_reducible refine q_te ?_
                  refine q_exit ?_
                  refine q_then ?_
                  have hksl := hkl 4
                  have hKe := fun h => seatK_bad (bs := bs) (p := p) h 4
                  refine c_reg ?_
                  refine s_y (Y_mv) rfl rfl ?_
                  refine s_cm [ib b14 a n c (seatK bs p 4).1 (seatK bs p 4).2] (En_call (fun _ => rfl) Try.func28 rfl (by kernel_rfl) rfl) (by repeat (first | exact Sels.nil | apply Sels.cons (by repeat (first | exact Sel.head | apply Sel.tail)))) (fun w hH => innum_d (k := (seatK bs p 4).1) (e := (seatK bs p 4).2) (hH.at' (by repeat (first | exact List.Mem.head _ | assumption | apply List.Mem.tail | apply List.mem_append_right))) (hs.call (xs := [ib b14 a n c (seatK bs p 4).1 (seatK bs p 4).2]) hH (by simp)) (by omega)) rfl rfl ?_
                  rintro _ _ ⟨rfl, rfl⟩
                  refine s_y (Y_fa 26 rfl Try.underlying42 rfl sz3 rfl) rfl rfl ?_
                  refine s_s (S_st rfl (by repeat (first | exact Gt.here | apply Gt.there (by rfl) | exact Gt.base (by rfl))) sz3 (by rfl) (by repeat (first | exact Upd.head | apply Upd.tail)) (by first | (simp only [Nat.zero_add, Nat.reduceAdd, List.set_cons_succ, List.set_cons_zero]; rfl) | rfl) (by first | (simp; done) | omega)) rfl ?_
                  refine s_nil ?_
                  refine q_bn ?_
                  have hle9 := rdNum_le (bs := bs) (m := 4) (f := 0) (t := 1073741823) (k := (seatK bs p 4).1) (e := (seatK bs p 4).2) hksl
                  obtain ⟨a', cp, rfl, hnil, hRa⟩ := row_recs hB
                  obtain ⟨a0, c0, u0, n0, I0⟩ := (hus 0 (by omega)).ints
                  obtain ⟨a1, c1, u1, n1, I1⟩ := (hus 1 (by omega)).ints
                  obtain ⟨a2, c2, u2, n2', I2⟩ := (hus 2 (by omega)).ints
                  obtain ⟨a3, c3, u3, n3', I3⟩ := (hus 3 (by omega)).ints
                  have hhx : (hh (sF bs p) 4 0 = sF bs p 0) ∧ (hh (sF bs p) 4 1 = sF bs p 1) ∧ (hh (sF bs p) 4 2 = sF bs p 2) ∧ (hh (sF bs p) 4 3 = sF bs p 3) := ⟨rfl, rfl, rfl, rfl⟩
                  rw [u0, u1, u2, u3, hhx.1, hhx.2.1, hhx.2.2.1, hhx.2.2.2]
                  have hpI : pI bs 3 = (downD (downX bs 1 0).1, (downX bs 1 0).2) := by
                    unfold pI
                    rw [if_neg (by decide), if_neg (by decide), if_pos rfl]
                  have hM : RefM bs 3 (msgCells { downD ([z1, z2], z3, z4, [z5, z6], rs, ((sF bs p 0, sZ bs p 0), (sF bs p 1, sZ bs p 1), (sF bs p 2, sZ bs p 2), (sF bs p 3, sZ bs p 3)), (n4 bs (seatK bs p 4)).1) with ra := a', rl := rs.length, rc := cp, sa := (fun s => match s with | 0 => a0 | 1 => a1 | 2 => a2 | _ => a3), sl := (fun s => (q4 ((sF bs p 0, sZ bs p 0), (sF bs p 1, sZ bs p 1), (sF bs p 2, sZ bs p 2), (sF bs p 3, sZ bs p 3)) s).2.length), sc := (fun s => match s with | 0 => c0 | 1 => c1 | 2 => c2 | _ => c3) }).toList (n4 bs (seatK bs p 4)).2.1 (n4 bs (seatK bs p 4)).2.2 bl := by
                    by_cases hp : p.2 = 0
                    · have hsx := hRS.2 (by rw [← hRS.1]; exact hp)
                      rw [← hsx, seatsX_K] at hU
                      simp only at hU
                      refine ⟨by rw [hpI, hU], fun he => ?_⟩
                      have hk4 : (seatK bs p 4).2 = 0 := by
                        rcases Int.decEq (seatK bs p 4).2 0 with h4 | h4
                        · exact absurd ((n4_stick h4).symm.trans he) h4
                        · exact h4
                      have q0 := rowS_seat hk4 (i := 0) (by omega); have q1 := rowS_seat hk4 (i := 1) (by omega); have q2 := rowS_seat hk4 (i := 2) (by omega); have q3 := rowS_seat hk4 (i := 3) (by omega)
                      rw [hpI, hU, q0, q1, q2, q3]
                      refine ⟨rfl, _, rfl, ?_, fun hsm w hw => ?_, rfl⟩
                      · exact ⟨rfl, rfl, fun _ => rfl, fun _ => rfl, fun _ => ⟨rfl, rfl, fun _ _ => rfl, rfl, rfl, rfl⟩, fun _ => ⟨rfl, rfl, rfl, rfl, rfl, fun _ _ => rfl, fun _ _ => rfl, rfl⟩, fun _ => ⟨rfl, rfl, rfl, rfl⟩⟩
                      · have s1 := hsm.str
                        have s2 := hsm.sts
                        refine ⟨hsm.bits, .inl rfl, rfl, fun _ => ⟨rfl, rfl⟩, by simp [downD], hRa w (fun y hy => hw y (hBl y hy)), rfl, hnil, by simp only [downD] at s1; simp only; omega, fun s hs => ?_, fun _ _ => rfl, fun s hs => ?_, fun s hs => ?_, ⟨rfl, .inl rfl⟩, fun _ => rfl⟩
                        · obtain rfl | rfl | rfl | rfl : s = 0 ∨ s = 1 ∨ s = 2 ∨ s = 3 := by omega
                          · exact I0 w hw
                          · exact I1 w hw
                          · exact I2 w hw
                          · exact I3 w hw
                        · obtain rfl | rfl | rfl | rfl : s = 0 ∨ s = 1 ∨ s = 2 ∨ s = 3 := by omega
                          · exact n0
                          · exact n1
                          · exact n2'
                          · exact n3'
                        · have := s2 s hs
                          simp only [downD] at this
                          simp only
                          omega
                    · have hp2 : (streamX bs k6 e6).2.2 ≠ 0 := by rw [← hRS.1]; exact hp
                      have hb1 : (n4 bs (seatK bs p 4)).2.2 = p.2 := by
                        rw [hKe hp]; exact n4_stick hp
                      have hb2 : (downX bs 1 0).2.2 = (streamX bs k6 e6).2.2 := by
                        rw [hU]
                        simp only
                        have h1 := seats_bij.stick (bs := bs) (k := (streamX bs k6 e6).2.1) hp2
                        have h2 := n4_bij.stick (bs := bs) (k := (seatsX bs (streamX bs k6 e6).2.1 (streamX bs k6 e6).2.2).2.1) (e := (seatsX bs (streamX bs k6 e6).2.1 (streamX bs k6 e6).2.2).2.2) (by rw [h1]; exact hp2)
                        exact h2.trans h1
                      refine ⟨by rw [hb1, hpI, hb2]; exact hRS.1, fun he => ?_⟩
                      rw [hb1] at he
                      exact absurd he hp
                  clear hU hRS hpI hus hB hBl hRa I0 I1 I2 I3
                  rw [hsv]
                  refine QL.perm (L' := ib b14 a n c (n4 bs (seatK bs p 4)).2.1 (n4 bs (seatK bs p 4)).2.2 :: ⟨b5, 42, 30, 1, (msgCells { downD ([z1, z2], z3, z4, [z5, z6], rs, ((sF bs p 0, sZ bs p 0), (sF bs p 1, sZ bs p 1), (sF bs p 2, sZ bs p 2), (sF bs p 3, sZ bs p 3)), (n4 bs (seatK bs p 4)).1) with ra := a', rl := rs.length, rc := cp, sa := (fun s => match s with | 0 => a0 | 1 => a1 | 2 => a2 | _ => a3), sl := (fun s => (q4 ((sF bs p 0, sZ bs p 0), (sF bs p 1, sZ bs p 1), (sF bs p 2, sZ bs p 2), (sF bs p 3, sZ bs p 3)) s).2.length), sc := (fun s => match s with | 0 => c0 | 1 => c1 | 2 => c2 | _ => c3) }).toList⟩ :: ⟨b2, 42, 30, 1, zc 0⟩ :: bl) (List.Perm.refl _) ?_
                  have hle9' : (n4 bs (seatK bs p 4)).2.1 ≤ bs.length := hle9
                  clear hle9
                  generalize (n4 bs (seatK bs p 4)) = qq at *
                  obtain ⟨zq, kq, eq9⟩ := qq
                  simp only at hM hle9' ⊢
                  generalize (msgCells { downD ([z1, z2], z3, z4, [z5, z6], rs, ((sF bs p 0, sZ bs p 0), (sF bs p 1, sZ bs p 1), (sF bs p 2, sZ bs p 2), (sF bs p 3, sZ bs p 3)), zq) with ra := a', rl := rs.length, rc := cp, sa := (fun s => match s with | 0 => a0 | 1 => a1 | 2 => a2 | _ => a3), sl := (fun s => (q4 ((sF bs p 0, sZ bs p 0), (sF bs p 1, sZ bs p 1), (sF bs p 2, sZ bs p 2), (sF bs p 3, sZ bs p 3)) s).2.length), sc := (fun s => match s with | 0 => c0 | 1 => c1 | 2 => c2 | _ => c3) }).toList = C at *
                  obtain ⟨hM1, hM2⟩ := hM
                  rw [← hM1] at hpE
                  refine q_then ?_
                  refine c_seq ?_
                  refine c_seq ?_
                  refine c_reg ?_
                  refine s_y (Y_mv) rfl rfl ?_
                  refine s_y ((by first | exact Y_nil rfl | exact Y_nilF rfl | exact Y_nilM rfl (by assumption) | exact Y_nilM rfl (by intro w k; kernel_rfl))) rfl rfl ?_
                  refine s_y (Y_fa 2 rfl Try.underlying72 rfl sz3 rfl) rfl rfl ?_
                  refine s_y ((by first | exact Y_load rfl one3 (by repeat (first | exact List.Mem.head _ | assumption | apply List.Mem.tail | apply List.mem_append_right)) (by rfl) | exact Y_load rfl one3 (by repeat (first | exact List.Mem.head _ | assumption | apply List.Mem.tail | apply List.mem_append_right)) (by assumption) | exact Y_loadR rfl one3 (by assumption) rfl (by assumption))) rfl rfl ?_
                  refine s_y (Y_neq rfl rfl) rfl rfl ?_
                  refine s_nil ?_
                  refine q_then ?_
                  by_cases he : eq9 = 0
                  · subst he
                    obtain ⟨hK, o, hC, hSm, hMs, hDl⟩ := hM2 rfl
                    rw [← hK] at hpE
                    refine c_F rfl (by simp) ?_
                    refine c_skip ?_
                    refine q_then ?_
                    refine c_seq ?_
                    refine c_seq ?_
                    refine c_reg ?_
                    refine s_y (Y_mv) rfl rfl ?_
                    refine s_y ((by first | exact Y_nil rfl | exact Y_nilF rfl | exact Y_nilM rfl (by assumption) | exact Y_nilM rfl (by intro w k; kernel_rfl))) rfl rfl ?_
                    refine s_y (Y_fa 1 rfl Try.underlying72 rfl sz3 rfl) rfl rfl ?_
                    refine s_y ((by first | exact Y_load rfl one3 (by repeat (first | exact List.Mem.head _ | assumption | apply List.Mem.tail | apply List.mem_append_right)) (by rfl) | exact Y_load rfl one3 (by repeat (first | exact List.Mem.head _ | assumption | apply List.Mem.tail | apply List.mem_append_right)) (by assumption) | exact Y_loadR rfl one3 (by assumption) rfl (by assumption))) rfl rfl ?_
                    refine s_y (Y_mv) rfl rfl ?_
                    refine s_y (Y_len rfl rfl Try.underlying27) rfl rfl ?_
                    refine s_y (Y_lss rfl rfl) rfl rfl ?_
                    refine s_nil ?_
                    refine q_then ?_
                    by_cases hkn : kq = bs.length
                    · rw [decide_eq_true hkn] at hpE
                      refine c_F rfl (decide_eq_false (by omega)) ?_
                      refine c_skip ?_
                      refine q_then ?_
                      refine c_seq ?_
                      rw [hC]
                      refine c_reg ?_
                      refine s_y ((by first | exact Y_loadAll rfl many42 (by repeat (first | exact List.Mem.head _ | assumption | apply List.Mem.tail | apply List.mem_append_right)) (by rfl) | exact Y_loadN rfl many42 (by repeat (first | exact List.Mem.head _ | assumption | apply List.Mem.tail | apply List.mem_append_right)) ‹_› ‹_› | exact Y_loadNR rfl many42 ‹_› rfl)) rfl rfl ?_
                      refine s_s ((by first | exact S_storeA rfl rfl sz42 (by first | rfl | assumption) (by first | rfl | assumption) (by repeat (first | exact Upd.head | apply Upd.tail)) (by first | rfl | assumption) | exact S_storeN rfl rfl sz42 (by rfl) (by first | rfl | assumption) (by repeat (first | exact Upd.head | apply Upd.tail)) (by simp only [setAll, List.set_cons_zero, List.set_cons_succ, Nat.zero_add, Nat.reduceAdd]; rfl) (by first | rfl | assumption))) rfl ?_
                      refine s_y (Y_asC) rfl rfl ?_
                      refine s_nil ?_
                      refine q_then ?_
                      refine c_ret ?_
                      exact q_ret2c rfl rfl many42 rfl (by repeat (first | exact List.Mem.head _ | assumption | apply List.Mem.tail | apply List.mem_append_right)) rfl (L' := bl) sub3 (.ok hbs hx hpE (by rw [hk]; exact hSm) (by rw [hk]; exact hMs) hDl)
                    · rw [decide_eq_false hkn] at hpE
                      refine c_T rfl (decide_eq_true (by omega)) ?_
                      refine c_seq ?_
                      refine c_reg ?_
                      refine s_y (Y_build (cs := [.int .i64 0, .int .i64 0, .int .i64 0, .bool false, .int .u32 0, .int .i64 0, .int .i64 0, .int .i64 0, .int .i64 0, .int .i64 0, .int .i64 0, .int .i64 0, .slice none 0 0, .int .i64 0, .int .i64 0, .int .i64 0, .int .i64 0, .slice none 0 0, .int .i64 0, .int .i64 0, .int .i64 0, .int .i64 0, .slice none 0 0, .slice none 0 0, .slice none 0 0, .slice none 0 0, .int .i64 0, .int .i64 0, .int .i64 0, .slice none 0 0]) (by repeat (first | exact Gp.nil | apply Gp.const | apply Gp.tmp (by repeat (first | exact Gt.here | apply Gt.there (by rfl) | exact Gt.base (by rfl))))) (bld42 _ _ (by first | rfl | (simp; rfl)))) rfl rfl ?_
                      refine s_s ((by first | exact S_storeA rfl rfl sz42 (by first | rfl | assumption) (by first | rfl | assumption) (by repeat (first | exact Upd.head | apply Upd.tail)) (by first | rfl | assumption) | exact S_storeN rfl rfl sz42 (by rfl) (by first | rfl | assumption) (by repeat (first | exact Upd.head | apply Upd.tail)) (by simp only [setAll, List.set_cons_zero, List.set_cons_succ, Nat.zero_add, Nat.reduceAdd]; rfl) (by first | rfl | assumption))) rfl ?_
                      refine s_y (Y_asC) rfl rfl ?_
                      refine s_nil ?_
                      refine q_then ?_
                      refine c_ret ?_
                      refine q_ret2c rfl rfl many42 rfl (by repeat (first | exact List.Mem.head _ | assumption | apply List.Mem.tail | apply List.mem_append_right)) rfl (L' := []) (List.nil_sublist _) (.bad hpE (by decide))
                  · have hpE2 : pErr bs = eq9 := by rw [hpE]; simp [noted, he]
                    refine c_T rfl (by simp [he]) ?_
                    refine c_seq ?_
                    refine c_rord [] [(0, true), (1, true), (2, true), (3, true), (4, true), (5, false), (6, true)] (by kernel_rfl) (by kernel_rfl) (by kernel_rfl) (by kernel_rfl) rfl (by intro c a d v w h; cases d <;> exact h) rfl ?_
                    simp only [mkOrd, List.filterMap_cons, List.filterMap_nil, List.getElem?_toArray, List.getElem?_cons_zero, List.getElem?_cons_succ, Option.map_some]
                    refine o_y (Y_build (cs := [.int .i64 0, .int .i64 0, .int .i64 0, .bool false, .int .u32 0, .int .i64 0, .int .i64 0, .int .i64 0, .int .i64 0, .int .i64 0, .int .i64 0, .int .i64 0, .slice none 0 0, .int .i64 0, .int .i64 0, .int .i64 0, .int .i64 0, .slice none 0 0, .int .i64 0, .int .i64 0, .int .i64 0, .int .i64 0, .slice none 0 0, .slice none 0 0, .slice none 0 0, .slice none 0 0, .int .i64 0, .int .i64 0, .int .i64 0, .slice none 0 0]) (by repeat (first | exact Gp.nil | apply Gp.const | apply Gp.tmp (by repeat (first | exact Gt.here | apply Gt.there (by rfl) | exact Gt.base (by rfl))))) (bld42 _ _ (by first | rfl | (simp; rfl)))) rfl rfl ?_
                    refine o_y (Y_mv) rfl rfl ?_
                    refine o_y ((by first | exact Y_nil rfl | exact Y_nilF rfl | exact Y_nilM rfl (by assumption) | exact Y_nilM rfl (by intro w k; kernel_rfl))) rfl rfl ?_
                    refine o_y (Y_fa 2 rfl Try.underlying72 rfl sz3 rfl) rfl rfl ?_
                    refine o_y ((by first | exact Y_load rfl one3 (by repeat (first | exact List.Mem.head _ | assumption | apply List.Mem.tail | apply List.mem_append_right)) (by rfl) | exact Y_load rfl one3 (by repeat (first | exact List.Mem.head _ | assumption | apply List.Mem.tail | apply List.mem_append_right)) (by assumption) | exact Y_loadR rfl one3 (by assumption) rfl (by assumption))) rfl rfl ?_
                    refine o_s ((by first | exact S_storeA rfl rfl sz42 (by first | rfl | assumption) (by first | rfl | assumption) (by repeat (first | exact Upd.head | apply Upd.tail)) (by first | rfl | assumption) | exact S_storeN rfl rfl sz42 (by rfl) (by first | rfl | assumption) (by repeat (first | exact Upd.head | apply Upd.tail)) (by simp only [setAll, List.set_cons_zero, List.set_cons_succ, Nat.zero_add, Nat.reduceAdd]; rfl) (by first | rfl | assumption))) (by first | exact keep_no rfl | exact keep_sub (by repeat (first | exact List.Sublist.refl _ | exact List.nil_sublist _ | apply List.Sublist.cons_cons | apply List.Sublist.cons))) rfl ?_
                    refine o_y (Y_as) rfl rfl ?_
                    refine o_nil ?_
                    refine q_then ?_
                    refine c_ret ?_
                    refine q_ret2c rfl rfl many42 rfl (by repeat (first | exact List.Mem.head _ | assumption | apply List.Mem.tail | apply List.mem_append_right)) rfl (L' := []) (List.nil_sublist _) (.bad hpE2 he)
            · obtain rfl : i = m := by omega
              refine s_known (d := 118) rfl (decide_eq_false (by omega)) ?_
              first | refine s_y (Y_mv) rfl rfl ?_ | refine s_pass rfl rfl ?_
              first | refine s_y ((by first | exact Y_nil rfl | exact Y_nilF rfl | exact Y_nilM rfl (by assumption) | exact Y_nilM rfl (by intro w k; kernel_rfl))) rfl rfl ?_ | refine s_pass rfl rfl ?_
              first | refine s_y (Y_fa 2 rfl Try.underlying72 rfl sz3 rfl) rfl rfl ?_ | refine s_pass rfl rfl ?_
              first | refine s_y ((by first | exact Y_load rfl one3 (by repeat (first | exact List.Mem.head _ | assumption | apply List.Mem.tail | apply List.mem_append_right)) (by rfl) | exact Y_load rfl one3 (by repeat (first | exact List.Mem.head _ | assumption | apply List.Mem.tail | apply List.mem_append_right)) (by assumption) | exact Y_loadR rfl one3 (by assumption) rfl (by assumption))) rfl rfl ?_ | refine s_pass rfl rfl ?_
              first | refine s_y (Y_eql rfl rfl) rfl rfl ?_ | refine s_pass rfl rfl ?_
              refine s_y (Y_pk rfl (Gx.tmp (by repeat (first | exact Gt.here | apply Gt.there (by rfl) | exact Gt.base (by rfl)))) Gx.const) rfl rfl ?_
              refine s_nil ?_
              refine q_then ?_
              refine c_F rfl rfl ?_
              refine c_exit ?_
              repeat with_reducible refine q_te ?_
              refine q_exit ?_
              rw [← hRu] at hB ⊢
              have hpl := rst_le (bs := bs) (k := k6) (e := e6) hle6
              clear hRu
              generalize rst bs k6 e6 = q at *
              obtain ⟨rs, p⟩ := q
              simp only at hB hRS hpl ⊢
              have hkl := seatK_le hpl
              refine q_then ?_
              refine c_seq ?_
              refine c_seq ?_
              refine c_reg ?_
              refine s_y (Y_asC) rfl rfl ?_
              refine s_nil ?_
              refine q_then ?_
              refine c_block ?_
              refine c_loop [9, 134, 135, 136, 137, 138, 139, 140, 141, 142, 143, 144, 145, 146, 147] (fun n2 (y : Nat × (Nat → Value) × List Bk) => y.1 + n2 = 4 ∧ (∀ z ∈ B, z ∈ y.2.2) ∧ ∀ s, s < y.1 → RowIn (y.2.1 s) (sZ bs p s) y.2.2) (fun y => [(9, .int .i64 (y.1 : Int))]) (fun y => ib b14 a n c (seatK bs p y.1).1 (seatK bs p y.1).2 :: ⟨b5, 42, 30, 1, dnC z1 z2 z3 sv z5 z6 u (hh (sF bs p) y.1) y.2.1 0⟩ :: ⟨b2, 42, 30, 1, zc 0⟩ :: y.2.2) 4 (0, (fun _ => .slice none 0 0), B) ⟨by omega, fun _ h => h, fun s hs => absurd hs (by omega)⟩ ⟨rfl, trivial⟩ (fun _ h => h) (fun _ => rfl) ?_
              rintro n3 ⟨s, us, bl⟩ js ⟨hs4, hBl, hus⟩ K2 hK2
              simp only at hs4 hBl hus ⊢
              refine c_seq ?_
              refine c_seq ?_
              refine c_reg ?_
              refine s_y (Y_mv) rfl rfl ?_
              refine s_y (Y_lss rfl rfl) rfl rfl ?_
              refine s_nil ?_
              refine q_then ?_
              refine c_cond' rfl (fun h => ?_) (fun h => ?_)
              · have hs5 : s < 4 := by omega
                have hKS := seatK_S (bs := bs) (p := p) (i := s)
                have hF : sF bs p s = (n4 bs (seatK bs p s)).1 := rfl
                have hZ : sZ bs p s = (rowS bs (n4 bs (seatK bs p s)).2.1 (n4 bs (seatK bs p s)).2.2).1 := rfl
                have hksl := hkl s
                have hset1 := dn_set1 (e := z1) (t := z2) (st := z3) (se := sv) (ba := z5) (fr := z6) (ack := 0) (str := u) (F := hh (sF bs p) s) (us := us) (z := sF bs p s) hs5
                rw [hh_upd] at hset1
                refine c_skip ?_
                refine q_then ?_
                refine c_seq ?_
                refine c_block ?_
                refine c_seq ?_
                generalize seatK bs p s = q at *
                obtain ⟨kx, ex⟩ := q
                simp only [n4] at hKS hF hZ hksl ⊢
                refine c_reg ?_
                refine s_y (Y_mv) rfl rfl ?_
                refine s_y (Y_mv) rfl rfl ?_
                refine s_cm [ib b14 a n c kx ex] (En_call (fun _ => rfl) Try.func28 rfl (by kernel_rfl) rfl) (by repeat (first | exact Sels.nil | apply Sels.cons (by repeat (first | exact Sel.head | apply Sel.tail)))) (fun w hH => innum_d (k := kx) (e := ex) (hH.at' (by repeat (first | exact List.Mem.head _ | assumption | apply List.Mem.tail | apply List.mem_append_right))) (hs.call (xs := [ib b14 a n c kx ex]) hH (by simp)) (by omega)) rfl rfl ?_
                rintro _ _ ⟨rfl, rfl⟩
                have hley := rdNum_le (bs := bs) (m := 4) (f := 0) (t := 1073741823) (k := kx) (e := ex) hksl
                rw [← hF]
                generalize (rdNum bs 4 0 1073741823 kx ex).2 = q at *
                obtain ⟨ky, ey⟩ := q
                simp only at hKS hZ hley ⊢
                refine s_y (Y_fa 18 rfl Try.underlying42 rfl sz23 rfl) rfl rfl ?_
                refine s_y (Y_iaA rfl rfl Try.underlying23 sz3 rfl (by omega)) rfl rfl ?_
                refine s_s (S_st rfl (by repeat (first | exact Gt.here | apply Gt.there (by rfl) | exact Gt.base (by rfl))) sz3 (by rfl) (by repeat (first | exact Upd.head | apply Upd.tail)) hset1 (by simp; omega)) rfl ?_
                refine s_nil ?_
                refine q_then ?_
                refine c_reg ?_
                refine s_y (Y_mv) rfl rfl ?_
                refine s_y (Y_mv) rfl rfl ?_
                refine s_cm [ib b14 a n c ky ey] (En_call (fun _ => rfl) Try.func31 rfl (by kernel_rfl) rfl) (by repeat (first | exact Sels.nil | apply Sels.cons (by repeat (first | exact Sel.head | apply Sel.tail)))) (fun w hH => inrow_d (k := ky) (e := ey) (hH.at' (by repeat (first | exact List.Mem.head _ | assumption | apply List.Mem.tail | apply List.mem_append_right))) (hs.call (xs := [ib b14 a n c ky ey]) hH (by simp)) (by omega)) rfl rfl ?_
                rintro _ _ ⟨B2, hB2, rfl⟩
                rename_i v7
                have hv1 := Row.one hB2
                have hset2 := dn_set2 (e := z1) (t := z2) (st := z3) (se := sv) (ba := z5) (fr := z6) (ack := 0) (str := u) (F := hh (sF bs p) (s + 1)) (us := us) (v := v7) hs5
                refine QL.perm (.cons _ List.perm_append_comm) ?_
                refine s_y (Y_fa 22 rfl Try.underlying42 rfl sz26 rfl) rfl rfl ?_
                refine s_y (Y_iaA rfl rfl Try.underlying26 sz24 rfl (by omega)) rfl rfl ?_
                refine s_s (S_st rfl (by repeat (first | exact Gt.here | apply Gt.there (by rfl) | exact Gt.base (by rfl))) sz24 hv1 (by repeat (first | exact Upd.head | apply Upd.tail)) hset2 (by simp; omega)) rfl ?_
                refine s_nil ?_
                refine q_bn ?_
                refine q_then ?_
                refine c_reg ?_
                refine s_y (Y_mv) rfl rfl ?_
                refine s_y ((by first | exact Y_add rfl rfl (by omega) | exact Y_addw rfl rfl)) rfl rfl ?_
                refine s_y (Y_as) rfl rfl ?_
                refine s_nil ?_
                refine hK2 (n3 - 1) (s + 1, updV us s v7, bl ++ B2) _ _ (by omega) ⟨by simp only; omega, fun z hz => List.mem_append_left _ (hBl z hz), fun s' hs' => ?_⟩ ⟨rfl, trivial⟩ rfl (fun w h => ?_)
                · simp only at hs' ⊢
                  unfold updV
                  by_cases hss : s' = s
                  · subst hss
                    rw [if_pos rfl, hZ]
                    exact ⟨B2, hB2, fun y hy => List.mem_append_right _ hy⟩
                  · rw [if_neg hss]
                    exact (hus s' (by omega)).mono fun y hy => List.mem_append_left _ hy
                · dsimp only
                  rw [hKS]
                  exact h
              · obtain rfl : s = 4 := by omega
                refine c_exit ?_
                repeat with_reducible refine q_te ?_
                refine q_exit ?_
                refine q_then ?_
                have hksl := hkl 4
                have hKe := fun h => seatK_bad (bs := bs) (p := p) h 4
                refine c_reg ?_
                refine s_y (Y_mv) rfl rfl ?_
                refine s_cm [ib b14 a n c (seatK bs p 4).1 (seatK bs p 4).2] (En_call (fun _ => rfl) Try.func28 rfl (by kernel_rfl) rfl) (by repeat (first | exact Sels.nil | apply Sels.cons (by repeat (first | exact Sel.head | apply Sel.tail)))) (fun w hH => innum_d (k := (seatK bs p 4).1) (e := (seatK bs p 4).2) (hH.at' (by repeat (first | exact List.Mem.head _ | assumption | apply List.Mem.tail | apply List.mem_append_right))) (hs.call (xs := [ib b14 a n c (seatK bs p 4).1 (seatK bs p 4).2]) hH (by simp)) (by omega)) rfl rfl ?_
                rintro _ _ ⟨rfl, rfl⟩
                refine s_y (Y_fa 26 rfl Try.underlying42 rfl sz3 rfl) rfl rfl ?_
                refine s_s (S_st rfl (by repeat (first | exact Gt.here | apply Gt.there (by rfl) | exact Gt.base (by rfl))) sz3 (by rfl) (by repeat (first | exact Upd.head | apply Upd.tail)) (by first | (simp only [Nat.zero_add, Nat.reduceAdd, List.set_cons_succ, List.set_cons_zero]; rfl) | rfl) (by first | (simp; done) | omega)) rfl ?_
                refine s_nil ?_
                refine q_bn ?_
                have hle9 := rdNum_le (bs := bs) (m := 4) (f := 0) (t := 1073741823) (k := (seatK bs p 4).1) (e := (seatK bs p 4).2) hksl
                obtain ⟨a', cp, rfl, hnil, hRa⟩ := row_recs hB
                obtain ⟨a0, c0, u0, n0, I0⟩ := (hus 0 (by omega)).ints
                obtain ⟨a1, c1, u1, n1, I1⟩ := (hus 1 (by omega)).ints
                obtain ⟨a2, c2, u2, n2', I2⟩ := (hus 2 (by omega)).ints
                obtain ⟨a3, c3, u3, n3', I3⟩ := (hus 3 (by omega)).ints
                have hhx : (hh (sF bs p) 4 0 = sF bs p 0) ∧ (hh (sF bs p) 4 1 = sF bs p 1) ∧ (hh (sF bs p) 4 2 = sF bs p 2) ∧ (hh (sF bs p) 4 3 = sF bs p 3) := ⟨rfl, rfl, rfl, rfl⟩
                rw [u0, u1, u2, u3, hhx.1, hhx.2.1, hhx.2.2.1, hhx.2.2.2]
                have hpI : pI bs 3 = (downD (downX bs 1 0).1, (downX bs 1 0).2) := by
                  unfold pI
                  rw [if_neg (by decide), if_neg (by decide), if_pos rfl]
                have hM : RefM bs 3 (msgCells { downD ([z1, z2], z3, z4, [z5, z6], rs, ((sF bs p 0, sZ bs p 0), (sF bs p 1, sZ bs p 1), (sF bs p 2, sZ bs p 2), (sF bs p 3, sZ bs p 3)), (n4 bs (seatK bs p 4)).1) with ra := a', rl := rs.length, rc := cp, sa := (fun s => match s with | 0 => a0 | 1 => a1 | 2 => a2 | _ => a3), sl := (fun s => (q4 ((sF bs p 0, sZ bs p 0), (sF bs p 1, sZ bs p 1), (sF bs p 2, sZ bs p 2), (sF bs p 3, sZ bs p 3)) s).2.length), sc := (fun s => match s with | 0 => c0 | 1 => c1 | 2 => c2 | _ => c3) }).toList (n4 bs (seatK bs p 4)).2.1 (n4 bs (seatK bs p 4)).2.2 bl := by
                  by_cases hp : p.2 = 0
                  · have hsx := hRS.2 (by rw [← hRS.1]; exact hp)
                    rw [← hsx, seatsX_K] at hU
                    simp only at hU
                    refine ⟨by rw [hpI, hU], fun he => ?_⟩
                    have hk4 : (seatK bs p 4).2 = 0 := by
                      rcases Int.decEq (seatK bs p 4).2 0 with h4 | h4
                      · exact absurd ((n4_stick h4).symm.trans he) h4
                      · exact h4
                    have q0 := rowS_seat hk4 (i := 0) (by omega); have q1 := rowS_seat hk4 (i := 1) (by omega); have q2 := rowS_seat hk4 (i := 2) (by omega); have q3 := rowS_seat hk4 (i := 3) (by omega)
                    rw [hpI, hU, q0, q1, q2, q3]
                    refine ⟨rfl, _, rfl, ?_, fun hsm w hw => ?_, rfl⟩
                    · exact ⟨rfl, rfl, fun _ => rfl, fun _ => rfl, fun _ => ⟨rfl, rfl, fun _ _ => rfl, rfl, rfl, rfl⟩, fun _ => ⟨rfl, rfl, rfl, rfl, rfl, fun _ _ => rfl, fun _ _ => rfl, rfl⟩, fun _ => ⟨rfl, rfl, rfl, rfl⟩⟩
                    · have s1 := hsm.str
                      have s2 := hsm.sts
                      refine ⟨hsm.bits, .inl rfl, rfl, fun _ => ⟨rfl, rfl⟩, by simp [downD], hRa w (fun y hy => hw y (hBl y hy)), rfl, hnil, by simp only [downD] at s1; simp only; omega, fun s hs => ?_, fun _ _ => rfl, fun s hs => ?_, fun s hs => ?_, ⟨rfl, .inl rfl⟩, fun _ => rfl⟩
                      · obtain rfl | rfl | rfl | rfl : s = 0 ∨ s = 1 ∨ s = 2 ∨ s = 3 := by omega
                        · exact I0 w hw
                        · exact I1 w hw
                        · exact I2 w hw
                        · exact I3 w hw
                      · obtain rfl | rfl | rfl | rfl : s = 0 ∨ s = 1 ∨ s = 2 ∨ s = 3 := by omega
                        · exact n0
                        · exact n1
                        · exact n2'
                        · exact n3'
                      · have := s2 s hs
                        simp only [downD] at this
                        simp only
                        omega
                  · have hp2 : (streamX bs k6 e6).2.2 ≠ 0 := by rw [← hRS.1]; exact hp
                    have hb1 : (n4 bs (seatK bs p 4)).2.2 = p.2 := by
                      rw [hKe hp]; exact n4_stick hp
                    have hb2 : (downX bs 1 0).2.2 = (streamX bs k6 e6).2.2 := by
                      rw [hU]
                      simp only
                      have h1 := seats_bij.stick (bs := bs) (k := (streamX bs k6 e6).2.1) hp2
                      have h2 := n4_bij.stick (bs := bs) (k := (seatsX bs (streamX bs k6 e6).2.1 (streamX bs k6 e6).2.2).2.1) (e := (seatsX bs (streamX bs k6 e6).2.1 (streamX bs k6 e6).2.2).2.2) (by rw [h1]; exact hp2)
                      exact h2.trans h1
                    refine ⟨by rw [hb1, hpI, hb2]; exact hRS.1, fun he => ?_⟩
                    rw [hb1] at he
                    exact absurd he hp
                clear hU hRS hpI hus hB hBl hRa I0 I1 I2 I3
                rw [hsv]
                refine QL.perm (L' := ib b14 a n c (n4 bs (seatK bs p 4)).2.1 (n4 bs (seatK bs p 4)).2.2 :: ⟨b5, 42, 30, 1, (msgCells { downD ([z1, z2], z3, z4, [z5, z6], rs, ((sF bs p 0, sZ bs p 0), (sF bs p 1, sZ bs p 1), (sF bs p 2, sZ bs p 2), (sF bs p 3, sZ bs p 3)), (n4 bs (seatK bs p 4)).1) with ra := a', rl := rs.length, rc := cp, sa := (fun s => match s with | 0 => a0 | 1 => a1 | 2 => a2 | _ => a3), sl := (fun s => (q4 ((sF bs p 0, sZ bs p 0), (sF bs p 1, sZ bs p 1), (sF bs p 2, sZ bs p 2), (sF bs p 3, sZ bs p 3)) s).2.length), sc := (fun s => match s with | 0 => c0 | 1 => c1 | 2 => c2 | _ => c3) }).toList⟩ :: ⟨b2, 42, 30, 1, zc 0⟩ :: bl) (List.Perm.refl _) ?_
                have hle9' : (n4 bs (seatK bs p 4)).2.1 ≤ bs.length := hle9
                clear hle9
                generalize (n4 bs (seatK bs p 4)) = qq at *
                obtain ⟨zq, kq, eq9⟩ := qq
                simp only at hM hle9' ⊢
                generalize (msgCells { downD ([z1, z2], z3, z4, [z5, z6], rs, ((sF bs p 0, sZ bs p 0), (sF bs p 1, sZ bs p 1), (sF bs p 2, sZ bs p 2), (sF bs p 3, sZ bs p 3)), zq) with ra := a', rl := rs.length, rc := cp, sa := (fun s => match s with | 0 => a0 | 1 => a1 | 2 => a2 | _ => a3), sl := (fun s => (q4 ((sF bs p 0, sZ bs p 0), (sF bs p 1, sZ bs p 1), (sF bs p 2, sZ bs p 2), (sF bs p 3, sZ bs p 3)) s).2.length), sc := (fun s => match s with | 0 => c0 | 1 => c1 | 2 => c2 | _ => c3) }).toList = C at *
                obtain ⟨hM1, hM2⟩ := hM
                rw [← hM1] at hpE
                refine q_then ?_
                refine c_seq ?_
                refine c_seq ?_
                refine c_reg ?_
                refine s_y (Y_mv) rfl rfl ?_
                refine s_y ((by first | exact Y_nil rfl | exact Y_nilF rfl | exact Y_nilM rfl (by assumption) | exact Y_nilM rfl (by intro w k; kernel_rfl))) rfl rfl ?_
                refine s_y (Y_fa 2 rfl Try.underlying72 rfl sz3 rfl) rfl rfl ?_
                refine s_y ((by first | exact Y_load rfl one3 (by repeat (first | exact List.Mem.head _ | assumption | apply List.Mem.tail | apply List.mem_append_right)) (by rfl) | exact Y_load rfl one3 (by repeat (first | exact List.Mem.head _ | assumption | apply List.Mem.tail | apply List.mem_append_right)) (by assumption) | exact Y_loadR rfl one3 (by assumption) rfl (by assumption))) rfl rfl ?_
                refine s_y (Y_neq rfl rfl) rfl rfl ?_
                refine s_nil ?_
                refine q_then ?_
                by_cases he : eq9 = 0
                · subst he
                  obtain ⟨hK, o, hC, hSm, hMs, hDl⟩ := hM2 rfl
                  rw [← hK] at hpE
                  refine c_F rfl (by simp) ?_
                  refine c_skip ?_
                  refine q_then ?_
                  refine c_seq ?_
                  refine c_seq ?_
                  refine c_reg ?_
                  refine s_y (Y_mv) rfl rfl ?_
                  refine s_y ((by first | exact Y_nil rfl | exact Y_nilF rfl | exact Y_nilM rfl (by assumption) | exact Y_nilM rfl (by intro w k; kernel_rfl))) rfl rfl ?_
                  refine s_y (Y_fa 1 rfl Try.underlying72 rfl sz3 rfl) rfl rfl ?_
                  refine s_y ((by first | exact Y_load rfl one3 (by repeat (first | exact List.Mem.head _ | assumption | apply List.Mem.tail | apply List.mem_append_right)) (by rfl) | exact Y_load rfl one3 (by repeat (first | exact List.Mem.head _ | assumption | apply List.Mem.tail | apply List.mem_append_right)) (by assumption) | exact Y_loadR rfl one3 (by assumption) rfl (by assumption))) rfl rfl ?_
                  refine s_y (Y_mv) rfl rfl ?_
                  refine s_y (Y_len rfl rfl Try.underlying27) rfl rfl ?_
                  refine s_y (Y_lss rfl rfl) rfl rfl ?_
                  refine s_nil ?_
                  refine q_then ?_
                  by_cases hkn : kq = bs.length
                  · rw [decide_eq_true hkn] at hpE
                    refine c_F rfl (decide_eq_false (by omega)) ?_
                    refine c_skip ?_
                    refine q_then ?_
                    refine c_seq ?_
                    rw [hC]
                    refine c_reg ?_
                    refine s_y ((by first | exact Y_loadAll rfl many42 (by repeat (first | exact List.Mem.head _ | assumption | apply List.Mem.tail | apply List.mem_append_right)) (by rfl) | exact Y_loadN rfl many42 (by repeat (first | exact List.Mem.head _ | assumption | apply List.Mem.tail | apply List.mem_append_right)) ‹_› ‹_› | exact Y_loadNR rfl many42 ‹_› rfl)) rfl rfl ?_
                    refine s_s ((by first | exact S_storeA rfl rfl sz42 (by first | rfl | assumption) (by first | rfl | assumption) (by repeat (first | exact Upd.head | apply Upd.tail)) (by first | rfl | assumption) | exact S_storeN rfl rfl sz42 (by rfl) (by first | rfl | assumption) (by repeat (first | exact Upd.head | apply Upd.tail)) (by simp only [setAll, List.set_cons_zero, List.set_cons_succ, Nat.zero_add, Nat.reduceAdd]; rfl) (by first | rfl | assumption))) rfl ?_
                    refine s_y (Y_asC) rfl rfl ?_
                    refine s_nil ?_
                    refine q_then ?_
                    refine c_ret ?_
                    exact q_ret2c rfl rfl many42 rfl (by repeat (first | exact List.Mem.head _ | assumption | apply List.Mem.tail | apply List.mem_append_right)) rfl (L' := bl) sub3 (.ok hbs hx hpE (by rw [hk]; exact hSm) (by rw [hk]; exact hMs) hDl)
                  · rw [decide_eq_false hkn] at hpE
                    refine c_T rfl (decide_eq_true (by omega)) ?_
                    refine c_seq ?_
                    refine c_reg ?_
                    refine s_y (Y_build (cs := [.int .i64 0, .int .i64 0, .int .i64 0, .bool false, .int .u32 0, .int .i64 0, .int .i64 0, .int .i64 0, .int .i64 0, .int .i64 0, .int .i64 0, .int .i64 0, .slice none 0 0, .int .i64 0, .int .i64 0, .int .i64 0, .int .i64 0, .slice none 0 0, .int .i64 0, .int .i64 0, .int .i64 0, .int .i64 0, .slice none 0 0, .slice none 0 0, .slice none 0 0, .slice none 0 0, .int .i64 0, .int .i64 0, .int .i64 0, .slice none 0 0]) (by repeat (first | exact Gp.nil | apply Gp.const | apply Gp.tmp (by repeat (first | exact Gt.here | apply Gt.there (by rfl) | exact Gt.base (by rfl))))) (bld42 _ _ (by first | rfl | (simp; rfl)))) rfl rfl ?_
                    refine s_s ((by first | exact S_storeA rfl rfl sz42 (by first | rfl | assumption) (by first | rfl | assumption) (by repeat (first | exact Upd.head | apply Upd.tail)) (by first | rfl | assumption) | exact S_storeN rfl rfl sz42 (by rfl) (by first | rfl | assumption) (by repeat (first | exact Upd.head | apply Upd.tail)) (by simp only [setAll, List.set_cons_zero, List.set_cons_succ, Nat.zero_add, Nat.reduceAdd]; rfl) (by first | rfl | assumption))) rfl ?_
                    refine s_y (Y_asC) rfl rfl ?_
                    refine s_nil ?_
                    refine q_then ?_
                    refine c_ret ?_
                    refine q_ret2c rfl rfl many42 rfl (by repeat (first | exact List.Mem.head _ | assumption | apply List.Mem.tail | apply List.mem_append_right)) rfl (L' := []) (List.nil_sublist _) (.bad hpE (by decide))
                · have hpE2 : pErr bs = eq9 := by rw [hpE]; simp [noted, he]
                  refine c_T rfl (by simp [he]) ?_
                  refine c_seq ?_
                  refine c_rord [] [(0, true), (1, true), (2, true), (3, true), (4, true), (5, false), (6, true)] (by kernel_rfl) (by kernel_rfl) (by kernel_rfl) (by kernel_rfl) rfl (by intro c a d v w h; cases d <;> exact h) rfl ?_
                  simp only [mkOrd, List.filterMap_cons, List.filterMap_nil, List.getElem?_toArray, List.getElem?_cons_zero, List.getElem?_cons_succ, Option.map_some]
                  refine o_y (Y_build (cs := [.int .i64 0, .int .i64 0, .int .i64 0, .bool false, .int .u32 0, .int .i64 0, .int .i64 0, .int .i64 0, .int .i64 0, .int .i64 0, .int .i64 0, .int .i64 0, .slice none 0 0, .int .i64 0, .int .i64 0, .int .i64 0, .int .i64 0, .slice none 0 0, .int .i64 0, .int .i64 0, .int .i64 0, .int .i64 0, .slice none 0 0, .slice none 0 0, .slice none 0 0, .slice none 0 0, .int .i64 0, .int .i64 0, .int .i64 0, .slice none 0 0]) (by repeat (first | exact Gp.nil | apply Gp.const | apply Gp.tmp (by repeat (first | exact Gt.here | apply Gt.there (by rfl) | exact Gt.base (by rfl))))) (bld42 _ _ (by first | rfl | (simp; rfl)))) rfl rfl ?_
                  refine o_y (Y_mv) rfl rfl ?_
                  refine o_y ((by first | exact Y_nil rfl | exact Y_nilF rfl | exact Y_nilM rfl (by assumption) | exact Y_nilM rfl (by intro w k; kernel_rfl))) rfl rfl ?_
                  refine o_y (Y_fa 2 rfl Try.underlying72 rfl sz3 rfl) rfl rfl ?_
                  refine o_y ((by first | exact Y_load rfl one3 (by repeat (first | exact List.Mem.head _ | assumption | apply List.Mem.tail | apply List.mem_append_right)) (by rfl) | exact Y_load rfl one3 (by repeat (first | exact List.Mem.head _ | assumption | apply List.Mem.tail | apply List.mem_append_right)) (by assumption) | exact Y_loadR rfl one3 (by assumption) rfl (by assumption))) rfl rfl ?_
                  refine o_s ((by first | exact S_storeA rfl rfl sz42 (by first | rfl | assumption) (by first | rfl | assumption) (by repeat (first | exact Upd.head | apply Upd.tail)) (by first | rfl | assumption) | exact S_storeN rfl rfl sz42 (by rfl) (by first | rfl | assumption) (by repeat (first | exact Upd.head | apply Upd.tail)) (by simp only [setAll, List.set_cons_zero, List.set_cons_succ, Nat.zero_add, Nat.reduceAdd]; rfl) (by first | rfl | assumption))) (by first | exact keep_no rfl | exact keep_sub (by repeat (first | exact List.Sublist.refl _ | exact List.nil_sublist _ | apply List.Sublist.cons_cons | apply List.Sublist.cons))) rfl ?_
                  refine o_y (Y_as) rfl rfl ?_
                  refine o_nil ?_
                  refine q_then ?_
                  refine c_ret ?_
                  refine q_ret2c rfl rfl many42 rfl (by repeat (first | exact List.Mem.head _ | assumption | apply List.Mem.tail | apply List.mem_append_right)) rfl (L' := []) (List.nil_sublist _) (.bad hpE2 he)
          · refine c_seq ?_
            refine c_reg ?_
            refine s_y (Y_mv) rfl rfl ?_
            refine s_y ((by first | exact Y_nil rfl | exact Y_nilF rfl | exact Y_nilM rfl (by assumption) | exact Y_nilM rfl (by intro w k; kernel_rfl))) rfl rfl ?_
            refine s_y (Y_fa 2 rfl Try.underlying72 rfl sz3 rfl) rfl rfl ?_
            refine s_y ((by first | exact Y_load rfl one3 (by repeat (first | exact List.Mem.head _ | assumption | apply List.Mem.tail | apply List.mem_append_right)) (by rfl) | exact Y_load rfl one3 (by repeat (first | exact List.Mem.head _ | assumption | apply List.Mem.tail | apply List.mem_append_right)) (by assumption) | exact Y_loadR rfl one3 (by assumption) rfl (by assumption))) rfl rfl ?_
            refine s_y (Y_eql rfl rfl) rfl rfl ?_
            refine s_y (Y_mv) rfl rfl ?_
            by_cases h0 : e8 = 0
            · subst h0
              refine s_known (d := 108) rfl rfl ?_
              first | refine s_y (Y_mv) rfl rfl ?_ | refine s_pass rfl rfl ?_
              first | refine s_y (Y_gtr rfl rfl) rfl rfl ?_ | refine s_pass rfl rfl ?_
              refine s_y (Y_pk rfl (Gx.tmp (by repeat (first | exact Gt.here | apply Gt.there (by rfl) | exact Gt.base (by rfl)))) Gx.const) rfl rfl ?_
              refine s_nil ?_
              refine q_then ?_
              by_cases h1 : m > 400
              · refine c_T (t := decide ((m : Int) > 400)) (by rfl) (decide_eq_true (by omega)) ?_
                refine c_reg ?_
                refine s_y (Y_mv) rfl rfl ?_
                refine s_y ((by first | exact Y_nil rfl | exact Y_nilF rfl | exact Y_nilM rfl (by assumption) | exact Y_nilM rfl (by intro w k; kernel_rfl))) rfl rfl ?_
                refine s_y (Y_fa 2 rfl Try.underlying72 rfl sz3 rfl) rfl rfl ?_
                refine s_s (S_stC rfl sz3 (by rfl) (by repeat (first | exact Upd.head | apply Upd.tail)) (by first | (simp only [Nat.zero_add, Nat.reduceAdd, List.set_cons_succ, List.set_cons_zero]; rfl) | rfl) (by first | (simp; done) | omega)) rfl ?_
                refine s_nil ?_
                exact hm 9 _ _ (by rw [if_pos ⟨rfl, h1⟩]) trivial rfl (fun _ h => h)
              · refine c_F (t := decide ((m : Int) > 400)) (by rfl) (decide_eq_false (by omega)) ?_
                refine c_skip ?_
                exact hm 0 _ _ (by rw [if_neg (fun h => h1 h.2)]) trivial rfl (fun _ h => h)
            · refine s_known (d := 108) rfl (decide_eq_false h0) ?_
              first | refine s_y (Y_mv) rfl rfl ?_ | refine s_pass rfl rfl ?_
              first | refine s_y (Y_gtr rfl rfl) rfl rfl ?_ | refine s_pass rfl rfl ?_
              refine s_y (Y_pk rfl (Gx.tmp (by repeat (first | exact Gt.here | apply Gt.there (by rfl) | exact Gt.base (by rfl)))) Gx.const) rfl rfl ?_
              refine s_nil ?_
              refine q_then ?_
              refine c_F rfl rfl ?_
              refine c_skip ?_
              exact hm e8 _ _ (by rw [if_neg (fun h => h0 h.1)]) trivial rfl (fun _ h => h)
        · refine c_seq ?_
          refine c_reg ?_
          refine s_y (Y_fa 14 rfl Try.underlying42 rfl sz3 rfl) rfl rfl ?_
          refine s_y ((by first | exact Y_load rfl one3 (by repeat (first | exact List.Mem.head _ | assumption | apply List.Mem.tail | apply List.mem_append_right)) (by rfl) | exact Y_load rfl one3 (by repeat (first | exact List.Mem.head _ | assumption | apply List.Mem.tail | apply List.mem_append_right)) (by assumption) | exact Y_loadR rfl one3 (by assumption) rfl (by assumption))) rfl rfl ?_
          refine s_y (Y_eql rfl rfl) rfl rfl ?_
          refine s_nil ?_
          refine q_then ?_
          refine c_cond' rfl (fun h => ?_) (fun h => ?_)
          · skip
            refine c_reg ?_
            refine s_y (Y_fa 14 rfl Try.underlying42 rfl sz3 rfl) rfl rfl ?_
            refine s_s (S_stC rfl sz3 (by rfl) (by repeat (first | exact Upd.head | apply Upd.tail)) (by first | (simp only [Nat.zero_add, Nat.reduceAdd, List.set_cons_succ, List.set_cons_zero]; rfl) | rfl) (by first | (simp; done) | omega)) rfl ?_
            refine s_nil ?_
            exact hm (-1) _ _ (by rw [if_pos h]) trivial rfl (fun _ h => h)
          · refine c_skip ?_
            exact hm z4 _ _ (by rw [if_neg h]) trivial rfl (fun _ h => h)
      · rw [hk] at hpE ⊢
        refine c_T rfl rfl ?_
        refine c_reg ?_
        refine s_y (Y_mv) rfl rfl ?_
        refine s_cm [ib b14 a n c 1 0] (En_call (fun _ => rfl) Try.func28 rfl (by kernel_rfl) rfl) (by repeat (first | exact Sels.nil | apply Sels.cons (by repeat (first | exact Sel.head | apply Sel.tail)))) (fun w hH => innum_d (k := 1) (e := 0) (hH.at' (by repeat (first | exact List.Mem.head _ | assumption | apply List.Mem.tail | apply List.mem_append_right))) (hs.call (xs := [ib b14 a n c 1 0]) hH (by simp)) (by omega)) rfl rfl ?_
        rintro _ _ ⟨rfl, rfl⟩
        have hU : chunkX bs 1 0 = chunkX bs 1 0 := rfl
        conv at hU => rhs; unfold chunkX; unfold chunkHX; unfold Rd.pair
        simp only [nums, num, n4X, chkX] at hU
        have hle1 := rdNum_le (bs := bs) (m := 4) (f := 0) (t := 1073741823) (k := 1) (e := 0) (by omega)
        generalize rdNum bs 4 0 1073741823 1 0 = r1 at *
        obtain ⟨z1, k1, e1⟩ := r1
        simp only at hU hle1 ⊢
        refine s_y (Y_fa 1 rfl Try.underlying42 rfl sz3 rfl) rfl rfl ?_
        refine s_s (S_st rfl (by repeat (first | exact Gt.here | apply Gt.there (by rfl) | exact Gt.base (by rfl))) sz3 (by rfl) (by repeat (first | exact Upd.head | apply Upd.tail)) (by first | (simp only [Nat.zero_add, Nat.reduceAdd, List.set_cons_succ, List.set_cons_zero]; rfl) | rfl) (by first | (simp; done) | omega)) rfl ?_
        refine s_nil ?_
        refine q_then ?_
        refine c_seq ?_
        -- ref.go:232
        refine c_reg ?_
        refine s_y (Y_mv) rfl rfl ?_
        refine s_cm [ib b14 a n c k1 e1] (En_call (fun _ => rfl) Try.func28 rfl (by kernel_rfl) rfl) (by repeat (first | exact Sels.nil | apply Sels.cons (by repeat (first | exact Sel.head | apply Sel.tail)))) (fun w hH => innum_d (k := k1) (e := e1) (hH.at' (by repeat (first | exact List.Mem.head _ | assumption | apply List.Mem.tail | apply List.mem_append_right))) (hs.call (xs := [ib b14 a n c k1 e1]) hH (by simp)) (by omega)) rfl rfl ?_
        rintro _ _ ⟨rfl, rfl⟩
        have hle2 := rdNum_le (bs := bs) (m := 4) (f := 0) (t := 1073741823) (k := k1) (e := e1) (by omega)
        generalize rdNum bs 4 0 1073741823 k1 e1 = r1 at *
        obtain ⟨z2, k2, e2⟩ := r1
        simp only at hU hle2 ⊢
        refine s_y (Y_fa 2 rfl Try.underlying42 rfl sz3 rfl) rfl rfl ?_
        refine s_s (S_st rfl (by repeat (first | exact Gt.here | apply Gt.there (by rfl) | exact Gt.base (by rfl))) sz3 (by rfl) (by repeat (first | exact Upd.head | apply Upd.tail)) (by first | (simp only [Nat.zero_add, Nat.reduceAdd, List.set_cons_succ, List.set_cons_zero]; rfl) | rfl) (by first | (simp; done) | omega)) rfl ?_
        refine s_nil ?_
        refine q_then ?_
        refine c_seq ?_
        refine c_seq ?_
        -- ref.go:233
        refine c_reg ?_
        refine s_y (Y_fa 0 rfl Try.underlying42 rfl sz3 rfl) rfl rfl ?_
        refine s_y ((by first | exact Y_load rfl one3 (by repeat (first | exact List.Mem.head _ | assumption | apply List.Mem.tail | apply List.mem_append_right)) (by rfl) | exact Y_load rfl one3 (by repeat (first | exact List.Mem.head _ | assumption | apply List.Mem.tail | apply List.mem_append_right)) (by assumption) | exact Y_loadR rfl one3 (by assumption) rfl (by assumption))) rfl rfl ?_
        refine s_nil ?_
        refine q_then ?_
        refine c_block ?_
        refine c_seq ?_
        refine c_reg ?_
        refine s_y (Y_eql rfl rfl) rfl rfl ?_
        refine s_y (Y_as) rfl rfl ?_
        refine s_nil ?_
        refine q_then ?_
        refine c_F rfl rfl ?_
        refine c_seq ?_
        refine c_reg ?_
        refine s_y (Y_eql rfl rfl) rfl rfl ?_
        refine s_y (Y_as) rfl rfl ?_
        refine s_nil ?_
        refine q_then ?_
        refine c_F rfl rfl ?_
        refine c_seq ?_
        refine c_reg ?_
        refine s_y (Y_eql rfl rfl) rfl rfl ?_
        refine s_y (Y_as) rfl rfl ?_
        refine s_nil ?_
        refine q_then ?_
        refine c_F rfl rfl ?_
        refine c_seq ?_
        refine c_reg ?_
        refine s_y (Y_eql rfl rfl) rfl rfl ?_
        refine s_y (Y_as) rfl rfl ?_
        refine s_nil ?_
        refine q_then ?_
        refine c_T rfl rfl ?_
        refine c_seq ?_
        refine c_reg ?_
        refine s_y (Y_mv) rfl rfl ?_
        refine s_cm [ib b14 a n c k2 e2] (En_call (fun _ => rfl) Try.func28 rfl (by kernel_rfl) rfl) (by repeat (first | exact Sels.nil | apply Sels.cons (by repeat (first | exact Sel.head | apply Sel.tail)))) (fun w hH => innum_d (k := k2) (e := e2) (hH.at' (by repeat (first | exact List.Mem.head _ | assumption | apply List.Mem.tail | apply List.mem_append_right))) (hs.call (xs := [ib b14 a n c k2 e2]) hH (by simp)) (by omega)) rfl rfl ?_
        rintro _ _ ⟨rfl, rfl⟩
        have hle3 := rdNum_le (bs := bs) (m := 4) (f := 0) (t := 1073741823) (k := k2) (e := e2) (by omega)
        generalize rdNum bs 4 0 1073741823 k2 e2 = r1 at *
        obtain ⟨z3, k3, e3⟩ := r1
        simp only [num255] at hU hle3 ⊢
        refine s_y (Y_fa 15 rfl Try.underlying42 rfl sz3 rfl) rfl rfl ?_
        refine s_s (S_st rfl (by repeat (first | exact Gt.here | apply Gt.there (by rfl) | exact Gt.base (by rfl))) sz3 (by rfl) (by repeat (first | exact Upd.head | apply Upd.tail)) (by first | (simp only [Nat.zero_add, Nat.reduceAdd, List.set_cons_succ, List.set_cons_zero]; rfl) | rfl) (by first | (simp; done) | omega)) rfl ?_
        refine s_nil ?_
        refine q_then ?_
        refine c_seq ?_
        refine c_reg ?_
        refine s_y (Y_mv) rfl rfl ?_
        refine s_cm [ib b14 a n c k3 e3] (En_call (fun _ => rfl) Try.func27 rfl (by kernel_rfl) rfl) (by repeat (first | exact Sels.nil | apply Sels.cons (by repeat (first | exact Sel.head | apply Sel.tail)))) (fun w hH => byte_d (k := k3) (e := e3) (hH.at' (by repeat (first | exact List.Mem.head _ | assumption | apply List.Mem.tail | apply List.mem_append_right))) (hs.call (xs := [ib b14 a n c k3 e3]) hH (by simp)) (by omega)) rfl rfl ?_
        rintro _ _ ⟨rfl, rfl⟩
        have hle4 := rdRaw_le (bs := bs) (m := 1) (k := k3) (e := e3) (by omega)
        generalize rdRaw bs 1 k3 e3 = r1 at *
        obtain ⟨ix, k4, e4⟩ := r1
        simp only at hU hle4 ⊢
        refine s_y (Y_fa 27 rfl Try.underlying42 rfl sz3 rfl) rfl rfl ?_
        refine s_s (S_st rfl (by repeat (first | exact Gt.here | apply Gt.there (by rfl) | exact Gt.base (by rfl))) sz3 (by rfl) (by repeat (first | exact Upd.head | apply Upd.tail)) (by first | (simp only [Nat.zero_add, Nat.reduceAdd, List.set_cons_succ, List.set_cons_zero]; rfl) | rfl) (by first | (simp; done) | omega)) rfl ?_
        refine s_nil ?_
        refine q_then ?_
        refine c_seq ?_
        refine c_reg ?_
        refine s_y (Y_mv) rfl rfl ?_
        refine s_cm [ib b14 a n c k4 e4] (En_call (fun _ => rfl) Try.func27 rfl (by kernel_rfl) rfl) (by repeat (first | exact Sels.nil | apply Sels.cons (by repeat (first | exact Sel.head | apply Sel.tail)))) (fun w hH => byte_d (k := k4) (e := e4) (hH.at' (by repeat (first | exact List.Mem.head _ | assumption | apply List.Mem.tail | apply List.mem_append_right))) (hs.call (xs := [ib b14 a n c k4 e4]) hH (by simp)) (by omega)) rfl rfl ?_
        rintro _ _ ⟨rfl, rfl⟩
        have hN : rdNum bs 1 1 16 k4 e4 = (((rdRaw bs 1 k4 e4).1 : Int), (rdRaw bs 1 k4 e4).2.1, noted (inB (rdRaw bs 1 k4 e4).1 1 16) (rdRaw bs 1 k4 e4).2.2 9) := rfl
        simp only [hN] at hU
        clear hN
        have hle5 := rdRaw_le (bs := bs) (m := 1) (k := k4) (e := e4) (by omega)
        generalize rdRaw bs 1 k4 e4 = r1 at *
        obtain ⟨tt, k5, e5⟩ := r1
        simp only [chkE] at hU hle5 ⊢
        refine s_y (Y_fa 28 rfl Try.underlying42 rfl sz3 rfl) rfl rfl ?_
        refine s_s (S_st rfl (by repeat (first | exact Gt.here | apply Gt.there (by rfl) | exact Gt.base (by rfl))) sz3 (by rfl) (by repeat (first | exact Upd.head | apply Upd.tail)) (by first | (simp only [Nat.zero_add, Nat.reduceAdd, List.set_cons_succ, List.set_cons_zero]; rfl) | rfl) (by first | (simp; done) | omega)) rfl ?_
        refine s_nil ?_
        refine q_then ?_
        refine c_seq ?_
        refine c_meetQ [162, 163, 164, 165, 166, 167, 168, 169, 170, 171, 172, 173, 174, 175, 176, 177, 178, 179, 180, 181, 182, 183, 184, 185, 186] (fun _ : Int => []) (fun e6 => e6 = if e5 = 0 ∧ ¬(1 ≤ (tt : Int) ∧ (tt : Int) ≤ 16 ∧ (ix : Int) < (tt : Int)) then 9 else e5) (fun e6 => [ib b14 a n c k5 e6, ⟨b5, 42, 30, 1, chC z1 z2 z3 ix tt (.slice none 0 0)⟩, ⟨b2, 42, 30, 1, zc 0⟩]) (fun _ => rfl) (fun e6 j6 he6 => ?_) (fun hm => ?_)
        · rw [← he6] at hU
          refine q_then ?_
          refine c_seq ?_
          refine c_reg ?_
          refine s_y (Y_mv) rfl rfl ?_
          refine s_cm [ib b14 a n c k5 e6] (En_call (fun _ => rfl) Try.func29 rfl (by kernel_rfl) rfl) (by repeat (first | exact Sels.nil | apply Sels.cons (by repeat (first | exact Sel.head | apply Sel.tail)))) (fun w hH => insmall_d (k := k5) (e := e6) 0 64 (hH.at' (by repeat (first | exact List.Mem.head _ | assumption | apply List.Mem.tail | apply List.mem_append_right))) (hs.call (xs := [ib b14 a n c k5 e6]) hH (by simp)) (by omega)) rfl rfl ?_
          rintro _ _ ⟨rfl, rfl⟩
          have hle6 := rdNum_le (bs := bs) (m := 1) (f := 0) (t := 64) (k := k5) (e := e6) (by omega)
          have hz0 : 0 ≤ (rdNum bs 1 0 64 k5 e6).1 ∧ (rdNum bs 1 0 64 k5 e6).1 < 4294967296 := by
            have h1 := rdRaw_lt bs (m := 1) (by omega) k5 e6
            have h2 : (rdNum bs 1 0 64 k5 e6).1 = ((rdRaw bs 1 k5 e6).1 : Int) := rfl
            rw [h2]; omega
          generalize rdNum bs 1 0 64 k5 e6 = r1 at *
          obtain ⟨z7, k7, e7⟩ := r1
          simp only at hU hle6 hz0 ⊢
          obtain ⟨m, rfl⟩ := Int.eq_ofNat_of_zero_le hz0.1
          have hDS := dataS (bs := bs) k7 hle6 e7 (m : Int)
          rw [Int.toNat_natCast] at hDS
          refine s_y (Y_as) rfl rfl ?_
          refine s_nil ?_
          refine q_then ?_
          refine c_seq ?_
          refine c_reg ?_
          refine s_y (Y_asC) rfl rfl ?_
          refine s_nil ?_
          refine q_then ?_
          refine c_block ?_
          refine c_loop [11, 189, 190, 191, 192, 193, 194, 195, 196, 197, 198, 199, 200, 201, 202, 203, 204, 205, 206, 207, 208] (fun n2 (y : Nat × Value × List Bk) => y.1 + n2 = m ∧ Row 5 1 y.2.1 (stopX (byteX bs) y.1 k7 e7).1.length ((stopX (byteX bs) y.1 k7 e7).1.map bv) y.2.2) (fun y => [(11, .int .i64 (y.1 : Int))]) (fun y => ib b14 a n c (stopX (byteX bs) y.1 k7 e7).2.1 (stopX (byteX bs) y.1 k7 e7).2.2 :: ⟨b5, 42, 30, 1, chC z1 z2 z3 ix tt y.2.1⟩ :: ⟨b2, 42, 30, 1, zc 0⟩ :: y.2.2) m (0, .slice none 0 0, []) ⟨by omega, .nil⟩ ⟨rfl, trivial⟩ (fun _ h => h) (fun _ => rfl) ?_
          rintro n2 ⟨i, u, B⟩ j ⟨hi, hB⟩ K hK
          have hS : stopX (byteX bs) (i + 1) k7 e7 = if (stopX (byteX bs) i k7 e7).2.2 = 0 then ((stopX (byteX bs) i k7 e7).1 ++ [UInt8.ofNat (rdRaw bs 1 (stopX (byteX bs) i k7 e7).2.1 0).1], (rdRaw bs 1 (stopX (byteX bs) i k7 e7).2.1 0).2) else stopX (byteX bs) i k7 e7 := rfl
          have hstop := stopX_stop (X := byteX bs) (i := i) (k := k7) (e := e7)
          have hil := (stopX_len (X := byteX bs) (k := k7) (e := e7) i).1
          have hq := dataS_le hle6 (e := e7) i
          have hgo : i < m → (stopX (byteX bs) i k7 e7).2.2 ≠ 0 → stopX (byteX bs) m k7 e7 = stopX (byteX bs) i k7 e7 := fun h1 h2 => by
            have := hstop h2 (m - i)
            rwa [show i + (m - i) = m by omega] at this
          simp only at hB hi ⊢
          refine c_seq ?_
          refine c_seq ?_
          refine c_reg ?_
          refine s_y (Y_mv) rfl rfl ?_
          refine s_y (Y_mv) rfl rfl ?_
          refine s_y (Y_lss rfl rfl) rfl rfl ?_
          refine s_y (Y_mv) rfl rfl ?_
          by_cases him : i < m
          · refine s_known (d := 192) rfl (decide_eq_true (by omega)) ?_
            first | refine s_y (Y_mv) rfl rfl ?_ | refine s_pass rfl rfl ?_
            first | refine s_y ((by first | exact Y_nil rfl | exact Y_nilF rfl | exact Y_nilM rfl (by assumption) | exact Y_nilM rfl (by intro w k; kernel_rfl))) rfl rfl ?_ | refine s_pass rfl rfl ?_
            first | refine s_y (Y_fa 2 rfl Try.underlying72 rfl sz3 rfl) rfl rfl ?_ | refine s_pass rfl rfl ?_
            first | refine s_y ((by first | exact Y_load rfl one3 (by repeat (first | exact List.Mem.head _ | assumption | apply List.Mem.tail | apply List.mem_append_right)) (by rfl) | exact Y_load rfl one3 (by repeat (first | exact List.Mem.head _ | assumption | apply List.Mem.tail | apply List.mem_append_right)) (by assumption) | exact Y_loadR rfl one3 (by assumption) rfl (by assumption))) rfl rfl ?_ | refine s_pass rfl rfl ?_
            first | refine s_y (Y_eql rfl rfl) rfl rfl ?_ | refine s_pass rfl rfl ?_
            refine s_y (Y_pk rfl (Gx.tmp (by repeat (first | exact Gt.here | apply Gt.there (by rfl) | exact Gt.base (by rfl)))) Gx.const) rfl rfl ?_
            refine s_nil ?_
            refine q_then ?_
            by_cases he2 : (stopX (byteX bs) i k7 e7).2.2 = 0
            · rw [if_pos he2] at hS
              generalize stopX (byteX bs) i k7 e7 = q at *
              obtain ⟨xs, ki, ei⟩ := q
              simp only at hB hS hil hq he2 ⊢
              subst he2
              refine c_T (t := true) (by rfl) rfl ?_
              refine c_skip ?_
              refine q_then ?_
              refine c_seq ?_
              refine c_block ?_
              have hraw := rdRaw1_lt (bs := bs) (k := ki) (e := 0)
              have hub := Row.one hB
              refine c_rordS (L0 := [⟨b5, 42, 30, 1, chC z1 z2 z3 ix tt u⟩]) (by repeat (first | exact List.Sublist.refl _ | exact List.nil_sublist _ | apply List.Sublist.cons_cons | apply List.Sublist.cons)) [8] [(0, true), (1, true), (2, true), (3, false), (4, true), (5, false), (6, false), (7, true), (8, false)] (by kernel_rfl) (by kernel_rfl) (by kernel_rfl) (by kernel_rfl) rfl (by intro c a d v w h; cases d <;> exact h) rfl ?_
              simp only [mkOrd, List.filterMap_cons, List.filterMap_nil, List.getElem?_toArray, List.getElem?_cons_zero, List.getElem?_cons_succ, Option.map_some]
              refine o_y (Y_fa 29 rfl Try.underlying42 rfl sz27 rfl) rfl rfl ?_
              refine o_y ((by first | exact Y_load rfl one27 (by repeat (first | exact List.Mem.head _ | assumption | apply List.Mem.tail | apply List.mem_append_right)) (by rfl) | exact Y_load rfl one27 (by repeat (first | exact List.Mem.head _ | assumption | apply List.Mem.tail | apply List.mem_append_right)) (by assumption) | exact Y_loadR rfl one27 (by assumption) rfl (by assumption))) rfl rfl ?_
              refine o_y (Y_mv) rfl rfl ?_
              refine o_cm [ib b14 a n c ki 0] (En_call (fun _ => rfl) Try.func27 rfl (by kernel_rfl) rfl) (by repeat (first | exact Sels.nil | apply Sels.cons (by repeat (first | exact Sel.head | apply Sel.tail)))) (fun w hH => byte_d (k := ki) (e := 0) (hH.at' (by repeat (first | exact List.Mem.head _ | assumption | apply List.Mem.tail | apply List.mem_append_right))) (hs.call (xs := [ib b14 a n c ki 0]) hH (by simp)) (by omega)) (fun _ _ h => by obtain ⟨rfl, rfl⟩ := h; exact (by first | exact keep_no rfl | exact keep_sub (by repeat (first | exact List.Sublist.refl _ | exact List.nil_sublist _ | apply List.Sublist.cons_cons | apply List.Sublist.cons)))) rfl rfl ?_
              rintro _ _ ⟨rfl, rfl⟩
              generalize hrw : rdRaw bs 1 ki 0 = q at *
              obtain ⟨rv, k8, e8⟩ := q
              simp only at hS hraw ⊢
              refine o_y ((Y_conv rfl Try.underlying3 Try.underlying5 (u8_id (by omega))).num (m := ((UInt8.ofNat rv).toNat : Int)) (by rw [UInt8.toNat_ofNat']; omega)) rfl rfl ?_
              refine o_n (N_bs (xs := [.tmp 205]) (by repeat (first | exact Gv.nil | apply Gv.const | apply Gv.tmp (by repeat (first | exact Gt.here | apply Gt.there (by rfl) | exact Gt.base (by rfl))))) rfl Try.underlying27 inf5 rfl (by omega) (by omega) (by first | simp [Value.oneCell'] | (intro v hv; simp at hv; subst hv; rfl))) (fun _ => (by first | exact keep_no rfl | exact keep_sub (by repeat (first | exact List.Sublist.refl _ | exact List.nil_sublist _ | apply List.Sublist.cons_cons | apply List.Sublist.cons)))) rfl rfl (fun b206 _ => ?_)
              refine o_n (N_appR (bytes := 1) hB (List.perm_append_comm (l₁ := B) (l₂ := [_, _, _, _])) rfl rfl Try.underlying27 inf5 rfl (by omega) (src (by repeat (first | exact List.Mem.head _ | assumption | apply List.Mem.tail | apply List.mem_append_right))) (by rfl) (by simp [Value.oneCell']) (by omega) (by omega) (by omega)) (fun _ => (by first | exact keep_no rfl | exact keep_sub (by repeat (first | exact List.Sublist.refl _ | exact List.nil_sublist _ | apply List.Sublist.cons_cons | apply List.Sublist.cons)))) rfl rfl (fun ⟨g207, cp207⟩ hc207 => ?_)
              refine o_y (Y_fa 29 rfl Try.underlying42 rfl sz27 rfl) rfl rfl ?_
              refine o_s (S_st rfl (by repeat (first | exact Gt.here | apply Gt.there (by rfl) | exact Gt.base (by rfl))) sz27 (by rfl) (by repeat (first | exact Upd.head | apply Upd.tail)) (by first | (simp only [Nat.zero_add, Nat.reduceAdd, List.set_cons_succ, List.set_cons_zero]; rfl) | rfl) (by first | (simp; done) | omega)) (by first | exact keep_no rfl | exact keep_sub (by repeat (first | exact List.Sublist.refl _ | exact List.nil_sublist _ | apply List.Sublist.cons_cons | apply List.Sublist.cons))) rfl ?_
              refine o_nil ?_
              refine q_bn ?_
              refine q_then ?_
              refine c_reg ?_
              refine s_y (Y_mv) rfl rfl ?_
              refine s_y ((by first | exact Y_add rfl rfl (by omega) | exact Y_addw rfl rfl)) rfl rfl ?_
              refine s_y (Y_as) rfl rfl ?_
              refine s_nil ?_
              have hrow : Row 5 1 (.slice (some ⟨g207, 0, none⟩) (xs.length + 1) cp207) (xs ++ [UInt8.ofNat rv]).length ((xs ++ [UInt8.ofNat rv]).map bv) [⟨g207, 5, 1, cp207, xs.map bv ++ [bv (UInt8.ofNat rv)]⟩] := by
                rw [List.length_append, List.map_append]
                exact .some hc207 (by simp)
              refine hK (n2 - 1) (i + 1, .slice (some ⟨g207, 0, none⟩) (xs.length + 1) cp207, [⟨g207, 5, 1, cp207, xs.map bv ++ [bv (UInt8.ofNat rv)]⟩]) _ _ (by omega) ⟨by simp only; omega, by rw [hS]; exact hrow⟩ ⟨rfl, trivial⟩ rfl (fun w h => ?_)
              dsimp only
              rw [hS]
              exact (h.sub (L' := [_, _, _, _]) (by repeat (first | exact List.Sublist.refl _ | exact List.nil_sublist _ | apply List.Sublist.cons_cons | apply List.Sublist.cons))).perm (List.perm_append_singleton _ [_, _, _])
            · have hm2 := hgo him he2
              refine c_F (t := decide ((stopX (byteX bs) i k7 e7).2.2 = 0)) (by rfl) (decide_eq_false he2) ?_
              refine c_exit ?_
              repeat with_reducible refine q_te ?_
              refine q_exit ?_
              rw [← hm2] at hB ⊢
              refine q_bn ?_
              have hle8 := dataS_le hle6 (e := e7) m
              generalize stopX (byteX bs) m k7 e7 = q at *
              obtain ⟨xs, k8, e8⟩ := q
              simp only at hB hDS hle8 ⊢
              obtain ⟨a', cp, rfl, hnil, hBa⟩ := row_bytes hB
              have hpI : pI bs 4 = (chunkD (([z1, z2], z3, (ix : Int), (tt : Int), (), (m : Int)), (dataX bs (m : Int) k7 e7).1), (dataX bs (m : Int) k7 e7).2) := by
                unfold pI
                rw [if_neg (by decide), if_neg (by decide), if_neg (by decide), hU]
              have hM : RefM bs 4 (msgCells { chunkD (([z1, z2], z3, (ix : Int), (tt : Int), (), (m : Int)), xs) with da := a', dc := cp }).toList k8 e8 B := by
                refine ⟨by rw [hpI]; exact hDS.1, fun he => ?_⟩
                have hD2 := hDS.2 (by rw [← hDS.1]; exact he)
                rw [hpI, ← hD2]
                refine ⟨rfl, _, rfl, ?_, fun hsm w hw => ?_, rfl⟩
                · exact ⟨rfl, rfl, fun _ => rfl, fun _ => rfl, fun _ => ⟨rfl, rfl, fun _ _ => rfl, rfl, rfl, rfl⟩, fun _ => ⟨rfl, rfl, rfl, rfl, rfl, fun _ _ => rfl, fun _ _ => rfl, rfl⟩, fun _ => ⟨rfl, rfl, rfl, rfl⟩⟩
                · exact ⟨hsm.bits, .inl rfl, rfl, fun _ => ⟨rfl, rfl⟩, by simp [chunkD], .inl rfl, rfl, fun _ => ⟨rfl, rfl⟩, by simp [chunkD], fun _ _ => .inl rfl, fun _ _ => rfl, fun _ _ _ => ⟨rfl, rfl⟩, fun _ _ => by simp [chunkD], hBa w hw, hnil⟩
              refine QL.perm (L' := ib b14 a n c k8 e8 :: ⟨b5, 42, 30, 1, (msgCells { chunkD (([z1, z2], z3, (ix : Int), (tt : Int), (), (m : Int)), xs) with da := a', dc := cp }).toList⟩ :: ⟨b2, 42, 30, 1, zc 0⟩ :: B) (List.Perm.refl _) ?_
              clear hU hDS hpI
              generalize (msgCells { chunkD (([z1, z2], z3, (ix : Int), (tt : Int), (), (m : Int)), xs) with da := a', dc := cp }).toList = C at *
              obtain ⟨hM1, hM2⟩ := hM
              rw [← hM1] at hpE
              refine q_then ?_
              refine c_seq ?_
              refine c_seq ?_
              refine c_reg ?_
              refine s_y (Y_mv) rfl rfl ?_
              refine s_y ((by first | exact Y_nil rfl | exact Y_nilF rfl | exact Y_nilM rfl (by assumption) | exact Y_nilM rfl (by intro w k; kernel_rfl))) rfl rfl ?_
              refine s_y (Y_fa 2 rfl Try.underlying72 rfl sz3 rfl) rfl rfl ?_
              refine s_y ((by first | exact Y_load rfl one3 (by repeat (first | exact List.Mem.head _ | assumption | apply List.Mem.tail | apply List.mem_append_right)) (by rfl) | exact Y_load rfl one3 (by repeat (first | exact List.Mem.head _ | assumption | apply List.Mem.tail | apply List.mem_append_right)) (by assumption) | exact Y_loadR rfl one3 (by assumption) rfl (by assumption))) rfl rfl ?_
              refine s_y (Y_neq rfl rfl) rfl rfl ?_
              refine s_nil ?_
              refine q_then ?_
              by_cases he : e8 = 0
              · subst he
                obtain ⟨hK, o, hC, hSm, hMs, hDl⟩ := hM2 rfl
                rw [← hK] at hpE
                refine c_F rfl (by simp) ?_
                refine c_skip ?_
                refine q_then ?_
                refine c_seq ?_
                refine c_seq ?_
                refine c_reg ?_
                refine s_y (Y_mv) rfl rfl ?_
                refine s_y ((by first | exact Y_nil rfl | exact Y_nilF rfl | exact Y_nilM rfl (by assumption) | exact Y_nilM rfl (by intro w k; kernel_rfl))) rfl rfl ?_
                refine s_y (Y_fa 1 rfl Try.underlying72 rfl sz3 rfl) rfl rfl ?_
                refine s_y ((by first | exact Y_load rfl one3 (by repeat (first | exact List.Mem.head _ | assumption | apply List.Mem.tail | apply List.mem_append_right)) (by rfl) | exact Y_load rfl one3 (by repeat (first | exact List.Mem.head _ | assumption | apply List.Mem.tail | apply List.mem_append_right)) (by assumption) | exact Y_loadR rfl one3 (by assumption) rfl (by assumption))) rfl rfl ?_
                refine s_y (Y_mv) rfl rfl ?_
                refine s_y (Y_len rfl rfl Try.underlying27) rfl rfl ?_
                refine s_y (Y_lss rfl rfl) rfl rfl ?_
                refine s_nil ?_
                refine q_then ?_
                by_cases hkn : k8 = bs.length
                · rw [decide_eq_true hkn] at hpE
                  refine c_F rfl (decide_eq_false (by omega)) ?_
                  refine c_skip ?_
                  refine q_then ?_
                  refine c_seq ?_
                  rw [hC]
                  refine c_reg ?_
                  refine s_y ((by first | exact Y_loadAll rfl many42 (by repeat (first | exact List.Mem.head _ | assumption | apply List.Mem.tail | apply List.mem_append_right)) (by rfl) | exact Y_loadN rfl many42 (by repeat (first | exact List.Mem.head _ | assumption | apply List.Mem.tail | apply List.mem_append_right)) ‹_› ‹_› | exact Y_loadNR rfl many42 ‹_› rfl)) rfl rfl ?_
                  refine s_s ((by first | exact S_storeA rfl rfl sz42 (by first | rfl | assumption) (by first | rfl | assumption) (by repeat (first | exact Upd.head | apply Upd.tail)) (by first | rfl | assumption) | exact S_storeN rfl rfl sz42 (by rfl) (by first | rfl | assumption) (by repeat (first | exact Upd.head | apply Upd.tail)) (by simp only [setAll, List.set_cons_zero, List.set_cons_succ, Nat.zero_add, Nat.reduceAdd]; rfl) (by first | rfl | assumption))) rfl ?_
                  refine s_y (Y_asC) rfl rfl ?_
                  refine s_nil ?_
                  refine q_then ?_
                  refine c_ret ?_
                  exact q_ret2c rfl rfl many42 rfl (by repeat (first | exact List.Mem.head _ | assumption | apply List.Mem.tail | apply List.mem_append_right)) rfl (L' := B) sub3 (.ok hbs hx hpE (by rw [hk]; exact hSm) (by rw [hk]; exact hMs) hDl)
                · rw [decide_eq_false hkn] at hpE
                  refine c_T rfl (decide_eq_true (by omega)) ?_
                  refine c_seq ?_
                  refine c_reg ?_
                  refine s_y (Y_build (cs := [.int .i64 0, .int .i64 0, .int .i64 0, .bool false, .int .u32 0, .int .i64 0, .int .i64 0, .int .i64 0, .int .i64 0, .int .i64 0, .int .i64 0, .int .i64 0, .slice none 0 0, .int .i64 0, .int .i64 0, .int .i64 0, .int .i64 0, .slice none 0 0, .int .i64 0, .int .i64 0, .int .i64 0, .int .i64 0, .slice none 0 0, .slice none 0 0, .slice none 0 0, .slice none 0 0, .int .i64 0, .int .i64 0, .int .i64 0, .slice none 0 0]) (by repeat (first | exact Gp.nil | apply Gp.const | apply Gp.tmp (by repeat (first | exact Gt.here | apply Gt.there (by rfl) | exact Gt.base (by rfl))))) (bld42 _ _ (by first | rfl | (simp; rfl)))) rfl rfl ?_
                  refine s_s ((by first | exact S_storeA rfl rfl sz42 (by first | rfl | assumption) (by first | rfl | assumption) (by repeat (first | exact Upd.head | apply Upd.tail)) (by first | rfl | assumption) | exact S_storeN rfl rfl sz42 (by rfl) (by first | rfl | assumption) (by repeat (first | exact Upd.head | apply Upd.tail)) (by simp only [setAll, List.set_cons_zero, List.set_cons_succ, Nat.zero_add, Nat.reduceAdd]; rfl) (by first | rfl | assumption))) rfl ?_
                  refine s_y (Y_asC) rfl rfl ?_
                  refine s_nil ?_
                  refine q_then ?_
                  refine c_ret ?_
                  refine q_ret2c rfl rfl many42 rfl (by repeat (first | exact List.Mem.head _ | assumption | apply List.Mem.tail | apply List.mem_append_right)) rfl (L' := []) (List.nil_sublist _) (.bad hpE (by decide))
              · have hpE2 : pErr bs = e8 := by rw [hpE]; simp [noted, he]
                refine c_T rfl (by simp [he]) ?_
                refine c_seq ?_
                refine c_rord [] [(0, true), (1, true), (2, true), (3, true), (4, true), (5, false), (6, true)] (by kernel_rfl) (by kernel_rfl) (by kernel_rfl) (by kernel_rfl) rfl (by intro c a d v w h; cases d <;> exact h) rfl ?_
                simp only [mkOrd, List.filterMap_cons, List.filterMap_nil, List.getElem?_toArray, List.getElem?_cons_zero, List.getElem?_cons_succ, Option.map_some]
                refine o_y (Y_build (cs := [.int .i64 0, .int .i64 0, .int .i64 0, .bool false, .int .u32 0, .int .i64 0, .int .i64 0, .int .i64 0, .int .i64 0, .int .i64 0, .int .i64 0, .int .i64 0, .slice none 0 0, .int .i64 0, .int .i64 0, .int .i64 0, .int .i64 0, .slice none 0 0, .int .i64 0, .int .i64 0, .int .i64 0, .int .i64 0, .slice none 0 0, .slice none 0 0, .slice none 0 0, .slice none 0 0, .int .i64 0, .int .i64 0, .int .i64 0, .slice none 0 0]) (by repeat (first | exact Gp.nil | apply Gp.const | apply Gp.tmp (by repeat (first | exact Gt.here | apply Gt.there (by rfl) | exact Gt.base (by rfl))))) (bld42 _ _ (by first | rfl | (simp; rfl)))) rfl rfl ?_
                refine o_y (Y_mv) rfl rfl ?_
                refine o_y ((by first | exact Y_nil rfl | exact Y_nilF rfl | exact Y_nilM rfl (by assumption) | exact Y_nilM rfl (by intro w k; kernel_rfl))) rfl rfl ?_
                refine o_y (Y_fa 2 rfl Try.underlying72 rfl sz3 rfl) rfl rfl ?_
                refine o_y ((by first | exact Y_load rfl one3 (by repeat (first | exact List.Mem.head _ | assumption | apply List.Mem.tail | apply List.mem_append_right)) (by rfl) | exact Y_load rfl one3 (by repeat (first | exact List.Mem.head _ | assumption | apply List.Mem.tail | apply List.mem_append_right)) (by assumption) | exact Y_loadR rfl one3 (by assumption) rfl (by assumption))) rfl rfl ?_
                refine o_s ((by first | exact S_storeA rfl rfl sz42 (by first | rfl | assumption) (by first | rfl | assumption) (by repeat (first | exact Upd.head | apply Upd.tail)) (by first | rfl | assumption) | exact S_storeN rfl rfl sz42 (by rfl) (by first | rfl | assumption) (by repeat (first | exact Upd.head | apply Upd.tail)) (by simp only [setAll, List.set_cons_zero, List.set_cons_succ, Nat.zero_add, Nat.reduceAdd]; rfl) (by first | rfl | assumption))) (by first | exact keep_no rfl | exact keep_sub (by repeat (first | exact List.Sublist.refl _ | exact List.nil_sublist _ | apply List.Sublist.cons_cons | apply List.Sublist.cons))) rfl ?_
                refine o_y (Y_as) rfl rfl ?_
                refine o_nil ?_
                refine q_then ?_
                refine c_ret ?_
                refine q_ret2c rfl rfl many42 rfl (by repeat (first | exact List.Mem.head _ | assumption | apply List.Mem.tail | apply List.mem_append_right)) rfl (L' := []) (List.nil_sublist _) (.bad hpE2 he)
          · obtain rfl : i = m := by omega
            refine s_known (d := 192) rfl (decide_eq_false (by omega)) ?_
            first | refine s_y (Y_mv) rfl rfl ?_ | refine s_pass rfl rfl ?_
            first | refine s_y ((by first | exact Y_nil rfl | exact Y_nilF rfl | exact Y_nilM rfl (by assumption) | exact Y_nilM rfl (by intro w k; kernel_rfl))) rfl rfl ?_ | refine s_pass rfl rfl ?_
            first | refine s_y (Y_fa 2 rfl Try.underlying72 rfl sz3 rfl) rfl rfl ?_ | refine s_pass rfl rfl ?_
            first | refine s_y ((by first | exact Y_load rfl one3 (by repeat (first | exact List.Mem.head _ | assumption | apply List.Mem.tail | apply List.mem_append_right)) (by rfl) | exact Y_load rfl one3 (by repeat (first | exact List.Mem.head _ | assumption | apply List.Mem.tail | apply List.mem_append_right)) (by assumption) | exact Y_loadR rfl one3 (by assumption) rfl (by assumption))) rfl rfl ?_ | refine s_pass rfl rfl ?_
            first | refine s_y (Y_eql rfl rfl) rfl rfl ?_ | refine s_pass rfl rfl ?_
            refine s_y (Y_pk rfl (Gx.tmp (by repeat (first | exact Gt.here | apply Gt.there (by rfl) | exact Gt.base (by rfl)))) Gx.const) rfl rfl ?_
            refine s_nil ?_
            refine q_then ?_
            refine c_F rfl rfl ?_
            refine c_exit ?_
            repeat with_reducible refine q_te ?_
            refine q_exit ?_
            refine q_bn ?_
            have hle8 := dataS_le hle6 (e := e7) i
            generalize stopX (byteX bs) i k7 e7 = q at *
            obtain ⟨xs, k8, e8⟩ := q
            simp only at hB hDS hle8 ⊢
            obtain ⟨a', cp, rfl, hnil, hBa⟩ := row_bytes hB
            have hpI : pI bs 4 = (chunkD (([z1, z2], z3, (ix : Int), (tt : Int), (), (i : Int)), (dataX bs (i : Int) k7 e7).1), (dataX bs (i : Int) k7 e7).2) := by
              unfold pI
              rw [if_neg (by decide), if_neg (by decide), if_neg (by decide), hU]
            have hM : RefM bs 4 (msgCells { chunkD (([z1, z2], z3, (ix : Int), (tt : Int), (), (i : Int)), xs) with da := a', dc := cp }).toList k8 e8 B := by
              refine ⟨by rw [hpI]; exact hDS.1, fun he => ?_⟩
              have hD2 := hDS.2 (by rw [← hDS.1]; exact he)
              rw [hpI, ← hD2]
              refine ⟨rfl, _, rfl, ?_, fun hsm w hw => ?_, rfl⟩
              · exact ⟨rfl, rfl, fun _ => rfl, fun _ => rfl, fun _ => ⟨rfl, rfl, fun _ _ => rfl, rfl, rfl, rfl⟩, fun _ => ⟨rfl, rfl, rfl, rfl, rfl, fun _ _ => rfl, fun _ _ => rfl, rfl⟩, fun _ => ⟨rfl, rfl, rfl, rfl⟩⟩
              · exact ⟨hsm.bits, .inl rfl, rfl, fun _ => ⟨rfl, rfl⟩, by simp [chunkD], .inl rfl, rfl, fun _ => ⟨rfl, rfl⟩, by simp [chunkD], fun _ _ => .inl rfl, fun _ _ => rfl, fun _ _ _ => ⟨rfl, rfl⟩, fun _ _ => by simp [chunkD], hBa w hw, hnil⟩
            refine QL.perm (L' := ib b14 a n c k8 e8 :: ⟨b5, 42, 30, 1, (msgCells { chunkD (([z1, z2], z3, (ix : Int), (tt : Int), (), (i : Int)), xs) with da := a', dc := cp }).toList⟩ :: ⟨b2, 42, 30, 1, zc 0⟩ :: B) (List.Perm.refl _) ?_
            clear hU hDS hpI
            generalize (msgCells { chunkD (([z1, z2], z3, (ix : Int), (tt : Int), (), (i : Int)), xs) with da := a', dc := cp }).toList = C at *
            obtain ⟨hM1, hM2⟩ := hM
            rw [← hM1] at hpE
            refine q_then ?_
            refine c_seq ?_
            refine c_seq ?_
            refine c_reg ?_
            refine s_y (Y_mv) rfl rfl ?_
            refine s_y ((by first | exact Y_nil rfl | exact Y_nilF rfl | exact Y_nilM rfl (by assumption) | exact Y_nilM rfl (by intro w k; kernel_rfl))) rfl rfl ?_
            refine s_y (Y_fa 2 rfl Try.underlying72 rfl sz3 rfl) rfl rfl ?_
            refine s_y ((by first | exact Y_load rfl one3 (by repeat (first | exact List.Mem.head _ | assumption | apply List.Mem.tail | apply List.mem_append_right)) (by rfl) | exact Y_load rfl one3 (by repeat (first | exact List.Mem.head _ | assumption | apply List.Mem.tail | apply List.mem_append_right)) (by assumption) | exact Y_loadR rfl one3 (by assumption) rfl (by assumption))) rfl rfl ?_
            refine s_y (Y_neq rfl rfl) rfl rfl ?_
            refine s_nil ?_
            refine q_then ?_
            by_cases he : e8 = 0
            · subst he
              obtain ⟨hK, o, hC, hSm, hMs, hDl⟩ := hM2 rfl
              rw [← hK] at hpE
              refine c_F rfl (by simp) ?_
              refine c_skip ?_
              refine q_then ?_
              refine c_seq ?_
              refine c_seq ?_
              refine c_reg ?_
              refine s_y (Y_mv) rfl rfl ?_
              refine s_y ((by first | exact Y_nil rfl | exact Y_nilF rfl | exact Y_nilM rfl (by assumption) | exact Y_nilM rfl (by intro w k; kernel_rfl))) rfl rfl ?_
              refine s_y (Y_fa 1 rfl Try.underlying72 rfl sz3 rfl) rfl rfl ?_
              refine s_y ((by first | exact Y_load rfl one3 (by repeat (first | exact List.Mem.head _ | assumption | apply List.Mem.tail | apply List.mem_append_right)) (by rfl) | exact Y_load rfl one3 (by repeat (first | exact List.Mem.head _ | assumption | apply List.Mem.tail | apply List.mem_append_right)) (by assumption) | exact Y_loadR rfl one3 (by assumption) rfl (by assumption))) rfl rfl ?_
              refine s_y (Y_mv) rfl rfl ?_
              refine s_y (Y_len rfl rfl Try.underlying27) rfl rfl ?_
              refine s_y (Y_lss rfl rfl) rfl rfl ?_
              refine s_nil ?_
              refine q_then ?_
              by_cases hkn : k8 = bs.length
              · rw [decide_eq_true hkn] at hpE
                refine c_F rfl (decide_eq_false (by omega)) ?_
                refine c_skip ?_
                refine q_then ?_
                refine c_seq ?_
                rw [hC]
                refine c_reg ?_
                refine s_y ((by first | exact Y_loadAll rfl many42 (by repeat (first | exact List.Mem.head _ | assumption | apply List.Mem.tail | apply List.mem_append_right)) (by rfl) | exact Y_loadN rfl many42 (by repeat (first | exact List.Mem.head _ | assumption | apply List.Mem.tail | apply List.mem_append_right)) ‹_› ‹_› | exact Y_loadNR rfl many42 ‹_› rfl)) rfl rfl ?_
                refine s_s ((by first | exact S_storeA rfl rfl sz42 (by first | rfl | assumption) (by first | rfl | assumption) (by repeat (first | exact Upd.head | apply Upd.tail)) (by first | rfl | assumption) | exact S_storeN rfl rfl sz42 (by rfl) (by first | rfl | assumption) (by repeat (first | exact Upd.head | apply Upd.tail)) (by simp only [setAll, List.set_cons_zero, List.set_cons_succ, Nat.zero_add, Nat.reduceAdd]; rfl) (by first | rfl | assumption))) rfl ?_
                refine s_y (Y_asC) rfl rfl ?_
                refine s_nil ?_
                refine q_then ?_
                refine c_ret ?_
                exact q_ret2c rfl rfl many42 rfl (by repeat (first | exact List.Mem.head _ | assumption | apply List.Mem.tail | apply List.mem_append_right)) rfl (L' := B) sub3 (.ok hbs hx hpE (by rw [hk]; exact hSm) (by rw [hk]; exact hMs) hDl)
              · rw [decide_eq_false hkn] at hpE
                refine c_T rfl (decide_eq_true (by omega)) ?_
                refine c_seq ?_
                refine c_reg ?_
                refine s_y (Y_build (cs := [.int .i64 0, .int .i64 0, .int .i64 0, .bool false, .int .u32 0, .int .i64 0, .int .i64 0, .int .i64 0, .int .i64 0, .int .i64 0, .int .i64 0, .int .i64 0, .slice none 0 0, .int .i64 0, .int .i64 0, .int .i64 0, .int .i64 0, .slice none 0 0, .int .i64 0, .int .i64 0, .int .i64 0, .int .i64 0, .slice none 0 0, .slice none 0 0, .slice none 0 0, .slice none 0 0, .int .i64 0, .int .i64 0, .int .i64 0, .slice none 0 0]) (by repeat (first | exact Gp.nil | apply Gp.const | apply Gp.tmp (by repeat (first | exact Gt.here | apply Gt.there (by rfl) | exact Gt.base (by rfl))))) (bld42 _ _ (by first | rfl | (simp; rfl)))) rfl rfl ?_
                refine s_s ((by first | exact S_storeA rfl rfl sz42 (by first | rfl | assumption) (by first | rfl | assumption) (by repeat (first | exact Upd.head | apply Upd.tail)) (by first | rfl | assumption) | exact S_storeN rfl rfl sz42 (by rfl) (by first | rfl | assumption) (by repeat (first | exact Upd.head | apply Upd.tail)) (by simp only [setAll, List.set_cons_zero, List.set_cons_succ, Nat.zero_add, Nat.reduceAdd]; rfl) (by first | rfl | assumption))) rfl ?_
                refine s_y (Y_asC) rfl rfl ?_
                refine s_nil ?_
                refine q_then ?_
                refine c_ret ?_
                refine q_ret2c rfl rfl many42 rfl (by repeat (first | exact List.Mem.head _ | assumption | apply List.Mem.tail | apply List.mem_append_right)) rfl (L' := []) (List.nil_sublist _) (.bad hpE (by decide))
            · have hpE2 : pErr bs = e8 := by rw [hpE]; simp [noted, he]
              refine c_T rfl (by simp [he]) ?_
              refine c_seq ?_
              refine c_rord [] [(0, true), (1, true), (2, true), (3, true), (4, true), (5, false), (6, true)] (by kernel_rfl) (by kernel_rfl) (by kernel_rfl) (by kernel_rfl) rfl (by intro c a d v w h; cases d <;> exact h) rfl ?_
              simp only [mkOrd, List.filterMap_cons, List.filterMap_nil, List.getElem?_toArray, List.getElem?_cons_zero, List.getElem?_cons_succ, Option.map_some]
              refine o_y (Y_build (cs := [.int .i64 0, .int .i64 0, .int .i64 0, .bool false, .int .u32 0, .int .i64 0, .int .i64 0, .int .i64 0, .int .i64 0, .int .i64 0, .int .i64 0, .int .i64 0, .slice none 0 0, .int .i64 0, .int .i64 0, .int .i64 0, .int .i64 0, .slice none 0 0, .int .i64 0, .int .i64 0, .int .i64 0, .int .i64 0, .slice none 0 0, .slice none 0 0, .slice none 0 0, .slice none 0 0, .int .i64 0, .int .i64 0, .int .i64 0, .slice none 0 0]) (by repeat (first | exact Gp.nil | apply Gp.const | apply Gp.tmp (by repeat (first | exact Gt.here | apply Gt.there (by rfl) | exact Gt.base (by rfl))))) (bld42 _ _ (by first | rfl | (simp; rfl)))) rfl rfl ?_
              refine o_y (Y_mv) rfl rfl ?_
              refine o_y ((by first | exact Y_nil rfl | exact Y_nilF rfl | exact Y_nilM rfl (by assumption) | exact Y_nilM rfl (by intro w k; kernel_rfl))) rfl rfl ?_
              refine o_y (Y_fa 2 rfl Try.underlying72 rfl sz3 rfl) rfl rfl ?_
              refine o_y ((by first | exact Y_load rfl one3 (by repeat (first | exact List.Mem.head _ | assumption | apply List.Mem.tail | apply List.mem_append_right)) (by rfl) | exact Y_load rfl one3 (by repeat (first | exact List.Mem.head _ | assumption | apply List.Mem.tail | apply List.mem_append_right)) (by assumption) | exact Y_loadR rfl one3 (by assumption) rfl (by assumption))) rfl rfl ?_
              refine o_s ((by first | exact S_storeA rfl rfl sz42 (by first | rfl | assumption) (by first | rfl | assumption) (by repeat (first | exact Upd.head | apply Upd.tail)) (by first | rfl | assumption) | exact S_storeN rfl rfl sz42 (by rfl) (by first | rfl | assumption) (by repeat (first | exact Upd.head | apply Upd.tail)) (by simp only [setAll, List.set_cons_zero, List.set_cons_succ, Nat.zero_add, Nat.reduceAdd]; rfl) (by first | rfl | assumption))) (by first | exact keep_no rfl | exact keep_sub (by repeat (first | exact List.Sublist.refl _ | exact List.nil_sublist _ | apply List.Sublist.cons_cons | apply List.Sublist.cons))) rfl ?_
              refine o_y (Y_as) rfl rfl ?_
              refine o_nil ?_
              refine q_then ?_
              refine c_ret ?_
              refine q_ret2c rfl rfl many42 rfl (by repeat (first | exact List.Mem.head _ | assumption | apply List.Mem.tail | apply List.mem_append_right)) rfl (L' := []) (List.nil_sublist _) (.bad hpE2 he)
        · refine c_seq ?_
          refine c_reg ?_
          refine s_y (Y_mv) rfl rfl ?_
          refine s_y ((by first | exact Y_nil rfl | exact Y_nilF rfl | exact Y_nilM rfl (by assumption) | exact Y_nilM rfl (by intro w k; kernel_rfl))) rfl rfl ?_
          refine s_y (Y_fa 2 rfl Try.underlying72 rfl sz3 rfl) rfl rfl ?_
          refine s_y ((by first | exact Y_load rfl one3 (by repeat (first | exact List.Mem.head _ | assumption | apply List.Mem.tail | apply List.mem_append_right)) (by rfl) | exact Y_load rfl one3 (by repeat (first | exact List.Mem.head _ | assumption | apply List.Mem.tail | apply List.mem_append_right)) (by assumption) | exact Y_loadR rfl one3 (by assumption) rfl (by assumption))) rfl rfl ?_
          refine s_y (Y_eql rfl rfl) rfl rfl ?_
          refine s_y (Y_mv) rfl rfl ?_
          by_cases h0 : e5 = 0
          · subst h0
            refine s_known (d := 167) rfl rfl ?_
            first | refine s_y (Y_fa 28 rfl Try.underlying42 rfl sz3 rfl) rfl rfl ?_ | refine s_pass rfl rfl ?_
            first | refine s_y ((by first | exact Y_load rfl one3 (by repeat (first | exact List.Mem.head _ | assumption | apply List.Mem.tail | apply List.mem_append_right)) (by rfl) | exact Y_load rfl one3 (by repeat (first | exact List.Mem.head _ | assumption | apply List.Mem.tail | apply List.mem_append_right)) (by assumption) | exact Y_loadR rfl one3 (by assumption) rfl (by assumption))) rfl rfl ?_ | refine s_pass rfl rfl ?_
            first | refine s_y (Y_lss rfl rfl) rfl rfl ?_ | refine s_pass rfl rfl ?_
            first | refine s_y (Y_mv) rfl rfl ?_ | refine s_pass rfl rfl ?_
            by_cases h1 : (tt : Int) < 1
            · refine s_known (d := 171) rfl (decide_eq_true h1) ?_
              first | refine s_y (Y_fa 28 rfl Try.underlying42 rfl sz3 rfl) rfl rfl ?_ | refine s_pass rfl rfl ?_
              first | refine s_y ((by first | exact Y_load rfl one3 (by repeat (first | exact List.Mem.head _ | assumption | apply List.Mem.tail | apply List.mem_append_right)) (by rfl) | exact Y_load rfl one3 (by repeat (first | exact List.Mem.head _ | assumption | apply List.Mem.tail | apply List.mem_append_right)) (by assumption) | exact Y_loadR rfl one3 (by assumption) rfl (by assumption))) rfl rfl ?_ | refine s_pass rfl rfl ?_
              first | refine s_y (Y_gtr rfl rfl) rfl rfl ?_ | refine s_pass rfl rfl ?_
              first | refine s_y (Y_pk rfl Gx.const (Gx.tmp (by repeat (first | exact Gt.here | apply Gt.there (by rfl) | exact Gt.base (by rfl))))) rfl rfl ?_ | refine s_pass rfl rfl ?_
              first | refine s_y (Y_mv) rfl rfl ?_ | refine s_pass rfl rfl ?_
              refine s_known (d := 176) (t := true) rfl rfl ?_
              first | refine s_y (Y_fa 27 rfl Try.underlying42 rfl sz3 rfl) rfl rfl ?_ | refine s_pass rfl rfl ?_
              first | refine s_y ((by first | exact Y_load rfl one3 (by repeat (first | exact List.Mem.head _ | assumption | apply List.Mem.tail | apply List.mem_append_right)) (by rfl) | exact Y_load rfl one3 (by repeat (first | exact List.Mem.head _ | assumption | apply List.Mem.tail | apply List.mem_append_right)) (by assumption) | exact Y_loadR rfl one3 (by assumption) rfl (by assumption))) rfl rfl ?_ | refine s_pass rfl rfl ?_
              first | refine s_y (Y_fa 28 rfl Try.underlying42 rfl sz3 rfl) rfl rfl ?_ | refine s_pass rfl rfl ?_
              first | refine s_y ((by first | exact Y_load rfl one3 (by repeat (first | exact List.Mem.head _ | assumption | apply List.Mem.tail | apply List.mem_append_right)) (by rfl) | exact Y_load rfl one3 (by repeat (first | exact List.Mem.head _ | assumption | apply List.Mem.tail | apply List.mem_append_right)) (by assumption) | exact Y_loadR rfl one3 (by assumption) rfl (by assumption))) rfl rfl ?_ | refine s_pass rfl rfl ?_
              first | refine s_y (Y_geq rfl rfl) rfl rfl ?_ | refine s_pass rfl rfl ?_
              first | refine s_y (Y_pk rfl Gx.const (Gx.tmp (by repeat (first | exact Gt.here | apply Gt.there (by rfl) | exact Gt.base (by rfl))))) rfl rfl ?_ | refine s_pass rfl rfl ?_
              refine s_y (Y_pk rfl (Gx.tmp (by repeat (first | exact Gt.here | apply Gt.there (by rfl) | exact Gt.base (by rfl)))) Gx.const) rfl rfl ?_
              refine s_nil ?_
              refine q_then ?_
              refine c_T (t := true) (by rfl) rfl ?_
              refine c_reg ?_
              refine s_y (Y_mv) rfl rfl ?_
              refine s_y ((by first | exact Y_nil rfl | exact Y_nilF rfl | exact Y_nilM rfl (by assumption) | exact Y_nilM rfl (by intro w k; kernel_rfl))) rfl rfl ?_
              refine s_y (Y_fa 2 rfl Try.underlying72 rfl sz3 rfl) rfl rfl ?_
              refine s_s (S_stC rfl sz3 (by rfl) (by repeat (first | exact Upd.head | apply Upd.tail)) (by first | (simp only [Nat.zero_add, Nat.reduceAdd, List.set_cons_succ, List.set_cons_zero]; rfl) | rfl) (by first | (simp; done) | omega)) rfl ?_
              refine s_nil ?_
              exact hm 9 _ _ (by rw [if_pos ⟨rfl, by omega⟩]) trivial rfl (fun _ h => h)
            · refine s_known (d := 171) rfl (decide_eq_false h1) ?_
              first | refine s_y (Y_fa 28 rfl Try.underlying42 rfl sz3 rfl) rfl rfl ?_ | refine s_pass rfl rfl ?_
              first | refine s_y ((by first | exact Y_load rfl one3 (by repeat (first | exact List.Mem.head _ | assumption | apply List.Mem.tail | apply List.mem_append_right)) (by rfl) | exact Y_load rfl one3 (by repeat (first | exact List.Mem.head _ | assumption | apply List.Mem.tail | apply List.mem_append_right)) (by assumption) | exact Y_loadR rfl one3 (by assumption) rfl (by assumption))) rfl rfl ?_ | refine s_pass rfl rfl ?_
              first | refine s_y (Y_gtr rfl rfl) rfl rfl ?_ | refine s_pass rfl rfl ?_
              first | refine s_y (Y_pk rfl Gx.const (Gx.tmp (by repeat (first | exact Gt.here | apply Gt.there (by rfl) | exact Gt.base (by rfl))))) rfl rfl ?_ | refine s_pass rfl rfl ?_
              first | refine s_y (Y_mv) rfl rfl ?_ | refine s_pass rfl rfl ?_
              by_cases h2 : (tt : Int) > 16
              · refine s_known (d := 176) (t := decide ((tt : Int) > 16)) rfl (decide_eq_true h2) ?_
                first | refine s_y (Y_fa 27 rfl Try.underlying42 rfl sz3 rfl) rfl rfl ?_ | refine s_pass rfl rfl ?_
                first | refine s_y ((by first | exact Y_load rfl one3 (by repeat (first | exact List.Mem.head _ | assumption | apply List.Mem.tail | apply List.mem_append_right)) (by rfl) | exact Y_load rfl one3 (by repeat (first | exact List.Mem.head _ | assumption | apply List.Mem.tail | apply List.mem_append_right)) (by assumption) | exact Y_loadR rfl one3 (by assumption) rfl (by assumption))) rfl rfl ?_ | refine s_pass rfl rfl ?_
                first | refine s_y (Y_fa 28 rfl Try.underlying42 rfl sz3 rfl) rfl rfl ?_ | refine s_pass rfl rfl ?_
                first | refine s_y ((by first | exact Y_load rfl one3 (by repeat (first | exact List.Mem.head _ | assumption | apply List.Mem.tail | apply List.mem_append_right)) (by rfl) | exact Y_load rfl one3 (by repeat (first | exact List.Mem.head _ | assumption | apply List.Mem.tail | apply List.mem_append_right)) (by assumption) | exact Y_loadR rfl one3 (by assumption) rfl (by assumption))) rfl rfl ?_ | refine s_pass rfl rfl ?_
                first | refine s_y (Y_geq rfl rfl) rfl rfl ?_ | refine s_pass rfl rfl ?_
                first | refine s_y (Y_pk rfl Gx.const (Gx.tmp (by repeat (first | exact Gt.here | apply Gt.there (by rfl) | exact Gt.base (by rfl))))) rfl rfl ?_ | refine s_pass rfl rfl ?_
                refine s_y (Y_pk rfl (Gx.tmp (by repeat (first | exact Gt.here | apply Gt.there (by rfl) | exact Gt.base (by rfl)))) Gx.const) rfl rfl ?_
                refine s_nil ?_
                refine q_then ?_
                refine c_T (t := true) (by rfl) rfl ?_
                refine c_reg ?_
                refine s_y (Y_mv) rfl rfl ?_
                refine s_y ((by first | exact Y_nil rfl | exact Y_nilF rfl | exact Y_nilM rfl (by assumption) | exact Y_nilM rfl (by intro w k; kernel_rfl))) rfl rfl ?_
                refine s_y (Y_fa 2 rfl Try.underlying72 rfl sz3 rfl) rfl rfl ?_
                refine s_s (S_stC rfl sz3 (by rfl) (by repeat (first | exact Upd.head | apply Upd.tail)) (by first | (simp only [Nat.zero_add, Nat.reduceAdd, List.set_cons_succ, List.set_cons_zero]; rfl) | rfl) (by first | (simp; done) | omega)) rfl ?_
                refine s_nil ?_
                exact hm 9 _ _ (by rw [if_pos ⟨rfl, by omega⟩]) trivial rfl (fun _ h => h)
              · refine s_known (d := 176) (t := decide ((tt : Int) > 16)) rfl (decide_eq_false h2) ?_
                first | refine s_y (Y_fa 27 rfl Try.underlying42 rfl sz3 rfl) rfl rfl ?_ | refine s_pass rfl rfl ?_
                first | refine s_y ((by first | exact Y_load rfl one3 (by repeat (first | exact List.Mem.head _ | assumption | apply List.Mem.tail | apply List.mem_append_right)) (by rfl) | exact Y_load rfl one3 (by repeat (first | exact List.Mem.head _ | assumption | apply List.Mem.tail | apply List.mem_append_right)) (by assumption) | exact Y_loadR rfl one3 (by assumption) rfl (by assumption))) rfl rfl ?_ | refine s_pass rfl rfl ?_
                first | refine s_y (Y_fa 28 rfl Try.underlying42 rfl sz3 rfl) rfl rfl ?_ | refine s_pass rfl rfl ?_
                first | refine s_y ((by first | exact Y_load rfl one3 (by repeat (first | exact List.Mem.head _ | assumption | apply List.Mem.tail | apply List.mem_append_right)) (by rfl) | exact Y_load rfl one3 (by repeat (first | exact List.Mem.head _ | assumption | apply List.Mem.tail | apply List.mem_append_right)) (by assumption) | exact Y_loadR rfl one3 (by assumption) rfl (by assumption))) rfl rfl ?_ | refine s_pass rfl rfl ?_
                first | refine s_y (Y_geq rfl rfl) rfl rfl ?_ | refine s_pass rfl rfl ?_
                first | refine s_y (Y_pk rfl Gx.const (Gx.tmp (by repeat (first | exact Gt.here | apply Gt.there (by rfl) | exact Gt.base (by rfl))))) rfl rfl ?_ | refine s_pass rfl rfl ?_
                refine s_y (Y_pk rfl (Gx.tmp (by repeat (first | exact Gt.here | apply Gt.there (by rfl) | exact Gt.base (by rfl)))) Gx.const) rfl rfl ?_
                refine s_nil ?_
                refine q_then ?_
                by_cases h3 : (ix : Int) ≥ tt
                · refine c_T (t := decide ((ix : Int) ≥ tt)) (by rfl) (decide_eq_true h3) ?_
                  refine c_reg ?_
                  refine s_y (Y_mv) rfl rfl ?_
                  refine s_y ((by first | exact Y_nil rfl | exact Y_nilF rfl | exact Y_nilM rfl (by assumption) | exact Y_nilM rfl (by intro w k; kernel_rfl))) rfl rfl ?_
                  refine s_y (Y_fa 2 rfl Try.underlying72 rfl sz3 rfl) rfl rfl ?_
                  refine s_s (S_stC rfl sz3 (by rfl) (by repeat (first | exact Upd.head | apply Upd.tail)) (by first | (simp only [Nat.zero_add, Nat.reduceAdd, List.set_cons_succ, List.set_cons_zero]; rfl) | rfl) (by first | (simp; done) | omega)) rfl ?_
                  refine s_nil ?_
                  exact hm 9 _ _ (by rw [if_pos ⟨rfl, by omega⟩]) trivial rfl (fun _ h => h)
                · refine c_F (t := decide ((ix : Int) ≥ tt)) (by rfl) (decide_eq_false h3) ?_
                  refine c_skip ?_
                  exact hm 0 _ _ (by rw [if_neg (by omega)]) trivial rfl (fun _ h => h)
          · refine s_known (d := 167) rfl (decide_eq_false h0) ?_
            first | refine s_y (Y_fa 28 rfl Try.underlying42 rfl sz3 rfl) rfl rfl ?_ | refine s_pass rfl rfl ?_
            first | refine s_y ((by first | exact Y_load rfl one3 (by repeat (first | exact List.Mem.head _ | assumption | apply List.Mem.tail | apply List.mem_append_right)) (by rfl) | exact Y_load rfl one3 (by repeat (first | exact List.Mem.head _ | assumption | apply List.Mem.tail | apply List.mem_append_right)) (by assumption) | exact Y_loadR rfl one3 (by assumption) rfl (by assumption))) rfl rfl ?_ | refine s_pass rfl rfl ?_
            first | refine s_y (Y_lss rfl rfl) rfl rfl ?_ | refine s_pass rfl rfl ?_
            first | refine s_y (Y_mv) rfl rfl ?_ | refine s_pass rfl rfl ?_
            first | refine s_y (Y_fa 28 rfl Try.underlying42 rfl sz3 rfl) rfl rfl ?_ | refine s_pass rfl rfl ?_
            first | refine s_y ((by first | exact Y_load rfl one3 (by repeat (first | exact List.Mem.head _ | assumption | apply List.Mem.tail | apply List.mem_append_right)) (by rfl) | exact Y_load rfl one3 (by repeat (first | exact List.Mem.head _ | assumption | apply List.Mem.tail | apply List.mem_append_right)) (by assumption) | exact Y_loadR rfl one3 (by assumption) rfl (by assumption))) rfl rfl ?_ | refine s_pass rfl rfl ?_
            first | refine s_y (Y_gtr rfl rfl) rfl rfl ?_ | refine s_pass rfl rfl ?_
            first | refine s_y (Y_pk rfl Gx.const (Gx.tmp (by repeat (first | exact Gt.here | apply Gt.there (by rfl) | exact Gt.base (by rfl))))) rfl rfl ?_ | refine s_pass rfl rfl ?_
            first | refine s_y (Y_mv) rfl rfl ?_ | refine s_pass rfl rfl ?_
            first | refine s_y (Y_fa 27 rfl Try.underlying42 rfl sz3 rfl) rfl rfl ?_ | refine s_pass rfl rfl ?_
            first | refine s_y ((by first | exact Y_load rfl one3 (by repeat (first | exact List.Mem.head _ | assumption | apply List.Mem.tail | apply List.mem_append_right)) (by rfl) | exact Y_load rfl one3 (by repeat (first | exact List.Mem.head _ | assumption | apply List.Mem.tail | apply List.mem_append_right)) (by assumption) | exact Y_loadR rfl one3 (by assumption) rfl (by assumption))) rfl rfl ?_ | refine s_pass rfl rfl ?_
            first | refine s_y (Y_fa 28 rfl Try.underlying42 rfl sz3 rfl) rfl rfl ?_ | refine s_pass rfl rfl ?_
            first | refine s_y ((by first | exact Y_load rfl one3 (by repeat (first | exact List.Mem.head _ | assumption | apply List.Mem.tail | apply List.mem_append_right)) (by rfl) | exact Y_load rfl one3 (by repeat (first | exact List.Mem.head _ | assumption | apply List.Mem.tail | apply List.mem_append_right)) (by assumption) | exact Y_loadR rfl one3 (by assumption) rfl (by assumption))) rfl rfl ?_ | refine s_pass rfl rfl ?_
            first | refine s_y (Y_geq rfl rfl) rfl rfl ?_ | refine s_pass rfl rfl ?_
            first | refine s_y (Y_pk rfl Gx.const (Gx.tmp (by repeat (first | exact Gt.here | apply Gt.there (by rfl) | exact Gt.base (by rfl))))) rfl rfl ?_ | refine s_pass rfl rfl ?_
            refine s_y (Y_pk rfl (Gx.tmp (by repeat (first | exact Gt.here | apply Gt.there (by rfl) | exact Gt.base (by rfl)))) Gx.const) rfl rfl ?_
            refine s_nil ?_
            refine q_then ?_
            refine c_F rfl rfl ?_
            refine c_skip ?_
            exact hm e5 _ _ (by rw [if_neg (by omega)]) trivial rfl (fun _ h => h)
    · have hpE : pErr bs = 3 := by
        simp only [pErr, hbs]
        rw [if_neg hx]
      by_cases h1 : (x.toNat : Int) < 1
      · refine s_known (d := 27) rfl (decide_eq_true h1) ?_
        first | refine s_y (Y_fa 0 rfl Try.underlying42 rfl sz3 rfl) rfl rfl ?_ | refine s_pass rfl rfl ?_
        first | refine s_y ((by first | exact Y_load rfl one3 (by repeat (first | exact List.Mem.head _ | assumption | apply List.Mem.tail | apply List.mem_append_right)) (by rfl) | exact Y_load rfl one3 (by repeat (first | exact List.Mem.head _ | assumption | apply List.Mem.tail | apply List.mem_append_right)) (by assumption) | exact Y_loadR rfl one3 (by assumption) rfl (by assumption))) rfl rfl ?_ | refine s_pass rfl rfl ?_
        first | refine s_y (Y_gtr rfl rfl) rfl rfl ?_ | refine s_pass rfl rfl ?_
        first | refine s_y (Y_pk rfl Gx.const (Gx.tmp (by repeat (first | exact Gt.here | apply Gt.there (by rfl) | exact Gt.base (by rfl))))) rfl rfl ?_ | refine s_pass rfl rfl ?_
        refine s_y (Y_pk rfl (Gx.tmp (by repeat (first | exact Gt.here | apply Gt.there (by rfl) | exact Gt.base (by rfl)))) Gx.const) rfl rfl ?_
        refine s_nil ?_
        refine q_then ?_
        refine c_T (t := true) (by rfl) rfl ?_
        refine c_seq ?_
        refine c_reg ?_
        refine s_y (Y_build (cs := [.int .i64 0, .int .i64 0, .int .i64 0, .bool false, .int .u32 0, .int .i64 0, .int .i64 0, .int .i64 0, .int .i64 0, .int .i64 0, .int .i64 0, .int .i64 0, .slice none 0 0, .int .i64 0, .int .i64 0, .int .i64 0, .int .i64 0, .slice none 0 0, .int .i64 0, .int .i64 0, .int .i64 0, .int .i64 0, .slice none 0 0, .slice none 0 0, .slice none 0 0, .slice none 0 0, .int .i64 0, .int .i64 0, .int .i64 0, .slice none 0 0]) (by repeat (first | exact Gp.nil | apply Gp.const | apply Gp.tmp (by repeat (first | exact Gt.here | apply Gt.there (by rfl) | exact Gt.base (by rfl))))) (bld42 _ _ (by first | rfl | (simp; rfl)))) rfl rfl ?_
        refine s_s ((by first | exact S_storeA rfl rfl sz42 (by first | rfl | assumption) (by first | rfl | assumption) (by repeat (first | exact Upd.head | apply Upd.tail)) (by first | rfl | assumption) | exact S_storeN rfl rfl sz42 (by rfl) (by first | rfl | assumption) (by repeat (first | exact Upd.head | apply Upd.tail)) (by simp only [setAll, List.set_cons_zero, List.set_cons_succ, Nat.zero_add, Nat.reduceAdd]; rfl) (by first | rfl | assumption))) rfl ?_
        refine s_y (Y_asC) rfl rfl ?_
        refine s_nil ?_
        refine q_then ?_
        refine c_ret ?_
        refine q_ret2c rfl rfl many42 rfl (by repeat (first | exact List.Mem.head _ | assumption | apply List.Mem.tail | apply List.mem_append_right)) rfl (L' := []) (List.nil_sublist _) (.bad hpE (by decide))
      · refine s_known (d := 27) rfl (decide_eq_false h1) ?_
        first | refine s_y (Y_fa 0 rfl Try.underlying42 rfl sz3 rfl) rfl rfl ?_ | refine s_pass rfl rfl ?_
        first | refine s_y ((by first | exact Y_load rfl one3 (by repeat (first | exact List.Mem.head _ | assumption | apply List.Mem.tail | apply List.mem_append_right)) (by rfl) | exact Y_load rfl one3 (by repeat (first | exact List.Mem.head _ | assumption | apply List.Mem.tail | apply List.mem_append_right)) (by assumption) | exact Y_loadR rfl one3 (by assumption) rfl (by assumption))) rfl rfl ?_ | refine s_pass rfl rfl ?_
        first | refine s_y (Y_gtr rfl rfl) rfl rfl ?_ | refine s_pass rfl rfl ?_
        first | refine s_y (Y_pk rfl Gx.const (Gx.tmp (by repeat (first | exact Gt.here | apply Gt.there (by rfl) | exact Gt.base (by rfl))))) rfl rfl ?_ | refine s_pass rfl rfl ?_
        refine s_y (Y_pk rfl (Gx.tmp (by repeat (first | exact Gt.here | apply Gt.there (by rfl) | exact Gt.base (by rfl)))) Gx.const) rfl rfl ?_
        refine s_nil ?_
        refine q_then ?_
        refine c_T (t := decide ((x.toNat : Int) > 4)) (by rfl) (decide_eq_true (by omega)) ?_
        refine c_seq ?_
        refine c_reg ?_
        refine s_y (Y_build (cs := [.int .i64 0, .int .i64 0, .int .i64 0, .bool false, .int .u32 0, .int .i64 0, .int .i64 0, .int .i64 0, .int .i64 0, .int .i64 0, .int .i64 0, .int .i64 0, .slice none 0 0, .int .i64 0, .int .i64 0, .int .i64 0, .int .i64 0, .slice none 0 0, .int .i64 0, .int .i64 0, .int .i64 0, .int .i64 0, .slice none 0 0, .slice none 0 0, .slice none 0 0, .slice none 0 0, .int .i64 0, .int .i64 0, .int .i64 0, .slice none 0 0]) (by repeat (first | exact Gp.nil | apply Gp.const | apply Gp.tmp (by repeat (first | exact Gt.here | apply Gt.there (by rfl) | exact Gt.base (by rfl))))) (bld42 _ _ (by first | rfl | (simp; rfl)))) rfl rfl ?_
        refine s_s ((by first | exact S_storeA rfl rfl sz42 (by first | rfl | assumption) (by first | rfl | assumption) (by repeat (first | exact Upd.head | apply Upd.tail)) (by first | rfl | assumption) | exact S_storeN rfl rfl sz42 (by rfl) (by first | rfl | assumption) (by repeat (first | exact Upd.head | apply Upd.tail)) (by simp only [setAll, List.set_cons_zero, List.set_cons_succ, Nat.zero_add, Nat.reduceAdd]; rfl) (by first | rfl | assumption))) rfl ?_
        refine s_y (Y_asC) rfl rfl ?_
        refine s_nil ?_
        refine q_then ?_
        refine c_ret ?_
        refine q_ret2c rfl rfl many42 rfl (by repeat (first | exact List.Mem.head _ | assumption | apply List.Mem.tail | apply List.mem_append_right)) rfl (L' := []) (List.nil_sublist _) (.bad hpE (by decide))
end
end Go.Proofs.Ytphmdhbhoakcaaa
