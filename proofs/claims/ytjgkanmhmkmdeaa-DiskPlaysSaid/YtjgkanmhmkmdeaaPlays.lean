/- Chapter 13: the disk and the document's disk, call by call: DiskPlays, walked. -/
import Derived.Test.YtjgkanmhmkmdeaaRef13
namespace Go.Proofs.Ytjgkanmhmkmdeaa
open Go.RowKit Go.Ad Go.Maps
/-- What a write does to a disk's numbers. -/
def WStep (n q : Int) (len : Nat) (done left : Int) (dead : Bool) (er done' left' : Int) (dead' wrote : Bool) : Prop :=
  (dead = true ∧ er = 11 ∧ done' = done ∧ left' = left ∧ dead' = true ∧ wrote = false) ∨
  (dead = false ∧ (q < 0 ∨ n ≤ q ∨ len ≠ 64) ∧ er = 1 ∧ done' = done ∧ left' = left ∧ dead' = false ∧ wrote = false) ∨
  (dead = false ∧ 0 ≤ q ∧ q < n ∧ len = 64 ∧ left = 0 ∧ er = 11 ∧ done' = done ∧ left' = left ∧ dead' = true ∧ wrote = false) ∨
  (dead = false ∧ 0 ≤ q ∧ q < n ∧ len = 64 ∧ left ≠ 0 ∧ er = 0 ∧ done' = done + 1 ∧ left' = (if 0 < left then left - 1 else left) ∧ dead' = false ∧ wrote = true)
theorem WStep.same {n q : Int} {len : Nat} {done left : Int} {dead : Bool} {er er2 d d2 l l2 : Int} {dd dd2 wr wr2 : Bool} (h : WStep n q len done left dead er d l dd wr) (k : WStep n q len done left dead er2 d2 l2 dd2 wr2) :
    er2 = er ∧ d2 = d ∧ l2 = l ∧ dd2 = dd ∧ wr2 = wr := by
  rcases h with h | h | h | h <;> rcases k with k | k | k | k <;> (obtain ⟨h0, h⟩ := h; obtain ⟨k0, k⟩ := k) <;> first | exact absurd (h0.symm.trans k0) (by decide) | (simp_all; done) | (exfalso; omega)
def Agree (f : Value → Option Value) (ys : List (List UInt8)) (n : Nat) : Prop := ∀ i : Nat, i < n → ∃ y, ys[i]? = some y ∧ y.length = 64 ∧ (f (.int .i64 i)).getD zsector = .agg (y.map bv).toArray
theorem Agree.new (n : Nat) : Agree (fun _ => none) (List.replicate n zrow) n := fun i hi => ⟨zrow, by simp [hi], by simp, by simp only [Option.getD_none]; rw [zeros_arr]⟩
theorem Agree.upd {f : Value → Option Value} {ys : List (List UInt8)} {n q : Nat} {xs : List UInt8} (h : Agree f ys n) (hl : ys.length = n) (hq : q < n) (hx : xs.length = 64) : Agree (Go.Ad.upd f (.int .i64 q) (.agg (xs.map bv).toArray)) (ys.set q xs) n := by
  intro i hi
  by_cases h1 : q = i
  · subst h1
    exact ⟨xs, by rw [List.getElem?_set_self (by omega)], hx, by rw [upd_same]; rfl⟩
  · obtain ⟨y, y1, y2, y3⟩ := h i hi
    exact ⟨y, by rw [List.getElem?_set_ne h1]; exact y1, y2, by rw [upd_other _ _ (by simp; omega)]; exact y3⟩
theorem WStep.ok {n q : Int} {len : Nat} {done left : Int} {dead : Bool} {er d l : Int} {dd wr : Bool} (h : WStep n q len done left dead er d l dd wr) (hl1 : -1 ≤ left) (hl2 : left ≤ 9223372036854775807) (hd : 0 ≤ done) :
    -1 ≤ l ∧ l ≤ 9223372036854775807 ∧ 0 ≤ d ∧ d ≤ done + 1 := by
  rcases h with ⟨_, _, h1, h2, _⟩ | ⟨_, _, _, h1, h2, _⟩ | ⟨_, _, _, _, _, _, h1, h2, _⟩ | ⟨_, _, _, _, h0, _, h1, h2, _⟩
  · omega
  · omega
  · omega
  · split at h2 <;> omega
theorem WStep.agree {n : Nat} {q : Int} {len : Nat} {done left : Int} {dead : Bool} {er d l : Int} {dd wr : Bool} {f : Value → Option Value} {ys : List (List UInt8)} {xs : List UInt8} (h : WStep n q len done left dead er d l dd wr) (hA : Agree f ys n) (hl : ys.length = n) (hx : xs.length = len) :
    Agree (if wr then Go.Ad.upd f (.int .i64 q) (.agg (xs.map bv).toArray) else f) (if wr then ys.set q.toNat xs else ys) n := by
  rcases h with ⟨_, _, _, _, _, rfl⟩ | ⟨_, _, _, _, _, _, rfl⟩ | ⟨_, _, _, _, _, _, _, _, _, rfl⟩ | ⟨_, h1, h2, rfl, _, _, _, _, _, rfl⟩
  · exact hA
  · exact hA
  · exact hA
  · obtain ⟨q0, rfl⟩ := Int.eq_ofNat_of_zero_le h1
    simpa using hA.upd hl (show q0 < n by omega) hx
theorem RefAt.more {w w' : World} {B : Nat} {av : List Nat} {b : Nat} {v : Value} {n : Nat} {done left : Int} {dead : Bool} {ys : List (List UInt8)} (h : RefAt w B av b v n done left dead ys) (hx : Ex [] w w') (l : List Nat) (hl : ∀ k ∈ l, w.heap.size ≤ k) :
    RefAt w' B (l ++ av) b v n done left dead ys := by
  have h' := h.ex hx (by simp)
  obtain ⟨xs, h1, h2⟩ := h.own
  refine ⟨h'.blk, ?_, h.bas, fun k hk => ⟨?_, (h.vav k hk).2⟩, h.len, xs, ownsRow_ex h1 hx (by simp), fun i y hy => ?_⟩
  · intro hm
    rcases List.mem_append.1 hm with hm | hm
    · have := hl _ hm; have := h.blk.lt; omega
    · exact h.bav hm
  · intro hm
    rcases List.mem_append.1 hm with hm | hm
    · have := hl _ hm; have := (h1.lt k hk).2; omega
    · exact (h.vav k hk).1 hm
  · obtain ⟨q0, g, c, q1, q2, q3, q4, q5, q6⟩ := h2 i y hy
    refine ⟨q0, g, c, q1, rangeAt_ex q2 hx q6 (by simp), fun hm => ?_, q4, q5, Nat.lt_of_lt_of_le q6 hx.size⟩
    rcases List.mem_append.1 hm with hm | hm
    · have := hl _ hm; omega
    · exact q3 hm
theorem RefAt.fewer {w : World} {B : Nat} {av av' : List Nat} {b : Nat} {v : Value} {n : Nat} {done left : Int} {dead : Bool} {ys : List (List UInt8)} (h : RefAt w B av b v n done left dead ys) (hl : ∀ k ∈ av', k ∈ av) : RefAt w B av' b v n done left dead ys := by
  obtain ⟨xs, h1, h2⟩ := h.own
  refine ⟨h.blk, fun hm => h.bav (hl _ hm), h.bas, fun k hk => ⟨fun hm => (h.vav k hk).1 (hl _ hm), (h.vav k hk).2⟩, h.len, xs, h1, fun i y hy => ?_⟩
  obtain ⟨q0, g, c, q1, q2, q3, q4, q5, q6⟩ := h2 i y hy
  exact ⟨q0, g, c, q1, q2, fun hm => q3 (hl _ hm), q4, q5, q6⟩

section
variable {b m : Nat} {q : Int} {n : Nat} {done left : Int} {dead : Bool} {f : Value → Option Value} {w : World} {B : Nat} {av : List Nat} {xb : Nat} {v : Value} {ys : List (List UInt8)}
theorem DiskWrite_all (a : Option Addr) (len cap : Nat) (xs : List UInt8) (D : DiskAt w b m n done left dead f) (hx : BytesAt w a len xs) (hxb : ∀ c o, 0 < len → a = some ⟨c, o, none⟩ → c ≠ b) (hsm : n ≤ 1024) (hl1 : -1 ≤ left) (hl2 : left ≤ 9223372036854775807) (hd : 0 ≤ done) (hd' : done < 1000000) :
    Calls Try.prog 12 #[ptr b, .int .i64 q, .slice a len cap] w fun e w' => ∃ er d l dd wr, e = .returned (.int .i64 er) ∧ WStep n q len done left dead er d l dd wr ∧
      DiskAt w' b m n d l dd (if wr then upd f (.int .i64 q) (.agg (xs.map bv).toArray) else f) ∧ Ex [b, m] w w' := by
  cases dead with
  | true =>
    refine (DiskWrite_dead _ D).mono ?_
    rintro e w' ⟨rfl, rfl⟩
    exact ⟨11, done, left, true, false, rfl, .inl ⟨rfl, rfl, rfl, rfl, rfl, rfl⟩, D, Ex.refl _ _⟩
  | false =>
    by_cases h : q < 0 ∨ (n : Int) ≤ q ∨ len ≠ 64
    · refine (DiskWrite_arg _ _ _ D h).mono ?_
      rintro e w' ⟨rfl, rfl⟩
      exact ⟨1, done, left, false, false, rfl, .inr (.inl ⟨rfl, h, rfl, rfl, rfl, rfl, rfl⟩), D, Ex.refl _ _⟩
    · obtain ⟨h1, h2, h3⟩ : 0 ≤ q ∧ q < n ∧ len = 64 := by omega
      subst h3
      by_cases hl : left = 0
      · subst hl
        refine (DiskWrite_cut _ _ D h1 h2).mono ?_
        rintro e w' ⟨rfl, D', X⟩
        exact ⟨11, done, 0, true, false, rfl, .inr (.inr (.inl ⟨rfl, h1, h2, rfl, rfl, rfl, rfl, rfl, rfl, rfl⟩)), D', X.mono (by simp)⟩
      · obtain ⟨hx1, hx2⟩ := hx
        rcases hx2 with rfl | ⟨c, o, rfl, hc, hr⟩
        · simp at hx1
        refine (DiskWrite_ok c o cap (xs.map bv) (by simpa using hx1) D hr h1 h2 (by omega) hl hl1 hl2 hd hd' (hxb c o (by omega) rfl)).mono ?_
        rintro e w' ⟨rfl, D', X⟩
        exact ⟨0, done + 1, _, false, true, rfl, .inr (.inr (.inr ⟨rfl, h1, h2, rfl, hl, rfl, rfl, rfl, rfl, rfl⟩)), D', X⟩
theorem RefWrite_all (a : Option Addr) (len cap : Nat) (xs : List UInt8) (D : RefAt w B av xb v n done left dead ys) (hn : 0 < n) (hx : BytesAt w a len xs) (hcap : a = none → cap = 0) (hab : ∀ c o, 0 < len → a = some ⟨c, o, none⟩ → c ≠ xb) (hav : ∀ k ∈ av, k < w.heap.size)
    (hl1 : -1 ≤ left) (hl2 : left ≤ 9223372036854775807) (hd : 0 ≤ done) (hd' : done < 1000000) :
    Calls Try.prog 20 #[ptr xb, .int .i64 q, .slice a len cap] w fun e w' => ∃ er d l dd wr, e = .returned (.int .i64 er) ∧ WStep n q len done left dead er d l dd wr ∧
      RefAt w' B av xb v n d l dd (if wr then ys.set q.toNat xs else ys) ∧ ∃ l, Ex l w w' ∧ ∀ k ∈ l, B ≤ k ∧ k ∉ av := by
  cases dead with
  | true =>
    refine (RefWrite_dead _ D).mono ?_
    rintro e w' ⟨rfl, rfl⟩
    exact ⟨11, done, left, true, false, rfl, .inl ⟨rfl, rfl, rfl, rfl, rfl, rfl⟩, D, [], Ex.refl _ _, by simp⟩
  | false =>
    by_cases h : q < 0 ∨ (n : Int) ≤ q ∨ len ≠ 64
    · refine (RefWrite_arg _ _ _ D hn h).mono ?_
      rintro e w' ⟨rfl, rfl⟩
      exact ⟨1, done, left, false, false, rfl, .inr (.inl ⟨rfl, h, rfl, rfl, rfl, rfl, rfl⟩), D, [], Ex.refl _ _, by simp⟩
    · obtain ⟨h1, h2, h3⟩ : 0 ≤ q ∧ q < n ∧ len = 64 := by omega
      subst h3
      by_cases hl : left = 0
      · subst hl
        refine (RefWrite_cut _ _ D h1 h2).mono ?_
        rintro e w' ⟨rfl, D', X⟩
        exact ⟨11, done, 0, true, false, rfl, .inr (.inr (.inl ⟨rfl, h1, h2, rfl, rfl, rfl, rfl, rfl, rfl, rfl⟩)), D', [xb], X, by simp; exact ⟨D.bas, D.bav⟩⟩
      · refine (RefWrite_ok a cap D h1 h2 hl hl1 hl2 hd hd' hx hcap (fun c o => hab c o (by omega)) hav).mono ?_
        rintro e w' ⟨rfl, D', X⟩
        exact ⟨0, done + 1, _, false, true, rfl, .inr (.inr (.inr ⟨rfl, h1, h2, rfl, hl, rfl, rfl, rfl, rfl, rfl⟩)), D', X⟩
/-- What a read tells. -/
def RRes (n : Int) (q : Int) (dead : Bool) (ys : List (List UInt8)) (er : Int) (xs : List UInt8) : Prop :=
  (dead = true ∧ er = 11 ∧ xs = []) ∨ (dead = false ∧ (q < 0 ∨ n ≤ q) ∧ er = 1 ∧ xs = []) ∨ (dead = false ∧ 0 ≤ q ∧ q < n ∧ er = 0 ∧ ys[q.toNat]? = some xs)
theorem RRes.same {n q : Int} {dead : Bool} {ys : List (List UInt8)} {er er2 : Int} {xs xs2 : List UInt8} (h : RRes n q dead ys er xs) (k : RRes n q dead ys er2 xs2) : er2 = er ∧ xs2 = xs := by
  rcases h with h | h | h <;> rcases k with k | k | k <;> (obtain ⟨h0, h⟩ := h; obtain ⟨k0, k⟩ := k) <;> first | exact absurd (h0.symm.trans k0) (by decide) | (simp_all; done) | (exfalso; omega)
theorem DiskRead_all (D : DiskAt w b m n done left dead f) (hsm : n ≤ 1024) (hA : Agree f ys n) :
    Calls Try.prog 17 #[ptr b, .int .i64 q] w fun e w' => ∃ a len cap er xs, e = .returned (.tuple #[.slice a len cap, .int .i64 er]) ∧ RRes n q dead ys er xs ∧ BytesAt w' a len xs ∧ Ex [] w w' := by
  cases dead with
  | true =>
    refine (DiskRead_dead D).mono ?_
    rintro e w' ⟨rfl, rfl⟩
    exact ⟨_, _, _, _, [], rfl, .inl ⟨rfl, rfl, rfl⟩, ⟨rfl, .inl rfl⟩, Ex.refl _ _⟩
  | false =>
    by_cases h : q < 0 ∨ (n : Int) ≤ q
    · refine (DiskRead_arg D h).mono ?_
      rintro e w' ⟨rfl, rfl⟩
      exact ⟨_, _, _, _, [], rfl, .inr (.inl ⟨rfl, h, rfl, rfl⟩), ⟨rfl, .inl rfl⟩, Ex.refl _ _⟩
    · obtain ⟨q0, rfl⟩ := Int.eq_ofNat_of_zero_le (show 0 ≤ q by omega)
      obtain ⟨y, y1, y2, y3⟩ := hA q0 (by omega)
      refine (DiskRead_ok D (by omega) (by omega) (by omega) (y.map bv).toArray (by simpa using y2) y3 (all_bv y)).mono ?_
      rintro e w' ⟨rfl, rfl⟩
      exact ⟨_, _, _, _, y, rfl, .inr (.inr ⟨rfl, by omega, by omega, rfl, by simpa using y1⟩), (Blk.new w _ _).bytes y2, (Ex.refl _ _).alloc _⟩
theorem RefRead_all (D : RefAt w B av xb v n done left dead ys) (hn : 0 < n) :
    Calls Try.prog 19 #[ptr xb, .int .i64 q] w fun e w' => ∃ a len cap er xs, e = .returned (.tuple #[.slice a len cap, .int .i64 er]) ∧ RRes n q dead ys er xs ∧ BytesAt w' a len xs ∧ Ex [] w w' := by
  cases dead with
  | true =>
    refine (RefRead_dead D).mono ?_
    rintro e w' ⟨rfl, rfl⟩
    exact ⟨_, _, _, _, [], rfl, .inl ⟨rfl, rfl, rfl⟩, ⟨rfl, .inl rfl⟩, Ex.refl _ _⟩
  | false =>
    by_cases h : q < 0 ∨ (n : Int) ≤ q
    · refine (RefRead_arg D hn h).mono ?_
      rintro e w' ⟨rfl, rfl⟩
      exact ⟨_, _, _, _, [], rfl, .inr (.inl ⟨rfl, h, rfl, rfl⟩), ⟨rfl, .inl rfl⟩, Ex.refl _ _⟩
    · obtain ⟨q0, rfl⟩ := Int.eq_ofNat_of_zero_le (show 0 ≤ q by omega)
      obtain ⟨y, y1⟩ : ∃ y, ys[q0]? = some y := ⟨ys[q0]'(by rw [D.len]; omega), by simp⟩
      refine (RefRead_ok D (by omega) (by omega) (y := y) (by simpa using y1)).mono ?_
      rintro e w' ⟨g, cap, rfl, h1, h2⟩
      exact ⟨_, _, _, _, y, rfl, .inr (.inr ⟨rfl, by omega, by omega, rfl, by simpa using y1⟩), h1, h2⟩
end
theorem RefAt.lower {w : World} {B B' : Nat} {av : List Nat} {b : Nat} {v : Value} {n : Nat} {done left : Int} {dead : Bool} {ys : List (List UInt8)} (h : RefAt w B av b v n done left dead ys) (hB : B' ≤ B) : RefAt w B' av b v n done left dead ys := by
  obtain ⟨xs, h1, h2⟩ := h.own
  exact ⟨h.blk, h.bav, Nat.le_trans hB h.bas, h.vav, h.len, xs, ⟨h1.1, h1.2.imp id (fun ⟨g, cap, cur, e1, e2, e3⟩ => ⟨g, cap, cur, e1, Nat.le_trans hB e2, e3⟩)⟩, h2⟩
theorem bytesAt_ex' {l : List Nat} {w w' : World} {a : Option Addr} {len : Nat} {xs : List UInt8} (h : BytesAt w a len xs) (hx : Ex l w w') (hl : ∀ b o, 0 < len → a = some ⟨b, o, none⟩ → b ∉ l) : BytesAt w' a len xs := by
  refine ⟨h.1, ?_⟩
  rcases h.2 with h' | ⟨b, o, h1, h2, h3⟩
  · exact .inl h'
  · by_cases h0 : 0 < len
    · exact .inr ⟨b, o, h1, Nat.lt_of_lt_of_le h2 hx.size, rangeAt_ex h3 hx h2 (hl b o h0 h1)⟩
    · exact .inl (List.eq_nil_of_length_eq_zero (by have := h.1; omega))
/-- An own slice of bytes reads so. -/
theorem own_bytes0 {w : World} {base : Nat} {e : TypeId} {v : Value} {n : Nat} {ys : List UInt8} (h : w.ownsRow base e 1 v n (ys.map bv)) : ∃ a cap, v = .slice a n cap ∧ BytesAt w a n ys ∧ (∀ c o, a = some ⟨c, o, none⟩ → base ≤ c) ∧ (a = none → cap = 0) ∧ (0 < n → ∃ g, a = some ⟨g, 0, none⟩) := by
  by_cases h0 : 0 < n
  · obtain ⟨g, cap, rfl, h1, _, h2⟩ := own_bytes h h0
    exact ⟨_, _, rfl, h2, fun c o e => by cases e; exact h1, by simp, fun _ => ⟨g, rfl⟩⟩
  · have hy : ys = [] := List.eq_nil_of_length_eq_zero (by have := h.1; simp at this; omega)
    rcases h.2 with ⟨rfl, rfl⟩ | ⟨g, cap, cur, rfl, h1, _⟩
    · exact ⟨none, 0, rfl, ⟨by simp [hy], .inl hy⟩, by simp, by simp, fun h => by omega⟩
    · exact ⟨_, _, rfl, ⟨by have := h.1; simp at this; omega, .inl hy⟩, fun c o e => by cases e; exact h1, by simp, fun h => absurd h h0⟩
def MineI (w : World) (base : Nat) (v : Value) (len : Nat) (k : Nat) (vi : Value) (wr : World) : Prop :=
  ∃ (j : Nat) (ys : List UInt8), vi = .int .i64 (j : Int) ∧ j + k = len ∧ wr.ownsRow base 5 1 v len (ys.map bv) ∧ Ex v.ownBlock.toList w wr
/-- Both disks, at one. -/
def Play (w : World) (B b m xb n j : Nat) (av : List Nat) : Prop := ∃ (done left : Int) (dead : Bool) (f : Value → Option Value) (ys : List (List UInt8)) (v : Value),
  DiskAt w b m n done left dead f ∧ RefAt w B av xb v n done left dead ys ∧ Agree f ys n ∧ -1 ≤ left ∧ left ≤ 9223372036854775807 ∧ 0 ≤ done ∧ done ≤ j
def PlaysI (W : World) (b m xb n : Nat) (k : Nat) (vi : Value) (wr : World) : Prop := ∃ i : Nat, vi = .int .i64 (i : Int) ∧ i + k = 100 ∧ Play wr W.heap.size b m xb n i [b, m] ∧ Ex [] W wr
set_option maxRecDepth 100000 in
set_option maxHeartbeats 3200000 in
theorem diskPlays_walk (q : Int) (ca : Option Addr) (ccap : Nat) (cs : List CallD) (W : World) (hcs : CallsAt W ca cs) (hcb : ∀ (i : Nat) (c : CallD), cs[i]? = some c → c.len ≤ 140737488351232 ∧ (c.a = none → c.cap = 0)) :
    Calls Try.prog 5 #[.int .i64 q, .slice ca cs.length ccap] W fun e w' => e = .returned (.bool true) ∧ Ex [] W w' := by
  have Hcs := Lib.hid hcs
  have Hcb := Lib.hid hcb
  clear hcs hcb
  go_enter Try.func5, Try.ntmps5
  go_wp2_with fail
  refine (known13 _).mono ?_
  rintro e w1 ⟨rfl, X1⟩
  go_wp2_with fail
  by_cases hq : q < 1 ∨ 1024 < q
  · refine (DiskNew_bad hq _).mono ?_
    rintro e w2 ⟨rfl, X2⟩
    go_wp2_with fail
    refine (RefNew_bad hq _).mono ?_
    rintro e w3 ⟨rfl, rfl⟩
    go_wp2_with fail
    have X := X1.trans X2
    go_loopg [9] 1 (fun k vi wr => vi = .int .i64 0 ∧ Ex [] W wr)
    case atStart => exact ⟨rfl, X⟩
    case round =>
      obtain ⟨rfl, hX⟩ := hrel
      go_wp2
      go_ret
      exact ⟨rfl, hX⟩
  · obtain ⟨n, rfl⟩ := Int.eq_ofNat_of_zero_le (show 0 ≤ q by omega)
    have hn1 : 1 ≤ n := by omega
    have hn2 : n ≤ 1024 := by omega
    clear hq
    refine (DiskNew_ok (by omega) (by omega) _).mono ?_
    rintro e w2 ⟨rfl, D2, X2⟩
    have hs1 := X1.size
    have hlt := D2.lt
    have hs2 : W.heap.size ≤ w1.heap.size + 1 := by omega
    have hbm := D2.ne
    generalize w1.heap.size + 1 = b at *
    generalize w1.heap.size = m at *
    go_wp2_with fail
    refine (RefNew_ok n hn1 hn2 w2 (av := [b, m]) (by simp; omega)).mono ?_
    rintro e w3 ⟨rfl, ⟨v, R3⟩, X3⟩
    have P3 : Play w3 W.heap.size b m w2.heap.size n 0 [b, m] := ⟨0, -1, false, _, _, v, D2.ex X3 (by simp) (by simp), R3.lower (by omega), Agree.new n, by omega, by omega, by omega, by omega⟩
    have X : Ex [] W w3 := (X1.trans X2).trans X3
    have hxb : W.heap.size ≤ w2.heap.size := by omega
    generalize w2.heap.size = xb at *
    clear R3 D2 X1 X2 X3
    go_wp2_with fail
    go_loopg [9] 100 (fun k vi wr => PlaysI W b m xb n k vi wr)
    case atStart => exact ⟨0, rfl, rfl, P3, X⟩
    case round =>
      clear P3 X
      obtain ⟨i, rfl, hk, P, X⟩ := hrel
      by_cases hin : i < cs.length ∧ i < 100
      · obtain ⟨hin1, hin2⟩ := hin
        rcases Hcs.out with h | ⟨cb, co, rfl, hcb, hcc⟩
        · rw [h] at hin1; simp at hin1
        obtain ⟨c, hc⟩ : ∃ c, cs[i]? = some c := ⟨cs[i], by simp⟩
        obtain ⟨q0, q1, q2, qB, qm, qw⟩ := hcc i c hc
        obtain ⟨qr, qn⟩ := Hcb.out i c hc
        have hcx := fun o => X.cell (p := ⟨cb, o, none⟩) hcb (by simp)
        have r0 := (hcx _).trans q0
        have r1 := (hcx _).trans q1
        have r2 := (hcx _).trans q2
        have hin3 : (i : Int) < cs.length := by omega
        clear hc hcc hcx q0 q1 q2 hin1
        obtain ⟨ck, cn, ca, cl, ccp, cxs⟩ := c
        simp only at r0 r1 r2 qB qm qw qr qn
        have hcn : -9223372036854775808 ≤ cn ∧ cn ≤ 9223372036854775807 := by simpa [Lit.wf, IntKind.min, IntKind.max, IntKind.signed, IntKind.bits] using qw
        obtain ⟨done, left, dead, f, ys, v, D, R, A, hl1, hl2, hd1, hd2⟩ := P
        have hyl := R.len
        have HA := Lib.hid A
        clear A
        have hdm := D.lt
        have hrm := R.blk.lt
        have HX := Lib.hid X
        clear X
        by_cases hk1 : ck = 1
        · subst hk1
          go_wp2_with fail
          have X6 : Ex [] wr (wr.alloc (.cells #[.int .i64 1, .int .i64 cn, .slice ca cl ccp] 37)) := (Ex.refl [] _).alloc _
          have B6 := Blk.new wr #[.int .i64 1, .int .i64 cn, .slice ca cl ccp] 37
          have D6 := D.ex X6 (by simp) (by simp)
          have R6 := R.more X6 [wr.heap.size] (by simp)
          have hs6 := X6.size
          have hc6 := B6.lt
          generalize wr.alloc (.cells #[.int .i64 1, .int .i64 cn, .slice ca cl ccp] 37) = w6 at *
          clear D R r0 r1 r2
          have cc6 := B6.cell
          with_reducible refine (DiskRead_all D6 hn2 HA.out).mono ?_
          rintro e w7 ⟨a7, l7, c7, er, xs, rfl, H7, B7, X7⟩
          have D7 := D6.ex X7 (by simp) (by simp)
          have R7 := R6.ex X7 (by simp)
          have cc7 := (B6.ex X7 (by simp)).cell
          have HB7 := Lib.hid B7
          clear B7 cc6 D6 R6
          go_wp2_with fail
          with_reducible refine (RefRead_all R7 (by omega)).mono ?_
          rintro e w8 ⟨a8, l8, c8, er2, xs2, rfl, H8, B8, X8⟩
          obtain ⟨rfl, rfl⟩ := H7.same H8
          have D9 := D7.ex X8 (by simp) (by simp)
          have R9 := (R7.ex X8 (by simp)).fewer (av' := [b, m]) (by simp)
          have X9 := ((HX.out.trans X6).trans X7).trans X8
          have B7 := HB7.out.ex X8 (by simp)
          clear cc7 D7 R7 HB7
          go_wp2_with (first | (refine G_val rfl (ex_convert rfl rfl (run_bytes_string Try.underlying31 Try.underlying5 Try.underlying9 B7)) ?_) | (refine G_val rfl (ex_convert rfl rfl (run_bytes_string Try.underlying31 Try.underlying5 Try.underlying9 B8)) ?_))
          have cT := R9.blk.cell
          refine wp_region_ord (fun w' => w'.cell? ⟨xb, 0, none⟩ = some v ∧ w'.cell? ⟨xb, 1, none⟩ = some (.int .i64 done) ∧ w'.cell? ⟨xb, 3, none⟩ = some (.bool dead)) [] [(0, true), (2, true), (3, true), (4, true), (5, true), (1, false), (6, true), (7, true), (8, true), (10, true), (11, true), (12, true), (13, true), (9, false), (14, true), (15, true), (16, true), (17, true), (19, true), (20, true), (21, true), (22, true), (23, true), (18, false), (24, true), (25, true)]
            (by kernel_rfl) (by kernel_rfl) (by kernel_rfl) (by kernel_rfl) rfl (by intro c a d v w h; cases d <;> exact h) ⟨cT 0, cT 1, cT 3⟩ ?_
          simp only [mkOrd, List.filterMap_cons, List.filterMap_nil, List.getElem?_toArray, List.getElem?_cons_zero, List.getElem?_cons_succ, Option.map_some]
          have DT := D9.ex ((Ex.refl [] w8).drew) (by simp) (by simp)
          have RT := R9.drew
          have XT := X9.drew
          clear cT D9 R9 X9
          generalize w8.drew = wt at *
          obtain ⟨gv, vc, rfl⟩ := RT.val (by omega)
          have cT := RT.blk.cell
          iterate 5
            refine ord_take (v := ?_) rfl ?_ ?_
            rotate_left
            · intro w' hS
              obtain ⟨s0, s1, s3⟩ := hS
              go_simp
              with_reducible rfl
            go_frame
          refine ord_enter rfl (ex_call (vs := [ptr b]) rfl Try.func13 rfl (by kernel_rfl) rfl) ?_
          with_reducible refine (DiskDead_any DT).mono ?_
          rintro e wt' ⟨rfl, rfl⟩
          refine ⟨_, rfl, fun _ => ⟨cT 0, cT 1, cT 3⟩, ?_⟩
          go_frame
          iterate 7
            refine ord_take (v := ?_) rfl ?_ ?_
            rotate_left
            · intro w' hS
              obtain ⟨s0, s1, s3⟩ := hS
              go_simp
              with_reducible rfl
            go_frame
          refine ord_enter rfl (ex_call (vs := [ptr b]) rfl Try.func14 rfl (by kernel_rfl) rfl) ?_
          with_reducible refine (DiskWrites_any DT).mono ?_
          rintro e wt' ⟨rfl, rfl⟩
          refine ⟨_, rfl, fun _ => ⟨cT 0, cT 1, cT 3⟩, ?_⟩
          go_frame
          iterate 9
            refine ord_take (v := ?_) rfl ?_ ?_
            rotate_left
            · intro w' hS
              obtain ⟨s0, s1, s3⟩ := hS
              go_simp
              with_reducible rfl
            go_frame
          refine ord_enter rfl (ex_call (vs := [ptr b]) rfl Try.func23 rfl (by kernel_rfl) rfl) ?_
          with_reducible refine (DiskSectors_any DT).mono ?_
          rintro e wt' ⟨rfl, rfl⟩
          refine ⟨_, rfl, fun _ => ⟨cT 0, cT 1, cT 3⟩, ?_⟩
          go_frame
          iterate 2
            refine ord_take (v := ?_) rfl ?_ ?_
            rotate_left
            · intro w' hS
              obtain ⟨s0, s1, s3⟩ := hS
              go_simp
              with_reducible rfl
            go_frame
          refine ord_nil ?_
          go_wp2_with fail
          go_roundg (gk - 1)
          case measure => omega
          case rel => exact ⟨i + 1, by go_num, by omega, ⟨done, left, dead, f, ys, _, DT, RT, HA.out, hl1, hl2, hd1, by omega⟩, XT⟩
        by_cases hk3 : ck = 3
        · subst hk3
          clear hk1
          go_wp2_with fail
          have X6 : Ex [] wr (wr.alloc (.cells #[.int .i64 3, .int .i64 cn, .slice ca cl ccp] 37)) := (Ex.refl [] _).alloc _
          have B6 := Blk.new wr #[.int .i64 3, .int .i64 cn, .slice ca cl ccp] 37
          have D6 := D.ex X6 (by simp) (by simp)
          have R6 := R.more X6 [wr.heap.size] (by simp)
          have hs6 := X6.size
          have hc6 := B6.lt
          generalize wr.alloc (.cells #[.int .i64 3, .int .i64 cn, .slice ca cl ccp] 37) = w6 at *
          clear D R r0 r1 r2
          have cc6 := B6.cell
          with_reducible refine (DiskCut_any D6).mono ?_
          rintro e w7 ⟨rfl, D7, X7⟩
          have R7 := R6.ex X7 (by simp)
          have cc7 := (B6.ex X7 (by simp; omega)).cell
          clear cc6 D6 R6
          go_wp2_with fail
          with_reducible refine (RefCut_any R7).mono ?_
          rintro e w8 ⟨rfl, R8, X8⟩
          have D9 := D7.ex X8 (by simp; omega) (by simp; omega)
          have R9 := R8.fewer (av' := [b, m]) (by simp)
          have X9 := ((HX.out.trans X6).own X7 (by simp; omega)).own X8 (by simp; omega)
          clear cc7 D7 R7 R8
          go_wp2_with fail
          have cT := R9.blk.cell
          refine wp_region_ord (fun w' => w'.cell? ⟨xb, 0, none⟩ = some v ∧ w'.cell? ⟨xb, 1, none⟩ = some (.int .i64 done) ∧ w'.cell? ⟨xb, 3, none⟩ = some (.bool dead)) [] [(0, true), (2, true), (3, true), (4, true), (5, true), (1, false), (6, true), (7, true), (8, true), (10, true), (11, true), (12, true), (13, true), (9, false), (14, true), (15, true), (16, true), (17, true), (19, true), (20, true), (21, true), (22, true), (23, true), (18, false), (24, true), (25, true)]
            (by kernel_rfl) (by kernel_rfl) (by kernel_rfl) (by kernel_rfl) rfl (by intro c a d v w h; cases d <;> exact h) ⟨cT 0, cT 1, cT 3⟩ ?_
          simp only [mkOrd, List.filterMap_cons, List.filterMap_nil, List.getElem?_toArray, List.getElem?_cons_zero, List.getElem?_cons_succ, Option.map_some]
          have DT := D9.ex ((Ex.refl [] w8).drew) (by simp) (by simp)
          have RT := R9.drew
          have XT := X9.drew
          clear cT D9 R9 X9
          generalize w8.drew = wt at *
          obtain ⟨gv, vc, rfl⟩ := RT.val (by omega)
          have cT := RT.blk.cell
          iterate 5
            refine ord_take (v := ?_) rfl ?_ ?_
            rotate_left
            · intro w' hS
              obtain ⟨s0, s1, s3⟩ := hS
              go_simp
              with_reducible rfl
            go_frame
          refine ord_enter rfl (ex_call (vs := [ptr b]) rfl Try.func13 rfl (by kernel_rfl) rfl) ?_
          with_reducible refine (DiskDead_any DT).mono ?_
          rintro e wt' ⟨rfl, rfl⟩
          refine ⟨_, rfl, fun _ => ⟨cT 0, cT 1, cT 3⟩, ?_⟩
          go_frame
          iterate 7
            refine ord_take (v := ?_) rfl ?_ ?_
            rotate_left
            · intro w' hS
              obtain ⟨s0, s1, s3⟩ := hS
              go_simp
              with_reducible rfl
            go_frame
          refine ord_enter rfl (ex_call (vs := [ptr b]) rfl Try.func14 rfl (by kernel_rfl) rfl) ?_
          with_reducible refine (DiskWrites_any DT).mono ?_
          rintro e wt' ⟨rfl, rfl⟩
          refine ⟨_, rfl, fun _ => ⟨cT 0, cT 1, cT 3⟩, ?_⟩
          go_frame
          iterate 9
            refine ord_take (v := ?_) rfl ?_ ?_
            rotate_left
            · intro w' hS
              obtain ⟨s0, s1, s3⟩ := hS
              go_simp
              with_reducible rfl
            go_frame
          refine ord_enter rfl (ex_call (vs := [ptr b]) rfl Try.func23 rfl (by kernel_rfl) rfl) ?_
          with_reducible refine (DiskSectors_any DT).mono ?_
          rintro e wt' ⟨rfl, rfl⟩
          refine ⟨_, rfl, fun _ => ⟨cT 0, cT 1, cT 3⟩, ?_⟩
          go_frame
          iterate 2
            refine ord_take (v := ?_) rfl ?_ ?_
            rotate_left
            · intro w' hS
              obtain ⟨s0, s1, s3⟩ := hS
              go_simp
              with_reducible rfl
            go_frame
          refine ord_nil ?_
          go_wp2_with fail
          go_roundg (gk - 1)
          case measure => omega
          case rel => exact ⟨i + 1, by go_num, by omega, ⟨done, (max cn (-1)), dead, f, ys, _, DT, RT, HA.out, (by omega), (by omega), hd1, by omega⟩, XT⟩
        by_cases hk4 : ck = 4
        · subst hk4
          clear hk1 hk3
          go_wp2_with fail
          have X6 : Ex [] wr (wr.alloc (.cells #[.int .i64 4, .int .i64 cn, .slice ca cl ccp] 37)) := (Ex.refl [] _).alloc _
          have B6 := Blk.new wr #[.int .i64 4, .int .i64 cn, .slice ca cl ccp] 37
          have D6 := D.ex X6 (by simp) (by simp)
          have R6 := R.more X6 [wr.heap.size] (by simp)
          have hs6 := X6.size
          have hc6 := B6.lt
          generalize wr.alloc (.cells #[.int .i64 4, .int .i64 cn, .slice ca cl ccp] 37) = w6 at *
          clear D R r0 r1 r2
          have cc6 := B6.cell
          with_reducible refine (DiskStart_any D6).mono ?_
          rintro e w7 ⟨rfl, D7, X7⟩
          have R7 := R6.ex X7 (by simp)
          clear cc6 D6 R6
          go_wp2_with fail
          with_reducible refine (RefStart_any R7).mono ?_
          rintro e w8 ⟨rfl, R8, X8⟩
          have D9 := D7.ex X8 (by simp; omega) (by simp; omega)
          have R9 := R8.fewer (av' := [b, m]) (by simp)
          have X9 := ((HX.out.trans X6).own X7 (by simp; omega)).own X8 (by simp; omega)
          clear D7 R7 R8
          go_wp2_with fail
          have cT := R9.blk.cell
          refine wp_region_ord (fun w' => w'.cell? ⟨xb, 0, none⟩ = some v ∧ w'.cell? ⟨xb, 1, none⟩ = some (.int .i64 done) ∧ w'.cell? ⟨xb, 3, none⟩ = some (.bool false)) [] [(0, true), (2, true), (3, true), (4, true), (5, true), (1, false), (6, true), (7, true), (8, true), (10, true), (11, true), (12, true), (13, true), (9, false), (14, true), (15, true), (16, true), (17, true), (19, true), (20, true), (21, true), (22, true), (23, true), (18, false), (24, true), (25, true)]
            (by kernel_rfl) (by kernel_rfl) (by kernel_rfl) (by kernel_rfl) rfl (by intro c a d v w h; cases d <;> exact h) ⟨cT 0, cT 1, cT 3⟩ ?_
          simp only [mkOrd, List.filterMap_cons, List.filterMap_nil, List.getElem?_toArray, List.getElem?_cons_zero, List.getElem?_cons_succ, Option.map_some]
          have DT := D9.ex ((Ex.refl [] w8).drew) (by simp) (by simp)
          have RT := R9.drew
          have XT := X9.drew
          clear cT D9 R9 X9
          generalize w8.drew = wt at *
          obtain ⟨gv, vc, rfl⟩ := RT.val (by omega)
          have cT := RT.blk.cell
          iterate 5
            refine ord_take (v := ?_) rfl ?_ ?_
            rotate_left
            · intro w' hS
              obtain ⟨s0, s1, s3⟩ := hS
              go_simp
              with_reducible rfl
            go_frame
          refine ord_enter rfl (ex_call (vs := [ptr b]) rfl Try.func13 rfl (by kernel_rfl) rfl) ?_
          with_reducible refine (DiskDead_any DT).mono ?_
          rintro e wt' ⟨rfl, rfl⟩
          refine ⟨_, rfl, fun _ => ⟨cT 0, cT 1, cT 3⟩, ?_⟩
          go_frame
          iterate 7
            refine ord_take (v := ?_) rfl ?_ ?_
            rotate_left
            · intro w' hS
              obtain ⟨s0, s1, s3⟩ := hS
              go_simp
              with_reducible rfl
            go_frame
          refine ord_enter rfl (ex_call (vs := [ptr b]) rfl Try.func14 rfl (by kernel_rfl) rfl) ?_
          with_reducible refine (DiskWrites_any DT).mono ?_
          rintro e wt' ⟨rfl, rfl⟩
          refine ⟨_, rfl, fun _ => ⟨cT 0, cT 1, cT 3⟩, ?_⟩
          go_frame
          iterate 9
            refine ord_take (v := ?_) rfl ?_ ?_
            rotate_left
            · intro w' hS
              obtain ⟨s0, s1, s3⟩ := hS
              go_simp
              with_reducible rfl
            go_frame
          refine ord_enter rfl (ex_call (vs := [ptr b]) rfl Try.func23 rfl (by kernel_rfl) rfl) ?_
          with_reducible refine (DiskSectors_any DT).mono ?_
          rintro e wt' ⟨rfl, rfl⟩
          refine ⟨_, rfl, fun _ => ⟨cT 0, cT 1, cT 3⟩, ?_⟩
          go_frame
          iterate 2
            refine ord_take (v := ?_) rfl ?_ ?_
            rotate_left
            · intro w' hS
              obtain ⟨s0, s1, s3⟩ := hS
              go_simp
              with_reducible rfl
            go_frame
          refine ord_nil ?_
          go_wp2_with fail
          go_roundg (gk - 1)
          case measure => omega
          case rel => exact ⟨i + 1, by go_num, by omega, ⟨done, (-1), false, f, ys, _, DT, RT, HA.out, (by omega), (by omega), hd1, by omega⟩, XT⟩
        by_cases hk2 : ck = 2
        · subst hk2
          clear hk1 hk3 hk4
          go_wp2_with fail
          have X6 : Ex [] wr (wr.alloc (.cells #[.int .i64 2, .int .i64 cn, .slice ca cl ccp] 37)) := (Ex.refl [] _).alloc _
          have B6 := Blk.new wr #[.int .i64 2, .int .i64 cn, .slice ca cl ccp] 37
          have D6 := D.ex X6 (by simp) (by simp)
          have R6 := R.more X6 [wr.heap.size] (by simp)
          have hs6 := X6.size
          have hc6 := B6.lt
          generalize wr.alloc (.cells #[.int .i64 2, .int .i64 cn, .slice ca cl ccp] 37) = w6 at *
          clear D R r0 r1 r2
          have cc6 := B6.cell
          have BB6 := qB.ex (HX.out.trans X6) (by simp)
          with_reducible refine (sector_any ca cl ccp cxs _ BB6 (by unfold maxLen at qm; exact qm)).mono ?_
          rintro e w7 ⟨a7, l7, c7, y7, rfl, B7, hl7, H7, H7', X7⟩
          have D7 := D6.ex X7 (by simp) (by simp)
          have R7 := R6.ex X7 (by simp)
          have C7 := B6.ex X7 (by simp)
          have hs7 := X7.size
          have hl7' : l7 ≤ 140737488351232 := by rcases H7 with ⟨_, h, _⟩ | ⟨_, h, _⟩ <;> omega
          have hc7 : a7 = none → c7 = 0 := by
            rcases H7 with ⟨h, _, h2⟩ | ⟨h, _⟩
            · rw [h, h2]; exact qn
            · rw [h]; simp
          have hA7 : ∀ c o, 0 < l7 → a7 = some ⟨c, o, none⟩ → c ∉ [b, m] ∧ c ≠ xb := by
            intro c o hpos hc
            rcases H7 with ⟨h, hl7, _⟩ | ⟨h, _⟩
            · rw [hc] at h
              obtain ⟨hq1, hq⟩ := qB
              rcases hq with rfl | ⟨_, _, hq, hq2, _⟩
              · simp at hq1; omega
              · rw [hq] at h; cases h; simp; omega
            · rw [hc] at h; cases h; simp; omega
          have X07 := (HX.out.trans X6).trans X7
          clear D6 R6 cc6 H7 H7' X7 BB6
          have CC7 := C7.cell
          have HB7 := Lib.hid B7
          have HM := Lib.hid B7.1
          clear B7
          go_wp2_with (refine G_append_bytes rfl rfl Try.underlying31 infoU8 rfl rfl (base := w7.heap.size) (n := 0) (ys := []) (xs := y7) ?own ?bytes hc7 (by omega) ?base ?next)
          case own => exact World.ownsRow_lit w7 #[] 0 (Nat.le_refl _) (by simp [maxLen]) rfl
          case bytes => exact HB7.out.ex ((Ex.refl [] _).alloc _) (by simp)
          case base => simp
          case next =>
          intro v8 w8 O8 G8 L8
          try simp only [Nat.zero_add, List.nil_append] at O8
          have X8 : Ex [] w7 w8 := ((Ex.refl [] _).alloc _).own (Ex.of_own (l := [w7.heap.size]) G8 (by simp [Value.ownBlock])) (by simp)
          have R8 := R7.more X8 v8.ownBlock.toList (fun k hk => (O8.lt k (by simpa using hk)).1)
          have D8 := D7.ex X8 (by simp) (by simp)
          have C8 := C7.ex X8 (by simp)
          have B8 := HB7.out.ex X8 (by simp)
          have hv8 : ∀ k ∈ v8.ownBlock.toList, w7.heap.size ≤ k := fun k hk => (O8.lt k (by simpa using hk)).1
          obtain ⟨ma, mc, rfl, M8, hm8, hm8', hm8''⟩ := own_bytes0 O8
          have HO8 := Lib.hid O8
          have HM8 := Lib.hid M8
          have HB8 := Lib.hid B8
          have X08 := X07.trans X8
          have hs8 := X8.size
          clear G8 L8 CC7 D7 R7 C7 HB7 O8 M8 B8 X07 X8 X6
          have CC8 := C8.cell
          generalize hMB : (Value.slice ma l7 mc).ownBlock.toList = mb at *
          go_wp2_with fail
          refine wp_region_ord (fun w' => w'.cell? ⟨wr.heap.size, 1, none⟩ = some (.int .i64 cn)) [] [(0, true), (1, true), (2, true), (3, true), (5, true), (6, true), (7, true), (8, true), (4, false), (9, false), (10, true)]
            (by kernel_rfl) (by kernel_rfl) (by kernel_rfl) (by kernel_rfl) rfl (by intro c a d v w h; cases d <;> exact h) (CC8 1) ?_
          simp only [mkOrd, List.filterMap_cons, List.filterMap_nil, List.getElem?_toArray, List.getElem?_cons_zero, List.getElem?_cons_succ, Option.map_some]
          have XD : Ex [] w8 w8.drew := (Ex.refl [] w8).drew
          replace D8 := D8.ex XD (by simp) (by simp)
          replace R8 := R8.drew
          replace C8 := C8.drew
          replace X08 := X08.drew
          have HO9 := Lib.hid (HO8.out.drew)
          have M9 := HM8.out.ex XD (by simp)
          have B9 := HB8.out.ex XD (by simp)
          have hsd : w8.drew.heap.size = w8.heap.size := rfl
          clear HO8 HM8 HB8 CC8 XD
          generalize w8.drew = w9 at *
          iterate 8
            refine ord_take (v := ?_) rfl ?_ ?_
            rotate_left
            · intro w' hS
              go_simp
              with_reducible rfl
            go_frame
          refine ord_enter rfl (ex_call (vs := [ptr b, .int .i64 cn, .slice ma l7 mc]) rfl Try.func12 rfl (by kernel_rfl) rfl) ?_
          with_reducible refine (DiskWrite_all (q := cn) ma l7 mc y7 D8 M9 (fun c o _ e => by have := hm8 c o e; omega) hn2 hl1 hl2 hd1 (by omega)).mono ?_
          rintro e w10 ⟨er, d10, l10, dd10, wr10, rfl, H10, D10, X10⟩
          have R10 := R8.ex X10 (by simp)
          have C10 := C8.ex X10 (by simp; omega)
          have B10 := bytesAt_ex' B9 X10 (fun c o h e => (hA7 c o h e).1)
          have HO10 := Lib.hid (ownsRow_ex HO9.out X10 (fun k hk => by have := hv8 k (by rw [← hMB]; simpa using hk); simp; omega))
          have XX10 := X08.own X10 (by simp; omega)
          have hs10 := X10.size
          refine ⟨_, rfl, fun _ => C10.cell 1, ?_⟩
          go_frame
          refine ord_enter rfl (ex_call (vs := [ptr xb, .int .i64 cn, .slice a7 l7 c7]) rfl Try.func20 rfl (by kernel_rfl) rfl) ?_
          with_reducible refine (RefWrite_all (q := cn) a7 l7 c7 y7 R10 (by omega) B10 hc7 (fun c o h e => (hA7 c o h e).2) ?hav hl1 hl2 hd1 (by omega)).mono ?_
          case hav =>
            intro k hk
            simp only [List.mem_append, List.mem_cons, List.not_mem_nil, or_false] at hk
            rcases hk with hk | hk | hk | hk
            · have := (HO9.out.lt k (by rw [← hMB] at hk; simpa using hk)).2; omega
            all_goals omega
          rintro e w11 ⟨er2, d11, l11, dd11, wr11, rfl, H11, R11, lx, X11, hlx⟩
          obtain ⟨rfl, rfl, rfl, rfl, rfl⟩ := H10.same H11
          have hlm : ∀ k ∈ mb ++ ([wr.heap.size] ++ [b, m]), k ∉ lx := fun k hk hm => (hlx k hm).2 hk
          have C11 := C10.ex X11 (hlm _ (by simp))
          refine ⟨_, rfl, fun _ => C11.cell 1, ?_⟩
          go_frame
          iterate 1
            refine ord_take (v := ?_) rfl ?_ ?_
            rotate_left
            · intro w' hS
              go_simp
              with_reducible rfl
            go_frame
          refine ord_nil ?_
          have D11 := D10.ex X11 (hlm _ (by simp)) (hlm _ (by simp))
          have HO11 := Lib.hid (ownsRow_ex HO10.out X11 (fun k hk => hlm k (by simp [← hMB, hk])))
          have XX11 := XX10.own X11 (fun k hk => .inr (hlx k hk).1)
          have hs11 := X11.size
          clear C8 C10 C11 HO9 HO10 X10 X11 XX10 X08 D8 D10 R8 R10 M9 B9 B10
          obtain ⟨gk0, hgk0⟩ : ∃ x, x = gk := ⟨_, rfl⟩
          go_wp2_with fail
          go_loopg [17] l7 (fun k vi wr => MineI w11 w7.heap.size (.slice ma l7 mc) l7 k vi wr)
          case atStart => exact ⟨0, y7, rfl, by omega, HO11.out, Ex.refl _ _⟩
          case round =>
            obtain ⟨j, zs, rfl, hjk, OZ, XZ⟩ := hrel
            by_cases hjl : (j : Int) < l7
            · obtain ⟨g, rfl⟩ := hm8'' (by omega)
              have hzl : zs.length = l7 := by have := OZ.1; simpa using this
              obtain ⟨z, hz⟩ : ∃ z, zs[j]? = some z := ⟨zs[j], by simp⟩
              have cz : wr.cell? ⟨g, j, none⟩ = some (.int .u8 (z.toNat : Int)) := by rw [OZ.cellAt j (by omega)]; simp [hz]
              have fz := OZ.frozenAt j
              go_wp2
              go_roundg (gk - 1)
              case measure => omega
              case rel =>
                refine ⟨j + 1, zs.set j 238, by go_num, by omega, ?_, XZ.setCell (.inl (by simp [Value.ownBlock])) _⟩
                rw [List.map_set]
                exact (OZ.stored j _).1
            · obtain ⟨G1, G2, G3, G4⟩ := H10.ok hl1 hl2 hd1
              have GA := Lib.hid (H10.agree HA.out hyl HM.out)
              have hmb : (Value.slice ma l7 mc).ownBlock.toList = mb := hMB
              rw [hmb] at XZ
              have D9 := D11.ex XZ (fun h => by have := hv8 _ h; omega) (fun h => by have := hv8 _ h; omega)
              have R9 := (R11.ex XZ (fun k hk => by simp [hk])).fewer (av' := [b, m]) (by simp)
              have X9 := XX11.own XZ (fun k hk => .inr (by have := hv8 _ hk; omega))
              clear D11 R11 XX11 XZ OZ HO11 H10 H11
              generalize (if wr11 = true then upd f (Value.int IntKind.i64 cn) (Value.agg (List.map bv y7).toArray) else f) = f12 at *
              generalize (if wr11 = true then ys.set cn.toNat y7 else ys) = y12 at *
              go_wp2_with fail
              have cT := R9.blk.cell
              refine wp_region_ord (fun w' => w'.cell? ⟨xb, 0, none⟩ = some v ∧ w'.cell? ⟨xb, 1, none⟩ = some (.int .i64 d11) ∧ w'.cell? ⟨xb, 3, none⟩ = some (.bool dd11)) [] [(0, true), (2, true), (3, true), (4, true), (5, true), (1, false), (6, true), (7, true), (8, true), (10, true), (11, true), (12, true), (13, true), (9, false), (14, true), (15, true), (16, true), (17, true), (19, true), (20, true), (21, true), (22, true), (23, true), (18, false), (24, true), (25, true)]
                (by kernel_rfl) (by kernel_rfl) (by kernel_rfl) (by kernel_rfl) rfl (by intro c a d v w h; cases d <;> exact h) ⟨cT 0, cT 1, cT 3⟩ ?_
              simp only [mkOrd, List.filterMap_cons, List.filterMap_nil, List.getElem?_toArray, List.getElem?_cons_zero, List.getElem?_cons_succ, Option.map_some]
              have DT := D9.ex ((Ex.refl [] wr).drew) (by simp) (by simp)
              have RT := R9.drew
              have XT := X9.drew
              clear cT D9 R9 X9
              generalize wr.drew = wt at *
              obtain ⟨gv, vc, rfl⟩ := RT.val (by omega)
              have cT := RT.blk.cell
              iterate 5
                refine ord_take (v := ?_) rfl ?_ ?_
                rotate_left
                · intro w' hS
                  obtain ⟨s0, s1, s3⟩ := hS
                  go_simp
                  with_reducible rfl
                go_frame
              refine ord_enter rfl (ex_call (vs := [ptr b]) rfl Try.func13 rfl (by kernel_rfl) rfl) ?_
              with_reducible refine (DiskDead_any DT).mono ?_
              rintro e wt' ⟨rfl, rfl⟩
              refine ⟨_, rfl, fun _ => ⟨cT 0, cT 1, cT 3⟩, ?_⟩
              go_frame
              iterate 7
                refine ord_take (v := ?_) rfl ?_ ?_
                rotate_left
                · intro w' hS
                  obtain ⟨s0, s1, s3⟩ := hS
                  go_simp
                  with_reducible rfl
                go_frame
              refine ord_enter rfl (ex_call (vs := [ptr b]) rfl Try.func14 rfl (by kernel_rfl) rfl) ?_
              with_reducible refine (DiskWrites_any DT).mono ?_
              rintro e wt' ⟨rfl, rfl⟩
              refine ⟨_, rfl, fun _ => ⟨cT 0, cT 1, cT 3⟩, ?_⟩
              go_frame
              iterate 9
                refine ord_take (v := ?_) rfl ?_ ?_
                rotate_left
                · intro w' hS
                  obtain ⟨s0, s1, s3⟩ := hS
                  go_simp
                  with_reducible rfl
                go_frame
              refine ord_enter rfl (ex_call (vs := [ptr b]) rfl Try.func23 rfl (by kernel_rfl) rfl) ?_
              with_reducible refine (DiskSectors_any DT).mono ?_
              rintro e wt' ⟨rfl, rfl⟩
              refine ⟨_, rfl, fun _ => ⟨cT 0, cT 1, cT 3⟩, ?_⟩
              go_frame
              iterate 2
                refine ord_take (v := ?_) rfl ?_ ?_
                rotate_left
                · intro w' hS
                  obtain ⟨s0, s1, s3⟩ := hS
                  go_simp
                  with_reducible rfl
                go_frame
              refine ord_nil ?_
              go_wp2_with fail
              go_roundg (gk0 - 1)
              case measure => omega
              case rel => exact ⟨i + 1, by go_num, by omega, ⟨d11, l11, dd11, f12, y12, _, DT, RT, GA.out, G1, G2, G3, by omega⟩, XT⟩
        · have e1 : (ck == 1) = false := by simpa using hk1
          have e2 : (ck == 2) = false := by simpa using hk2
          have e3 : (ck == 3) = false := by simpa using hk3
          have e4 : (ck == 4) = false := by simpa using hk4
          clear hk1 hk2 hk3 hk4
          go_wp2_with fail
          have X6 : Ex [] wr (wr.alloc (.cells #[.int .i64 ck, .int .i64 cn, .slice ca cl ccp] 37)) := (Ex.refl [] _).alloc _
          have B6 := Blk.new wr #[.int .i64 ck, .int .i64 cn, .slice ca cl ccp] 37
          have D6 := D.ex X6 (by simp) (by simp)
          have R6 := R.more X6 [wr.heap.size] (by simp)
          have hs6 := X6.size
          have hc6 := B6.lt
          generalize wr.alloc (.cells #[.int .i64 ck, .int .i64 cn, .slice ca cl ccp] 37) = w6 at *
          clear D R r0 r1 r2
          have cc6 := B6.cell
          have D9 := D6
          have R9 := R6.fewer (av' := [b, m]) (by simp)
          have X9 := HX.out.trans X6
          clear cc6 D6 R6
          have cT := R9.blk.cell
          refine wp_region_ord (fun w' => w'.cell? ⟨xb, 0, none⟩ = some v ∧ w'.cell? ⟨xb, 1, none⟩ = some (.int .i64 done) ∧ w'.cell? ⟨xb, 3, none⟩ = some (.bool dead)) [] [(0, true), (2, true), (3, true), (4, true), (5, true), (1, false), (6, true), (7, true), (8, true), (10, true), (11, true), (12, true), (13, true), (9, false), (14, true), (15, true), (16, true), (17, true), (19, true), (20, true), (21, true), (22, true), (23, true), (18, false), (24, true), (25, true)]
            (by kernel_rfl) (by kernel_rfl) (by kernel_rfl) (by kernel_rfl) rfl (by intro c a d v w h; cases d <;> exact h) ⟨cT 0, cT 1, cT 3⟩ ?_
          simp only [mkOrd, List.filterMap_cons, List.filterMap_nil, List.getElem?_toArray, List.getElem?_cons_zero, List.getElem?_cons_succ, Option.map_some]
          have DT := D9.ex ((Ex.refl [] w6).drew) (by simp) (by simp)
          have RT := R9.drew
          have XT := X9.drew
          clear cT D9 R9 X9
          generalize w6.drew = wt at *
          obtain ⟨gv, vc, rfl⟩ := RT.val (by omega)
          have cT := RT.blk.cell
          iterate 5
            refine ord_take (v := ?_) rfl ?_ ?_
            rotate_left
            · intro w' hS
              obtain ⟨s0, s1, s3⟩ := hS
              go_simp
              with_reducible rfl
            go_frame
          refine ord_enter rfl (ex_call (vs := [ptr b]) rfl Try.func13 rfl (by kernel_rfl) rfl) ?_
          with_reducible refine (DiskDead_any DT).mono ?_
          rintro e wt' ⟨rfl, rfl⟩
          refine ⟨_, rfl, fun _ => ⟨cT 0, cT 1, cT 3⟩, ?_⟩
          go_frame
          iterate 7
            refine ord_take (v := ?_) rfl ?_ ?_
            rotate_left
            · intro w' hS
              obtain ⟨s0, s1, s3⟩ := hS
              go_simp
              with_reducible rfl
            go_frame
          refine ord_enter rfl (ex_call (vs := [ptr b]) rfl Try.func14 rfl (by kernel_rfl) rfl) ?_
          with_reducible refine (DiskWrites_any DT).mono ?_
          rintro e wt' ⟨rfl, rfl⟩
          refine ⟨_, rfl, fun _ => ⟨cT 0, cT 1, cT 3⟩, ?_⟩
          go_frame
          iterate 9
            refine ord_take (v := ?_) rfl ?_ ?_
            rotate_left
            · intro w' hS
              obtain ⟨s0, s1, s3⟩ := hS
              go_simp
              with_reducible rfl
            go_frame
          refine ord_enter rfl (ex_call (vs := [ptr b]) rfl Try.func23 rfl (by kernel_rfl) rfl) ?_
          with_reducible refine (DiskSectors_any DT).mono ?_
          rintro e wt' ⟨rfl, rfl⟩
          refine ⟨_, rfl, fun _ => ⟨cT 0, cT 1, cT 3⟩, ?_⟩
          go_frame
          iterate 2
            refine ord_take (v := ?_) rfl ?_ ?_
            rotate_left
            · intro w' hS
              obtain ⟨s0, s1, s3⟩ := hS
              go_simp
              with_reducible rfl
            go_frame
          refine ord_nil ?_
          go_wp2_with fail
          go_roundg (gk - 1)
          case measure => omega
          case rel => exact ⟨i + 1, by go_num, by omega, ⟨done, left, dead, f, ys, _, DT, RT, HA.out, hl1, hl2, hd1, by omega⟩, XT⟩
      · have hnot : ¬ (i : Int) < cs.length ∨ (i : Int) < cs.length ∧ ¬ (i : Int) < 100 := by omega
        clear hin
        rcases hnot with hnot | ⟨hnot, hnot2⟩
        all_goals
          go_wp2
          go_ret
          exact ⟨rfl, X⟩
end Go.Proofs.Ytjgkanmhmkmdeaa
