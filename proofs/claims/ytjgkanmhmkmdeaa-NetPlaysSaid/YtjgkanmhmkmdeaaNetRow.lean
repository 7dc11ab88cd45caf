/- The law's own row of datagrams: what 'append(append([]T{}, l[:k]...), l[k+1:]...)' leaves. -/
import Derived.Test.YtjgkanmhmkmdeaaNetPlays
namespace Go.Proofs.Ytjgkanmhmkmdeaa
open Go.RowKit Go.Ad Go.Maps
theorem dcells_take (ls : List Dv) : ∀ k, dcellsOf (ls.take k) = (dcellsOf ls).take (k * 3) := by
  induction ls with
  | nil => intro k; simp [dcellsOf]
  | cons d r ih =>
    intro k
    cases k with
    | zero => simp [dcellsOf]
    | succ k =>
      have := ih k
      simp only [dcellsOf, List.take_succ_cons, List.flatMap_cons] at *
      rw [this, List.take_append, List.take_of_length_le (l := d.cells) (by simp; omega)]
      congr 2
      simp
      omega
theorem dcells_drop (ls : List Dv) : ∀ k, dcellsOf (ls.drop k) = (dcellsOf ls).drop (k * 3) := by
  induction ls with
  | nil => intro k; simp [dcellsOf]
  | cons d r ih =>
    intro k
    cases k with
    | zero => simp [dcellsOf]
    | succ k =>
      have := ih k
      simp only [dcellsOf, List.drop_succ_cons, List.flatMap_cons] at *
      rw [this, List.drop_append, @List.drop_eq_nil_of_le _ d.cells _ (by simp; omega), List.nil_append]
      congr 1
      simp
      omega
/-- The cells of an own row, read. -/
theorem own_read {w : World} {B g n cap : Nat} {ls : List Dv} (O : w.ownsRow B 58 3 (.slice (some ⟨g, 0, none⟩) n cap) n (dcellsOf ls)) (hn : ls.length = n) (k : Nat) (j : Nat) (u : Value) (hu : (dcellsOf (ls.drop k))[j]? = some u) : w.cell? ⟨g, k * 3 + j, none⟩ = some u := by
  rw [dcells_drop, List.getElem?_drop] at hu
  have hl := (List.getElem?_eq_some_iff.1 hu).1
  rw [dcells_length] at hl
  rw [O.cellAt _ (by omega), hu]
theorem own_read0 {w : World} {B g n cap : Nat} {ls : List Dv} (O : w.ownsRow B 58 3 (.slice (some ⟨g, 0, none⟩) n cap) n (dcellsOf ls)) (hn : ls.length = n) (k : Nat) (j : Nat) (u : Value) (hu : (dcellsOf (ls.take k))[j]? = some u) : w.cell? ⟨g, 0 + j, none⟩ = some u := by
  rw [dcells_take, List.getElem?_take] at hu
  split at hu
  · have hl := (List.getElem?_eq_some_iff.1 hu).1
    rw [dcells_length] at hl
    rw [O.cellAt _ (by omega), Nat.zero_add, hu]
  · cases hu
theorem erase_row {w : World} {B g n cap k : Nat} {ls : List Dv} (O : w.ownsRow B 58 3 (.slice (some ⟨g, 0, none⟩) n cap) n (dcellsOf ls)) (hn : ls.length = n) (hk : k < n) (hm : n ≤ 1000000) (hB : B ≤ w.heap.size) :
    ∃ v1 w1 v2 w2 A, (if cap = k + 1 then (some ⟨g, 0, none⟩ : Option Addr) else some ⟨g, (k + 1) * 3, none⟩) = some A ∧
      (Builtin.append_ #[54, 54] 54 #[.slice (some ⟨w.heap.size, 0, none⟩) 0 0, .slice (some ⟨g, 0, none⟩) k cap]).run Try.prog (w.alloc (.cells #[] 58)) = .ok v1 w1 ∧
      (Builtin.append_ #[54, 54] 54 #[v1, .slice (some A) (n - (k + 1)) (cap - (k + 1))]).run Try.prog w1 = .ok v2 w2 ∧
      w2.ownsRow B 58 3 v2 (ls.eraseIdx k).length (dcellsOf (ls.eraseIdx k)) ∧ Ex [] w w2 ∧ ∀ x, v2.ownBlock = some x → w.heap.size ≤ x := by
  have hg := O.lt g rfl
  have X0 : Ex [] w (w.alloc (.cells #[] 58)) := (Ex.refl _ _).alloc _
  have O0 : (w.alloc (.cells #[] 58)).ownsRow w.heap.size 58 3 (.slice (some ⟨w.heap.size, 0, none⟩) 0 0) 0 (dcellsOf []) := World.ownsRow_lit w #[] 0 (Nat.le_refl _) (by simp [maxLen]) rfl
  have OL0 := ownsRow_ex O X0 (by simp)
  obtain ⟨v1, w1, h1, O1, X1, L1⟩ := own_join (c := cap) O0 (by simp) (ad := ⟨g, 0, none⟩) (m := k) (ys := ls.take k) (by simp; omega) (fun j u hu => by rw [Addr.add_mid]; exact own_read0 OL0 hn k j u hu) (by omega)
  have OL1 := ownsRow_ex OL0 X1 (fun x hx => by cases hx; simp [Value.ownBlock]; omega)
  obtain ⟨A, hA, hAr⟩ : ∃ A : Addr, (if cap = k + 1 then (some ⟨g, 0, none⟩ : Option Addr) else some ⟨g, (k + 1) * 3, none⟩) = some A ∧ ∀ j u, (dcellsOf (ls.drop (k + 1)))[j]? = some u → w1.cell? (A.add j) = some u := by
    by_cases h : cap = k + 1
    · refine ⟨⟨g, 0, none⟩, by simp [h], fun j u hu => ?_⟩
      have hcap : n ≤ cap := by
        rcases O.2 with ⟨h0, _⟩ | ⟨g', cap', cur, h0, _, _, h2, _⟩
        · cases h0
        · cases h0; exact h2
      rw [List.drop_eq_nil_of_le (by omega)] at hu
      simp [dcellsOf] at hu
    · exact ⟨⟨g, (k + 1) * 3, none⟩, by simp [h], fun j u hu => by rw [Addr.add_mid]; exact own_read OL1 hn (k + 1) j u hu⟩
  have hs1 := X0.size
  have hs2 := X1.size
  obtain ⟨v2, w2, h2, O2, X2, L2⟩ := own_join (c := cap - (k + 1)) O1 (by omega) (ad := A) (m := n - (k + 1)) (ys := ls.drop (k + 1)) (by simp; omega) hAr (by omega)
  have hl1 := O1.lt
  have hl2 := O2.lt
  refine ⟨v1, w1, v2, w2, A, hA, h1, h2, ?_, (X0.own X1 (by simp [Value.ownBlock])).own X2 (fun x hx => .inr (hl1 x (by simpa using hx)).1), fun x hx => (hl2 x hx).1⟩
  have e1 : ([] : List Dv) ++ ls.take k ++ ls.drop (k + 1) = ls.eraseIdx k := by rw [List.eraseIdx_eq_take_drop_succ]; rfl
  have e2 : 0 + k + (n - (k + 1)) = (ls.eraseIdx k).length := by rw [List.length_eraseIdx_of_lt (by omega)]; omega
  rw [← e2]
  rw [e1] at O2
  exact ⟨O2.1, O2.2.imp id (fun ⟨g', cap', cur, a1, a2, a3⟩ => ⟨g', cap', cur, a1, by omega, a3⟩)⟩

/-- An own row's element, cell by cell. -/
theorem own_elem {w : World} {B g n cap : Nat} {ls : List Dv} (O : w.ownsRow B 58 3 (.slice (some ⟨g, 0, none⟩) n cap) n (dcellsOf ls)) (hn : ls.length = n) {k : Nat} {y : Dv} (hy : ls[k]? = some y) :
    w.cell? ⟨g, k * 3, none⟩ = some (.int .i64 y.frm) ∧ w.cell? ⟨g, k * 3 + 1, none⟩ = some (.int .i64 y.to) ∧ w.cell? ⟨g, k * 3 + 2, none⟩ = some (.slice y.a y.len y.cap) := by
  have hk := (List.getElem?_eq_some_iff.1 hy).1
  refine ⟨?_, ?_, ?_⟩
  · have := dcells_at ls k 0 y hy (by omega)
    rw [Nat.add_zero] at this
    rw [O.cellAt _ (by omega), this]; rfl
  · rw [O.cellAt _ (by omega), dcells_at ls k 1 y hy (by omega)]; rfl
  · rw [O.cellAt _ (by omega), dcells_at ls k 2 y hy (by omega)]; rfl
/-- 'append(append([]T{}, l...), x)': in whichever order its parts are made. -/
def JoinFin (w w' : World) (v : Value) (xs : List Dv) : Prop := w'.ownsRow w.heap.size 58 3 v xs.length (dcellsOf xs) ∧ Ex [] w w' ∧ ∀ x, v.ownBlock = some x → w.heap.size ≤ x
theorem join_one {w w0 w1 w2 : World} {e0 g n cap b1 : Nat} {v1 : Value} {ls : List Dv} {y : Dv} (X0 : Ex [] w w0) (O1 : w1.ownsRow w.heap.size 58 3 v1 n (dcellsOf ls)) (X1 : Ex [] w w1) (hn : ls.length = n)
    (X2 : Ex [] w1 w2) (hb : Blk w2 b1 y.cells.toArray 58) (hm : n + 1 ≤ 1000000) :
    ∃ v2 w3, (Builtin.append_ #[54, 54] 54 #[v1, .slice (some ⟨b1, 0, none⟩) 1 1]).run Try.prog w2 = .ok v2 w3 ∧ JoinFin w w3 v2 (ls ++ [y]) := by
  have O2 := ownsRow_ex O1 X2 (by simp)
  have hs1 := X1.size
  have hs2 := X2.size
  obtain ⟨v2, w3, h2, O3, X3, L3⟩ := own_join (c := 1) O2 (by omega) (ad := ⟨b1, 0, none⟩) (m := 1) (ys := [y]) rfl (fun j u hu => by
    rw [Addr.add_mid, Nat.zero_add, hb.cell]; simpa [dcellsOf] using hu) hm
  have hl := O1.lt
  have hl3 := O3.lt
  refine ⟨v2, w3, h2, ?_, (X1.trans X2).own X3 (fun x hx => .inr (hl x (by simpa using hx)).1), fun x hx => (hl3 x hx).1⟩
  rw [List.length_append, hn]
  exact O3
/-- .. the first append. -/
theorem join_first {w w0 : World} {e0 g n cap : Nat} {ls : List Dv} (X0 : Ex [] w w0) (he : w.heap.size ≤ e0) (h0 : w0.ownsRow w.heap.size 58 3 (.slice (some ⟨e0, 0, none⟩) 0 0) 0 (dcellsOf [])) {B : Nat}
    (O : w.ownsRow B 58 3 (.slice (some ⟨g, 0, none⟩) n cap) n (dcellsOf ls)) (hn : ls.length = n) (hm : n ≤ 1000000) :
    ∃ v1 w1, (Builtin.append_ #[54, 54] 54 #[.slice (some ⟨e0, 0, none⟩) 0 0, .slice (some ⟨g, 0, none⟩) n cap]).run Try.prog w0 = .ok v1 w1 ∧
      w1.ownsRow w.heap.size 58 3 v1 n (dcellsOf ls) ∧ Ex [] w w1 ∧ Ex [e0] w0 w1 := by
  have hs := X0.size
  have OL := ownsRow_ex O X0 (by simp)
  obtain ⟨v1, w1, h1, O1, X1, L1⟩ := own_join (c := cap) h0 hs (ad := ⟨g, 0, none⟩) (m := n) (ys := ls) hn (fun j u hu => by
    rw [Addr.add_mid]; have := own_read OL hn 0 j u (by simpa using hu); simpa using this) (by omega)
  refine ⟨v1, w1, h1, ?_, X0.own X1 (fun x hx => ?_), X1⟩
  · have e : 0 + n = n := Nat.zero_add n
    rw [e] at O1; exact O1
  · simp [Value.ownBlock] at hx; exact .inr (by omega)

/-- 'mine': a datagram of the law's own, with bytes of its own. -/
structure Mine (w w' : World) (bm : Nat) (dv : Value) (frm to : Int) (data : List UInt8) : Prop where
  hbm : w.heap.size ≤ bm
  blk : Blk w' bm #[.int .i64 frm, .int .i64 to, dv] 58
  own : w'.ownsRow w.heap.size 5 1 dv data.length (data.map bv)
  ne : dv.ownBlock ≠ some bm
  ex : Ex [] w w'
theorem mine_append {w w1 : World} {g : Nat} (X : Ex [] w w1) (hg : w.heap.size ≤ g) (O : w1.ownsRow w.heap.size 5 1 (.slice (some ⟨g, 0, none⟩) 0 0) 0 (([] : List UInt8).map bv)) {a : Option Addr} {len cap : Nat} {xs : List UInt8} (hx : BytesAt w a len xs) (hcap : a = none → cap = 0) (hl : len ≤ 1000000) :
    ∃ dv w2, (Builtin.append_ #[31, 31] 31 #[.slice (some ⟨g, 0, none⟩) 0 0, .slice a len cap]).run Try.prog w1 = .ok dv w2 ∧ w2.ownsRow w.heap.size 5 1 dv xs.length (xs.map bv) ∧ Ex [] w w2 ∧ Ex [g] w1 w2 ∧
      (dv.ownBlock = some g ∨ dv.ownBlock = some w1.heap.size) := by
  obtain ⟨dv, w2, h1, h2, h3, h4⟩ := append_bytes (P := Try.prog) (ty := 31) Try.underlying31 infoU8 O (hx.ex X (by simp)) hcap (by omega) X.size
  have X1 : Ex [g] w1 w2 := Ex.of_own h3 (fun k hk => by simp [Value.ownBlock] at hk; simp [hk])
  refine ⟨dv, w2, h1, ?_, X.own X1 (fun x hx => by simp at hx; exact .inr (by omega)), X1, h4⟩
  rw [Nat.zero_add] at h2
  rw [hx.1]; simpa using h2
theorem mine_store {w w1 : World} {bm : Nat} {dv p q r : Value} {frm to : Int} {data : List UInt8} (hb : w.heap.size ≤ bm) (B : Blk w1 bm #[p, q, r] 58) (O : w1.ownsRow w.heap.size 5 1 dv data.length (data.map bv)) (hne : dv.ownBlock ≠ some bm) (X : Ex [] w w1) :
    Mine w (((w1.setCell ⟨bm, 0, none⟩ (.int .i64 frm)).setCell ⟨bm, 1, none⟩ (.int .i64 to)).setCell ⟨bm, 2, none⟩ dv) bm dv frm to data := by
  obtain ⟨h1, h2⟩ := store3 B (.int .i64 frm) (.int .i64 to) dv
  exact ⟨hb, h1, ownsRow_ex O h2 (fun k hk => by simp; rintro rfl; exact hne hk), hne, X.own h2 (fun x hx => by simp at hx; exact .inr (by omega))⟩

theorem own_dv {w : World} {B n xc : Nat} {xa : Option Addr} {ys : List UInt8} (O : w.ownsRow B 5 1 (.slice xa n xc) n (ys.map bv)) (hn : ys.length = n) (hs : n ≤ 140737488351232) {bad : Nat → Prop} (hb : ∀ c, (Value.slice xa n xc).ownBlock = some c → ¬ bad c) (frm to : Int) : DvOk w bad ⟨frm, to, xa, n, xc, ys⟩ := by
  refine ⟨?_, ?_, hs, ?_⟩
  · by_cases h0 : 0 < n
    · obtain ⟨g, cap, h1, _, _, h2⟩ := own_bytes O h0
      cases h1
      exact h2
    · exact ⟨hn, .inl (List.eq_nil_of_length_eq_zero (show ys.length = 0 by omega))⟩
  · intro h
    rcases O.2 with ⟨h1, _⟩ | ⟨g, cap, cur, h1, _⟩
    · cases h1; rfl
    · cases h1; cases h
  · intro c o _ h
    simp only at h
    subst h
    rcases O.2 with ⟨h1, _⟩ | ⟨g, cap, cur, h1, _⟩
    · cases h1
    · cases h1
      exact hb _ rfl
theorem keys1 {es : List Dv} {a : Int × Int × List UInt8} (h : es.map Dv.key = [a]) : ∃ d, es = [d] ∧ d.key = a := by
  rcases es with _ | ⟨d1, _ | ⟨d2, r⟩⟩ <;> simp at h
  exact ⟨d1, rfl, by simp [Dv.key, h]⟩
end Go.Proofs.Ytjgkanmhmkmdeaa
