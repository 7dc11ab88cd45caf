/- Distances over cells, and floors, as functions on data. -/
import Derived.Test.YtecodneffflpoaaG1
namespace Go.Ad
open Go.RowKit Go.Maps
set_option linter.unusedVariables false
set_option linter.unusedSimpArgs false
/-! ### Distances -/
/-- The cell beside a cell. -/
def nbM (i d : Nat) : Int × Int :=
  let x := ((i % 24 : Nat) : Int)
  let y := ((i / 24 : Nat) : Int)
  match d with
  | 0 => (x, y - 1)
  | 1 => (x + 1, y)
  | 2 => (x, y + 1)
  | _ => (x - 1, y)
def getI (f : List Int) (i : Nat) : Int := f.getD i 0
def opens (cells : List UInt8) (bl : List Bool) (f : List Int) (p : Int × Int) : Bool :=
  inM p.1 p.2 && decide (getI f (p.2 * 24 + p.1).toNat < 0) && walkM (atM cells p.1 p.2) && (decide (bl.length ≤ (p.2 * 24 + p.1).toNat) || !bl.getD (p.2 * 24 + p.1).toNat false)
def tryD (cells : List UInt8) (bl : List Bool) (i : Nat) (st : List Int × List Nat) (d : Nat) : List Int × List Nat :=
  if opens cells bl st.1 (nbM i d) = true then (st.1.set ((nbM i d).2 * 24 + (nbM i d).1).toNat (getI st.1 i + 1), st.2 ++ [((nbM i d).2 * 24 + (nbM i d).1).toNat]) else st
def triesM (cells : List UInt8) (bl : List Bool) (i : Nat) (st : List Int × List Nat) : Nat → List Int × List Nat
  | 0 => st
  | d + 1 => tryD cells bl i (triesM cells bl i st d) d
def bfs (cells : List UInt8) (bl : List Bool) : Nat → Nat → List Int × List Nat → List Int
  | 0, _, st => st.1
  | n + 1, k, st => match st.2[k]? with
    | none => st.1
    | some i => bfs cells bl n (k + 1) (triesM cells bl i st 4)
def markM (cells : List UInt8) (f : List Int) (t : Int) : List Int :=
  if 0 ≤ t ∧ t < 384 ∧ walkM (atM cells (t % 24) (t / 24)) = true then f.set t.toNat 0 else f
def zerosM (f : List Int) (n : Nat) : List Nat := (List.range n).filter fun i => decide (getI f i = 0)
def marksM (cells : List UInt8) (ts : List Int) : List Int := ts.foldl (markM cells) (List.replicate 384 (-1))
def fieldM (cells : List UInt8) (bl : List Bool) (ts : List Int) : List Int :=
  bfs cells bl 385 0 (marksM cells ts, zerosM (marksM cells ts) 384)
/-- How many cells are not reached. -/
def negs (f : List Int) : Nat := (f.filter fun v => decide (v < 0)).length
/-- What holds while cells are reached. -/
structure Bfs (f : List Int) (row : List Nat) : Prop where
  len : f.length = 384
  rws : ∀ i ∈ row, i < 384 ∧ 0 ≤ getI f i
  low : ∀ v ∈ f, -1 ≤ v ∧ v ≤ row.length
  sum : negs f + row.length = 384
theorem getI_of {f : List Int} {i : Nat} {v : Int} (h : f[i]? = some v) : getI f i = v := by unfold getI; rw [List.getD_eq_getElem?_getD, h]; rfl
theorem get_getI {f : List Int} {i : Nat} (h : i < f.length) : f[i]? = some (getI f i) := by
  unfold getI; rw [List.getD_eq_getElem?_getD, List.getElem?_eq_getElem h]; rfl
theorem getI_set {f : List Int} {i j : Nat} {v : Int} (h : i < f.length) : getI (f.set i v) j = if i = j then v else getI f j := by
  unfold getI
  rw [List.getD_eq_getElem?_getD, List.getElem?_set]
  by_cases hij : i = j
  · subst hij; simp [h]
  · simp [hij, List.getD_eq_getElem?_getD]
theorem negs_set : ∀ {f : List Int} {i : Nat} {v : Int}, getI f i < 0 → 0 ≤ v → i < f.length → negs (f.set i v) + 1 = negs f
  | a :: r, 0, v, h, hv, _ => by
    have h : a < 0 := h
    simp only [negs, List.set_cons_zero, List.filter_cons]
    rw [if_neg (by simp; omega), if_pos (by simp; omega)]
    simp
  | a :: r, i + 1, v, h, hv, hi => by
    have := negs_set (f := r) (i := i) (v := v) h hv (by simpa using hi)
    simp only [negs, List.set_cons_succ, List.filter_cons] at this ⊢
    by_cases ha : decide (a < 0) = true
    · simp only [ha, if_true, List.length_cons]; omega
    · simp only [ha, if_false, Bool.false_eq_true]; omega
theorem Bfs.push {f : List Int} {row : List Nat} (B : Bfs f row) {i k : Nat} (hi : i < 384) (h0 : 0 ≤ getI f i) (hk : k < 384) (hn : getI f k < 0) : Bfs (f.set k (getI f i + 1)) (row ++ [k]) := by
  have hl := B.len
  have hb := B.low _ (List.mem_of_getElem? (get_getI (show i < f.length by omega)))
  refine ⟨by simpa using hl, fun j hj => ?_, fun v hv => ?_, ?_⟩
  · rcases List.mem_append.1 hj with h | h
    · obtain ⟨h1, h2⟩ := B.rws j h
      refine ⟨h1, ?_⟩
      rw [getI_set (by omega)]
      split <;> omega
    · obtain rfl := List.mem_singleton.1 h
      refine ⟨hk, ?_⟩
      rw [getI_set (by omega), if_pos rfl]; omega
  · rw [List.length_append, List.length_singleton]
    rcases List.mem_or_eq_of_mem_set hv with h | h
    · have := B.low v h; omega
    · subst h; omega
  · have := negs_set hn (show 0 ≤ getI f i + 1 by omega) (show k < f.length by omega)
    have := B.sum
    rw [List.length_append, List.length_singleton]; omega
theorem nb_in {i d : Nat} (h : inM (nbM i d).1 (nbM i d).2 = true) : ((nbM i d).2 * 24 + (nbM i d).1).toNat < 384 ∧ 0 ≤ (nbM i d).2 * 24 + (nbM i d).1 := by
  simp only [inM, decide_eq_true_eq] at h; omega
theorem Bfs.try {f : List Int} {row : List Nat} (B : Bfs f row) {i : Nat} (hi : i < 384) (h0 : 0 ≤ getI f i) (cells : List UInt8) (bl : List Bool) (d : Nat) : Bfs (tryD cells bl i (f, row) d).1 (tryD cells bl i (f, row) d).2 ∧ 0 ≤ getI (tryD cells bl i (f, row) d).1 i ∧ row <+: (tryD cells bl i (f, row) d).2 := by
  unfold tryD
  split
  · rename_i h
    simp only [opens, Bool.and_eq_true, decide_eq_true_eq] at h
    obtain ⟨⟨⟨h1, h2⟩, h3⟩, h4⟩ := h
    have hk := nb_in h1
    refine ⟨B.push hi h0 hk.1 h2, ?_, List.prefix_append _ _⟩
    simp only
    rw [getI_set (by rw [B.len]; exact hk.1)]
    split <;> omega
  · exact ⟨B, h0, List.prefix_refl _⟩
theorem Bfs.tries {f : List Int} {row : List Nat} (B : Bfs f row) {i : Nat} (hi : i < 384) (h0 : 0 ≤ getI f i) (cells : List UInt8) (bl : List Bool) : ∀ d, Bfs (triesM cells bl i (f, row) d).1 (triesM cells bl i (f, row) d).2 ∧ 0 ≤ getI (triesM cells bl i (f, row) d).1 i ∧ row <+: (triesM cells bl i (f, row) d).2
  | 0 => ⟨B, h0, List.prefix_refl _⟩
  | d + 1 => by
    obtain ⟨h1, h2, h3⟩ := B.tries hi h0 cells bl d
    obtain ⟨q1, q2, q3⟩ := h1.try hi h2 cells bl d
    exact ⟨q1, q2, h3.trans q3⟩
/-! ### Floors -/
abbrev gd (seed floor a b n : Int) : Int := dieM n seed [floor, a, b]
def roomW (seed floor i : Int) : Int := 3 + gd seed floor i 0 5
def roomH (seed floor i : Int) : Int := 2 + gd seed floor i 1 4
def roomX (seed floor i : Int) : Int := 1 + gd seed floor i 2 (23 - roomW seed floor i)
def roomY (seed floor i : Int) : Int := 1 + gd seed floor i 3 (15 - roomH seed floor i)
theorem gd_rng {n : Int} (h : 0 < n) (seed floor a b : Int) : 0 ≤ gd seed floor a b n ∧ gd seed floor a b n < n := dieM_rng h seed _
theorem room_rng (seed floor i : Int) : 3 ≤ roomW seed floor i ∧ roomW seed floor i ≤ 7 ∧ 2 ≤ roomH seed floor i ∧ roomH seed floor i ≤ 5 ∧ 1 ≤ roomX seed floor i ∧ roomX seed floor i + roomW seed floor i ≤ 23 ∧ 1 ≤ roomY seed floor i ∧ roomY seed floor i + roomH seed floor i ≤ 15 := by
  have hw : 3 ≤ roomW seed floor i ∧ roomW seed floor i ≤ 7 := by
    have := gd_rng (n := 5) (by omega) seed floor i 0
    unfold roomW; omega
  have hh : 2 ≤ roomH seed floor i ∧ roomH seed floor i ≤ 5 := by
    have := gd_rng (n := 4) (by omega) seed floor i 1
    unfold roomH; omega
  have h3 := gd_rng (n := 23 - roomW seed floor i) (by omega) seed floor i 2
  have h4 := gd_rng (n := 15 - roomH seed floor i) (by omega) seed floor i 3
  have hx : roomX seed floor i = 1 + gd seed floor i 2 (23 - roomW seed floor i) := rfl
  have hy : roomY seed floor i = 1 + gd seed floor i 3 (15 - roomH seed floor i) := rfl
  omega
/-- So many cells of a row become floor. -/
def fillRow (cells : List UInt8) (k : Nat) : Nat → List UInt8
  | 0 => cells
  | n + 1 => fillRow (cells.set k 1) (k + 1) n
def fillRect (cells : List UInt8) (k w : Nat) : Nat → List UInt8
  | 0 => cells
  | n + 1 => fillRect (fillRow cells k w) (k + 24) w n
def digRoom (seed floor : Int) (cells : List UInt8) (i : Nat) : List UInt8 :=
  fillRect cells (roomY seed floor i * 24 + roomX seed floor i).toNat (roomW seed floor i).toNat (roomH seed floor i).toNat
def digRooms (seed floor : Int) : Nat → List UInt8
  | 0 => List.replicate 384 0
  | i + 1 => digRoom seed floor (digRooms seed floor i) i
def midX (seed floor i : Int) : Int := roomX seed floor i + roomW seed floor i / 2
def midY (seed floor i : Int) : Int := roomY seed floor i + roomH seed floor i / 2
theorem mid_rng (seed floor i : Int) : 1 ≤ midX seed floor i ∧ midX seed floor i ≤ 22 ∧ 1 ≤ midY seed floor i ∧ midY seed floor i ≤ 14 := by
  have := room_rng seed floor i
  unfold midX midY; omega
def digM (cells : List UInt8) (x y : Int) (door : Bool) : List UInt8 × Bool :=
  if byteAt cells (y * 24 + x).toNat ≠ 0 then (cells, door) else (cells.set (y * 24 + x).toNat (if door then 1 else 2), true)
def towardM (a b : Int) : Int := if a < b then a + 1 else a - 1
def corrM (tx ty : Int) (first : Bool) : Nat → List UInt8 → Bool → Int → Int → List UInt8
  | 0, cells, _, _, _ => cells
  | n + 1, cells, door, x, y =>
    if x ≠ tx ∨ y ≠ ty then
      let p := if (first = true ∧ x ≠ tx) ∨ (first = false ∧ y = ty) then (towardM x tx, y) else (x, towardM y ty)
      let q := digM cells p.1 p.2 door
      corrM tx ty first n q.1 q.2 p.1 p.2
    else cells
def corrStart (seed floor : Int) (cells : List UInt8) (i : Int) : List UInt8 :=
  let q := digM cells (midX seed floor (i - 1)) (midY seed floor (i - 1)) false
  corrM (midX seed floor i) (midY seed floor i) (decide (gd seed floor i 4 2 = 0)) 64 q.1 q.2 (midX seed floor (i - 1)) (midY seed floor (i - 1))
def corrsM (seed floor : Int) (cells : List UInt8) : Nat → List UInt8
  | 0 => cells
  | i + 1 => corrStart seed floor (corrsM seed floor cells i) ((i : Int) + 1)
def upM (seed floor : Int) : Nat := (midY seed floor 0 * 24 + midX seed floor 0).toNat
/-- The first of the farthest ones. -/
def farM (f : List Int) (up : Nat) : Nat → Nat
  | 0 => up
  | i + 1 => if getI f i > getI f (farM f up i) then i else farM f up i
def shopM (cells : List UInt8) (f : List Int) (v : Int) : Nat → Option Nat
  | 0 => none
  | i + 1 => match shopM cells f v i with
    | some k => some k
    | none => if byteAt cells i = 1 ∧ getI f i = v then some i else none
def baseM (seed floor : Int) : List UInt8 := (corrsM seed floor (digRooms seed floor 6) 5).set (upM seed floor) 3
def distM (seed floor : Int) : List Int := fieldM (baseM seed floor) [] [(upM seed floor : Int)]
def farMM (seed floor : Int) : Nat := farM (distM seed floor) (upM seed floor) 384
def downM (seed floor : Int) : List UInt8 := (baseM seed floor).set (farMM seed floor) 4
def shopAt (seed floor : Int) : Option Nat := if gd seed floor 6 0 2 = 0 then shopM (downM seed floor) (distM seed floor) ((getI (distM seed floor) (farMM seed floor)).tdiv 2) 384 else none
def shopC (cells : List UInt8) : Option Nat → List UInt8
  | some k => cells.set k 5
  | none => cells
def cellsM (seed floor : Int) : List UInt8 := shopC (downM seed floor) (shopAt seed floor)
def freeM (cells : List UInt8) (f : List Int) (far : Int) (used : List Bool) (n : Nat) : List Nat := (List.range n).filter fun i => decide (byteAt cells i = 1) && decide (getI f i ≥ far) && !used.getD i false
def pickM (cells : List UInt8) (f : List Int) (far : Int) (used : List Bool) (seed floor a : Int) : Int :=
  match freeM cells f far used 384 with
  | [] => -1
  | l => ((l.getD (gd seed floor a 0 l.length).toNat 0 : Nat) : Int)
def foesM (seed floor : Int) (cells : List UInt8) (f : List Int) : Nat → Nat → List Bool → List Ent → List Ent
  | 0, _, _, l => l
  | n + 1, k, used, l =>
    let at_ := pickM cells f 4 used seed floor (7 + k)
    if at_ < 0 then l else
      foesM seed floor cells f n (k + 1) (used.set at_.toNat true) (l ++ [{ statsM (2 + gd seed floor (16 + k) 1 (min (floor + 1) 3)) with x := at_ % 24, y := at_ / 24 }])
def waresM (seed floor : Int) (cells : List UInt8) (f : List Int) : Nat → Nat → List Bool → List Itm → List Itm
  | 0, _, _, l => l
  | n + 1, k, used, l =>
    let at_ := pickM cells f 0 used seed floor (40 + k)
    if at_ < 0 then waresM seed floor cells f n (k + 1) used l else
      waresM seed floor cells f n (k + 1) (used.set at_.toNat true) (l ++ [⟨1 + gd seed floor (40 + k) 1 4, 1, at_ % 24, at_ / 24⟩])
def shelfM (seed floor : Int) : Nat → List Itm
  | 0 => []
  | k + 1 => shelfM seed floor k ++ [⟨1 + gd seed floor (50 + k) 1 3, 4, k, 0⟩]
structure Lvl where
  cells : List UInt8
  ents : List Ent
  items : List Itm
def makeM (seed floor : Int) : Lvl :=
  ⟨cellsM seed floor, foesM seed floor (cellsM seed floor) (distM seed floor) (floor + 2).toNat 0 (List.replicate 384 false) [],
    waresM seed floor (cellsM seed floor) (distM seed floor) 4 0 (List.replicate 384 false) [] ++ (if (shopAt seed floor).isSome then shelfM seed floor 3 else [])⟩
end Go.Ad
