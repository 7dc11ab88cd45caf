/- The document's dice, cells, entities, as functions on data. -/
import Derived.Test.YtecodneffflpoaaG0
namespace Go.Ad
open Go.RowKit Go.Maps
set_option linter.unusedVariables false
set_option linter.unusedSimpArgs false
/-! ### Short names for texts that a program prints -/
theorem mm_ {α : Type} {a : α} {l : List α} (h : a ∈ l := by repeat (first | exact List.Mem.head _ | assumption | apply List.Mem.tail | apply List.mem_append_right)) : a ∈ l := h
theorem gt_ {ov : Ov} {base : List Value} {d : Nat} {v : Value} (h : Gt ov base d v := by repeat (first | exact Gt.here | apply Gt.there (by rfl) | exact Gt.base (by rfl))) : Gt ov base d v := h
theorem sl_ {α : Type} {l l' : List α} (h : List.Sublist l l' := by repeat (first | exact List.Sublist.refl _ | exact List.nil_sublist _ | apply List.Sublist.cons_cons | apply List.Sublist.cons)) : List.Sublist l l' := h
theorem nrm_ : (∀ a b : Bool, ((a && b) = true) = (a = true ∧ b = true)) ∧ (∀ a b : Bool, ((a || b) = true) = (a = true ∨ b = true)) ∧ (∀ a b : Bool, ((a && b) = false) = (a = false ∨ b = false)) ∧ (∀ a b : Bool, ((a || b) = false) = (a = false ∧ b = false)) ∧ (∀ a : Bool, ((!a) = true) = (a = false)) ∧ (∀ a : Bool, ((!a) = false) = (a = true)) ∧ (∀ a b : Bool, ((!a) = b) = (a = !b)) ∧ ((!true) = false) ∧ ((!false) = true) ∧ (∀ (p : Prop) [Decidable p], (decide p = true) = p) ∧ (∀ (p : Prop) [Decidable p], (decide p = false) = ¬ p) ∧ (∀ (p : Prop) [Decidable p], (¬ ¬ p) = p) := by
  refine ⟨?_, ?_, ?_, ?_, ?_, ?_, ?_, rfl, rfl, fun p _ => decide_eq_true_eq, fun p _ => propext decide_eq_false_iff_not, fun p _ => propext Decidable.not_not⟩ <;> decide
/-! ### Dice -/
def sh (x : Int) (b : Nat) : Int := x.fdiv (2 ^ b)
def mM (x : Int) : Int :=
  let a := IntKind.u64.wrap (xr x (sh x 30) * 13787848793156543929)
  let b := IntKind.u64.wrap (xr a (sh a 27) * 10723151780598845931)
  xr b (sh b 31)
def mixS (x v : Int) : Int := mM (IntKind.u64.wrap (xr x (IntKind.u64.wrap v) + 11400714819323198485))
/-- A number that is not looked into. -/
def still (x : Int) (n : Nat) : Int := if n = 0 then x else still x (n - 1)
termination_by n
theorem still_eq (x : Int) : still x 0 = x := by rw [still]; simp
def mixM (seed : Int) (l : List Int) : Int := still (l.foldl mixS (mM (IntKind.u64.wrap (IntKind.u64.wrap seed + 11400714819323198485)))) 0
theorem mixM_eq (seed : Int) (l : List Int) : mixM seed l = l.foldl mixS (mM (IntKind.u64.wrap (IntKind.u64.wrap seed + 11400714819323198485))) := still_eq _
theorem u64_rng (z : Int) : 0 ≤ IntKind.u64.wrap z ∧ IntKind.u64.wrap z < 18446744073709551616 := by rw [IntKind.wrap_u64]; omega
theorem mM_rng (z : Int) : 0 ≤ mM z ∧ mM z < 18446744073709551616 := u64_rng _
theorem mixM_rng (seed : Int) : ∀ l, 0 ≤ mixM seed l ∧ mixM seed l < 18446744073709551616 := by
  have : ∀ (l : List Int) (x : Int), 0 ≤ x ∧ x < 18446744073709551616 → 0 ≤ l.foldl mixS x ∧ l.foldl mixS x < 18446744073709551616 := by
    intro l
    induction l with
    | nil => intro x h; exact h
    | cons a r ih => intro x h; exact ih _ (mM_rng _)
  exact fun l => by rw [mixM_eq]; exact this l _ (mM_rng _)
def dieM (n seed : Int) (l : List Int) : Int := mixM seed l % n
theorem dieM_rng {n : Int} (h : 0 < n) (seed : Int) (l : List Int) : 0 ≤ dieM n seed l ∧ dieM n seed l < n := ⟨Int.emod_nonneg _ (by omega), Int.emod_lt_of_pos _ h⟩
/-! ### Cells -/
def inM (x y : Int) : Bool := decide (0 ≤ x ∧ x < 24 ∧ 0 ≤ y ∧ y < 16)
def byteAt (cells : List UInt8) (i : Nat) : Int := ((cells.getD i 0).toNat : Int)
def atM (cells : List UInt8) (x y : Int) : Int := if inM x y = true ∧ y * 24 + x < cells.length then byteAt cells (y * 24 + x).toNat else 0
def walkM (k : Int) : Bool := decide (1 ≤ k ∧ k ≤ 5)
theorem byteAt_of {cells : List UInt8} {i : Nat} {x : UInt8} (h : cells[i]? = some x) : byteAt cells i = x.toNat := by
  unfold byteAt; rw [List.getD_eq_getElem?_getD, h]; rfl
theorem byteAt_rng (cells : List UInt8) (i : Nat) : 0 ≤ byteAt cells i ∧ byteAt cells i < 256 := by
  have := (cells.getD i 0).toNat_lt
  unfold byteAt; omega
def findM (cells : List UInt8) (k : Int) : Int := fnd (fun x => decide ((x.toNat : Int) = k)) (cells.take 384) 0
/-! ### Entities -/
def eAt (l : List Ent) (x y : Int) : Int := fnd (fun e => decide (e.kind ≠ 0 ∧ e.x = x ∧ e.y = y)) l 0
def eHero (l : List Ent) (s : Int) : Int := fnd (fun e => decide (e.kind = 1 ∧ e.seat = s)) l 0
def statsM (k : Int) : Ent :=
  if k = 1 then ⟨1, 0, 0, 0, 0, 20, 20, 5, 1, 0, 0⟩ else if k = 2 then ⟨2, 0, 0, 0, 0, 4, 4, 2, 0, 0, 0⟩ else if k = 3 then ⟨3, 0, 0, 0, 0, 9, 9, 4, 1, 0, 0⟩ else if k = 4 then ⟨4, 0, 0, 0, 0, 6, 6, 3, 0, 0, 0⟩ else Ent.zero
/-- The lowest free row of the first 32. -/
def freeRow (l : List Ent) : Int := fnd (fun e => decide (e.kind = 0)) (l.take 32) 0
def genOf (g : Int) : Int := IntKind.i64.wrap (g + 1) |>.tmod 256
/-- Items. -/
def iIn (l : List Itm) (w a b : Int) : Int := fnd (fun x => decide (x.whr = w ∧ x.a = a ∧ x.b = b)) l 0
end Go.Ad
