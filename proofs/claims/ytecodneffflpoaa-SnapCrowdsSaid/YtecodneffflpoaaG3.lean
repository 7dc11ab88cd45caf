/- What is wrong with a world; a world as bytes: as functions on data. -/
import Derived.Test.YtecodneffflpoaaG2
namespace Go.Ad
open Go.RowKit Go.Maps
set_option linter.unusedVariables false
set_option linter.unusedSimpArgs false
def btw (n f t : Int) : Bool := decide (f ≤ n ∧ n ≤ t)
def numsOk (w : Wd) : Bool := btw w.frame 0 1073741823 && btw w.floor 1 3 && btw w.state 0 2 && btw w.gold.a 0 999 && btw w.gold.b 0 999 && btw w.gold.c 0 999 && btw w.gold.d 0 999
def sizesOk (w : Wd) : Bool := decide (w.cells.length = 384 ∧ w.ents.length = 32 ∧ w.items.length = 40)
def cnt (k : UInt8) (cells : List UInt8) : Nat := (cells.filter (· == k)).length
def headM (w : Wd) : Int :=
  if numsOk w = false then 1 else if sizesOk w = false then 4 else if w.cells.any (fun x => decide (5 < x.toNat)) then 3
  else if cnt 3 w.cells = 1 ∧ cnt 4 w.cells = 1 then 0 else 2
def fitsM (w : Wd) (i : Nat) (e : Ent) : Bool :=
  btw e.gen 0 255 &&
  (if e.kind = 0 then decide (e.seat = 0 ∧ e.x = 0 ∧ e.y = 0 ∧ e.hp = 0 ∧ e.max = 0 ∧ e.atk = 0 ∧ e.df = 0 ∧ e.poison = 0 ∧ e.stun = 0)
  else walkM (atM w.cells e.x e.y) && decide (eAt (w.ents.take i) e.x e.y < 0) && btw e.hp 1 e.max && decide (e.max = (statsM e.kind).max) && decide (e.atk = (statsM e.kind).atk) && decide (e.df = (statsM e.kind).df) && btw e.poison 0 9 && btw e.stun 0 9 &&
    (if e.kind = 1 then btw e.seat 0 3 && decide (eHero (w.ents.take i) e.seat < 0) else decide (e.seat = 0)))
def entM (w : Wd) (i : Nat) (e : Ent) : Int := if btw e.kind 0 4 = false then 3 else if fitsM w i e then 0 else 9
def entsM (w : Wd) : List Ent → Nat → Int
  | [], _ => 0
  | e :: r, i => if entM w i e ≠ 0 then entM w i e else entsM w r (i + 1)
def Itm.isZ (x : Itm) : Bool := decide (x.kind = 0 ∧ x.whr = 0 ∧ x.a = 0 ∧ x.b = 0)
def placedM (cells : List UInt8) (x : Itm) : Bool :=
  if x.whr = 1 then walkM (atM cells x.a x.b)
  else if x.whr = 2 then btw x.a 0 3 && btw x.b 0 3 && decide (x.kind ≠ 4)
  else if x.whr = 3 then btw x.a 0 3 && decide (x.kind = 2 ∧ x.b = 0 ∨ x.kind = 3 ∧ x.b = 1)
  else if x.whr = 4 then btw x.a 0 2 && decide (x.b = 0) && decide (x.kind ≠ 4)
  else false
/-- Is an item alone where it is, among those ahead? -/
def aloneM (l : List Itm) (x : Itm) : Bool := l.all fun y => !decide (y.whr = x.whr ∧ y.a = x.a ∧ y.b = x.b ∧ y.whr ≠ 0)
def itemsM (cells : List UInt8) (all : List Itm) : List Itm → Nat → Bool
  | [], _ => true
  | x :: r, i => if x.isZ then itemsM cells all r (i + 1) else if btw x.kind 1 4 && placedM cells x && aloneM (all.take i) x then itemsM cells all r (i + 1) else false
def goodsM (w : Wd) : Bool := decide (w.items.length = 40) && itemsM w.cells w.items w.items 0
def checkM (w : Wd) : Int := if headM w ≠ 0 then headM w else if entsM w w.ents 0 ≠ 0 then entsM w w.ents 0 else if goodsM w then 0 else 9
/-! ### Bytes -/
def byteM (v : Int) : UInt8 := UInt8.ofNat (v % 256).toNat
/-- A number's n bytes, the highest ahead. -/
def beM (v : Int) : Nat → List UInt8
  | 0 => []
  | n + 1 => byteM (v.fdiv (2 ^ (8 * n))) :: beM v n
def eBytes (e : Ent) : List UInt8 := [byteM e.kind, byteM e.gen, byteM e.seat, byteM e.x, byteM e.y, byteM e.hp, byteM e.max, byteM e.atk, byteM e.df, byteM e.poison, byteM e.stun]
def iBytes (x : Itm) : List UInt8 := [byteM x.kind, byteM x.whr, byteM x.a, byteM x.b]
def encW (w : Wd) : List UInt8 :=
  beM (IntKind.u64.wrap w.seed) 8 ++ beM (IntKind.u64.wrap w.frame) 4 ++ [byteM w.floor, byteM w.state] ++ beM (IntKind.u64.wrap w.gold.a) 2 ++ beM (IntKind.u64.wrap w.gold.b) 2 ++ beM (IntKind.u64.wrap w.gold.c) 2 ++ beM (IntKind.u64.wrap w.gold.d) 2
    ++ w.cells ++ w.ents.flatMap eBytes ++ w.items.flatMap iBytes
end Go.Ad
