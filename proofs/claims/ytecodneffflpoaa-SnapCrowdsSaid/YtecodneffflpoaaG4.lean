/- Rows that may be nil, read; items laid; worlds that are handed back. -/
import Derived.Test.YtecodneffflpoaaG3
import Derived.Test.YtecodneffflpoaaHV
namespace Go.Ad
open Go.RowKit Go.Maps
set_option linter.unusedVariables false
set_option linter.unusedSimpArgs false
/-- A slice that is read; it may be nil. -/
inductive SlV (W : World) (k : Nat) : Value → Nat → List Value → Prop
  | nil : SlV W k (.slice none 0 0) 0 []
  | zero {a : Option Addr} {c : Nat} : SlV W k (.slice a 0 c) 0 []
  | some {b o n c : Nat} {cs : List Value} (h : SlB W b o n c k cs) : SlV W k (.slice (some ⟨b, o, none⟩) n c) n cs
theorem SlV.some_of {W : World} {k n : Nat} {v : Value} {cs : List Value} (h : SlV W k v n cs) (h0 : 0 < n) : ∃ b o c, v = .slice (Option.some ⟨b, o, none⟩) n c ∧ SlB W b o n c k cs := by
  cases h with
  | nil => omega
  | zero => omega
  | some h => exact ⟨_, _, _, rfl, h⟩
theorem SlV.len {W : World} {k n : Nat} {v : Value} {cs : List Value} (h : SlV W k v n cs) : cs.length = n * k := by
  cases h with
  | nil => simp
  | zero => simp
  | some h => exact h.len
theorem SlV.has {W w : World} {L : List Bk} {k n : Nat} {v : Value} {cs : List Value} (h : SlV W k v n cs) (hH : Has W [] L w) : SlV w k v n cs := by
  cases h with
  | nil => exact .nil
  | zero => exact .zero
  | some h => exact .some (h.has hH)
theorem SlV.one {W : World} {k n : Nat} {v : Value} {cs : List Value} (h : SlV W k v n cs) : v.oneCell' = true := by cases h <;> rfl
theorem SlV.le {W : World} {k n : Nat} {v : Value} {cs : List Value} (h : SlV W k v n cs) : n ≤ maxLen := by
  cases h with
  | nil => omega
  | zero => omega
  | some h => exact Nat.le_trans h.cap h.big
theorem Row.slv {W w : World} {M : List Nat} {L B : List Bk} {e kk n : Nat} {v : Value} {cs : List Value} (h : Row e kk v n cs B) (hH : Has W M L w) (hB : ∀ x ∈ B, x ∈ L) : SlV w kk v n cs := by
  cases h with
  | nil => exact .nil
  | some h1 h2 => exact .some ((hH.at' (hB _ (List.Mem.head _))).sl h2 h1)
theorem Y_lenV {P : Program} {W W0 : World} {M : List Nat} {L : List Bk} {ρ : Operand → Value} {x : Operand} {ty k n : Nat} {v : Value} {cs : List Value} {el u : TypeId} {ts : Array TypeId} (hB : SlV W0 k v n cs) (hx : ρ x = v) (ht : ts[0]? = some u) (hu : P.underlying u = some (.slice el)) : Y P W M L ρ (.call { callee := .builtin .len, args := #[x], argTypes := ts }) ty (.int .i64 n) := by
  cases hB with
  | nil => exact Y_len hx ht hu
  | zero => exact Y_len hx ht hu
  | some => exact Y_len hx ht hu
theorem QL.conv {W : World} {M : List Nat} {K : Act → World → Prop} {ov : Ov} {base : List Value} {L L' : List Bk} (hc : ∀ w, Has W M L w → Has W M L' w) (h : QL W M K ov base L') : QL W M K ov base L := fun a w hr hH => h a w hr (hc w hH)
theorem byteM_nat (z : Int) : ((byteM z).toNat : Int) = z % 256 := by
  unfold byteM
  rw [UInt8.toNat_ofNat']
  omega
/-- A number's lowest byte. -/
theorem Y_cb {P : Program} {W : World} {M : List Nat} {L : List Bk} {ρ : Operand → Value} {x : Operand} {ty : TypeId} {k : IntKind} {a : Int} {src dst : TypeId} {d : TypeDesc} (hx : ρ x = .int k a) (hs : P.underlying src = some d) (hd : P.underlying dst = some (.int .u8)) : Y P W M L ρ (.convert src dst x) ty (bv (byteM a)) :=
  (Y_convw hx hs hd).num (by rw [IntKind.wrap_u8, byteM_nat])
theorem beM_len (v : Int) : ∀ n, (beM v n).length = n
  | 0 => rfl
  | n + 1 => by rw [beM, List.length_cons, beM_len v n]
theorem bvs_one (l : List UInt8) : ∀ u ∈ l.map bv, u.oneCell' = true := fun u hu => by
  obtain ⟨x, _, rfl⟩ := List.mem_map.1 hu
  rfl
theorem eBytes_len (l : List Ent) : (l.flatMap eBytes).length = l.length * 11 := by
  induction l with
  | nil => rfl
  | cons a r ih => rw [List.flatMap_cons, List.length_append, ih, List.length_cons]; simp only [eBytes, List.length_cons, List.length_nil]; omega
theorem iBytes_len (l : List Itm) : (l.flatMap iBytes).length = l.length * 4 := by
  induction l with
  | nil => rfl
  | cons a r ih => rw [List.flatMap_cons, List.length_append, ih, List.length_cons]; simp only [iBytes, List.length_cons, List.length_nil]; omega
theorem flat_take {α : Type} {f : α → List UInt8} {l : List α} {i : Nat} {a : α} (h : l[i]? = some a) : (l.take (i + 1)).flatMap f = (l.take i).flatMap f ++ f a := by
  obtain ⟨hi, rfl⟩ := List.getElem?_eq_some_iff.1 h
  rw [← List.take_append_getElem hi, List.flatMap_append, List.flatMap_cons, List.flatMap_nil, List.append_nil]
theorem check_sizes {d : Wd} (h : checkM d = 0) : d.cells.length = 384 ∧ d.ents.length = 32 ∧ d.items.length = 40 := by
  unfold checkM at h
  by_cases h1 : headM d = 0
  · unfold headM at h1
    split at h1
    · omega
    · split at h1
      · omega
      · rename_i _ h2
        simp only [sizesOk, decide_eq_false_iff_not, Decidable.not_not] at h2
        exact h2
  · rw [if_pos h1] at h; omega
def goldBytes (g : Four) : Nat → List UInt8
  | 0 => []
  | k + 1 => goldBytes g k ++ beM (IntKind.u64.wrap (g.get k)) 2
theorem goldBytes_len (g : Four) : ∀ k, (goldBytes g k).length = k * 2
  | 0 => rfl
  | k + 1 => by rw [goldBytes, List.length_append, goldBytes_len g k, beM_len]; omega
def headBytes (d : Wd) : List UInt8 := beM (IntKind.u64.wrap d.seed) 8 ++ beM (IntKind.u64.wrap d.frame) 4 ++ [byteM d.floor, byteM d.state]
theorem encW_eq (d : Wd) : encW d = headBytes d ++ goldBytes d.gold 4 ++ d.cells ++ d.ents.flatMap eBytes ++ d.items.flatMap iBytes := by
  simp only [encW, headBytes, goldBytes, Four.get, List.append_assoc, List.nil_append]
theorem headBytes_len (d : Wd) : (headBytes d).length = 14 := by simp [headBytes, beM_len]
def encA (d : Wd) (k : Nat) : List UInt8 := headBytes d ++ goldBytes d.gold k
def encB (d : Wd) (i : Nat) : List UInt8 := encA d 4 ++ d.cells ++ (d.ents.take i).flatMap eBytes
def encC (d : Wd) (i : Nat) : List UInt8 := encB d d.ents.length ++ (d.items.take i).flatMap iBytes
theorem encA_succ (d : Wd) (k : Nat) : encA d (k + 1) = encA d k ++ beM (IntKind.u64.wrap (d.gold.get k)) 2 := by rw [encA, encA, goldBytes, List.append_assoc]
theorem encB_zero (d : Wd) : encB d 0 = encA d 4 ++ d.cells := by simp [encB]
theorem encB_succ {d : Wd} {i : Nat} {e : Ent} (h : d.ents[i]? = some e) : encB d (i + 1) = encB d i ++ eBytes e := by rw [encB, encB, flat_take h]; simp only [List.append_assoc]
theorem encC_zero (d : Wd) : encC d 0 = encB d d.ents.length := by simp [encC]
theorem encC_succ {d : Wd} {i : Nat} {x : Itm} (h : d.items[i]? = some x) : encC d (i + 1) = encC d i ++ iBytes x := by rw [encC, encC, flat_take h, List.append_assoc]
theorem encC_all (d : Wd) : encC d d.items.length = encW d := by rw [encC, encB, encA, List.take_length, List.take_length, encW_eq]
theorem encA_len (d : Wd) (k : Nat) : (encA d k).length = 14 + k * 2 := by rw [encA, List.length_append, headBytes_len, goldBytes_len]
theorem encB_len (d : Wd) (i : Nat) (h : i ≤ d.ents.length) : (encB d i).length = 22 + d.cells.length + i * 11 := by
  rw [encB, List.length_append, List.length_append, encA_len, eBytes_len, List.length_take, Nat.min_eq_left h]
theorem encC_len (d : Wd) (i : Nat) (h : i ≤ d.items.length) : (encC d i).length = 22 + d.cells.length + d.ents.length * 11 + i * 4 := by
  rw [encC, List.length_append, encB_len _ _ (Nat.le_refl _), iBytes_len, List.length_take, Nat.min_eq_left h]
theorem isz_iff (x : Itm) : x.isZ = decide ([x.kind, x.whr, x.a, x.b] = [0, 0, 0, 0]) := by
  unfold Itm.isZ
  congr 1
  simp
def layOne (l : List Itm) (x : Itm) : List Itm := if fnd Itm.isZ (l.take 40) 0 < 0 then l else l.set (fnd Itm.isZ (l.take 40) 0).toNat x
def layM (l more : List Itm) : List Itm := more.foldl layOne l
theorem layOne_len (l : List Itm) (x : Itm) : (layOne l x).length = l.length := by unfold layOne; split <;> simp
theorem layM_len : ∀ (more l : List Itm), (layM l more).length = l.length
  | [], l => rfl
  | x :: r, l => by
    have := layM_len r (layOne l x)
    rw [layOne_len] at this
    exact this
theorem foldl_drop {α β : Type} {f : β → α → β} {l : List α} {i : Nat} {a : α} (h : l[i]? = some a) (s : β) : (l.drop i).foldl f s = (l.drop (i + 1)).foldl f (f s a) := by
  obtain ⟨hi, rfl⟩ := List.getElem?_eq_some_iff.1 h
  rw [List.drop_eq_getElem_cons hi, List.foldl_cons]
end Go.Ad
