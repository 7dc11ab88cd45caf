/- Rows of equal width, slices that are read, entities, items, worlds as data. -/
import Derived.OwnWalk
import Derived.Test.YtecodneffflpoaaHT
import Derived.Test.YtecodneffflpoaaHR
namespace Go.Ad
open Go.RowKit Go.Maps
set_option linter.unusedVariables false
set_option linter.unusedSimpArgs false
abbrev iv (z : Int) : Value := .int .i64 z
theorem setAll_mid : ∀ (vs A B C : List Value), vs.length = B.length → setAll (A ++ (B ++ C)) A.length vs = A ++ (vs ++ C)
  | [], A, [], C, _ => rfl
  | v :: r, A, c :: B, C, h => by
    have := setAll_mid r (A ++ [v]) B C (by simpa using h)
    simp only [setAll]
    simp only [List.append_assoc, List.singleton_append, List.length_append, List.length_singleton, List.cons_append, List.nil_append] at this
    have e : (A ++ (c :: B ++ C)).set A.length v = A ++ v :: (B ++ C) := by simp
    rw [e, this]
    simp
section
variable {α : Type} {c : α → List Value} {k : Nat}
theorem fl_len (hk : ∀ a, (c a).length = k) : ∀ l : List α, (l.flatMap c).length = l.length * k
  | [] => by simp
  | a :: r => by simp only [List.flatMap_cons, List.length_append, fl_len hk r, hk, List.length_cons, Nat.succ_mul]; omega
theorem fl_get (hk : ∀ a, (c a).length = k) : ∀ {l : List α} {i : Nat} {a : α}, l[i]? = some a → ∀ {j : Nat} {v : Value}, (c a)[j]? = some v → (l.flatMap c)[i * k + j]? = some v
  | a0 :: r, 0, a, h, j, v, hj => by
    simp only [List.getElem?_cons_zero, Option.some.injEq] at h
    subst h
    simp only [List.flatMap_cons, Nat.zero_mul, Nat.zero_add]
    rw [List.getElem?_append_left (List.getElem?_eq_some_iff.1 hj).1]; exact hj
  | a0 :: r, i + 1, a, h, j, v, hj => by
    simp only [List.getElem?_cons_succ] at h
    simp only [List.flatMap_cons]
    rw [List.getElem?_append_right (by rw [hk, Nat.succ_mul]; omega), hk, show (i + 1) * k + j - k = i * k + j by rw [Nat.succ_mul]; omega]
    exact fl_get hk h hj
theorem fl_cut (hk : ∀ a, (c a).length = k) {l : List α} {i : Nat} {a : α} (h : l[i]? = some a) : l.flatMap c = (l.take i).flatMap c ++ (c a ++ (l.drop (i + 1)).flatMap c) ∧ ((l.take i).flatMap c).length = i * k := by
  obtain ⟨hi, rfl⟩ := List.getElem?_eq_some_iff.1 h
  refine ⟨?_, by rw [fl_len hk, List.length_take, Nat.min_eq_left (by omega)]⟩
  conv => lhs; rw [← List.take_append_drop i l]
  rw [List.flatMap_append, List.drop_eq_getElem_cons hi, List.flatMap_cons]
theorem fl_put {l : List α} {i : Nat} {a : α} (h : l[i]? = some a) (a' : α) : (l.set i a').flatMap c = (l.take i).flatMap c ++ (c a' ++ (l.drop (i + 1)).flatMap c) := by
  obtain ⟨hi, rfl⟩ := List.getElem?_eq_some_iff.1 h
  rw [List.set_eq_take_append_cons_drop, if_pos hi, List.flatMap_append, List.flatMap_cons]
theorem fl_set (hk : ∀ a, (c a).length = k) {l : List α} {i : Nat} {a a' : α} (h : l[i]? = some a) {j : Nat} {v : Value} (hc : (c a).set j v = c a') (hj : j < k) : (l.flatMap c).set (i * k + j) v = (l.set i a').flatMap c := by
  obtain ⟨h1, h2⟩ := fl_cut hk h
  rw [fl_put h, h1, ← hc, ← h2, List.set_append_right _ _ (by omega), Nat.add_sub_cancel_left, List.set_append_left _ _ (by rw [hk]; exact hj)]
theorem fl_all (hk : ∀ a, (c a).length = k) {l : List α} {i : Nat} (h : i < l.length) (a' : α) : setAll (l.flatMap c) (i * k) (c a') = (l.set i a').flatMap c := by
  have h : l[i]? = some l[i] := List.getElem?_eq_getElem h
  obtain ⟨h1, h2⟩ := fl_cut hk h
  rw [fl_put h, h1, ← h2, setAll_mid _ _ _ _ (by rw [hk, hk])]
theorem fl_take (hk : ∀ a, (c a).length = k) (l : List α) (m : Nat) : (l.take m).flatMap c <+: l.flatMap c := by
  conv => rhs; rw [← List.take_append_drop m l]
  rw [List.flatMap_append]
  exact List.prefix_append _ _
end
section
variable {P : Program} {W : World} {M : List Nat} {ops : Array Oper} {Q : Exit → Act → World → Prop} {all : List Oper} {ov : Ov} {base : List Value} {L : List Bk}
/-- 'a && b' within a region. -/
theorem s_and (n : Nat) (ks : List Nat) (d : Nat) {g : Nat} {t b : Bool} (hv : ov.get base g = .bool t) (hk : ks.any (Nat.beq d) = true)
    (T : t = true → (∀ ov', AllGet ov' base [(d, .bool b)] → ov'.drop ks = ov.drop ks → wpL P W M ops Q (all.drop n) ov' base L) → wpL P W M ops Q all ((g, .bool true) :: ov) base L)
    (F : t = false → (∀ ov', AllGet ov' base [(d, .bool false)] → ov'.drop ks = ov.drop ks → wpL P W M ops Q (all.drop n) ov' base L) → wpL P W M ops Q all ((g, .bool false) :: ov) base L)
    (K : ∀ j, wpL P W M ops Q (all.drop n) ([(d, .bool (t && b))] ++ (junk ks j ++ ov)) base L) : wpL P W M ops Q all ov base L := by
  refine s_split hv (fun ht => T ht (fun ov' h1 h2 => ?_)) (fun ht => F ht (fun ov' h1 h2 => ?_))
  · exact QL.again (tr := [(d, .bool (t && b))]) (by subst ht; exact h1) h2 (by simpa using hk) (fun _ h => h) K
  · exact QL.again (tr := [(d, .bool (t && b))]) (by subst ht; exact h1) h2 (by simpa using hk) (fun _ h => h) K
theorem s_or (n : Nat) (ks : List Nat) (d : Nat) {g : Nat} {t b : Bool} (hv : ov.get base g = .bool t) (hk : ks.any (Nat.beq d) = true)
    (T : t = false → (∀ ov', AllGet ov' base [(d, .bool b)] → ov'.drop ks = ov.drop ks → wpL P W M ops Q (all.drop n) ov' base L) → wpL P W M ops Q all ((g, .bool false) :: ov) base L)
    (F : t = true → (∀ ov', AllGet ov' base [(d, .bool true)] → ov'.drop ks = ov.drop ks → wpL P W M ops Q (all.drop n) ov' base L) → wpL P W M ops Q all ((g, .bool true) :: ov) base L)
    (K : ∀ j, wpL P W M ops Q (all.drop n) ([(d, .bool (t || b))] ++ (junk ks j ++ ov)) base L) : wpL P W M ops Q all ov base L := by
  refine s_split hv (fun ht => F ht (fun ov' h1 h2 => ?_)) (fun ht => T ht (fun ov' h1 h2 => ?_))
  · exact QL.again (tr := [(d, .bool (t || b))]) (by subst ht; exact h1) h2 (by simpa using hk) (fun _ h => h) K
  · exact QL.again (tr := [(d, .bool (t || b))]) (by subst ht; exact h1) h2 (by simpa using hk) (fun _ h => h) K
theorem QL.split {K : Act → World → Prop} {d : Nat} {t : Bool} (hv : ov.get base d = .bool t) (h1 : t = true → QL W M K ((d, .bool true) :: ov) base L) (h2 : t = false → QL W M K ((d, .bool false) :: ov) base L) : QL W M K ov base L := by
  cases t with
  | true => exact QL.known hv rfl (h1 rfl)
  | false => exact QL.known hv rfl (h2 rfl)
theorem o_and {TT : Nat → Bool} {L0 : List Bk} {al : List (Nat × Bool × Oper)} (n : Nat) (ks : List Nat) (d : Nat) {g : Nat} {t b : Bool} (hv : ov.get base g = .bool t) (hk : ks.any (Nat.beq d) = true)
    (T : t = true → (∀ ov', AllGet ov' base [(d, .bool b)] → ov'.drop ks = ov.drop ks → wpO P W M ops Q TT L0 (al.drop n) ov' base L) → wpO P W M ops Q TT L0 al ((g, .bool true) :: ov) base L)
    (F : t = false → (∀ ov', AllGet ov' base [(d, .bool false)] → ov'.drop ks = ov.drop ks → wpO P W M ops Q TT L0 (al.drop n) ov' base L) → wpO P W M ops Q TT L0 al ((g, .bool false) :: ov) base L)
    (K : ∀ j, wpO P W M ops Q TT L0 (al.drop n) ([(d, .bool (t && b))] ++ (junk ks j ++ ov)) base L) : wpO P W M ops Q TT L0 al ov base L := by
  refine QL.split hv (fun ht => T ht (fun ov' h1 h2 => ?_)) (fun ht => F ht (fun ov' h1 h2 => ?_))
  · exact QL.again (tr := [(d, .bool (t && b))]) (by subst ht; exact h1) h2 (by simpa using hk) (fun _ h => h) K
  · exact QL.again (tr := [(d, .bool (t && b))]) (by subst ht; exact h1) h2 (by simpa using hk) (fun _ h => h) K
theorem o_or {TT : Nat → Bool} {L0 : List Bk} {al : List (Nat × Bool × Oper)} (n : Nat) (ks : List Nat) (d : Nat) {g : Nat} {t b : Bool} (hv : ov.get base g = .bool t) (hk : ks.any (Nat.beq d) = true)
    (T : t = false → (∀ ov', AllGet ov' base [(d, .bool b)] → ov'.drop ks = ov.drop ks → wpO P W M ops Q TT L0 (al.drop n) ov' base L) → wpO P W M ops Q TT L0 al ((g, .bool false) :: ov) base L)
    (F : t = true → (∀ ov', AllGet ov' base [(d, .bool true)] → ov'.drop ks = ov.drop ks → wpO P W M ops Q TT L0 (al.drop n) ov' base L) → wpO P W M ops Q TT L0 al ((g, .bool true) :: ov) base L)
    (K : ∀ j, wpO P W M ops Q TT L0 (al.drop n) ([(d, .bool (t || b))] ++ (junk ks j ++ ov)) base L) : wpO P W M ops Q TT L0 al ov base L := by
  refine QL.split hv (fun ht => F ht (fun ov' h1 h2 => ?_)) (fun ht => T ht (fun ov' h1 h2 => ?_))
  · exact QL.again (tr := [(d, .bool (t || b))]) (by subst ht; exact h1) h2 (by simpa using hk) (fun _ h => h) K
  · exact QL.again (tr := [(d, .bool (t || b))]) (by subst ht; exact h1) h2 (by simpa using hk) (fun _ h => h) K
theorem q_retG0 {fn : Func} {L' : List Bk} {Post : Value → List Bk → Prop} (hr : fn.results = #[]) (hs : List.Sublist L' L) (hp : Post (.tuple #[]) L') : QL W M (bodyPost P fn (fun e w' => ∃ v L, e = .returned v ∧ Has W M L w' ∧ Post v L) .ret) ov base L := q_ret0 hr hs hp
theorem q_retG1 {fn : Func} {t : Nat} {v : Value} {L' : List Bk} {Post : Value → List Bk → Prop} (hr : fn.results = #[.tmp t]) (hv : Gt ov base t v) (hs : List.Sublist L' L) (hp : Post v L') : QL W M (bodyPost P fn (fun e w' => ∃ v L, e = .returned v ∧ Has W M L w' ∧ Post v L) .ret) ov base L := q_ret1 hr hv.eq hs hp
theorem q_retG2 {fn : Func} {t u : Nat} {v v2 : Value} {L' : List Bk} {Post : Value → List Bk → Prop} (hr : fn.results = #[.tmp t, .tmp u]) (hv : Gt ov base t v) (hv2 : Gt ov base u v2) (hs : List.Sublist L' L) (hp : Post (.tuple #[v, v2]) L') : QL W M (bodyPost P fn (fun e w' => ∃ v L, e = .returned v ∧ Has W M L w' ∧ Post v L) .ret) ov base L := q_ret2 hr hv.eq hv2.eq hs hp
theorem q_retG3 {fn : Func} {t u t3 : Nat} {v v2 v3 : Value} {L' : List Bk} {Post : Value → List Bk → Prop} (hr : fn.results = #[.tmp t, .tmp u, .tmp t3]) (hv : Gt ov base t v) (hv2 : Gt ov base u v2) (hv3 : Gt ov base t3 v3) (hs : List.Sublist L' L) (hp : Post (.tuple #[v, v2, v3]) L') : QL W M (bodyPost P fn (fun e w' => ∃ v L, e = .returned v ∧ Has W M L w' ∧ Post v L) .ret) ov base L := fun a w hrp hH =>
  bodyPost_ret (v := .tuple #[v, v2, v3]) (by rw [results_tmp3 hr, hrp.get, hv.eq, hrp.get, hv2.eq, hrp.get, hv3.eq]) hrp.defers ⟨_, L', rfl, hH.sub hs, hp⟩
end
/-- The end of a body, from a region on. -/
def firstR : Code → Option Nat
  | .region i _ _ => some i
  | .seq x _ => firstR x
  | .cond _ x _ => firstR x
  | .block _ x => firstR x
  | .loop x => firstR x
  | .scope x => firstR x
  | _ => none
def tailR (r : Nat) : Code → Code
  | .seq x y => bif (match firstR x with | some i => Nat.beq i r | none => false) then .seq x y else tailR r y
  | c => c
def tailOf (fn : Func) (r : Nat) : Code := match fn.body with
  | some c => tailR r c
  | none => .skip
abbrev PostOf (P : Program) (fn : Func) (W : World) (M : List Nat) (Post : Value → List Bk → Prop) : Exit → Act → World → Prop := bodyPost P fn (fun e w' => ∃ v L, e = .returned v ∧ Has W M L w' ∧ Post v L)
/-- Slots that hold something. -/
inductive Gts (ov : Ov) (base : List Value) : Ov → Prop
  | nil : Gts ov base []
  | cons {d : Nat} {v : Value} {tr : Ov} (h : Gt ov base d v) (r : Gts ov base tr) : Gts ov base ((d, v) :: tr)
theorem Gts.get {ov tr : Ov} {base base' : List Value} (h : Gts ov base tr) {d : Nat} (hb : base'.getD d undef = ov.get base d) : tr.get base' d = ov.get base d := by
  induction h with
  | nil => exact hb
  | @cons e v tr hg _ ih =>
    by_cases he : e = d
    · subst he
      simp only [Ov.get]
      rw [show Nat.beq e e = true from by simp, cond_true, hg.eq]
    · simp only [Ov.get, nbeq he, cond_false]
      exact ih
/-- All slots but these are forgotten. -/
theorem QL.forget {W : World} {M : List Nat} {K : Act → World → Prop} {ov : Ov} {base : List Value} {L : List Bk} {tr : Ov} (n : Nat) (hn : Nat.beq base.length n = true) (h1 : Gts ov base tr) (h : ∀ j : Nat → Value, QL W M K tr ((List.range n).map j) L) : QL W M K ov base L := fun a w hr hH => by
  have hn := Nat.eq_of_beq_eq_true hn
  have h2 : a.tmps.size = n := by rw [hr.size, hn]
  refine h (fun d => a.tmps.getD d undef) a w ⟨hr.defers, by rw [hr.size, hn]; simp, fun d => ?_⟩ hH
  rw [hr.get d]
  refine (h1.get ?_).symm
  rw [← hr.get d]
  by_cases hd : d < n
  · simp [List.getD_eq_getElem?_getD, hd]
  · simp [List.getD_eq_getElem?_getD, hd, Array.getD_eq_getD_getElem?, h2]
theorem Sel.toPerm {x : Bk} {L L' : List Bk} (h : Sel x L L') : List.Perm (x :: L') L := by
  induction h with
  | head => exact .refl _
  | tail _ ih => exact (List.Perm.swap _ _ _).trans (ih.cons _)
theorem Sels.toPerm {xs L L' : List Bk} (h : Sels xs L L') : List.Perm (xs ++ L') L := by
  induction h with
  | nil => exact .refl _
  | cons h _ ih => exact (ih.cons _).trans h.toPerm
theorem Has.pick {W w : World} {M : List Nat} {L L' R : List Bk} (hs : Sels L' L R) (hH : Has W M L w) : Has W M L' w := (hH.perm hs.toPerm).sub (List.sublist_append_left _ _)
theorem QL.pick {W : World} {M : List Nat} {K : Act → World → Prop} {ov : Ov} {base : List Value} {L L' R : List Bk} (hs : Sels L' L R) (h : QL W M K ov base L') : QL W M K ov base L := fun a w hr hH => h a w hr (hH.pick hs)
theorem Has.pick2 {W w : World} {M : List Nat} {L xs R R' : List Bk} (hs : Sels xs L R) (hr : List.Sublist R' R) (hH : Has W M L w) : Has W M (xs ++ R') w := (hH.perm hs.toPerm).sub (List.Sublist.append_left hr xs)
theorem QL.pick2 {W : World} {M : List Nat} {K : Act → World → Prop} {ov : Ov} {base : List Value} {L xs R R' : List Bk} (hs : Sels xs L R) (hr : List.Sublist R' R) (h : QL W M K ov base (xs ++ R')) : QL W M K ov base L := fun a w hrp hH => h a w hrp (hH.pick2 hs hr)
theorem perm_mid (B A E : List Bk) : List.Perm (B ++ (A ++ E)) (A ++ (B ++ E)) := by
  rw [← List.append_assoc, ← List.append_assoc]
  exact List.perm_append_comm.append_right E
theorem Y_lenR {P : Program} {W : World} {M : List Nat} {L B : List Bk} {ρ : Operand → Value} {x : Operand} {ty e kk n : Nat} {v : Value} {cs : List Value} {el u : TypeId} {ts : Array TypeId} (hB : Row e kk v n cs B) (hx : ρ x = v) (ht : ts[0]? = some u) (hu : P.underlying u = some (.slice el)) : Y P W M L ρ (.call { callee := .builtin .len, args := #[x], argTypes := ts }) ty (.int .i64 n) := by
  cases hB with
  | nil => exact Y_len hx ht hu
  | some => exact Y_len hx ht hu
theorem Row.some_of {e kk n : Nat} {v : Value} {cs : List Value} {B : List Bk} (h : Row e kk v n cs B) (h0 : 0 < n) : ∃ g cap, v = .slice (Option.some ⟨g, 0, none⟩) n cap ∧ B = [⟨g, e, kk, cap, cs⟩] ∧ n ≤ cap := by
  cases h with
  | nil => omega
  | some h1 h2 => exact ⟨_, _, rfl, rfl, h1⟩
theorem Row.nodup {e kk n : Nat} {v : Value} {cs : List Value} {B : List Bk} (h : Row e kk v n cs B) : (B.map (·.b)).Nodup := by cases h <;> simp
theorem Row.one {e kk n : Nat} {v : Value} {cs : List Value} {B : List Bk} (h : Row e kk v n cs B) : v.oneCell' = true := by cases h <;> rfl
theorem Row.len {e kk n : Nat} {v : Value} {cs : List Value} {B : List Bk} (h : Row e kk v n cs B) : cs.length = n * kk := by
  cases h with
  | nil => simp
  | some h1 h2 => exact h2
theorem Y_min {P : Program} {W : World} {M : List Nat} {L : List Bk} {ρ : Operand → Value} {x y : Operand} {ty : TypeId} {ts : Array TypeId} {k : IntKind} {a b : Int} (hx : ρ x = .int k a) (hy : ρ y = .int k b) : Y P W M L ρ (.call { callee := .builtin .min, args := #[x, y], argTypes := ts }) ty (.int k (min a b)) := fun w _ o ho hty => by
  unfold execOp
  rw [ho]
  simp [resolve, invoke, builtin, Builtin.min_, Builtin.min2, hx, hy]
  rw [Int.min_def]
  split <;> split <;> omega
theorem Y_max {P : Program} {W : World} {M : List Nat} {L : List Bk} {ρ : Operand → Value} {x y : Operand} {ty : TypeId} {ts : Array TypeId} {k : IntKind} {a b : Int} (hx : ρ x = .int k a) (hy : ρ y = .int k b) : Y P W M L ρ (.call { callee := .builtin .max, args := #[x, y], argTypes := ts }) ty (.int k (max a b)) := fun w _ o ho hty => by
  unfold execOp
  rw [ho]
  simp [resolve, invoke, builtin, Builtin.max_, Builtin.max2, hx, hy]
  rw [Int.max_def]
  split <;> split <;> omega
/-- 'append([]T{}, xs...)'. -/
theorem N_appE {P : Program} {W : World} {M : List Nat} {L R : List Bk} {ρ : Operand → Value} {x y : Operand} {ty : TypeId} {b cap m c2 e kk bytes : Nat} {a2 : Addr} {z : Value} {u : TypeId} {news : List Value} (hx : ρ x = .slice (some ⟨b, 0, none⟩) 0 cap) (hy : ρ y = .slice (some a2) m c2) (hu : P.underlying u = some (.slice e)) (hi : (P.info? e).map (fun i => (i.zero, i.size, i.bytes)) = some (some z, kk, bytes))
    (hz : z.cells.size = kk) (hk : 0 < kk) (hs : Sel ⟨b, e, kk, cap, []⟩ L R) (hr : ∀ w, Has W M L w → ∀ j u, news[j]? = some u → w.cell? (a2.add j) = some u) (hl : news.length = m * kk) (h1 : ∀ u ∈ news, u.oneCell' = true)
    (h63 : m ≤ 140737488355328) (hb : m * bytes ≤ 140737488355328) :
    N P W M L ρ (.call { callee := .builtin .append, args := #[x, y], argTypes := #[u, u] }) ty (fun p : Nat × Nat => m ≤ p.2) (fun p => .slice (some ⟨p.1, 0, none⟩) m p.2) (fun p => ⟨p.1, e, kk, p.2, news⟩ :: R) := fun w hw o ho ht => by
  obtain ⟨p, w', h1', h2, h3⟩ := N_app (cs := []) hx hy hu hi hz hk hs (by simp) (Nat.zero_le _) hr hl h1 (by omega) (by simpa using hb) w hw o ho ht
  exact ⟨p, w', by simpa using h1', by simpa using h2, by simpa using h3⟩
def xr (x y : Int) : Int := IntKind.u64.wrap ((BitVec.ofInt 64 x ^^^ BitVec.ofInt 64 y).toNat : Int)
theorem Y_xr {P : Program} {W : World} {M : List Nat} {L : List Bk} {ρ : Operand → Value} {x y : Operand} {ty t t' : TypeId} {a b : Int} (hx : ρ x = .int .u64 a) (hy : ρ y = .int .u64 b) : Y P W M L ρ (.binOp .xor t x y t') ty (.int .u64 (xr a b)) := Y_bits hx hy rfl (.inr (.inr (.inl rfl)))
/-- A slice that is read: where it lies, and what. -/
structure SlB (W : World) (b o n c k : Nat) (cs : List Value) : Prop where
  len : cs.length = n * k
  cap : n ≤ c
  big : c ≤ maxLen
  lt : b < W.heap.size
  ro : Ro W b o cs
section
variable {W w : World} {M : List Nat} {L : List Bk} {b o n c k : Nat} {cs : List Value}
theorem SlB.has (h : SlB W b o n c k cs) (hH : Has W M L w) (hM : b ∉ M := by simp) : SlB w b o n c k cs := ⟨h.len, h.cap, h.big, Nat.lt_of_lt_of_le h.lt hH.size, hH.ro h.ro hM⟩
theorem SlB.at' {α : Type} {f : α → List Value} {l : List α} (hk : ∀ a, (f a).length = k) (h : SlB W b o n c k (l.flatMap f)) {i : Nat} {a : α} (hi : l[i]? = some a) : Ro W b (o + i * k) (f a) := fun j v hj => by
  rw [Nat.add_assoc]; exact h.ro _ _ (fl_get hk hi hj)
theorem Bk.holds.sl {t cap : Nat} (h : (⟨b, t, k, cap, cs⟩ : Bk).holds w) (hl : cs.length = n * k) (hn : n ≤ cap) : SlB w b 0 n cap k cs := by
  refine ⟨hl, hn, ?_, h.lt, h.ro⟩
  obtain ⟨cur, h1, h2, h3, h4⟩ := h
  exact h3
theorem SlB.src (h : SlB W b o n c k cs) : ∀ w, Has W [] L w → ∀ j u, cs[j]? = some u → w.cell? ((⟨b, o, none⟩ : Addr).add j) = some u := fun w hw j u hu => by
  rw [Addr.add_mid]; exact hw.ro h.ro (by simp) j u hu
theorem ro_take {cs' : List Value} (h : Ro W b o cs) (hp : cs' <+: cs) : Ro W b o cs' := fun j v hj => by
  obtain ⟨t, rfl⟩ := hp
  exact h j v (by rw [List.getElem?_append_left (List.getElem?_eq_some_iff.1 hj).1]; exact hj)
end
/-- An entity. -/
structure Ent where
  kind : Int
  gen : Int
  seat : Int
  x : Int
  y : Int
  hp : Int
  max : Int
  atk : Int
  df : Int
  poison : Int
  stun : Int
def Ent.cells (e : Ent) : List Value := [iv e.kind, iv e.gen, iv e.seat, iv e.x, iv e.y, iv e.hp, iv e.max, iv e.atk, iv e.df, iv e.poison, iv e.stun]
theorem Ent.len (e : Ent) : e.cells.length = 11 := rfl
def ecells (l : List Ent) : List Value := l.flatMap Ent.cells
abbrev Ent.zero : Ent := ⟨0, 0, 0, 0, 0, 0, 0, 0, 0, 0, 0⟩
structure Itm where
  kind : Int
  whr : Int
  a : Int
  b : Int
def Itm.cells (x : Itm) : List Value := [iv x.kind, iv x.whr, iv x.a, iv x.b]
theorem Itm.len (x : Itm) : x.cells.length = 4 := rfl
def icells (l : List Itm) : List Value := l.flatMap Itm.cells
abbrev Itm.zero : Itm := ⟨0, 0, 0, 0⟩
theorem ecells_len (l : List Ent) : (ecells l).length = l.length * 11 := fl_len Ent.len l
theorem icells_len (l : List Itm) : (icells l).length = l.length * 4 := fl_len Itm.len l
theorem one_fl {α : Type} {c : α → List Value} (h : ∀ a, (c a).all (·.oneCell') = true) (l : List α) : ∀ u ∈ l.flatMap c, u.oneCell' = true := fun u hu => by
  obtain ⟨a, _, ha⟩ := List.mem_flatMap.1 hu
  exact List.all_eq_true.1 (h a) u ha
theorem ecells_snoc (l : List Ent) (e : Ent) : ecells l ++ e.cells = ecells (l ++ [e]) := by simp [ecells]
theorem icells_snoc (l : List Itm) (x : Itm) : icells l ++ x.cells = icells (l ++ [x]) := by simp [icells]
theorem one_e1 (e : Ent) : ∀ u ∈ e.cells, u.oneCell' = true := fun u hu => List.all_eq_true.1 (show e.cells.all (·.oneCell') = true from rfl) u hu
theorem one_i1 (x : Itm) : ∀ u ∈ x.cells, u.oneCell' = true := fun u hu => List.all_eq_true.1 (show x.cells.all (·.oneCell') = true from rfl) u hu
theorem one_e (l : List Ent) : ∀ u ∈ ecells l, u.oneCell' = true := one_fl (fun _ => rfl) l
theorem one_i (l : List Itm) : ∀ u ∈ icells l, u.oneCell' = true := one_fl (fun _ => rfl) l
section
variable {l : List Ent} {i j : Nat} {e e' : Ent} {v : Value} {r : List Itm} {x x' : Itm}
theorem eget (h : l[i]? = some e) (hj : e.cells[j]? = some v) : (ecells l)[0 + i * 11 + j]? = some v := by rw [Nat.zero_add]; exact fl_get Ent.len h hj
theorem iget (h : r[i]? = some x) (hj : x.cells[j]? = some v) : (icells r)[0 + i * 4 + j]? = some v := by rw [Nat.zero_add]; exact fl_get Itm.len h hj
theorem egetN (h : l[i]? = some e) : ∀ j v, e.cells[j]? = some v → (ecells l)[0 + i * 11 + j]? = some v := fun _ _ hj => eget h hj
theorem igetN (h : r[i]? = some x) : ∀ j v, x.cells[j]? = some v → (icells r)[0 + i * 4 + j]? = some v := fun _ _ hj => iget h hj
theorem eset (e' : Ent) (h : l[i]? = some e) (hc : e.cells.set j v = e'.cells) (hj : Nat.blt j 11 = true) : (ecells l).set (0 + i * 11 + j) v = ecells (l.set i e') := by rw [Nat.zero_add]; exact fl_set Ent.len h hc (by simpa using hj)
theorem iset (x' : Itm) (h : r[i]? = some x) (hc : x.cells.set j v = x'.cells) (hj : Nat.blt j 4 = true) : (icells r).set (0 + i * 4 + j) v = icells (r.set i x') := by rw [Nat.zero_add]; exact fl_set Itm.len h hc (by simpa using hj)
theorem eall (e' : Ent) (h : i < l.length) : setAll (ecells l) (0 + i * 11) e'.cells = ecells (l.set i e') := by rw [Nat.zero_add]; exact fl_all Ent.len h e'
theorem iall (x' : Itm) (h : i < r.length) : setAll (icells r) (0 + i * 4) x'.cells = icells (r.set i x') := by rw [Nat.zero_add]; exact fl_all Itm.len h x'
end
/-- Four numbers. -/
structure Four where
  a : Int
  b : Int
  c : Int
  d : Int
def Four.get (g : Four) : Nat → Int
  | 0 => g.a
  | 1 => g.b
  | 2 => g.c
  | _ => g.d
def Four.set (g : Four) (v : Int) : Nat → Four
  | 0 => { g with a := v }
  | 1 => { g with b := v }
  | 2 => { g with c := v }
  | _ => { g with d := v }
/-- A world. -/
structure Wd where
  seed : Int
  frame : Int
  floor : Int
  state : Int
  cells : List UInt8
  ents : List Ent
  items : List Itm
  gold : Four
/-- Where its rows lie: block, begin, room. -/
structure Ws where
  cb : Nat
  co : Nat
  cc : Nat
  eb : Nat
  eo : Nat
  ec : Nat
  ib : Nat
  io : Nat
  ic : Nat
def wv (d : Wd) (s : Ws) : List Value := [iv d.seed, iv d.frame, iv d.floor, iv d.state, .slice (some ⟨s.cb, s.co, none⟩) d.cells.length s.cc, .slice (some ⟨s.eb, s.eo, none⟩) d.ents.length s.ec, .slice (some ⟨s.ib, s.io, none⟩) d.items.length s.ic, iv d.gold.a, iv d.gold.b, iv d.gold.c, iv d.gold.d]
structure WAt (W : World) (d : Wd) (s : Ws) : Prop where
  c : SlB W s.cb s.co d.cells.length s.cc 1 (d.cells.map bv)
  e : SlB W s.eb s.eo d.ents.length s.ec 11 (ecells d.ents)
  i : SlB W s.ib s.io d.items.length s.ic 4 (icells d.items)
theorem WAt.has {W w : World} {L : List Bk} {d : Wd} {s : Ws} (h : WAt W d s) (hH : Has W [] L w) : WAt w d s := ⟨h.c.has hH, h.e.has hH, h.i.has hH⟩
/-- The lowest place where something is so; -1: there is none. -/
def fnd {α : Type} (p : α → Bool) : List α → Nat → Int
  | [], _ => -1
  | a :: r, i => if p a then (i : Int) else fnd p r (i + 1)
theorem fnd_step {α : Type} {p : α → Bool} {l : List α} {i : Nat} {a : α} (h : l[i]? = some a) (hp : p a = false) : fnd p (l.drop i) i = fnd p (l.drop (i + 1)) (i + 1) := by
  obtain ⟨hi, rfl⟩ := List.getElem?_eq_some_iff.1 h
  rw [List.drop_eq_getElem_cons hi, fnd, hp]; simp
theorem fnd_here {α : Type} {p : α → Bool} {l : List α} {i : Nat} {a : α} (h : l[i]? = some a) (hp : p a = true) : fnd p (l.drop i) i = i := by
  obtain ⟨hi, rfl⟩ := List.getElem?_eq_some_iff.1 h
  rw [List.drop_eq_getElem_cons hi, fnd, hp]; simp
theorem fnd_end {α : Type} {p : α → Bool} {l : List α} {i : Nat} (h : l.length ≤ i) : fnd p (l.drop i) i = -1 := by
  rw [List.drop_eq_nil_of_le h]; rfl
theorem fnd_lt {α : Type} {p : α → Bool} : ∀ (l : List α) (i : Nat), fnd p l i < 0 ∨ ∃ (j : Nat) (a : α), fnd p l i = (i + j : Nat) ∧ l[j]? = some a ∧ p a = true
  | [], i => .inl (by simp [fnd])
  | a :: r, i => by
    by_cases h : p a = true
    · exact .inr ⟨0, a, by simp [fnd, h], rfl, h⟩
    · rw [Bool.not_eq_true] at h
      rcases fnd_lt r (i + 1) with h1 | ⟨j, b, h1, h2, h3⟩
      · exact .inl (by simpa [fnd, h] using h1)
      · exact .inr ⟨j + 1, b, by rw [fnd, h]; simp only [Bool.false_eq_true, if_false]; rw [h1]; congr 1; omega, by simpa using h2, h3⟩
theorem fnd_take {α : Type} {p : α → Bool} : ∀ {l : List α} {i k : Nat} {a : α}, l[i]? = some a → p a = true → (fnd p l k = ((k + i : Nat) : Int) ↔ fnd p (l.take i) k < 0)
  | b :: r, 0, k, a, h, hp => by
    simp only [List.getElem?_cons_zero, Option.some.injEq] at h
    subst h
    simp [fnd, hp]
  | b :: r, i + 1, k, a, h, hp => by
    simp only [List.getElem?_cons_succ] at h
    simp only [List.take_succ_cons, fnd]
    by_cases hb : p b = true
    · simp only [hb, if_true]; omega
    · rw [Bool.not_eq_true] at hb
      simp only [hb, Bool.false_eq_true, if_false]
      have := fnd_take (k := k + 1) h hp
      rw [← this]
      constructor <;> intro h1 <;> (rw [h1]; congr 1; omega)
theorem take_lt {α : Type} {l : List α} {i : Nat} (h : i < l.length) : ∃ a, l[i]? = some a := ⟨l[i], List.getElem?_eq_getElem h⟩
end Go.Ad
