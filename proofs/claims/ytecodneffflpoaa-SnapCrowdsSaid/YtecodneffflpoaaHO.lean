/- The operations, one rule each, over a state of blocks that are known. -/
import Derived.Test.YtecodneffflpoaaH
namespace Go.Ad
open Go.RowKit Go.Maps
section
variable {P : Program} {W : World} {M : List Nat} {L L' : List Bk} {ρ : Operand → Value} {x y c : Operand} {ty t t' : TypeId} {v : Value} {k : IntKind} {a b : Int}
theorem Y_of (h : ∀ w, Has W M L w → ∀ o : Oper, o.op = .move x → (execOp ρ o).run P w = .ok (.value v) w) : Y P W M L ρ (.move x) ty v := fun w hw o ho _ => h w hw o ho
theorem Y_move (h : ρ x = v) : Y P W M L ρ (.move x) ty v := fun w _ o ho _ => by
  unfold execOp; rw [ho]; simp [h]
inductive Gt : Ov → List Value → Nat → Value → Prop
  | here {d : Nat} {v : Value} {ov : Ov} {base : List Value} : Gt ((d, v) :: ov) base d v
  | there {k d : Nat} {u v : Value} {ov : Ov} {base : List Value} (h : Nat.beq k d = false) (g : Gt ov base d v) : Gt ((k, u) :: ov) base d v
  | base {d : Nat} {v : Value} {base : List Value} (h : base[d]? = some v) : Gt [] base d v
theorem Gt.eq {ov : Ov} {base : List Value} {d : Nat} (h : Gt ov base d v) : ov.get base d = v := by
  induction h with
  | here => simp only [Ov.get]; rw [show Nat.beq _ _ = true from by simp]; rfl
  | there h _ ih => simp only [Ov.get, h, cond_false]; exact ih
  | base h => simp [Ov.get, List.getD_eq_getElem?_getD, h]
theorem Y_mv {ov : Ov} {base : List Value} {d : Nat} (h : Gt ov base d v := by repeat (first | exact Gt.here | apply Gt.there (by rfl) | exact Gt.base (by rfl))) : Y P W M L (ev ov base) (.move (.tmp d)) ty v := Y_move h.eq
theorem Y_as {ov : Ov} {base : List Value} {d : Nat} (h : Gt ov base d v := by repeat (first | exact Gt.here | apply Gt.there (by rfl) | exact Gt.base (by rfl))) : Y P W M L (ev ov base) (.assign (.tmp d)) ty v := fun w _ o ho _ => by
  unfold execOp; rw [ho]; simp [ev, h.eq]
theorem Y_assign (h : ρ x = v) : Y P W M L ρ (.assign x) ty v := fun w _ o ho _ => by
  unfold execOp; rw [ho]; simp [h]
theorem Y_pick {p q : Operand} {u : Bool} (hc : ρ c = .bool u) {v1 v2 : Value} (h1 : ρ p = v1) (h2 : ρ q = v2) : Y P W M L ρ (.pick c p q) ty (if u then v1 else v2) := fun w _ o ho _ => by
  unfold execOp; rw [ho]; simp only [hc, asBool, Sem.run_bind, Sem.run_pure, Result.andThen_ok, h1, h2]
theorem bin_run {op : BinOp} {xt yt : TypeId} (h : (binOp op xt (.int k a) (.int k b)).run P = fun w => .ok v w) (hx : ρ x = .int k a) (hy : ρ y = .int k b) : Y P W M L ρ (.binOp op xt x y yt) ty v := fun w _ o ho _ => by
  unfold execOp
  rw [ho]
  simp only [hx, hy, Sem.run_bind]
  have he : (eqGuard op xt x y (.int k a) (.int k b)).run P w = .ok () w := by
    unfold eqGuard
    cases op <;> rfl
  rw [he]
  simp only [Result.andThen_ok, h, Sem.run_pure]
theorem Y_addw (hx : ρ x = .int k a) (hy : ρ y = .int k b) : Y P W M L ρ (.binOp .add t x y t') ty (.int k (k.wrap (a + b))) := bin_run (by simp [binOp, Op.intArith]; rfl) hx hy
theorem Y_subw (hx : ρ x = .int k a) (hy : ρ y = .int k b) : Y P W M L ρ (.binOp .sub t x y t') ty (.int k (k.wrap (a - b))) := bin_run (by simp [binOp, Op.intArith]; rfl) hx hy
theorem Y_mulw (hx : ρ x = .int k a) (hy : ρ y = .int k b) : Y P W M L ρ (.binOp .mul t x y t') ty (.int k (k.wrap (a * b))) := bin_run (by simp [binOp, Op.intArith]; rfl) hx hy
theorem Y.num {op : Op} {n m : Int} (h : Y P W M L ρ op ty (.int k n)) (e : n = m) : Y P W M L ρ op ty (.int k m) := e ▸ h
theorem i64_id {n : Int} (h : -9223372036854775808 ≤ n ∧ n ≤ 9223372036854775807) : IntKind.i64.wrap n = n := by rw [IntKind.wrap_i64]; omega
theorem Y_add (hx : ρ x = .int .i64 a) (hy : ρ y = .int .i64 b) (h : -9223372036854775808 ≤ a + b ∧ a + b ≤ 9223372036854775807) : Y P W M L ρ (.binOp .add t x y t') ty (.int .i64 (a + b)) := (Y_addw hx hy).num (i64_id h)
theorem Y_sub (hx : ρ x = .int .i64 a) (hy : ρ y = .int .i64 b) (h : -9223372036854775808 ≤ a - b ∧ a - b ≤ 9223372036854775807) : Y P W M L ρ (.binOp .sub t x y t') ty (.int .i64 (a - b)) := (Y_subw hx hy).num (i64_id h)
theorem Y_mul (hx : ρ x = .int .i64 a) (hy : ρ y = .int .i64 b) (h : -9223372036854775808 ≤ a * b ∧ a * b ≤ 9223372036854775807) : Y P W M L ρ (.binOp .mul t x y t') ty (.int .i64 (a * b)) := (Y_mulw hx hy).num (i64_id h)
theorem Y_quow (hx : ρ x = .int k a) (hy : ρ y = .int k b) (hb : b ≠ 0) : Y P W M L ρ (.binOp .quo t x y t') ty (.int k (k.wrap (a.tdiv b))) := bin_run (by simp [binOp, Op.intDiv, hb]; rfl) hx hy
theorem Y_remw (hx : ρ x = .int k a) (hy : ρ y = .int k b) (hb : b ≠ 0) : Y P W M L ρ (.binOp .rem t x y t') ty (.int k (a.tmod b)) := bin_run (by simp [binOp, Op.intDiv, hb]; rfl) hx hy
theorem Y_quo (hx : ρ x = .int .i64 a) (hy : ρ y = .int .i64 b) (h : 0 ≤ a ∧ a ≤ 9223372036854775807 ∧ 0 < b) : Y P W M L ρ (.binOp .quo t x y t') ty (.int .i64 (a / b)) :=
  (Y_quow hx hy (by omega)).num (by
    rw [Int.tdiv_eq_ediv_of_nonneg h.1]
    have h1 := Int.ediv_nonneg h.1 (show 0 ≤ b by omega)
    have h2 := Int.ediv_le_self b h.1
    exact i64_id (by omega))
theorem Y_rem (hx : ρ x = .int k a) (hy : ρ y = .int k b) (h : 0 ≤ a ∧ 0 < b) : Y P W M L ρ (.binOp .rem t x y t') ty (.int k (a % b)) :=
  (Y_remw hx hy (by omega)).num (Int.tmod_eq_emod_of_nonneg h.1)
theorem Y_eql (hx : ρ x = .int k a) (hy : ρ y = .int k b) : Y P W M L ρ (.binOp .eql t x y t') ty (.bool (decide (a = b))) := bin_run (by simp [binOp, Op.intCmp]; rfl) hx hy
theorem Y_neq (hx : ρ x = .int k a) (hy : ρ y = .int k b) : Y P W M L ρ (.binOp .neq t x y t') ty (.bool (decide (a ≠ b))) := bin_run (by simp [binOp, Op.intCmp, bne, BEq.beq]; rfl) hx hy
theorem Y_lss (hx : ρ x = .int k a) (hy : ρ y = .int k b) : Y P W M L ρ (.binOp .lss t x y t') ty (.bool (decide (a < b))) := bin_run (by simp [binOp, Op.intCmp]; rfl) hx hy
theorem Y_leq (hx : ρ x = .int k a) (hy : ρ y = .int k b) : Y P W M L ρ (.binOp .leq t x y t') ty (.bool (decide (a ≤ b))) := bin_run (by simp [binOp, Op.intCmp]; rfl) hx hy
theorem Y_gtr (hx : ρ x = .int k a) (hy : ρ y = .int k b) : Y P W M L ρ (.binOp .gtr t x y t') ty (.bool (decide (a > b))) := bin_run (by simp [binOp, Op.intCmp]; rfl) hx hy
theorem Y_geq (hx : ρ x = .int k a) (hy : ρ y = .int k b) : Y P W M L ρ (.binOp .geq t x y t') ty (.bool (decide (a ≥ b))) := bin_run (by simp [binOp, Op.intCmp]; rfl) hx hy
theorem shl_run {j : IntKind} {op : BinOp} (hs : op = .shl ∨ op = .shr) (h : (Op.shift op k a j b).run P = fun w => .ok v w) (hx : ρ x = .int k a) (hy : ρ y = .int j b) : Y P W M L ρ (.binOp op t x y t') ty v := fun w _ o ho _ => by
  unfold execOp
  rw [ho]
  simp only [hx, hy, Sem.run_bind]
  have he : (eqGuard op t x y (.int k a) (.int j b)).run P w = .ok () w := by
    unfold eqGuard
    cases op <;> rfl
  rw [he]
  rcases hs with rfl | rfl <;> simp only [Result.andThen_ok, binOp, h, Sem.run_pure]
theorem Y_shl {j : IntKind} (hx : ρ x = .int k a) (hy : ρ y = .int j b) (hb : 0 ≤ b) : Y P W M L ρ (.binOp .shl t x y t') ty (.int k (k.wrap (a * 2 ^ min b.toNat k.bits))) := shl_run (.inl rfl) (by simp [Op.shift, show ¬ b < 0 by omega]; rfl) hx hy
theorem Y_shr {j : IntKind} (hx : ρ x = .int k a) (hy : ρ y = .int j b) (hb : 0 ≤ b) : Y P W M L ρ (.binOp .shr t x y t') ty (.int k (a.fdiv (2 ^ min b.toNat k.bits))) := shl_run (.inr rfl) (by simp [Op.shift, show ¬ b < 0 by omega]; rfl) hx hy
theorem Y_bits {op : BinOp} (hx : ρ x = .int k a) (hy : ρ y = .int k b) (h : (Op.intBits op k a b).run P = fun w => .ok v w) (ho : op = .and ∨ op = .or ∨ op = .xor ∨ op = .andNot) : Y P W M L ρ (.binOp op t x y t') ty v :=
  bin_run (by rcases ho with rfl | rfl | rfl | rfl <;> simpa [binOp] using h) hx hy
theorem Y_not {u : Bool} (hx : ρ x = .bool u) : Y P W M L ρ (.unOp .not t x) ty (.bool (!u)) := fun w _ o ho _ => by
  unfold execOp; rw [ho]; simp [hx, Op.unary]
theorem Y_neg (hx : ρ x = .int k a) : Y P W M L ρ (.unOp .neg t x) ty (.int k (k.wrap (0 - a))) := fun w _ o ho _ => by
  unfold execOp; rw [ho]; simp [hx, Op.unary, Op.intArith]
theorem Y_convw {src dst : TypeId} {j : IntKind} {d : TypeDesc} (hx : ρ x = .int k a) (hs : P.underlying src = some d) (hd : P.underlying dst = some (.int j)) : Y P W M L ρ (.convert src dst x) ty (.int j (j.wrap a)) := fun w _ o ho _ => by
  unfold execOp
  simp only [ho, hx, convert, Sem.run_bind, run_underlying hs, run_underlying hd, Result.andThen_ok]
  cases d <;> simp [Conv.intToInt]
theorem Y_conv {src dst : TypeId} {j : IntKind} {d : TypeDesc} (hx : ρ x = .int k a) (hs : P.underlying src = some d) (hd : P.underlying dst = some (.int j)) (h : j.wrap a = a) : Y P W M L ρ (.convert src dst x) ty (.int j a) := (Y_convw hx hs hd).num h
theorem Y_extract {vs : Array Value} {i : Nat} (hx : ρ x = .tuple vs) (hv : vs[i]? = some v) : Y P W M L ρ (.extract x i) ty v := fun w _ o ho _ => by
  unfold execOp; rw [ho]; simp [hx, Instr.extract, hv]
theorem Y_nil {ad : Addr} (hx : ρ x = .pointer (some ad)) : Y P W M L ρ (.nilCheck x) ty (.pointer (some ad)) := fun w _ o ho _ => by
  unfold execOp; rw [ho]; simp [hx]
def aggD : TypeDesc → Bool
  | .struct _ | .array _ _ => true
  | _ => false
theorem x_load {w : World} {o : Oper} {p : Value} {u : TypeId} (ho : o.op = .load u x) (hx : ρ x = p) (h : (Instr.loadAt u p).run P w = .ok v w) : (execOp ρ o).run P w = .ok (.value v) w := by
  unfold execOp
  simp only [ho, hx, Sem.run_bind, h, Result.andThen_ok, Sem.run_pure]
theorem x_store {w w' : World} {o : Oper} {p : Value} {u : TypeId} (ho : o.op = .store u x y) (hx : ρ x = p) (hy : ρ y = v) (h : (Instr.storeAt u p v).run P w = .ok () w') : (execOp ρ o).run P w = .ok .skip w' := by
  unfold execOp
  simp only [ho, hx, hy, Sem.run_bind, h, Result.andThen_ok, Sem.run_pure]
theorem x_alloc {w : World} {o : Oper} {z : Value} {u : TypeId} (ho : o.op = .alloc u) (hz : (zeroValue u).run P w = .ok z w) : (execOp ρ o).run P w = .ok (.value (.pointer (some ⟨w.heap.size, 0, none⟩))) (w.alloc (.cells z.cells u)) := by
  unfold execOp
  simp [ho, Instr.alloc, hz, newVar, newRow, Result.andThen]
theorem run_isAgg {d : TypeDesc} (h : P.underlying t = some d) (w : World) : (isAgg t).run P w = .ok (aggD d) w := by
  unfold isAgg
  simp only [Sem.run_bind, run_underlying h, Result.andThen_ok]
  cases d <;> rfl
/-- A type whose variables have one cell. -/
def Cel1 (P : Program) (t : TypeId) : Prop := ∃ d, P.underlying t = some d ∧ aggD d = false
theorem Cel1.mk {d : TypeDesc} (h : P.underlying t = some d) (hd : aggD d = false) : Cel1 P t := ⟨d, h, hd⟩
/-- .. or so many. -/
def CelN (P : Program) (t : TypeId) (n : Nat) : Prop := (∃ d, P.underlying t = some d ∧ aggD d = true) ∧ (P.info? t).map (·.size) = some n
theorem CelN.mk {d : TypeDesc} {n : Nat} (h : P.underlying t = some d) (hi : (P.info? t).map (·.size) = some n) (hd : aggD d = true) : CelN P t n := ⟨⟨d, h, hd⟩, hi⟩
theorem run_size {n : Nat} (hi : (P.info? t).map (·.size) = some n) (w : World) : (sizeOf t).run P w = .ok n w := by
  unfold sizeOf typeInfo
  cases h : P.info? t with
  | none => simp [h] at hi
  | some i =>
    simp [h] at hi
    simp [h, hi]
/-! ### Memory -/
theorem run_load1 {w : World} {ad : Addr} (ht : Cel1 P ty) (h : w.cell? ad = some v) : (Instr.loadAt ty (.pointer (some ad))).run P w = .ok v w := by
  obtain ⟨d, h1, h2⟩ := ht
  simp only [Instr.loadAt, Instr.sureAddr, Sem.run_bind, Sem.run_pure, Result.andThen_ok, loadVar, run_isAgg h1, h2]
  simp [load, Sem.run, h]
theorem Y_load {b' j kk cap : Nat} {tt : TypeId} {cs : List Value} {u : TypeId} (hx : ρ x = .pointer (some ⟨b', j, none⟩)) (ht : Cel1 P u) (hm : ⟨b', tt, kk, cap, cs⟩ ∈ L) (hv : cs[j]? = some v) : Y P W M L ρ (.load u x) ty v := fun w hw o ho _ =>
  x_load ho hx (run_load1 ht ((hw.at' hm).cell hv))
theorem Y_loadR {b' j off i : Nat} {cs : List Value} {u : TypeId} (hx : ρ x = .pointer (some ⟨b', j, none⟩)) (ht : Cel1 P u) (hr : Ro W b' off cs) (hj : j = off + i) (hv : cs[i]? = some v) (hM : b' ∉ M := by simp) : Y P W M L ρ (.load u x) ty v := fun w hw o ho _ =>
  x_load ho hx (run_load1 ht (by rw [hj]; exact hw.ro hr hM i v hv))
theorem run_loadN {w : World} {b' j n : Nat} (ht : CelN P ty n) {vs : List Value} (hl : vs.length = n) (h : Ro w b' j vs) : (Instr.loadAt ty (.pointer (some ⟨b', j, none⟩))).run P w = .ok (.agg vs.toArray) w := by
  obtain ⟨⟨d, h1, h2⟩, h3⟩ := ht
  simp only [Instr.loadAt, Instr.sureAddr, Sem.run_bind, Sem.run_pure, Result.andThen_ok, loadVar, run_isAgg h1, h2, if_true, run_size h3]
  have := run_loadCells_list (P := P) w ⟨b', j, none⟩ vs (fun i v hv => by rw [Addr.add_mid]; exact h i v hv)
  rw [← hl, this]
  rfl
theorem Y_loadN {b' j kk cap n : Nat} {tt : TypeId} {cs vs : List Value} {u : TypeId} (hx : ρ x = .pointer (some ⟨b', j, none⟩)) (ht : CelN P u n) (hm : ⟨b', tt, kk, cap, cs⟩ ∈ L) (hl : vs.length = n) (hv : ∀ i v, vs[i]? = some v → cs[j + i]? = some v) : Y P W M L ρ (.load u x) ty (.agg vs.toArray) := fun w hw o ho _ =>
  x_load ho hx (run_loadN ht hl (fun i v h => (hw.at' hm).cell (hv i v h)))
theorem Y_loadNR {b' j n : Nat} {vs : List Value} {u : TypeId} (hx : ρ x = .pointer (some ⟨b', j, none⟩)) (ht : CelN P u n) (hr : Ro W b' j vs) (hl : vs.length = n) (hM : b' ∉ M := by simp) : Y P W M L ρ (.load u x) ty (.agg vs.toArray) := fun w hw o ho _ =>
  x_load ho hx (run_loadN ht hl (hw.ro hr hM))
/-- All of a block. -/
theorem Y_loadAll {b' kk cap n : Nat} {tt : TypeId} {cs : List Value} {u : TypeId} (hx : ρ x = .pointer (some ⟨b', 0, none⟩)) (ht : CelN P u n) (hm : ⟨b', tt, kk, cap, cs⟩ ∈ L) (hl : cs.length = n) : Y P W M L ρ (.load u x) ty (.agg cs.toArray) :=
  Y_loadN hx ht hm hl (fun i v h => by rw [Nat.zero_add]; exact h)
theorem run_store1 {w : World} {b' j : Nat} {u : Value} (hi : (P.info? ty).map (·.size) = some 1) (h1 : u.oneCell' = true) (hc : ∃ v, w.cell? ⟨b', j, none⟩ = some v) (hf : w.frozen? ⟨b', j, none⟩ = false) :
    (Instr.storeAt ty (.pointer (some ⟨b', j, none⟩)) u).run P w = .ok () (w.setCell ⟨b', j, none⟩ u) := by
  obtain ⟨v, hc⟩ := hc
  have hcells : u.cells = #[u] := by cases u <;> simp_all [Value.cells, Value.oneCell']
  simp only [Instr.storeAt, Instr.sureAddr, Sem.run_bind, Sem.run_pure, Result.andThen_ok, storeVar, run_size hi, hcells]
  have hadd : (⟨b', j, none⟩ : Addr).add 0 = ⟨b', j, none⟩ := rfl
  simp only [List.size_toArray, List.length_cons, List.length_nil, Nat.zero_add, ne_eq, not_true_eq_false, if_false, Sem.run_pure, storeCells, hadd]
  cases u <;> simp_all [store, Sem.run, Value.oneCell', Result.andThen]
theorem S_store {b' j kk cap : Nat} {tt : TypeId} {cs cs' : List Value} {u : TypeId} (hx : ρ x = .pointer (some ⟨b', j, none⟩)) (hy : ρ y = v) (hi : (P.info? u).map (·.size) = some 1) (h1 : v.oneCell' = true)
    (hu : Upd ⟨b', tt, kk, cap, cs⟩ ⟨b', tt, kk, cap, cs'⟩ L L') (hc : cs.set j v = cs') (hj : j < cs.length) : S P W M L ρ (.store u x y) ty L' := fun w hw o ho _ => by
  subst hc
  exact ⟨_, x_store ho hx hy (run_store1 hi h1 ⟨cs[j], (hw.at' hu.mem).cell (by simp [hj])⟩ ((hw.at' hu.mem).froz j)), hw.set hu⟩
theorem S_st {ov : Ov} {base : List Value} {d b' j kk cap : Nat} {tt : TypeId} {cs cs' : List Value} {u : TypeId} (hx : ev ov base x = .pointer (some ⟨b', j, none⟩)) (hy : Gt ov base d v) (hi : (P.info? u).map (·.size) = some 1) (h1 : v.oneCell' = true)
    (hu : Upd ⟨b', tt, kk, cap, cs⟩ ⟨b', tt, kk, cap, cs'⟩ L L') (hc : cs.set j v = cs') (hj : j < cs.length) : S P W M L (ev ov base) (.store u x (.tmp d)) ty L' := S_store hx hy.eq hi h1 hu hc hj
theorem S_stC {b' j kk cap : Nat} {tt : TypeId} {cs cs' : List Value} {u : TypeId} {ov : Ov} {base : List Value} (hx : ev ov base x = .pointer (some ⟨b', j, none⟩)) (hi : (P.info? u).map (·.size) = some 1) (h1 : v.oneCell' = true)
    (hu : Upd ⟨b', tt, kk, cap, cs⟩ ⟨b', tt, kk, cap, cs'⟩ L L') (hc : cs.set j v = cs') (hj : j < cs.length) : S P W M L (ev ov base) (.store u x (.const v)) ty L' := S_store hx rfl hi h1 hu hc hj
theorem Y_mvC {ov : Ov} {base : List Value} : Y P W M L (ev ov base) (.move (.const v)) ty v := Y_move rfl
theorem Y_asC {ov : Ov} {base : List Value} : Y P W M L (ev ov base) (.assign (.const v)) ty v := fun w _ o ho _ => by
  unfold execOp; rw [ho]; rfl
theorem i64_u8 (x : UInt8) : IntKind.i64.wrap (x.toNat : Int) = x.toNat := i64_id (by have := x.toNat_lt; omega)
theorem u64_u8 (x : UInt8) : IntKind.u64.wrap (x.toNat : Int) = x.toNat := by rw [IntKind.wrap_u64]; have := x.toNat_lt; omega
theorem u64_id {n : Int} (h : 0 ≤ n ∧ n < 18446744073709551616) : IntKind.u64.wrap n = n := by rw [IntKind.wrap_u64]; omega
theorem u8_id {n : Int} (h : 0 ≤ n ∧ n < 256) : IntKind.u8.wrap n = n := by rw [IntKind.wrap_u8]; omega
theorem u32_id {n : Int} (h : 0 ≤ n ∧ n < 4294967296) : IntKind.u32.wrap n = n := by rw [IntKind.wrap_u32]; omega
theorem N_alloc {z : Value} {cs : List Value} {u : TypeId} (hz : ∀ w, (zeroValue u).run P w = .ok z w) (hn : z.cells.toList = cs) : N P W M L ρ (.alloc u) ty (fun _ : Nat => True) (fun b => .pointer (some ⟨b, 0, none⟩)) (fun b => ⟨b, u, cs.length, 1, cs⟩ :: L) := fun w hw o ho _ => by
  subst hn
  exact ⟨w.heap.size, _, trivial, x_alloc ho (hz w), hw.alloc (by simp) (by unfold maxLen; omega)⟩
theorem N_box {cs : List Value} {u : TypeId} (hx : ρ x = .agg cs.toArray) : N P W M L ρ (.box u x) ty (fun _ : Nat => True) (fun b => .pointer (some ⟨b, 0, none⟩)) (fun b => ⟨b, u, cs.length, 1, cs⟩ :: L) := fun w hw o ho _ => by
  refine ⟨w.heap.size, w.alloc (.cells cs.toArray u), trivial, ?_, hw.alloc (c := cs.toArray) (by simp) (by unfold maxLen; omega)⟩
  unfold execOp
  simp [ho, Instr.box, hx, newVar, newRow, Value.cells, Result.andThen]
theorem N_box1 {u : TypeId} (hx : ρ x = v) (h1 : v.oneCell' = true) : N P W M L ρ (.box u x) ty (fun _ : Nat => True) (fun b => .pointer (some ⟨b, 0, none⟩)) (fun b => ⟨b, u, 1, 1, [v]⟩ :: L) := fun w hw o ho _ => by
  have hcells : v.cells = #[v] := by cases v <;> simp_all [Value.cells, Value.oneCell']
  refine ⟨w.heap.size, w.alloc (.cells #[v] u), trivial, ?_, hw.alloc (c := #[v]) (by simp) (by unfold maxLen; omega)⟩
  unfold execOp
  simp [ho, Instr.box, hx, newVar, newRow, hcells, Result.andThen]
theorem Y_fa {b' j i : Nat} {fs : Array Field} {f : Field} {n : Nat} {u : TypeId} (off : Nat) (hx : ρ x = .pointer (some ⟨b', j, none⟩)) (hu : P.underlying u = some (.struct fs)) (hf : fs[i]? = some f) (hs : (P.info? f.type).map (·.size) = some (n + 1)) (hoff : f.offset = off) : Y P W M L ρ (.fieldAddr u x i) ty (.pointer (some ⟨b', j + off, none⟩)) := fun w _ o ho _ => by
  subst hoff
  unfold execOp
  rw [ho]
  simp only [hx, Instr.fieldAt, Sem.run_bind, run_underlying hu, Result.andThen_ok, hf, Instr.sureAddr, Sem.run_pure, fieldPlace, run_size hs]
  simp [Addr.add_mid]
theorem Y_ia {b' off len cap n kk : Nat} {ik : IntKind} {z : Int} {e u : TypeId} {ix : Operand} (hx : ρ x = .slice (some ⟨b', off, none⟩) len cap) (hi : ρ ix = .int ik z) (hu : P.underlying u = some (.slice e)) (hs : (P.info? e).map (·.size) = some kk) (hz : z = (n : Int)) (hl : n < len) :
    Y P W M L ρ (.indexAddr u x ix) ty (.pointer (some ⟨b', off + n * kk, none⟩)) := fun w _ o ho _ => by
  unfold execOp
  rw [ho]
  subst hz
  have h1 : (0 : Int) ≤ (n : Int) ∧ (n : Int) < len := by omega
  simp only [hx, hi, Instr.indexAt, asIntOf, Sem.run_bind, Sem.run_pure, run_underlying hu, Result.andThen_ok, run_size hs, h1, and_self, if_true, Int.toNat_natCast, Addr.add_mid]
theorem Y.ptr {op : Op} {p q : Addr} (h : Y P W M L ρ op ty (.pointer (some p))) (e : p = q) : Y P W M L ρ op ty (.pointer (some q)) := e ▸ h
theorem Y_ia1 {b' off len cap n : Nat} {ik : IntKind} {z : Int} {e u : TypeId} {ix : Operand} (hx : ρ x = .slice (some ⟨b', off, none⟩) len cap) (hi : ρ ix = .int ik z) (hu : P.underlying u = some (.slice e)) (hs : (P.info? e).map (·.size) = some 1) (hz : z = (n : Int)) (hl : n < len) :
    Y P W M L ρ (.indexAddr u x ix) ty (.pointer (some ⟨b', off + n, none⟩)) := (Y_ia hx hi hu hs hz hl).ptr (by rw [Nat.mul_one])
theorem Y_iaA {b' off len n kk : Nat} {ik : IntKind} {z : Int} {e u : TypeId} {ix : Operand} (hx : ρ x = .pointer (some ⟨b', off, none⟩)) (hi : ρ ix = .int ik z) (hu : P.underlying u = some (.array len e)) (hs : (P.info? e).map (·.size) = some kk) (hz : z = (n : Int)) (hl : n < len) :
    Y P W M L ρ (.indexAddr u x ix) ty (.pointer (some ⟨b', off + n * kk, none⟩)) := fun w _ o ho _ => by
  unfold execOp
  rw [ho]
  subst hz
  have h1 : (0 : Int) ≤ (n : Int) ∧ (n : Int) < len := by omega
  simp only [hx, hi, Instr.indexAt, asIntOf, Sem.run_bind, Sem.run_pure, run_underlying hu, Result.andThen_ok, run_size hs, h1, and_self, if_true, Int.toNat_natCast, Addr.add_mid, Instr.sureAddr]
theorem Y_len {a' : Option Addr} {n cap : Nat} {e u : TypeId} {ts : Array TypeId} (hx : ρ x = .slice a' n cap) (ht : ts[0]? = some u) (hu : P.underlying u = some (.slice e)) : Y P W M L ρ (.call { callee := .builtin .len, args := #[x], argTypes := ts }) ty (.int .i64 n) := fun w _ o ho hty => by
  unfold execOp
  rw [ho]
  simp [resolve, invoke, builtin, Builtin.len_, hx, ht, run_underlying hu, Result.andThen, goInt]
/-- Where a slice begins that begins so many elements later. -/
def slAt (a : Option Addr) (cap l k : Nat) : Option Addr := if cap = l then a else a.map (·.add (l * k))
theorem slAt_zero (a : Option Addr) (cap k : Nat) : slAt a cap 0 k = a := by
  unfold slAt
  split
  · rfl
  · rw [Nat.zero_mul]; cases a <;> rfl
theorem Y_slHi {a' : Option Addr} {n cap h kk : Nat} {ik : IntKind} {z : Int} {e u : TypeId} {hi : Operand} (hx : ρ x = .slice a' n cap) (hh : ρ hi = .int ik z) (hu : P.underlying u = some (.slice e)) (hs : (P.info? e).map (·.size) = some kk) (hz : z = (h : Int)) (hl : h ≤ cap) :
    Y P W M L ρ (.slice u x none (some hi) none) ty (.slice a' h cap) := fun w _ o ho _ => by
  unfold execOp
  rw [ho]
  subst hz
  have h1 : (0 : Int) ≤ (h : Int) ∧ (h : Int) ≤ cap := by omega
  simp only [Option.map_some, Option.map_none, hx, hh, Instr.sliceAt, Instr.slice, Instr.sliceBounds, Instr.sliceBound, asIntOf, Sem.run_bind, Sem.run_pure, run_underlying hu, Result.andThen_ok, run_size hs, h1, and_self, if_true, Int.toNat_natCast, Nat.sub_zero]
  have := slAt_zero a' cap kk
  unfold slAt at this
  rw [this]
theorem Y_slLo {a' : Option Addr} {n cap l kk : Nat} {ik : IntKind} {z : Int} {e u : TypeId} {lo : Operand} (hx : ρ x = .slice a' n cap) (hh : ρ lo = .int ik z) (hu : P.underlying u = some (.slice e)) (hs : (P.info? e).map (·.size) = some kk) (hz : z = (l : Int)) (hl : l ≤ n) :
    Y P W M L ρ (.slice u x (some lo) none none) ty (.slice (slAt a' cap l kk) (n - l) (cap - l)) := fun w _ o ho _ => by
  unfold execOp
  rw [ho]
  subst hz
  have h1 : (0 : Int) ≤ (l : Int) ∧ (l : Int) ≤ n := by omega
  simp only [Option.map_some, Option.map_none, hx, hh, Instr.sliceAt, Instr.slice, Instr.sliceBounds, Instr.sliceBound, asIntOf, Sem.run_bind, Sem.run_pure, run_underlying hu, Result.andThen_ok, run_size hs, h1, and_self, if_true, Int.toNat_natCast]
  rfl
theorem Y_slLH {a' : Option Addr} {n cap l h kk : Nat} {ik jk : IntKind} {z y' : Int} {e u : TypeId} {lo hi : Operand} (hx : ρ x = .slice a' n cap) (hh : ρ lo = .int ik z) (hh2 : ρ hi = .int jk y') (hu : P.underlying u = some (.slice e)) (hs : (P.info? e).map (·.size) = some kk) (hz : z = (l : Int)) (hy : y' = (h : Int)) (hl : l ≤ h) (hc : h ≤ cap) :
    Y P W M L ρ (.slice u x (some lo) (some hi) none) ty (.slice (slAt a' cap l kk) (h - l) (cap - l)) := fun w _ o ho _ => by
  unfold execOp
  rw [ho]
  subst hz; subst hy
  have h1 : (0 : Int) ≤ (l : Int) ∧ (l : Int) ≤ h := by omega
  have h2 : (0 : Int) ≤ (h : Int) ∧ (h : Int) ≤ cap := by omega
  simp only [Option.map_some, Option.map_none, hx, hh, hh2, Instr.sliceAt, Instr.slice, Instr.sliceBounds, Instr.sliceBound, asIntOf, Sem.run_bind, Sem.run_pure, run_underlying hu, Result.andThen_ok, run_size hs, h1, h2, and_self, if_true, Int.toNat_natCast]
  rfl
theorem En_call {f : FuncId} {fn : Func} {args : List Operand} {ts : Array TypeId} {vs : List Value} (hρ : ∀ f, ρ (.func f) = .func (.func f) #[] #[]) (hf : P.funcs[f]? = some fn) (hb : fn.body.isNone = false) (hn : (fn.name == "runtime.NumGoroutine") = false) (hv : args.map ρ = vs) :
    En P W M L ρ (.call { callee := .value (.func f), args := args.toArray, argTypes := ts }) ty f vs := fun w _ o ho _ => by
  have h1 : ¬ fn.name = "runtime.NumGoroutine" := by intro h; simp [h] at hn
  have h2 : ¬ fn.body = none := by intro h; simp [h] at hb
  unfold execOp
  have ha : ρ (.func f) = .func (.func f) #[] #[] := hρ f
  simp [ho, resolve, ha, Deferred.ofValue, invoke, callFunc, hf, ← hv, Result.andThen, h1, h2]
end
/-! ### Entry and end -/
section
variable {P : Program} {W : World} {M : List Nat} {ov : Ov} {base : List Value} {L L' : List Bk}
theorem enter {f : FuncId} {fn : Func} {cd : Code} {args : List Value} {n : Nat} {L0 : List Bk} {Post : Value → List Bk → Prop} (hf : P.funcs[f]? = some fn) (hb : fn.body = some cd) (hn : fn.ntmps = n) (hl : Nat.ble args.length n = true) (hL : Has W M L0 W)
    (h : wpC P W M cd (bodyPost P fn fun e w' => ∃ v L, e = .returned v ∧ Has W M L w' ∧ Post v L) [] (args ++ List.replicate (n - args.length) undef) L0) : Does P f args W M Post := by
  have hl' : args.length ≤ n := Nat.le_of_ble_eq_true hl
  refine calls_of_wp hf hb (h _ _ ⟨rfl, ?_, fun d => ?_⟩ hL)
  · simp [hn]
  · simp only [Ov.get, hn]
    rw [Array.getD_eq_getD_getElem?, List.getD_eq_getElem?_getD]
    congr 1
    rw [← Array.getElem?_toList]
    simp
theorem q_ret1 {fn : Func} {t : Nat} {v : Value} {Post : Value → List Bk → Prop} (hr : fn.results = #[.tmp t]) (hv : ov.get base t = v) (hs : List.Sublist L' L) (hp : Post v L') : QL W M (bodyPost P fn (fun e w' => ∃ v L, e = .returned v ∧ Has W M L w' ∧ Post v L) .ret) ov base L := fun a w hrp hH =>
  bodyPost_ret (v := v) (by rw [results_tmp hr, hrp.get, hv]) hrp.defers ⟨v, L', rfl, hH.sub hs, hp⟩
theorem q_ret2 {fn : Func} {t u : Nat} {v v2 : Value} {Post : Value → List Bk → Prop} (hr : fn.results = #[.tmp t, .tmp u]) (hv : ov.get base t = v) (hv2 : ov.get base u = v2) (hs : List.Sublist L' L) (hp : Post (.tuple #[v, v2]) L') : QL W M (bodyPost P fn (fun e w' => ∃ v L, e = .returned v ∧ Has W M L w' ∧ Post v L) .ret) ov base L := fun a w hrp hH =>
  bodyPost_ret (v := .tuple #[v, v2]) (by rw [results_tmp2 hr, hrp.get, hv, hrp.get, hv2]) hrp.defers ⟨_, L', rfl, hH.sub hs, hp⟩
theorem q_ret0 {fn : Func} {Post : Value → List Bk → Prop} (hr : fn.results = #[]) (hs : List.Sublist L' L) (hp : Post (.tuple #[]) L') : QL W M (bodyPost P fn (fun e w' => ∃ v L, e = .returned v ∧ Has W M L w' ∧ Post v L) .ret) ov base L := fun a w hrp hH =>
  bodyPost_ret (v := .tuple #[]) (results_none hr _ _ _) hrp.defers ⟨_, L', rfl, hH.sub hs, hp⟩
theorem q_end0 {fn : Func} {Post : Value → List Bk → Prop} (hr : fn.results = #[]) (hs : List.Sublist L' L) (hp : Post (.tuple #[]) L') : QL W M (bodyPost P fn (fun e w' => ∃ v L, e = .returned v ∧ Has W M L w' ∧ Post v L) .normal) ov base L := fun a w hrp hH =>
  bodyPost_end (v := .tuple #[]) (results_none hr _ _ _) hrp.defers ⟨_, L', rfl, hH.sub hs, hp⟩
end
end Go.Ad
