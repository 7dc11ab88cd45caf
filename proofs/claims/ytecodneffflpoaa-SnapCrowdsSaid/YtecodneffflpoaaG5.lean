/- More operations: parts of arrays, externals, maps keyed by flat structs. -/
import Derived.Test.YtecodneffflpoaaG4
import Derived.Shelf.Bytes.SlCountOne
namespace Go.Ad
open Go.RowKit Go.Maps
set_option linter.unusedVariables false
set_option linter.unusedSimpArgs false
section
variable {P : Program} {W : World} {M : List Nat} {L : List Bk} {ρ : Operand → Value} {x y : Operand} {ty : TypeId} {v : Value}
theorem Y_idx {t e : TypeId} {len i : Nat} {cs : List Value} {k : IntKind} {n : Int} (hx : ρ x = .agg cs.toArray) (hy : ρ y = .int k n) (hu : P.underlying t = some (.array len e)) (he : Cel1 P e) (hs : (P.info? e).map (·.size) = some 1) (hn : n = (i : Int)) (hi : i < len) (hv : cs[i]? = some v) : Y P W M L ρ (.index t x y) ty v := fun w hw o ho _ => by
  subst hn
  obtain ⟨d, h1, h2⟩ := he
  unfold execOp
  rw [ho]
  have : (Instr.index t (.agg cs.toArray) (.int k (i : Int))).run P w = .ok v w := by
    simp [Instr.index, asIntOf, run_underlying hu, run_size hs, part, run_isAgg h1, h2, hi, hv, Result.andThen]
  simp [hx, hy, this, Result.andThen]
theorem Y_field {t : TypeId} {i : Nat} {fs : Array Field} {f : Field} {cs : List Value} (hx : ρ x = .agg cs.toArray) (hu : P.underlying t = some (.struct fs)) (hf : fs[i]? = some f) (he : Cel1 P f.type) (hv : cs[f.offset]? = some v) : Y P W M L ρ (.field t x i) ty v := fun w hw o ho _ => by
  obtain ⟨d, h1, h2⟩ := he
  unfold execOp
  rw [ho]
  have : (Instr.field t (.agg cs.toArray) i).run P w = .ok v w := by
    simp [Instr.field, run_underlying hu, hf, asAgg, part, run_isAgg h1, h2, hv, Result.andThen]
  simp [hx, this, Result.andThen]
theorem Y_fieldN {t : TypeId} {i n : Nat} {fs : Array Field} {f : Field} {cs vs : List Value} (hx : ρ x = .agg cs.toArray) (hu : P.underlying t = some (.struct fs)) (hf : fs[i]? = some f) (he : CelN P f.type n) (hv : (cs.drop f.offset).take n = vs) : Y P W M L ρ (.field t x i) ty (.agg vs.toArray) := fun w hw o ho _ => by
  obtain ⟨⟨d, h1, h2⟩, h3⟩ := he
  subst hv
  unfold execOp
  rw [ho]
  have : (Instr.field t (.agg cs.toArray) i).run P w = .ok (.agg ((cs.drop f.offset).take n).toArray) w := by
    simp [Instr.field, run_underlying hu, hf, asAgg, part, run_isAgg h1, h2, run_size h3, Result.andThen, List.extract_toArray]
  simp [hx, this, Result.andThen]
/-- A function without a body that runs at once. -/
theorem Y_ext {f : FuncId} {fn : Func} {e : Array Value → Sem Value} {args : List Operand} {ts : Array TypeId} {vs : List Value} (hρ : ρ (.func f) = .func (.func f) #[] #[]) (hf : P.funcs[f]? = some fn) (hnm : (fn.name == "runtime.NumGoroutine") = false)
    (hb : fn.body.isNone = true) (hn : Extern.findNext fn = none) (he : Extern.find fn = some e) (hv : args.map ρ = vs) (h : ∀ w, Has W M L w → (e vs.toArray).run P w = .ok v w) : Y P W M L ρ (.call { callee := .value (.func f), args := args.toArray, argTypes := ts }) ty v := fun w hw o ho _ => by
  have := run_callFunc_extern hf hnm hb hn he vs.toArray w
  rw [h w hw] at this
  unfold execOp
  simp [ho, resolve, hρ, Deferred.ofValue, invoke, ← hv] at this ⊢
  simp [this, Result.andThen]
end
end Go.Ad
