/- More small general laws: pointers, rows of the call's own, a store that changes nothing. -/
import Derived.Test.YtecodneffflpoaaKit
import Derived.IntWalk
namespace Go.Ad
open Go.RowKit Go.Maps
abbrev ptr (b : Nat) : Value := .pointer (some ⟨b, 0, none⟩)
abbrev ptrAt (b o : Nat) : Value := .pointer (some ⟨b, o, none⟩)
theorem ex_append2 {P : Program} {w w' : World} {a : Act} {o : Oper} {x y : Operand} {ts : Array TypeId} (ho : o.op = .call { callee := .builtin .append, args := #[x, y], argTypes := ts }) {v1 v2 : Value} (hx : a.eval x = v1) (hy : a.eval y = v2)
    {v : Value} (h : (Builtin.append_ ts o.type #[v1, v2]).run P w = .ok v w') : (execOp a.eval o).run P w = .ok (.value v) w' := ex_builtin ho (by simp [hx, hy]) rfl h
theorem ownsRow_ex {w w' : World} {l : List Nat} {base : Nat} {e : TypeId} {size : Nat} {v : Value} {n : Nat} {xs : List Value} (h : w.ownsRow base e size v n xs) (hx : Ex l w w') (hv : ∀ k, v.ownBlock = some k → k ∉ l) : w'.ownsRow base e size v n xs := by
  refine ⟨h.1, ?_⟩
  rcases h.2 with hn | ⟨g, cap, cur, rfl, hb, hgg, rest⟩
  · exact .inl hn
  · exact .inr ⟨g, cap, cur, rfl, hb, by rw [hx.block g (Array.getElem?_eq_some_iff.1 hgg).1 (hv g rfl)]; exact hgg, rest⟩
theorem own_shape {w : World} {base : Nat} {e : TypeId} {size : Nat} {v : Value} {n : Nat} {xs : List Value} (h : w.ownsRow base e size v n xs) : ∃ a cap, v = .slice a n cap := by
  rcases h.2 with ⟨rfl, rfl⟩ | ⟨g, cap, cur, rfl, _⟩
  · exact ⟨_, _, rfl⟩
  · exact ⟨_, _, rfl⟩
/-- A store of what stands there already. -/
theorem setCell_stay {w : World} {p : Addr} {u : Value} (h : w.cell? p = some u) : w.setCell p u = w := by
  have hs : p.spot = none := spot_of_cell h
  obtain ⟨heap, tape, drawn, os, output⟩ := w
  simp only [World.setCell, World.mk.injEq, and_true]
  apply Array.ext_getElem?
  intro i
  rw [Array.getElem?_modify]
  split
  · rename_i hi
    subst hi
    simp only [World.cell?] at h
    cases ho : heap[p.block]? with
    | none => rfl
    | some o =>
      rw [ho] at h
      cases o with
      | cells c e f =>
        simp only [hs, Option.isSome_none, Bool.false_eq_true, if_false] at h
        simp only [Option.map_some, hs, Option.isSome_none, Bool.false_eq_true, if_false, Option.some.injEq, Obj.cells.injEq, and_true]
        apply Array.ext_getElem?
        intro j
        rw [Array.getElem?_setIfInBounds]
        split
        · rename_i hj; subst hj
          rw [h]
          split
          · rfl
          · rename_i hlt
            rw [Array.getElem?_eq_none (by omega)] at h; cases h
        · rfl
      | _ => rfl
  · rfl
theorem ex_assert {P : Program} {w : World} {a : Act} {o : Oper} {x : Operand} {xT aT : TypeId} {ok : Bool} {v r : Value} (ho : o.op = .typeAssert x xT aT ok) (hx : a.eval x = v) (h : (Instr.typeAssert v xT aT ok).run P w = .ok r w) :
    (execOp a.eval o).run P w = .ok (.value r) w := by
  unfold execOp
  simp only [ho, hx, Sem.run_bind, h, Result.andThen_ok, Sem.run_pure]
/-- A call through an interface whose dynamic type is known. -/
theorem ex_invoke {P : Program} {w : World} {a : Act} {o : Oper} {x : Operand} {name : String} {args : List Operand} {ts : Array TypeId} {t : TypeId} {rv : Value} {vs : List Value} {f : FuncId} {ws : Array Value}
    (ho : o.op = .call { callee := .invoke x name, args := args.toArray, argTypes := ts }) (hx : a.eval x = .iface t rv) (hv : args.map a.eval = vs) (h : (invoke (.fn (.method name) #[]) (#[.iface t rv] ++ vs.toArray)).run P w = .ok (.enter f ws) w) :
    (execOp a.eval o).run P w = .ok (.enter f ws) w := by
  unfold execOp
  simp [ho, resolve, hx, ← hv] at h ⊢
  simp [h]
theorem G_enter {P : Program} {ops : Array Oper} {Q : Exit → Act → World → Prop} {rest : List Oper} {w : World} {a : Act} {o : Oper} {f : FuncId} {vs : Array Value} (hg : Region.wanted o (yielded ops a.tmps) = true) (hr : (execOp a.eval o).run P w = .ok (.enter f vs) w)
    (hc : Calls P f vs w (fun e w' => ∃ v, e = .returned v ∧ wpList P ops Q rest (a.put o.dst v) w')) : wpList P ops Q (o :: rest) a w := by
  refine wpList_step fun K hK => ?_
  rw [if_pos hg]
  simp only [Oper.wp, hr, Oper.upon]
  refine hc.mono ?_
  rintro e w' ⟨v, rfl, h⟩
  exact hK _ _ h
/-- An operation that yields nothing. -/
theorem G_skip {P : Program} {ops : Array Oper} {Q : Exit → Act → World → Prop} {rest : List Oper} {w w' : World} {a : Act} {o : Oper} (hg : Region.wanted o (yielded ops a.tmps) = true) (hr : (execOp a.eval o).run P w = .ok .skip w')
    (h : wpList P ops Q rest (a.put o.dst undef) w') : wpList P ops Q (o :: rest) a w := by
  refine wpList_step fun K hK => ?_
  rw [if_pos hg]
  simp only [Oper.wp, hr, Oper.upon]
  exact hK _ _ h
section
variable {P : Program} {w : World} {g : Nat} {c : Array Value} {t ty : TypeId}
/-- A whole struct, out of a block known whole. -/
theorem row_load {d : TypeDesc} (B : Blk w g c t) (hu : P.underlying ty = some d) (hd : (match d with | .struct _ | .array _ _ => true | _ => false) = true) (hi : (P.info? ty).map (·.size) = some c.size) :
    (Instr.loadAt ty (ptr g)).run P w = .ok (.agg c) w := by
  simp only [Instr.loadAt, Instr.sureAddr, Sem.run_bind, Sem.run_pure, Result.andThen]
  exact run_loadVar_row w g t ty c (0, 0) d B hu hd hi
/-- .. into one. -/
theorem row_store {cs : Array Value} (B : Blk w g c t) (hi : (P.info? ty).map (·.size) = some cs.size) (ho : c.size = cs.size) (h1 : cs.all (·.oneCell') = true) :
    (Instr.storeAt ty (ptr g) (.agg cs)).run P w = .ok () (w.setRow g cs) ∧ Blk (w.setRow g cs) g cs t ∧ Ex [g] w (w.setRow g cs) := by
  refine ⟨?_, ?_, ⟨rfl, rfl, rfl, by simp, fun k _ hk => setRow_other w g k cs (by simpa using hk)⟩⟩
  · simp only [Instr.storeAt, Instr.sureAddr, Sem.run_bind, Sem.run_pure, Result.andThen]
    exact run_storeVar_row w g t ty c cs B hi ho h1
  · unfold Blk at *
    simp [World.setRow, Array.getElem?_modify, B]
end
end Go.Ad
