/- Maps keyed by flat structs. -/
import Derived.Test.YtecodneffflpoaaG5
import Derived.Maps.OwnSet
namespace Go.Ad
open Go.RowKit Go.Maps
set_option linter.unusedVariables false
set_option linter.unusedSimpArgs false
section
variable {P : Program} {W : World} {M : List Nat} {L : List Bk} {ρ : Operand → Value} {x y z : Operand} {ty : TypeId} {v : Value} {ops : Array Oper} {Q : Exit → Act → World → Prop} {rest : List Oper} {ov : Ov} {base : List Value}
/-- A struct of numbers may be a key. -/
def KeyOk (P : Program) (t : TypeId) (n : Nat) : Prop := Flat P t n ∧ (∃ fs, P.underlying t = some (.struct fs)) ∧ ∀ e w (zs : List Int), zs.length = n → (Instr.checkKey e 10000 t (.agg (ints zs))).run P w = .ok () w
theorem run_askKey {t : TypeId} {n : Nat} (hf : Flat P t n) {zs : List Int} (hz : zs.length = n) (w : World) : ∀ (es : List MapEntry) (kss : List (List Int)) (i : Nat), es.map (·.key) = kss.map (fun z => .agg (ints z)) → (∀ k ∈ kss, k.length = n) →
    ∃ r, (Instr.findAsking t (.agg (ints zs)) es i).run P w = .ok r w ∧ r.isSome = decide (zs ∈ kss)
  | [], [], i, _, _ => ⟨none, rfl, by simp⟩
  | e :: es, k :: kss, i, he, hk => by
    simp only [List.map_cons, List.cons.injEq] at he
    have h1 := hf.1 w zs k hz (hk k (List.Mem.head _))
    have h1' : (Op.equal t (.agg (ints zs)) (.agg (ints k))).run P w = .ok (decide (zs = k)) w := h1
    by_cases hzk : zs = k
    · refine ⟨some (i, e.val), ?_, by simp [hzk]⟩
      simp only [Instr.findAsking, Sem.run_bind, he.1, h1', Result.andThen_ok]
      simp [hzk]
    · obtain ⟨r, h2, h3⟩ := run_askKey hf hz w es kss (i + 1) he.2 (fun q hq => hk q (List.Mem.tail _ hq))
      refine ⟨r, ?_, by rw [h3]; simp [hzk]⟩
      simp only [Instr.findAsking, Sem.run_bind, he.1, h1', Result.andThen_ok]
      simpa [hzk] using h2
theorem run_findKey {t : TypeId} {n : Nat} (hf : KeyOk P t n) {zs : List Int} (hz : zs.length = n) (w : World) {es : List MapEntry} {kss : List (List Int)} (he : es.map (·.key) = kss.map (fun z => .agg (ints z))) (hk : ∀ k ∈ kss, k.length = n) :
    ∃ r, (Instr.findKey t (.agg (ints zs)) es).run P w = .ok r w ∧ r.isSome = decide (zs ∈ kss) := by
  obtain ⟨h1, ⟨fs, h2⟩, h3⟩ := hf
  obtain ⟨r, h4, h5⟩ := run_askKey h1 hz w es kss 0 he hk
  unfold Instr.findKey
  simp only [Sem.run_bind, run_underlying h2, Result.andThen_ok]
  cases es with
  | nil =>
    cases kss with
    | nil => exact ⟨none, rfl, by simp⟩
    | cons a b => simp at he
  | cons e es =>
    have : Instr.findNow (.struct fs) (.agg (ints zs)) (e :: es) 0 = none := rfl
    rw [this]
    exact ⟨r, h4, h5⟩
theorem N_look {b : Nat} {t kt et : TypeId} {n : Nat} {zs : List Int} {es : Array MapEntry} {clock : Nat} {kss : List (List Int)} {zv : Value} (hx : ρ x = .map (some b)) (hy : ρ y = .agg (ints zs)) (hu : P.underlying t = some (.map kt et)) (hf : KeyOk P kt n) (hz : zs.length = n) (hzv : ∀ w, (zeroValue et).run P w = .ok zv w)
    (hM : W.heap[b]? = some (.map es clock)) (he : es.toList.map (·.key) = kss.map (fun z => .agg (ints z))) (hk : ∀ k ∈ kss, k.length = n) : N P W [] L ρ (.lookup t x y true) ty (fun _ : Value => True) (fun v => .tuple #[v, .bool (decide (zs ∈ kss))]) (fun _ => L) := fun w hw o ho _ => by
  have hb : w.heap[b]? = some (.map es clock) := by
    have hlt : b < W.heap.size := (Array.getElem?_eq_some_iff.1 hM).1
    rw [hw.ex.block b hlt (by simp)]; exact hM
  obtain ⟨r, h1, h2⟩ := run_findKey hf hz w he hk
  have hck := hf.2.2 es.isEmpty w zs hz
  cases r with
  | none =>
    refine ⟨zv, w, trivial, ?_, hw⟩
    unfold execOp
    rw [ho]
    simp only [hx, hy, Instr.lookup, Sem.run_bind, run_underlying hu, Result.andThen_ok, MapKept.run_getObj_map hb, Sem.run_pure, hck, h1, hzv]
    have : decide (zs ∈ kss) = false := by rw [← h2]; rfl
    rw [this]; rfl
  | some p =>
    refine ⟨p.2, w, trivial, ?_, hw⟩
    unfold execOp
    rw [ho]
    simp only [hx, hy, Instr.lookup, Sem.run_bind, run_underlying hu, Result.andThen_ok, MapKept.run_getObj_map hb, Sem.run_pure, hck, h1]
    have : decide (zs ∈ kss) = true := by rw [← h2]; rfl
    rw [this]; rfl
theorem s_makeMap {d : Nat} {t : TypeId} {ty : TypeId} {pos : String} {aft : Array Edge} {g : Option (Nat × Bool)} (hw : wantedL ops ov base ⟨some d, .makeMap t none, ty, pos, aft, g⟩ = true) (hd : Nat.blt d base.length = true)
    (k : ∀ W1 b, Has W M L W1 → W1.heap[b]? = some (.map #[] 0) → W.heap.size ≤ b → wpL P W1 [] ops Q rest ((d, .map (some b)) :: ov) base []) : wpL P W M ops Q (⟨some d, .makeMap t none, ty, pos, aft, g⟩ :: rest) ov base L := fun a w hr hH => by
  have hA : Has W M L (w.alloc (.map #[] 0)) := ⟨hH.ex.alloc _, fun x hx => ⟨(hH.at' hx).of_block (Below.heap_alloc w _ _ (hH.at' hx).lt), (hH.bk x hx).2⟩, hH.nd⟩
  refine G_val (by rw [hr.wanted]; exact hw) (v := .map (some w.heap.size)) (w' := w.alloc (.map #[] 0)) ?_ (k _ _ hA (heap_alloc_new w _) hH.size _ _ (hr.put _ hd) (Has.start _))
  unfold execOp
  rfl
theorem s_mapUpd {b : Nat} {t kt et : TypeId} {n : Nat} {zs : List Int} {es : Array MapEntry} {clock : Nat} {kss : List (List Int)} {pos : String} {aft : Array Edge} {g : Option (Nat × Bool)} (hx : ev ov base x = .map (some b)) (hy : ev ov base y = .agg (ints zs)) (hv : ev ov base z = v) (hu : P.underlying t = some (.map kt et)) (hf : KeyOk P kt n) (hz : zs.length = n)
    (hM : W.heap[b]? = some (.map es clock)) (he : es.toList.map (·.key) = kss.map (fun z => .agg (ints z))) (hk : ∀ k ∈ kss, k.length = n) (hno : zs ∉ kss) (hw : wantedL ops ov base ⟨none, .mapUpdate t x y z, ty, pos, aft, g⟩ = true)
    (k : ∀ W1, W1.heap[b]? = some (.map (es.push ⟨.agg (ints zs), v, clock⟩) (clock + 1)) → Ex [b] W W1 → wpL P W1 [] ops Q rest ov base []) : wpL P W [] ops Q (⟨none, .mapUpdate t x y z, ty, pos, aft, g⟩ :: rest) ov base L := fun a w hr hH => by
  have hlt : b < W.heap.size := (Array.getElem?_eq_some_iff.1 hM).1
  have hb : w.heap[b]? = some (.map es clock) := by
    rw [hH.ex.block b hlt (by simp)]; exact hM
  obtain ⟨r, h1, h2⟩ := run_findKey hf hz w he hk
  have hck := hf.2.2 false w zs hz
  obtain rfl : r = none := by
    cases r with
    | none => rfl
    | some p => simp [hno] at h2
  refine G_skip (by rw [hr.wanted]; exact hw) (w' := ChangeMaps.setBlock w b (.map (es.push ⟨.agg (ints zs), v, clock⟩) (clock + 1))) ?_ (k _ ?_ ?_ _ _ hr (Has.start _))
  · rw [hr.eval]
    unfold execOp
    simp only [hx, hy, hv, Instr.mapUpdate, Sem.run_bind, run_underlying hu, Result.andThen_ok, MapKept.run_getObj_map hb, hck, h1, MapKept.run_setObj_map _ hb]
    rfl
  · have hbw : b < w.heap.size := (Array.getElem?_eq_some_iff.1 hb).1
    simp [ChangeMaps.setBlock, hbw]
  · refine ⟨hH.ex.os, hH.ex.tape, hH.ex.output, by simpa [ChangeMaps.setBlock] using hH.ex.size, fun i hi hn => ?_⟩
    have hne : b ≠ i := fun h => hn (by simp [h])
    rw [← hH.ex.block i hi (by simp)]
    simp [ChangeMaps.setBlock, hne]
/-- A loop whose rounds change the world that things are seen from. -/
theorem c_loopW {α : Type} (ks : List Nat) (φ : Nat → α → World → Prop) (tr : α → Ov) (n0 : Nat) (y0 : α) {c : Code} (h0 : ∀ w, Has W [] [] w → φ n0 y0 w) (ht : AllGet ov base (tr y0))
    (hk : ∀ y, ((tr y).all fun p => ks.any (Nat.beq p.1)) = true)
    (round : ∀ n y j W', φ n y W' → ∀ K, (∀ n' y' ov' W'' L'', n' < n → (∀ w, Has W'' [] L'' w → φ n' y' w) → AllGet ov' base (tr y') → ov'.drop ks = ov.drop ks → QL W'' [] K ov' base L'') → wpC P W' [] c (Exit.then K Q) (tr y ++ (junk ks j ++ ov)) base []) : wpC P W [] (.loop c) Q ov base L := fun a w hr hH => by
  refine wp_loop_ghost (fun n a w => ∃ y, φ n y w ∧ ∃ j, Rep (tr y ++ (junk ks j ++ ov)) base a) n0 ⟨y0, h0 w (hH.sub (List.nil_sublist _)), _, hr.again ht rfl (hk y0)⟩ ?_
  rintro n a w ⟨y, hy, j, hr⟩
  exact round n y j w hy _ (fun n' y' ov' W'' L'' hlt hy' ha hd a' w' hr' hH' => ⟨n', hlt, y', hy' w' hH', _, hr'.again ha hd (hk y')⟩) a w hr (Has.start w)
/-- The end of a law on a map of its own. -/
theorem q_retW {fn : Func} {W0 : World} {t : Nat} {v : Value} {Post : Value → List Bk → Prop} (hX : ∀ w, Ex [] W w → Ex [] W0 w) (hr : fn.results = #[.tmp t]) (hv : Gt ov base t v) (hp : Post v []) : QL W [] (bodyPost P fn (fun e w' => ∃ v L, e = .returned v ∧ Has W0 [] L w' ∧ Post v L) .ret) ov base L := fun a w hrp hH =>
  bodyPost_ret (v := v) (by rw [results_tmp hr, hrp.get, hv.eq]) hrp.defers ⟨v, [], rfl, ⟨hX w hH.ex, by simp, by simp⟩, hp⟩
end
end Go.Ad
