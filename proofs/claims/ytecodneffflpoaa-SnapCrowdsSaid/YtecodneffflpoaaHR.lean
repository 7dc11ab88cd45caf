/- Stores of whole rows; results that are variables. -/
import Derived.Test.YtecodneffflpoaaHQ
import Derived.Laws.IdiomCopy
namespace Go.Ad
open Go.RowKit Go.Maps
section
variable {P : Program} {W : World} {M : List Nat} {ops : Array Oper} {Q : Exit → Act → World → Prop} {all rest : List Oper} {ov ov' : Ov} {base : List Value} {L L' L2 : List Bk} {ρ : Operand → Value} {ty : TypeId} {x y : Operand} {v : Value}
theorem QL.perm {K : Act → World → Prop} (hp : List.Perm L' L) (h : QL W M K ov base L') : QL W M K ov base L := fun a w hr hH => h a w hr (hH.perm hp)
theorem QL.last {K : Act → World → Prop} {x : Bk} (h : QL W M K ov base (x :: L)) : QL W M K ov base (L ++ [x]) := QL.perm (List.perm_append_singleton x L).symm h
theorem c_rordS {Q : Exit → Act → World → Prop} {L0 : List Bk} (hs0 : List.Sublist L0 L) {id : Nat} {l : List Oper} {l' : List (Nat × Bool × Oper)} (E : List Nat) (ord : List (Nat × Bool)) (hm : P.follows .mixedOrders = true) (hs : Region.noSelect l.toArray = true)
    (hok : okOrd l.toArray (fun j => !E.contains j) ord true (Array.replicate l.toArray.size false) = true) (hE : (E.all (· < l.toArray.size) && ord.all (fun p => decide (p.1 < l.toArray.size))) = true) (hl : ord.length = l.toArray.size)
    (hQ : ∀ c a d v w, Q (.panic c) (a.put d v) w → Q (.panic c) a w) (hl' : mkOrd l.toArray ord = l')
    (h : wpO P W M l.toArray Q (fun j => !E.contains j) L0 l' ov base L) : wpC P W M (.region id l.toArray true) Q ov base L := fun a w hr hH => by
  subst hl'
  exact wp_region_ord (Has W M L0) E ord hm hs hok hE hl hQ (hH.drew.sub hs0) (h a w.drew hr hH.drew)
theorem c_meetQ {α : Type} {Q : Exit → Act → World → Prop} {c : Code} (ks : List Nat) (tr : α → Ov) (φ : α → Prop) (G : α → List Bk) (hk : ∀ y, ((tr y).all fun p => ks.any (Nat.beq p.1)) = true) (K : ∀ y j, φ y → QL W M (Q .normal) (tr y ++ (junk ks j ++ ov)) base (G y))
    (go : (∀ y ov' L', φ y → AllGet ov' base (tr y) → ov'.drop ks = ov.drop ks → (∀ w, Has W M L' w → Has W M (G y) w) → QL W M (Q .normal) ov' base L') → wpC P W M c Q ov base L) : wpC P W M c Q ov base L := c_meet ks tr φ G hk K go
theorem QL.known {K : Act → World → Prop} {d : Nat} {t u : Bool} (hv : ov.get base d = .bool t) (ht : t = u) (h : QL W M K ((d, .bool u) :: ov) base L) : QL W M K ov base L := by
  subst ht
  refine fun a w hr hH => h a w ⟨hr.defers, hr.size, fun e => ?_⟩ hH
  rw [hr.get e]
  simp only [Ov.get]
  by_cases hde : d = e
  · subst hde
    have : Nat.beq d d = true := by simp
    rw [this, hv]; rfl
  · have : Nat.beq d e = false := nbeq hde
    rw [this]; rfl
/-- From here on, seen from where things stand. -/
theorem QL.rebase {K : Act → World → Prop} (h : ∀ W1, Has W M L W1 → QL W1 [] K ov base []) : QL W M K ov base L := fun a w hr hH => h w hH a w hr (Has.start w)
theorem Has.self {w : World} (h : Has W M L w) : Has w (L.map (·.b)) L w := ⟨Ex.refl _ _, fun x hx => ⟨h.at' hx, .inl (List.mem_map.2 ⟨x, hx, rfl⟩)⟩, h.nd⟩
theorem s_cF {d : Nat} {op : Op} {ty : TypeId} {pos : String} {aft : Array Edge} {g : Option (Nat × Bool)} {f : FuncId} {vs : List Value} {Φ : World → Value → World → Prop} (he : En P W M L (ev ov base) op ty f vs)
    (hc : ∀ w, Has W M L w → Calls P f vs.toArray w fun e w' => ∃ v, e = .returned v ∧ Ex [] w w' ∧ Φ w v w') (hw : wantedL ops ov base ⟨some d, op, ty, pos, aft, g⟩ = true) (hd : Nat.blt d base.length = true)
    (k : ∀ w v w1, Has W M L w → Has W M L w1 → Ex [] w w1 → Φ w v w1 → wpL P w1 (L.map (·.b)) ops Q rest ((d, v) :: ov) base L) : wpL P W M ops Q (⟨some d, op, ty, pos, aft, g⟩ :: rest) ov base L := fun a w hr hH => by
  refine G_enter (by rw [hr.wanted]; exact hw) (by rw [hr.eval]; exact he w hH _ rfl rfl) ((hc w hH).mono ?_)
  rintro e w' ⟨v, rfl, h1, h2⟩
  have hH' : Has W M L w' := ⟨hH.ex.trans (h1.mono (by simp)), fun x hx => ⟨(hH.at' hx).of_block (h1.block x.b (hH.at' hx).lt (by simp)), (hH.bk x hx).2⟩, hH.nd⟩
  exact ⟨v, rfl, k w v w' hH hH' h1 h2 _ _ (hr.put v hd) hH'.self⟩
/-- The end of a law, seen from where it began. -/
theorem q_ret1W {W1 : World} {M1 : List Nat} {fn : Func} {t : Nat} {Post : Value → List Bk → Prop} (v : Value) (hX : ∀ w, Ex M1 W1 w → Ex M W w) (hr : fn.results = #[.tmp t]) (hv : ov.get base t = v) (hp : Post v []) : QL W1 M1 (bodyPost P fn (fun e w' => ∃ v L, e = .returned v ∧ Has W M L w' ∧ Post v L) .ret) ov base L := fun a w hrp hH =>
  bodyPost_ret (v := v) (by rw [results_tmp hr, hrp.get, hv]) hrp.defers ⟨v, [], rfl, ⟨hX w hH.ex, by simp, by simp⟩, hp⟩
theorem Does.old {f : FuncId} {args : List Value} {v : Value} (h : Calls P f args.toArray W fun e w' => e = .returned v ∧ Ex [] W w') : Does P f args W [] (fun u L => u = v ∧ L = []) :=
  Calls.mono h fun _ _ ⟨h1, h2⟩ => ⟨v, [], h1, ⟨h2, by simp, by simp⟩, rfl, rfl⟩
theorem setCells_eq (b : Nat) : ∀ (vs : List Value) (w : World) (j : Nat), w.setCells b j vs = setCells' w b j vs
  | [], _, _ => rfl
  | v :: r, w, j => setCells_eq b r _ (j + 1)
theorem S_storeN {b' j kk cap n : Nat} {tt : TypeId} {cs cs' vs : List Value} {u : TypeId} (hx : ρ x = .pointer (some ⟨b', j, none⟩)) (hy : ρ y = .agg vs.toArray) (hi : (P.info? u).map (·.size) = some n) (hn : vs.length = n) (h1 : vs.all (·.oneCell') = true)
    (hu : Upd ⟨b', tt, kk, cap, cs⟩ ⟨b', tt, kk, cap, cs'⟩ L L') (hc : setAll cs j vs = cs') (hj : Nat.ble (j + vs.length) cs.length = true) : S P W M L ρ (.store u x y) ty L' := fun w hw o ho _ => by
  subst hc
  have hj := Nat.le_of_ble_eq_true hj
  refine ⟨setCells' w b' j vs, x_store ho hx hy ?_, Has.setAll vs hw hu⟩
  have hm := hw.at' hu.mem
  simp only [Instr.storeAt, Instr.sureAddr, Sem.run_bind, Sem.run_pure, Result.andThen_ok, storeVar, run_size hi, Value.cells]
  have := run_storeCells_cells (P := P) b' j vs 0 w (fun i hi => by
    have : cs[j + i]? = some (cs[j + i]'(by omega)) := List.getElem?_eq_getElem _
    rw [Nat.add_zero, hm.cell this]; rfl) (fun i _ => hm.froz _) (fun v hv => List.all_eq_true.1 h1 v hv)
  rw [Nat.add_zero, setCells_eq] at this
  simp [hn, this]
theorem setAll_pre : ∀ (vs cs pre : List Value), vs.length = cs.length → setAll (pre ++ cs) pre.length vs = pre ++ vs
  | [], [], pre, _ => rfl
  | v :: r, c :: cs, pre, h => by
    have := setAll_pre r cs (pre ++ [v]) (by simpa using h)
    simp only [setAll]
    simp only [List.append_assoc, List.singleton_append, List.length_append, List.length_singleton] at this
    rw [← this]
    simp
theorem S_storeA {b' kk cap n : Nat} {tt : TypeId} {cs vs : List Value} {u : TypeId} (hx : ρ x = .pointer (some ⟨b', 0, none⟩)) (hy : ρ y = .agg vs.toArray) (hi : (P.info? u).map (·.size) = some n) (hn : vs.length = n) (h1 : vs.all (·.oneCell') = true)
    (hu : Upd ⟨b', tt, kk, cap, cs⟩ ⟨b', tt, kk, cap, vs⟩ L L') (hj : Nat.beq vs.length cs.length = true) : S P W M L ρ (.store u x y) ty L' := by
  have hj := Nat.eq_of_beq_eq_true hj
  exact S_storeN hx hy hi hn h1 hu (setAll_pre vs cs [] hj) (by rw [Nat.zero_add, hj]; simp)
theorem sub_at {cs vs : List Value} {j : Nat} (h : (cs.drop j).take vs.length = vs) : ∀ i v, vs[i]? = some v → cs[j + i]? = some v := fun i v hv => by
  have hi := (List.getElem?_eq_some_iff.1 hv).1
  rw [← hv]
  conv => rhs; rw [← h]
  rw [List.getElem?_take_of_lt hi, List.getElem?_drop]
/-- A call of a function that a slot holds. -/
theorem En_callV {f : FuncId} {fn : Func} {args : List Operand} {ts : Array TypeId} {vs : List Value} (hx : ρ x = .func (.func f) #[] #[]) (hf : P.funcs[f]? = some fn) (hb : fn.body.isNone = false) (hn : (fn.name == "runtime.NumGoroutine") = false) (hv : args.map ρ = vs) :
    En P W M L ρ (.call { callee := .value x, args := args.toArray, argTypes := ts }) ty f vs := fun w _ o ho _ => by
  have h1 : ¬ fn.name = "runtime.NumGoroutine" := by intro h; simp [h] at hn
  have h2 : ¬ fn.body = none := by intro h; simp [h] at hb
  unfold execOp
  simp [ho, resolve, hx, Deferred.ofValue, invoke, callFunc, hf, ← hv, Result.andThen, h1, h2]
theorem BytesAt.has {a : Option Addr} {n : Nat} {xs : List UInt8} (h : BytesAt W a n xs) (hM : ∀ b o, a = some ⟨b, o, none⟩ → b ∉ M) {w : World} (hH : Has W M L w) : BytesAt w a n xs := by
  refine ⟨h.1, ?_⟩
  rcases h.2 with h2 | ⟨b, o, h1, h2, h3⟩
  · exact .inl h2
  · exact .inr ⟨b, o, h1, Nat.lt_of_lt_of_le h2 hH.size, hH.ro h3 (hM b o h1)⟩
/-- Bytes as a string. -/
theorem Y_bs {src dst e : TypeId} {a : Option Addr} {n c : Nat} {xs : List UInt8} (hx : ρ x = .slice a n c) (hs : P.underlying src = some (.slice e)) (he : P.underlying e = some (.int .u8)) (hd : P.underlying dst = some .string) (h : ∀ w, Has W M L w → BytesAt w a n xs) : Y P W M L ρ (.convert src dst x) ty (.string ⟨xs.toArray⟩) := fun w hw o ho _ => by
  have hr := run_bytes_string (P := P) hs he hd (h w hw) (cap := c)
  unfold execOp
  rw [ho]
  simp only [hx, Sem.run_bind, hr, Result.andThen_ok, Sem.run_pure]
theorem bytesL {g t k cap : Nat} {xs : List UInt8} (hm : ⟨g, t, k, cap, xs.map bv⟩ ∈ L) {w : World} (hH : Has W M L w) : BytesAt w (some ⟨g, 0, none⟩) xs.length xs := ⟨rfl, .inr ⟨g, 0, rfl, (hH.at' hm).lt, (hH.at' hm).ro⟩⟩
/-- A result that is a variable of several cells. -/
theorem q_ret2c {fn : Func} {p u b' kk cap n : Nat} {t tt : TypeId} {cs : List Value} {v2 : Value} {Post : Value → List Bk → Prop} (hr : fn.results = #[.cell p t, .tmp u]) (hp : ov.get base p = .pointer (some ⟨b', 0, none⟩)) (ht : CelN P t n) (hv2 : ov.get base u = v2) (hm : ⟨b', tt, kk, cap, cs⟩ ∈ L) (hl : cs.length = n) (hs : List.Sublist L' L) (hq : Post (.tuple #[.agg cs.toArray, v2]) L') :
    QL W M (bodyPost P fn (fun e w' => ∃ v L, e = .returned v ∧ Has W M L w' ∧ Post v L) .ret) ov base L := fun a w hrp hH => by
  refine bodyPost_ret (v := .tuple #[.agg cs.toArray, v2]) ?_ hrp.defers ⟨_, L', rfl, hH.sub hs, hq⟩
  have h := run_loadN (P := P) (ty := t) (w := w) (b' := b') (j := 0) ht hl (fun i v h => by rw [Nat.zero_add]; exact (hH.at' hm).cell h)
  simp only [Instr.loadAt, Instr.sureAddr, Sem.run_bind, Sem.run_pure, Result.andThen_ok] at h
  rw [results_cell_tmp hr, hrp.get, hp, hrp.get, hv2]
  simp [asAddr, h, Result.andThen]
theorem q_ret1c {fn : Func} {p b' kk cap n : Nat} {t tt : TypeId} {cs : List Value} {Post : Value → List Bk → Prop} (hr : fn.results = #[.cell p t]) (hp : ov.get base p = .pointer (some ⟨b', 0, none⟩)) (ht : CelN P t n) (hm : ⟨b', tt, kk, cap, cs⟩ ∈ L) (hl : cs.length = n) (hs : List.Sublist L' L) (hq : Post (.agg cs.toArray) L') :
    QL W M (bodyPost P fn (fun e w' => ∃ v L, e = .returned v ∧ Has W M L w' ∧ Post v L) .ret) ov base L := fun a w hrp hH => by
  refine bodyPost_ret (v := .agg cs.toArray) ?_ hrp.defers ⟨_, L', rfl, hH.sub hs, hq⟩
  have h := run_loadN (P := P) (ty := t) (w := w) (b' := b') (j := 0) ht hl (fun i v h => by rw [Nat.zero_add]; exact (hH.at' hm).cell h)
  simp only [Instr.loadAt, Instr.sureAddr, Sem.run_bind, Sem.run_pure, Result.andThen_ok] at h
  have hp2 : a.tmps.getD p undef = .pointer (some ⟨b', 0, none⟩) := by rw [hrp.get, hp]
  have hp' : a.tmps[p]?.getD undef = .pointer (some ⟨b', 0, none⟩) := by simpa using hp2
  simp [results, hr, hp', asAddr, h, Result.andThen]
/-- A row of its own: none yet, or a block. -/
inductive Row (e kk : Nat) : Value → Nat → List Value → List Bk → Prop
  | nil : Row e kk (.slice none 0 0) 0 [] []
  | some {g n cap : Nat} {cs : List Value} (hn : n ≤ cap) (hc : cs.length = n * kk) : Row e kk (.slice (some ⟨g, 0, none⟩) n cap) n cs [⟨g, e, kk, cap, cs⟩]
theorem N_appR {n m c2 e kk bytes : Nat} {a2 : Addr} {z v : Value} {u : TypeId} {cs news : List Value} {B R : List Bk} (hB : Row e kk v n cs B) (hL : List.Perm (B ++ R) L) (hx : ρ x = v) (hy : ρ y = .slice (some a2) m c2) (hu : P.underlying u = some (.slice e)) (hi : (P.info? e).map (fun i => (i.zero, i.size, i.bytes)) = some (some z, kk, bytes))
    (hz : z.cells.size = kk) (hk : 0 < kk) (hr : ∀ w, Has W M L w → ∀ j u, news[j]? = some u → w.cell? (a2.add j) = some u) (hl : news.length = m * kk) (h1 : ∀ u ∈ news, u.oneCell' = true)
    (h63 : n + m ≤ 140737488355328) (hb : (n + m) * bytes ≤ 140737488355328) (hm : 0 < m) :
    N P W M L ρ (.call { callee := .builtin .append, args := #[x, y], argTypes := #[u, u] }) ty (fun p : Nat × Nat => n + m ≤ p.2) (fun p => .slice (some ⟨p.1, 0, none⟩) (n + m) p.2) (fun p => ⟨p.1, e, kk, p.2, cs ++ news⟩ :: R) := fun w hw o ho ht => by
  have hw' := hw.perm hL
  cases hB with
  | nil =>
    obtain ⟨p, w', h1', h2, h3⟩ := N_appN (L := R) hx hy hu hi hz hk (fun w h => hr w (h.perm hL.symm)) hl h1 (by omega) (by simpa using hb) hm w hw' o ho ht
    exact ⟨p, w', by simpa using h1', by simpa using h2, by simpa using h3⟩
  | some hn hc => exact N_app hx hy hu hi hz hk .head hc hn (fun w h => hr w (h.perm hL.symm)) hl h1 h63 hb w hw' o ho ht
end
end Go.Ad
