/- A datagram that came in. -/
import Derived.Test.YtphmdhbhoakcaaaWireL
import Derived.OpenShut
namespace Go.Proofs.Ytphmdhbhoakcaaa
open Go.RowKit Go.Ad Go.Maps
section
variable {H : Type} {enc : TypeId × Value → H} {W : World} {base : Nat} {sp : Nat → Bool} {held : Bool} {fuel : Nat}
theorem take_one {cs : List Value} {o : Nat} {v : Value} (h : (cs.drop o).take 1 = [v]) : cs[o]? = some v := by
  have := congrArg (fun l => l[0]?) h
  simpa [List.getElem?_take, List.getElem?_drop] using this
theorem take_ex {cs : List Value} {o : Nat} (h : o < cs.length) : ∃ v, (cs.drop o).take 1 = [v] := ⟨cs[o], by
  rw [List.drop_eq_getElem_cons h]; rfl⟩
theorem int_at {cs : List Value} {o : Nat} {x : DataW H × List MemPlace} (h : DataW.trod enc Try.prog W base sp held fuel 3 ((cs.drop o).take 1) = some x) : ∃ n, cs[o]? = some (.int .i64 n) := by
  obtain ⟨n, h1, _⟩ := DataW.trod_int Try.underlying3 h
  exact ⟨n, take_one h1⟩
/-- What is known of a slice's numbers. -/
structure SlN (a : Option Addr) (len cap : Nat) : Prop where
  le : len ≤ 140737488351232
  lc : len ≤ cap
  nil : a = none → len = 0 ∧ cap = 0
theorem sl_at {cs : List Value} {o : Nat} {x : DataW H × List MemPlace} {t e : TypeId} (ht : Try.prog.underlying t = some (.slice e)) (he : 1 ≤ Try.prog.bytesOf e) (hl : o < cs.length)
    (h : DataW.trod enc Try.prog W base sp held fuel t ((cs.drop o).take 1) = some x) (hw : ∀ n ∈ x.1.weights Try.prog t, n ≤ reachBytes) :
    ∃ a len cap, cs[o]? = some (.slice a len cap) ∧ SlN a len cap ∧ DataW.trod enc Try.prog W base sp held fuel t [.slice a len cap] = some x := by
  obtain ⟨v, hv⟩ := take_ex hl
  rw [hv] at h
  obtain ⟨a, len, cap, rfl⟩ := slice_shape ht h
  refine ⟨a, len, cap, take_one hv, ?_, h⟩
  rcases slice_inv ht h with ⟨z1, z2, z3, _⟩ | ⟨ad2, ds2, rest2, f2, z1, z2, _, z3, z4, z5, _⟩
  · exact ⟨by omega, by omega, fun _ => ⟨z2, z3⟩⟩
  · refine ⟨?_, z2, fun hn => by rw [hn] at z1; cases z1⟩
    have := hw ((ds2.length + rest2.length) * Try.prog.bytesOf e) (by rw [z3]; simp only [DataW.weights, ht, List.mem_cons, true_or])
    have h9 : reachBytes = 140737488351232 := by simp [reachBytes]
    have h8 : (ds2.length + rest2.length) * 1 ≤ (ds2.length + rest2.length) * Try.prog.bytesOf e := Nat.mul_le_mul_left _ he
    omega
theorem recs_of {a : Option Addr} {len cap : Nat} {x : DataW H × List MemPlace} (h : DataW.trod enc Try.prog W base sp held fuel 25 [.slice a len cap] = some x) : ∃ zs : List Rec, zs.length = len ∧ RecsAt W a zs := by
  rcases slice_cells Try.underlying25 (k := 5) (by kernel_rfl) (by omega) h with rfl | ⟨b, o, f', rfl, hb, hc⟩
  · exact ⟨[], rfl, .inl rfl⟩
  · have hk : ∀ i, i < len → ∃ r : Rec, ∀ j, j < 5 → W.cell? ⟨b, o + i * 5 + j, none⟩ = r.cells[j]? := fun i hi => by
      obtain ⟨cs, y, hl, hcell, ht⟩ := hc i hi
      obtain ⟨xs, m, _, _, _, hxl, hf⟩ := DataW.trod_struct Try.underlying37 ht
      have c3 : Try.prog.cellsOf 3 = 1 := by kernel_rfl
      have g : ∀ j, j < 5 → ∃ n, cs[j]? = some (.int .i64 n) := fun j hj => by
        obtain ⟨z, hz⟩ : ∃ z, xs[j]? = some z := ⟨xs[j]'(by rw [hxl]; exact hj), by simp⟩
        have hj' : j = 0 ∨ j = 1 ∨ j = 2 ∨ j = 3 ∨ j = 4 := by omega
        rcases hj' with rfl | rfl | rfl | rfl | rfl
        all_goals
          first
          | exact int_at (o := 0) (by have q := hf 0 _ rfl; rw [hz] at q; simpa [c3] using q)
          | exact int_at (o := 1) (by have q := hf 1 _ rfl; rw [hz] at q; simpa [c3] using q)
          | exact int_at (o := 2) (by have q := hf 2 _ rfl; rw [hz] at q; simpa [c3] using q)
          | exact int_at (o := 3) (by have q := hf 3 _ rfl; rw [hz] at q; simpa [c3] using q)
          | exact int_at (o := 4) (by have q := hf 4 _ rfl; rw [hz] at q; simpa [c3] using q)
      obtain ⟨n0, h0⟩ := g 0 (by omega)
      obtain ⟨n1, h1⟩ := g 1 (by omega)
      obtain ⟨n2, h2⟩ := g 2 (by omega)
      obtain ⟨n3, h3⟩ := g 3 (by omega)
      obtain ⟨n4, h4⟩ := g 4 (by omega)
      refine ⟨⟨n0, n1, n2, n3, n4⟩, fun j hj => ?_⟩
      rw [hcell j hj]
      have hj' : j = 0 ∨ j = 1 ∨ j = 2 ∨ j = 3 ∨ j = 4 := by omega
      rcases hj' with rfl | rfl | rfl | rfl | rfl
      · exact h0
      · exact h1
      · exact h2
      · exact h3
      · exact h4
    obtain ⟨f, hf⟩ : ∃ f : Nat → Rec, ∀ i, i < len → ∀ j, j < 5 → W.cell? ⟨b, o + i * 5 + j, none⟩ = (f i).cells[j]? :=
      ⟨fun i => if hi : i < len then Classical.choose (hk i hi) else ⟨0, 0, 0, 0, 0⟩, fun i hi => by
        have := Classical.choose_spec (hk i hi)
        simp only [hi, dif_pos]
        exact this⟩
    refine ⟨(List.range len).map f, by simp, .inr ⟨b, o, rfl, hb, fun j u hu => ?_⟩⟩
    have hj : j < len * 5 := by
      have := (List.getElem?_eq_some_iff.1 hu).1
      rw [rcells_length] at this; simpa using this
    have hi : j / 5 < len := by omega
    have ht : j % 5 < 5 := by omega
    have e : j = j / 5 * 5 + j % 5 := by omega
    have h2 : ((List.range len).map f)[j / 5]? = some (f (j / 5)) := by simp [hi]
    rw [e, rcells_at _ _ _ _ h2 ht] at hu
    have := hf (j / 5) hi (j % 5) ht
    rw [hu] at this
    rw [show o + j = o + j / 5 * 5 + j % 5 by omega]
    exact this
theorem ints_of {t e : TypeId} (ht : Try.prog.underlying t = some (.slice e)) (he : Try.prog.cellsOf e = 1) (hb : Try.prog.underlying e = some (.int .i64))
    {a : Option Addr} {len cap : Nat} {x : DataW H × List MemPlace} (h : DataW.trod enc Try.prog W base sp held fuel t [.slice a len cap] = some x) : ∃ zs : List Int, zs.length = len ∧ IntsAt W a zs := by
  obtain ⟨vs, f', h1, h2, h3, h4⟩ := slice_range ht he h
  have : ∃ zs : List Int, vs = zs.map (Value.int .i64) := by
    clear h1 h4
    induction vs with
    | nil => exact ⟨[], rfl⟩
    | cons v r ih =>
      obtain ⟨zs, rfl⟩ := ih (fun v hv => h3 v (by simp [hv]))
      obtain ⟨y, hy⟩ := h3 v (by simp)
      obtain ⟨b, hb1, _⟩ := DataW.trod_int hb hy
      exact ⟨b :: zs, by simpa using hb1⟩
  obtain ⟨zs, rfl⟩ := this
  refine ⟨zs, by simpa using h1, ?_⟩
  rcases h4 with h4 | h4
  · left; simpa using h4
  · right; exact h4
theorem weightsAll_mem {P : Program} {e : TypeId} : ∀ {ds : List (DataW H)} {i : Nat} {d : DataW H}, ds[i]? = some d → ∀ n ∈ d.weights P e, n ∈ DataW.weightsAll P e ds
  | d0 :: r, 0, d, hd, n, hn => by
    simp only [List.getElem?_cons_zero, Option.some.injEq] at hd
    subst hd
    simp only [DataW.weightsAll, List.mem_append]
    exact .inl hn
  | d0 :: r, i + 1, d, hd, n, hn => by
    simp only [List.getElem?_cons_succ] at hd
    simp only [DataW.weightsAll, List.mem_append]
    exact .inr (weightsAll_mem hd n hn)
  | [], _, _, hd, _, _ => by simp at hd
theorem choose4 {α : Type} (d : α) {p : Nat → α → Prop} (h : ∀ s, s < 4 → ∃ x, p s x) : ∃ f : Nat → α, ∀ s, s < 4 → p s (f s) :=
  ⟨fun i => if hi : i < 4 then Classical.choose (h i hi) else d, fun i hi => by
    have := Classical.choose_spec (h i hi)
    simp only [hi, dif_pos]
    exact this⟩
theorem sub_at {cs : List Value} {o n i : Nat} (h : i < n) : ((cs.drop o).take n)[i]? = cs[o + i]? := by
  rw [List.getElem?_take, if_pos h, List.getElem?_drop]
set_option maxHeartbeats 3200000 in
set_option maxRecDepth 10000 in
theorem msg_of {cs : Array Value} {x : DataW H × List MemPlace} (h : DataW.trod enc Try.prog W base sp held fuel 29 cs.toList = some x) (hw : ∀ n ∈ x.1.weights Try.prog 29, n ≤ reachBytes) :
    ∃ m : MsgD, cs = msgCells m ∧ MsgL m ∧ m.dl ≤ m.dc ∧ (tot m < 2000 → MsgV W m) := by
  obtain ⟨xs, f', _, hx, hl, hxl, hf⟩ := DataW.trod_struct Try.underlying29 h
  have hl30 : cs.toList.length = 30 := by rw [hl]; kernel_rfl
  have hx1 : x.1 = .agg (xs.map (·.1)) := by rw [hx]
  have c3 : Try.prog.cellsOf 3 = 1 := by kernel_rfl
  have c4 : Try.prog.cellsOf 4 = 1 := by kernel_rfl
  have c22 : Try.prog.cellsOf 22 = 1 := by kernel_rfl
  have c23 : Try.prog.cellsOf 23 = 4 := by kernel_rfl
  have c24 : Try.prog.cellsOf 24 = 1 := by kernel_rfl
  have c25 : Try.prog.cellsOf 25 = 1 := by kernel_rfl
  have c26 : Try.prog.cellsOf 26 = 4 := by kernel_rfl
  have c27 : Try.prog.cellsOf 27 = 1 := by kernel_rfl
  have hz : ∀ i, i < 21 → ∃ z, xs[i]? = some z := fun i hi => ⟨xs[i]'(by rw [hxl]; exact hi), by simp⟩
  have hwz : ∀ (i : Nat) (t : TypeId) (z : DataW H × List MemPlace), [3, 3, 3, 4, 22, 3, 23, 3, 3, 24, 3, 3, 3, 3, 25, 23, 26, 3, 3, 3, 27][i]? = some t → xs[i]? = some z → ∀ n ∈ z.1.weights Try.prog t, n ≤ reachBytes := fun i t z ht hz n hn => by
    refine hw n ?_
    rw [hx1]
    simp only [DataW.weights, Try.underlying29]
    exact DataW.weights_mem_each (j := i) (t := t) (d := z.1) ht (by rw [List.getElem?_map, hz]; rfl) n hn
  obtain ⟨n0, e0⟩ : ∃ n, cs.toList[0]? = some (.int .i64 n) := by
    obtain ⟨z, hz⟩ := hz 0 (by omega)
    have q := hf 0 _ rfl
    rw [hz] at q
    exact int_at (o := 0) (by simpa [c3] using q)
  obtain ⟨n1, e1⟩ : ∃ n, cs.toList[1]? = some (.int .i64 n) := by
    obtain ⟨z, hz⟩ := hz 1 (by omega)
    have q := hf 1 _ rfl
    rw [hz] at q
    exact int_at (o := 1) (by simpa [c3] using q)
  obtain ⟨n2, e2⟩ : ∃ n, cs.toList[2]? = some (.int .i64 n) := by
    obtain ⟨z, hz⟩ := hz 2 (by omega)
    have q := hf 2 _ rfl
    rw [hz] at q
    exact int_at (o := 2) (by simpa [c3] using q)
  obtain ⟨n5, e5⟩ : ∃ n, cs.toList[5]? = some (.int .i64 n) := by
    obtain ⟨z, hz⟩ := hz 5 (by omega)
    have q := hf 5 _ rfl
    rw [hz] at q
    exact int_at (o := 5) (by simpa [c3] using q)
  obtain ⟨n10, e10⟩ : ∃ n, cs.toList[10]? = some (.int .i64 n) := by
    obtain ⟨z, hz⟩ := hz 7 (by omega)
    have q := hf 7 _ rfl
    rw [hz] at q
    exact int_at (o := 10) (by simpa [c3] using q)
  obtain ⟨n11, e11⟩ : ∃ n, cs.toList[11]? = some (.int .i64 n) := by
    obtain ⟨z, hz⟩ := hz 8 (by omega)
    have q := hf 8 _ rfl
    rw [hz] at q
    exact int_at (o := 11) (by simpa [c3] using q)
  obtain ⟨n13, e13⟩ : ∃ n, cs.toList[13]? = some (.int .i64 n) := by
    obtain ⟨z, hz⟩ := hz 10 (by omega)
    have q := hf 10 _ rfl
    rw [hz] at q
    exact int_at (o := 13) (by simpa [c3] using q)
  obtain ⟨n14, e14⟩ : ∃ n, cs.toList[14]? = some (.int .i64 n) := by
    obtain ⟨z, hz⟩ := hz 11 (by omega)
    have q := hf 11 _ rfl
    rw [hz] at q
    exact int_at (o := 14) (by simpa [c3] using q)
  obtain ⟨n15, e15⟩ : ∃ n, cs.toList[15]? = some (.int .i64 n) := by
    obtain ⟨z, hz⟩ := hz 12 (by omega)
    have q := hf 12 _ rfl
    rw [hz] at q
    exact int_at (o := 15) (by simpa [c3] using q)
  obtain ⟨n16, e16⟩ : ∃ n, cs.toList[16]? = some (.int .i64 n) := by
    obtain ⟨z, hz⟩ := hz 13 (by omega)
    have q := hf 13 _ rfl
    rw [hz] at q
    exact int_at (o := 16) (by simpa [c3] using q)
  obtain ⟨n26, e26⟩ : ∃ n, cs.toList[26]? = some (.int .i64 n) := by
    obtain ⟨z, hz⟩ := hz 17 (by omega)
    have q := hf 17 _ rfl
    rw [hz] at q
    exact int_at (o := 26) (by simpa [c3] using q)
  obtain ⟨n27, e27⟩ : ∃ n, cs.toList[27]? = some (.int .i64 n) := by
    obtain ⟨z, hz⟩ := hz 18 (by omega)
    have q := hf 18 _ rfl
    rw [hz] at q
    exact int_at (o := 27) (by simpa [c3] using q)
  obtain ⟨n28, e28⟩ : ∃ n, cs.toList[28]? = some (.int .i64 n) := by
    obtain ⟨z, hz⟩ := hz 19 (by omega)
    have q := hf 19 _ rfl
    rw [hz] at q
    exact int_at (o := 28) (by simpa [c3] using q)
  obtain ⟨wb, e3⟩ : ∃ b, cs.toList[3]? = some (.bool b) := by
    obtain ⟨z, hz⟩ := hz 3 (by omega)
    have q := hf 3 _ rfl
    rw [hz] at q
    obtain ⟨b, hb, _⟩ := DataW.trod_bool Try.underlying4 q
    exact ⟨b, take_one (by simpa [c4] using hb)⟩
  obtain ⟨nb, hnb, e4⟩ : ∃ b : Nat, b < 4294967296 ∧ cs.toList[4]? = some (.int .u32 (b : Int)) := by
    obtain ⟨z, hz⟩ := hz 4 (by omega)
    have q := hf 4 _ rfl
    rw [hz] at q
    obtain ⟨b, hb, _, hwf⟩ := DataW.trod_int Try.underlying22 q
    have hb' := take_one (by simpa [c22] using hb)
    simp [Lit.wf, IntKind.min, IntKind.max, IntKind.signed, IntKind.bits] at hwf
    refine ⟨b.toNat, by omega, ?_⟩
    rw [hb', Int.toNat_of_nonneg (by omega)]
  obtain ⟨hf6, hhf6⟩ : ∃ f : Nat → Int, ∀ s, s < 4 → cs.toList[6 + s]? = some (.int .i64 (f s)) := by
    obtain ⟨z, hz⟩ := hz 6 (by omega)
    have q := hf 6 _ rfl
    rw [hz] at q
    obtain ⟨ys, f2, _, hy, hyl, hyn, hel⟩ := DataW.trod_array Try.underlying23 q
    refine choose4 (0 : Int) (p := fun s n => cs.toList[6 + s]? = some (.int .i64 n)) fun s hs => ?_
    obtain ⟨y, hys⟩ : ∃ y, ys[s]? = some y := ⟨ys[s]'(by rw [hyn]; exact hs), by simp⟩
    have q2 := hel s hs
    rw [hys, c3, Nat.mul_one] at q2
    obtain ⟨n, hn⟩ := int_at (o := s) (by simpa [c3] using q2)
    have k1' : ((cs.toList.drop 6).take 4)[s]? = some (.int .i64 n) := by simpa [c23] using hn
    rw [sub_at hs] at k1'
    exact ⟨n, k1'⟩
  obtain ⟨hf18, hhf18⟩ : ∃ f : Nat → Int, ∀ s, s < 4 → cs.toList[18 + s]? = some (.int .i64 (f s)) := by
    obtain ⟨z, hz⟩ := hz 15 (by omega)
    have q := hf 15 _ rfl
    rw [hz] at q
    obtain ⟨ys, f2, _, hy, hyl, hyn, hel⟩ := DataW.trod_array Try.underlying23 q
    refine choose4 (0 : Int) (p := fun s n => cs.toList[18 + s]? = some (.int .i64 n)) fun s hs => ?_
    obtain ⟨y, hys⟩ : ∃ y, ys[s]? = some y := ⟨ys[s]'(by rw [hyn]; exact hs), by simp⟩
    have q2 := hel s hs
    rw [hys, c3, Nat.mul_one] at q2
    obtain ⟨n, hn⟩ := int_at (o := s) (by simpa [c3] using q2)
    have k1' : ((cs.toList.drop 18).take 4)[s]? = some (.int .i64 n) := by simpa [c23] using hn
    rw [sub_at hs] at k1'
    exact ⟨n, k1'⟩
  obtain ⟨ia, il, ic, e12, I1, inputs, I2, I3⟩ : ∃ a l c, cs.toList[12]? = some (.slice a l c) ∧ SlN a l c ∧ ∃ zs : List Int, zs.length = l ∧ IntsAt W a zs := by
    obtain ⟨z, hz⟩ := hz 9 (by omega)
    have q := hf 9 _ rfl
    rw [hz] at q
    obtain ⟨a, l, c, k1, k2, k3⟩ := sl_at (cs := cs.toList) (o := 12) Try.underlying24 (of_decide_eq_true (by kernel_rfl)) (by rw [hl30]; omega) (by simpa [c24] using q) (hwz 9 _ z rfl hz)
    exact ⟨a, l, c, k1, k2, ints_of Try.underlying24 c3 Try.underlying3 k3⟩
  obtain ⟨ra, rl, rc, e17, R1, stream, R2, R3⟩ : ∃ a l c, cs.toList[17]? = some (.slice a l c) ∧ SlN a l c ∧ ∃ zs : List Rec, zs.length = l ∧ RecsAt W a zs := by
    obtain ⟨z, hz⟩ := hz 14 (by omega)
    have q := hf 14 _ rfl
    rw [hz] at q
    obtain ⟨a, l, c, k1, k2, k3⟩ := sl_at (cs := cs.toList) (o := 17) Try.underlying25 (of_decide_eq_true (by kernel_rfl)) (by rw [hl30]; omega) (by simpa [c25] using q) (hwz 14 _ z rfl hz)
    exact ⟨a, l, c, k1, k2, recs_of k3⟩
  obtain ⟨da, dl, dc, e29, D1, data, D2⟩ : ∃ a l c, cs.toList[29]? = some (.slice a l c) ∧ SlN a l c ∧ ∃ zs : List UInt8, BytesAt W a l zs := by
    obtain ⟨z, hz⟩ := hz 20 (by omega)
    have q := hf 20 _ rfl
    rw [hz] at q
    obtain ⟨a, l, c, k1, k2, k3⟩ := sl_at (cs := cs.toList) (o := 29) Try.underlying27 (of_decide_eq_true (by kernel_rfl)) (by rw [hl30]; omega) (by simpa [c27] using q) (hwz 20 _ z rfl hz)
    obtain ⟨bs, _, hB, _⟩ := bytes_of Try.underlying27 (by kernel_rfl) Try.underlying5 k3
    exact ⟨a, l, c, k1, k2, bs, hB⟩
  obtain ⟨sf, hsf⟩ : ∃ sf : Nat → Option Addr × Nat × Nat × List Int, ∀ s, s < 4 → cs.toList[22 + s]? = some (.slice (sf s).1 (sf s).2.1 (sf s).2.2.1) ∧ SlN (sf s).1 (sf s).2.1 (sf s).2.2.1 ∧ (sf s).2.2.2.length = (sf s).2.1 ∧ IntsAt W (sf s).1 (sf s).2.2.2 := by
    obtain ⟨z, hz⟩ := hz 16 (by omega)
    have q := hf 16 _ rfl
    rw [hz] at q
    obtain ⟨ys, f2, _, hy, hyl, hyn, hel⟩ := DataW.trod_array Try.underlying26 q
    refine choose4 ((none, 0, 0, []) : Option Addr × Nat × Nat × List Int) (p := fun s y => cs.toList[22 + s]? = some (.slice y.1 y.2.1 y.2.2.1) ∧ SlN y.1 y.2.1 y.2.2.1 ∧ y.2.2.2.length = y.2.1 ∧ IntsAt W y.1 y.2.2.2) fun s hs => ?_
    obtain ⟨y, hys⟩ : ∃ y, ys[s]? = some y := ⟨ys[s]'(by rw [hyn]; exact hs), by simp⟩
    have q2 := hel s hs
    rw [hys, c24, Nat.mul_one] at q2
    have hwy : ∀ n ∈ y.1.weights Try.prog 24, n ≤ reachBytes := fun n hn => by
      refine hwz 16 _ z rfl hz n ?_
      rw [hy]
      simp only [DataW.weights, Try.underlying26]
      exact weightsAll_mem (i := s) (d := y.1) (by rw [List.getElem?_map, hys]; rfl) n hn
    obtain ⟨a, l, c, k1, k2, k3⟩ := sl_at (o := s) Try.underlying24 (of_decide_eq_true (by kernel_rfl)) (by rw [hyl, c26]; exact hs) q2 hwy
    obtain ⟨zs, j1, j2⟩ := ints_of Try.underlying24 c3 Try.underlying3 k3
    have k1' : ((cs.toList.drop 22).take 4)[s]? = some (.slice a l c) := by simpa [c26] using k1
    rw [sub_at hs] at k1'
    exact ⟨(a, l, c, zs), k1', k2, j1, j2⟩
  refine ⟨⟨n0, n1, n2, wb, nb, n5, hf6, n10, n11, ia, il, ic, inputs, n13, n14, n15, n16, ra, rl, rc, stream, hf18, fun s => (sf s).1, fun s => (sf s).2.1, fun s => (sf s).2.2.1, fun s => (sf s).2.2.2, n26, n27, n28, da, dl, dc, data⟩, ?_, ⟨I1.le, R1.le, D1.le, fun s hs => (hsf s hs).2.1.le⟩, D1.lc, fun ht => ?_⟩
  · apply Array.toList_inj.1
    apply List.ext_getElem?
    intro i
    by_cases hi : i < 30
    · have hi' : i = 0 ∨ i = 1 ∨ i = 2 ∨ i = 3 ∨ i = 4 ∨ i = 5 ∨ i = 6 ∨ i = 7 ∨ i = 8 ∨ i = 9 ∨ i = 10 ∨ i = 11 ∨ i = 12 ∨ i = 13 ∨ i = 14 ∨ i = 15 ∨ i = 16 ∨ i = 17 ∨ i = 18 ∨ i = 19 ∨ i = 20 ∨ i = 21 ∨ i = 22 ∨ i = 23 ∨ i = 24 ∨ i = 25 ∨ i = 26 ∨ i = 27 ∨ i = 28 ∨ i = 29 := by omega
      rcases hi' with rfl | rfl | rfl | rfl | rfl | rfl | rfl | rfl | rfl | rfl | rfl | rfl | rfl | rfl | rfl | rfl | rfl | rfl | rfl | rfl | rfl | rfl | rfl | rfl | rfl | rfl | rfl | rfl | rfl | rfl
      · exact e0
      · exact e1
      · exact e2
      · exact e3
      · exact e4
      · exact e5
      · exact hhf6 0 (by omega)
      · exact hhf6 1 (by omega)
      · exact hhf6 2 (by omega)
      · exact hhf6 3 (by omega)
      · exact e10
      · exact e11
      · exact e12
      · exact e13
      · exact e14
      · exact e15
      · exact e16
      · exact e17
      · exact hhf18 0 (by omega)
      · exact hhf18 1 (by omega)
      · exact hhf18 2 (by omega)
      · exact hhf18 3 (by omega)
      · exact (hsf 0 (by omega)).1
      · exact (hsf 1 (by omega)).1
      · exact (hsf 2 (by omega)).1
      · exact (hsf 3 (by omega)).1
      · exact e26
      · exact e27
      · exact e28
      · exact e29
    · rw [List.getElem?_eq_none (by omega), List.getElem?_eq_none (by simp; omega)]
  · have hsum : ∀ s, s < 4 → (sf s).2.1 ≤ 2000 := fun s hs => by
      simp [tot, slSum, List.range_succ] at ht
      have : s = 0 ∨ s = 1 ∨ s = 2 ∨ s = 3 := by omega
      rcases this with rfl | rfl | rfl | rfl <;> omega
    simp [tot] at ht
    exact ⟨hnb, I3, I2, I1.nil, by show il ≤ _; omega, R3, R2, R1.nil, by show rl ≤ _; omega, fun s hs => (hsf s hs).2.2.2, fun s hs => (hsf s hs).2.2.1, fun s hs => (hsf s hs).2.1.nil, fun s hs => Nat.le_trans (hsum s hs) (by omega), D2, fun h => (D1.nil h).2⟩
end
end Go.Proofs.Ytphmdhbhoakcaaa
