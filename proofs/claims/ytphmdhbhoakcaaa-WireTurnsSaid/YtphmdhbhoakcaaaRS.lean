/- A message that is read: what is written again, and what was written. -/
import Derived.Test.YtphmdhbhoakcaaaRQ
namespace Go.Proofs.Ytphmdhbhoakcaaa
open Go.RowKit Go.Ad Go.Maps
set_option linter.unusedVariables false
set_option linter.unusedSimpArgs false
section
variable {bs : List UInt8}
def pI (bs : List UInt8) (kd : Int) : MsgD × Nat × Int :=
  if kd = 1 then (joinD (joinX bs 1 0).1, (joinX bs 1 0).2)
  else if kd = 2 then (upD (upX bs 1 0).1, (upX bs 1 0).2)
  else if kd = 3 then (downD (downX bs 1 0).1, (downX bs 1 0).2)
  else (chunkD (chunkX bs 1 0).1, (chunkX bs 1 0).2)
/-- How much a message holds. -/
structure Small (g : MsgD) : Prop where
  inp : g.inputs.length ≤ 255
  str : g.stream.length ≤ 400
  sts : ∀ s, s < 4 → (g.seats s).length ≤ 255
  dat : g.data.length ≤ 64
  dl : g.data.length = g.dl
  bits : g.bits < 4294967296
theorem ofNat_toNat' (x : UInt8) : UInt8.ofNat ((x.toNat : Int)).toNat = x := by simp
theorem two {l : List Int} (h : l.length = 2) : l = [l.getD 0 0, l.getD 1 0] := by
  match l, h with
  | [a, b], _ => rfl
theorem seven {l : List Int} (h : l.length = 7) : l = [l.getD 0 0, l.getD 1 0, l.getD 2 0, l.getD 3 0, l.getD 4 0, l.getD 5 0, l.getD 6 0] := by
  match l, h with
  | [a, b, c, d, e, f, g], _ => rfl
theorem row_len {zs : List Int} (h : rowOk zs = true) : zs.length ≤ 255 := by
  simp only [rowOk, Bool.and_eq_true, inB, decide_eq_true_eq] at h
  omega
theorem nok_1 {x : Int} (h : 0 ≤ x ∧ x ≤ 1073741823) : nokAll [x] = true := by simp [nokAll, inB]; exact h
set_option maxRecDepth 100000 in
theorem pI_sound {x : UInt8} {r : List UInt8} {d : MsgD} (hbs : bs = x :: r) (hx : 1 ≤ x.toNat ∧ x.toNat ≤ 4) (h : pI bs x.toNat = (d, bs.length, 0)) : encB d = bs ∧ encOk d = true ∧ d.kind = x.toNat ∧ Small d := by
  have hd1 : bs.drop 1 = r := by rw [hbs]; rfl
  have hd2 : bs.drop bs.length = [] := List.drop_length
  have hxx := ofNat_toNat' x
  unfold pI at h
  obtain hk | hk | hk | hk : x.toNat = 1 ∨ x.toNat = 2 ∨ x.toNat = 3 ∨ x.toNat = 4 := by omega
  · have hki : (x.toNat : Int) = 1 := by omega
    rw [if_pos hki] at h
    simp only [Prod.mk.injEq] at h
    obtain ⟨rfl, h⟩ := h
    obtain ⟨_, ⟨h1, h2⟩, h3, h4⟩ := join_bij.sound (x := (joinX bs 1 0).1) (Prod.ext rfl h)
    rw [hd1, hd2, List.append_nil] at h4
    rw [hki] at hxx
    generalize (joinX bs 1 0).1 = q at *
    obtain ⟨t, n⟩ := q
    (try simp only at h1); (try simp only at h2); (try simp only at h4)
    refine ⟨?_, ?_, by rw [hki]; rfl, ⟨by simp [joinD], by simp [joinD], by simp [joinD], by simp [joinD], by simp [joinD], by simp [joinD]⟩⟩
    · rw [hbs, h4]
      have hn : n = 0 ∨ n = 1 := by omega
      obtain rfl | rfl := hn
      · simp [encB, fEnc, joinD, nenc, be]; exact hxx
      · simp [encB, fEnc, joinD, nenc, be]; exact hxx
    · simp [encOk, fOk, joinD, nok_1 h1]
  · have hki : (x.toNat : Int) = 2 := by omega
    rw [if_neg (by omega), if_pos hki] at h
    simp only [Prod.mk.injEq] at h
    obtain ⟨rfl, h⟩ := h
    obtain ⟨_, ⟨⟨h1, h2⟩, h3, ⟨h4, h5⟩, h6⟩, h7, h8⟩ := up_bij.sound (x := (upX bs 1 0).1) (Prod.ext rfl h)
    rw [hd1, hd2, List.append_nil] at h8
    rw [hki] at hxx
    generalize (upX bs 1 0).1 = q at *
    obtain ⟨l2, b, l7, zs⟩ := q
    (try simp only at h1); (try simp only at h2); (try simp only at h3); (try simp only at h4); (try simp only at h5); (try simp only at h6); (try simp only at h8)
    rw [two h1, seven h4] at h8
    rw [two h1] at h2
    rw [seven h4] at h5
    refine ⟨?_, ?_, by rw [hki]; rfl, ⟨row_len h6, by simp [upD], by simp [upD], by simp [upD], by simp [upD], by simp only [upD]; omega⟩⟩
    · rw [hbs, h8]
      simp [encB, fEnc, upEnc, upD, nenc]; exact hxx
    · simp [nokAll] at h2 h5
      simp [encOk, fOk, upOk, upD, h6, nokAll, h2, h5]
  · have hki : (x.toNat : Int) = 3 := by omega
    rw [if_neg (by omega), if_neg (by omega), if_pos hki] at h
    simp only [Prod.mk.injEq] at h
    obtain ⟨rfl, h⟩ := h
    obtain ⟨_, ⟨⟨h1, h2⟩, h3, h4, ⟨h5, h6⟩, ⟨h7, h8⟩, ⟨⟨a0, b0⟩, ⟨a1, b1⟩, ⟨a2, b2⟩, ⟨a3, b3⟩⟩, h9⟩, h10, h11⟩ := down_bij.sound (x := (downX bs 1 0).1) (Prod.ext rfl h)
    rw [hd1, hd2, List.append_nil] at h11
    rw [hki] at hxx
    generalize (downX bs 1 0).1 = q at *
    obtain ⟨l2, st, se, m2, rs, ⟨⟨f0, z0⟩, ⟨f1, z1⟩, ⟨f2, z2⟩, ⟨f3, z3⟩⟩, ack⟩ := q
    (try simp only at h1); (try simp only at h2); (try simp only at h3); (try simp only at h4); (try simp only at h5); (try simp only at h6); (try simp only at h7); (try simp only at h8); (try simp only at h9); (try simp only at a0); (try simp only at a1); (try simp only at a2); (try simp only at a3); (try simp only at b0); (try simp only at b1); (try simp only at b2); (try simp only at b3); (try simp only at h11)
    rw [two h1, two h5] at h11
    rw [two h1] at h2
    rw [two h5] at h6
    have hseat : seatB (downD (l2, st, se, m2, rs, ((f0, z0), (f1, z1), (f2, z2), (f3, z3)), ack)) = se := by
      simp only [seatB, downD]
      by_cases h12 : se = 4
      · simp [h12]
      · have : ¬ se = -1 := by omega
        simp [h12, this]
    have hs4 : ¬ (downD (l2, st, se, m2, rs, ((f0, z0), (f1, z1), (f2, z2), (f3, z3)), ack)).seat = 4 := by
      simp only [downD]
      split <;> omega
    have hsl : rs.length ≤ 400 := by
      simp only [streamOk, Bool.and_eq_true, inB, decide_eq_true_eq] at h7
      omega
    have hsts : ∀ s, s < 4 → ((downD (l2, st, se, m2, rs, ((f0, z0), (f1, z1), (f2, z2), (f3, z3)), ack)).seats s).length ≤ 255 := by
      intro s hs
      obtain rfl | rfl | rfl | rfl : s = 0 ∨ s = 1 ∨ s = 2 ∨ s = 3 := by omega
      · exact row_len b0
      · exact row_len b1
      · exact row_len b2
      · exact row_len b3
    refine ⟨?_, ?_, by rw [hki]; rfl, ⟨by simp [downD], hsl, hsts, by simp [downD], by simp [downD], by simp [downD]⟩⟩
    · rw [hbs, h11]
      simp only [encB, fEnc, downEnc, restEnc, hseat]
      simp [downD, nenc, stsEnc, List.range_succ, q4, sEnc]; exact hxx
    · have e1 : inB st 1 7 = true := by simp [inB]; exact h3
      have e2 : inB se 0 4 = true := by simp [inB]; exact h4
      have hk3 : (downD (l2, st, se, m2, rs, ((f0, z0), (f1, z1), (f2, z2), (f3, z3)), ack)).kind = 3 := rfl
      have e3 : stsOk (downD (l2, st, se, m2, rs, ((f0, z0), (f1, z1), (f2, z2), (f3, z3)), ack)) 4 = true := by
        simp [stsOk, List.range_succ, downD, q4, nok_1 a0, nok_1 a1, nok_1 a2, nok_1 a3, b0, b1, b2, b3]
      have e4 : nokAll [(downD (l2, st, se, m2, rs, ((f0, z0), (f1, z1), (f2, z2), (f3, z3)), ack)).epoch, (downD (l2, st, se, m2, rs, ((f0, z0), (f1, z1), (f2, z2), (f3, z3)), ack)).transfer] = true := h2
      have e5 : nokAll [(downD (l2, st, se, m2, rs, ((f0, z0), (f1, z1), (f2, z2), (f3, z3)), ack)).base, (downD (l2, st, se, m2, rs, ((f0, z0), (f1, z1), (f2, z2), (f3, z3)), ack)).frm] = true := h6
      have e6 : streamOk (downD (l2, st, se, m2, rs, ((f0, z0), (f1, z1), (f2, z2), (f3, z3)), ack)).stream = true := h7
      have e7 : nokAll [(downD (l2, st, se, m2, rs, ((f0, z0), (f1, z1), (f2, z2), (f3, z3)), ack)).ack] = true := nok_1 h9
      have e8 : inB (downD (l2, st, se, m2, rs, ((f0, z0), (f1, z1), (f2, z2), (f3, z3)), ack)).stage 1 7 = true := e1
      simp [encOk, fOk, downOk, restOk, hk3, hseat, e2, e3, e4, e5, e6, e7, e8, hs4]
  · have hki : (x.toNat : Int) = 4 := by omega
    rw [if_neg (by omega), if_neg (by omega), if_neg (by omega)] at h
    simp only [Prod.mk.injEq] at h
    obtain ⟨rfl, h⟩ := h
    obtain ⟨_, ⟨h1, h2⟩, h3, h4, h5, ⟨h6, h7⟩, h8⟩ := chunk_sound (x := (chunkX bs 1 0).1) (Prod.ext rfl h)
    rw [hd1, hd2, List.append_nil] at h8
    rw [hki] at hxx
    generalize (chunkX bs 1 0).1 = q at *
    obtain ⟨⟨l2, b, i, t, _, n⟩, dt⟩ := q
    (try simp only at h1); (try simp only at h2); (try simp only at h3); (try simp only at h4); (try simp only at h5); (try simp only at h6); (try simp only at h7); (try simp only at h8)
    rw [two h1] at h8 h2
    refine ⟨?_, ?_, by rw [hki]; rfl, ⟨by simp [chunkD], by simp [chunkD], by simp [chunkD], h6, rfl, by simp [chunkD]⟩⟩
    · rw [hbs, h8]
      simp [encB, fEnc, chunkEnc, chunkD, nenc]; exact hxx
    · have e1 : inB i 0 255 = true := by simp [inB]; omega
      have e2 : inB t 1 16 = true := by simp [inB]; omega
      have e3 : inB i 0 (t - 1) = true := by simp [inB]; omega
      have e4 : inB (dt.length : Int) 0 64 = true := by simp [inB]; omega
      have e5 : nokAll [l2.getD 0 0, l2.getD 1 0] = true := h2
      simp only [List.getD_eq_getElem?_getD] at e5
      simp [encOk, fOk, chunkOk, chunkD, e1, e2, e3, e4, e5, nok_1 h3]
/-- What was written is read. -/
theorem pI_comp {g : MsgD} (G : Good g) (hb : g.bits < 4294967296) (hdl : g.data.length = g.dl) : ∃ d, pI (encB g) g.kind = (d, (encB g).length, 0) ∧ SameC g d ∧ d.kind = g.kind := by
  have hkn : (g.kind.toNat : Int) = g.kind := by have := G.kind; omega
  have hb0 : encB g = UInt8.ofNat g.kind.toNat :: fEnc g := rfl
  have hd1 : (encB g).drop 1 = fEnc g := rfl
  have hlast : ∀ k, (encB g).drop k = [] → (1 + (fEnc g).length ≤ k) := fun k h => by
    have := congrArg List.length h
    simp only [List.length_drop, hb0, List.length_cons, List.length_nil] at this
    omega
  have i1 : ∀ {x : Int}, 0 ≤ x ∧ x < P30 → 0 ≤ x ∧ x ≤ 1073741823 := fun h => by simp only [P30] at h; omega
  have i2 : ∀ {x : Int}, 0 ≤ x ∧ x < P30 → inB x 0 1073741823 = true := fun h => by simp only [inB, P30] at h ⊢; simp; omega
  have hrow : ∀ {zs : List Int}, InB zs → rowOk zs = true := fun {zs} h => by
    simp only [rowOk, Bool.and_eq_true, List.all_eq_true]
    exact ⟨by simp [inB]; have := h.1; omega, fun z hz => by simp [inB]; exact h.2 z hz⟩
  unfold pI
  have hkk := G.kind
  obtain hk | hk | hk | hk : g.kind = 1 ∨ g.kind = 2 ∨ g.kind = 3 ∨ g.kind = 4 := by omega
  · rw [if_pos hk]
    have he : fEnc g = (be 4 g.transfer.toNat ++ be 1 (if g.watch then (1 : Int) else 0).toNat) ++ [] := by
      simp only [fEnc, hk, if_true, nenc, List.flatMap_cons, List.flatMap_nil, List.append_nil]
      congr 1
      cases g.watch <;> rfl
    have h := join_bij.comp (bs := encB g) (k := 1) (x := (g.transfer, if g.watch then (1 : Int) else 0)) ⟨i1 G.transfer, by split <;> omega⟩ (by rw [hd1]; exact he)
    rw [h]
    refine ⟨_, Prod.ext rfl (Prod.ext ?_ rfl), ⟨hk, rfl, fun h => absurd hk h, fun _ => ?_, fun h => by omega, fun h => by omega, fun h => by omega⟩, hk.symm⟩
    · simp only [hb0, he, List.length_cons, List.append_nil]; omega
    · simp only [joinD]; cases g.watch <;> rfl
  · rw [if_neg (by omega), if_pos hk]
    have he : fEnc g = (nenc [g.epoch, g.transfer] ++ (be 4 g.bits ++ (nenc [g.records, g.heard 0, g.heard 1, g.heard 2, g.heard 3, g.live, g.first] ++ rowEnc g.inputs))) ++ [] := by
      simp [fEnc, upEnc, hk, nenc]
    have h := up_bij.comp (bs := encB g) (k := 1) (x := ([g.epoch, g.transfer], g.bits, [g.records, g.heard 0, g.heard 1, g.heard 2, g.heard 3, g.live, g.first], g.inputs))
      ⟨⟨rfl, by simp [nokAll, i2 G.epoch, i2 G.transfer]⟩, by simp only; omega, ⟨rfl, by simp [nokAll, i2 G.records, i2 (G.heard 0 (by omega)), i2 (G.heard 1 (by omega)), i2 (G.heard 2 (by omega)), i2 (G.heard 3 (by omega)), i2 G.live, i2 G.first]⟩, hrow G.inputs⟩ (by rw [hd1]; exact he)
    rw [h]
    refine ⟨_, Prod.ext rfl (Prod.ext ?_ rfl), ⟨hk, rfl, fun _ => rfl, fun h => by omega, fun _ => ⟨rfl, rfl, fun s hs => ?_, rfl, rfl, rfl⟩, fun h => by omega, fun h => by omega⟩, hk.symm⟩
    · simp only [hb0, he, List.length_cons, List.append_nil]; omega
    · obtain rfl | rfl | rfl | rfl : s = 0 ∨ s = 1 ∨ s = 2 ∨ s = 3 := by omega
      all_goals rfl
  · rw [if_neg (by omega), if_neg (by omega), if_pos hk]
    have hse := G.seat
    have hsb : 0 ≤ seatB g ∧ seatB g ≤ 4 := by unfold seatB; split <;> omega
    have hst := G.stream
    have e1 : streamOk (g.stream.map canonR) = true := by
      rw [streamOk_canon]
      simp only [streamOk, Bool.and_eq_true, List.all_eq_true]
      refine ⟨by simp [inB]; have := hst.1; omega, fun r hr => ?_⟩
      obtain ⟨a1, a2, a3, a4, a5, a6, a7, a8, a9, a10⟩ := hst.2 r hr
      have b1 := i2 ⟨a7, a8⟩
      have b2 := i2 ⟨a9, a10⟩
      obtain h1 | h1 | h1 : r.kind = 1 ∨ r.kind = 2 ∨ r.kind = 3 := by omega
      · simp [recOk, recTail, h1, inB]; omega
      · have : inB r.seat 0 3 = true := by simp [inB]; omega
        simp [recOk, recTail, h1, nokAll, b1, this]; rfl
      · have : inB r.seat 0 3 = true := by simp [inB]; omega
        simp [recOk, recTail, h1, nokAll, b1, b2, this]; rfl
    have e2 : ∀ r : Rec, canonR r = canonR (canonR r) := fun r => by
      unfold canonR
      split
      · simp
      · split
        · simp
        · split
          · simp
          · rename_i h1 h2 h3; simp [h1, h2, h3]
    have he : fEnc g = (nenc [g.epoch, g.transfer] ++ (be 1 g.stage.toNat ++ (be 1 (seatB g).toNat ++ (nenc [g.base, g.frm] ++ (streamEnc (g.stream.map canonR) ++ ((sEnc (g.firsts 0, g.seats 0) ++ (sEnc (g.firsts 1, g.seats 1) ++ (sEnc (g.firsts 2, g.seats 2) ++ sEnc (g.firsts 3, g.seats 3)))) ++ be 4 g.ack.toNat)))))) ++ [] := by
      rw [streamEnc_canon]
      simp [fEnc, downEnc, restEnc, hk, nenc, stsEnc, List.range_succ, sEnc]
    have h := down_bij.comp (bs := encB g) (k := 1) (x := ([g.epoch, g.transfer], g.stage, seatB g, [g.base, g.frm], g.stream.map canonR, ((g.firsts 0, g.seats 0), (g.firsts 1, g.seats 1), (g.firsts 2, g.seats 2), (g.firsts 3, g.seats 3)), g.ack))
      ⟨⟨rfl, by simp [nokAll, i2 G.epoch, i2 G.transfer]⟩, G.stage, hsb, ⟨rfl, by simp [nokAll, i2 G.base, i2 G.frm]⟩, ⟨e1, fun r hr => by
        obtain ⟨q, _, rfl⟩ := List.mem_map.1 hr
        exact e2 q⟩, ⟨⟨i1 (G.firsts 0 (by omega)), hrow (G.seats 0 (by omega))⟩, ⟨i1 (G.firsts 1 (by omega)), hrow (G.seats 1 (by omega))⟩, ⟨i1 (G.firsts 2 (by omega)), hrow (G.seats 2 (by omega))⟩, ⟨i1 (G.firsts 3 (by omega)), hrow (G.seats 3 (by omega))⟩⟩, i1 G.ack⟩ (by rw [hd1]; exact he)
    rw [h]
    refine ⟨_, Prod.ext rfl (Prod.ext ?_ rfl), ⟨hk, rfl, fun _ => rfl, fun h => by omega, fun h => by omega, fun _ => ⟨rfl, ?_, rfl, rfl, ?_, fun s hs => ?_, fun s hs => ?_, rfl⟩, fun h => by omega⟩, hk.symm⟩
    · simp only [hb0, he, List.length_cons, List.append_nil]; omega
    · simp only [downD, seatB]
      split
      · simp; omega
      · rw [if_neg (by omega)]
    · simp only [downD, List.map_map]
      exact List.map_congr_left fun r _ => e2 r
    · obtain rfl | rfl | rfl | rfl : s = 0 ∨ s = 1 ∨ s = 2 ∨ s = 3 := by omega
      all_goals rfl
    · obtain rfl | rfl | rfl | rfl : s = 0 ∨ s = 1 ∨ s = 2 ∨ s = 3 := by omega
      all_goals rfl
  · rw [if_neg (by omega), if_neg (by omega), if_neg (by omega)]
    have hix := G.index
    have hto := G.total
    have hda := G.data
    have he : fEnc g = nenc [g.epoch, g.transfer] ++ (be 4 g.base.toNat ++ (be 1 g.index.toNat ++ (be 1 g.total.toNat ++ (be 1 g.data.length ++ (g.data ++ []))))) := by
      simp [fEnc, chunkEnc, hk, nenc, hdl]
    obtain ⟨k', h, h2, h5⟩ := chunk_comp (bs := encB g) (k := 1) (x := (([g.epoch, g.transfer], g.base, g.index, g.total, (), (g.data.length : Int)), g.data)) ⟨rfl, by simp [nokAll, i2 G.epoch, i2 G.transfer]⟩ (i1 G.base) ⟨hix.1, by simp only; omega⟩ hto ⟨hda, rfl⟩ (by rw [hd1]; exact he)
    have h4 : k' = (encB g).length := Nat.le_antisymm h5 (by rw [List.drop_eq_nil_iff] at h2; exact h2)
    rw [h, h4]
    refine ⟨_, rfl, ⟨hk, rfl, fun _ => rfl, fun h => by omega, fun h => by omega, fun h => by omega, fun _ => ⟨rfl, rfl, rfl, rfl⟩⟩, hk.symm⟩
end
end Go.Proofs.Ytphmdhbhoakcaaa
