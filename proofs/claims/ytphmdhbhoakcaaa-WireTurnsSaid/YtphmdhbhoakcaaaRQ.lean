/- A message that is read, as a whole: plain laws. -/
import Derived.Test.YtphmdhbhoakcaaaRP
namespace Go.Proofs.Ytphmdhbhoakcaaa
open Go.RowKit Go.Ad Go.Maps
set_option linter.unusedVariables false
set_option linter.unusedSimpArgs false
section
variable {bs : List UInt8}
/-! ### The parts, by kind -/
def joinX (bs : List UInt8) : Rd (Int × Int) := (n4X bs).pair fun _ => num bs 1 0 1
def upX (bs : List UInt8) : Rd (List Int × Nat × List Int × List Int) := (nums bs 2).pair fun _ => Rd.pair (fun k e => rdRaw bs 4 k e) fun _ => (nums bs 7).pair fun _ => rowX bs
def seatX (bs : List UInt8) : Rd (Int × List Int) := (n4X bs).pair fun _ => rowX bs
def seatsX (bs : List UInt8) : Rd ((Int × List Int) × (Int × List Int) × (Int × List Int) × (Int × List Int)) := (seatX bs).pair fun _ => (seatX bs).pair fun _ => (seatX bs).pair fun _ => seatX bs
def downX (bs : List UInt8) : Rd (List Int × Int × Int × List Int × List Rec × ((Int × List Int) × (Int × List Int) × (Int × List Int) × (Int × List Int)) × Int) :=
  (nums bs 2).pair fun _ => (num bs 1 1 7).pair fun _ => (num bs 1 0 4).pair fun _ => (nums bs 2).pair fun _ => (streamX bs).pair fun _ => (seatsX bs).pair fun _ => n4X bs
def chkX (i t : Int) : Rd Unit := fun k e => ((), k, noted (inB i 0 (t - 1)) e 9)
def dataX (bs : List UInt8) (n : Int) : Rd (List UInt8) := fun k e => if e = 0 then rdBytes bs n.toNat k 0 else ([], k, e)
def chunkHX (bs : List UInt8) : Rd (List Int × Int × Int × Int × Unit × Int) :=
  (nums bs 2).pair fun _ => (n4X bs).pair fun _ => (num bs 1 0 255).pair fun i => (num bs 1 1 16).pair fun t => (chkX i t).pair fun _ => num bs 1 0 64
def chunkX (bs : List UInt8) : Rd ((List Int × Int × Int × Int × Unit × Int) × List UInt8) := (chunkHX bs).pair fun p => dataX bs p.2.2.2.2.2
theorem t_bij : Bij bs (num bs 1 0 1) (fun x => be 1 x.toNat) (fun x => 0 ≤ x ∧ x ≤ 1) := num_bij (by omega) (by omega) (by decide)
theorem st_bij : Bij bs (num bs 1 1 7) (fun x => be 1 x.toNat) (fun x => 1 ≤ x ∧ x ≤ 7) := num_bij (by omega) (by omega) (by decide)
theorem se_bij : Bij bs (num bs 1 0 4) (fun x => be 1 x.toNat) (fun x => 0 ≤ x ∧ x ≤ 4) := num_bij (by omega) (by omega) (by decide)
theorem to_bij : Bij bs (num bs 1 1 16) (fun x => be 1 x.toNat) (fun x => 1 ≤ x ∧ x ≤ 16) := num_bij (by omega) (by omega) (by decide)
theorem dn_bij : Bij bs (num bs 1 0 64) (fun x => be 1 x.toNat) (fun x => 0 ≤ x ∧ x ≤ 64) := num_bij (by omega) (by omega) (by decide)
theorem join_bij : Bij bs (joinX bs) (fun p => be 4 p.1.toNat ++ be 1 p.2.toNat) (fun p => (0 ≤ p.1 ∧ p.1 ≤ 1073741823) ∧ 0 ≤ p.2 ∧ p.2 ≤ 1) := Bij.pair n4_bij (fun _ _ _ he => t_bij.stick he) (fun _ _ => t_bij)
theorem up_bij : Bij bs (upX bs) (fun p => nenc p.1 ++ (be 4 p.2.1 ++ (nenc p.2.2.1 ++ rowEnc p.2.2.2))) (fun p => (p.1.length = 2 ∧ nokAll p.1 = true) ∧ p.2.1 < 256 ^ 4 ∧ (p.2.2.1.length = 7 ∧ nokAll p.2.2.1 = true) ∧ rowOk p.2.2.2 = true) := by
  have h1 := Bij.pair (nums_bij (bs := bs) 7) (fun _ _ _ he => row_bij.stick he) (fun _ _ => row_bij)
  have h2 := Bij.pair (raw_bij (bs := bs) (m := 4) (by omega)) (fun _ _ _ he => h1.stick he) (fun _ _ => h1)
  exact Bij.pair (nums_bij 2) (fun _ _ _ he => h2.stick he) (fun _ _ => h2)
abbrev sEnc (p : Int × List Int) : List UInt8 := be 4 p.1.toNat ++ rowEnc p.2
abbrev sOk (p : Int × List Int) : Prop := (0 ≤ p.1 ∧ p.1 ≤ 1073741823) ∧ rowOk p.2 = true
theorem seat_bij : Bij bs (seatX bs) sEnc sOk := Bij.pair n4_bij (fun _ _ _ he => row_bij.stick he) (fun _ _ => row_bij)
theorem seats_bij : Bij bs (seatsX bs) (fun p => sEnc p.1 ++ (sEnc p.2.1 ++ (sEnc p.2.2.1 ++ sEnc p.2.2.2))) (fun p => sOk p.1 ∧ sOk p.2.1 ∧ sOk p.2.2.1 ∧ sOk p.2.2.2) := by
  have h1 := Bij.pair (seat_bij (bs := bs)) (fun _ _ _ he => seat_bij.stick he) (fun _ _ => seat_bij)
  have h2 := Bij.pair (seat_bij (bs := bs)) (fun _ _ _ he => h1.stick he) (fun _ _ => h1)
  exact Bij.pair seat_bij (fun _ _ _ he => h2.stick he) (fun _ _ => h2)
theorem down_bij : Bij bs (downX bs) (fun p => nenc p.1 ++ (be 1 p.2.1.toNat ++ (be 1 p.2.2.1.toNat ++ (nenc p.2.2.2.1 ++ (streamEnc p.2.2.2.2.1 ++ ((sEnc p.2.2.2.2.2.1.1 ++ (sEnc p.2.2.2.2.2.1.2.1 ++ (sEnc p.2.2.2.2.2.1.2.2.1 ++ sEnc p.2.2.2.2.2.1.2.2.2))) ++ be 4 p.2.2.2.2.2.2.toNat))))))
    (fun p => (p.1.length = 2 ∧ nokAll p.1 = true) ∧ (1 ≤ p.2.1 ∧ p.2.1 ≤ 7) ∧ (0 ≤ p.2.2.1 ∧ p.2.2.1 ≤ 4) ∧ (p.2.2.2.1.length = 2 ∧ nokAll p.2.2.2.1 = true) ∧ (streamOk p.2.2.2.2.1 = true ∧ ∀ r ∈ p.2.2.2.2.1, r = canonR r) ∧ (sOk p.2.2.2.2.2.1.1 ∧ sOk p.2.2.2.2.2.1.2.1 ∧ sOk p.2.2.2.2.2.1.2.2.1 ∧ sOk p.2.2.2.2.2.1.2.2.2) ∧ 0 ≤ p.2.2.2.2.2.2 ∧ p.2.2.2.2.2.2 ≤ 1073741823) := by
  have h1 := Bij.pair (seats_bij (bs := bs)) (fun _ _ _ he => n4_bij.stick he) (fun _ _ => n4_bij)
  have h2 := Bij.pair (stream_bij (bs := bs)) (fun _ _ _ he => h1.stick he) (fun _ _ => h1)
  have h3 := Bij.pair (nums_bij (bs := bs) 2) (fun _ _ _ he => h2.stick he) (fun _ _ => h2)
  have h4 := Bij.pair (se_bij (bs := bs)) (fun _ _ _ he => h3.stick he) (fun _ _ => h3)
  have h5 := Bij.pair (st_bij (bs := bs)) (fun _ _ _ he => h4.stick he) (fun _ _ => h4)
  exact Bij.pair (nums_bij 2) (fun _ _ _ he => h5.stick he) (fun _ _ => h5)
theorem chk_bij (i t : Int) : Bij bs (chkX i t) (fun _ => []) (fun _ => 0 ≤ i ∧ i ≤ t - 1) where
  sound := by
    intro k e x k' h
    simp only [chkX, Prod.mk.injEq] at h
    obtain ⟨_, rfl, h⟩ := h
    unfold noted at h
    split at h
    · simp at h
    · rename_i hc
      refine ⟨h, ?_, rfl, rfl⟩
      cases hb : inB i 0 (t - 1)
      · exact absurd ⟨hb, h⟩ hc
      · simpa [inB] using hb
  comp := by
    intro k x r h1 h2
    have : inB i 0 (t - 1) = true := by simp [inB]; omega
    simp [chkX, noted, this]
  stick := by
    intro k e he
    simp [chkX, noted, he]
theorem chunkH_bij : Bij bs (chunkHX bs) (fun p => nenc p.1 ++ (be 4 p.2.1.toNat ++ (be 1 p.2.2.1.toNat ++ (be 1 p.2.2.2.1.toNat ++ ([] ++ be 1 p.2.2.2.2.2.toNat)))))
    (fun p => (p.1.length = 2 ∧ nokAll p.1 = true) ∧ (0 ≤ p.2.1 ∧ p.2.1 ≤ 1073741823) ∧ (0 ≤ p.2.2.1 ∧ p.2.2.1 ≤ 255) ∧ (1 ≤ p.2.2.2.1 ∧ p.2.2.2.1 ≤ 16) ∧ (0 ≤ p.2.2.1 ∧ p.2.2.1 ≤ p.2.2.2.1 - 1) ∧ 0 ≤ p.2.2.2.2.2 ∧ p.2.2.2.2.2 ≤ 64) := by
  have h1 := fun i t => Bij.pair (chk_bij (bs := bs) i t) (fun _ _ _ he => dn_bij.stick he) (fun _ _ => dn_bij)
  have h2 := fun i => Bij.pair (to_bij (bs := bs)) (fun t _ _ he => (h1 i t).stick he) (fun t _ => h1 i t)
  have h3 := Bij.pair (b_bij (bs := bs)) (fun i _ _ he => (h2 i).stick he) (fun i _ => h2 i)
  have h4 := Bij.pair (n4_bij (bs := bs)) (fun _ _ _ he => h3.stick he) (fun _ _ => h3)
  exact Bij.pair (nums_bij 2) (fun _ _ _ he => h4.stick he) (fun _ _ => h4)
theorem chunk_sound {k : Nat} {e : Int} {x : (List Int × Int × Int × Int × Unit × Int) × List UInt8} {k' : Nat} (h : chunkX bs k e = (x, k', 0)) : e = 0 ∧ (x.1.1.length = 2 ∧ nokAll x.1.1 = true) ∧ (0 ≤ x.1.2.1 ∧ x.1.2.1 ≤ 1073741823) ∧ (0 ≤ x.1.2.2.1 ∧ x.1.2.2.1 ≤ x.1.2.2.2.1 - 1) ∧ (1 ≤ x.1.2.2.2.1 ∧ x.1.2.2.2.1 ≤ 16) ∧ (x.2.length ≤ 64 ∧ x.1.2.2.2.2.2 = (x.2.length : Int)) ∧
    bs.drop k = nenc x.1.1 ++ (be 4 x.1.2.1.toNat ++ (be 1 x.1.2.2.1.toNat ++ (be 1 x.1.2.2.2.1.toNat ++ (be 1 x.2.length ++ (x.2 ++ bs.drop k'))))) := by
  unfold chunkX Rd.pair at h
  generalize hq : chunkHX bs k e = q at h
  obtain ⟨p, k1, e1⟩ := q
  simp only [dataX] at h
  obtain ⟨a1, a2⟩ := x
  simp only [Prod.mk.injEq] at h
  obtain ⟨⟨rfl, h2⟩, h3⟩ := h
  by_cases he : e1 = 0
  · subst he
    rw [if_pos rfl] at h2 h3
    obtain ⟨rfl, ⟨h4, h5, _, h6, h7, h8, h9⟩, rfl, h10⟩ := chunkH_bij.sound hq
    obtain ⟨_, h11, _, h12⟩ := bytes_snd (show rdBytes bs _ _ 0 = (a2, k', 0) from Prod.ext h2 h3)
    refine ⟨rfl, h4, h5, h7, h6, ⟨by simp only; omega, by simp only; omega⟩, ?_⟩
    rw [h10, h12]
    simp only [List.nil_append, List.append_assoc, h11]
  · rw [if_neg he] at h3
    simp only [Prod.mk.injEq] at h3
    exact absurd h3.2 he
theorem chunk_comp {k : Nat} {x : (List Int × Int × Int × Int × Unit × Int) × List UInt8} {r : List UInt8} (h1 : x.1.1.length = 2 ∧ nokAll x.1.1 = true) (h2 : 0 ≤ x.1.2.1 ∧ x.1.2.1 ≤ 1073741823) (h3 : 0 ≤ x.1.2.2.1 ∧ x.1.2.2.1 ≤ x.1.2.2.2.1 - 1) (h4 : 1 ≤ x.1.2.2.2.1 ∧ x.1.2.2.2.1 ≤ 16) (h5 : x.2.length ≤ 64 ∧ x.1.2.2.2.2.2 = (x.2.length : Int))
    (h : bs.drop k = nenc x.1.1 ++ (be 4 x.1.2.1.toNat ++ (be 1 x.1.2.2.1.toNat ++ (be 1 x.1.2.2.2.1.toNat ++ (be 1 x.2.length ++ (x.2 ++ r)))))) : ∃ k', chunkX bs k 0 = (x, k', 0) ∧ bs.drop k' = r ∧ k' ≤ bs.length := by
  obtain ⟨⟨l, b, i, t, _, n⟩, d⟩ := x
  simp only at h1 h2 h3 h4 h5 h
  obtain ⟨h5, rfl⟩ := h5
  have h6 : bs.drop k = (nenc l ++ (be 4 b.toNat ++ (be 1 i.toNat ++ (be 1 t.toNat ++ ([] ++ be 1 ((d.length : Int)).toNat))))) ++ (d ++ r) := by
    rw [h]; simp
  have h7 := chunkH_bij.comp (bs := bs) (x := (l, b, i, t, (), (d.length : Int))) ⟨h1, h2, by simp only; omega, h4, h3, by simp only; omega⟩ h6
  have h8 := drop_more h6
  have hpos : 0 < (nenc l ++ (be 4 b.toNat ++ (be 1 i.toNat ++ (be 1 t.toNat ++ ([] ++ be 1 ((d.length : Int)).toNat))))).length := by
    simp only [List.length_append, be_length]; omega
  simp only at h7
  generalize nenc l ++ (be 4 b.toNat ++ (be 1 i.toNat ++ (be 1 t.toNat ++ ([] ++ be 1 ((d.length : Int)).toNat)))) = E at *
  have hl := congrArg List.length h6
  simp only [List.length_append, List.length_drop] at hl
  have h9 := bytes_cmp (n := d.length) rfl (by omega) h8
  refine ⟨_, ?_, drop_more h8, by omega⟩
  unfold chunkX Rd.pair
  simp only [h7, dataX, if_true, Int.toNat_natCast, h9]
/-! ### Whole messages -/
def joinD (x : Int × Int) : MsgD := { zmsg with kind := 1, transfer := x.1, watch := decide (x.2 = 1) }
def upD (x : List Int × Nat × List Int × List Int) : MsgD := { zmsg with kind := 2, epoch := x.1.getD 0 0, transfer := x.1.getD 1 0, bits := x.2.1, records := x.2.2.1.getD 0 0, heard := fun s => x.2.2.1.getD (s + 1) 0, live := x.2.2.1.getD 5 0, first := x.2.2.1.getD 6 0, inputs := x.2.2.2 }
def q4 (p : (Int × List Int) × (Int × List Int) × (Int × List Int) × (Int × List Int)) : Nat → Int × List Int
  | 0 => p.1
  | 1 => p.2.1
  | 2 => p.2.2.1
  | _ => p.2.2.2
def downD (x : List Int × Int × Int × List Int × List Rec × ((Int × List Int) × (Int × List Int) × (Int × List Int) × (Int × List Int)) × Int) : MsgD :=
  { zmsg with kind := 3, epoch := x.1.getD 0 0, transfer := x.1.getD 1 0, stage := x.2.1, seat := if x.2.2.1 = 4 then -1 else x.2.2.1, base := x.2.2.2.1.getD 0 0, frm := x.2.2.2.1.getD 1 0, stream := x.2.2.2.2.1, firsts := fun s => (q4 x.2.2.2.2.2.1 s).1, seats := fun s => (q4 x.2.2.2.2.2.1 s).2, ack := x.2.2.2.2.2.2 }
def chunkD (x : (List Int × Int × Int × Int × Unit × Int) × List UInt8) : MsgD := { zmsg with kind := 4, epoch := x.1.1.getD 0 0, transfer := x.1.1.getD 1 0, base := x.1.2.1, index := x.1.2.2.1, total := x.1.2.2.2.1, data := x.2, dl := x.2.length }
structure SameC (g o : MsgD) : Prop where
  kind : g.kind = o.kind
  tr : g.transfer = o.transfer
  ep : g.kind ≠ 1 → g.epoch = o.epoch
  watch : g.kind = 1 → g.watch = o.watch
  up : g.kind = 2 → g.bits = o.bits ∧ g.records = o.records ∧ (∀ s, s < 4 → g.heard s = o.heard s) ∧ g.live = o.live ∧ g.first = o.first ∧ g.inputs = o.inputs
  down : g.kind = 3 → g.stage = o.stage ∧ g.seat = o.seat ∧ g.base = o.base ∧ g.frm = o.frm ∧ g.stream.map canonR = o.stream.map canonR ∧ (∀ s, s < 4 → g.firsts s = o.firsts s) ∧ (∀ s, s < 4 → g.seats s = o.seats s) ∧ g.ack = o.ack
  chunk : g.kind = 4 → g.base = o.base ∧ g.index = o.index ∧ g.total = o.total ∧ g.data = o.data
theorem SameC.refl (g : MsgD) : SameC g g := ⟨rfl, rfl, fun _ => rfl, fun _ => rfl, fun _ => ⟨rfl, rfl, fun _ _ => rfl, rfl, rfl, rfl⟩, fun _ => ⟨rfl, rfl, rfl, rfl, rfl, fun _ _ => rfl, fun _ _ => rfl, rfl⟩, fun _ => ⟨rfl, rfl, rfl, rfl⟩⟩
theorem SameC.symm {g o : MsgD} (h : SameC g o) : SameC o g := by
  have hk := h.kind
  refine ⟨h.kind.symm, h.tr.symm, fun h1 => (h.ep (hk ▸ h1)).symm, fun h1 => (h.watch (hk.trans h1)).symm, fun h1 => ?_, fun h1 => ?_, fun h1 => ?_⟩
  · obtain ⟨a, b, c, d, e, f⟩ := h.up (hk.trans h1); exact ⟨a.symm, b.symm, fun s hs => (c s hs).symm, d.symm, e.symm, f.symm⟩
  · obtain ⟨a, b, c, d, e, f, g, i⟩ := h.down (hk.trans h1); exact ⟨a.symm, b.symm, c.symm, d.symm, e.symm, fun s hs => (f s hs).symm, fun s hs => (g s hs).symm, i.symm⟩
  · obtain ⟨a, b, c, d⟩ := h.chunk (hk.trans h1); exact ⟨a.symm, b.symm, c.symm, d.symm⟩
theorem SameC.trans {g o q : MsgD} (h : SameC g o) (h' : SameC o q) : SameC g q := by
  have hk := h.kind
  refine ⟨h.kind.trans h'.kind, h.tr.trans h'.tr, fun h1 => (h.ep h1).trans (h'.ep (hk ▸ h1)), fun h1 => (h.watch h1).trans (h'.watch (hk ▸ h1)), fun h1 => ?_, fun h1 => ?_, fun h1 => ?_⟩
  · obtain ⟨a, b, c, d, e, f⟩ := h.up h1; obtain ⟨a', b', c', d', e', f'⟩ := h'.up (hk ▸ h1); exact ⟨a.trans a', b.trans b', fun s hs => (c s hs).trans (c' s hs), d.trans d', e.trans e', f.trans f'⟩
  · obtain ⟨a, b, c, d, e, f, g, i⟩ := h.down h1; obtain ⟨a', b', c', d', e', f', g', i'⟩ := h'.down (hk ▸ h1); exact ⟨a.trans a', b.trans b', c.trans c', d.trans d', e.trans e', fun s hs => (f s hs).trans (f' s hs), fun s hs => (g s hs).trans (g' s hs), i.trans i'⟩
  · obtain ⟨a, b, c, d⟩ := h.chunk h1; obtain ⟨a', b', c', d'⟩ := h'.chunk (hk ▸ h1); exact ⟨a.trans a', b.trans b', c.trans c', d.trans d'⟩
theorem recEnc_canon (r : Rec) : recEnc (canonR r) = recEnc r := by
  unfold canonR
  split
  · rename_i h; simp [recEnc, recTail, h]
  · split
    · rename_i h; simp [recEnc, recTail, h]
    · split
      · rename_i h; simp [recEnc, recTail, h]
      · rename_i h1 h2 h3; simp [recEnc, recTail, h1, h2, h3]
theorem recOk_canon (r : Rec) : recOk (canonR r) = recOk r := by
  unfold canonR
  split
  · rename_i h; simp [recOk, recTail, h]
  · split
    · rename_i h; simp [recOk, recTail, h]
    · split
      · rename_i h; simp [recOk, recTail, h]
      · rename_i h1 h2 h3; simp [recOk, recTail, h1, h2, h3]
theorem streamEnc_canon (rs : List Rec) : streamEnc (rs.map canonR) = streamEnc rs := by
  simp [streamEnc, List.flatMap_map, recEnc_canon]
theorem streamOk_canon (rs : List Rec) : streamOk (rs.map canonR) = streamOk rs := by
  simp only [streamOk, List.length_map, List.all_map]
  congr 1
  exact congrArg (fun f => rs.all f) (funext fun r => recOk_canon r)
theorem sts_eq {g o : MsgD} (h1 : ∀ s, s < 4 → g.firsts s = o.firsts s) (h2 : ∀ s, s < 4 → g.seats s = o.seats s) : stsEnc g 4 = stsEnc o 4 ∧ stsOk g 4 = stsOk o 4 := by
  have a0 := h1 0 (by omega); have a1 := h1 1 (by omega); have a2 := h1 2 (by omega); have a3 := h1 3 (by omega)
  have b0 := h2 0 (by omega); have b1 := h2 1 (by omega); have b2 := h2 2 (by omega); have b3 := h2 3 (by omega)
  constructor
  · simp [stsEnc, List.range_succ, a0, a1, a2, a3, b0, b1, b2, b3]
  · simp [stsOk, List.range_succ, a0, a1, a2, a3, b0, b1, b2, b3]
theorem SameC.enc {g o : MsgD} (h : SameC g o) (hk : 1 ≤ g.kind ∧ g.kind ≤ 4) (h1 : g.data.length = g.dl) (h2 : o.data.length = o.dl) : encB g = encB o ∧ encOk g = encOk o := by
  have hkk := h.kind
  have htr := h.tr
  obtain hk1 | hk1 | hk1 | hk1 : g.kind = 1 ∨ g.kind = 2 ∨ g.kind = 3 ∨ g.kind = 4 := by omega
  · have hk2 := hkk.symm.trans hk1
    have := h.watch hk1
    constructor
    · simp [encB, fEnc, hk1, hk2, htr, this]
    · simp [encOk, fOk, hk1, hk2, htr]
  · have hk2 := hkk.symm.trans hk1
    have hep := h.ep (by omega)
    obtain ⟨a, b, c, d, e, f⟩ := h.up hk1
    have c0 := c 0 (by omega); have c1 := c 1 (by omega); have c2 := c 2 (by omega); have c3 := c 3 (by omega)
    constructor
    · simp [encB, fEnc, upEnc, hk1, hk2, htr, hep, a, b, c0, c1, c2, c3, d, e, f]
    · simp [encOk, fOk, upOk, hk1, hk2, htr, hep, a, b, c0, c1, c2, c3, d, e, f]
  · have hk2 := hkk.symm.trans hk1
    have hep := h.ep (by omega)
    obtain ⟨a, b, c, d, e, f, q, i⟩ := h.down hk1
    obtain ⟨s1, s2⟩ := sts_eq f q
    have e1 : streamEnc g.stream = streamEnc o.stream := by rw [← streamEnc_canon g.stream, e, streamEnc_canon]
    have e2 : streamOk g.stream = streamOk o.stream := by rw [← streamOk_canon g.stream, e, streamOk_canon]
    have e3 : seatB g = seatB o := by simp [seatB, b]
    constructor
    · simp [encB, fEnc, downEnc, restEnc, hk1, hk2, htr, hep, a, b, c, d, e1, s1, e3, i]
    · simp [encOk, fOk, downOk, restOk, hk1, hk2, htr, hep, a, b, c, d, e2, s2, e3, i]
  · have hk2 := hkk.symm.trans hk1
    have hep := h.ep (by omega)
    obtain ⟨a, b, c, d⟩ := h.chunk hk1
    have hdl : g.dl = o.dl := by rw [← h1, ← h2, d]
    constructor
    · simp [encB, fEnc, chunkEnc, hk1, hk2, htr, hep, a, b, c, d, hdl]
    · simp [encOk, fOk, chunkOk, hk1, hk2, htr, hep, a, b, c, d, hdl]
end
end Go.Proofs.Ytphmdhbhoakcaaa
