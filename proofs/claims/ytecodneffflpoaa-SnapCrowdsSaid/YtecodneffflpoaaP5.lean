/- Worlds as they begin: cells and entities are fine. -/
import Derived.Test.YtecodneffflpoaaP4
namespace Go.Proofs.Ytecodneffflpoaa
open Go.RowKit Go.Ad Go.Maps
set_option linter.unusedVariables false
set_option linter.unusedSimpArgs false
theorem shop_one {cells : List UInt8} {f : List Int} {v : Int} : ∀ {n k : Nat}, shopM cells f v n = some k → byteAt cells k = 1
  | 0, _, h => by cases h
  | n + 1, k, h => by
    rw [shopM] at h
    cases hs : shopM cells f v n with
    | some q => rw [hs] at h; simp only [Option.some.injEq] at h; subst h; exact shop_one hs
    | none =>
      rw [hs] at h
      simp only at h
      split at h
      · rename_i hc; cases h; exact hc.1
      · cases h
theorem shopAt_one {seed floor : Int} {k : Nat} (h : shopAt seed floor = some k) : byteAt (downM seed floor) k = 1 := by
  unfold shopAt at h
  split at h
  · exact shop_one h
  · cases h
theorem cells_pure {c b dn : List UInt8} {o : Option Nat} {up far : Nat} (hlow : low 2 c) (hcl : c.length = 384) (hu : up < 384) (hfl : far < 384) (hfu : far ≠ up) (hba : ∀ k, byteAt b k = if up = k then 3 else byteAt c k) (hbl : b.length = 384) (hdl : dn.length = 384) (hbase : b = c.set up 3) (hdown : dn = b.set far 4) (hsh : ∀ {k}, o = some k → byteAt dn k = 1) : low 5 (shopC dn o) ∧ cnt 3 (shopC dn o) = 1 ∧ cnt 4 (shopC dn o) = 1 := by
  have hb3 : cnt 3 b = 1 := by
    have h := cnt_set 3 c up 3 (by omega)
    rw [← hbase, if_pos rfl, cnt_none (k := 3) (cells := c) (fun i hi => by have := hlow i; rw [hi] at this; exact absurd this (by decide))] at h
    have := hlow up
    have e : ((3 : UInt8).toNat : Int) = 3 := rfl
    rw [if_neg (by omega)] at h
    omega
  have hb4 : cnt 4 b = 0 := cnt_none (fun i => by
    have := hlow i
    have e : ((4 : UInt8).toNat : Int) = 4 := rfl
    rw [hba]; split <;> omega)
  have hbfar : byteAt b far ≤ 2 := by rw [hba, if_neg (fun h => hfu h.symm)]; exact hlow far
  have hblow : low 3 b := fun k => by rw [hba]; split; exact Int.le_refl _; have := hlow k; omega
  have hd3 : cnt 3 dn = 1 := by
    have h := cnt_set 3 b far 4 (by omega)
    have e : ((3 : UInt8).toNat : Int) = 3 := rfl
    rw [← hdown, if_neg (by omega), if_neg (by decide)] at h
    omega
  have hd4 : cnt 4 dn = 1 := by
    have h := cnt_set 4 b far 4 (by omega)
    have e : ((4 : UInt8).toNat : Int) = 4 := rfl
    rw [← hdown, if_neg (by omega), if_pos rfl] at h
    omega
  have hdlow : low 5 dn := by rw [hdown]; exact low_set (low_mono hblow (by decide)) (by decide)
  cases o with
  | none => exact ⟨hdlow, hd3, hd4⟩
  | some k =>
    have hk1 := hsh rfl
    show low 5 (dn.set k 5) ∧ cnt 3 (dn.set k 5) = 1 ∧ cnt 4 (dn.set k 5) = 1
    by_cases hk : k < dn.length
    · refine ⟨low_set hdlow (by decide), ?_, ?_⟩
      · have h := cnt_set 3 dn k 5 hk
        have e : ((3 : UInt8).toNat : Int) = 3 := rfl
        rw [if_neg (by omega), if_neg (by decide)] at h
        omega
      · have h := cnt_set 4 dn k 5 hk
        have e : ((4 : UInt8).toNat : Int) = 4 := rfl
        rw [if_neg (by omega), if_neg (by decide)] at h
        omega
    · rw [List.set_eq_of_length_le (by omega)]; exact ⟨hdlow, hd3, hd4⟩
theorem make_cells (seed floor : Int) : low 5 (makeM seed floor).cells ∧ cnt 3 (makeM seed floor).cells = 1 ∧ cnt 4 (makeM seed floor).cells = 1 :=
  cells_pure (corr_low seed floor) (by rw [corrsM_len, digRooms_len]) (up_eq seed floor).2 (far_lt (distM seed floor) (up_eq seed floor).2 384 (Nat.le_refl _)) (far_up seed floor) (base_at seed floor) (base_len seed floor) (down_len seed floor) rfl rfl (fun h => shopAt_one h)
/-! ### Entities -/
theorem fnd_neg {α : Type} {p : α → Bool} : ∀ {l : List α} {k : Nat}, fnd p l k < 0 → ∀ a ∈ l, p a = false
  | b :: r, k, h, a, ha => by
    rw [fnd] at h
    cases hb : p b
    · rw [hb] at h
      rcases List.mem_cons.1 ha with rfl | ha
      · exact hb
      · exact fnd_neg (by simpa using h) a ha
    · rw [hb] at h; simp at h; omega
theorem fnd_none {α : Type} {p : α → Bool} : ∀ {l : List α} {k : Nat}, (∀ a ∈ l, p a = false) → fnd p l k < 0
  | [], k, _ => by simp [fnd]
  | b :: r, k, h => by
    rw [fnd, h b (List.Mem.head _)]
    simpa using fnd_none (k := k + 1) (fun a ha => h a (List.Mem.tail _ ha))
/-- A monster as it comes. -/
structure Mon (cells : List UInt8) (e : Ent) : Prop where
  kind : 2 ≤ e.kind ∧ e.kind ≤ 4
  walk : walkM (atM cells e.x e.y) = true
  rest : e.seat = 0 ∧ e.hp = e.max ∧ 1 ≤ e.max ∧ e.max = (statsM e.kind).max ∧ e.atk = (statsM e.kind).atk ∧ e.df = (statsM e.kind).df ∧ e.poison = 0 ∧ e.stun = 0
  gen : 0 ≤ e.gen ∧ e.gen ≤ 255
theorem stats_self {k : Int} (h : 2 ≤ k ∧ k ≤ 4) : (statsM k).kind = k ∧ (statsM k).seat = 0 ∧ (statsM k).hp = (statsM k).max ∧ 1 ≤ (statsM k).max ∧ (statsM k).poison = 0 ∧ (statsM k).stun = 0 ∧ (statsM k).gen = 0 := by
  rcases (show k = 2 ∨ k = 3 ∨ k = 4 by omega) with rfl | rfl | rfl <;> decide
theorem foes_mon {seed floor : Int} (hfl : 1 ≤ floor ∧ floor ≤ 3) {cells : List UInt8} (hc : cells.length = 384) {f : List Int} : ∀ (n k : Nat) (used : List Bool) (l : List Ent), (∀ e ∈ l, Mon cells e) → ∀ e ∈ foesM seed floor cells f n k used l, Mon cells e
  | 0, _, _, l, h => h
  | n + 1, k, used, l, h => by
    rw [foesM]
    simp only
    split
    · exact h
    · rename_i hp
      obtain ⟨z, hz, hz1, hz2, _⟩ := pick_nat hp
      have hg := gd_rng (n := min (floor + 1) 3) (by omega) seed floor (16 + k) 1
      obtain ⟨q, hq⟩ : ∃ q, 2 + gd seed floor (16 + k) 1 (min (floor + 1) 3) = q := ⟨_, rfl⟩
      have hqr : 2 ≤ q ∧ q ≤ 4 := by omega
      rw [hz, hq]
      refine foes_mon hfl hc n (k + 1) _ _ (fun e he => ?_)
      rcases List.mem_append.1 he with he | he
      · exact h e he
      · obtain rfl := List.mem_singleton.1 he
        obtain ⟨s1, s2, s3, s4, s5, s6, s7⟩ := stats_self hqr
        have hin : inM ((z : Int) % 24) ((z : Int) / 24) = true := by simp only [inM, decide_eq_true_eq]; omega
        refine ⟨by simp only; rw [s1]; exact hqr, walk1 (x := (z : Int) % 24) (y := (z : Int) / 24) (k := z) hin (by omega) hc (by rw [hz2]; omega), by simp only; rw [s1]; exact ⟨s2, s3, s4, rfl, rfl, rfl, s5, s6⟩, by simp only; rw [s7]; omega⟩
/-- Rows of entities as they may be at the begin. -/
structure EInv (cells : List UInt8) (l : List Ent) : Prop where
  row : ∀ (i : Nat) (e : Ent), l[i]? = some e → (e = { Ent.zero with gen := e.gen } ∧ 0 ≤ e.gen ∧ e.gen ≤ 255) ∨ Mon cells e
  dis : ∀ (i j : Nat) (e f : Ent), i < j → l[i]? = some e → l[j]? = some f → e.kind ≠ 0 → f.kind ≠ 0 → ¬ (e.x = f.x ∧ e.y = f.y)
theorem genOf_rng {g : Int} (h : 0 ≤ g ∧ g ≤ 255) : 0 ≤ genOf g ∧ genOf g ≤ 255 := by
  unfold genOf
  rw [i64_id (by omega), Int.tmod_eq_emod_of_nonneg (by omega)]
  omega
theorem EInv.stock {cells : List UInt8} {l : List Ent} (h : EInv cells l) {e : Ent} (he : Mon cells e) : EInv cells (stockOne l e) := by
  unfold stockOne
  split
  · rename_i hat
    unfold spawnedM
    split
    · rename_i hc
      have hno := fnd_neg hat
      obtain ⟨r, hr⟩ : ∃ r : Nat, freeRow l = (r : Int) := ⟨(freeRow l).toNat, by omega⟩
      rw [hr, Int.toNat_natCast]
      have hrl : ∃ a, l[r]? = some a ∧ a.kind = 0 := by
        unfold freeRow at hr
        rcases fnd_lt (p := fun e : Ent => decide (e.kind = 0)) (l.take 32) 0 with h1 | ⟨j, a, h1, h2, h3⟩
        · omega
        · obtain rfl : r = j := by omega
          refine ⟨a, ?_, of_decide_eq_true h3⟩
          have := (List.getElem?_eq_some_iff.1 h2).1
          rw [List.length_take] at this
          rw [List.getElem?_take_of_lt (by omega)] at h2
          exact h2
      obtain ⟨a, ha, ha0⟩ := hrl
      have hgen : 0 ≤ a.gen ∧ a.gen ≤ 255 := by
        rcases h.row r a ha with h1 | h1
        · exact h1.2
        · exact h1.gen
      have hgo := genOf_rng hgen
      have hd : l.getD r Ent.zero = a := by rw [List.getD_eq_getElem?_getD, ha]; rfl
      rw [hd]
      obtain ⟨e2, he2⟩ : ∃ q : Ent, ({ e with gen := genOf a.gen } : Ent) = q := ⟨_, rfl⟩
      have hm2 : Mon cells e2 := by rw [← he2]; exact ⟨he.kind, he.walk, he.rest, hgo⟩
      have hx2 : e2.x = e.x ∧ e2.y = e.y := by rw [← he2]; exact ⟨rfl, rfl⟩
      rw [he2]
      have hrlen := (List.getElem?_eq_some_iff.1 ha).1
      refine ⟨fun i f hf => ?_, fun i j f g hij hf hg hf0 hg0 => ?_⟩
      · rw [List.getElem?_set] at hf
        by_cases hi : r = i
        · rw [if_pos hi, if_pos hrlen] at hf
          obtain rfl : e2 = f := by simpa using hf
          exact .inr hm2
        · rw [if_neg hi] at hf
          exact h.row i f hf
      · rw [List.getElem?_set] at hf hg
        by_cases hi : r = i
        · rw [if_pos hi, if_pos hrlen] at hf
          rw [if_neg (by omega)] at hg
          obtain rfl : e2 = f := by simpa using hf
          have := hno g (List.mem_of_getElem? hg)
          simp only [decide_eq_false_iff_not] at this
          rintro ⟨q1, q2⟩
          exact this ⟨hg0, by omega, by omega⟩
        · rw [if_neg hi] at hf
          by_cases hj : r = j
          · rw [if_pos hj, if_pos hrlen] at hg
            obtain rfl : e2 = g := by simpa using hg
            have := hno f (List.mem_of_getElem? hf)
            simp only [decide_eq_false_iff_not] at this
            rintro ⟨q1, q2⟩
            exact this ⟨hf0, by omega, by omega⟩
          · rw [if_neg hj] at hg
            exact h.dis i j f g hij hf hg hf0 hg0
    · exact h
  · exact h
theorem EInv.stocks {cells : List UInt8} : ∀ (es l : List Ent), EInv cells l → (∀ e ∈ es, Mon cells e) → EInv cells (stockEnts l es)
  | [], l, h, _ => h
  | e :: r, l, h, he => EInv.stocks r (stockOne l e) (h.stock (he e (List.Mem.head _))) (fun a ha => he a (List.Mem.tail _ ha))
theorem EInv.zero (cells : List UInt8) (n : Nat) : EInv cells (List.replicate n Ent.zero) := by
  refine ⟨fun i e h => ?_, fun i j e f hij he hf h0 => ?_⟩
  · obtain rfl := List.eq_of_mem_replicate (List.mem_of_getElem? h)
    exact .inl ⟨rfl, by decide, by decide⟩
  · obtain rfl := List.eq_of_mem_replicate (List.mem_of_getElem? he)
    exact absurd rfl h0
theorem EInv.ents {d : Wd} (h : EInv d.cells d.ents) : ∀ (l : List Ent) (i : Nat), (∀ (j : Nat) (e : Ent), l[j]? = some e → d.ents[i + j]? = some e) → entsM d l i = 0
  | [], _, _ => rfl
  | e :: r, i, hl => by
    have he : d.ents[i]? = some e := hl 0 e rfl
    have h0 : entM d i e = 0 := by
      unfold entM
      rcases h.row i e he with ⟨h1, h2⟩ | hm
      · have hk : e.kind = 0 := by rw [h1]
        rw [if_neg (by rw [hk]; decide), if_pos]
        unfold fitsM btw
        rw [if_pos hk]
        simp only [Bool.and_eq_true, decide_eq_true_eq]
        refine ⟨h2, ?_⟩
        rw [h1]
        exact ⟨rfl, rfl, rfl, rfl, rfl, rfl, rfl, rfl, rfl⟩
      · have hk := hm.kind
        obtain ⟨r1, r2, r3, r4, r5, r6, r7, r8⟩ := hm.rest
        rw [if_neg (by unfold btw; simp; omega), if_pos]
        rw [fits_iff (by omega)]
        refine ⟨hm.gen, hm.walk, ?_, by omega, r4, r5, r6, by omega, by omega, fun h1 => by omega, fun _ => r1⟩
        refine fnd_none (fun a ha => ?_)
        rw [decide_eq_false_iff_not]
        rintro ⟨q1, q2, q3⟩
        obtain ⟨j, hj⟩ := List.mem_iff_getElem?.1 ha
        have hji : j < i := by have := (List.getElem?_eq_some_iff.1 hj).1; rw [List.length_take] at this; omega
        rw [List.getElem?_take_of_lt hji] at hj
        exact h.dis j i a e hji hj he q1 (by omega) ⟨q2, q3⟩
    rw [entsM, h0, if_neg (fun k => k rfl)]
    exact EInv.ents h r (i + 1) (fun j f hf => by rw [show i + 1 + j = i + (j + 1) by omega]; exact hl (j + 1) f hf)
end Go.Proofs.Ytecodneffflpoaa
