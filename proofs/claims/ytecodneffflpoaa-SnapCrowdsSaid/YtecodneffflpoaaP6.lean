/- Worlds as they begin may be. -/
import Derived.Test.YtecodneffflpoaaP5
import Derived.Test.YtecodneffflpoaaP2
namespace Go.Proofs.Ytecodneffflpoaa
open Go.RowKit Go.Ad Go.Maps
set_option linter.unusedVariables false
set_option linter.unusedSimpArgs false
/-- Two items in one place. -/
def sp (x y : Itm) : Prop := x.whr = y.whr ∧ x.a = y.a ∧ x.b = y.b
structure GIt (cells : List UInt8) (x : Itm) : Prop where
  kind : 1 ≤ x.kind ∧ x.kind ≤ 4
  placed : placedM cells x = true
theorem GIt.nz {cells : List UInt8} {x : Itm} (h : GIt cells x) : x.isZ = false := by
  unfold Itm.isZ
  rw [decide_eq_false_iff_not]
  intro hz
  have := h.kind
  omega
structure IInv (cells : List UInt8) (l S : List Itm) : Prop where
  row : ∀ x ∈ l, x.isZ = true ∨ (GIt cells x ∧ x ∈ S)
  dis : ∀ (i j : Nat) (x y : Itm), i < j → l[i]? = some x → l[j]? = some y → x.isZ = false → y.isZ = false → ¬ sp x y
theorem IInv.more {cells : List UInt8} {l S T : List Itm} (h : IInv cells l S) (hs : ∀ x ∈ S, x ∈ T) : IInv cells l T := ⟨fun x hx => (h.row x hx).imp id (fun k => ⟨k.1, hs x k.2⟩), h.dis⟩
theorem IInv.lay {cells : List UInt8} {l S : List Itm} (h : IInv cells l S) {x : Itm} (hx : GIt cells x) (hd : ∀ y ∈ S, ¬ sp y x) : IInv cells (layOne l x) (S ++ [x]) := by
  unfold layOne
  split
  · exact h.more (fun y hy => List.mem_append_left _ hy)
  · rename_i hf
    rcases fnd_lt (p := Itm.isZ) (l.take 40) 0 with h1 | ⟨r, a, h1, h2, h3⟩
    · exact absurd h1 hf
    · rw [h1, Int.toNat_natCast, Nat.zero_add]
      have hr40 := (List.getElem?_eq_some_iff.1 h2).1
      rw [List.length_take] at hr40
      have hrl : r < l.length := by omega
      have hno : ∀ (j : Nat) (y : Itm), l[j]? = some y → y.isZ = false → ¬ sp y x := fun j y hy hz => by
        rcases h.row y (List.mem_of_getElem? hy) with k | k
        · rw [hz] at k; cases k
        · exact hd y k.2
      refine ⟨fun y hy => ?_, fun i j y z hij hy hz hy0 hz0 => ?_⟩
      · rcases List.mem_or_eq_of_mem_set hy with k | k
        · rcases h.row y k with q | q
          · exact .inl q
          · exact .inr ⟨q.1, List.mem_append_left _ q.2⟩
        · subst k
          exact .inr ⟨hx, by simp⟩
      · rw [List.getElem?_set] at hy hz
        by_cases hi : r = i
        · rw [if_pos hi, if_pos hrl] at hy
          rw [if_neg (by omega)] at hz
          obtain rfl : x = y := by simpa using hy
          rintro ⟨q1, q2, q3⟩
          exact hno j z hz hz0 ⟨q1.symm, q2.symm, q3.symm⟩
        · rw [if_neg hi] at hy
          by_cases hj : r = j
          · rw [if_pos hj, if_pos hrl] at hz
            obtain rfl : x = z := by simpa using hz
            exact hno i y hy hy0
          · rw [if_neg hj] at hz
            exact h.dis i j y z hij hy hz hy0 hz0
theorem IInv.lays {cells : List UInt8} : ∀ (ms l S : List Itm), IInv cells l S → (∀ x ∈ ms, GIt cells x) → (∀ y ∈ S, ∀ x ∈ ms, ¬ sp y x) → ms.Pairwise (fun y x => ¬ sp y x) → IInv cells (layM l ms) (S ++ ms)
  | [], l, S, h, _, _, _ => by rw [List.append_nil]; exact h
  | x :: r, l, S, h, hg, hd, hp => by
    obtain ⟨h1, h2⟩ := List.pairwise_cons.1 hp
    have := IInv.lays r (layOne l x) (S ++ [x]) (h.lay (hg x (List.Mem.head _)) (fun y hy => hd y hy x (List.Mem.head _))) (fun y hy => hg y (List.Mem.tail _ hy)) (fun y hy z hz => by
      rcases List.mem_append.1 hy with k | k
      · exact hd y k z (List.Mem.tail _ hz)
      · obtain rfl := List.mem_singleton.1 k
        exact h1 z hz) h2
    rw [List.append_assoc, List.singleton_append] at this
    exact this
theorem IInv.zero (cells : List UInt8) (n : Nat) : IInv cells (List.replicate n Itm.zero) [] := by
  refine ⟨fun x hx => ?_, fun i j x y hij hx hy h0 => ?_⟩
  · rw [List.eq_of_mem_replicate hx]; exact .inl rfl
  · rw [List.eq_of_mem_replicate (List.mem_of_getElem? hx)] at h0
    cases h0
theorem IInv.items {cells : List UInt8} {all S : List Itm} (h : IInv cells all S) : ∀ (l : List Itm) (i : Nat), (∀ (j : Nat) (x : Itm), l[j]? = some x → all[i + j]? = some x) → itemsM cells all l i = true
  | [], _, _ => rfl
  | x :: r, i, hl => by
    have hx : all[i]? = some x := hl 0 x rfl
    have ih := IInv.items h r (i + 1) (fun j f hf => by rw [show i + 1 + j = i + (j + 1) by omega]; exact hl (j + 1) f hf)
    rw [itemsM]
    cases hz : x.isZ
    · rw [if_neg (by simp)]
      rcases h.row x (List.mem_of_getElem? hx) with k | k
      · rw [hz] at k; cases k
      · rw [if_pos]
        · exact ih
        · simp only [Bool.and_eq_true]
          refine ⟨⟨by unfold btw; rw [decide_eq_true_eq]; exact k.1.kind, k.1.placed⟩, ?_⟩
          unfold aloneM
          rw [List.all_eq_true]
          intro y hy
          rw [Bool.not_eq_true', decide_eq_false_iff_not]
          rintro ⟨q1, q2, q3, q4⟩
          obtain ⟨j, hj⟩ := List.mem_iff_getElem?.1 hy
          have hji : j < i := by have := (List.getElem?_eq_some_iff.1 hj).1; rw [List.length_take] at this; omega
          rw [List.getElem?_take_of_lt hji] at hj
          refine h.dis j i y x hji hj hx ?_ hz ⟨q1, q2, q3⟩
          unfold Itm.isZ
          rw [decide_eq_false_iff_not]
          rintro ⟨_, k2, _⟩
          exact q4 k2
    · rw [if_pos rfl]; exact ih
/-- Wares that lie about. -/
structure Ware (cells : List UInt8) (used : List Bool) (x : Itm) : Prop where
  good : GIt cells x
  whr : x.whr = 1
  cell : ∃ z : Nat, z < 384 ∧ x.a = (z : Int) % 24 ∧ x.b = (z : Int) / 24 ∧ used.getD z false = true
theorem used_set {used : List Bool} {z k : Nat} (hl : used.length = 384) (hz : z < 384) : (used.set z true).getD k false = (if z = k then true else used.getD k false) := by
  rw [List.getD_eq_getElem?_getD, List.getD_eq_getElem?_getD, List.getElem?_set]
  by_cases h : z = k
  · rw [if_pos h, if_pos (by omega), if_pos h]; rfl
  · rw [if_neg h, if_neg h]
theorem wares_ok {seed floor : Int} {cells : List UInt8} (hc : cells.length = 384) {f : List Int} : ∀ (n k : Nat) (used : List Bool) (l : List Itm), used.length = 384 → (∀ x ∈ l, Ware cells used x) → l.Pairwise (fun y x => ¬ sp y x) →
    (∀ x ∈ waresM seed floor cells f n k used l, GIt cells x ∧ x.whr = 1) ∧ (waresM seed floor cells f n k used l).Pairwise (fun y x => ¬ sp y x)
  | 0, _, _, l, _, h, hp => ⟨fun x hx => ⟨(h x hx).good, (h x hx).whr⟩, hp⟩
  | n + 1, k, used, l, hl, h, hp => by
    rw [waresM]
    split
    · exact wares_ok hc n (k + 1) used l hl h hp
    · rename_i hpk
      obtain ⟨z, hz, hz1, hz2, _, hz3⟩ := pick_nat hpk
      have hg := gd_rng (n := 4) (by decide) seed floor (40 + k) 1
      obtain ⟨q, hq⟩ : ∃ q, 1 + gd seed floor (40 + k) 1 4 = q := ⟨_, rfl⟩
      rw [hz, hq, Int.toNat_natCast]
      have hin : inM ((z : Int) % 24) ((z : Int) / 24) = true := by simp only [inM, decide_eq_true_eq]; omega
      have hw : walkM (atM cells ((z : Int) % 24) ((z : Int) / 24)) = true := walk1 (x := (z : Int) % 24) (y := (z : Int) / 24) (k := z) hin (by omega) hc (by rw [hz2]; omega)
      refine wares_ok hc n (k + 1) _ _ (by rw [List.length_set]; exact hl) (fun x hx => ?_) ?_
      · rcases List.mem_append.1 hx with hx | hx
        · obtain ⟨h1, h2, z2, h3, h4, h5, h6⟩ := h x hx
          refine ⟨h1, h2, z2, h3, h4, h5, ?_⟩
          rw [used_set hl hz1]
          split
          · rfl
          · exact h6
        · obtain rfl := List.mem_singleton.1 hx
          refine ⟨⟨by simp only; omega, by unfold placedM; simp only; rw [if_pos trivial]; exact hw⟩, rfl, z, hz1, rfl, rfl, by rw [used_set hl hz1, if_pos rfl]⟩
      · rw [List.pairwise_append]
        refine ⟨hp, List.pairwise_singleton _ _, fun y hy x hx => ?_⟩
        obtain rfl := List.mem_singleton.1 hx
        obtain ⟨_, _, z2, h3, h4, h5, h6⟩ := h y hy
        rintro ⟨_, q2, q3⟩
        simp only at q2 q3
        rw [h4] at q2
        rw [h5] at q3
        obtain rfl : z2 = z := by omega
        rw [hz3] at h6
        cases h6
theorem shelf_ok (seed floor : Int) (cells : List UInt8) : ∀ k, k ≤ 3 → (∀ x ∈ shelfM seed floor k, GIt cells x ∧ x.whr = 4 ∧ x.a < k) ∧ (shelfM seed floor k).Pairwise (fun y x => ¬ sp y x)
  | 0, _ => ⟨fun x hx => by simp [shelfM] at hx, by simp [shelfM]⟩
  | k + 1, hk => by
    obtain ⟨h1, h2⟩ := shelf_ok seed floor cells k (by omega)
    have hg := gd_rng (n := 3) (by decide) seed floor (50 + k) 1
    obtain ⟨q, hq⟩ : ∃ q, 1 + gd seed floor (50 + k) 1 3 = q := ⟨_, rfl⟩
    rw [shelfM, hq]
    refine ⟨fun x hx => ?_, ?_⟩
    · rcases List.mem_append.1 hx with hx | hx
      · obtain ⟨q1, q2, q3⟩ := h1 x hx
        exact ⟨q1, q2, by omega⟩
      · obtain rfl := List.mem_singleton.1 hx
        refine ⟨⟨by simp only; omega, ?_⟩, rfl, by simp only; omega⟩
        unfold placedM btw
        simp only
        rw [if_neg (by decide), if_neg (by decide), if_neg (by decide), if_pos trivial]
        simp only [Bool.and_eq_true, decide_eq_true_eq]
        exact ⟨⟨by omega, trivial⟩, by omega⟩
    · rw [List.pairwise_append]
      refine ⟨h2, List.pairwise_singleton _ _, fun y hy x hx => ?_⟩
      obtain rfl := List.mem_singleton.1 hx
      obtain ⟨_, _, q3⟩ := h1 y hy
      rintro ⟨_, k2, _⟩
      simp only at k2
      omega
theorem make_items (seed floor : Int) : (∀ x ∈ (makeM seed floor).items, GIt (makeM seed floor).cells x) ∧ (makeM seed floor).items.Pairwise (fun y x => ¬ sp y x) := by
  have hcl := make_len seed floor
  obtain ⟨h1, h2⟩ := wares_ok (seed := seed) (floor := floor) (cells := (makeM seed floor).cells) hcl (f := distM seed floor) 4 0 (List.replicate 384 false) [] List.length_replicate (fun x hx => by cases hx) List.Pairwise.nil
  obtain ⟨h3, h4⟩ := shelf_ok seed floor (makeM seed floor).cells 3 (Nat.le_refl _)
  have hi : (makeM seed floor).items = waresM seed floor (makeM seed floor).cells (distM seed floor) 4 0 (List.replicate 384 false) [] ++ (if (shopAt seed floor).isSome then shelfM seed floor 3 else []) := rfl
  rw [hi]
  refine ⟨fun x hx => ?_, ?_⟩
  · rcases List.mem_append.1 hx with hx | hx
    · exact (h1 x hx).1
    · split at hx
      · exact (h3 x hx).1
      · cases hx
  · rw [List.pairwise_append]
    refine ⟨h2, ?_, fun y hy x hx => ?_⟩
    · split
      · exact h4
      · exact List.Pairwise.nil
    · split at hx
      · rintro ⟨k1, _⟩
        rw [(h1 y hy).2, (h3 x hx).2.1] at k1
        exact absurd k1 (by decide)
      · cases hx
theorem new_ok (seed : Int) : checkM (newM seed) = 0 := by
  obtain ⟨c1, c2, c3⟩ := make_cells seed 1
  obtain ⟨i1, i2⟩ := make_items seed 1
  have hcl := make_len seed 1
  have hmon : ∀ e ∈ (makeM seed 1).ents, Mon (makeM seed 1).cells e := foes_mon (seed := seed) (floor := 1) (by decide) (cells := (makeM seed 1).cells) hcl (f := distM seed 1) _ _ _ [] (fun e he => by cases he)
  obtain ⟨m, hm⟩ : ∃ q, makeM seed 1 = q := ⟨_, rfl⟩
  have hnew : newM seed = ⟨seed, 0, 1, 0, m.cells, stockEnts (List.replicate 32 Ent.zero) m.ents, layM (List.replicate 40 Itm.zero) m.items, ⟨0, 0, 0, 0⟩⟩ := by rw [← hm]; rfl
  rw [hm] at c1 c2 c3 i1 i2 hcl hmon
  have hE := EInv.stocks m.ents (List.replicate 32 Ent.zero) (EInv.zero m.cells 32) hmon
  have hI := IInv.lays m.items (List.replicate 40 Itm.zero) [] (IInv.zero m.cells 40) i1 (fun y hy => by cases hy) i2
  have hel : (stockEnts (List.replicate 32 Ent.zero) m.ents).length = 32 := by rw [stockEnts_len, List.length_replicate]
  have hil : (layM (List.replicate 40 Itm.zero) m.items).length = 40 := by rw [layM_len, List.length_replicate]
  rw [hnew]
  obtain ⟨es, hes⟩ : ∃ q, stockEnts (List.replicate 32 Ent.zero) m.ents = q := ⟨_, rfl⟩
  obtain ⟨its, hits⟩ : ∃ q, layM (List.replicate 40 Itm.zero) m.items = q := ⟨_, rfl⟩
  rw [hes] at hE hel ⊢
  rw [hits] at hI hil ⊢
  have hh : headM ⟨seed, 0, 1, 0, m.cells, es, its, ⟨0, 0, 0, 0⟩⟩ = 0 := by
    unfold headM
    rw [if_neg (by unfold numsOk btw; simp), if_neg (by unfold sizesOk; simp [hcl, hel, hil]), if_neg (by rw [low_any c1]; simp), if_pos ⟨c2, c3⟩]
  have he : entsM ⟨seed, 0, 1, 0, m.cells, es, its, ⟨0, 0, 0, 0⟩⟩ es 0 = 0 := EInv.ents (d := ⟨seed, 0, 1, 0, m.cells, es, its, ⟨0, 0, 0, 0⟩⟩) hE es 0 (fun j e h => by rw [Nat.zero_add]; exact h)
  have hg : goodsM ⟨seed, 0, 1, 0, m.cells, es, its, ⟨0, 0, 0, 0⟩⟩ = true := by
    unfold goodsM
    simp only [Bool.and_eq_true, decide_eq_true_eq]
    exact ⟨hil, hI.items its 0 (fun j x h => by rw [Nat.zero_add]; exact h)⟩
  unfold checkM
  rw [hh, if_neg (fun k => k rfl)]
  simp only
  rw [he, if_neg (fun k => k rfl), hg]
  rfl
theorem ok_of_check {d : Wd} (h : checkM d = 0) : ∀ x ∈ d.items, Itm.ok x := fun x hx => by
  obtain ⟨_, _, _, h4⟩ := goods_rng (check_all h).2.2 x hx
  unfold b8 at h4
  exact ⟨by omega, by omega⟩
theorem new_seed (seed : Int) : (newM seed).seed = seed := rfl
end Go.Proofs.Ytecodneffflpoaa
