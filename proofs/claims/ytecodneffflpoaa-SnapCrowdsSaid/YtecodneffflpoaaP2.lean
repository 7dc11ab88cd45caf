/- A world that may be is read again as it was: joined. -/
import Derived.Test.YtecodneffflpoaaP1
namespace Go.Ad
set_option linter.unusedVariables false
set_option linter.unusedSimpArgs false
theorem cut_mid {X Y Z : List UInt8} {k m : Nat} (hk : X.length = k) (hm : Y.length = m) : ((X ++ (Y ++ Z)).drop k).take m = Y := by
  rw [List.drop_left' hk, List.take_left' hm]
theorem byteAt_mid {X Z : List UInt8} {k : Nat} {b : UInt8} (hk : X.length = k) : byteAt (X ++ (b :: Z)) k = b.toNat := by
  apply byteAt_of
  rw [List.getElem?_append_right (by omega), hk, Nat.sub_self]
  rfl
theorem flb_get {α : Type} {c : α → List UInt8} {k : Nat} (hk : ∀ a, (c a).length = k) : ∀ {l : List α} {i : Nat} {a : α}, l[i]? = some a → ∀ {j : Nat} {v : UInt8}, (c a)[j]? = some v → (l.flatMap c)[i * k + j]? = some v
  | a0 :: r, 0, a, h, j, v, hj => by
    simp only [List.getElem?_cons_zero, Option.some.injEq] at h
    subst h
    simp only [List.flatMap_cons, Nat.zero_mul, Nat.zero_add]
    rw [List.getElem?_append_left (List.getElem?_eq_some_iff.1 hj).1]; exact hj
  | a0 :: r, i + 1, a, h, j, v, hj => by
    simp only [List.getElem?_cons_succ] at h
    simp only [List.flatMap_cons]
    rw [List.getElem?_append_right (by rw [hk, Nat.succ_mul]; omega), hk, show (i + 1) * k + j - k = i * k + j by rw [Nat.succ_mul]; omega]
    exact flb_get hk h hj
theorem byteAt_row {α : Type} {c : α → List UInt8} {k : Nat} (hk : ∀ a, (c a).length = k) {X Z : List UInt8} {l : List α} {n i j : Nat} {a : α} {z : Int} (hX : X.length = n) (h : l[i]? = some a) (hj : (c a)[j]? = some (byteM z)) (hz : b8 z) : byteAt (X ++ (l.flatMap c ++ Z)) (n + i * k + j) = z := by
  have h1 := flb_get hk h hj
  have h2 : byteAt (X ++ (l.flatMap c ++ Z)) (n + i * k + j) = ((byteM z).toNat : Int) := by
    apply byteAt_of
    rw [Nat.add_assoc, List.getElem?_append_right (by omega), hX, Nat.add_sub_cancel_left, List.getElem?_append_left (List.getElem?_eq_some_iff.1 h1).1]
    exact h1
  rw [h2, byteM_nat]
  exact Int.emod_eq_of_lt hz.1 hz.2
theorem eBytes_one (e : Ent) : (eBytes e).length = 11 := rfl
theorem iBytes_one (x : Itm) : (iBytes x).length = 4 := rfl
theorem range_map_eq {α : Type} {l : List α} {n : Nat} {f : Nat → α} (hn : l.length = n) (h : ∀ i a, l[i]? = some a → f i = a) : (List.range n).map f = l := by
  apply List.ext_getElem?
  intro i
  rw [List.getElem?_map]
  by_cases hi : i < n
  · rw [List.getElem?_range hi, Option.map_some, List.getElem?_eq_getElem (by omega)]
    congr 1
    exact h i _ (List.getElem?_eq_getElem (by omega))
  · rw [List.getElem?_eq_none (by rw [List.length_range]; omega), List.getElem?_eq_none (by omega)]; rfl
theorem four_ext {g h : Four} (h1 : g.a = h.a) (h2 : g.b = h.b) (h3 : g.c = h.c) (h4 : g.d = h.d) : g = h := by
  cases g; cases h; simp_all
theorem enc_len {d : Wd} (h : checkM d = 0) : (encW d).length = 918 := by
  obtain ⟨h1, h2, h3⟩ := check_sizes h
  rw [← encC_all, encC_len _ _ (Nat.le_refl _)]
  omega
theorem dec_enc {d : Wd} (h : checkM d = 0) (hs : -9223372036854775808 ≤ d.seed ∧ d.seed ≤ 9223372036854775807) : decM (encW d) = d := by
  obtain ⟨l1, l2, l3⟩ := check_sizes h
  obtain ⟨hh, he, hg⟩ := check_all h
  have hn := head_nums hh
  unfold numsOk btw at hn
  simp only [Bool.and_eq_true, decide_eq_true_eq] at hn
  obtain ⟨⟨⟨⟨⟨⟨hf, hfl⟩, hst⟩, hga⟩, hgb⟩, hgc⟩, hgd⟩ := hn
  have hw : ∀ z : Int, 0 ≤ z ∧ z < 4294967296 → IntKind.u64.wrap z = z := fun z hz => u64_id (by omega)
  have hA : ∀ k, (encA d k).length = 14 + k * 2 := encA_len d
  have e0 : encW d = [] ++ (beM (IntKind.u64.wrap d.seed) 8 ++ (beM (IntKind.u64.wrap d.frame) 4 ++ ([byteM d.floor, byteM d.state] ++ (goldBytes d.gold 4 ++ (d.cells ++ (d.ents.flatMap eBytes ++ d.items.flatMap iBytes)))))) := by
    rw [encW_eq, headBytes]; simp only [List.append_assoc, List.nil_append]
  have e1 : encW d = beM (IntKind.u64.wrap d.seed) 8 ++ (beM (IntKind.u64.wrap d.frame) 4 ++ ([byteM d.floor, byteM d.state] ++ (goldBytes d.gold 4 ++ (d.cells ++ (d.ents.flatMap eBytes ++ d.items.flatMap iBytes))))) := e0
  have e2 : encW d = (beM (IntKind.u64.wrap d.seed) 8 ++ beM (IntKind.u64.wrap d.frame) 4) ++ (byteM d.floor :: ([byteM d.state] ++ (goldBytes d.gold 4 ++ (d.cells ++ (d.ents.flatMap eBytes ++ d.items.flatMap iBytes))))) := by
    rw [e1]; simp only [List.append_assoc, List.cons_append, List.nil_append]
  have e3 : encW d = (beM (IntKind.u64.wrap d.seed) 8 ++ beM (IntKind.u64.wrap d.frame) 4 ++ [byteM d.floor]) ++ (byteM d.state :: (goldBytes d.gold 4 ++ (d.cells ++ (d.ents.flatMap eBytes ++ d.items.flatMap iBytes)))) := by
    rw [e1]; simp only [List.append_assoc, List.cons_append, List.nil_append]
  have eg : ∀ k, k < 4 → ∃ Z, encW d = encA d k ++ (beM (IntKind.u64.wrap (d.gold.get k)) 2 ++ Z) := by
    intro k hk
    have hx : encW d = encA d 4 ++ (d.cells ++ (d.ents.flatMap eBytes ++ d.items.flatMap iBytes)) := by rw [encW_eq, encA]; simp only [List.append_assoc]
    rcases (show k = 0 ∨ k = 1 ∨ k = 2 ∨ k = 3 by omega) with rfl | rfl | rfl | rfl
    · exact ⟨_, by rw [hx, encA_succ, encA_succ, encA_succ, encA_succ]; simp only [List.append_assoc]; rfl⟩
    · exact ⟨_, by rw [hx, encA_succ, encA_succ, encA_succ]; simp only [List.append_assoc]; rfl⟩
    · exact ⟨_, by rw [hx, encA_succ, encA_succ]; simp only [List.append_assoc]; rfl⟩
    · exact ⟨_, by rw [hx, encA_succ]; simp only [List.append_assoc]; rfl⟩
  have e6 : encW d = encA d 4 ++ (d.cells ++ (d.ents.flatMap eBytes ++ d.items.flatMap iBytes)) := by rw [encW_eq, encA]; simp only [List.append_assoc]
  have e7 : encW d = (encA d 4 ++ d.cells) ++ (d.ents.flatMap eBytes ++ d.items.flatMap iBytes) := by rw [e6, List.append_assoc]
  have e8 : encW d = (encA d 4 ++ d.cells ++ d.ents.flatMap eBytes) ++ (d.items.flatMap iBytes ++ []) := by rw [e7, List.append_nil]; simp only [List.append_assoc]
  have hgk : ∀ k, k < 4 → 0 ≤ d.gold.get k ∧ d.gold.get k ≤ 999 → num2 (encW d) (14 + 2 * k) = d.gold.get k := by
    intro k hk hr
    obtain ⟨Z, hZ⟩ := eg k hk
    unfold num2
    rw [hZ, cut_mid (by rw [hA]; omega) (beM_len _ _), numM_be (by rw [hw _ (by omega)]; exact ⟨by omega, by omega⟩), hw _ (by omega)]
  have b12 : byteAt (encW d) (12 + 0) = d.floor := by
    rw [e2, byteAt_mid (by rw [List.length_append, beM_len, beM_len]), byteM_nat]
    omega
  have b13 : byteAt (encW d) (12 + 1) = d.state := by
    rw [e3, byteAt_mid (by rw [List.length_append, List.length_append, beM_len, beM_len]; rfl), byteM_nat]
    omega
  have hsd : IntKind.i64.wrap (numM (((encW d).drop 0).take 8) : Nat) = d.seed := by
    rw [e1, List.drop_zero, List.take_left' (beM_len _ _), numM_be (by rw [IntKind.wrap_u64]; omega), IntKind.wrap_u64, IntKind.wrap_i64]
    omega
  have hfr : ((numM (((encW d).drop 8).take 4) : Nat) : Int) = d.frame := by
    rw [e1, cut_mid (beM_len _ _) (beM_len _ _), numM_be (by rw [hw _ (by omega)]; omega), hw _ (by omega)]
  have hcl : ((encW d).drop 22).take 384 = d.cells := by
    rw [e6, cut_mid (by rw [hA]) l1]
  have hen : (List.range 32).map (fun i => entAt (encW d) (406 + i * 11)) = d.ents := by
    refine range_map_eq l2 (fun i e hi => ?_)
    have hr := ent_rng (by have := ents_all d.ents 0 he i e hi; rwa [Nat.zero_add] at this)
    obtain ⟨r0, r1, r2, r3, r4, r5, r6, r7, r8, r9, r10⟩ := hr
    have hX : (encA d 4 ++ d.cells).length = 406 := by rw [List.length_append, hA, l1]
    rw [e7]
    unfold entAt
    rw [byteAt_row eBytes_one (j := 0) hX hi rfl r0, byteAt_row eBytes_one (j := 1) hX hi rfl r1, byteAt_row eBytes_one (j := 2) hX hi rfl r2, byteAt_row eBytes_one (j := 3) hX hi rfl r3, byteAt_row eBytes_one (j := 4) hX hi rfl r4, byteAt_row eBytes_one (j := 5) hX hi rfl r5, byteAt_row eBytes_one (j := 6) hX hi rfl r6, byteAt_row eBytes_one (j := 7) hX hi rfl r7, byteAt_row eBytes_one (j := 8) hX hi rfl r8, byteAt_row eBytes_one (j := 9) hX hi rfl r9, byteAt_row eBytes_one (j := 10) hX hi rfl r10]
  have hit : (List.range 40).map (fun i => itmAt (encW d) (758 + i * 4)) = d.items := by
    refine range_map_eq l3 (fun i x hi => ?_)
    obtain ⟨r0, r1, r2, r3⟩ := goods_rng hg x (List.mem_of_getElem? hi)
    have hX : (encA d 4 ++ d.cells ++ d.ents.flatMap eBytes).length = 758 := by rw [List.length_append, List.length_append, hA, l1, eBytes_len, l2]
    rw [e8]
    unfold itmAt
    rw [byteAt_row iBytes_one (j := 0) hX hi rfl r0, byteAt_row iBytes_one (j := 1) hX hi rfl r1, byteAt_row iBytes_one (j := 2) hX hi rfl r2, byteAt_row iBytes_one (j := 3) hX hi rfl r3]
  have hgo : goldD (encW d) 4 = d.gold := four_ext (hgk 0 (by omega) hga) (hgk 1 (by omega) hgb) (hgk 2 (by omega) hgc) (hgk 3 (by omega) hgd)
  cases d
  simp only [decM] at *
  rw [hsd, hfr, b12, b13, hcl, hen, hit, hgo]
end Go.Ad
