/-
  SnapCrowds: for every input the law returns true, and each argument reads afterwards as it read before.
-/
import Derived.Test.YtecodneffflpoaaRows
import Derived.Test.YtecodneffflpoaaE15
import Derived.Test.YtecodneffflpoaaP6
import Derived.Test.YtecodneffflpoaaAR
import Derived.WalkKit
import Derived.ProofKit
import Derived.OpenShut
import Derived.ChangeOld
import Derived.Below
import Derived.SizedLaws
namespace Go.Proofs.Ytecodneffflpoaa.snapCrowds
open Go.ChangeShapes Go.WideShapes Go.ChangeAt Go.RowKit Go.Ad
set_option linter.unusedVariables false

theorem own : ownKnob Try.prog.godebug = none := by kernel_rfl
theorem laidOut : laidOutB Try.prog = true := by kernel_rfl

set_option maxRecDepth 100000 in
theorem lifted (os : Os) (started : os.Started) (H : Type) (enc : TypeId × Value → H) :
    ReturnsInHanded {} Try.checked os 3 .any (Rows.snapCrowdsSpec.pre6 enc Try.prog Try.f3 Rows.snapCrowdsRow.domain false) (Rows.snapCrowdsSpec.post enc Try.prog Try.f3 false true false false) := by
  refine returnsInHanded_of_change_sized (C := Try.checked) own started (by kernel_rfl) Try.func3
    (ChangeSpec.witness6 (enc := enc) (C := Try.checked) false ⟨#[], #[.int .i64 0, .int .i64 0, .slice none 0 0, .slice none 0 0, .int .i64 0], []⟩ 8 (by kernel_rfl) (by kernel_rfl) (by kernel_rfl) (by kernel_rfl)) ?_
  intro W base args ds gs before hval0 hW hcnd hsz _
  have hval : ∀ (j : Nat) t v, Try.f3.params[j]? = some t → args[j]? = some v → Value.okWide Try.prog W .any base t v := hval0
  have hW' := hW
  obtain ⟨p, q, hA0, hV, rfl, hfz, hnd⟩ := hW
  have hA : DataW.TrodAll enc Try.prog W 0 (fun _ => true) true Try.f3.params.toList args.toList ds p := hA0
  rw [Try.params3] at hA hval
  obtain ⟨v0, vs0, d0, ds0, p0, q0, hargs, rfl, rfl, h0, r0⟩ := trodAll_cons hA
  obtain ⟨v1, vs1, d1, ds1, p1, q1, rfl, rfl, rfl, h1, r1⟩ := trodAll_cons r0
  obtain ⟨v2, vs2, d2, ds2, p2, q2, rfl, rfl, rfl, h2, r2⟩ := trodAll_cons r1
  obtain ⟨v3, vs3, d3, ds3, p3, q3, rfl, rfl, rfl, h3, r3⟩ := trodAll_cons r2
  obtain ⟨v4, vs4, d4, ds4, p4, q4, rfl, rfl, rfl, h4, r4⟩ := trodAll_cons r3
  obtain ⟨rfl, rfl, rfl⟩ := trodAll_nil r4
  obtain rfl : args = #[v0, v1, v2, v3, v4] := by cases args; simp_all
  obtain ⟨rfl, rfl⟩ := trodVars_none hV
  have o0 := hval 0 2 v0 rfl rfl
  have k0 := h0
  have lt0 : ∀ x ∈ p0, x.block < W.heap.size := by obtain ⟨m, hm⟩ := k0; exact DataW.trod_lt m _ _ _ hm
  have o1 := hval 1 3 v1 rfl rfl
  have k1 := h1
  have lt1 : ∀ x ∈ p1, x.block < W.heap.size := by obtain ⟨m, hm⟩ := k1; exact DataW.trod_lt m _ _ _ hm
  have o2 := hval 2 22 v2 rfl rfl
  have k2 := h2
  have lt2 : ∀ x ∈ p2, x.block < W.heap.size := by obtain ⟨m, hm⟩ := k2; exact DataW.trod_lt m _ _ _ hm
  have o3 := hval 3 23 v3 rfl rfl
  have k3 := h3
  have lt3 : ∀ x ∈ p3, x.block < W.heap.size := by obtain ⟨m, hm⟩ := k3; exact DataW.trod_lt m _ _ _ hm
  have o4 := hval 4 3 v4 rfl rfl
  have k4 := h4
  have lt4 : ∀ x ∈ p4, x.block < W.heap.size := by obtain ⟨m, hm⟩ := k4; exact DataW.trod_lt m _ _ _ hm
  clear hA0 hval0
  obtain ⟨seed, rfl, _, _, _⟩ := open_int Try.underlying2 o0 h0
  obtain ⟨floor, rfl, _, _, _⟩ := open_int Try.underlying3 o1 h1
  obtain ⟨a2, n2, c2, rfl⟩ := okWide_slice Try.underlying22 o2
  obtain ⟨fuel2, hf2⟩ := h2
  have hf2 : DataW.trod enc Try.prog W 0 (fun _ => true) true fuel2 22 [.slice a2 n2 c2] = some (d2, p2) := by simpa [Value.cells] using hf2
  obtain ⟨ks, hks⟩ := intsV_of Try.underlying22 (by kernel_rfl) Try.underlying3 hf2
  obtain ⟨a3, n3, c3, rfl⟩ := okWide_slice Try.underlying23 o3
  obtain ⟨fuel3, hf3⟩ := h3
  have hf3 : DataW.trod enc Try.prog W 0 (fun _ => true) true fuel3 23 [.slice a3 n3 c3] = some (d3, p3) := by simpa [Value.cells] using hf3
  obtain ⟨its, hits⟩ := items_of hf3
  obtain ⟨frame, rfl, _, _, _⟩ := open_int Try.underlying3 o4 h4
  refine (Does.law (crowds_d (W := W) (new_ok 1) (ok_of_check (new_ok 1)) (dec_enc (new_ok 1) (by rw [new_seed]; decide)) (enc_len (new_ok 1)) hks hits)).mono fun e W' ⟨he, hx⟩ => ?_
  subst he
  have bel := hx.below (Nat.le_refl _) (by simp)
  exact ⟨_, rfl, _, _, _, [], _, [], hW', trodAll_mk1 (shut_bool Try.underlying4 _), (trodAll_cons_mk (Below.trod laidOut (by kernel_rfl) (of_decide_eq_true (by kernel_rfl)) k0 bel lt0) (trodAll_cons_mk (Below.trod laidOut (by kernel_rfl) (of_decide_eq_true (by kernel_rfl)) k1 bel lt1) (trodAll_cons_mk (Below.trod laidOut (by kernel_rfl) (of_decide_eq_true (by kernel_rfl)) k2 bel lt2) (trodAll_cons_mk (Below.trod laidOut (by kernel_rfl) (of_decide_eq_true (by kernel_rfl)) k3 bel lt3) (trodAll_cons_mk (Below.trod laidOut (by kernel_rfl) (of_decide_eq_true (by kernel_rfl)) k4 bel lt4) trodAll_mk0))))), rfl, bel.frame _, fun h => by cases h⟩

theorem over : Rows.snapCrowdsRow.holds Try.pinned (OpenSpec.ofChange Rows.snapCrowdsSpec) :=
  OpenClaim.holds_of_wide 3 Try.f3 rfl rfl rfl rfl rfl rfl rfl ⟨rfl, rfl, rfl, rfl, rfl⟩ rfl rfl rfl rfl rfl (by kernel_rfl) Try.func3 (by kernel_rfl)
    (of_decide_eq_true (by kernel_rfl)) (by unfold Func.isWrapper; first | (rw [if_pos (by decide +kernel)]; kernel_rfl) | (rw [if_neg (by decide +kernel)]; exact ⟨rfl, rfl⟩))
    (fun os started H enc _ => lifted os started H enc)

theorem proved : Rows.SnapCrowdsSaid := over
#print axioms proved
end Go.Proofs.Ytecodneffflpoaa.snapCrowds
