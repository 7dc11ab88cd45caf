/- aditlaw15.Told. -/
import Derived.Test.YtphmdhbhoakcaaaT5
namespace Go.Proofs.Ytphmdhbhoakcaaa
open Go.RowKit Go.Ad Go.Maps
set_option linter.unusedVariables false
set_option linter.unusedSimpArgs false
section
variable {W : World} {g : MsgD}
set_option maxRecDepth 100000 in
set_option maxHeartbeats 800000 in
theorem told_d : Does Try.prog 13 [.agg (msgCells g)] W [] (fun v L => v = .agg (msgCells g) ∧ L = []) := by
  refine enter Try.func13 rfl rfl rfl (Has.start _) ?_
  refine c_seq ?_
  -- law.go:26
  refine c_reg ?_
  refine s_n (N_box rfl) rfl rfl (fun b1 _ => ?_)
  refine s_n (N_alloc (z := .agg #[.int .i64 0, .int .i64 0, .int .i64 0, .bool false, .int .u32 0, .int .i64 0, .int .i64 0, .int .i64 0, .int .i64 0, .int .i64 0, .int .i64 0, .int .i64 0, .slice none 0 0, .int .i64 0, .int .i64 0, .int .i64 0, .int .i64 0, .slice none 0 0, .int .i64 0, .int .i64 0, .int .i64 0, .int .i64 0, .slice none 0 0, .slice none 0 0, .slice none 0 0, .slice none 0 0, .int .i64 0, .int .i64 0, .int .i64 0, .slice none 0 0]) (cs := [.int .i64 0, .int .i64 0, .int .i64 0, .bool false, .int .u32 0, .int .i64 0, .int .i64 0, .int .i64 0, .int .i64 0, .int .i64 0, .int .i64 0, .int .i64 0, .slice none 0 0, .int .i64 0, .int .i64 0, .int .i64 0, .int .i64 0, .slice none 0 0, .int .i64 0, .int .i64 0, .int .i64 0, .int .i64 0, .slice none 0 0, .slice none 0 0, .slice none 0 0, .slice none 0 0, .int .i64 0, .int .i64 0, .int .i64 0, .slice none 0 0]) zv42 rfl) rfl rfl (fun b2 _ => ?_)
  refine s_nil ?_
  refine q_then ?_
  refine c_seq ?_
  -- law.go:27
  refine c_reg ?_
  refine s_y (Y_fa 0 rfl Try.underlying29 rfl sz3 rfl) rfl rfl ?_
  refine s_y ((by first | exact Y_load rfl one3 (by repeat (first | exact List.Mem.head _ | assumption | apply List.Mem.tail | apply List.mem_append_right)) (by rfl) | exact Y_load rfl one3 (by repeat (first | exact List.Mem.head _ | assumption | apply List.Mem.tail | apply List.mem_append_right)) (by assumption) | exact Y_loadR rfl one3 (by assumption) rfl (by assumption))) rfl rfl ?_
  refine s_y (Y_fa 1 rfl Try.underlying29 rfl sz3 rfl) rfl rfl ?_
  refine s_y ((by first | exact Y_load rfl one3 (by repeat (first | exact List.Mem.head _ | assumption | apply List.Mem.tail | apply List.mem_append_right)) (by rfl) | exact Y_load rfl one3 (by repeat (first | exact List.Mem.head _ | assumption | apply List.Mem.tail | apply List.mem_append_right)) (by assumption) | exact Y_loadR rfl one3 (by assumption) rfl (by assumption))) rfl rfl ?_
  refine s_y (Y_fa 2 rfl Try.underlying29 rfl sz3 rfl) rfl rfl ?_
  refine s_y ((by first | exact Y_load rfl one3 (by repeat (first | exact List.Mem.head _ | assumption | apply List.Mem.tail | apply List.mem_append_right)) (by rfl) | exact Y_load rfl one3 (by repeat (first | exact List.Mem.head _ | assumption | apply List.Mem.tail | apply List.mem_append_right)) (by assumption) | exact Y_loadR rfl one3 (by assumption) rfl (by assumption))) rfl rfl ?_
  refine s_y (Y_fa 3 rfl Try.underlying29 rfl sz4 rfl) rfl rfl ?_
  refine s_y ((by first | exact Y_load rfl one4 (by repeat (first | exact List.Mem.head _ | assumption | apply List.Mem.tail | apply List.mem_append_right)) (by rfl) | exact Y_load rfl one4 (by repeat (first | exact List.Mem.head _ | assumption | apply List.Mem.tail | apply List.mem_append_right)) (by assumption) | exact Y_loadR rfl one4 (by assumption) rfl (by assumption))) rfl rfl ?_
  refine s_y (Y_fa 4 rfl Try.underlying29 rfl sz22 rfl) rfl rfl ?_
  refine s_y ((by first | exact Y_load rfl one22 (by repeat (first | exact List.Mem.head _ | assumption | apply List.Mem.tail | apply List.mem_append_right)) (by rfl) | exact Y_load rfl one22 (by repeat (first | exact List.Mem.head _ | assumption | apply List.Mem.tail | apply List.mem_append_right)) (by assumption) | exact Y_loadR rfl one22 (by assumption) rfl (by assumption))) rfl rfl ?_
  refine s_y (Y_fa 5 rfl Try.underlying29 rfl sz3 rfl) rfl rfl ?_
  refine s_y ((by first | exact Y_load rfl one3 (by repeat (first | exact List.Mem.head _ | assumption | apply List.Mem.tail | apply List.mem_append_right)) (by rfl) | exact Y_load rfl one3 (by repeat (first | exact List.Mem.head _ | assumption | apply List.Mem.tail | apply List.mem_append_right)) (by assumption) | exact Y_loadR rfl one3 (by assumption) rfl (by assumption))) rfl rfl ?_
  refine s_y (Y_fa 6 rfl Try.underlying29 rfl sz23 rfl) rfl rfl ?_
  refine s_y (Y_loadN (vs := [.int .i64 (g.heard 0), .int .i64 (g.heard 1), .int .i64 (g.heard 2), .int .i64 (g.heard 3)]) rfl many23 (by repeat (first | exact List.Mem.head _ | assumption | apply List.Mem.tail | apply List.mem_append_right)) rfl (sub_at rfl)) rfl rfl ?_
  refine s_y (Y_fa 10 rfl Try.underlying29 rfl sz3 rfl) rfl rfl ?_
  refine s_y ((by first | exact Y_load rfl one3 (by repeat (first | exact List.Mem.head _ | assumption | apply List.Mem.tail | apply List.mem_append_right)) (by rfl) | exact Y_load rfl one3 (by repeat (first | exact List.Mem.head _ | assumption | apply List.Mem.tail | apply List.mem_append_right)) (by assumption) | exact Y_loadR rfl one3 (by assumption) rfl (by assumption))) rfl rfl ?_
  refine s_y (Y_fa 11 rfl Try.underlying29 rfl sz3 rfl) rfl rfl ?_
  refine s_y ((by first | exact Y_load rfl one3 (by repeat (first | exact List.Mem.head _ | assumption | apply List.Mem.tail | apply List.mem_append_right)) (by rfl) | exact Y_load rfl one3 (by repeat (first | exact List.Mem.head _ | assumption | apply List.Mem.tail | apply List.mem_append_right)) (by assumption) | exact Y_loadR rfl one3 (by assumption) rfl (by assumption))) rfl rfl ?_
  refine s_y (Y_fa 12 rfl Try.underlying29 rfl sz24 rfl) rfl rfl ?_
  refine s_y ((by first | exact Y_load rfl one24 (by repeat (first | exact List.Mem.head _ | assumption | apply List.Mem.tail | apply List.mem_append_right)) (by rfl) | exact Y_load rfl one24 (by repeat (first | exact List.Mem.head _ | assumption | apply List.Mem.tail | apply List.mem_append_right)) (by assumption) | exact Y_loadR rfl one24 (by assumption) rfl (by assumption))) rfl rfl ?_
  refine s_y (Y_fa 13 rfl Try.underlying29 rfl sz3 rfl) rfl rfl ?_
  refine s_y ((by first | exact Y_load rfl one3 (by repeat (first | exact List.Mem.head _ | assumption | apply List.Mem.tail | apply List.mem_append_right)) (by rfl) | exact Y_load rfl one3 (by repeat (first | exact List.Mem.head _ | assumption | apply List.Mem.tail | apply List.mem_append_right)) (by assumption) | exact Y_loadR rfl one3 (by assumption) rfl (by assumption))) rfl rfl ?_
  refine s_y (Y_fa 14 rfl Try.underlying29 rfl sz3 rfl) rfl rfl ?_
  refine s_y ((by first | exact Y_load rfl one3 (by repeat (first | exact List.Mem.head _ | assumption | apply List.Mem.tail | apply List.mem_append_right)) (by rfl) | exact Y_load rfl one3 (by repeat (first | exact List.Mem.head _ | assumption | apply List.Mem.tail | apply List.mem_append_right)) (by assumption) | exact Y_loadR rfl one3 (by assumption) rfl (by assumption))) rfl rfl ?_
  refine s_y (Y_fa 15 rfl Try.underlying29 rfl sz3 rfl) rfl rfl ?_
  refine s_y ((by first | exact Y_load rfl one3 (by repeat (first | exact List.Mem.head _ | assumption | apply List.Mem.tail | apply List.mem_append_right)) (by rfl) | exact Y_load rfl one3 (by repeat (first | exact List.Mem.head _ | assumption | apply List.Mem.tail | apply List.mem_append_right)) (by assumption) | exact Y_loadR rfl one3 (by assumption) rfl (by assumption))) rfl rfl ?_
  refine s_y (Y_fa 16 rfl Try.underlying29 rfl sz3 rfl) rfl rfl ?_
  refine s_y ((by first | exact Y_load rfl one3 (by repeat (first | exact List.Mem.head _ | assumption | apply List.Mem.tail | apply List.mem_append_right)) (by rfl) | exact Y_load rfl one3 (by repeat (first | exact List.Mem.head _ | assumption | apply List.Mem.tail | apply List.mem_append_right)) (by assumption) | exact Y_loadR rfl one3 (by assumption) rfl (by assumption))) rfl rfl ?_
  refine s_y (Y_fa 17 rfl Try.underlying29 rfl sz25 rfl) rfl rfl ?_
  refine s_y ((by first | exact Y_load rfl one25 (by repeat (first | exact List.Mem.head _ | assumption | apply List.Mem.tail | apply List.mem_append_right)) (by rfl) | exact Y_load rfl one25 (by repeat (first | exact List.Mem.head _ | assumption | apply List.Mem.tail | apply List.mem_append_right)) (by assumption) | exact Y_loadR rfl one25 (by assumption) rfl (by assumption))) rfl rfl ?_
  refine s_y (Y_fa 18 rfl Try.underlying29 rfl sz23 rfl) rfl rfl ?_
  refine s_y (Y_loadN (vs := [.int .i64 (g.firsts 0), .int .i64 (g.firsts 1), .int .i64 (g.firsts 2), .int .i64 (g.firsts 3)]) rfl many23 (by repeat (first | exact List.Mem.head _ | assumption | apply List.Mem.tail | apply List.mem_append_right)) rfl (sub_at rfl)) rfl rfl ?_
  refine s_y (Y_fa 22 rfl Try.underlying29 rfl sz26 rfl) rfl rfl ?_
  refine s_y (Y_loadN (vs := [.slice (g.sa 0) (g.sl 0) (g.sc 0), .slice (g.sa 1) (g.sl 1) (g.sc 1), .slice (g.sa 2) (g.sl 2) (g.sc 2), .slice (g.sa 3) (g.sl 3) (g.sc 3)]) rfl many26 (by repeat (first | exact List.Mem.head _ | assumption | apply List.Mem.tail | apply List.mem_append_right)) rfl (sub_at rfl)) rfl rfl ?_
  refine s_y (Y_fa 26 rfl Try.underlying29 rfl sz3 rfl) rfl rfl ?_
  refine s_y ((by first | exact Y_load rfl one3 (by repeat (first | exact List.Mem.head _ | assumption | apply List.Mem.tail | apply List.mem_append_right)) (by rfl) | exact Y_load rfl one3 (by repeat (first | exact List.Mem.head _ | assumption | apply List.Mem.tail | apply List.mem_append_right)) (by assumption) | exact Y_loadR rfl one3 (by assumption) rfl (by assumption))) rfl rfl ?_
  refine s_y (Y_fa 27 rfl Try.underlying29 rfl sz3 rfl) rfl rfl ?_
  refine s_y ((by first | exact Y_load rfl one3 (by repeat (first | exact List.Mem.head _ | assumption | apply List.Mem.tail | apply List.mem_append_right)) (by rfl) | exact Y_load rfl one3 (by repeat (first | exact List.Mem.head _ | assumption | apply List.Mem.tail | apply List.mem_append_right)) (by assumption) | exact Y_loadR rfl one3 (by assumption) rfl (by assumption))) rfl rfl ?_
  refine s_y (Y_fa 28 rfl Try.underlying29 rfl sz3 rfl) rfl rfl ?_
  refine s_y ((by first | exact Y_load rfl one3 (by repeat (first | exact List.Mem.head _ | assumption | apply List.Mem.tail | apply List.mem_append_right)) (by rfl) | exact Y_load rfl one3 (by repeat (first | exact List.Mem.head _ | assumption | apply List.Mem.tail | apply List.mem_append_right)) (by assumption) | exact Y_loadR rfl one3 (by assumption) rfl (by assumption))) rfl rfl ?_
  refine s_y (Y_fa 29 rfl Try.underlying29 rfl sz27 rfl) rfl rfl ?_
  refine s_y ((by first | exact Y_load rfl one27 (by repeat (first | exact List.Mem.head _ | assumption | apply List.Mem.tail | apply List.mem_append_right)) (by rfl) | exact Y_load rfl one27 (by repeat (first | exact List.Mem.head _ | assumption | apply List.Mem.tail | apply List.mem_append_right)) (by assumption) | exact Y_loadR rfl one27 (by assumption) rfl (by assumption))) rfl rfl ?_
  refine s_y (Y_build (cs := (msgCells g).toList) (by repeat (first | exact Gp.nil | apply Gp.const | apply Gp.tmp (by repeat (first | exact Gt.here | apply Gt.there (by rfl) | exact Gt.base (by rfl))))) (bld42 _ _ (by kernel_rfl))) rfl rfl ?_
  refine s_s ((by first | exact S_storeA rfl rfl sz42 (by first | rfl | assumption) (by first | rfl | assumption) (by repeat (first | exact Upd.head | apply Upd.tail)) (by first | rfl | assumption) | exact S_storeN rfl rfl sz42 (by rfl) (by first | rfl | assumption) (by repeat (first | exact Upd.head | apply Upd.tail)) (by simp only [setAll, List.set_cons_zero, List.set_cons_succ, Nat.zero_add, Nat.reduceAdd]; rfl) (by first | rfl | assumption))) rfl ?_
  refine s_nil ?_
  refine q_then ?_
  refine c_ret ?_
  refine q_ret1c rfl rfl many42 (by repeat (first | exact List.Mem.head _ | assumption | apply List.Mem.tail | apply List.mem_append_right)) rfl (L' := []) (by repeat (first | exact List.Sublist.refl _ | exact List.nil_sublist _ | apply List.Sublist.cons_cons | apply List.Sublist.cons)) ⟨rfl, rfl⟩
end
end Go.Proofs.Ytphmdhbhoakcaaa
