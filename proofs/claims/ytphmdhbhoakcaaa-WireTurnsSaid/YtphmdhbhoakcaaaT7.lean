/- aditref15's writer: only how much it writes. -/
import Derived.Test.YtphmdhbhoakcaaaT6
namespace Go.Proofs.Ytphmdhbhoakcaaa
open Go.RowKit Go.Ad Go.Maps
set_option linter.unusedVariables false
set_option linter.unusedSimpArgs false
def U8 (cs : List Value) : Prop := ∀ v ∈ cs, ∃ x : UInt8, v = bv x
theorem u8_any (z : Int) : ∃ x : UInt8, Value.int .u8 (IntKind.u8.wrap z) = bv x := by
  refine ⟨UInt8.ofNat (IntKind.u8.wrap z).toNat, ?_⟩
  rw [IntKind.wrap_u8]
  have h1 := Int.emod_nonneg z (show (256 : Int) ≠ 0 by decide)
  have h2 := Int.emod_lt_of_pos z (show (0 : Int) < 256 by decide)
  simp only [bv]
  congr 1
  rw [UInt8.toNat_ofNat']
  omega
abbrev oB (b g n cp : Nat) : Bk := ⟨b, 61, 2, 1, [.slice (some ⟨g, 0, none⟩) n cp, .bool false]⟩
def OutL (b n : Nat) (L : List Bk) : Prop := ∃ g cp cs, cs.length = n ∧ n ≤ cp ∧ U8 cs ∧ L = [oB b g n cp, ⟨g, 5, 1, cp, cs⟩]
section
variable {W : World} {b g n cp : Nat} {cs : List Value}
set_option maxRecDepth 100000 in
theorem outsmall_d {v f t : Int} (hv : f ≤ v ∧ v ≤ t) (hx : (oB b g n cp).holds W) (hy : (⟨g, 5, 1, cp, cs⟩ : Bk).holds W) (hne : b ≠ g) (hl : cs.length = n) (hc : n ≤ cp) (hn : n ≤ 100000) (hu : U8 cs) : Does Try.prog 24 [ptr b, .int .i64 v, .int .i64 f, .int .i64 t] W [b, g] (fun v L => v = .tuple #[] ∧ OutL b (n + 1) L) := by
  refine enter Try.func24 rfl rfl rfl (Has.starts (xs := [oB b g n cp, ⟨g, 5, 1, cp, cs⟩]) (by simp; exact ⟨hx, hy⟩) (by simpa using hne)) ?_
  refine c_seq ?_
  refine c_reg ?_
  refine s_y (Y_mv) rfl rfl ?_
  refine s_y (Y_mv) rfl rfl ?_
  refine s_y ((by first | exact Y_nil rfl | exact Y_nilF rfl | exact Y_nilM rfl (by assumption) | exact Y_nilM rfl (by intro w k; kernel_rfl))) rfl rfl ?_
  refine s_y (Y_fa 1 rfl Try.underlying61 rfl sz4 rfl) rfl rfl ?_
  refine s_y ((by first | exact Y_load rfl one4 (by repeat (first | exact List.Mem.head _ | assumption | apply List.Mem.tail | apply List.mem_append_right)) (by rfl) | exact Y_load rfl one4 (by repeat (first | exact List.Mem.head _ | assumption | apply List.Mem.tail | apply List.mem_append_right)) (by assumption) | exact Y_loadR rfl one4 (by assumption) rfl (by assumption))) rfl rfl ?_
  refine s_y (Y_mv) rfl rfl ?_
  refine s_known (d := 13) rfl rfl ?_
  first | refine s_y (Y_mv) rfl rfl ?_ | refine s_pass rfl rfl ?_
  first | refine s_y (Y_mv) rfl rfl ?_ | refine s_pass rfl rfl ?_
  first | refine s_y (Y_lss rfl rfl) rfl rfl ?_ | refine s_pass rfl rfl ?_
  refine s_y (Y_pk rfl Gx.const (Gx.tmp (by repeat (first | exact Gt.here | apply Gt.there (by rfl) | exact Gt.base (by rfl))))) rfl rfl ?_
  refine s_y (Y_mv) rfl rfl ?_
  refine s_known (d := 18) rfl (decide_eq_false (by omega)) ?_
  first | refine s_y (Y_mv) rfl rfl ?_ | refine s_pass rfl rfl ?_
  first | refine s_y (Y_mv) rfl rfl ?_ | refine s_pass rfl rfl ?_
  first | refine s_y (Y_gtr rfl rfl) rfl rfl ?_ | refine s_pass rfl rfl ?_
  refine s_y (Y_pk rfl Gx.const (Gx.tmp (by repeat (first | exact Gt.here | apply Gt.there (by rfl) | exact Gt.base (by rfl))))) rfl rfl ?_
  refine QL.known (d := 22) (t := decide (v > t)) rfl (decide_eq_false (by omega)) ?_
  refine s_y ((by first | exact Y_nil rfl | exact Y_nilF rfl | exact Y_nilM rfl (by assumption) | exact Y_nilM rfl (by intro w k; kernel_rfl))) rfl rfl ?_
  refine s_y (Y_fa 1 rfl Try.underlying61 rfl sz4 rfl) rfl rfl ?_
  refine s_s (S_st rfl (by repeat (first | exact Gt.here | apply Gt.there (by rfl) | exact Gt.base (by rfl))) sz4 (by rfl) (by repeat (first | exact Upd.head | apply Upd.tail)) (by first | (simp only [Nat.zero_add, Nat.reduceAdd, List.set_cons_succ, List.set_cons_zero]; rfl) | rfl) (by first | (simp; done) | omega)) rfl ?_
  refine s_nil ?_
  refine q_then ?_
  refine c_reg ?_
  refine s_y (Y_mv) rfl rfl ?_
  refine s_y (Y_mv) rfl rfl ?_
  refine s_y ((by first | exact Y_nil rfl | exact Y_nilF rfl | exact Y_nilM rfl (by assumption) | exact Y_nilM rfl (by intro w k; kernel_rfl))) rfl rfl ?_
  refine s_y (Y_fa 0 rfl Try.underlying61 rfl sz27 rfl) rfl rfl ?_
  refine s_y ((by first | exact Y_load rfl one27 (by repeat (first | exact List.Mem.head _ | assumption | apply List.Mem.tail | apply List.mem_append_right)) (by rfl) | exact Y_load rfl one27 (by repeat (first | exact List.Mem.head _ | assumption | apply List.Mem.tail | apply List.mem_append_right)) (by assumption) | exact Y_loadR rfl one27 (by assumption) rfl (by assumption))) rfl rfl ?_
  refine s_y (Y_mv) rfl rfl ?_
  refine s_y (Y_convw rfl Try.underlying3 Try.underlying5) rfl rfl ?_
  refine s_n (N_bs (xs := [.tmp 31]) (by repeat (first | exact Gv.nil | apply Gv.const | apply Gv.tmp (by repeat (first | exact Gt.here | apply Gt.there (by rfl) | exact Gt.base (by rfl))))) rfl Try.underlying27 inf5 rfl (by omega) (by omega) (by first | simp [Value.oneCell'] | (intro v hv; simp at hv; subst hv; rfl))) rfl rfl (fun b32 _ => ?_)
  refine s_n (N_app rfl rfl Try.underlying27 inf5 rfl (by omega) (by repeat (first | exact Sel.head | apply Sel.tail)) (by omega) (by omega) (src (by repeat (first | exact List.Mem.head _ | assumption | apply List.Mem.tail | apply List.mem_append_right))) (by rfl) (by simp [Value.oneCell']) (by omega) (by omega)) rfl rfl (fun ⟨g33, cp33⟩ hc33 => ?_)
  refine s_y ((by first | exact Y_nil rfl | exact Y_nilF rfl | exact Y_nilM rfl (by assumption) | exact Y_nilM rfl (by intro w k; kernel_rfl))) rfl rfl ?_
  refine s_y (Y_fa 0 rfl Try.underlying61 rfl sz27 rfl) rfl rfl ?_
  refine s_s (S_st rfl (by repeat (first | exact Gt.here | apply Gt.there (by rfl) | exact Gt.base (by rfl))) sz27 (by rfl) (by repeat (first | exact Upd.head | apply Upd.tail)) (by first | (simp only [Nat.zero_add, Nat.reduceAdd, List.set_cons_succ, List.set_cons_zero]; rfl) | rfl) (by first | (simp; done) | omega)) rfl ?_
  refine s_nil ?_
  obtain ⟨x1, h1⟩ := u8_any v
  refine QL.last (L := [_, _]) ?_
  refine q_end0 rfl (L' := [oB b g33 (n + 1) cp33, ⟨g33, 5, 1, cp33, cs ++ [Value.int .u8 (IntKind.u8.wrap v)]⟩]) (by repeat (first | exact List.Sublist.refl _ | exact List.nil_sublist _ | apply List.Sublist.cons_cons | apply List.Sublist.cons)) ⟨rfl, g33, cp33, _, by simp [hl], hc33, ?_, rfl⟩
  intro u hu2
  rcases List.mem_append.1 hu2 with h | h
  · exact hu u h
  · rw [List.mem_singleton.1 h]; exact ⟨x1, h1⟩
set_option maxRecDepth 100000 in
theorem outnum_d {v : Int} (hv : 0 ≤ v ∧ v < 1073741824) (hx : (oB b g n cp).holds W) (hy : (⟨g, 5, 1, cp, cs⟩ : Bk).holds W) (hne : b ≠ g) (hl : cs.length = n) (hc : n ≤ cp) (hn : n ≤ 100000) (hu : U8 cs) : Does Try.prog 22 [ptr b, .int .i64 v] W [b, g] (fun v L => v = .tuple #[] ∧ OutL b (n + 4) L) := by
  refine enter Try.func22 rfl rfl rfl (Has.starts (xs := [oB b g n cp, ⟨g, 5, 1, cp, cs⟩]) (by simp; exact ⟨hx, hy⟩) (by simpa using hne)) ?_
  refine c_seq ?_
  refine c_reg ?_
  refine s_y (Y_mv) rfl rfl ?_
  refine s_y (Y_mv) rfl rfl ?_
  refine s_y ((by first | exact Y_nil rfl | exact Y_nilF rfl | exact Y_nilM rfl (by assumption) | exact Y_nilM rfl (by intro w k; kernel_rfl))) rfl rfl ?_
  refine s_y (Y_fa 1 rfl Try.underlying61 rfl sz4 rfl) rfl rfl ?_
  refine s_y ((by first | exact Y_load rfl one4 (by repeat (first | exact List.Mem.head _ | assumption | apply List.Mem.tail | apply List.mem_append_right)) (by rfl) | exact Y_load rfl one4 (by repeat (first | exact List.Mem.head _ | assumption | apply List.Mem.tail | apply List.mem_append_right)) (by assumption) | exact Y_loadR rfl one4 (by assumption) rfl (by assumption))) rfl rfl ?_
  refine s_y (Y_mv) rfl rfl ?_
  refine s_known (d := 9) rfl rfl ?_
  first | refine s_y (Y_mv) rfl rfl ?_ | refine s_pass rfl rfl ?_
  first | refine s_y (Y_lss rfl rfl) rfl rfl ?_ | refine s_pass rfl rfl ?_
  refine s_y (Y_pk rfl Gx.const (Gx.tmp (by repeat (first | exact Gt.here | apply Gt.there (by rfl) | exact Gt.base (by rfl))))) rfl rfl ?_
  refine s_y (Y_mv) rfl rfl ?_
  refine s_known (d := 13) rfl (decide_eq_false (by omega)) ?_
  first | refine s_y (Y_mv) rfl rfl ?_ | refine s_pass rfl rfl ?_
  first | refine s_y (Y_geq rfl rfl) rfl rfl ?_ | refine s_pass rfl rfl ?_
  refine s_y (Y_pk rfl Gx.const (Gx.tmp (by repeat (first | exact Gt.here | apply Gt.there (by rfl) | exact Gt.base (by rfl))))) rfl rfl ?_
  refine QL.known (d := 16) (t := decide (v ≥ 1073741824)) rfl (decide_eq_false (by omega)) ?_
  refine s_y ((by first | exact Y_nil rfl | exact Y_nilF rfl | exact Y_nilM rfl (by assumption) | exact Y_nilM rfl (by intro w k; kernel_rfl))) rfl rfl ?_
  refine s_y (Y_fa 1 rfl Try.underlying61 rfl sz4 rfl) rfl rfl ?_
  refine s_s (S_st rfl (by repeat (first | exact Gt.here | apply Gt.there (by rfl) | exact Gt.base (by rfl))) sz4 (by rfl) (by repeat (first | exact Upd.head | apply Upd.tail)) (by first | (simp only [Nat.zero_add, Nat.reduceAdd, List.set_cons_succ, List.set_cons_zero]; rfl) | rfl) (by first | (simp; done) | omega)) rfl ?_
  refine s_nil ?_
  refine q_then ?_
  refine c_reg ?_
  refine s_y (Y_mv) rfl rfl ?_
  refine s_y (Y_mv) rfl rfl ?_
  refine s_y ((by first | exact Y_nil rfl | exact Y_nilF rfl | exact Y_nilM rfl (by assumption) | exact Y_nilM rfl (by intro w k; kernel_rfl))) rfl rfl ?_
  refine s_y (Y_fa 0 rfl Try.underlying61 rfl sz27 rfl) rfl rfl ?_
  refine s_y ((by first | exact Y_load rfl one27 (by repeat (first | exact List.Mem.head _ | assumption | apply List.Mem.tail | apply List.mem_append_right)) (by rfl) | exact Y_load rfl one27 (by repeat (first | exact List.Mem.head _ | assumption | apply List.Mem.tail | apply List.mem_append_right)) (by assumption) | exact Y_loadR rfl one27 (by assumption) rfl (by assumption))) rfl rfl ?_
  refine s_y (Y_mv) rfl rfl ?_
  refine s_y (Y_shr rfl rfl (by omega)) rfl rfl ?_
  refine s_y (Y_convw rfl Try.underlying3 Try.underlying5) rfl rfl ?_
  refine s_y (Y_mv) rfl rfl ?_
  refine s_y (Y_shr rfl rfl (by omega)) rfl rfl ?_
  refine s_y (Y_convw rfl Try.underlying3 Try.underlying5) rfl rfl ?_
  refine s_y (Y_mv) rfl rfl ?_
  refine s_y (Y_shr rfl rfl (by omega)) rfl rfl ?_
  refine s_y (Y_convw rfl Try.underlying3 Try.underlying5) rfl rfl ?_
  refine s_y (Y_mv) rfl rfl ?_
  refine s_y (Y_convw rfl Try.underlying3 Try.underlying5) rfl rfl ?_
  refine s_n (N_bs (xs := [.tmp 26, .tmp 29, .tmp 32, .tmp 34]) (by repeat (first | exact Gv.nil | apply Gv.const | apply Gv.tmp (by repeat (first | exact Gt.here | apply Gt.there (by rfl) | exact Gt.base (by rfl))))) rfl Try.underlying27 inf5 rfl (by omega) (by omega) (by first | simp [Value.oneCell'] | (intro v hv; simp at hv; subst hv; rfl))) rfl rfl (fun b35 _ => ?_)
  refine s_n (N_app rfl rfl Try.underlying27 inf5 rfl (by omega) (by repeat (first | exact Sel.head | apply Sel.tail)) (by omega) (by omega) (src (by repeat (first | exact List.Mem.head _ | assumption | apply List.Mem.tail | apply List.mem_append_right))) (by rfl) (by simp [Value.oneCell']) (by omega) (by omega)) rfl rfl (fun ⟨g36, cp36⟩ hc36 => ?_)
  refine s_y ((by first | exact Y_nil rfl | exact Y_nilF rfl | exact Y_nilM rfl (by assumption) | exact Y_nilM rfl (by intro w k; kernel_rfl))) rfl rfl ?_
  refine s_y (Y_fa 0 rfl Try.underlying61 rfl sz27 rfl) rfl rfl ?_
  refine s_s (S_st rfl (by repeat (first | exact Gt.here | apply Gt.there (by rfl) | exact Gt.base (by rfl))) sz27 (by rfl) (by repeat (first | exact Upd.head | apply Upd.tail)) (by first | (simp only [Nat.zero_add, Nat.reduceAdd, List.set_cons_succ, List.set_cons_zero]; rfl) | rfl) (by first | (simp; done) | omega)) rfl ?_
  refine s_nil ?_
  refine QL.last (L := [_, _]) ?_
  refine q_end0 rfl (L' := [oB b g36 (n + 4) cp36, ⟨g36, 5, 1, cp36, cs ++ [Value.int .u8 (IntKind.u8.wrap _), Value.int .u8 (IntKind.u8.wrap _), Value.int .u8 (IntKind.u8.wrap _), Value.int .u8 (IntKind.u8.wrap _)]⟩]) (by repeat (first | exact List.Sublist.refl _ | exact List.nil_sublist _ | apply List.Sublist.cons_cons | apply List.Sublist.cons)) ⟨rfl, g36, cp36, _, by simp [hl], hc36, ?_, rfl⟩
  intro u hu2
  rcases List.mem_append.1 hu2 with h | h
  · exact hu u h
  · simp only [List.mem_cons, List.not_mem_nil, or_false] at h
    rcases h with rfl | rfl | rfl | rfl <;> exact u8_any _
set_option maxRecDepth 100000 in
theorem outrow_d {a : Option Addr} {m c : Nat} {zs : List Int} (hz : IntsAt W a zs) (hlz : zs.length = m) (hm : m ≤ 255) (hzs : ∀ z ∈ zs, 0 ≤ z ∧ z ≤ 10) (hM : zs ≠ [] → ∀ bb o, a = some ⟨bb, o, none⟩ → bb ∉ [b, g]) (hx : (oB b g n cp).holds W) (hy : (⟨g, 5, 1, cp, cs⟩ : Bk).holds W) (hne : b ≠ g) (hl : cs.length = n) (hc : n ≤ cp) (hn : n ≤ 90000) (hu : U8 cs) : Does Try.prog 23 [ptr b, .slice a m c] W [b, g] (fun v L => v = .tuple #[] ∧ OutL b (n + 1 + m) L) := by
  refine enter Try.func23 rfl rfl rfl (Has.starts (xs := [oB b g n cp, ⟨g, 5, 1, cp, cs⟩]) (by simp; exact ⟨hx, hy⟩) (by simpa using hne)) ?_
  refine c_seq ?_
  refine c_seq ?_
  refine c_reg ?_
  refine s_y (Y_mv) rfl rfl ?_
  refine s_y (Y_len rfl rfl Try.underlying24) rfl rfl ?_
  refine s_y (Y_gtr rfl rfl) rfl rfl ?_
  refine s_nil ?_
  refine q_then ?_
  refine c_F rfl (decide_eq_false (by omega)) ?_
  refine c_skip ?_
  refine q_then ?_
  refine c_seq ?_
  refine c_reg ?_
  refine s_y (Y_mv) rfl rfl ?_
  refine s_y (Y_mv) rfl rfl ?_
  refine s_y ((by first | exact Y_nil rfl | exact Y_nilF rfl | exact Y_nilM rfl (by assumption) | exact Y_nilM rfl (by intro w k; kernel_rfl))) rfl rfl ?_
  refine s_y (Y_fa 0 rfl Try.underlying61 rfl sz27 rfl) rfl rfl ?_
  refine s_y ((by first | exact Y_load rfl one27 (by repeat (first | exact List.Mem.head _ | assumption | apply List.Mem.tail | apply List.mem_append_right)) (by rfl) | exact Y_load rfl one27 (by repeat (first | exact List.Mem.head _ | assumption | apply List.Mem.tail | apply List.mem_append_right)) (by assumption) | exact Y_loadR rfl one27 (by assumption) rfl (by assumption))) rfl rfl ?_
  refine s_y (Y_mv) rfl rfl ?_
  refine s_y (Y_len rfl rfl Try.underlying24) rfl rfl ?_
  refine s_y (Y_convw rfl Try.underlying3 Try.underlying5) rfl rfl ?_
  refine s_n (N_bs (xs := [.tmp 18]) (by repeat (first | exact Gv.nil | apply Gv.const | apply Gv.tmp (by repeat (first | exact Gt.here | apply Gt.there (by rfl) | exact Gt.base (by rfl))))) rfl Try.underlying27 inf5 rfl (by omega) (by omega) (by first | simp [Value.oneCell'] | (intro v hv; simp at hv; subst hv; rfl))) rfl rfl (fun b19 _ => ?_)
  refine s_n (N_app rfl rfl Try.underlying27 inf5 rfl (by omega) (by repeat (first | exact Sel.head | apply Sel.tail)) (by omega) (by omega) (src (by repeat (first | exact List.Mem.head _ | assumption | apply List.Mem.tail | apply List.mem_append_right))) (by rfl) (by simp [Value.oneCell']) (by omega) (by omega)) rfl rfl (fun ⟨g20, cp20⟩ hc20 => ?_)
  refine s_y ((by first | exact Y_nil rfl | exact Y_nilF rfl | exact Y_nilM rfl (by assumption) | exact Y_nilM rfl (by intro w k; kernel_rfl))) rfl rfl ?_
  refine s_y (Y_fa 0 rfl Try.underlying61 rfl sz27 rfl) rfl rfl ?_
  refine s_s (S_st rfl (by repeat (first | exact Gt.here | apply Gt.there (by rfl) | exact Gt.base (by rfl))) sz27 (by rfl) (by repeat (first | exact Upd.head | apply Upd.tail)) (by first | (simp only [Nat.zero_add, Nat.reduceAdd, List.set_cons_succ, List.set_cons_zero]; rfl) | rfl) (by first | (simp; done) | omega)) rfl ?_
  refine s_nil ?_
  refine QL.last (L := [_, _]) ?_
  refine q_then ?_
  refine c_seq ?_
  refine c_reg ?_
  refine s_y (Y_asC) rfl rfl ?_
  refine s_nil ?_
  refine q_then ?_
  refine c_block ?_
  have hu0 : U8 (cs ++ [Value.int .u8 (IntKind.u8.wrap (m : Int))]) := fun u hu2 => by
    rcases List.mem_append.1 hu2 with h | h
    · exact hu u h
    · rw [List.mem_singleton.1 h]; exact u8_any _
  refine c_loop [4, 23, 24, 25, 26, 27, 28, 29, 30, 31, 32, 33, 34] (fun n2 (y : Nat × Nat × Nat × List Value) => y.1 + n2 = m ∧ y.2.2.2.length = n + 1 + y.1 ∧ n + 1 + y.1 ≤ y.2.2.1 ∧ U8 y.2.2.2) (fun y => [(4, .int .i64 (y.1 : Int))]) (fun y => [oB b y.2.1 (n + 1 + y.1) y.2.2.1, ⟨y.2.1, 5, 1, y.2.2.1, y.2.2.2⟩]) m (0, g20, cp20, _) ⟨by omega, by simp [hl], hc20, hu0⟩ ⟨rfl, trivial⟩ (fun _ h => h.sub (L' := [_, _]) (by repeat (first | exact List.Sublist.refl _ | exact List.nil_sublist _ | apply List.Sublist.cons_cons | apply List.Sublist.cons))) (fun _ => rfl) ?_
  rintro n2 ⟨i, g1, cp1, cs1⟩ j ⟨hi, hl1, hc1, hu1⟩ K hK
  simp only at hi hl1 hc1 hu1 ⊢
  refine c_seq ?_
  refine c_seq ?_
  refine c_reg ?_
  refine s_y (Y_mv) rfl rfl ?_
  refine s_y (Y_mv) rfl rfl ?_
  refine s_y (Y_len rfl rfl Try.underlying24) rfl rfl ?_
  refine s_y (Y_lss rfl rfl) rfl rfl ?_
  refine s_nil ?_
  refine q_then ?_
  refine c_cond' rfl (fun h => ?_) (fun h => ?_)
  · obtain ⟨z, hz1⟩ : ∃ z, zs[i]? = some z := ⟨zs[i]'(by omega), by simp⟩
    obtain ⟨bb, o, rfl, hr, hv⟩ := hz.at' hz1
    have hzz := hzs z (List.mem_of_getElem? hz1)
    have hMb := hM (by rintro rfl; simp at hz1) bb o rfl
    refine c_skip ?_
    refine q_then ?_
    refine c_seq ?_
    refine c_block ?_
    refine c_reg ?_
    refine s_y (Y_mv) rfl rfl ?_
    refine s_y (Y_mv) rfl rfl ?_
    refine s_y (Y_mv) rfl rfl ?_
    refine s_y (Y_ia1 rfl rfl Try.underlying24 sz3 rfl (by omega)) rfl rfl ?_
    refine s_y (Y_loadR (i := i) rfl one3 hr rfl hv hMb) rfl rfl ?_
    refine s_cm [oB b g1 (n + 1 + i) cp1, ⟨g1, 5, 1, cp1, cs1⟩] (En_call (fun _ => rfl) Try.func24 rfl (by kernel_rfl) rfl) (by repeat (first | exact Sels.nil | apply Sels.cons (by repeat (first | exact Sel.head | apply Sel.tail)))) (fun w hH => outsmall_d (f := 0) (t := 10) hzz (hH.at' (by repeat (first | exact List.Mem.head _ | assumption | apply List.Mem.tail | apply List.mem_append_right))) (hH.at' (by repeat (first | exact List.Mem.head _ | assumption | apply List.Mem.tail | apply List.mem_append_right))) (ne2 (oB b g1 (n + 1 + i) cp1) ⟨g1, 5, 1, cp1, cs1⟩ hH (by repeat (first | exact Sels.nil | apply Sels.cons (by repeat (first | exact Sel.head | apply Sel.tail))))) hl1 hc1 (by omega) hu1) rfl rfl ?_
    rintro _ _ ⟨rfl, g2, cp2, cs2, hl2, hc2, hu2, rfl⟩
    refine s_nil ?_
    refine q_bn ?_
    refine q_then ?_
    refine c_reg ?_
    refine s_y (Y_mv) rfl rfl ?_
    refine s_y ((by first | exact Y_add rfl rfl (by omega) | exact Y_addw rfl rfl)) rfl rfl ?_
    refine s_y (Y_as) rfl rfl ?_
    refine s_nil ?_
    refine hK (n2 - 1) (i + 1, g2, cp2, cs2) _ _ (by omega) ⟨by simp only; omega, by simp only; omega, by simp only; omega, hu2⟩ ⟨rfl, trivial⟩ rfl (fun _ h => h)
  · obtain rfl : i = m := by omega
    refine c_exit ?_
    repeat with_reducible refine q_te ?_
    refine q_exit ?_
    refine q_end0 rfl (L' := _) (by repeat (first | exact List.Sublist.refl _ | exact List.nil_sublist _ | apply List.Sublist.cons_cons | apply List.Sublist.cons)) ⟨rfl, g1, cp1, cs1, hl1, hc1, hu1, rfl⟩
set_option maxRecDepth 100000 in
theorem outrec_d {r : Rec} (hr : (1 ≤ r.kind ∧ r.kind ≤ 3) ∧ (0 ≤ r.input ∧ r.input ≤ 10) ∧ (0 ≤ r.seat ∧ r.seat ≤ 3) ∧ (0 ≤ r.frame ∧ r.frame < 1073741824) ∧ (0 ≤ r.last ∧ r.last < 1073741824)) (hx : (oB b g n cp).holds W) (hy : (⟨g, 5, 1, cp, cs⟩ : Bk).holds W) (hne : b ≠ g) (hl : cs.length = n) (hc : n ≤ cp) (hn : n ≤ 90000) (hu : U8 cs) : Does Try.prog 25 [ptr b, .agg r.cells.toArray] W [b, g] (fun v L => v = .tuple #[] ∧ ∃ n', n ≤ n' ∧ n' ≤ n + 10 ∧ OutL b n' L) := by
  obtain ⟨kd, ip, st, fr, la⟩ := r
  obtain ⟨hk, h1, h2, h3, h4⟩ := hr
  simp only at hk h1 h2 h3 h4
  unfold Rec.cells
  refine enter Try.func25 rfl rfl rfl (Has.starts (xs := [oB b g n cp, ⟨g, 5, 1, cp, cs⟩]) (by simp; exact ⟨hx, hy⟩) (by simpa using hne)) ?_
  refine c_seq ?_
  refine c_reg ?_
  refine s_n (N_box rfl) rfl rfl (fun b3 _ => ?_)
  refine s_nil ?_
  refine q_then ?_
  refine c_seq ?_
  refine c_reg ?_
  refine s_y (Y_mv) rfl rfl ?_
  refine s_y (Y_fa 0 rfl Try.underlying37 rfl sz3 rfl) rfl rfl ?_
  refine s_y ((by first | exact Y_load rfl one3 (by repeat (first | exact List.Mem.head _ | assumption | apply List.Mem.tail | apply List.mem_append_right)) (by rfl) | exact Y_load rfl one3 (by repeat (first | exact List.Mem.head _ | assumption | apply List.Mem.tail | apply List.mem_append_right)) (by assumption) | exact Y_loadR rfl one3 (by assumption) rfl (by assumption))) rfl rfl ?_
  refine s_cm [oB b g (n) cp, ⟨g, 5, 1, cp, cs⟩] (En_call (fun _ => rfl) Try.func24 rfl (by kernel_rfl) rfl) (by repeat (first | exact Sels.nil | apply Sels.cons (by repeat (first | exact Sel.head | apply Sel.tail)))) (fun w hH => outsmall_d (f := 1) (t := 3) hk (hH.at' (by repeat (first | exact List.Mem.head _ | assumption | apply List.Mem.tail | apply List.mem_append_right))) (hH.at' (by repeat (first | exact List.Mem.head _ | assumption | apply List.Mem.tail | apply List.mem_append_right))) (ne2 (oB b g (n) cp) ⟨g, 5, 1, cp, cs⟩ hH (by repeat (first | exact Sels.nil | apply Sels.cons (by repeat (first | exact Sel.head | apply Sel.tail))))) hl hc (by omega) hu) rfl rfl ?_
  rintro _ _ ⟨rfl, g1, cp1, cs1, hl1, hc1, hu1, rfl⟩
  refine s_nil ?_
  refine q_then ?_
  refine c_seq ?_
  refine c_reg ?_
  refine s_y (Y_fa 0 rfl Try.underlying37 rfl sz3 rfl) rfl rfl ?_
  refine s_y ((by first | exact Y_load rfl one3 (by repeat (first | exact List.Mem.head _ | assumption | apply List.Mem.tail | apply List.mem_append_right)) (by rfl) | exact Y_load rfl one3 (by repeat (first | exact List.Mem.head _ | assumption | apply List.Mem.tail | apply List.mem_append_right)) (by assumption) | exact Y_loadR rfl one3 (by assumption) rfl (by assumption))) rfl rfl ?_
  refine s_nil ?_
  refine q_then ?_
  refine c_block ?_
  refine c_seq ?_
  refine c_reg ?_
  refine s_y (Y_eql rfl rfl) rfl rfl ?_
  refine s_y (Y_as) rfl rfl ?_
  refine s_nil ?_
  refine q_then ?_
  obtain rfl | rfl | rfl : kd = 1 ∨ kd = 2 ∨ kd = 3 := by omega
  · refine c_T rfl rfl ?_
    refine c_reg ?_
    refine s_y (Y_mv) rfl rfl ?_
    refine s_y (Y_fa 1 rfl Try.underlying37 rfl sz3 rfl) rfl rfl ?_
    refine s_y ((by first | exact Y_load rfl one3 (by repeat (first | exact List.Mem.head _ | assumption | apply List.Mem.tail | apply List.mem_append_right)) (by rfl) | exact Y_load rfl one3 (by repeat (first | exact List.Mem.head _ | assumption | apply List.Mem.tail | apply List.mem_append_right)) (by assumption) | exact Y_loadR rfl one3 (by assumption) rfl (by assumption))) rfl rfl ?_
    refine s_cm [oB b g1 (n + 1) cp1, ⟨g1, 5, 1, cp1, cs1⟩] (En_call (fun _ => rfl) Try.func24 rfl (by kernel_rfl) rfl) (by repeat (first | exact Sels.nil | apply Sels.cons (by repeat (first | exact Sel.head | apply Sel.tail)))) (fun w hH => outsmall_d (f := 0) (t := 10) h1 (hH.at' (by repeat (first | exact List.Mem.head _ | assumption | apply List.Mem.tail | apply List.mem_append_right))) (hH.at' (by repeat (first | exact List.Mem.head _ | assumption | apply List.Mem.tail | apply List.mem_append_right))) (ne2 (oB b g1 (n + 1) cp1) ⟨g1, 5, 1, cp1, cs1⟩ hH (by repeat (first | exact Sels.nil | apply Sels.cons (by repeat (first | exact Sel.head | apply Sel.tail))))) hl1 hc1 (by omega) hu1) rfl rfl ?_
    rintro _ _ ⟨rfl, g2, cp2, cs2, hl2, hc2, hu2, rfl⟩
    refine s_nil ?_
    refine q_bn ?_
    refine q_end0 rfl (L' := [_, _]) (by repeat (first | exact List.Sublist.refl _ | exact List.nil_sublist _ | apply List.Sublist.cons_cons | apply List.Sublist.cons)) ⟨rfl, n + 1 + 1, by omega, by omega, g2, cp2, cs2, hl2, hc2, hu2, rfl⟩
  · refine c_F rfl rfl ?_
    refine c_seq ?_
    refine c_reg ?_
    refine s_y (Y_eql rfl rfl) rfl rfl ?_
    refine s_y (Y_as) rfl rfl ?_
    refine s_nil ?_
    refine q_then ?_
    refine c_T rfl rfl ?_
    refine c_seq ?_
    refine c_reg ?_
    refine s_y (Y_mv) rfl rfl ?_
    refine s_y (Y_fa 2 rfl Try.underlying37 rfl sz3 rfl) rfl rfl ?_
    refine s_y ((by first | exact Y_load rfl one3 (by repeat (first | exact List.Mem.head _ | assumption | apply List.Mem.tail | apply List.mem_append_right)) (by rfl) | exact Y_load rfl one3 (by repeat (first | exact List.Mem.head _ | assumption | apply List.Mem.tail | apply List.mem_append_right)) (by assumption) | exact Y_loadR rfl one3 (by assumption) rfl (by assumption))) rfl rfl ?_
    refine s_cm [oB b g1 (n + 1) cp1, ⟨g1, 5, 1, cp1, cs1⟩] (En_call (fun _ => rfl) Try.func24 rfl (by kernel_rfl) rfl) (by repeat (first | exact Sels.nil | apply Sels.cons (by repeat (first | exact Sel.head | apply Sel.tail)))) (fun w hH => outsmall_d (f := 0) (t := 3) h2 (hH.at' (by repeat (first | exact List.Mem.head _ | assumption | apply List.Mem.tail | apply List.mem_append_right))) (hH.at' (by repeat (first | exact List.Mem.head _ | assumption | apply List.Mem.tail | apply List.mem_append_right))) (ne2 (oB b g1 (n + 1) cp1) ⟨g1, 5, 1, cp1, cs1⟩ hH (by repeat (first | exact Sels.nil | apply Sels.cons (by repeat (first | exact Sel.head | apply Sel.tail))))) hl1 hc1 (by omega) hu1) rfl rfl ?_
    rintro _ _ ⟨rfl, g2, cp2, cs2, hl2, hc2, hu2, rfl⟩
    refine s_nil ?_
    refine q_then ?_
    refine c_reg ?_
    refine s_y (Y_mv) rfl rfl ?_
    refine s_y (Y_fa 3 rfl Try.underlying37 rfl sz3 rfl) rfl rfl ?_
    refine s_y ((by first | exact Y_load rfl one3 (by repeat (first | exact List.Mem.head _ | assumption | apply List.Mem.tail | apply List.mem_append_right)) (by rfl) | exact Y_load rfl one3 (by repeat (first | exact List.Mem.head _ | assumption | apply List.Mem.tail | apply List.mem_append_right)) (by assumption) | exact Y_loadR rfl one3 (by assumption) rfl (by assumption))) rfl rfl ?_
    refine s_cm [oB b g2 (n + 1 + 1) cp2, ⟨g2, 5, 1, cp2, cs2⟩] (En_call (fun _ => rfl) Try.func22 rfl (by kernel_rfl) rfl) (by repeat (first | exact Sels.nil | apply Sels.cons (by repeat (first | exact Sel.head | apply Sel.tail)))) (fun w hH => outnum_d h3 (hH.at' (by repeat (first | exact List.Mem.head _ | assumption | apply List.Mem.tail | apply List.mem_append_right))) (hH.at' (by repeat (first | exact List.Mem.head _ | assumption | apply List.Mem.tail | apply List.mem_append_right))) (ne2 (oB b g2 (n + 1 + 1) cp2) ⟨g2, 5, 1, cp2, cs2⟩ hH (by repeat (first | exact Sels.nil | apply Sels.cons (by repeat (first | exact Sel.head | apply Sel.tail))))) hl2 hc2 (by omega) hu2) rfl rfl ?_
    rintro _ _ ⟨rfl, g3, cp3, cs3, hl3, hc3, hu3, rfl⟩
    refine s_nil ?_
    refine q_bn ?_
    refine q_end0 rfl (L' := [_, _]) (by repeat (first | exact List.Sublist.refl _ | exact List.nil_sublist _ | apply List.Sublist.cons_cons | apply List.Sublist.cons)) ⟨rfl, n + 1 + 1 + 4, by omega, by omega, g3, cp3, cs3, hl3, hc3, hu3, rfl⟩
  · refine c_F rfl rfl ?_
    refine c_seq ?_
    refine c_reg ?_
    refine s_y (Y_eql rfl rfl) rfl rfl ?_
    refine s_y (Y_as) rfl rfl ?_
    refine s_nil ?_
    refine q_then ?_
    refine c_F rfl rfl ?_
    refine c_seq ?_
    refine c_reg ?_
    refine s_y (Y_eql rfl rfl) rfl rfl ?_
    refine s_y (Y_as) rfl rfl ?_
    refine s_nil ?_
    refine q_then ?_
    refine c_T rfl rfl ?_
    refine c_seq ?_
    refine c_reg ?_
    refine s_y (Y_mv) rfl rfl ?_
    refine s_y (Y_fa 2 rfl Try.underlying37 rfl sz3 rfl) rfl rfl ?_
    refine s_y ((by first | exact Y_load rfl one3 (by repeat (first | exact List.Mem.head _ | assumption | apply List.Mem.tail | apply List.mem_append_right)) (by rfl) | exact Y_load rfl one3 (by repeat (first | exact List.Mem.head _ | assumption | apply List.Mem.tail | apply List.mem_append_right)) (by assumption) | exact Y_loadR rfl one3 (by assumption) rfl (by assumption))) rfl rfl ?_
    refine s_cm [oB b g1 (n + 1) cp1, ⟨g1, 5, 1, cp1, cs1⟩] (En_call (fun _ => rfl) Try.func24 rfl (by kernel_rfl) rfl) (by repeat (first | exact Sels.nil | apply Sels.cons (by repeat (first | exact Sel.head | apply Sel.tail)))) (fun w hH => outsmall_d (f := 0) (t := 3) h2 (hH.at' (by repeat (first | exact List.Mem.head _ | assumption | apply List.Mem.tail | apply List.mem_append_right))) (hH.at' (by repeat (first | exact List.Mem.head _ | assumption | apply List.Mem.tail | apply List.mem_append_right))) (ne2 (oB b g1 (n + 1) cp1) ⟨g1, 5, 1, cp1, cs1⟩ hH (by repeat (first | exact Sels.nil | apply Sels.cons (by repeat (first | exact Sel.head | apply Sel.tail))))) hl1 hc1 (by omega) hu1) rfl rfl ?_
    rintro _ _ ⟨rfl, g2, cp2, cs2, hl2, hc2, hu2, rfl⟩
    refine s_nil ?_
    refine q_then ?_
    refine c_seq ?_
    refine c_reg ?_
    refine s_y (Y_mv) rfl rfl ?_
    refine s_y (Y_fa 3 rfl Try.underlying37 rfl sz3 rfl) rfl rfl ?_
    refine s_y ((by first | exact Y_load rfl one3 (by repeat (first | exact List.Mem.head _ | assumption | apply List.Mem.tail | apply List.mem_append_right)) (by rfl) | exact Y_load rfl one3 (by repeat (first | exact List.Mem.head _ | assumption | apply List.Mem.tail | apply List.mem_append_right)) (by assumption) | exact Y_loadR rfl one3 (by assumption) rfl (by assumption))) rfl rfl ?_
    refine s_cm [oB b g2 (n + 1 + 1) cp2, ⟨g2, 5, 1, cp2, cs2⟩] (En_call (fun _ => rfl) Try.func22 rfl (by kernel_rfl) rfl) (by repeat (first | exact Sels.nil | apply Sels.cons (by repeat (first | exact Sel.head | apply Sel.tail)))) (fun w hH => outnum_d h3 (hH.at' (by repeat (first | exact List.Mem.head _ | assumption | apply List.Mem.tail | apply List.mem_append_right))) (hH.at' (by repeat (first | exact List.Mem.head _ | assumption | apply List.Mem.tail | apply List.mem_append_right))) (ne2 (oB b g2 (n + 1 + 1) cp2) ⟨g2, 5, 1, cp2, cs2⟩ hH (by repeat (first | exact Sels.nil | apply Sels.cons (by repeat (first | exact Sel.head | apply Sel.tail))))) hl2 hc2 (by omega) hu2) rfl rfl ?_
    rintro _ _ ⟨rfl, g3, cp3, cs3, hl3, hc3, hu3, rfl⟩
    refine s_nil ?_
    refine q_then ?_
    refine c_reg ?_
    refine s_y (Y_mv) rfl rfl ?_
    refine s_y (Y_fa 4 rfl Try.underlying37 rfl sz3 rfl) rfl rfl ?_
    refine s_y ((by first | exact Y_load rfl one3 (by repeat (first | exact List.Mem.head _ | assumption | apply List.Mem.tail | apply List.mem_append_right)) (by rfl) | exact Y_load rfl one3 (by repeat (first | exact List.Mem.head _ | assumption | apply List.Mem.tail | apply List.mem_append_right)) (by assumption) | exact Y_loadR rfl one3 (by assumption) rfl (by assumption))) rfl rfl ?_
    refine s_cm [oB b g3 (n + 1 + 1 + 4) cp3, ⟨g3, 5, 1, cp3, cs3⟩] (En_call (fun _ => rfl) Try.func22 rfl (by kernel_rfl) rfl) (by repeat (first | exact Sels.nil | apply Sels.cons (by repeat (first | exact Sel.head | apply Sel.tail)))) (fun w hH => outnum_d h4 (hH.at' (by repeat (first | exact List.Mem.head _ | assumption | apply List.Mem.tail | apply List.mem_append_right))) (hH.at' (by repeat (first | exact List.Mem.head _ | assumption | apply List.Mem.tail | apply List.mem_append_right))) (ne2 (oB b g3 (n + 1 + 1 + 4) cp3) ⟨g3, 5, 1, cp3, cs3⟩ hH (by repeat (first | exact Sels.nil | apply Sels.cons (by repeat (first | exact Sel.head | apply Sel.tail))))) hl3 hc3 (by omega) hu3) rfl rfl ?_
    rintro _ _ ⟨rfl, g4, cp4, cs4, hl4, hc4, hu4, rfl⟩
    refine s_nil ?_
    refine q_bn ?_
    refine q_end0 rfl (L' := [_, _]) (by repeat (first | exact List.Sublist.refl _ | exact List.nil_sublist _ | apply List.Sublist.cons_cons | apply List.Sublist.cons)) ⟨rfl, n + 1 + 1 + 4 + 4, by omega, by omega, g4, cp4, cs4, hl4, hc4, hu4, rfl⟩
end
end Go.Proofs.Ytphmdhbhoakcaaa
