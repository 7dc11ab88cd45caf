/- aditlaw15: within, known, few, inputs. -/
import Derived.Test.YtphmdhbhoakcaaaWireE
namespace Go.Proofs.Ytphmdhbhoakcaaa
open Go.RowKit Go.Ad Go.Maps
section
variable {w w' : World}
theorem within15 (n k : Int) (hk : 0 < k) (hk2 : k ≤ 1073741824) (w : World) :
    Calls Try.prog 11 #[.int .i64 n, .int .i64 k] w fun e w' => e = .returned (.int .i64 (n % k)) ∧ w = w' := by
  go_enter Try.func11, Try.ntmps11
  go_wp2
  · have h : n.tmod k < 0 := by assumption
    have h1 := tmod_neg hk h
    have h2 := Int.emod_lt_of_pos n hk
    have h3 := Int.emod_nonneg n (by omega : k ≠ 0)
    go_ret
    exact ⟨ret_int (by rw [wrap64_id (by omega) (by omega), h1]), rfl⟩
  · have h : 0 ≤ n.tmod k := by assumption
    go_ret
    exact ⟨ret_int (tmod_nonneg hk h), rfl⟩
abbrev kmsg : MsgD := { zmsg with kind := 1, transfer := 7, watch := true }
theorem zV (w : World) (m : MsgD) (hb : m.bits = 0) (h1 : m.ia = none ∧ m.il = 0 ∧ m.ic = 0 ∧ m.inputs = []) (h2 : m.ra = none ∧ m.rl = 0 ∧ m.rc = 0 ∧ m.stream = []) (h3 : ∀ s, m.sa s = none ∧ m.sl s = 0 ∧ m.sc s = 0 ∧ m.seats s = []) (h4 : m.da = none ∧ m.dl = 0 ∧ m.dc = 0 ∧ m.data = []) : MsgV w m := by
  obtain ⟨a1, a2, a3, a4⟩ := h1
  obtain ⟨b1, b2, b3, b4⟩ := h2
  obtain ⟨d1, d2, d3, d4⟩ := h4
  refine ⟨by omega, .inl a4, by simp [a2, a4], fun _ => ⟨a2, a3⟩, by omega, .inl b4, by simp [b2, b4], fun _ => ⟨b2, b3⟩, by omega, fun s _ => .inl (h3 s).2.2.2, fun s _ => by simp [(h3 s).2.2.2, (h3 s).2.1], fun s _ _ => ⟨(h3 s).2.1, (h3 s).2.2.1⟩, fun s _ => by simp [(h3 s).2.1], ⟨by simp [d2, d4], .inl d4⟩, fun _ => d3⟩
set_option maxRecDepth 100000 in
set_option maxHeartbeats 1600000 in
theorem known15 (w : World) : Calls Try.prog 7 #[] w fun e w' => e = .returned (.bool true) ∧ Ex [] w w' := by
  have hV : MsgV w kmsg := zV w kmsg rfl ⟨rfl, rfl, rfl, rfl⟩ ⟨rfl, rfl, rfl, rfl⟩ (fun _ => ⟨rfl, rfl, rfl, rfl⟩) ⟨rfl, rfl, rfl, rfl⟩
  go_enter Try.func7, Try.ntmps7
  go_wp2_with fail
  refine (encode_w (m := kmsg) hV (by decide) (by decide) (by decide)).mono ?_
  rintro z w1 ⟨X1, ⟨_, a, cap, rfl, O⟩ | ⟨h, _⟩⟩
  · have hl : (encB kmsg).length = 6 := by decide +kernel
    rw [hl] at O
    obtain ⟨g, cap', h1, _, _, hB⟩ := own_bytes O (by omega)
    have HB := Lib.hid hB
    cases h1
    rw [hl]
    clear hB hl
    go_wp2_with (refine G_val (o := ⟨some 12, _, _, _, _, _⟩) rfl (ex_convert rfl rfl (run_bytes_string Try.underlying27 Try.underlying5 Try.underlying9 HB.out)) ?_)
    have he : encB kmsg = [1, 0, 0, 0, 7, 1] := by decide +kernel
    go_ret
    refine ⟨?_, X1⟩
    rw [he]; rfl
  · exact absurd h (by decide +kernel)
def tot (m : MsgD) : Nat := m.il + m.rl + m.dl + slSum m 4
def FewI (W : World) (b : Nat) (m : MsgD) (k : Nat) (vn vi : Value) (wr : World) : Prop := ∃ i : Nat, vi = .int .i64 (i : Int) ∧ i + k = 4 ∧ vn = .int .i64 ((m.il + m.rl + m.dl + slSum m i : Nat) : Int) ∧ Blk wr b (msgCells m) 29 ∧ Ex [] W wr
theorem seats_cellB {b : Nat} {m : MsgD} (B : Blk w b (msgCells m) 29) {i : Nat} (hi : i < 4) : w.cell? ⟨b, 22 + i, none⟩ = some (.slice (m.sa i) (m.sl i) (m.sc i)) := by
  rw [B.cell]
  match i, hi with
  | 0, _ => rfl
  | 1, _ => rfl
  | 2, _ => rfl
  | 3, _ => rfl
set_option maxRecDepth 100000 in
set_option maxHeartbeats 1600000 in
structure MsgL (m : MsgD) : Prop where
  il : m.il ≤ 140737488351232
  rl : m.rl ≤ 140737488351232
  dl : m.dl ≤ 140737488351232
  sl : ∀ s, s < 4 → m.sl s ≤ 140737488351232
theorem few15 {m : MsgD} (M : MsgL m) : Calls Try.prog 8 #[.agg (msgCells m)] w fun e w' => e = .returned (.bool (decide ((tot m : Int) < 2000))) ∧ Ex [] w w' := by
  have h1 := M.il
  have h2 := M.rl
  have hsb := M.sl
  have hd := M.dl
  have X1 : Ex [] w (w.alloc (.cells (msgCells m) 29)) := (Ex.refl _ _).alloc _
  have B1 := Blk.new w (msgCells m) 29
  go_enter Try.func8, Try.ntmps8
  go_wp2_with fail
  have P1 : FewI w w.heap.size m 4 (.int .i64 ((m.il : Int) + m.rl + m.dl)) (.int .i64 0) (w.alloc (.cells (msgCells m) 29)) := ⟨0, rfl, rfl, by simp [slSum], B1, X1⟩
  generalize w.alloc (.cells (msgCells m) 29) = w1 at *
  generalize w.heap.size = b at *
  clear B1 X1
  go_loopg [3, 4] 4 (fun k vn vi wr => FewI w b m k vn vi wr)
  case atStart => exact P1
  case round =>
    clear P1
    obtain ⟨i, rfl, hk, rfl, B2, X2⟩ := hrel
    have hs4 : slSum m 4 ≤ 562949953404928 := by
      have := hsb 0 (by omega); have := hsb 1 (by omega); have := hsb 2 (by omega); have := hsb 3 (by omega)
      simp [slSum, List.range_succ]; omega
    by_cases hi : i < 4
    · have hi' : (i : Int) < 4 := by omega
      have hc := seats_cellB B2 hi
      have hsl := slSum_le m hi
      have hss := slSum_succ m i
      have Hss := Lib.hid hss
      clear hss
      obtain ⟨q, hq⟩ : ∃ q, m.il + m.rl + m.dl + slSum m i = q := ⟨_, rfl⟩
      have Hq := Lib.hid hq
      rw [hq]
      have hqb : q + m.sl i ≤ 1125899906842624 := by omega
      clear hq
      go_wp2_with fail
      go_roundg (gk - 1)
      case measure => omega
      case rel => exact ⟨i + 1, by go_num, by omega, by rw [Hss.out, ← Nat.add_assoc, Hq.out]; go_num, B2, X2⟩
    · obtain rfl : i = 4 := by omega
      obtain ⟨q, hq⟩ : ∃ q, m.il + m.rl + m.dl + slSum m 4 = q := ⟨_, rfl⟩
      have Hq := Lib.hid hq
      rw [hq]
      clear hq
      go_wp2_with fail
      go_ret
      refine ⟨?_, X2⟩
      rw [tot, Hq.out]; rfl
/-- 'append(out, x)' onto a slice of ints of the call's own. -/
theorem own_push {B : Nat} {vw : Value} {n : Nat} {xs : List Int} (h : w.ownsRow B 3 1 vw n (xs.map (Value.int .i64))) (hB : B ≤ w.heap.size) (hn : n < 1000000) (x : Int) :
    ∃ vw' w', (Builtin.append_ #[24, 24] 24 #[vw, .slice (some ⟨w.heap.size, 0, none⟩) 1 1]).run Try.prog (w.alloc (.cells #[.int .i64 x] 3)) = .ok vw' w' ∧ w'.ownsRow B 3 1 vw' (n + 1) ((xs ++ [x]).map (Value.int .i64)) ∧
      Ex vw.ownBlock.toList w w' := by
  obtain ⟨ii, hi1, hi2, hi3, hi4⟩ := info_parts infoInt
  have B1 := Blk.new w #[.int .i64 x] 3
  obtain ⟨v', w', h1, h2, h3, _, h5⟩ := run_append_own_at (P := Try.prog) (w.alloc (.cells #[.int .i64 x] 3)) B 24 24 3 ii _ 1 8 Try.underlying24 hi1 hi2 hi3 hi4 rfl (by omega)
    vw n _ (h.alloc _) ⟨w.heap.size, 0, none⟩ 1 1 [.int .i64 x] rfl (fun q u hu => by rw [Addr.add_mid]; exact B1.range0 q u hu) (by simp [Value.oneCell']) (by simp [maxLen]; omega) (by omega) (by rw [World.size_alloc]; omega)
  exact ⟨v', w', h1, by simpa using h2, (((Ex.refl [] w).alloc _).mono (by simp)).trans (Ex.of_own h3 (by simp))⟩
def InB (os : List Int) : Prop := os.length ≤ 255 ∧ ∀ x ∈ os, 0 ≤ x ∧ x ≤ 10
def InputsR (w : World) (z : Ending) (w' : World) : Prop := ∃ a' n cap os, z = .returned (.slice a' n cap) ∧ os.length = n ∧ InB os ∧ NewInts w w' a' os ∧ (a' = none → n = 0 ∧ cap = 0) ∧ Ex [] w w'
def InpI (w : World) (k : Nat) (vo vi : Value) (wr : World) : Prop := ∃ (i : Nat) (os : List Int), vi = .int .i64 (i : Int) ∧ i + k = 255 ∧ os.length = i ∧ (∀ x ∈ os, 0 ≤ x ∧ x ≤ 10) ∧ wr.ownsRow w.heap.size 3 1 vo i (os.map (Value.int .i64)) ∧ Ex [] w wr
theorem own_nil {B size n cap : Nat} {e : TypeId} {a : Option Addr} {xs : List Value} (O : w.ownsRow B e size (.slice a n cap) n xs) : a = none → n = 0 ∧ cap = 0 := fun h => by
  rcases O.2 with ⟨h1, _⟩ | ⟨g, cap', cur, h1, _⟩
  · cases h1; exact ⟨rfl, rfl⟩
  · cases h1; cases h
theorem InpI.done {k : Nat} {vo vi : Value} (h : InpI w k vo vi w') : InputsR w (.returned vo) w' := by
  obtain ⟨i, os, _, hk, hl, hb, O, X⟩ := h
  obtain ⟨a, cap, rfl⟩ := own_shape O
  refine ⟨a, i, cap, os, rfl, hl, ⟨by omega, hb⟩, ?_, own_nil O, X⟩
  rcases own_at O (by simp [hl]) with h | ⟨g, h4, h5, h6, h7⟩
  · left; simpa using h
  · exact .inr ⟨g, h4, h5, h6, fun i x hx => h7 i _ (by simp [hx])⟩
set_option maxRecDepth 100000 in
set_option maxHeartbeats 1600000 in
theorem inputs15 {a : Option Addr} {len cap : Nat} {zs : List Int} (hz : zs.length = len) (h : IntsAt w a zs) (_hn : len ≤ 1000000) :
    Calls Try.prog 18 #[.slice a len cap] w (InputsR w) := by
  have H := Lib.hid h
  have Hz := Lib.hid hz
  clear h hz
  go_enter Try.func18, Try.ntmps18
  go_wp2_with fail
  go_loopg [3, 4] 255 (fun k vo vi wr => InpI w k vo vi wr)
  case atStart => exact ⟨0, [], rfl, rfl, rfl, by simp, World.ownsRow_nil _ _ _ _, Ex.refl _ _⟩
  case round =>
    obtain ⟨i, os, rfl, hk, hl, hb, O, X⟩ := hrel
    have hsX := X.size
    by_cases hin : i < len ∧ i < 255
    · obtain ⟨hin1, hin2⟩ := hin
      have hin3 : (i : Int) < len := by omega
      obtain ⟨x, hx⟩ : ∃ x, zs[i]? = some x := ⟨zs[i]'(by rw [Hz.out]; exact hin1), by simp⟩
      rcases H.out with h | ⟨zb, zo, rfl, hzb, hr⟩
      · rw [h] at hx; simp at hx
      have hc : wr.cell? ⟨zb, zo + i, none⟩ = some (.int .i64 x) := by rw [X.cell (p := ⟨zb, _, none⟩) hzb (by simp)]; exact hr i _ (by simp [hx])
      have m0 := Int.emod_nonneg x (show (11 : Int) ≠ 0 by omega)
      have m1 := Int.emod_lt_of_pos x (show (0 : Int) < 11 by omega)
      clear hx hr
      go_wp2_with fail
      refine (within15 x 11 (by omega) (by omega) _).mono ?_
      rintro z w2 ⟨rfl, rfl⟩
      obtain ⟨v', w', hap, O', X'⟩ := own_push O hsX (by omega) (x % 11)
      have Hap := Lib.hid hap
      clear hap hc
      go_wp2_with (refine G_val (o := ⟨some 22, _, _, _, _, _⟩) rfl (ex_append2 rfl rfl rfl Hap.out) ?_)
      go_roundg (gk - 1)
      case measure => omega
      case rel =>
        refine ⟨i + 1, os ++ [x % 11], by go_num, by omega, by rw [List.length_append, hl]; rfl, fun y hy => ?_, O', X.own X' (fun k hk => .inr (O.lt k (by simpa using hk)).1)⟩
        rcases List.mem_append.1 hy with h | h
        · exact hb y h
        · rw [List.mem_singleton.1 h]; omega
    · have P : InpI w gk u3 (.int .i64 (i : Int)) wr := ⟨i, os, rfl, hk, hl, hb, O, X⟩
      by_cases hja : (i : Int) < len
      · have hjb : ¬ (i : Int) < 255 := by omega
        clear hin hl hb O X
        go_wp2_with fail
        go_ret
        exact P.done
      · clear hin hl hb O X
        go_wp2_with fail
        go_ret
        exact P.done
end
end Go.Proofs.Ytphmdhbhoakcaaa
