/- The laws of chapter 13, walked: DiskCuts. -/
import Derived.Test.YtjgkanmhmkmdeaaDisk
namespace Go.Proofs.Ytjgkanmhmkmdeaa
open Go.RowKit Go.Ad Go.Maps
theorem infoU8 : (Try.prog.info? 5).map (fun i => (i.zero, i.size, i.bytes)) = some (some (.int .u8 0), 1, 1) := by kernel_rfl
set_option maxHeartbeats 800000 in
theorem known13 (w : World) : Calls Try.prog 8 #[] w fun e w' => e = .returned (.bool true) ∧ Ex [] w w' := by
  go_enter Try.func8, Try.ntmps8
  go_wp2_with fail
  refine (DiskNew_ok (by omega) (by omega) _).mono ?_
  rintro e w1 ⟨rfl, D1, X1⟩
  go_wp2_with fail
  refine (DiskCut_any D1).mono ?_
  rintro e w2 ⟨rfl, D2, X2⟩
  go_wp2_with (refine G_val rfl (ex_make1 rfl rfl rfl Try.underlying31 infoU8 rfl (by omega) (by omega) (by omega)) ?_)
  have hs2 := X2.size
  have hs1 := D1.lt
  have B3 := Blk.new w2 (Array.replicate 64 (.int .u8 0)) 5
  have X3 : Ex [] w2 (w2.alloc (.cells (Array.replicate 64 (.int .u8 0)) 5)) := (Ex.refl [] _).alloc _
  have D3 := D2.ex X3 (by simp) (by simp)
  have hs3 : w2.heap.size < (w2.alloc (.cells (Array.replicate 64 (.int .u8 0)) 5)).heap.size := B3.lt
  generalize w2.alloc (.cells (Array.replicate 64 (.int .u8 0)) 5) = w3 at *
  refine (DiskWrite_ok w2.heap.size 0 64 _ (by simp) D3 B3.range0 (by omega) (by omega) (by omega) (by omega) (by omega) (by omega) (by omega) (by omega) (by omega)).mono ?_
  rintro e w4 ⟨rfl, D4, X4⟩
  go_wp2_with fail
  refine (DiskWrite_cut _ _ D4 (by omega) (by omega)).mono ?_
  rintro e w5 ⟨rfl, D5, X5⟩
  go_wp2_with fail
  refine (DiskDead_any D5).mono ?_
  rintro e w6 ⟨rfl, rfl⟩
  go_wp2_with fail
  go_ret
  exact ⟨rfl, (((X1.own X2 (by simp)).trans X3).own X4 (by simp)).own X5 (by simp)⟩

theorem within13 (n k : Int) (hk : 0 < k) (hk2 : k < 1000) (w : World) :
    Calls Try.prog 10 #[.int .i64 n, .int .i64 k] w fun e w' => e = .returned (.int .i64 (n % k)) ∧ w = w' := by
  go_enter Try.func10, Try.ntmps10
  go_wp2
  · have h : n.tmod k < 0 := by assumption
    have h1 := tmod_neg hk h
    have h2 := Int.emod_lt_of_pos n hk
    have h3 := Int.emod_nonneg n (by omega : k ≠ 0)
    go_ret
    exact ⟨ret_int (by rw [wrap64_id (by omega) (by omega), h1]), rfl⟩
  · have h : 0 ≤ n.tmod k := by assumption
    go_ret
    exact ⟨ret_int (tmod_nonneg hk h), rfl⟩


def CutI (W : World) (b m : Nat) (q : Int) (k : Nat) (vd vi : Value) (wr : World) : Prop :=
  ∃ (i : Nat) (d l : Int) (dead : Bool) (f : Value → Option Value), vi = .int .i64 (i : Int) ∧ vd = .int .i64 d ∧ i + k = 30 ∧ 0 ≤ d ∧ d ≤ q ∧ d ≤ i ∧ l = q - d ∧ (dead = true → d = q) ∧ DiskAt wr b m 4 d l dead f ∧ Ex [] W wr

set_option maxRecDepth 100000 in
set_option maxHeartbeats 3200000 in
theorem diskCuts_walk (n : Int) (a : Option Addr) (cap : Nat) (bs : List Bool) (W : World) (hbs : BoolsAt W a bs) :
    Calls Try.prog 3 #[.int .i64 n, .slice a bs.length cap] W fun e w' => e = .returned (.bool true) ∧ Ex [] W w' := by
  have hq1 := Int.emod_nonneg n (show (20 : Int) ≠ 0 by omega)
  have hq2 := Int.emod_lt_of_pos n (show (0 : Int) < 20 by omega)
  have Hbs := Lib.hid hbs
  clear hbs
  go_enter Try.func3, Try.ntmps3
  go_wp2_with fail
  refine (known13 _).mono ?_
  rintro e w1 ⟨rfl, X1⟩
  go_wp2_with fail
  refine (DiskNew_ok (by omega) (by omega) _).mono ?_
  rintro e w2 ⟨rfl, D2, X2⟩
  have hs1 := X1.size
  go_wp2_with fail
  refine (within13 _ _ (by omega) (by omega) _).mono ?_
  rintro e w3 ⟨rfl, rfl⟩
  generalize n % 20 = q at *
  go_wp2_with fail
  refine (DiskCut_any D2).mono ?_
  rintro e w4 ⟨rfl, D4, X4⟩
  have Hm := Lib.hid (show max q (-1) = q by omega)
  rw [Hm.out] at D4
  have X14 : Ex [] W w4 := (X1.trans X2).own X4 (by simp; omega)
  go_wp2_with fail
  go_loopg [7, 8] 30 (fun k vd vi wr => CutI W (w1.heap.size + 1) w1.heap.size q k vd vi wr)
  case atStart => exact ⟨0, 0, q, false, _, rfl, rfl, by omega, by omega, by omega, by omega, by omega, by simp, D4, X14⟩
  case round =>
    obtain ⟨i, d, l, dead, f, rfl, rfl, hk, hd0, hdq, hdi, hl, hdead, D, X⟩ := hrel
    have Hl := Lib.hid hl
    have Hdead := Lib.hid hdead
    have Hk := Lib.hid hk
    have hbm := D.lt
    clear hl hdead hk D2 D4 X1 X2 X4 X14
    by_cases hlast : i = 30
    · subst hlast
      go_wp2_with fail
      refine (DiskStart_any D).mono ?_
      rintro e w5 ⟨rfl, D5, X5⟩
      go_wp2_with fail
      refine (DiskDead_any D5).mono ?_
      rintro e w6 ⟨rfl, rfl⟩
      go_wp2_with (refine G_val rfl (ex_make1 rfl rfl rfl Try.underlying31 infoU8 rfl (by omega) (by omega) (by omega)) ?_)
      have hs2 := X5.size
      have B3 := Blk.new w5 (Array.replicate 64 (.int .u8 0)) 5
      have X3 : Ex [] w5 (w5.alloc (.cells (Array.replicate 64 (.int .u8 0)) 5)) := (Ex.refl [] _).alloc _
      have D3 := D5.ex X3 (by simp) (by simp)
      generalize w5.alloc (.cells (Array.replicate 64 (.int .u8 0)) 5) = w6 at *
      refine (DiskWrite_ok w5.heap.size 0 64 _ (by simp) D3 B3.range0 (by omega) (by omega) (by omega) (by omega) (by omega) (by omega) (by omega) (by omega) (by omega)).mono ?_
      rintro e w7 ⟨rfl, D7, X7⟩
      go_wp2_with fail
      go_ret
      exact ⟨rfl, ((X.own X5 (by simp; omega)).trans X3).own X7 (by simp; omega)⟩
    · have h30 : i < 30 := by have := Hk.out; omega
      have h30' : (i : Int) < 30 := by omega
      by_cases hw : i < bs.length ∧ bs[i]? = some true
      · obtain ⟨hw1, hw2⟩ := hw
        have hb := Hbs.out
        rcases hb with hb | ⟨ab, ao, rfl, hab, hr⟩
        · simp [hb] at hw1
        have c : wr.cell? ⟨ab, ao + i, none⟩ = some (.bool true) := by
          rw [X.cell (p := ⟨ab, ao + i, none⟩) (Nat.lt_of_lt_of_le hab (Nat.le_refl _)) (by simp)]
          exact hr i _ (by simp [hw2])
        have hw1' : (i : Int) < bs.length := by omega
        clear hr hab hw2
        go_wp2_with (refine G_val rfl (ex_make1 rfl rfl rfl Try.underlying31 infoU8 rfl (by omega) (by omega) (by omega)) ?_)
        have X3 : Ex [] wr (wr.alloc (.cells (Array.replicate 64 (.int .u8 0)) 5)) := (Ex.refl [] _).alloc _
        have D3 := D.ex X3 (by simp) (by simp)
        generalize wr.alloc (.cells (Array.replicate 64 (.int .u8 0)) 5) = w5 at *
        clear c
        cases hd : dead
        · subst hd
          refine (DiskWrite_arg _ _ _ D3 (by omega)).mono ?_
          rintro e w6 ⟨rfl, rfl⟩
          go_wp2_with fail
          go_roundg (gk - 1)
          case measure => have := Hk.out; omega
          case rel => exact ⟨i + 1, d, l, false, f, by go_num, rfl, by have := Hk.out; omega, hd0, hdq, by omega, Hl.out, by simp_all [Hid], D3, X.trans X3⟩
        · subst hd
          obtain rfl := Hdead.out rfl
          refine (DiskWrite_dead _ D3).mono ?_
          rintro e w6 ⟨rfl, rfl⟩
          go_wp2_with fail
          refine (DiskDead_any D3).mono ?_
          rintro e w7 ⟨rfl, rfl⟩
          go_wp2_with fail
          go_roundg (gk - 1)
          case measure => have := Hk.out; omega
          case rel => exact ⟨i + 1, d, l, true, f, by go_num, rfl, by have := Hk.out; omega, hd0, hdq, by omega, Hl.out, by simp_all [Hid], D3, X.trans X3⟩
      · have hcond : (i : Int) < bs.length → ∃ ab ao, a = some ⟨ab, ao, none⟩ ∧ wr.cell? ⟨ab, ao + i, none⟩ = some (.bool false) := fun hlt => by
          rcases Hbs.out with hb | ⟨ab, ao, rfl, hab, hr⟩
          · rw [hb] at hlt; simp at hlt; omega
          · refine ⟨ab, ao, rfl, ?_⟩
            rw [X.cell (p := ⟨ab, ao + i, none⟩) (Nat.lt_of_lt_of_le hab (Nat.le_refl _)) (by simp)]
            have hlt' : i < bs.length := by omega
            refine hr i _ ?_
            have : bs[i]? = some false := by
              rw [List.getElem?_eq_getElem hlt']
              cases hx : bs[i]
              · rfl
              · exact absurd ⟨hlt', by rw [List.getElem?_eq_getElem hlt', hx]⟩ hw
            simp [this]
        clear hw
        have hmod0 : 0 ≤ (i : Int) % 4 := by omega
        have hmod4 : (i : Int) % 4 < 4 := by omega
        by_cases hlt : (i : Int) < bs.length
        · obtain ⟨ab, ao, rfl, c⟩ := hcond hlt
          go_wp2_with (refine G_val rfl (ex_make1 rfl rfl rfl Try.underlying31 infoU8 rfl (by omega) (by omega) (by omega)) ?_)
          clear c
          have X3 : Ex [] wr (wr.alloc (.cells (Array.replicate 64 (.int .u8 0)) 5)) := (Ex.refl [] _).alloc _
          have B3 := Blk.new wr (Array.replicate 64 (.int .u8 0)) 5
          have D3 := D.ex X3 (by simp) (by simp)
          generalize wr.alloc (.cells (Array.replicate 64 (.int .u8 0)) 5) = w5 at *
          cases hd : dead
          · subst hd
            by_cases hl0 : d = q
            · subst hl0
              obtain rfl : l = 0 := by have := Hl.out; omega
              refine (DiskWrite_cut _ _ D3 hmod0 hmod4).mono ?_
              rintro e w6 ⟨rfl, D6, X6⟩
              go_wp2_with fail
              refine (DiskDead_any D6).mono ?_
              rintro e w7 ⟨rfl, rfl⟩
              go_wp2_with fail
              refine (DiskWrites_any D6).mono ?_
              rintro e w7 ⟨rfl, rfl⟩
              go_wp2_with fail
              go_roundg (gk - 1)
              case measure => have := Hk.out; omega
              case rel => exact ⟨i + 1, d, 0, true, f, by go_num, rfl, by have := Hk.out; omega, hd0, hdq, by omega, by omega, fun _ => rfl, D6, (X.trans X3).own X6 (by simp; omega)⟩
            · have hl1 : 0 < l := by have := Hl.out; omega
              have hl2 : l < 20 := by have := Hl.out; omega
              have hdq2 : d < q := by omega
              clear hl0
              refine (DiskWrite_ok wr.heap.size 0 64 _ (by simp) D3 B3.range0 hmod0 hmod4 (by omega) (by omega) (by omega) (by omega) (by omega) (by omega) (by omega)).mono ?_
              rintro e w6 ⟨rfl, D6, X6⟩
              rw [if_pos hl1] at D6
              go_wp2_with fail
              refine (DiskWrites_any D6).mono ?_
              rintro e w7 ⟨rfl, rfl⟩
              go_wp2_with fail
              go_roundg (gk - 1)
              case measure => have := Hk.out; omega
              case rel => exact ⟨i + 1, d + 1, l - 1, false, _, by go_num, rfl, by have := Hk.out; omega, by omega, by omega, by omega, by have := Hl.out; omega, by simp, D6, (X.trans X3).own X6 (by simp; omega)⟩
          · subst hd
            obtain rfl := Hdead.out rfl
            refine (DiskWrite_dead _ D3).mono ?_
            rintro e w6 ⟨rfl, rfl⟩
            go_wp2_with fail
            refine (DiskDead_any D3).mono ?_
            rintro e w7 ⟨rfl, rfl⟩
            go_wp2_with fail
            refine (DiskWrites_any D3).mono ?_
            rintro e w7 ⟨rfl, rfl⟩
            go_wp2_with fail
            go_roundg (gk - 1)
            case measure => have := Hk.out; omega
            case rel => exact ⟨i + 1, d, l, true, f, by go_num, rfl, by have := Hk.out; omega, hd0, hdq, by omega, Hl.out, by simp, D3, X.trans X3⟩
        · clear hcond
          go_wp2_with (refine G_val rfl (ex_make1 rfl rfl rfl Try.underlying31 infoU8 rfl (by omega) (by omega) (by omega)) ?_)
          have X3 : Ex [] wr (wr.alloc (.cells (Array.replicate 64 (.int .u8 0)) 5)) := (Ex.refl [] _).alloc _
          have B3 := Blk.new wr (Array.replicate 64 (.int .u8 0)) 5
          have D3 := D.ex X3 (by simp) (by simp)
          generalize wr.alloc (.cells (Array.replicate 64 (.int .u8 0)) 5) = w5 at *
          cases hd : dead
          · subst hd
            by_cases hl0 : d = q
            · subst hl0
              obtain rfl : l = 0 := by have := Hl.out; omega
              refine (DiskWrite_cut _ _ D3 hmod0 hmod4).mono ?_
              rintro e w6 ⟨rfl, D6, X6⟩
              go_wp2_with fail
              refine (DiskDead_any D6).mono ?_
              rintro e w7 ⟨rfl, rfl⟩
              go_wp2_with fail
              refine (DiskWrites_any D6).mono ?_
              rintro e w7 ⟨rfl, rfl⟩
              go_wp2_with fail
              go_roundg (gk - 1)
              case measure => have := Hk.out; omega
              case rel => exact ⟨i + 1, d, 0, true, f, by go_num, rfl, by have := Hk.out; omega, hd0, hdq, by omega, by omega, fun _ => rfl, D6, (X.trans X3).own X6 (by simp; omega)⟩
            · have hl1 : 0 < l := by have := Hl.out; omega
              have hl2 : l < 20 := by have := Hl.out; omega
              have hdq2 : d < q := by omega
              clear hl0
              refine (DiskWrite_ok wr.heap.size 0 64 _ (by simp) D3 B3.range0 hmod0 hmod4 (by omega) (by omega) (by omega) (by omega) (by omega) (by omega) (by omega)).mono ?_
              rintro e w6 ⟨rfl, D6, X6⟩
              rw [if_pos hl1] at D6
              go_wp2_with fail
              refine (DiskWrites_any D6).mono ?_
              rintro e w7 ⟨rfl, rfl⟩
              go_wp2_with fail
              go_roundg (gk - 1)
              case measure => have := Hk.out; omega
              case rel => exact ⟨i + 1, d + 1, l - 1, false, _, by go_num, rfl, by have := Hk.out; omega, by omega, by omega, by omega, by have := Hl.out; omega, by simp, D6, (X.trans X3).own X6 (by simp; omega)⟩
          · subst hd
            obtain rfl := Hdead.out rfl
            refine (DiskWrite_dead _ D3).mono ?_
            rintro e w6 ⟨rfl, rfl⟩
            go_wp2_with fail
            refine (DiskDead_any D3).mono ?_
            rintro e w7 ⟨rfl, rfl⟩
            go_wp2_with fail
            refine (DiskWrites_any D3).mono ?_
            rintro e w7 ⟨rfl, rfl⟩
            go_wp2_with fail
            go_roundg (gk - 1)
            case measure => have := Hk.out; omega
            case rel => exact ⟨i + 1, d, l, true, f, by go_num, rfl, by have := Hk.out; omega, hd0, hdq, by omega, Hl.out, by simp, D3, X.trans X3⟩
end Go.Proofs.Ytjgkanmhmkmdeaa
