/- The contracts of package disk: what each call does to a disk in memory. -/
import Derived.Test.YtjgkanmhmkmdeaaRows
import Derived.Test.YtjgkanmhmkmdeaaKit
namespace Go.Proofs.Ytjgkanmhmkmdeaa
open Go.RowKit Go.Ad Go.Maps
theorem keyedInt : Keyed Try.prog 3 := int_keyed Try.underlying3
theorem sizeSector : (Try.prog.info? 71).map (·.size) = some 64 := by kernel_rfl
/-- The disk's five cells. -/
abbrev dcells (n : Int) (m : Nat) (wr l : Int) (dead : Bool) : Array Value := #[.int .i64 n, .map (some m), .int .i64 wr, .int .i64 l, .bool dead]
def DiskAt (w : World) (b m : Nat) (n wr l : Int) (dead : Bool) (f : Value → Option Value) : Prop := Blk w b (dcells n m wr l dead) 69 ∧ KMap Try.prog 3 w m f
abbrev zsector : Value := .agg (Array.replicate 64 (.int .u8 0))
theorem zeroSector (w : World) : (zeroValue 71).run Try.prog w = .ok zsector w := by kernel_rfl
theorem DiskAt.ex {w w' : World} {b m : Nat} {n wr l : Int} {dead : Bool} {f : Value → Option Value} (h : DiskAt w b m n wr l dead f) {s : List Nat} (hx : Ex s w w') (hb : b ∉ s) (hm : m ∉ s) : DiskAt w' b m n wr l dead f :=
  ⟨h.1.ex hx hb, h.2.ex hx hm⟩
theorem DiskAt.ne {w : World} {b m : Nat} {n wr l : Int} {dead : Bool} {f : Value → Option Value} (h : DiskAt w b m n wr l dead f) : m ≠ b := h.1.ne_map h.2
theorem DiskAt.lt {w : World} {b m : Nat} {n wr l : Int} {dead : Bool} {f : Value → Option Value} (h : DiskAt w b m n wr l dead f) : b < w.heap.size ∧ m < w.heap.size := ⟨h.1.lt, h.2.lt⟩
abbrev ptr (b : Nat) : Value := .pointer (some ⟨b, 0, none⟩)

section
variable {b m : Nat} {n s wr l : Int} {dead : Bool} {f : Value → Option Value} {w : World}
set_option maxHeartbeats 400000 in
theorem DiskNew_bad (h : n < 1 ∨ 1024 < n) (w : World) :
    Calls Try.prog 9 #[.int .i64 n] w fun e w' => e = .returned (.tuple #[.pointer none, .int .i64 1]) ∧ Ex [] w w' := by
  rcases h with h | h
  · go_enter Try.func9, Try.ntmps9
    go_wp2
    go_ret2
    exact ⟨rfl, Ex.refl _ _⟩
  · have h' : ¬ n < 1 := by omega
    go_enter Try.func9, Try.ntmps9
    go_wp2
    go_ret2
    exact ⟨rfl, Ex.refl _ _⟩
set_option maxHeartbeats 400000 in
theorem DiskNew_ok (h : 1 ≤ n) (h2 : n ≤ 1024) (w : World) :
    Calls Try.prog 9 #[.int .i64 n] w fun e w' => e = .returned (.tuple #[ptr (w.heap.size + 1), .int .i64 0]) ∧
      DiskAt w' (w.heap.size + 1) w.heap.size n 0 (-1) false (fun _ => none) ∧ Ex [] w w' := by
  have hmm := @run_makeMap Try.prog
  go_enter Try.func9, Try.ntmps9
  go_wp2
  go_ret2
  refine ⟨rfl, ⟨?_, ?_⟩, ((Ex.refl _ _).alloc _).alloc _⟩
  · have := Blk.new (w.alloc (.map #[] 0)) (dcells n w.heap.size 0 (-1) false) 69
    rwa [World.size_alloc] at this
  · exact KMap.keep (KMap.new w) (Below.heap_alloc _ _ _ (by simp))
set_option maxHeartbeats 400000 in
theorem DiskDead_any (D : DiskAt w b m n wr l dead f) :
    Calls Try.prog 13 #[ptr b] w fun e w' => e = .returned (.bool dead) ∧ w = w' := by
  have c := D.1.cell
  go_enter Try.func13, Try.ntmps13
  go_wp2
  go_ret
  exact ⟨rfl, rfl⟩
set_option maxHeartbeats 400000 in
theorem DiskWrites_any (D : DiskAt w b m n wr l dead f) :
    Calls Try.prog 14 #[ptr b] w fun e w' => e = .returned (.int .i64 wr) ∧ w = w' := by
  have c := D.1.cell
  go_enter Try.func14, Try.ntmps14
  go_wp2
  go_ret
  exact ⟨rfl, rfl⟩
set_option maxHeartbeats 400000 in
theorem DiskSectors_any (D : DiskAt w b m n wr l dead f) :
    Calls Try.prog 23 #[ptr b] w fun e w' => e = .returned (.int .i64 n) ∧ w = w' := by
  have c := D.1.cell
  go_enter Try.func23, Try.ntmps23
  go_wp2
  go_ret
  exact ⟨rfl, rfl⟩
set_option maxHeartbeats 400000 in
theorem DiskCut_any (D : DiskAt w b m s wr l dead f) :
    Calls Try.prog 11 #[ptr b, .int .i64 n] w fun e w' => e = .returned (.tuple #[]) ∧ DiskAt w' b m s wr (max n (-1)) dead f ∧ Ex [b] w w' := by
  have Hmb := Lib.hid D.ne
  obtain ⟨hb, M⟩ := D
  have c := hb.cell
  have fz := hb.froz
  have Hb := Lib.hid hb
  clear hb
  by_cases h : n < -1
  all_goals
    go_enter Try.func11, Try.ntmps11
    go_wp2
    go_end0
  · rw [show max n (-1) = -1 by omega]
    exact ⟨rfl, ⟨Hb.out.set 3 _, M.keep (Below.heap_setCell _ _ _ _ Hmb.out)⟩, (Ex.refl _ _).setCell (.inl (by simp)) _⟩
  · rw [show max n (-1) = n by omega]
    exact ⟨rfl, ⟨Hb.out.set 3 _, M.keep (Below.heap_setCell _ _ _ _ Hmb.out)⟩, (Ex.refl _ _).setCell (.inl (by simp)) _⟩
set_option maxHeartbeats 400000 in
theorem DiskStart_any (D : DiskAt w b m s wr l dead f) :
    Calls Try.prog 15 #[ptr b] w fun e w' => e = .returned (.tuple #[]) ∧ DiskAt w' b m s wr (-1) false f ∧ Ex [b] w w' := by
  have Hmb := Lib.hid D.ne
  obtain ⟨hb, M⟩ := D
  have c := hb.cell
  have fz := hb.froz
  have Hb := Lib.hid hb
  clear hb
  go_enter Try.func15, Try.ntmps15
  go_wp2
  go_end0
  exact ⟨rfl, ⟨(Hb.out.set 4 (.bool false)).set 3 _, M.keep ((Below.heap_setCell _ _ _ _ Hmb.out).trans (Below.heap_setCell _ _ _ _ Hmb.out))⟩, ((Ex.refl _ _).setCell (.inl (by simp)) _).setCell (.inl (by simp)) _⟩
set_option maxHeartbeats 400000 in
theorem DiskWrite_dead (v : Value) (D : DiskAt w b m s wr l true f) :
    Calls Try.prog 12 #[ptr b, .int .i64 n, v] w fun e w' => e = .returned (.int .i64 11) ∧ w = w' := by
  have c := D.1.cell
  go_enter Try.func12, Try.ntmps12
  go_wp2
  go_ret
  exact ⟨rfl, rfl⟩
set_option maxHeartbeats 400000 in
theorem DiskWrite_arg (a : Option Addr) (len cap : Nat) (D : DiskAt w b m s wr l false f) (h : n < 0 ∨ s ≤ n ∨ len ≠ 64) :
    Calls Try.prog 12 #[ptr b, .int .i64 n, .slice a len cap] w fun e w' => e = .returned (.int .i64 1) ∧ w = w' := by
  have c := D.1.cell
  by_cases h1 : n < 0
  · go_enter Try.func12, Try.ntmps12
    go_wp2
    go_ret
    exact ⟨rfl, rfl⟩
  by_cases h2 : s ≤ n
  · go_enter Try.func12, Try.ntmps12
    go_wp2
    go_ret
    exact ⟨rfl, rfl⟩
  have h3 : (((len : Int) != 64)) = true := by rw [bne_iff_ne]; omega
  clear h
  go_enter Try.func12, Try.ntmps12
  go_wp2
  go_ret
  exact ⟨rfl, rfl⟩
set_option maxHeartbeats 400000 in
theorem DiskWrite_cut (a : Option Addr) (cap : Nat) (D : DiskAt w b m s wr 0 false f) (hn : 0 ≤ n) (hs : n < s) :
    Calls Try.prog 12 #[ptr b, .int .i64 n, .slice a 64 cap] w fun e w' => e = .returned (.int .i64 11) ∧ DiskAt w' b m s wr 0 true f ∧ Ex [b] w w' := by
  have Hmb := Lib.hid D.ne
  obtain ⟨hb, M⟩ := D
  have c := hb.cell
  have fz := hb.froz
  have Hb := Lib.hid hb
  clear hb
  go_enter Try.func12, Try.ntmps12
  go_wp2
  go_ret
  exact ⟨rfl, ⟨Hb.out.set 4 _, M.keep (Below.heap_setCell _ _ _ _ Hmb.out)⟩, (Ex.refl _ _).setCell (.inl (by simp)) _⟩
set_option maxHeartbeats 800000 in
theorem DiskWrite_ok (sb so cap : Nat) (xs : List Value) (hxs : xs.length = 64)
    (D : DiskAt w b m s wr l false f) (hr : w.rangeAt sb so xs) (hn : 0 ≤ n) (hs : n < s) (hsm : s ≤ 1024) (hl : l ≠ 0) (hl1 : -1 ≤ l) (hl2 : l ≤ 9223372036854775807) (hwr : 0 ≤ wr) (hwr' : wr < 1000000) (hsb : sb ≠ b) :
    Calls Try.prog 12 #[ptr b, .int .i64 n, .slice (some ⟨sb, so, none⟩) 64 cap] w fun e w' => e = .returned (.int .i64 0) ∧
      DiskAt w' b m s (wr + 1) (if 0 < l then l - 1 else l) false (upd f (.int .i64 n) (.agg xs.toArray)) ∧ Ex [b, m] w w' := by
  obtain ⟨hb, M⟩ := D
  have hl0 : (l == 0) = false := by simpa using hl
  have Hmb : Hid (m ≠ b) := hb.ne_map M
  have harr := fun w => run_arrayAt (P := Try.prog) (w := w) 71 5 64 (some ⟨sb, so, none⟩) 64 cap Try.underlying71 (by omega)
  have c := hb.cell
  have fz := hb.froz
  have Hb := Lib.hid hb
  have Hr := Lib.hid hr
  have Hxs := Lib.hid hxs
  have Hsb := Lib.hid hsb
  clear hxs hb hr hsb
  by_cases hp : 0 < l
  · go_enter Try.func12, Try.ntmps12
    go_wp2
    have Hb1 := Lib.hid (Hb.out.set 3 (.int .i64 (l - 1)))
    have X1 : Ex [b, m] w (w.setCell ⟨b, 3, none⟩ (.int .i64 (l - 1))) := (Ex.refl _ _).setCell (.inl (by simp)) _
    have r1 : (w.setCell ⟨b, 3, none⟩ (.int .i64 (l - 1))).rangeAt sb so xs := rangeAt_setCell Hr.out Hsb.out _
    have M1 : KMap Try.prog 3 (w.setCell ⟨b, 3, none⟩ (.int .i64 (l - 1))) m f := M.keep (Below.heap_setCell _ _ _ _ Hmb.out)
    generalize (w.setCell ⟨b, 3, none⟩ (.int .i64 (l - 1))) = w1 at *
    have c := Hb1.out.cell
    refine wp_region_still_tail 8 (by kernel_rfl) (by kernel_rfl) ?_
    simp only [List.take_succ_cons, List.take_zero, List.drop_succ_cons, List.drop_zero]
    iterate 7 still_step
    refine still_yield rfl _ (exec_load rfl rfl (run_loadAt_mid (P := Try.prog) w1.drew sb so 71 xs _ r1 Try.underlying71 rfl (by rw [Hxs.out]; exact sizeSector))) ?_
    refine wpStill_nil ?_
    refine wpList_mapUpdate_K rfl _ _ _ 67 rfl 71 keyedInt Try.underlying67 rfl M1 _ _ _ rfl rfl (keyOf_int_mk Try.underlying3 (WalkArith.wf_i64 (by omega))) ?_
    intro w2 M2 X2
    have X2 := Ex.of_drew X2
    have b2 := Hb1.out.ex X2 (by simpa using Ne.symm Hmb.out)
    have c := b2.cell
    have fz := b2.froz
    clear harr M1 M
    go_wp2
    go_ret
    refine ⟨rfl, ⟨?_, ?_⟩, ?_⟩
    · exact b2.set 2 _
    · exact M2.keep (Below.heap_setCell _ _ _ _ Hmb.out)
    · exact (X1.trans (X2.mono (by simp))).setCell (.inl (by simp)) _
  · go_enter Try.func12, Try.ntmps12
    go_wp2
    refine wp_region_still_tail 8 (by kernel_rfl) (by kernel_rfl) ?_
    simp only [List.take_succ_cons, List.take_zero, List.drop_succ_cons, List.drop_zero]
    iterate 7 still_step
    refine still_yield rfl _ (exec_load rfl rfl (run_loadAt_mid (P := Try.prog) w.drew sb so 71 xs _ Hr.out Try.underlying71 rfl (by rw [Hxs.out]; exact sizeSector))) ?_
    refine wpStill_nil ?_
    refine wpList_mapUpdate_K rfl _ _ _ 67 rfl 71 keyedInt Try.underlying67 rfl M _ _ _ rfl rfl (keyOf_int_mk Try.underlying3 (WalkArith.wf_i64 (by omega))) ?_
    intro w2 M2 X2
    have X2 := Ex.of_drew X2
    have b2 := Hb.out.ex X2 (by simpa using Ne.symm Hmb.out)
    have c := b2.cell
    have fz := b2.froz
    clear harr M
    go_wp2
    go_ret
    refine ⟨rfl, ⟨?_, ?_⟩, ?_⟩
    · exact b2.set 2 _
    · exact M2.keep (Below.heap_setCell _ _ _ _ Hmb.out)
    · exact (X2.mono (by simp)).setCell (.inl (by simp)) _
set_option maxHeartbeats 400000 in
theorem DiskRead_dead (D : DiskAt w b m s wr l true f) :
    Calls Try.prog 17 #[ptr b, .int .i64 n] w fun e w' => e = .returned (.tuple #[.slice none 0 0, .int .i64 11]) ∧ w = w' := by
  have c := D.1.cell
  go_enter Try.func17, Try.ntmps17
  go_wp2
  go_ret2
  exact ⟨rfl, rfl⟩
set_option maxHeartbeats 400000 in
theorem DiskRead_arg (D : DiskAt w b m s wr l false f) (h : n < 0 ∨ s ≤ n) :
    Calls Try.prog 17 #[ptr b, .int .i64 n] w fun e w' => e = .returned (.tuple #[.slice none 0 0, .int .i64 1]) ∧ w = w' := by
  have c := D.1.cell
  by_cases h1 : n < 0
  · go_enter Try.func17, Try.ntmps17
    go_wp2
    go_ret2
    exact ⟨rfl, rfl⟩
  have h2 : s ≤ n := by omega
  clear h
  go_enter Try.func17, Try.ntmps17
  go_wp2
  go_ret2
  exact ⟨rfl, rfl⟩
set_option maxHeartbeats 400000 in
theorem DiskRead_ok (D : DiskAt w b m s wr l false f) (hn : 0 ≤ n) (hs : n < s) (hsm : s ≤ 1024) (cs : Array Value) (hcs : cs.size = 64) (hf : (f (.int .i64 n)).getD zsector = .agg cs) (h1 : cs.all (·.oneCell') = true) :
    Calls Try.prog 17 #[ptr b, .int .i64 n] w fun e w' => e = .returned (.tuple #[.slice (some ⟨w.heap.size, 0, none⟩) 64 64, .int .i64 0]) ∧ w' = w.alloc (.cells cs 71) := by
  obtain ⟨hb, M⟩ := D
  have c := hb.cell
  have hlook := M.lookup keyedInt Try.underlying67 (zeroSector w) (keyOf_int_mk Try.underlying3 (show (Lit.int .i64 n).wf = true from WalkArith.wf_i64 (by omega))) false
  simp only [hf, Bool.false_eq_true, if_false] at hlook
  go_enter Try.func17, Try.ntmps17
  go_wp2_with (first | (refine L_val rfl (ex_alloc rfl (zeroSector _)) ?_) | (refine L_skip rfl (ex_store rfl rfl rfl (run_storeAt_new w 71 (Array.replicate 64 (.int .u8 0)) cs (by rw [hcs]; exact sizeSector) (by rw [hcs]; rfl) h1)) ?_))
  go_ret2
  exact ⟨rfl, rfl⟩
end
end Go.Proofs.Ytjgkanmhmkmdeaa
