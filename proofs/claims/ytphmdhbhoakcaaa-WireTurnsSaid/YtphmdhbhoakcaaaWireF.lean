/- wire.fields over a writer. -/
import Derived.Test.YtphmdhbhoakcaaaWireD
namespace Go.Proofs.Ytphmdhbhoakcaaa
open Go.RowKit Go.Ad Go.Maps
def fOk (m : MsgD) : Bool :=
  if m.kind = 1 then nokAll [m.transfer]
  else nokAll [m.epoch, m.transfer] && (if m.kind = 2 then upOk m else if m.kind = 3 then downOk m else chunkOk m)
def fEnc (m : MsgD) : List UInt8 :=
  if m.kind = 1 then nenc [m.transfer] ++ [if m.watch then 1 else 0]
  else nenc [m.epoch, m.transfer] ++ (if m.kind = 2 then upEnc m else if m.kind = 3 then downEnc m else chunkEnc m)
def fLen (m : MsgD) : Nat := 60 + m.il + m.dl + 10 * m.rl + slSum m 4
section
variable {w w' : World} {B wb : Nat} {av : List Nat} {v : Value} {ys : List UInt8} {e : Int}
set_option maxRecDepth 100000 in
set_option maxHeartbeats 3200000 in
theorem fields_w {b : Nat} {m : MsgD} (D : WrAt w B wb av v ys e) (hB : B ≤ w.heap.size) (hav : ∀ k ∈ av, k < w.heap.size) (hl : ys.length + 2000 + fLen m ≤ 1000000) (M : MsgAt w av b m) (hk : 1 ≤ m.kind ∧ m.kind ≤ 4) (hs4 : m.kind = 3 → m.seat ≠ 4) :
    Calls Try.prog 20 #[.iface 52 (ptr wb), ptr b] w (WPost w B wb av v ys e (fOk m) (fEnc m) (fLen m)) := by
  have hB0 := hB
  have hav0 := hav
  have M0 := M
  have hfl : fLen m = 60 + m.il + m.dl + 10 * m.rl + slSum m 4 := rfl
  have c0 : w.cell? ⟨b, 0, none⟩ = some (.int .i64 m.kind) := M.blk.cell 0
  have hk4 : m.kind = 1 ∨ m.kind = 2 ∨ m.kind = 3 ∨ m.kind = 4 := by omega
  clear hk
  rcases hk4 with h | h | h | h
  · rw [h] at c0
    have Ho := Lib.hid (show fOk m = nokAll [m.transfer] by simp [fOk, h])
    have Hn := Lib.hid (show fEnc m = nenc [m.transfer] ++ [if m.watch then 1 else 0] by simp [fEnc, h])
    have Hfl := Lib.hid hfl
    clear h hs4 hfl
    go_enter Try.func20, Try.ntmps20
    go_wp2_with fail
    rw [Hfl.out] at hl
    refine (plain1_s (x := m.transfer) (o := 2) (WSt.start D) hB hav (by omega) M.bav (M.blk.cell 2) (M.blk.froz 2)).mono ?_
    rintro z w1 ⟨v1, ys1, rfl, S1⟩
    simp only [Bool.true_and, List.nil_append, Nat.zero_add] at S1
    have M1 := M.over D hav S1.ex
    have hs1 := S1.ex.size
    have hl1 := S1.len
    go_wp2_with fail
    refine (truth_w S1.at' (by omega) (fun k hk => by have := hav k hk; omega) (by omega) (M1.blk.cell 3) (M1.blk.froz 3) M.bav).mono ?_
    rintro z w2 hz
    obtain ⟨v2, ys2, rfl, S2⟩ := S1.step hz (fun _ h => h)
    clear hz S1 M1
    go_wp2_with fail
    refine bodyPost_ret (v := .tuple #[]) (results_none rfl _ _ _) rfl ?_
    rw [Ho.out, Hn.out]
    rw [Bool.and_true] at S2
    exact S2.done.weak (by rw [Hfl.out]; omega)
  · rw [h] at c0
    have Ho := Lib.hid (show fOk m = (nokAll [m.epoch, m.transfer] && upOk m) by simp [fOk, h])
    have Hn := Lib.hid (show fEnc m = nenc [m.epoch, m.transfer] ++ upEnc m by simp [fEnc, h])
    have Hfl := Lib.hid hfl
    have HK := Lib.hid h
    have Hs4 := Lib.hid hs4
    clear h hs4 hfl
    go_enter Try.func20, Try.ntmps20
    go_wp2_with fail
    rw [Hfl.out] at hl
    have S0 := WSt.start D
    refine wp_region_ord (fun _ => True) [8] [(0, true), (1, true), (2, true), (3, true), (4, true), (5, true), (6, true), (7, false), (8, false)]
      (by kernel_rfl) (by kernel_rfl) (by kernel_rfl) (by kernel_rfl) rfl (by intro c a d v w h; cases d <;> exact h) trivial ?_
    simp only [mkOrd, List.filterMap_cons, List.filterMap_nil, List.getElem?_toArray, List.getElem?_cons_zero, List.getElem?_cons_succ, Option.map_some]
    iterate 7
      refine ord_take (v := ?_) rfl ?_ ?_
      rotate_left
      · intro w' hS
        go_simp
        with_reducible rfl
      go_frame
    refine ord_val (v := ?_) (w' := ?_) rfl ?_ ?_ ?_
    rotate_left
    rotate_left
    · go_simp
      first | with_reducible rfl | (refine ⟨?_, ?_⟩ <;> with_reducible rfl)
    · intro _; exact trivial
    go_frame
    have Sd := S0.go ((Ex.refl [] w).drew)
    refine ord_enter rfl (ex_call (vs := [.iface 52 (ptr wb), .slice (some ⟨w.heap.size, 0, none⟩) 2 2]) rfl Try.func40 rfl (by kernel_rfl) rfl) ?_
    refine (plain2_s (x := m.epoch) (y := m.transfer) (o := 1) (o' := 2) Sd hB0 hav0 (by omega) M0.bav (M.blk.cell 1) (M.blk.froz 1) (M.blk.cell 2) (M.blk.froz 2)).mono ?_
    rintro z w1 ⟨v1, ys1, rfl, S1⟩
    refine ⟨_, rfl, fun h => by simp at h, ?_⟩
    go_frame
    refine ord_nil ?_
    clear Sd S0
    simp only [Bool.true_and, List.nil_append, Nat.zero_add] at S1
    have M1 := M.over D hav S1.ex
    have hs1 := S1.ex.size
    have hl1 := S1.len
    have c1 : w1.cell? ⟨b, 0, none⟩ = some (.int .i64 2) := by rw [← HK.out]; exact M1.blk.cell 0
    go_wp2_with fail
    refine (up_w S1.at' (by omega) (fun k hk => by have := hav k hk; omega) (by omega) M1).mono ?_
    rintro z w2 hz
    obtain ⟨v2, ys2, rfl, S2⟩ := S1.step hz (fun _ h => h)
    clear hz S1 M1 c1 c0
    go_wp2_with fail
    go_end0
    rw [Ho.out, Hn.out]
    exact S2.done.weak (by rw [Hfl.out]; omega)
  · rw [h] at c0
    have Ho := Lib.hid (show fOk m = (nokAll [m.epoch, m.transfer] && downOk m) by simp [fOk, h])
    have Hn := Lib.hid (show fEnc m = nenc [m.epoch, m.transfer] ++ downEnc m by simp [fEnc, h])
    have Hfl := Lib.hid hfl
    have HK := Lib.hid h
    have Hs4 := Lib.hid hs4
    clear h hs4 hfl
    go_enter Try.func20, Try.ntmps20
    go_wp2_with fail
    rw [Hfl.out] at hl
    have S0 := WSt.start D
    refine wp_region_ord (fun _ => True) [8] [(0, true), (1, true), (2, true), (3, true), (4, true), (5, true), (6, true), (7, false), (8, false)]
      (by kernel_rfl) (by kernel_rfl) (by kernel_rfl) (by kernel_rfl) rfl (by intro c a d v w h; cases d <;> exact h) trivial ?_
    simp only [mkOrd, List.filterMap_cons, List.filterMap_nil, List.getElem?_toArray, List.getElem?_cons_zero, List.getElem?_cons_succ, Option.map_some]
    iterate 7
      refine ord_take (v := ?_) rfl ?_ ?_
      rotate_left
      · intro w' hS
        go_simp
        with_reducible rfl
      go_frame
    refine ord_val (v := ?_) (w' := ?_) rfl ?_ ?_ ?_
    rotate_left
    rotate_left
    · go_simp
      first | with_reducible rfl | (refine ⟨?_, ?_⟩ <;> with_reducible rfl)
    · intro _; exact trivial
    go_frame
    have Sd := S0.go ((Ex.refl [] w).drew)
    refine ord_enter rfl (ex_call (vs := [.iface 52 (ptr wb), .slice (some ⟨w.heap.size, 0, none⟩) 2 2]) rfl Try.func40 rfl (by kernel_rfl) rfl) ?_
    refine (plain2_s (x := m.epoch) (y := m.transfer) (o := 1) (o' := 2) Sd hB0 hav0 (by omega) M0.bav (M.blk.cell 1) (M.blk.froz 1) (M.blk.cell 2) (M.blk.froz 2)).mono ?_
    rintro z w1 ⟨v1, ys1, rfl, S1⟩
    refine ⟨_, rfl, fun h => by simp at h, ?_⟩
    go_frame
    refine ord_nil ?_
    clear Sd S0
    simp only [Bool.true_and, List.nil_append, Nat.zero_add] at S1
    have M1 := M.over D hav S1.ex
    have hs1 := S1.ex.size
    have hl1 := S1.len
    have c1 : w1.cell? ⟨b, 0, none⟩ = some (.int .i64 3) := by rw [← HK.out]; exact M1.blk.cell 0
    go_wp2_with fail
    refine (down_w S1.at' (by omega) (fun k hk => by have := hav k hk; omega) (by omega) M1 (Hs4.out HK.out)).mono ?_
    rintro z w2 hz
    obtain ⟨v2, ys2, rfl, S2⟩ := S1.step hz (fun _ h => h)
    clear hz S1 M1 c1 c0
    go_wp2_with fail
    go_end0
    rw [Ho.out, Hn.out]
    exact S2.done.weak (by rw [Hfl.out]; omega)
  · rw [h] at c0
    have Ho := Lib.hid (show fOk m = (nokAll [m.epoch, m.transfer] && chunkOk m) by simp [fOk, h])
    have Hn := Lib.hid (show fEnc m = nenc [m.epoch, m.transfer] ++ chunkEnc m by simp [fEnc, h])
    have Hfl := Lib.hid hfl
    have HK := Lib.hid h
    have Hs4 := Lib.hid hs4
    clear h hs4 hfl
    go_enter Try.func20, Try.ntmps20
    go_wp2_with fail
    rw [Hfl.out] at hl
    have S0 := WSt.start D
    refine wp_region_ord (fun _ => True) [8] [(0, true), (1, true), (2, true), (3, true), (4, true), (5, true), (6, true), (7, false), (8, false)]
      (by kernel_rfl) (by kernel_rfl) (by kernel_rfl) (by kernel_rfl) rfl (by intro c a d v w h; cases d <;> exact h) trivial ?_
    simp only [mkOrd, List.filterMap_cons, List.filterMap_nil, List.getElem?_toArray, List.getElem?_cons_zero, List.getElem?_cons_succ, Option.map_some]
    iterate 7
      refine ord_take (v := ?_) rfl ?_ ?_
      rotate_left
      · intro w' hS
        go_simp
        with_reducible rfl
      go_frame
    refine ord_val (v := ?_) (w' := ?_) rfl ?_ ?_ ?_
    rotate_left
    rotate_left
    · go_simp
      first | with_reducible rfl | (refine ⟨?_, ?_⟩ <;> with_reducible rfl)
    · intro _; exact trivial
    go_frame
    have Sd := S0.go ((Ex.refl [] w).drew)
    refine ord_enter rfl (ex_call (vs := [.iface 52 (ptr wb), .slice (some ⟨w.heap.size, 0, none⟩) 2 2]) rfl Try.func40 rfl (by kernel_rfl) rfl) ?_
    refine (plain2_s (x := m.epoch) (y := m.transfer) (o := 1) (o' := 2) Sd hB0 hav0 (by omega) M0.bav (M.blk.cell 1) (M.blk.froz 1) (M.blk.cell 2) (M.blk.froz 2)).mono ?_
    rintro z w1 ⟨v1, ys1, rfl, S1⟩
    refine ⟨_, rfl, fun h => by simp at h, ?_⟩
    go_frame
    refine ord_nil ?_
    clear Sd S0
    simp only [Bool.true_and, List.nil_append, Nat.zero_add] at S1
    have M1 := M.over D hav S1.ex
    have hs1 := S1.ex.size
    have hl1 := S1.len
    have c1 : w1.cell? ⟨b, 0, none⟩ = some (.int .i64 4) := by rw [← HK.out]; exact M1.blk.cell 0
    go_wp2_with fail
    refine (chunk_w S1.at' (by omega) (fun k hk => by have := hav k hk; omega) (by omega) M1).mono ?_
    rintro z w2 hz
    obtain ⟨v2, ys2, rfl, S2⟩ := S1.step hz (fun _ h => h)
    clear hz S1 M1 c1 c0
    go_wp2_with fail
    go_end0
    rw [Ho.out, Hn.out]
    exact S2.done.weak (by rw [Hfl.out]; omega)
set_option maxRecDepth 100000 in
set_option maxHeartbeats 3200000 in
theorem fields4_w {b : Nat} {m : MsgD} (D : WrAt w B wb av v ys e) (hB : B ≤ w.heap.size) (hav : ∀ k ∈ av, k < w.heap.size) (hl : ys.length + 2000 + fLen m ≤ 1000000) (M : MsgAt w av b m) (h : m.kind = 3) (hs4 : m.seat = 4) :
    Calls Try.prog 20 #[.iface 52 (ptr wb), ptr b] w (WNo w B wb av b v e (ys.length + fLen m)) := by
  have hB0 := hB
  have hav0 := hav
  have M0 := M
  have hfl : fLen m = 60 + m.il + m.dl + 10 * m.rl + slSum m 4 := rfl
  have c0 : w.cell? ⟨b, 0, none⟩ = some (.int .i64 3) := by rw [← h]; exact M.blk.cell 0
  have HK := Lib.hid h
  have Hfl := Lib.hid hfl
  have Hs4 := Lib.hid hs4
  clear h hs4 hfl
  go_enter Try.func20, Try.ntmps20
  go_wp2_with fail
  rw [Hfl.out] at hl
  have S0 := WSt.start D
  refine wp_region_ord (fun _ => True) [8] [(0, true), (1, true), (2, true), (3, true), (4, true), (5, true), (6, true), (7, false), (8, false)]
    (by kernel_rfl) (by kernel_rfl) (by kernel_rfl) (by kernel_rfl) rfl (by intro c a d v w h; cases d <;> exact h) trivial ?_
  simp only [mkOrd, List.filterMap_cons, List.filterMap_nil, List.getElem?_toArray, List.getElem?_cons_zero, List.getElem?_cons_succ, Option.map_some]
  iterate 7
    refine ord_take (v := ?_) rfl ?_ ?_
    rotate_left
    · intro w' hS
      go_simp
      with_reducible rfl
    go_frame
  refine ord_val (v := ?_) (w' := ?_) rfl ?_ ?_ ?_
  rotate_left
  rotate_left
  · go_simp
    first | with_reducible rfl | (refine ⟨?_, ?_⟩ <;> with_reducible rfl)
  · intro _; exact trivial
  go_frame
  have Sd := S0.go ((Ex.refl [] w).drew)
  refine ord_enter rfl (ex_call (vs := [.iface 52 (ptr wb), .slice (some ⟨w.heap.size, 0, none⟩) 2 2]) rfl Try.func40 rfl (by kernel_rfl) rfl) ?_
  refine (plain2_s (x := m.epoch) (y := m.transfer) (o := 1) (o' := 2) Sd hB0 hav0 (by omega) M0.bav (M.blk.cell 1) (M.blk.froz 1) (M.blk.cell 2) (M.blk.froz 2)).mono ?_
  rintro z w1 ⟨v1, ys1, rfl, S1⟩
  refine ⟨_, rfl, fun h => by simp at h, ?_⟩
  go_frame
  refine ord_nil ?_
  clear Sd S0
  simp only [Bool.true_and, List.nil_append, Nat.zero_add] at S1
  have M1 := M.over D hav S1.ex
  have hs1 := S1.ex.size
  have hl1 := S1.len
  have c1 : w1.cell? ⟨b, 0, none⟩ = some (.int .i64 3) := by rw [← HK.out]; exact M1.blk.cell 0
  go_wp2_with fail
  refine (down4_w S1.at' (by omega) (fun k hk => by have := hav k hk; omega) (by omega) M1 Hs4.out).mono ?_
  rintro z w2 ⟨v2, ys2, rfl, D2, hl2, X2, G2⟩
  clear M1 c1 c0
  go_wp2_with fail
  go_end0
  refine ⟨v2, ys2, rfl, ?_, by rw [Hfl.out]; omega, (S1.ex.mono (fun k hk => List.mem_cons_of_mem _ hk)).own X2 (fun k hk => ?_), S1.gr.grow G2 hs1⟩
  · rw [noted_two, Bool.and_false] at D2; exact D2
  · rcases List.mem_cons.1 hk with rfl | hk
    · exact .inl (by simp)
    · rcases List.mem_cons.1 hk with rfl | hk
      · exact .inl (by simp)
      · rcases S1.gr with h | ⟨y, h, hy⟩
        · exact .inl (by rw [h] at hk; simp [hk])
        · rw [h] at hk; simp at hk; exact .inr (by omega)
end
end Go.Proofs.Ytphmdhbhoakcaaa
