/- wire.number over a writer. -/
import Derived.Test.YtphmdhbhoakcaaaWireW
namespace Go.Proofs.Ytphmdhbhoakcaaa
open Go.RowKit Go.Ad Go.Maps
section
variable {w w' : World} {B wb : Nat} {av : List Nat} {v : Value} {ys : List UInt8} {e : Int}
theorem nil_within (wb : Nat) (k : Nat) (w : World) : (nilAhead (k + 1) 52 (ptr wb) "adit/wire.within").run Try.prog w = .ok (some false) w := by kernel_rfl
set_option maxRecDepth 100000 in
set_option maxHeartbeats 1600000 in
theorem number_w_in {n x : Nat} {f t : Int} {pb po : Nat} (D : WrAt w B wb av v ys e) (hB : B ≤ w.heap.size) (hav : ∀ k ∈ av, k < w.heap.size) (hn : n ≤ 4) (hl : ys.length + n ≤ 1000000) (hp : w.cell? ⟨pb, po, none⟩ = some (.int .i64 (x : Int))) (hpf : w.frozen? ⟨pb, po, none⟩ = false) (hpa : pb ∈ av) (h1 : f ≤ x) (h2 : (x : Int) ≤ t) (ht : t < 4294967296) :
    Calls Try.prog 47 #[.iface 52 (ptr wb), .int .i64 (n : Int), ptrAt pb po, .int .i64 f, .int .i64 t] w fun z w' => ∃ v', z = .returned (.tuple #[]) ∧ WrAt w' B wb av v' (ys ++ be n x) e ∧ Ex (wb :: v.ownBlock.toList) w w' ∧ Gr w v v' := by
  have hu : IntKind.u64.wrap (x : Int) = x := u64_of x (by omega) (by omega)
  have hx : x < 2 ^ 64 := by omega
  have Hpf := Lib.hid hpf
  clear hpf
  go_enter Try.func47, Try.ntmps47
  go_wp2_with (first | (refine G_val (o := ⟨some 32, _, _, _, _, _⟩) rfl (ex_assert rfl rfl (assert_ww wb _)) ?_) | (refine G_enter (o := ⟨some 52, _, _, _, _, _⟩) rfl (ex_invoke rfl rfl rfl (inv_raw wb _ _ _)) ?_))
  have X1 : Ex [] w (w.alloc (.cells #[.int .u64 (x : Int)] 90)) := (Ex.refl _ _).alloc _
  have B1 := Blk.new w #[.int .u64 (x : Int)] 90
  have hs1 := B1.lt
  have D1 := D.turn (av' := w.heap.size :: av) X1 (by simp) (fun k hk => by
    rcases List.mem_cons.1 hk with rfl | hk
    · exact .inr (Nat.le_refl _)
    · exact .inl hk)
  generalize w.alloc (.cells #[.int .u64 (x : Int)] 90) = w1 at *
  have hav1 : ∀ k ∈ w.heap.size :: av, k < w1.heap.size := fun k hk => by
    rcases List.mem_cons.1 hk with rfl | hk
    · exact hs1
    · have := hav k hk; omega
  refine (raw_w (n := n) (x := x) D1 (by omega) hav1 hn hl (B1.cell 0) (by simp) hx).mono ?_
  rintro z w2 ⟨v2, rfl, D2, X2, G2'⟩
  have G2 := (Gr.refl w v).grow G2' X1.size
  have hp2 : w2.cell? ⟨pb, po, none⟩ = some (.int .i64 (x : Int)) := cell_over D1 hav1 (by simp [hpa]) (by rw [X1.cell (p := ⟨pb, po, none⟩) (hav _ hpa) (by simp)]; exact hp) X2
  have hf2 : w2.frozen? ⟨pb, po, none⟩ = false := froz_over D1 hav1 (by simp [hpa]) (by rw [X1.frozen (p := ⟨pb, po, none⟩) (hav _ hpa) (by simp)]; exact Hpf.out) X2
  have hv2 : w2.cell? ⟨w.heap.size, 0, none⟩ = some (.int .u64 (x : Int)) := cell_over D1 hav1 (by simp) (B1.cell 0) X2
  have D3 := D2.turn (av' := av) (Ex.refl [] w2) (by simp) (fun k hk => .inl (by simp [hk]))
  have X3 : Ex (wb :: v.ownBlock.toList) w w2 := (X1.mono (by simp)).trans X2
  clear D1 D2 X2 B1 hav1 hp
  refine ⟨_, rfl, ?_⟩
  go_wp2_with (refine G_enter (o := ⟨some 58, _, _, _, _, _⟩) rfl (ex_invoke rfl rfl rfl (inv_failed wb _)) ?_)
  rw [setCell_stay hp2]
  refine (failed_any D3).mono ?_
  rintro z w3 ⟨rfl, rfl⟩
  refine ⟨_, rfl, ?_⟩
  by_cases he : e = 0
  · subst he
    go_wp2_with fail
    have hw : (w2.drew.cell? ⟨pb, po, none⟩ = some (.int .i64 (x : Int))) := hp2
    refine wp_region_ord (fun w' => w'.cell? ⟨pb, po, none⟩ = some (.int .i64 (x : Int))) [9] [(0, true), (1, true), (2, true), (3, true), (4, true), (5, true), (6, false), (7, true), (8, true), (9, false)]
      (by kernel_rfl) (by kernel_rfl) (by kernel_rfl) (by kernel_rfl) rfl (by intro c a d v w h; cases d <;> exact h) hw ?_
    simp only [mkOrd, List.filterMap_cons, List.filterMap_nil, List.getElem?_toArray, List.getElem?_cons_zero, List.getElem?_cons_succ, Option.map_some]
    iterate 6
      refine ord_take (v := ?_) rfl ?_ ?_
      rotate_left
      · intro w' hS
        have s0 := hS
        go_simp
        with_reducible rfl
      go_frame
    refine ord_val (v := ?_) (w' := ?_) rfl ?_ ?_ ?_
    rotate_left
    rotate_left
    · go_simp
      first | with_reducible rfl | (refine ⟨?_, ?_⟩ <;> with_reducible rfl)
    · intro _; exact hw
    go_frame
    have hnil := nil_within wb
    iterate 2
      refine ord_take (v := ?_) rfl ?_ ?_
      rotate_left
      · intro w' hS
        go_simp
        with_reducible rfl
      go_frame
    clear hnil
    refine ord_enter rfl (ex_invoke rfl rfl rfl (inv_within wb _ _ _ _)) ?_
    have D4 := D3.turn (av' := av) ((Ex.refl [] w2).drew) (by simp) (fun k hk => .inl hk)
    have X4 : Ex (wb :: v.ownBlock.toList) w w2.drew := X3.drew
    refine (within_any x f t D4).mono ?_
    rintro z w5 ⟨rfl, D5, X5⟩
    refine ⟨_, rfl, fun h => by simp at h, ?_⟩
    go_frame
    refine ord_nil ?_
    go_wp2_with fail
    go_end0
    refine ⟨v2, rfl, ?_, X4.trans (X5.mono (by simp)), G2⟩
    have hb : inB x f t = true := by simp [inB, h1, h2]
    rw [hb] at D5
    simpa [noted] using D5
  · have he' : (e == 0) = false := by simpa using he
    have he2 : (e != 0) = true := by simpa using he
    go_wp2_with fail
    go_end0
    exact ⟨v2, rfl, D3, X3, G2⟩
set_option maxRecDepth 100000 in
set_option maxHeartbeats 1600000 in
theorem number_w_out {n : Nat} {x f t : Int} {pb po : Nat} (D : WrAt w B wb av v ys e) (hav : ∀ k ∈ av, k < w.heap.size) (hp : w.cell? ⟨pb, po, none⟩ = some (.int .i64 x)) (hpa : pb ∈ av) (hb : inB x f t = false) :
    Calls Try.prog 47 #[.iface 52 (ptr wb), .int .i64 (n : Int), ptrAt pb po, .int .i64 f, .int .i64 t] w fun z w' => ∃ v', z = .returned (.tuple #[]) ∧ WrAt w' B wb av v' ys (noted false e 1) ∧ Ex (wb :: v.ownBlock.toList) w w' ∧ Gr w v v' := by
  have X1 : Ex [] w (w.alloc (.cells #[.int .u64 (IntKind.u64.wrap x)] 90)) := (Ex.refl _ _).alloc _
  have D1 := D.turn (av' := av) X1 (by simp) (fun k hk => .inl hk)
  have hp1 : (w.alloc (.cells #[.int .u64 (IntKind.u64.wrap x)] 90)).cell? ⟨pb, po, none⟩ = some (.int .i64 x) := by rw [X1.cell (p := ⟨pb, po, none⟩) (hav _ hpa) (by simp)]; exact hp
  have Hb := Lib.hid hb
  by_cases h1 : f ≤ x
  · have h2 : ¬ x ≤ t := fun h => by simp [inB, h1, h] at hb
    clear hb
    go_enter Try.func47, Try.ntmps47
    go_wp2_with (refine G_val (o := ⟨some 32, _, _, _, _, _⟩) rfl (ex_assert rfl rfl (assert_ww wb _)) ?_)
    have hb := Hb.out
    clear hp
    generalize w.alloc (.cells #[.int .u64 (IntKind.u64.wrap x)] 90) = w1 at *
    have hw : (w1.drew.cell? ⟨pb, po, none⟩ = some (.int .i64 x)) := hp1
    refine wp_region_ord (fun w' => w'.cell? ⟨pb, po, none⟩ = some (.int .i64 x)) [9] [(0, true), (1, true), (2, true), (3, true), (4, true), (5, true), (6, false), (7, true), (8, true), (9, false)]
      (by kernel_rfl) (by kernel_rfl) (by kernel_rfl) (by kernel_rfl) rfl (by intro c a d v w h; cases d <;> exact h) hw ?_
    simp only [mkOrd, List.filterMap_cons, List.filterMap_nil, List.getElem?_toArray, List.getElem?_cons_zero, List.getElem?_cons_succ, Option.map_some]
    iterate 6
      refine ord_take (v := ?_) rfl ?_ ?_
      rotate_left
      · intro w' hS
        have s0 := hS
        go_simp
        with_reducible rfl
      go_frame
    refine ord_val (v := ?_) (w' := ?_) rfl ?_ ?_ ?_
    rotate_left
    rotate_left
    · go_simp
      first | with_reducible rfl | (refine ⟨?_, ?_⟩ <;> with_reducible rfl)
    · intro _; exact hw
    go_frame
    have hnil := nil_within wb
    iterate 2
      refine ord_take (v := ?_) rfl ?_ ?_
      rotate_left
      · intro w' hS
        go_simp
        with_reducible rfl
      go_frame
    clear hnil
    refine ord_enter rfl (ex_invoke rfl rfl rfl (inv_within wb _ _ _ _)) ?_
    have D4 := D1.turn (av' := av) ((Ex.refl [] w1).drew) (by simp) (fun k hk => .inl hk)
    have X4 : Ex (wb :: v.ownBlock.toList) w w1.drew := (X1.mono (by simp)).drew
    refine (within_any x f t D4).mono ?_
    rintro z w5 ⟨rfl, D5, X5⟩
    refine ⟨_, rfl, fun h => by simp at h, ?_⟩
    go_frame
    refine ord_nil ?_
    go_wp2_with fail
    refine bodyPost_ret (v := .tuple #[]) (results_none rfl _ _ _) rfl ?_
    rw [hb] at D5
    exact ⟨v, rfl, D5, X4.trans (X5.mono (by simp)), Gr.refl _ _⟩
  · clear hb
    go_enter Try.func47, Try.ntmps47
    go_wp2_with (refine G_val (o := ⟨some 32, _, _, _, _, _⟩) rfl (ex_assert rfl rfl (assert_ww wb _)) ?_)
    have hb := Hb.out
    clear hp
    generalize w.alloc (.cells #[.int .u64 (IntKind.u64.wrap x)] 90) = w1 at *
    have hw : (w1.drew.cell? ⟨pb, po, none⟩ = some (.int .i64 x)) := hp1
    refine wp_region_ord (fun w' => w'.cell? ⟨pb, po, none⟩ = some (.int .i64 x)) [9] [(0, true), (1, true), (2, true), (3, true), (4, true), (5, true), (6, false), (7, true), (8, true), (9, false)]
      (by kernel_rfl) (by kernel_rfl) (by kernel_rfl) (by kernel_rfl) rfl (by intro c a d v w h; cases d <;> exact h) hw ?_
    simp only [mkOrd, List.filterMap_cons, List.filterMap_nil, List.getElem?_toArray, List.getElem?_cons_zero, List.getElem?_cons_succ, Option.map_some]
    iterate 6
      refine ord_take (v := ?_) rfl ?_ ?_
      rotate_left
      · intro w' hS
        have s0 := hS
        go_simp
        with_reducible rfl
      go_frame
    refine ord_val (v := ?_) (w' := ?_) rfl ?_ ?_ ?_
    rotate_left
    rotate_left
    · go_simp
      first | with_reducible rfl | (refine ⟨?_, ?_⟩ <;> with_reducible rfl)
    · intro _; exact hw
    go_frame
    have hnil := nil_within wb
    iterate 2
      refine ord_take (v := ?_) rfl ?_ ?_
      rotate_left
      · intro w' hS
        go_simp
        with_reducible rfl
      go_frame
    clear hnil
    refine ord_enter rfl (ex_invoke rfl rfl rfl (inv_within wb _ _ _ _)) ?_
    have D4 := D1.turn (av' := av) ((Ex.refl [] w1).drew) (by simp) (fun k hk => .inl hk)
    have X4 : Ex (wb :: v.ownBlock.toList) w w1.drew := (X1.mono (by simp)).drew
    refine (within_any x f t D4).mono ?_
    rintro z w5 ⟨rfl, D5, X5⟩
    refine ⟨_, rfl, fun h => by simp at h, ?_⟩
    go_frame
    refine ord_nil ?_
    go_wp2_with fail
    refine bodyPost_ret (v := .tuple #[]) (results_none rfl _ _ _) rfl ?_
    rw [hb] at D5
    exact ⟨v, rfl, D5, X4.trans (X5.mono (by simp)), Gr.refl _ _⟩
/-- What a number of n bytes does to a writer. -/
def numY (n : Nat) (f t x : Int) (ys : List UInt8) : List UInt8 := if inB x f t then ys ++ be n x.toNat else ys
theorem numY_len (n : Nat) (f t x : Int) (ys : List UInt8) : (numY n f t x ys).length ≤ ys.length + n := by
  unfold numY
  split <;> simp [be_length]
theorem number_w {n : Nat} {x f t : Int} {pb po : Nat} (D : WrAt w B wb av v ys e) (hB : B ≤ w.heap.size) (hav : ∀ k ∈ av, k < w.heap.size) (hn : n ≤ 4) (hl : ys.length + n ≤ 1000000) (hp : w.cell? ⟨pb, po, none⟩ = some (.int .i64 x)) (hpf : w.frozen? ⟨pb, po, none⟩ = false) (hpa : pb ∈ av) (hf : 0 ≤ f) (ht : t < 4294967296) :
    Calls Try.prog 47 #[.iface 52 (ptr wb), .int .i64 (n : Int), ptrAt pb po, .int .i64 f, .int .i64 t] w fun z w' => ∃ v', z = .returned (.tuple #[]) ∧ WrAt w' B wb av v' (numY n f t x ys) (noted (inB x f t) e 1) ∧ Ex (wb :: v.ownBlock.toList) w w' ∧ Gr w v v' := by
  unfold numY
  cases hb : inB x f t
  · exact (number_w_out D hav hp hpa hb)
  · have h : f ≤ x ∧ x ≤ t := by simpa [inB] using hb
    obtain ⟨m, rfl⟩ := Int.eq_ofNat_of_zero_le (show 0 ≤ x by omega)
    refine (number_w_in D hB hav hn hl hp hpf hpa h.1 h.2 ht).mono ?_
    rintro z w' ⟨v', rfl, D', X', G'⟩
    exact ⟨v', rfl, by simpa [noted] using D', X', G'⟩
end
end Go.Proofs.Ytphmdhbhoakcaaa
