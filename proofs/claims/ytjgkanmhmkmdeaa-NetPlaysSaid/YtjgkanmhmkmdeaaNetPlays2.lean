/- NetPlays: the walk. -/
import Derived.Test.YtjgkanmhmkmdeaaNetRow
import Derived.IntWalk
namespace Go.Proofs.Ytjgkanmhmkmdeaa
open Go.RowKit Go.Ad Go.Maps
/-- A call of a net as it lies in memory. -/
structure CallN where
  k : Int
  n : Int
  a : Option Addr
  len : Nat
  cap : Nat
  es : List Dv
def CallsN (W : World) (a : Option Addr) (cs : List CallN) : Prop := cs = [] ∨ ∃ b o, a = some ⟨b, o, none⟩ ∧ b < W.heap.size ∧ ∀ (i : Nat) (c : CallN), cs[i]? = some c →
  W.cell? ⟨b, o + i * 3, none⟩ = some (.int .i64 c.k) ∧ W.cell? ⟨b, o + i * 3 + 1, none⟩ = some (.int .i64 c.n) ∧ W.cell? ⟨b, o + i * 3 + 2, none⟩ = some (.slice c.a c.len c.cap) ∧ c.es.length = c.len ∧
  (c.es = [] ∨ ∃ eb eo, c.a = some ⟨eb, eo, none⟩ ∧ eb < W.heap.size ∧ RowAt W eb eo c.es) ∧ ∀ e ∈ c.es, BytesAt W e.a e.len e.data ∧ (e.a = none → e.cap = 0)
theorem map_erase {α β : Type} (f : α → β) (l : List α) (k : Nat) : (l.eraseIdx k).map f = (l.map f).eraseIdx k := by
  rw [List.eraseIdx_eq_take_drop_succ, List.eraseIdx_eq_take_drop_succ, List.map_append, List.map_take, List.map_drop]
section
variable {W w w' : World} {b : Nat} {lv v : Value} {ds : List Dv}
theorem ex_over_net (X : Ex [] W w) {av : List Nat} (D : NetAt w W.heap.size av b v ds) (X2 : Ex (b :: v.ownBlock.toList) w w') : Ex [] W w' := X.own X2 (fun y hy => by
  simp only [List.mem_cons, Option.mem_toList] at hy
  rcases hy with hy | hy
  · exact .inr (by have := D.bas; omega)
  · exact .inr (D.own.lt y hy).1)
theorem row_over_net {B : Nat} {n : Nat} {e : TypeId} {size : Nat} {xs : List Value} (O : w.ownsRow B e size lv n xs) (D : NetAt w B lv.ownBlock.toList b v ds) (X2 : Ex (b :: v.ownBlock.toList) w w') : w'.ownsRow B e size lv n xs :=
  ownsRow_ex O X2 (fun y hy => by
    simp only [List.mem_cons, Option.mem_toList, not_or]
    exact ⟨fun e => D.bav (by simp [← e, hy]), fun e => (D.vav y e).1 (by simp [hy])⟩)
end
/-- The net, and the law's own row. -/
def PlN (W wr : World) (b : Nat) (lv : Value) (m : Nat) : Prop := ∃ (v : Value) (ds ls : List Dv), NetAt wr W.heap.size lv.ownBlock.toList b v ds ∧ wr.ownsRow W.heap.size 58 3 lv ls.length (dcellsOf ls) ∧
  ds.map Dv.key = ls.map Dv.key ∧ (∀ d ∈ ls, DvOk W (fun _ => False) d) ∧ ls.length ≤ m
def PlNI (W : World) (b : Nat) (k : Nat) (lv vi : Value) (wr : World) : Prop := ∃ i : Nat, vi = .int .i64 (i : Int) ∧ i + k = 100 ∧ PlN W wr b lv (5 * i) ∧ Ex [] W wr
/-- Inside the sending: the net, the law's own row, the call's own block. -/
def SndI (W : World) (b b6 : Nat) (cc : Array Value) (m : Nat) (k : Nat) (lv vi : Value) (wr : World) : Prop := ∃ (j : Nat) (v : Value) (ds ls : List Dv), vi = .int .i64 (j : Int) ∧ j + k = 5 ∧ NetAt wr W.heap.size (b6 :: lv.ownBlock.toList) b v ds ∧
  lv.ownBlock ≠ some b6 ∧ wr.ownsRow W.heap.size 58 3 lv ls.length (dcellsOf ls) ∧ ds.map Dv.key = ls.map Dv.key ∧ (∀ d ∈ ls, DvOk W (fun _ => False) d) ∧ ls.length ≤ m + j ∧ Blk wr b6 cc 56 ∧ Ex [] W wr
def ClsI (W : World) (b : Nat) (lv : Value) (ls : List Dv) (k : Nat) (vi : Value) (wr : World) : Prop := ∃ (i : Nat) (v : Value) (ds : List Dv), vi = .int .i64 (i : Int) ∧ i + k = ls.length ∧ NetAt wr W.heap.size lv.ownBlock.toList b v ds ∧
  wr.ownsRow W.heap.size 58 3 lv ls.length (dcellsOf ls) ∧ ds.map Dv.key = (ls.drop i).map Dv.key ∧ Ex [] W wr
def MineB (w : World) (base : Nat) (v : Value) (len : Nat) (k : Nat) (vi : Value) (wr : World) : Prop :=
  ∃ (j : Nat) (ys : List UInt8), vi = .int .i64 (j : Int) ∧ j + k = len ∧ wr.ownsRow base 5 1 v len (ys.map bv) ∧ Ex v.ownBlock.toList w wr
set_option maxRecDepth 100000 in
set_option maxHeartbeats 25600000 in
theorem netPlays_walk (ca : Option Addr) (ccap : Nat) (cs : List CallN) (W : World) (hcs : CallsN W ca cs) :
    Calls Try.prog 6 #[.slice ca cs.length ccap] W fun e w' => e = .returned (.bool true) ∧ Ex [] W w' := by
  have Hcs := Lib.hid hcs
  clear hcs
  go_enter Try.func6, Try.ntmps6
  go_wp2_with fail
  with_reducible refine (known20 _).mono ?_
  rintro e w1 ⟨rfl, X1⟩
  go_wp2_with fail
  with_reducible refine (NetNew_any (av := []) (B := W.heap.size) X1.size (by simp)).mono ?_
  rintro e w2 ⟨rfl, D2, X2⟩
  have hb : W.heap.size ≤ w1.heap.size := X1.size
  have X : Ex [] W w2 := X1.trans X2
  have P2 : PlN W w2 w1.heap.size (.slice none 0 0) 0 := ⟨_, _, [], D2, World.ownsRow_nil _ _ _ _, rfl, by simp, by simp⟩
  generalize w1.heap.size = b at *
  clear D2 X1 X2
  go_wp2_with fail
  go_loopg [4, 5] 100 (fun k lv vi wr => PlNI W b k lv vi wr)
  case atStart => exact ⟨0, rfl, rfl, P2, X⟩
  case round =>
    clear P2 X
    obtain ⟨i, rfl, hk, ⟨v, ds, ls, D, O, hkey, hls, hll⟩, X⟩ := hrel
    have hsX := X.size
    have hdl : ds.length = ls.length := by have := congrArg List.length hkey; simpa using this
    obtain ⟨la, lc, rfl⟩ := own_shape O
    by_cases hin : i < cs.length ∧ i < 100
    · obtain ⟨hin1, hin2⟩ := hin
      rcases Hcs.out with h | ⟨cb, co, rfl, hcb, hcc⟩
      · rw [h] at hin1; simp at hin1
      obtain ⟨c, hc⟩ : ∃ c, cs[i]? = some c := ⟨cs[i], by simp⟩
      obtain ⟨q0, q1, q2, ql, qr, qe⟩ := hcc i c hc
      have hcx := fun o => X.cell (p := ⟨cb, o, none⟩) hcb (by simp)
      have r0 := (hcx _).trans q0
      have r1 := (hcx _).trans q1
      have r2 := (hcx _).trans q2
      have hin3 : (i : Int) < cs.length := by omega
      clear hc hcc hcx q0 q1 q2 hin1
      obtain ⟨ck, cn, ca, cl, ccp, es⟩ := c
      simp only at r0 r1 r2 ql qr qe
      have Hdl := Lib.hid hdl
      have Hll := Lib.hid hll
      have Hql := Lib.hid ql
      have hlb : ls.length ≤ 500 := by omega
      clear hdl hll ql
      by_cases hl0 : 0 < ls.length
      · have hl1 : (0 : Int) < ls.length := by omega
        have hl2 : ((ls.length : Int) == 0) = false := by rw [beq_eq_false_iff_ne]; omega
        have m0 := Int.emod_nonneg cn (show (ls.length : Int) ≠ 0 by omega)
        have m1 := Int.emod_lt_of_pos cn hl1
        have hkd : ck % 4 = 0 ∨ ck % 4 = 1 ∨ ck % 4 = 2 ∨ ck % 4 = 3 := by omega
        obtain ⟨lg, rfl⟩ : ∃ g, la = some ⟨g, 0, none⟩ := by
          rcases O.2 with ⟨_, h⟩ | ⟨g, cap, cur, h, _⟩
          · omega
          · cases h; exact ⟨g, rfl⟩
        have hcl : ls.length ≤ lc := by
          rcases O.2 with ⟨h0, _⟩ | ⟨g', cap', cur, h0, _, _, h2, _⟩
          · cases h0
          · cases h0; exact h2
        go_wp2_with fail
        have X6 : Ex [] wr (wr.alloc (.cells #[.int .i64 ck, .int .i64 cn, .slice ca cl ccp] 56)) := (Ex.refl [] _).alloc _
        have B6 := Blk.new wr #[.int .i64 ck, .int .i64 cn, .slice ca cl ccp] 56
        have D6 := D.ex X6 (by simp)
        have D6b := D.turn (av'' := wr.heap.size :: (Value.slice (some ⟨lg, 0, none⟩) ls.length lc).ownBlock.toList) X6 (by simp) (by intro k hk; rcases List.mem_cons.1 hk with h | h; exact .inr (by omega); exact .inl h)
        have ne6 : (Value.slice (some ⟨lg, 0, none⟩) ls.length lc).ownBlock ≠ some wr.heap.size := fun h => by have := (O.lt _ h).2; omega
        have O6 := ownsRow_ex O X6 (by simp)
        have hs6 := X6.size
        have hc6 := B6.lt
        generalize wr.alloc (.cells #[.int .i64 ck, .int .i64 cn, .slice ca cl ccp] 56) = w6 at *
        clear D O r0 r1 r2
        have cc6 := B6.cell
        have X06 := X.trans X6
        generalize wr.heap.size = b6 at *
        with_reducible refine (within20 cn (ls.length : Int) hl1 (by omega) _).mono ?_
        rintro e w7 ⟨rfl, rfl⟩
        obtain ⟨kk, hkk⟩ := Int.eq_ofNat_of_zero_le m0
        rw [hkk] at m1 ⊢
        have hkl : kk < ls.length := by omega
        have Hkk := Lib.hid hkk
        clear m0 hkk
        go_wp2_with fail
        with_reducible refine (within20 ck 4 (by omega) (by omega) _).mono ?_
        rintro e w7 ⟨rfl, rfl⟩
        rcases hkd with h | h | h | h
        · as_aux_lemma =>
          rw [h]
          clear h
          go_wp2_with fail
          obtain ⟨gko, rfl⟩ : ∃ g, g = gk := ⟨_, rfl⟩
          have P6 : SndI W b b6 #[.int .i64 ck, .int .i64 cn, .slice ca cl ccp] (5 * i) 5 (.slice (some ⟨lg, 0, none⟩) ls.length lc) (.int .i64 0) w6 := ⟨0, _, ds, ls, rfl, by omega, D6b, ne6, O6, hkey, hls, by have := Hll.out; omega, B6, X06⟩
          go_wp2_with fail
          go_loopg [4, 9] 5 (fun k lv vi wr => SndI W b b6 #[.int .i64 ck, .int .i64 cn, .slice ca cl ccp] (5 * i) k lv vi wr)
          case atStart => exact P6
          case round =>
            clear P6 D6 D6b ne6 O6 X06 cc6 B6 X6 hkey hls
            obtain ⟨j, v, ds, ls, rfl, hjk, D, hne, O, hkey, hls, hlm, B6, X⟩ := hrel
            have c6 := B6.cell
            have hsX := X.size
            obtain ⟨la, lc, rfl⟩ := own_shape O
            by_cases hj : j < cl ∧ j < 5
            · obtain ⟨hj1, hj2⟩ := hj
              obtain ⟨d, hd⟩ : ∃ d, es[j]? = some d := ⟨es[j]'(by rw [Hql.out]; exact hj1), by simp⟩
              have hj3 : (j : Int) < cl := by omega
              have hde := List.mem_of_getElem? hd
              rcases qr with h | ⟨eb, eo, rfl, heb, hR⟩
              · rw [h] at hd; simp at hd
              have hR2 := hR.ex X heb (by simp)
              obtain ⟨r0, r1, r2⟩ := hR2 j d hd
              obtain ⟨hby, hnil⟩ := qe d hde
              have Hnil := Lib.hid hnil
              have hby2 := hby.ex X (by simp)
              clear hd hR hR2 hnil
              obtain ⟨frm, to, da, dl, dc, dd⟩ := d
              simp only at r0 r1 r2 Hnil hby2 hby hde
              by_cases h3 : dl ≤ 300
              · have h3' : (dl : Int) ≤ 300 := by omega
                go_wp2_with fail
                have BD := Blk.new wr #[.int .i64 frm, .int .i64 to, .slice da dl dc] 58
                have XD : Ex [] wr (wr.alloc (.cells #[.int .i64 frm, .int .i64 to, .slice da dl dc] 58)) := (Ex.refl _ _).alloc _
                generalize wr.alloc (.cells #[.int .i64 frm, .int .i64 to, .slice da dl dc] 58) = wd at *
                have DD := D.turn (av'' := wr.heap.size :: b6 :: (Value.slice la ls.length lc).ownBlock.toList) XD (by simp) (fun k hk => by
                  rcases List.mem_cons.1 hk with rfl | hk
                  · exact .inr (Nat.le_refl _)
                  · exact .inl hk)
                have hlD := BD.lt
                have hl6 := B6.lt
                have hlO := O.lt
                have OD := ownsRow_ex O XD (by simp)
                have BD6 := B6.ex XD (by simp)
                have XXD := X.trans XD
                have hbyD := hby2.ex XD (by simp)
                have d0 := BD.cell 0
                have d1 := BD.cell 1
                have d2 := BD.cell 2
                clear c6 r0 r1 r2
                have HS : ∀ w', Ex [] wd w' → w'.cell? ⟨wr.heap.size, 0, none⟩ = some (.int .i64 frm) ∧ w'.cell? ⟨wr.heap.size, 1, none⟩ = some (.int .i64 to) ∧ w'.cell? ⟨wr.heap.size, 2, none⟩ = some (.slice da dl dc) := fun w' hx => by
                  refine ⟨?_, ?_, ?_⟩
                  · rw [hx.cell (p := ⟨wr.heap.size, 0, none⟩) BD.lt (by simp)]; exact d0
                  · rw [hx.cell (p := ⟨wr.heap.size, 1, none⟩) BD.lt (by simp)]; exact d1
                  · rw [hx.cell (p := ⟨wr.heap.size, 2, none⟩) BD.lt (by simp)]; exact d2
                refine wp_region_tree (x := ?xtree1) (fun w' => w'.cell? ⟨wr.heap.size, 0, none⟩ = some (.int .i64 frm) ∧ w'.cell? ⟨wr.heap.size, 1, none⟩ = some (.int .i64 to) ∧ w'.cell? ⟨wr.heap.size, 2, none⟩ = some (.slice da dl dc)) [] (.take 0 (.take 1 (.take 2 (.take 3 (.take 5 (.take 6 (.two 4 (.two 7 (.take 8 (.one 9 (.one 10 .nil))) 9 (.one 7 (.take 8 (.one 10 .nil)))) 9 (.one 4 (.one 7 (.take 8 (.one 10 .nil))))))))))) (by kernel_rfl) (by kernel_rfl) (by kernel_rfl) (by kernel_rfl) rfl (by intro c a d v w h; cases d <;> exact h) (HS _ (Ex.refl _ _).drew) ?hxtree1 ?_
                case hxtree1 =>
                  simp only [mkTr, List.getElem?_toArray, List.getElem?_cons_zero, List.getElem?_cons_succ]
                  exact rfl
                clear d0 d1 d2
                iterate 6
                  refine tre_take (v := ?_) rfl ?_ ?_
                  rotate_left
                  · intro w' hS
                    obtain ⟨s0, s1, s2⟩ := hS
                    go_simp
                    with_reducible rfl
                  go_frame
                have Xq : Ex [] wd wd.drew := (Ex.refl _ _).drew
                have HSe : ∀ w', Ex [] wd.drew w' → w'.cell? ⟨wr.heap.size, 0, none⟩ = some (.int .i64 frm) ∧ w'.cell? ⟨wr.heap.size, 1, none⟩ = some (.int .i64 to) ∧ w'.cell? ⟨wr.heap.size, 2, none⟩ = some (.slice da dl dc) := fun w' hx => HS w' (Xq.trans hx)
                have DD2 := DD.ex Xq (by simp)
                have OD2 := OD.drew
                have BE6 := BD6.drew
                have BE := BD.drew
                have XXE := XXD.drew
                have hbyE := hbyD.ex Xq (by simp)
                clear HS DD OD BD6 BD XXD hbyD XD Xq
                have HBE : 0 = 0 := rfl
                generalize wd.drew = we at *
                clear HBE
                have OA0 : (we.alloc (.cells #[] 5)).ownsRow we.heap.size 5 1 (.slice (some ⟨we.heap.size, 0, none⟩) 0 0) 0 (([] : List UInt8).map bv) := World.ownsRow_lit we #[] 0 (Nat.le_refl _) (by simp [maxLen]) rfl
                have XA : Ex [] we (we.alloc (.cells #[] 5)) := (Ex.refl _ _).alloc _
                refine tre_two ?_ ?_
                · skip
                  refine tre_val (v := ?_) (w' := ?_) rfl ?_ ?_ ?_
                  rotate_left
                  rotate_left
                  · go_simp
                    first | with_reducible rfl | (refine ⟨?_, ?_⟩ <;> with_reducible rfl)
                  · intro _; exact HSe _ XA
                  go_frame
                  refine tre_two ?_ ?_
                  · obtain ⟨dv, w2, hap, O2, X2, _, L2⟩ := mine_append XA (Nat.le_refl _) OA0 hbyE Hnil.out (by omega)
                    obtain ⟨xa, xc, rfl⟩ := own_shape O2
                    have Hap := Lib.hid hap
                    clear hap
                    refine tre_val rfl (ex_append2 (v1 := .slice (some ⟨we.heap.size, 0, none⟩) 0 0) (v2 := .slice da dl dc) rfl (by go_simp) (by go_simp) Hap.out) (fun _ => HSe _ X2) ?_
                    go_frame
                    iterate 1
                      refine tre_take (v := ?_) rfl ?_ ?_
                      rotate_left
                      · intro w' hS
                        go_simp
                        with_reducible rfl
                      go_frame
                    have B3 := Blk.new w2 #[.int .i64 0, .int .i64 0, .slice none 0 0] 58
                    have X3 : Ex [] w2 (w2.alloc (.cells #[.int .i64 0, .int .i64 0, .slice none 0 0] 58)) := (Ex.refl _ _).alloc _
                    have O3 := ownsRow_ex O2 X3 (by simp)
                    have l2 := O2.lt
                    refine tre_val (v := ?_) (w' := ?_) rfl ?_ ?_ ?_
                    rotate_left
                    rotate_left
                    · go_simp
                      first | with_reducible rfl | (refine ⟨?_, ?_⟩ <;> with_reducible rfl)
                    · intro _; exact HSe _ (X2.trans X3)
                    go_frame
                    have M := mine_store (frm := frm) (to := to) X2.size B3 O3 (fun h => by have := (l2 _ h).2; omega) (X2.trans X3)
                    generalize w2.heap.size = bm at *
                    generalize w2.alloc (.cells #[.int .i64 0, .int .i64 0, .slice none 0 0] 58) = w3 at *
                    have cbm := B3.cell
                    have cfm := B3.froz
                    refine tre_skip (w' := ?_) rfl ?_ ?_ ?_
                    rotate_left
                    · go_simp
                      first | with_reducible rfl | (refine ⟨?_, ?_⟩ <;> with_reducible rfl)
                    · intro h; exact HSe _ M.ex
                    go_frame
                    clear O2 X2 L2 Hap B3 X3 O3 l2 cbm cfm
                    refine tre_nil ?_
                    clear HSe hbyE OA0 XA
                    generalize hbd : wr.heap.size = bd at *
                    obtain ⟨hbm, BM, OM, nem, XM⟩ := M
                    have D5 := DD2.turn (av'' := bm :: (Value.slice xa dd.length xc).ownBlock.toList ++ (bd :: b6 :: (Value.slice la ls.length lc).ownBlock.toList)) XM (by simp) (fun k hk => by
                      rcases List.mem_append.1 hk with hk | hk
                      · rcases List.mem_cons.1 hk with rfl | hk
                        · exact .inr hbm
                        · exact .inr (OM.lt k (by simpa using hk)).1
                      · exact .inl hk)
                    have O5 := ownsRow_ex OD2 XM (by simp)
                    have B65 := BE6.ex XM (by simp)
                    have BD5 := BE.ex XM (by simp)
                    have X5 := XXE.trans XM
                    have hw1 := XM.size
                    have hw2 := XXE.size
                    have hwE := BE.lt
                    have hwE6 := BE6.lt
                    have hlO5 := OD2.lt
                    clear DD2 OD2 BE6 BE XXE XM
                    generalize ((w3.setCell ⟨bm, 0, none⟩ (.int .i64 frm)).setCell ⟨bm, 1, none⟩ (.int .i64 to)).setCell ⟨bm, 2, none⟩ (.slice xa dd.length xc) = w5 at *
                    have c5 := BM.cell
                    go_wp2_with fail
                    have X6 : Ex [] w5 (w5.alloc (.cells #[.int .i64 frm, .int .i64 to, .slice xa dd.length xc] 58)) := (Ex.refl _ _).alloc _
                    have BS := Blk.new w5 #[.int .i64 frm, .int .i64 to, .slice xa dd.length xc] 58
                    generalize hw6 : w5.alloc (.cells #[.int .i64 frm, .int .i64 to, .slice xa dd.length xc] 58) = w6' at *
                    clear c5 hw6
                    have D6 := D5.turn (av'' := w5.heap.size :: (bm :: (Value.slice xa dd.length xc).ownBlock.toList ++ (bd :: b6 :: (Value.slice la ls.length lc).ownBlock.toList))) X6 (by simp) (fun k hk => by
                      rcases List.mem_cons.1 hk with rfl | hk
                      · exact .inr (Nat.le_refl _)
                      · exact .inl hk)
                    have O6 := ownsRow_ex O5 X6 (by simp)
                    have B66 := B65.ex X6 (by simp)
                    have BD6 := BD5.ex X6 (by simp)
                    have OM6 := ownsRow_ex OM X6 (by simp)
                    have BM6 := BM.ex X6 (by simp)
                    have XX6 := X5.trans X6
                    have hR : RowAt w6' w5.heap.size 0 [⟨frm, to, xa, dd.length, xc, dd⟩] := fun q d hq => by
                      match q, hq with
                      | 0, hq =>
                        simp only [List.getElem?_cons_zero, Option.some.injEq] at hq
                        subst hq
                        exact ⟨BS.cell _, BS.cell _, BS.cell _⟩
                    have hdl9 : ds.length = ls.length := by have := congrArg List.length hkey; simpa using this
                    have hs6' := XX6.size
                    have hb6 := D6.vav
                    have hb7 := D6.bav
                    simp only [List.mem_cons, List.mem_append, Option.mem_toList, not_or] at hb6 hb7
                    have hddl : dd.length = dl := hby.1
                    with_reducible refine (NetSend_n (so := 0) (sc := 1) (n := 1) (es := [⟨frm, to, xa, dd.length, xc, dd⟩]) rfl D6 hs6' ?hav BS.lt hR ?hok ?hle).mono ?_
                    case hle => omega
                    case hok =>
                      intro d hd
                      obtain rfl := List.mem_singleton.1 hd
                      refine own_dv OM6 rfl (by omega) (fun c hc h => ?_) frm to
                      rcases h with rfl | h
                      · exact hb7.2.1.2 hc
                      · exact (hb6 c h).1.2.1.2 hc
                    case hav =>
                      intro x hx
                      have hsx := X6.size
                      simp only [List.mem_cons, List.mem_append, Option.mem_toList] at hx
                      rcases hx with (rfl | hx) | rfl | rfl | hx
                      · exact BM6.lt
                      · exact (OM6.lt x hx).2
                      · exact BD6.lt
                      · exact B66.lt
                      · exact (O6.lt x hx).2
                    rintro e w7 ⟨v7, es7, rfl, hes, D7, X67⟩
                    have hsub : ∀ k, k ≠ b → v.ownBlock ≠ some k → k ∉ b :: v.ownBlock.toList := fun k h1 h2 h => by
                      simp only [List.mem_cons, Option.mem_toList] at h
                      rcases h with h | h
                      · exact h1 h
                      · exact h2 h
                    have nbm : bm ∉ b :: v.ownBlock.toList := hsub _ (fun h => hb7.2.1.1 h.symm) (fun h => (hb6 _ h).1.2.1.1 rfl)
                    have nbd : bd ∉ b :: v.ownBlock.toList := hsub _ (fun h => hb7.2.2.1 h.symm) (fun h => (hb6 _ h).1.2.2.1 rfl)
                    have nb6 : b6 ∉ b :: v.ownBlock.toList := hsub _ (fun h => hb7.2.2.2.1 h.symm) (fun h => (hb6 _ h).1.2.2.2.1 rfl)
                    have nOM : ∀ k, (Value.slice xa dd.length xc).ownBlock = some k → k ∉ b :: v.ownBlock.toList := fun k hk => hsub _ (fun h => hb7.2.1.2 (by rw [← h]; exact hk)) (fun h => (hb6 _ h).1.2.1.2 hk)
                    have nO : ∀ k, (Value.slice la ls.length lc).ownBlock = some k → k ∉ b :: v.ownBlock.toList := fun k hk => hsub _ (fun h => hb7.2.2.2.2 (by rw [← h]; exact hk)) (fun h => (hb6 _ h).1.2.2.2.2 hk)
                    have O7 := ownsRow_ex O6 X67 nO
                    have OM7 := ownsRow_ex OM6 X67 nOM
                    have B67 := B66.ex X67 nb6
                    have BD7 := BD6.ex X67 nbd
                    have BM7 := BM6.ex X67 nbm
                    have X7 : Ex [] W w7 := XX6.own X67 (fun x hx => by
                      simp only [List.mem_cons, Option.mem_toList] at hx
                      rcases hx with hx | hx
                      · exact .inr (by have := D6.bas; omega)
                      · exact .inr (D6.own.lt x hx).1)
                    have hl76 := X67.size
                    have nlm : ∀ k, (Value.slice la ls.length lc).ownBlock = some k → k < we.heap.size := fun k hk => (hlO5 k hk).2
                    have nlw : ∀ k, (Value.slice xa dd.length xc).ownBlock = some k → we.heap.size ≤ k := fun k hk => (OM.lt k hk).1
                    have n1 : bm ∉ (Value.slice xa dd.length xc).ownBlock.toList := by simpa using nem
                    have n2 : bd ∉ (Value.slice xa dd.length xc).ownBlock.toList := fun h => by have := nlw bd (by simpa using h); omega
                    have n3 : b6 ∉ (Value.slice xa dd.length xc).ownBlock.toList := fun h => by have := nlw b6 (by simpa using h); omega
                    have n4 : ∀ k, (Value.slice la ls.length lc).ownBlock = some k → k ∉ (Value.slice xa dd.length xc).ownBlock.toList := fun k hk h => by have := nlm k hk; have := nlw k (by simpa using h); omega
                    clear hb6 hb7 hsub nbm nbd nb6 nOM nO D5 D6 O6 O5 OM6 B66 BD6 BM6 B65 BD5 X5 XX6 X6 BS hR OM BM nlw hlO5 X67 hwE hwE6 hbm hl76
                    have hdb : (dd.length : Int) ≤ 300 := by omega
                    have Hdd := Lib.hid hddl
                    clear hddl
                    obtain ⟨gk1, rfl⟩ : ∃ g, g = gk := ⟨_, rfl⟩
                    go_wp2_with fail
                    go_loopg [12] dd.length (fun k vi wr => MineB w7 we.heap.size (.slice xa dd.length xc) dd.length k vi wr)
                    case atStart => exact ⟨0, dd, rfl, by omega, OM7, Ex.refl _ _⟩
                    case round =>
                      obtain ⟨q, zs, rfl, hqk, OZ, XZ⟩ := hrel
                      have BMZ := BM7.ex XZ n1
                      have cZ := BMZ.cell
                      by_cases hql : (q : Int) < dd.length
                      · obtain ⟨xg, rfl⟩ : ∃ g, xa = some ⟨g, 0, none⟩ := by
                          rcases OZ.2 with ⟨h1, h2⟩ | ⟨g, cap, cur, h1, _⟩
                          · have := congrArg (fun v => match v with | Value.slice _ n _ => n | _ => 0) h1
                            simp at this
                            rw [this] at hql
                            simp at hql
                            omega
                          · cases h1; exact ⟨g, rfl⟩
                        have hzl : zs.length = dd.length := by have := OZ.1; simpa using this
                        obtain ⟨z, hz⟩ : ∃ z, zs[q]? = some z := ⟨zs[q], by simp⟩
                        have cz : wr.cell? ⟨xg, q, none⟩ = some (.int .u8 (z.toNat : Int)) := by rw [OZ.cellAt q (by omega)]; simp [hz]
                        have fz := OZ.frozenAt q
                        clear hz hzl
                        go_wp2_with fail
                        go_roundg (gk - 1)
                        case measure => omega
                        case rel =>
                          refine ⟨q + 1, zs.set q 238, by go_num, by omega, ?_, XZ.setCell (.inl (by simp [Value.ownBlock])) _⟩
                          rw [List.map_set]
                          exact (OZ.stored q _).1
                      · have O8 := ownsRow_ex O7 XZ n4
                        have B68 := B67.ex XZ n3
                        have BD8 := BD7.ex XZ n2
                        have hwv : ∀ k, (Value.slice xa dd.length xc).ownBlock = some k → W.heap.size ≤ k := fun k hk => by have := (OZ.lt k hk).1; omega
                        have X8 := X7.own XZ (fun k hk => .inr (hwv k (by simpa using hk)))
                        have D8 := D7.turn (av'' := b6 :: (Value.slice la ls.length lc).ownBlock.toList) XZ (fun k hk => .inl (by simp only [List.mem_cons, List.mem_append]; exact .inr (.inl (.inr hk)))) (fun k hk => by
                          simp only [List.mem_cons] at hk
                          refine .inl ?_
                          simp only [List.mem_cons, List.mem_append]
                          rcases hk with rfl | hk
                          · exact .inr (.inr (.inr (.inl rfl)))
                          · exact .inr (.inr (.inr (.inr hk))))
                        have hs8 := X8.size
                        have cD := BD8.cell
                        have BN := Blk.new wr #[.int .i64 frm, .int .i64 to, .slice da dl dc] 58
                        have XN : Ex [] wr (wr.alloc (.cells #[.int .i64 frm, .int .i64 to, .slice da dl dc] 58)) := (Ex.refl _ _).alloc _
                        have ON := ownsRow_ex O8 XN (by simp)
                        have hsn := XN.size
                        obtain ⟨lv9, w9, hap, O9, X9n, L9⟩ := own_join (c := 1) ON (by omega) (ad := ⟨wr.heap.size, 0, none⟩) (m := 1) (ys := [⟨frm, to, da, dl, dc, dd⟩]) rfl (fun q u hu => by
                          rw [Addr.add_mid, Nat.zero_add, BN.cell]; simpa [dcellsOf] using hu) (by omega)
                        have Hap := Lib.hid hap
                        clear hap
                        go_wp2_with (refine G_val rfl (ex_append2 rfl rfl rfl Hap.out) ?_)
                        go_roundg (gk1 - 1)
                        case measure => omega
                        case rel =>
                          obtain ⟨m, rfl, km⟩ := keys1 hes
                          have hl9 := O9.lt
                          have hlO := ON.lt
                          refine ⟨j + 1, v7, ds ++ [m], ls ++ [⟨frm, to, da, dl, dc, dd⟩], by go_num, by omega, ?_, ?_, ?_, ?_, ?_, ?_, (B68.ex XN (by simp)).ex X9n (fun h => by have := hlO _ (by simpa using h); exact hne (by simpa using h)), (X8.trans XN).own X9n (fun k hk => .inr (hlO k (by simpa using hk)).1)⟩
                          · refine (D8.ex XN (by simp)).turn X9n (fun k hk => .inl (List.mem_cons_of_mem _ hk)) (fun k hk => ?_)
                            rcases List.mem_cons.1 hk with rfl | hk
                            · exact .inl (by simp)
                            · simp only [Option.mem_toList] at hk
                              rcases L9 with h | h
                              · rw [h] at hk; exact .inl (List.mem_cons_of_mem _ (by simpa using hk))
                              · rw [h] at hk; cases hk; exact .inr (Nat.le_refl _)
                          · intro h
                            rcases L9 with h' | h'
                            · rw [h'] at h; exact hne h
                            · rw [h'] at h; cases h; have := B68.lt; omega
                          · rw [List.length_append, List.length_singleton]; exact O9
                          · rw [List.map_append, List.map_append, hkey]
                            simp [km, Dv.key]
                          · intro d hd
                            rcases List.mem_append.1 hd with h | h
                            · exact hls d h
                            · rw [List.mem_singleton.1 h]; exact ⟨hby, Hnil.out, show dl ≤ 140737488351232 by omega, fun _ _ _ _ h => h⟩
                          · rw [List.length_append, List.length_singleton]; omega
                  · have X2 : Ex [] we ((we.alloc (.cells #[] 5)).alloc (.cells #[.int .i64 0, .int .i64 0, .slice none 0 0] 58)) := XA.alloc _
                    have BZ := Blk.new (we.alloc (.cells #[] 5)) #[.int .i64 0, .int .i64 0, .slice none 0 0] 58
                    rw [World.size_alloc] at BZ
                    have OB := ownsRow_ex OA0 ((Ex.refl [] (we.alloc (.cells #[] 5))).alloc (.cells #[.int .i64 0, .int .i64 0, .slice none 0 0] 58)) (by simp)
                    refine tre_val (v := ?_) (w' := ?_) rfl ?_ ?_ ?_
                    rotate_left
                    rotate_left
                    · go_simp
                      first | with_reducible rfl | (refine ⟨?_, ?_⟩ <;> with_reducible rfl)
                    · intro _; exact HSe _ X2
                    go_frame
                    obtain ⟨dv, w3, hap, O2, X3, X3', L2⟩ := mine_append X2 (Nat.le_refl _) OB hbyE Hnil.out (by omega)
                    obtain ⟨xa, xc, rfl⟩ := own_shape O2
                    have Hap := Lib.hid hap
                    clear hap
                    refine tre_val rfl (ex_append2 (v1 := .slice (some ⟨we.heap.size, 0, none⟩) 0 0) (v2 := .slice da dl dc) rfl (by go_simp) (by go_simp) Hap.out) (fun _ => HSe _ X3) ?_
                    go_frame
                    iterate 1
                      refine tre_take (v := ?_) rfl ?_ ?_
                      rotate_left
                      · intro w' hS
                        go_simp
                        with_reducible rfl
                      go_frame
                    have B3 := BZ.ex X3' (by simp)
                    have M := mine_store (bm := we.heap.size + 1) (frm := frm) (to := to) (Nat.le_add_right _ 1) B3 O2 (fun h => by
                      rcases L2 with h' | h' <;> rw [h'] at h <;> simp at h) X3
                    have hbm0 : we.heap.size < we.heap.size + 1 := Nat.lt_succ_self _
                    generalize we.heap.size + 1 = bm at *
                    have cbm := B3.cell
                    have cfm := B3.froz
                    refine tre_skip (w' := ?_) rfl ?_ ?_ ?_
                    rotate_left
                    · go_simp
                      first | with_reducible rfl | (refine ⟨?_, ?_⟩ <;> with_reducible rfl)
                    · intro h; exact HSe _ M.ex
                    go_frame
                    clear O2 X2 X3 X3' L2 Hap B3 BZ OB cbm cfm
                    refine tre_nil ?_
                    clear HSe hbyE OA0 XA
                    generalize hbd : wr.heap.size = bd at *
                    obtain ⟨hbm, BM, OM, nem, XM⟩ := M
                    have D5 := DD2.turn (av'' := bm :: (Value.slice xa dd.length xc).ownBlock.toList ++ (bd :: b6 :: (Value.slice la ls.length lc).ownBlock.toList)) XM (by simp) (fun k hk => by
                      rcases List.mem_append.1 hk with hk | hk
                      · rcases List.mem_cons.1 hk with rfl | hk
                        · exact .inr hbm
                        · exact .inr (OM.lt k (by simpa using hk)).1
                      · exact .inl hk)
                    have O5 := ownsRow_ex OD2 XM (by simp)
                    have B65 := BE6.ex XM (by simp)
                    have BD5 := BE.ex XM (by simp)
                    have X5 := XXE.trans XM
                    have hw1 := XM.size
                    have hw2 := XXE.size
                    have hwE := BE.lt
                    have hwE6 := BE6.lt
                    have hlO5 := OD2.lt
                    clear DD2 OD2 BE6 BE XXE XM
                    generalize ((w3.setCell ⟨bm, 0, none⟩ (.int .i64 frm)).setCell ⟨bm, 1, none⟩ (.int .i64 to)).setCell ⟨bm, 2, none⟩ (.slice xa dd.length xc) = w5 at *
                    have c5 := BM.cell
                    go_wp2_with fail
                    have X6 : Ex [] w5 (w5.alloc (.cells #[.int .i64 frm, .int .i64 to, .slice xa dd.length xc] 58)) := (Ex.refl _ _).alloc _
                    have BS := Blk.new w5 #[.int .i64 frm, .int .i64 to, .slice xa dd.length xc] 58
                    generalize hw6 : w5.alloc (.cells #[.int .i64 frm, .int .i64 to, .slice xa dd.length xc] 58) = w6' at *
                    clear c5 hw6
                    have D6 := D5.turn (av'' := w5.heap.size :: (bm :: (Value.slice xa dd.length xc).ownBlock.toList ++ (bd :: b6 :: (Value.slice la ls.length lc).ownBlock.toList))) X6 (by simp) (fun k hk => by
                      rcases List.mem_cons.1 hk with rfl | hk
                      · exact .inr (Nat.le_refl _)
                      · exact .inl hk)
                    have O6 := ownsRow_ex O5 X6 (by simp)
                    have B66 := B65.ex X6 (by simp)
                    have BD6 := BD5.ex X6 (by simp)
                    have OM6 := ownsRow_ex OM X6 (by simp)
                    have BM6 := BM.ex X6 (by simp)
                    have XX6 := X5.trans X6
                    have hR : RowAt w6' w5.heap.size 0 [⟨frm, to, xa, dd.length, xc, dd⟩] := fun q d hq => by
                      match q, hq with
                      | 0, hq =>
                        simp only [List.getElem?_cons_zero, Option.some.injEq] at hq
                        subst hq
                        exact ⟨BS.cell _, BS.cell _, BS.cell _⟩
                    have hdl9 : ds.length = ls.length := by have := congrArg List.length hkey; simpa using this
                    have hs6' := XX6.size
                    have hb6 := D6.vav
                    have hb7 := D6.bav
                    simp only [List.mem_cons, List.mem_append, Option.mem_toList, not_or] at hb6 hb7
                    have hddl : dd.length = dl := hby.1
                    with_reducible refine (NetSend_n (so := 0) (sc := 1) (n := 1) (es := [⟨frm, to, xa, dd.length, xc, dd⟩]) rfl D6 hs6' ?hav BS.lt hR ?hok ?hle).mono ?_
                    case hle => omega
                    case hok =>
                      intro d hd
                      obtain rfl := List.mem_singleton.1 hd
                      refine own_dv OM6 rfl (by omega) (fun c hc h => ?_) frm to
                      rcases h with rfl | h
                      · exact hb7.2.1.2 hc
                      · exact (hb6 c h).1.2.1.2 hc
                    case hav =>
                      intro x hx
                      have hsx := X6.size
                      simp only [List.mem_cons, List.mem_append, Option.mem_toList] at hx
                      rcases hx with (rfl | hx) | rfl | rfl | hx
                      · exact BM6.lt
                      · exact (OM6.lt x hx).2
                      · exact BD6.lt
                      · exact B66.lt
                      · exact (O6.lt x hx).2
                    rintro e w7 ⟨v7, es7, rfl, hes, D7, X67⟩
                    have hsub : ∀ k, k ≠ b → v.ownBlock ≠ some k → k ∉ b :: v.ownBlock.toList := fun k h1 h2 h => by
                      simp only [List.mem_cons, Option.mem_toList] at h
                      rcases h with h | h
                      · exact h1 h
                      · exact h2 h
                    have nbm : bm ∉ b :: v.ownBlock.toList := hsub _ (fun h => hb7.2.1.1 h.symm) (fun h => (hb6 _ h).1.2.1.1 rfl)
                    have nbd : bd ∉ b :: v.ownBlock.toList := hsub _ (fun h => hb7.2.2.1 h.symm) (fun h => (hb6 _ h).1.2.2.1 rfl)
                    have nb6 : b6 ∉ b :: v.ownBlock.toList := hsub _ (fun h => hb7.2.2.2.1 h.symm) (fun h => (hb6 _ h).1.2.2.2.1 rfl)
                    have nOM : ∀ k, (Value.slice xa dd.length xc).ownBlock = some k → k ∉ b :: v.ownBlock.toList := fun k hk => hsub _ (fun h => hb7.2.1.2 (by rw [← h]; exact hk)) (fun h => (hb6 _ h).1.2.1.2 hk)
                    have nO : ∀ k, (Value.slice la ls.length lc).ownBlock = some k → k ∉ b :: v.ownBlock.toList := fun k hk => hsub _ (fun h => hb7.2.2.2.2 (by rw [← h]; exact hk)) (fun h => (hb6 _ h).1.2.2.2.2 hk)
                    have O7 := ownsRow_ex O6 X67 nO
                    have OM7 := ownsRow_ex OM6 X67 nOM
                    have B67 := B66.ex X67 nb6
                    have BD7 := BD6.ex X67 nbd
                    have BM7 := BM6.ex X67 nbm
                    have X7 : Ex [] W w7 := XX6.own X67 (fun x hx => by
                      simp only [List.mem_cons, Option.mem_toList] at hx
                      rcases hx with hx | hx
                      · exact .inr (by have := D6.bas; omega)
                      · exact .inr (D6.own.lt x hx).1)
                    have hl76 := X67.size
                    have nlm : ∀ k, (Value.slice la ls.length lc).ownBlock = some k → k < we.heap.size := fun k hk => (hlO5 k hk).2
                    have nlw : ∀ k, (Value.slice xa dd.length xc).ownBlock = some k → we.heap.size ≤ k := fun k hk => (OM.lt k hk).1
                    have n1 : bm ∉ (Value.slice xa dd.length xc).ownBlock.toList := by simpa using nem
                    have n2 : bd ∉ (Value.slice xa dd.length xc).ownBlock.toList := fun h => by have := nlw bd (by simpa using h); omega
                    have n3 : b6 ∉ (Value.slice xa dd.length xc).ownBlock.toList := fun h => by have := nlw b6 (by simpa using h); omega
                    have n4 : ∀ k, (Value.slice la ls.length lc).ownBlock = some k → k ∉ (Value.slice xa dd.length xc).ownBlock.toList := fun k hk h => by have := nlm k hk; have := nlw k (by simpa using h); omega
                    clear hb6 hb7 hsub nbm nbd nb6 nOM nO D5 D6 O6 O5 OM6 B66 BD6 BM6 B65 BD5 X5 XX6 X6 BS hR OM BM nlw hlO5 X67 hwE hwE6 hbm hl76
                    have hdb : (dd.length : Int) ≤ 300 := by omega
                    have Hdd := Lib.hid hddl
                    clear hddl
                    obtain ⟨gk1, rfl⟩ : ∃ g, g = gk := ⟨_, rfl⟩
                    go_wp2_with fail
                    go_loopg [12] dd.length (fun k vi wr => MineB w7 we.heap.size (.slice xa dd.length xc) dd.length k vi wr)
                    case atStart => exact ⟨0, dd, rfl, by omega, OM7, Ex.refl _ _⟩
                    case round =>
                      obtain ⟨q, zs, rfl, hqk, OZ, XZ⟩ := hrel
                      have BMZ := BM7.ex XZ n1
                      have cZ := BMZ.cell
                      by_cases hql : (q : Int) < dd.length
                      · obtain ⟨xg, rfl⟩ : ∃ g, xa = some ⟨g, 0, none⟩ := by
                          rcases OZ.2 with ⟨h1, h2⟩ | ⟨g, cap, cur, h1, _⟩
                          · have := congrArg (fun v => match v with | Value.slice _ n _ => n | _ => 0) h1
                            simp at this
                            rw [this] at hql
                            simp at hql
                            omega
                          · cases h1; exact ⟨g, rfl⟩
                        have hzl : zs.length = dd.length := by have := OZ.1; simpa using this
                        obtain ⟨z, hz⟩ : ∃ z, zs[q]? = some z := ⟨zs[q], by simp⟩
                        have cz : wr.cell? ⟨xg, q, none⟩ = some (.int .u8 (z.toNat : Int)) := by rw [OZ.cellAt q (by omega)]; simp [hz]
                        have fz := OZ.frozenAt q
                        clear hz hzl
                        go_wp2_with fail
                        go_roundg (gk - 1)
                        case measure => omega
                        case rel =>
                          refine ⟨q + 1, zs.set q 238, by go_num, by omega, ?_, XZ.setCell (.inl (by simp [Value.ownBlock])) _⟩
                          rw [List.map_set]
                          exact (OZ.stored q _).1
                      · have O8 := ownsRow_ex O7 XZ n4
                        have B68 := B67.ex XZ n3
                        have BD8 := BD7.ex XZ n2
                        have hwv : ∀ k, (Value.slice xa dd.length xc).ownBlock = some k → W.heap.size ≤ k := fun k hk => by have := (OZ.lt k hk).1; omega
                        have X8 := X7.own XZ (fun k hk => .inr (hwv k (by simpa using hk)))
                        have D8 := D7.turn (av'' := b6 :: (Value.slice la ls.length lc).ownBlock.toList) XZ (fun k hk => .inl (by simp only [List.mem_cons, List.mem_append]; exact .inr (.inl (.inr hk)))) (fun k hk => by
                          simp only [List.mem_cons] at hk
                          refine .inl ?_
                          simp only [List.mem_cons, List.mem_append]
                          rcases hk with rfl | hk
                          · exact .inr (.inr (.inr (.inl rfl)))
                          · exact .inr (.inr (.inr (.inr hk))))
                        have hs8 := X8.size
                        have cD := BD8.cell
                        have BN := Blk.new wr #[.int .i64 frm, .int .i64 to, .slice da dl dc] 58
                        have XN : Ex [] wr (wr.alloc (.cells #[.int .i64 frm, .int .i64 to, .slice da dl dc] 58)) := (Ex.refl _ _).alloc _
                        have ON := ownsRow_ex O8 XN (by simp)
                        have hsn := XN.size
                        obtain ⟨lv9, w9, hap, O9, X9n, L9⟩ := own_join (c := 1) ON (by omega) (ad := ⟨wr.heap.size, 0, none⟩) (m := 1) (ys := [⟨frm, to, da, dl, dc, dd⟩]) rfl (fun q u hu => by
                          rw [Addr.add_mid, Nat.zero_add, BN.cell]; simpa [dcellsOf] using hu) (by omega)
                        have Hap := Lib.hid hap
                        clear hap
                        go_wp2_with (refine G_val rfl (ex_append2 rfl rfl rfl Hap.out) ?_)
                        go_roundg (gk1 - 1)
                        case measure => omega
                        case rel =>
                          obtain ⟨m, rfl, km⟩ := keys1 hes
                          have hl9 := O9.lt
                          have hlO := ON.lt
                          refine ⟨j + 1, v7, ds ++ [m], ls ++ [⟨frm, to, da, dl, dc, dd⟩], by go_num, by omega, ?_, ?_, ?_, ?_, ?_, ?_, (B68.ex XN (by simp)).ex X9n (fun h => by have := hlO _ (by simpa using h); exact hne (by simpa using h)), (X8.trans XN).own X9n (fun k hk => .inr (hlO k (by simpa using hk)).1)⟩
                          · refine (D8.ex XN (by simp)).turn X9n (fun k hk => .inl (List.mem_cons_of_mem _ hk)) (fun k hk => ?_)
                            rcases List.mem_cons.1 hk with rfl | hk
                            · exact .inl (by simp)
                            · simp only [Option.mem_toList] at hk
                              rcases L9 with h | h
                              · rw [h] at hk; exact .inl (List.mem_cons_of_mem _ (by simpa using hk))
                              · rw [h] at hk; cases hk; exact .inr (Nat.le_refl _)
                          · intro h
                            rcases L9 with h' | h'
                            · rw [h'] at h; exact hne h
                            · rw [h'] at h; cases h; have := B68.lt; omega
                          · rw [List.length_append, List.length_singleton]; exact O9
                          · rw [List.map_append, List.map_append, hkey]
                            simp [km, Dv.key]
                          · intro d hd
                            rcases List.mem_append.1 hd with h | h
                            · exact hls d h
                            · rw [List.mem_singleton.1 h]; exact ⟨hby, Hnil.out, show dl ≤ 140737488351232 by omega, fun _ _ _ _ h => h⟩
                          · rw [List.length_append, List.length_singleton]; omega
                · skip
                  refine tre_val (v := ?_) (w' := ?_) rfl ?_ ?_ ?_
                  rotate_left
                  rotate_left
                  · go_simp
                    first | with_reducible rfl | (refine ⟨?_, ?_⟩ <;> with_reducible rfl)
                  · intro _; exact HSe _ ((Ex.refl _ _).alloc _)
                  go_frame
                  have X2 : Ex [] we ((we.alloc (.cells #[.int .i64 0, .int .i64 0, .slice none 0 0] 58)).alloc (.cells #[] 5)) := ((Ex.refl _ _).alloc _).alloc _
                  have BZ := (Blk.new we #[.int .i64 0, .int .i64 0, .slice none 0 0] 58).alloc (.cells #[] 5)
                  have OB : ((we.alloc (.cells #[.int .i64 0, .int .i64 0, .slice none 0 0] 58)).alloc (.cells #[] 5)).ownsRow we.heap.size 5 1 (.slice (some ⟨(we.alloc (.cells #[.int .i64 0, .int .i64 0, .slice none 0 0] 58)).heap.size, 0, none⟩) 0 0) 0 (([] : List UInt8).map bv) := World.ownsRow_lit _ #[] 0 (by simp) (by simp [maxLen]) rfl
                  rw [World.size_alloc] at OB
                  refine tre_val (v := ?_) (w' := ?_) rfl ?_ ?_ ?_
                  rotate_left
                  rotate_left
                  · go_simp
                    first | with_reducible rfl | (refine ⟨?_, ?_⟩ <;> with_reducible rfl)
                  · intro _; exact HSe _ X2
                  go_frame
                  obtain ⟨dv, w3, hap, O2, X3, X3', L2⟩ := mine_append X2 (Nat.le_succ _) OB hbyE Hnil.out (by omega)
                  obtain ⟨xa, xc, rfl⟩ := own_shape O2
                  have Hap := Lib.hid hap
                  clear hap
                  refine tre_val rfl (ex_append2 (v1 := .slice (some ⟨we.heap.size + 1, 0, none⟩) 0 0) (v2 := .slice da dl dc) rfl (by go_simp) (by go_simp) Hap.out) (fun _ => HSe _ X3) ?_
                  go_frame
                  iterate 1
                    refine tre_take (v := ?_) rfl ?_ ?_
                    rotate_left
                    · intro w' hS
                      go_simp
                      with_reducible rfl
                    go_frame
                  have B3 := BZ.ex X3' (by simp)
                  have M := mine_store (frm := frm) (to := to) (Nat.le_refl _) B3 O2 (fun h => by
                    rcases L2 with h' | h' <;> rw [h'] at h <;> first | (simp at h; done) | (simp at h; omega)) X3
                  generalize hbm1 : we.heap.size = bm at M B3 ⊢
                  have cbm := B3.cell
                  have cfm := B3.froz
                  refine tre_skip (w' := ?_) rfl ?_ ?_ ?_
                  rotate_left
                  · go_simp
                    first | with_reducible rfl | (refine ⟨?_, ?_⟩ <;> with_reducible rfl)
                  · intro h; exact HSe _ M.ex
                  go_frame
                  clear O2 X2 X3 X3' L2 Hap B3 BZ OB cbm cfm
                  refine tre_nil ?_
                  clear HSe hbyE OA0 XA
                  generalize hbd : wr.heap.size = bd at *
                  obtain ⟨hbm, BM, OM, nem, XM⟩ := M
                  have D5 := DD2.turn (av'' := bm :: (Value.slice xa dd.length xc).ownBlock.toList ++ (bd :: b6 :: (Value.slice la ls.length lc).ownBlock.toList)) XM (by simp) (fun k hk => by
                    rcases List.mem_append.1 hk with hk | hk
                    · rcases List.mem_cons.1 hk with rfl | hk
                      · exact .inr hbm
                      · exact .inr (OM.lt k (by simpa using hk)).1
                    · exact .inl hk)
                  have O5 := ownsRow_ex OD2 XM (by simp)
                  have B65 := BE6.ex XM (by simp)
                  have BD5 := BE.ex XM (by simp)
                  have X5 := XXE.trans XM
                  have hw1 := XM.size
                  have hw2 := XXE.size
                  have hwE := BE.lt
                  have hwE6 := BE6.lt
                  have hlO5 := OD2.lt
                  clear DD2 OD2 BE6 BE XXE XM
                  generalize ((w3.setCell ⟨bm, 0, none⟩ (.int .i64 frm)).setCell ⟨bm, 1, none⟩ (.int .i64 to)).setCell ⟨bm, 2, none⟩ (.slice xa dd.length xc) = w5 at *
                  have c5 := BM.cell
                  go_wp2_with fail
                  have X6 : Ex [] w5 (w5.alloc (.cells #[.int .i64 frm, .int .i64 to, .slice xa dd.length xc] 58)) := (Ex.refl _ _).alloc _
                  have BS := Blk.new w5 #[.int .i64 frm, .int .i64 to, .slice xa dd.length xc] 58
                  generalize hw6 : w5.alloc (.cells #[.int .i64 frm, .int .i64 to, .slice xa dd.length xc] 58) = w6' at *
                  clear c5 hw6
                  have D6 := D5.turn (av'' := w5.heap.size :: (bm :: (Value.slice xa dd.length xc).ownBlock.toList ++ (bd :: b6 :: (Value.slice la ls.length lc).ownBlock.toList))) X6 (by simp) (fun k hk => by
                    rcases List.mem_cons.1 hk with rfl | hk
                    · exact .inr (Nat.le_refl _)
                    · exact .inl hk)
                  have O6 := ownsRow_ex O5 X6 (by simp)
                  have B66 := B65.ex X6 (by simp)
                  have BD6 := BD5.ex X6 (by simp)
                  have OM6 := ownsRow_ex OM X6 (by simp)
                  have BM6 := BM.ex X6 (by simp)
                  have XX6 := X5.trans X6
                  have hR : RowAt w6' w5.heap.size 0 [⟨frm, to, xa, dd.length, xc, dd⟩] := fun q d hq => by
                    match q, hq with
                    | 0, hq =>
                      simp only [List.getElem?_cons_zero, Option.some.injEq] at hq
                      subst hq
                      exact ⟨BS.cell _, BS.cell _, BS.cell _⟩
                  have hdl9 : ds.length = ls.length := by have := congrArg List.length hkey; simpa using this
                  have hs6' := XX6.size
                  have hb6 := D6.vav
                  have hb7 := D6.bav
                  simp only [List.mem_cons, List.mem_append, Option.mem_toList, not_or] at hb6 hb7
                  have hddl : dd.length = dl := hby.1
                  with_reducible refine (NetSend_n (so := 0) (sc := 1) (n := 1) (es := [⟨frm, to, xa, dd.length, xc, dd⟩]) rfl D6 hs6' ?hav BS.lt hR ?hok ?hle).mono ?_
                  case hle => omega
                  case hok =>
                    intro d hd
                    obtain rfl := List.mem_singleton.1 hd
                    refine own_dv OM6 rfl (by omega) (fun c hc h => ?_) frm to
                    rcases h with rfl | h
                    · exact hb7.2.1.2 hc
                    · exact (hb6 c h).1.2.1.2 hc
                  case hav =>
                    intro x hx
                    have hsx := X6.size
                    simp only [List.mem_cons, List.mem_append, Option.mem_toList] at hx
                    rcases hx with (rfl | hx) | rfl | rfl | hx
                    · exact BM6.lt
                    · exact (OM6.lt x hx).2
                    · exact BD6.lt
                    · exact B66.lt
                    · exact (O6.lt x hx).2
                  rintro e w7 ⟨v7, es7, rfl, hes, D7, X67⟩
                  have hsub : ∀ k, k ≠ b → v.ownBlock ≠ some k → k ∉ b :: v.ownBlock.toList := fun k h1 h2 h => by
                    simp only [List.mem_cons, Option.mem_toList] at h
                    rcases h with h | h
                    · exact h1 h
                    · exact h2 h
                  have nbm : bm ∉ b :: v.ownBlock.toList := hsub _ (fun h => hb7.2.1.1 h.symm) (fun h => (hb6 _ h).1.2.1.1 rfl)
                  have nbd : bd ∉ b :: v.ownBlock.toList := hsub _ (fun h => hb7.2.2.1 h.symm) (fun h => (hb6 _ h).1.2.2.1 rfl)
                  have nb6 : b6 ∉ b :: v.ownBlock.toList := hsub _ (fun h => hb7.2.2.2.1 h.symm) (fun h => (hb6 _ h).1.2.2.2.1 rfl)
                  have nOM : ∀ k, (Value.slice xa dd.length xc).ownBlock = some k → k ∉ b :: v.ownBlock.toList := fun k hk => hsub _ (fun h => hb7.2.1.2 (by rw [← h]; exact hk)) (fun h => (hb6 _ h).1.2.1.2 hk)
                  have nO : ∀ k, (Value.slice la ls.length lc).ownBlock = some k → k ∉ b :: v.ownBlock.toList := fun k hk => hsub _ (fun h => hb7.2.2.2.2 (by rw [← h]; exact hk)) (fun h => (hb6 _ h).1.2.2.2.2 hk)
                  have O7 := ownsRow_ex O6 X67 nO
                  have OM7 := ownsRow_ex OM6 X67 nOM
                  have B67 := B66.ex X67 nb6
                  have BD7 := BD6.ex X67 nbd
                  have BM7 := BM6.ex X67 nbm
                  have X7 : Ex [] W w7 := XX6.own X67 (fun x hx => by
                    simp only [List.mem_cons, Option.mem_toList] at hx
                    rcases hx with hx | hx
                    · exact .inr (by have := D6.bas; omega)
                    · exact .inr (D6.own.lt x hx).1)
                  have hl76 := X67.size
                  have nlm : ∀ k, (Value.slice la ls.length lc).ownBlock = some k → k < we.heap.size := fun k hk => (hlO5 k hk).2
                  have nlw : ∀ k, (Value.slice xa dd.length xc).ownBlock = some k → we.heap.size ≤ k := fun k hk => (OM.lt k hk).1
                  have n1 : bm ∉ (Value.slice xa dd.length xc).ownBlock.toList := by simpa using nem
                  have n2 : bd ∉ (Value.slice xa dd.length xc).ownBlock.toList := fun h => by have := nlw bd (by simpa using h); omega
                  have n3 : b6 ∉ (Value.slice xa dd.length xc).ownBlock.toList := fun h => by have := nlw b6 (by simpa using h); omega
                  have n4 : ∀ k, (Value.slice la ls.length lc).ownBlock = some k → k ∉ (Value.slice xa dd.length xc).ownBlock.toList := fun k hk h => by have := nlm k hk; have := nlw k (by simpa using h); omega
                  clear hb6 hb7 hsub nbm nbd nb6 nOM nO D5 D6 O6 O5 OM6 B66 BD6 BM6 B65 BD5 X5 XX6 X6 BS hR OM BM nlw hlO5 X67 hwE hwE6 hbm hl76
                  have hdb : (dd.length : Int) ≤ 300 := by omega
                  have Hdd := Lib.hid hddl
                  clear hddl
                  obtain ⟨gk1, rfl⟩ : ∃ g, g = gk := ⟨_, rfl⟩
                  go_wp2_with fail
                  go_loopg [12] dd.length (fun k vi wr => MineB w7 we.heap.size (.slice xa dd.length xc) dd.length k vi wr)
                  case atStart => exact ⟨0, dd, rfl, by omega, OM7, Ex.refl _ _⟩
                  case round =>
                    obtain ⟨q, zs, rfl, hqk, OZ, XZ⟩ := hrel
                    have BMZ := BM7.ex XZ n1
                    have cZ := BMZ.cell
                    by_cases hql : (q : Int) < dd.length
                    · obtain ⟨xg, rfl⟩ : ∃ g, xa = some ⟨g, 0, none⟩ := by
                        rcases OZ.2 with ⟨h1, h2⟩ | ⟨g, cap, cur, h1, _⟩
                        · have := congrArg (fun v => match v with | Value.slice _ n _ => n | _ => 0) h1
                          simp at this
                          rw [this] at hql
                          simp at hql
                          omega
                        · cases h1; exact ⟨g, rfl⟩
                      have hzl : zs.length = dd.length := by have := OZ.1; simpa using this
                      obtain ⟨z, hz⟩ : ∃ z, zs[q]? = some z := ⟨zs[q], by simp⟩
                      have cz : wr.cell? ⟨xg, q, none⟩ = some (.int .u8 (z.toNat : Int)) := by rw [OZ.cellAt q (by omega)]; simp [hz]
                      have fz := OZ.frozenAt q
                      clear hz hzl
                      go_wp2_with fail
                      go_roundg (gk - 1)
                      case measure => omega
                      case rel =>
                        refine ⟨q + 1, zs.set q 238, by go_num, by omega, ?_, XZ.setCell (.inl (by simp [Value.ownBlock])) _⟩
                        rw [List.map_set]
                        exact (OZ.stored q _).1
                    · have O8 := ownsRow_ex O7 XZ n4
                      have B68 := B67.ex XZ n3
                      have BD8 := BD7.ex XZ n2
                      have hwv : ∀ k, (Value.slice xa dd.length xc).ownBlock = some k → W.heap.size ≤ k := fun k hk => by have := (OZ.lt k hk).1; omega
                      have X8 := X7.own XZ (fun k hk => .inr (hwv k (by simpa using hk)))
                      have D8 := D7.turn (av'' := b6 :: (Value.slice la ls.length lc).ownBlock.toList) XZ (fun k hk => .inl (by simp only [List.mem_cons, List.mem_append]; exact .inr (.inl (.inr hk)))) (fun k hk => by
                        simp only [List.mem_cons] at hk
                        refine .inl ?_
                        simp only [List.mem_cons, List.mem_append]
                        rcases hk with rfl | hk
                        · exact .inr (.inr (.inr (.inl rfl)))
                        · exact .inr (.inr (.inr (.inr hk))))
                      have hs8 := X8.size
                      have cD := BD8.cell
                      have BN := Blk.new wr #[.int .i64 frm, .int .i64 to, .slice da dl dc] 58
                      have XN : Ex [] wr (wr.alloc (.cells #[.int .i64 frm, .int .i64 to, .slice da dl dc] 58)) := (Ex.refl _ _).alloc _
                      have ON := ownsRow_ex O8 XN (by simp)
                      have hsn := XN.size
                      obtain ⟨lv9, w9, hap, O9, X9n, L9⟩ := own_join (c := 1) ON (by omega) (ad := ⟨wr.heap.size, 0, none⟩) (m := 1) (ys := [⟨frm, to, da, dl, dc, dd⟩]) rfl (fun q u hu => by
                        rw [Addr.add_mid, Nat.zero_add, BN.cell]; simpa [dcellsOf] using hu) (by omega)
                      have Hap := Lib.hid hap
                      clear hap
                      go_wp2_with (refine G_val rfl (ex_append2 rfl rfl rfl Hap.out) ?_)
                      go_roundg (gk1 - 1)
                      case measure => omega
                      case rel =>
                        obtain ⟨m, rfl, km⟩ := keys1 hes
                        have hl9 := O9.lt
                        have hlO := ON.lt
                        refine ⟨j + 1, v7, ds ++ [m], ls ++ [⟨frm, to, da, dl, dc, dd⟩], by go_num, by omega, ?_, ?_, ?_, ?_, ?_, ?_, (B68.ex XN (by simp)).ex X9n (fun h => by have := hlO _ (by simpa using h); exact hne (by simpa using h)), (X8.trans XN).own X9n (fun k hk => .inr (hlO k (by simpa using hk)).1)⟩
                        · refine (D8.ex XN (by simp)).turn X9n (fun k hk => .inl (List.mem_cons_of_mem _ hk)) (fun k hk => ?_)
                          rcases List.mem_cons.1 hk with rfl | hk
                          · exact .inl (by simp)
                          · simp only [Option.mem_toList] at hk
                            rcases L9 with h | h
                            · rw [h] at hk; exact .inl (List.mem_cons_of_mem _ (by simpa using hk))
                            · rw [h] at hk; cases hk; exact .inr (Nat.le_refl _)
                        · intro h
                          rcases L9 with h' | h'
                          · rw [h'] at h; exact hne h
                          · rw [h'] at h; cases h; have := B68.lt; omega
                        · rw [List.length_append, List.length_singleton]; exact O9
                        · rw [List.map_append, List.map_append, hkey]
                          simp [km, Dv.key]
                        · intro d hd
                          rcases List.mem_append.1 hd with h | h
                          · exact hls d h
                          · rw [List.mem_singleton.1 h]; exact ⟨hby, Hnil.out, show dl ≤ 140737488351232 by omega, fun _ _ _ _ h => h⟩
                        · rw [List.length_append, List.length_singleton]; omega
              · have h3' : (300 : Int) < dl := by omega
                go_wp2_with fail
                have XD : Ex [] wr (wr.alloc (.cells #[.int .i64 frm, .int .i64 to, .slice da dl dc] 58)) := (Ex.refl _ _).alloc _
                go_roundg (gk - 1)
                case measure => omega
                case rel => exact ⟨j + 1, v, ds, ls, by go_num, by omega, D.ex XD (by simp), hne, ownsRow_ex O XD (by simp), hkey, hls, by omega, B6.ex XD (by simp), X.trans XD⟩
            · by_cases hja : (j : Int) < cl
              · have hjb : ¬ ((j : Int) < 5) := by omega
                clear hj
                go_wp2_with fail
                have K9 := hkey
                have D9 := D.fewer (av' := (Value.slice la ls.length lc).ownBlock.toList) (by intro k hk; exact List.mem_cons_of_mem _ hk)
                have O9 := O
                have H9 := hls
                have M9 : ls.length ≤ 5 * i + 5 := by omega
                have X9 := X
                clear D O hls hlm X B6 hkey hne c6
                generalize (Value.slice la ls.length lc) = lv9 at *
                have hdl9 : ds.length = ls.length := by have := congrArg List.length K9; simpa using this
                have hL9 := NetLen_any D9
                rw [hdl9] at hL9
                obtain ⟨l9a, l9c, rfl⟩ := own_shape O9
                go_wp2_with fail
                with_reducible refine hL9.mono ?_
                rintro e wq ⟨rfl, rfl⟩
                clear hL9
                go_wp2_with fail
                go_roundg (gko - 1)
                case measure => omega
                case rel => exact ⟨i + 1, by go_num, by omega, ⟨v, ds, ls, D9, O9, K9, H9, by have := M9; omega⟩, X9⟩
              · clear hj
                go_wp2_with fail
                have K9 := hkey
                have D9 := D.fewer (av' := (Value.slice la ls.length lc).ownBlock.toList) (by intro k hk; exact List.mem_cons_of_mem _ hk)
                have O9 := O
                have H9 := hls
                have M9 : ls.length ≤ 5 * i + 5 := by omega
                have X9 := X
                clear D O hls hlm X B6 hkey hne c6
                generalize (Value.slice la ls.length lc) = lv9 at *
                have hdl9 : ds.length = ls.length := by have := congrArg List.length K9; simpa using this
                have hL9 := NetLen_any D9
                rw [hdl9] at hL9
                obtain ⟨l9a, l9c, rfl⟩ := own_shape O9
                go_wp2_with fail
                with_reducible refine hL9.mono ?_
                rintro e wq ⟨rfl, rfl⟩
                clear hL9
                go_wp2_with fail
                go_roundg (gko - 1)
                case measure => omega
                case rel => exact ⟨i + 1, by go_num, by omega, ⟨v, ds, ls, D9, O9, K9, H9, by have := M9; omega⟩, X9⟩
        · as_aux_lemma =>
          rw [h]
          clear h
          go_wp2_with fail
          with_reducible refine (NetDeliver_ok (i := cn) D6 (by rw [Hdl.out]; omega) (by rw [Hdl.out]; omega)).mono ?_
          rintro e w8 ⟨d, v9, hd, rfl, D8, E8, X68⟩
          have O8 := row_over_net O6 D6 X68
          have X8 := ex_over_net X06 D6 X68
          rw [Hdl.out, Hkk.out, Int.toNat_natCast] at D8 hd
          obtain ⟨y, hy⟩ : ∃ y, ls[kk]? = some y := ⟨ls[kk], by simp⟩
          have hkd : d.key = y.key := by
            have h1 := congrArg (fun l => l[kk]?) hkey
            simpa [hd, hy] using h1
          have Y8 : DvOk w8 (fun _ => False) y := (hls y (List.mem_of_getElem? hy)).ex X8 (by simp) (by simp)
          have F8 := own_elem O8 rfl hy
          have K9 : (ds.eraseIdx kk).map Dv.key = (ls.eraseIdx kk).map Dv.key := by rw [map_erase, map_erase, hkey]
          have H9 : ∀ d ∈ ls.eraseIdx kk, DvOk W (fun _ => False) d := fun d hd => hls d (List.mem_of_mem_eraseIdx hd)
          have M9 : (ls.eraseIdx kk).length ≤ 5 * i := by rw [List.length_eraseIdx_of_lt hkl]; have := Hll.out; omega
          have HK9 := Lib.hid K9
          have Hy := Lib.hid hy
          have Hkd := Lib.hid hkd
          clear cc6 D6 D6b ne6 O6 X06 X68 K9 hkey hd hy hkd
          obtain ⟨frm, to, da, dl, dc, dd⟩ := d
          go_wp2_with fail
          have B10 := Blk.new w8 #[.int .i64 frm, .int .i64 to, .slice da dl dc] 58
          have X10 : Ex [] w8 (w8.alloc (.cells #[.int .i64 frm, .int .i64 to, .slice da dl dc] 58)) := (Ex.refl _ _).alloc _
          generalize w8.alloc (.cells #[.int .i64 frm, .int .i64 to, .slice da dl dc] 58) = w10 at *
          have b0 := B10.cell 0
          have b1 := B10.cell 1
          have b2 := B10.cell 2
          have D10 := D8.ex X10 (by simp)
          have O10 := ownsRow_ex O8 X10 (by simp)
          have E10 := E8.ex X10 (bad' := fun c => c ∈ (Value.slice (some ⟨lg, 0, none⟩) ls.length lc).ownBlock.toList ∨ c = b ∨ v9.ownBlock = some c) (by simp) (fun _ _ h => h)
          have Y10 := Y8.ex X10 (bad' := fun _ => False) (by simp) (fun _ _ h => h)
          have F10 := own_elem O10 rfl Hy.out
          have XX := X8.trans X10
          clear D8 O8 E8 Y8 F8 X8 X10
          have HS : ∀ w', Ex [] w10 w' → (w'.cell? ⟨w8.heap.size, 0, none⟩ = some (.int .i64 frm) ∧ w'.cell? ⟨w8.heap.size, 1, none⟩ = some (.int .i64 to) ∧ w'.cell? ⟨w8.heap.size, 2, none⟩ = some (.slice da dl dc)) ∧ w'.cell? ⟨lg, kk * 3, none⟩ = some (.int .i64 y.frm) ∧ w'.cell? ⟨lg, kk * 3 + 1, none⟩ = some (.int .i64 y.to) ∧ w'.cell? ⟨lg, kk * 3 + 2, none⟩ = some (.slice y.a y.len y.cap) := fun w' hx => by
            have hl := O10.lt lg rfl
            refine ⟨⟨?_, ?_, ?_⟩, ?_, ?_, ?_⟩
            · rw [hx.cell (p := ⟨w8.heap.size, 0, none⟩) B10.lt (by simp)]; exact b0
            · rw [hx.cell (p := ⟨w8.heap.size, 1, none⟩) B10.lt (by simp)]; exact b1
            · rw [hx.cell (p := ⟨w8.heap.size, 2, none⟩) B10.lt (by simp)]; exact b2
            · rw [hx.cell (p := ⟨lg, _, none⟩) hl.2 (by simp)]; exact F10.1
            · rw [hx.cell (p := ⟨lg, _, none⟩) hl.2 (by simp)]; exact F10.2.1
            · rw [hx.cell (p := ⟨lg, _, none⟩) hl.2 (by simp)]; exact F10.2.2
          refine wp_region_ord (fun w' => (w'.cell? ⟨w8.heap.size, 0, none⟩ = some (.int .i64 frm) ∧ w'.cell? ⟨w8.heap.size, 1, none⟩ = some (.int .i64 to) ∧ w'.cell? ⟨w8.heap.size, 2, none⟩ = some (.slice da dl dc)) ∧ w'.cell? ⟨lg, kk * 3, none⟩ = some (.int .i64 y.frm) ∧ w'.cell? ⟨lg, kk * 3 + 1, none⟩ = some (.int .i64 y.to) ∧ w'.cell? ⟨lg, kk * 3 + 2, none⟩ = some (.slice y.a y.len y.cap)) [] [(0, true), (1, true), (2, true), (3, true), (4, true), (5, true), (6, true), (7, true), (8, true), (9, true), (10, true), (11, true), (12, false), (13, true), (14, true), (15, true), (16, true), (17, true), (18, true), (19, true), (20, true), (21, true), (22, false), (23, true), (24, true), (25, true)]
            (by kernel_rfl) (by kernel_rfl) (by kernel_rfl) (by kernel_rfl) rfl (by intro c a d v w h; cases d <;> exact h) (HS _ (Ex.refl _ _).drew) ?_
          simp only [mkOrd, List.filterMap_cons, List.filterMap_nil, List.getElem?_toArray, List.getElem?_cons_zero, List.getElem?_cons_succ, Option.map_some]
          clear b0 b1 b2 F10
          iterate 12
            refine ord_take (v := ?_) rfl ?_ ?_
            rotate_left
            · intro w' hS
              obtain ⟨⟨s0, s1, s2⟩, s3, s4, s5⟩ := hS
              go_simp
              with_reducible rfl
            go_frame
          have X11 : Ex [] w10 w10.drew := (Ex.refl _ _).drew
          refine ord_enter rfl (ex_call (vs := [.agg #[.int .i64 frm, .int .i64 to, .slice da dl dc], .agg #[.int .i64 y.frm, .int .i64 y.to, .slice y.a y.len y.cap]]) rfl Try.func29 rfl (by kernel_rfl) rfl) ?_
          refine (same20_eq ⟨frm, to, da, dl, dc, dd⟩ y (E10.ex X11 (bad' := fun _ => False) (by simp) (fun _ _ h => h.elim)) (Y10.ex X11 (bad' := fun _ => False) (by simp) (fun _ _ h => h)) Hkd.out).mono ?_
          rintro e w12 ⟨rfl, X12⟩
          refine ⟨_, rfl, fun _ => HS _ (X11.trans X12), ?_⟩
          go_frame
          iterate 7
            refine ord_take (v := ?_) rfl ?_ ?_
            rotate_left
            · intro w' hS
              go_simp
              with_reducible rfl
            go_frame
          iterate 2
            refine ord_pass rfl ?_
            go_frame
          refine ord_none rfl (fun _ => HS _ (X11.trans X12)) ?_
          go_frame
          iterate 1
            refine ord_pass rfl ?_
            go_frame
          iterate 2
            refine ord_take (v := ?_) rfl ?_ ?_
            rotate_left
            · intro w' hS
              go_simp
              with_reducible rfl
            go_frame
          refine ord_nil ?_
          have D8 := D10.ex (X11.trans X12) (by simp)
          have O8 := ownsRow_ex O10 (X11.trans X12) (by simp)
          have X8 := XX.trans (X11.trans X12)
          clear HS D10 O10 E10 Y10 XX X11 X12 B10
          go_wp2_with fail
          refine wp_region_ord (fun _ => True) [] [(1, true), (2, true), (3, true), (5, true), (6, true), (7, true), (8, true), (0, false), (4, false), (9, false), (10, true)]
            (by kernel_rfl) (by kernel_rfl) (by kernel_rfl) (by kernel_rfl) rfl (by intro c a d v w h; cases d <;> exact h) trivial ?_
          simp only [mkOrd, List.filterMap_cons, List.filterMap_nil, List.getElem?_toArray, List.getElem?_cons_zero, List.getElem?_cons_succ, Option.map_some]
          have De := D8.ex ((Ex.refl [] w12).drew) (by simp)
          have Oe := O8.drew
          have Xe := X8.drew
          have hse : w12.drew.heap.size = w12.heap.size := rfl
          clear D8 O8 X8
          generalize w12.drew = we at *
          obtain ⟨v1, w1', lv9, w9, A, hA, ha1, ha2, O9, X9e, hf9⟩ := erase_row Oe rfl hkl (by omega) Xe.size
          have Ha1 := Lib.hid ha1
          have Ha2 := Lib.hid ha2
          have i1 : kk ≤ lc := by have := hcl; omega
          have i2 : (0 : Int) ≤ (kk : Int) + 1 ∧ (kk : Int) + 1 ≤ (ls.length : Int) := by omega
          have i3 : IntKind.i64.wrap ((kk : Int) + 1) = (kk : Int) + 1 := IntWalk.i64_in _ (by omega)
          have i4 : ((kk : Int) + 1).toNat = kk + 1 := by omega
          clear ha1 ha2
          iterate 7
            refine ord_take (v := ?_) rfl ?_ ?_
            rotate_left
            · intro w' hS
              go_simp
              try simp only [i3, i4, if_pos i1, if_pos i2, hA]
              with_reducible rfl
            go_frame
          refine ord_val (v := ?_) (w' := ?_) rfl ?_ ?_ ?_
          rotate_left
          rotate_left
          · go_simp
            first | with_reducible rfl | (refine ⟨?_, ?_⟩ <;> with_reducible rfl)
          · intro _; exact trivial
          go_frame
          refine ord_val rfl (ex_append2 (v1 := .slice (some ⟨we.heap.size, 0, none⟩) 0 0) (v2 := .slice (some ⟨lg, 0, none⟩) kk lc) rfl (by go_simp) (by go_simp) Ha1.out) (fun _ => trivial) ?_
          go_frame
          refine ord_val rfl (ex_append2 (v1 := v1) (v2 := .slice (some A) (ls.length - (kk + 1)) (lc - (kk + 1))) rfl (by go_simp) (by go_simp) Ha2.out) (fun _ => trivial) ?_
          go_frame
          iterate 1
            refine ord_take (v := ?_) rfl ?_ ?_
            rotate_left
            · intro w' hS
              go_simp
              with_reducible rfl
            go_frame
          refine ord_nil ?_
          have D9 := De.turn (av'' := lv9.ownBlock.toList) X9e (by simp) (fun x hx => .inr (hf9 x (by simpa using hx)))
          have X9 := Xe.trans X9e
          clear De Oe Xe X9e hA i1 i2 i3 i4 Ha1 Ha2
          have K9 := HK9.out
          have hdl9 : (ds.eraseIdx kk).length = (ls.eraseIdx kk).length := by have := congrArg List.length K9; simpa using this
          have hL9 := NetLen_any D9
          rw [hdl9] at hL9
          obtain ⟨l9a, l9c, rfl⟩ := own_shape O9
          go_wp2_with fail
          with_reducible refine hL9.mono ?_
          rintro e wq ⟨rfl, rfl⟩
          clear hL9
          go_wp2_with fail
          go_roundg (gk - 1)
          case measure => omega
          case rel => exact ⟨i + 1, by go_num, by omega, ⟨v9, (ds.eraseIdx kk), (ls.eraseIdx kk), D9, O9, K9, H9, by have := M9; omega⟩, X9⟩
        · as_aux_lemma =>
          rw [h]
          clear h
          go_wp2_with fail
          with_reducible refine (NetDrop_ok (i := cn) D6 (by rw [Hdl.out]; omega) (by rw [Hdl.out]; omega)).mono ?_
          rintro e w8 ⟨v9, rfl, D8, X68⟩
          have O8 := row_over_net O6 D6 X68
          have X8 := ex_over_net X06 D6 X68
          rw [Hdl.out, Hkk.out, Int.toNat_natCast] at D8
          have K9 : (ds.eraseIdx kk).map Dv.key = (ls.eraseIdx kk).map Dv.key := by rw [map_erase, map_erase, hkey]
          have H9 : ∀ d ∈ ls.eraseIdx kk, DvOk W (fun _ => False) d := fun d hd => hls d (List.mem_of_mem_eraseIdx hd)
          have M9 : (ls.eraseIdx kk).length ≤ 5 * i := by rw [List.length_eraseIdx_of_lt hkl]; have := Hll.out; omega
          have HK9 := Lib.hid K9
          clear cc6 D6 D6b ne6 O6 X06 X68 K9 hkey
          go_wp2_with fail
          refine wp_region_ord (fun _ => True) [] [(1, true), (2, true), (3, true), (5, true), (6, true), (7, true), (8, true), (0, false), (4, false), (9, false), (10, true)]
            (by kernel_rfl) (by kernel_rfl) (by kernel_rfl) (by kernel_rfl) rfl (by intro c a d v w h; cases d <;> exact h) trivial ?_
          simp only [mkOrd, List.filterMap_cons, List.filterMap_nil, List.getElem?_toArray, List.getElem?_cons_zero, List.getElem?_cons_succ, Option.map_some]
          have De := D8.ex ((Ex.refl [] w8).drew) (by simp)
          have Oe := O8.drew
          have Xe := X8.drew
          have hse : w8.drew.heap.size = w8.heap.size := rfl
          clear D8 O8 X8
          generalize w8.drew = we at *
          obtain ⟨v1, w1', lv9, w9, A, hA, ha1, ha2, O9, X9e, hf9⟩ := erase_row Oe rfl hkl (by omega) Xe.size
          have Ha1 := Lib.hid ha1
          have Ha2 := Lib.hid ha2
          have i1 : kk ≤ lc := by have := hcl; omega
          have i2 : (0 : Int) ≤ (kk : Int) + 1 ∧ (kk : Int) + 1 ≤ (ls.length : Int) := by omega
          have i3 : IntKind.i64.wrap ((kk : Int) + 1) = (kk : Int) + 1 := IntWalk.i64_in _ (by omega)
          have i4 : ((kk : Int) + 1).toNat = kk + 1 := by omega
          clear ha1 ha2
          iterate 7
            refine ord_take (v := ?_) rfl ?_ ?_
            rotate_left
            · intro w' hS
              go_simp
              try simp only [i3, i4, if_pos i1, if_pos i2, hA]
              with_reducible rfl
            go_frame
          refine ord_val (v := ?_) (w' := ?_) rfl ?_ ?_ ?_
          rotate_left
          rotate_left
          · go_simp
            first | with_reducible rfl | (refine ⟨?_, ?_⟩ <;> with_reducible rfl)
          · intro _; exact trivial
          go_frame
          refine ord_val rfl (ex_append2 (v1 := .slice (some ⟨we.heap.size, 0, none⟩) 0 0) (v2 := .slice (some ⟨lg, 0, none⟩) kk lc) rfl (by go_simp) (by go_simp) Ha1.out) (fun _ => trivial) ?_
          go_frame
          refine ord_val rfl (ex_append2 (v1 := v1) (v2 := .slice (some A) (ls.length - (kk + 1)) (lc - (kk + 1))) rfl (by go_simp) (by go_simp) Ha2.out) (fun _ => trivial) ?_
          go_frame
          iterate 1
            refine ord_take (v := ?_) rfl ?_ ?_
            rotate_left
            · intro w' hS
              go_simp
              with_reducible rfl
            go_frame
          refine ord_nil ?_
          have D9 := De.turn (av'' := lv9.ownBlock.toList) X9e (by simp) (fun x hx => .inr (hf9 x (by simpa using hx)))
          have X9 := Xe.trans X9e
          clear De Oe Xe X9e hA i1 i2 i3 i4 Ha1 Ha2
          have K9 := HK9.out
          have hdl9 : (ds.eraseIdx kk).length = (ls.eraseIdx kk).length := by have := congrArg List.length K9; simpa using this
          have hL9 := NetLen_any D9
          rw [hdl9] at hL9
          obtain ⟨l9a, l9c, rfl⟩ := own_shape O9
          go_wp2_with fail
          with_reducible refine hL9.mono ?_
          rintro e wq ⟨rfl, rfl⟩
          clear hL9
          go_wp2_with fail
          go_roundg (gk - 1)
          case measure => omega
          case rel => exact ⟨i + 1, by go_num, by omega, ⟨v9, (ds.eraseIdx kk), (ls.eraseIdx kk), D9, O9, K9, H9, by have := M9; omega⟩, X9⟩
        · as_aux_lemma =>
          rw [h]
          clear h
          go_wp2_with fail
          with_reducible refine (NetDouble_ok (i := cn) D6 (by omega) ?hav (by rw [Hdl.out]; omega) (by rw [Hdl.out]; omega)).mono ?_
          case hav => intro x hx; exact (O6.lt x (by simpa using hx)).2
          rintro e w8 ⟨d, v9, es8, hd, rfl, hes, D8, X68⟩
          have O8 := row_over_net O6 D6 X68
          have X8 := ex_over_net X06 D6 X68
          rw [Hdl.out, Hkk.out, Int.toNat_natCast] at hd
          obtain ⟨y, hy⟩ : ∃ y, ls[kk]? = some y := ⟨ls[kk], by simp⟩
          have hkd : d.key = y.key := by
            have h1 := congrArg (fun l => l[kk]?) hkey
            simpa [hd, hy] using h1
          have HK9 := Lib.hid (show (ds ++ es8).map Dv.key = (ls ++ [y]).map Dv.key by rw [List.map_append, List.map_append, hkey, hes, hkd]; rfl)
          have H9 : ∀ d ∈ ls ++ [y], DvOk W (fun _ => False) d := fun d hd => by
            rcases List.mem_append.1 hd with h | h
            · exact hls d h
            · rw [List.mem_singleton.1 h]; exact hls y (List.mem_of_getElem? hy)
          have M9 : (ls ++ [y]).length ≤ 5 * i + 1 := by rw [List.length_append, List.length_singleton]; have := Hll.out; omega
          have Hy := Lib.hid hy
          clear cc6 D6 D6b ne6 O6 X06 X68 hkey hd hy hkd hes
          go_wp2_with fail
          have F8 := own_elem O8 rfl Hy.out
          have hl8 := O8.lt lg rfl
          have HS : ∀ w', Ex [] w8 w' → w'.cell? ⟨lg, kk * 3, none⟩ = some (.int .i64 y.frm) ∧ w'.cell? ⟨lg, kk * 3 + 1, none⟩ = some (.int .i64 y.to) ∧ w'.cell? ⟨lg, kk * 3 + 2, none⟩ = some (.slice y.a y.len y.cap) := fun w' hx => by
            refine ⟨?_, ?_, ?_⟩
            · rw [hx.cell (p := ⟨lg, _, none⟩) hl8.2 (by simp)]; exact F8.1
            · rw [hx.cell (p := ⟨lg, _, none⟩) hl8.2 (by simp)]; exact F8.2.1
            · rw [hx.cell (p := ⟨lg, _, none⟩) hl8.2 (by simp)]; exact F8.2.2
          refine wp_region_tree (x := ?xtree2) (fun w' => w'.cell? ⟨lg, kk * 3, none⟩ = some (.int .i64 y.frm) ∧ w'.cell? ⟨lg, kk * 3 + 1, none⟩ = some (.int .i64 y.to) ∧ w'.cell? ⟨lg, kk * 3 + 2, none⟩ = some (.slice y.a y.len y.cap)) [] (.take 1 (.take 3 (.take 4 (.take 5 (.take 6 (.two 0 (.two 2 (.one 7 (.one 8 (.take 9 .nil))) 7 (.one 2 (.one 8 (.take 9 .nil)))) 7 (.one 0 (.one 2 (.one 8 (.take 9 .nil)))))))))) (by kernel_rfl) (by kernel_rfl) (by kernel_rfl) (by kernel_rfl) rfl (by intro c a d v w h; cases d <;> exact h) (HS _ (Ex.refl _ _).drew) ?hxtree2 ?_
          case hxtree2 =>
            simp only [mkTr, List.getElem?_toArray, List.getElem?_cons_zero, List.getElem?_cons_succ]
            exact rfl
          clear F8
          iterate 5
            refine tre_take (v := ?_) rfl ?_ ?_
            rotate_left
            · intro w' hS
              obtain ⟨s0, s1, s2⟩ := hS
              go_simp
              with_reducible rfl
            go_frame
          have Xd : Ex [] w8 w8.drew := (Ex.refl _ _).drew
          have Oe := O8.drew
          have De := D8.ex Xd (by simp)
          have Xe := X8.drew
          clear D8 O8 X8
          have HSe : ∀ w', Ex [] w8.drew w' → w'.cell? ⟨lg, kk * 3, none⟩ = some (.int .i64 y.frm) ∧ w'.cell? ⟨lg, kk * 3 + 1, none⟩ = some (.int .i64 y.to) ∧ w'.cell? ⟨lg, kk * 3 + 2, none⟩ = some (.slice y.a y.len y.cap) := fun w' hx => HS w' (Xd.trans hx)
          clear HS Xd hl8
          generalize w8.drew = we at *
          have hse : we.heap.size = we.heap.size := rfl
          clear hse
          have XA : Ex [] we (we.alloc (.cells #[] 58)) := (Ex.refl _ _).alloc _
          have XY : Ex [] we (we.alloc (.cells y.cells.toArray 58)) := (Ex.refl _ _).alloc _
          have BY := Blk.new we y.cells.toArray 58
          have OA : (we.alloc (.cells #[] 58)).ownsRow we.heap.size 58 3 (.slice (some ⟨we.heap.size, 0, none⟩) 0 0) 0 (dcellsOf []) := World.ownsRow_lit we #[] 0 (Nat.le_refl _) (by simp [maxLen]) rfl
          refine tre_two ?_ ?_
          · skip
            refine tre_val (v := ?_) (w' := ?_) rfl ?_ ?_ ?_
            rotate_left
            rotate_left
            · go_simp
              first | with_reducible rfl | (refine ⟨?_, ?_⟩ <;> with_reducible rfl)
            · intro _; exact HSe _ XA
            go_frame
            refine tre_two ?_ ?_
            · obtain ⟨v1, w1', ha1, O1, X1, _⟩ := join_first XA (Nat.le_refl _) OA Oe rfl (by omega)
              have Ha1 := Lib.hid ha1
              clear ha1
              refine tre_val rfl (ex_append2 (v1 := .slice (some ⟨we.heap.size, 0, none⟩) 0 0) (v2 := .slice (some ⟨lg, 0, none⟩) ls.length lc) rfl (by go_simp) (by go_simp) Ha1.out) (fun _ => HSe _ X1) ?_
              go_frame
              have X2 : Ex [] w1' (w1'.alloc (.cells y.cells.toArray 58)) := (Ex.refl _ _).alloc _
              have BZ := Blk.new w1' y.cells.toArray 58
              refine tre_val (v := ?_) (w' := ?_) rfl ?_ ?_ ?_
              rotate_left
              rotate_left
              · go_simp
                first | with_reducible rfl | (refine ⟨?_, ?_⟩ <;> with_reducible rfl)
              · intro _; exact HSe _ (X1.trans X2)
              go_frame
              obtain ⟨lv9, w9, ha2, J⟩ := join_one (w0 := we) (e0 := 0) (g := 0) (cap := 0) (Ex.refl _ _) O1 X1 rfl X2 BZ (by omega)
              have Ha2 := Lib.hid ha2
              clear ha2
              refine tre_val rfl (ex_append2 (v1 := v1) (v2 := .slice (some ⟨w1'.heap.size, 0, none⟩) 1 1) rfl (by go_simp) (by go_simp) Ha2.out) (fun _ => HSe _ J.2.1) ?_
              go_frame
              iterate 1
                refine tre_take (v := ?_) rfl ?_ ?_
                rotate_left
                · intro w' hS
                  go_simp
                  with_reducible rfl
                go_frame
              refine tre_nil ?_
              clear Ha1 Ha2 X1 X2 BZ O1 XA XY BY OA Oe
              obtain ⟨O9, X9e, hf9⟩ := J
              have D9 := De.turn (av'' := lv9.ownBlock.toList) X9e (by simp) (fun x hx => .inr (hf9 x (by simpa using hx)))
              have X9 := Xe.trans X9e
              have hsX := Xe.size
              obtain ⟨v9', rfl⟩ : ∃ v, v9 = v := ⟨_, rfl⟩
              have K9 := HK9.out
              clear De Xe HSe X9e
              generalize ls ++ [y] = ls9 at *
              generalize ds ++ es8 = ds9 at *
              have O9 : w9.ownsRow W.heap.size 58 3 lv9 ls9.length (dcellsOf ls9) := ⟨O9.1, O9.2.imp id (fun ⟨g', cap', cur, a1, a2, a3⟩ => ⟨g', cap', cur, a1, by omega, a3⟩)⟩
              have hdl9 : ds9.length = ls9.length := by have := congrArg List.length K9; simpa using this
              have hL9 := NetLen_any D9
              rw [hdl9] at hL9
              obtain ⟨l9a, l9c, rfl⟩ := own_shape O9
              go_wp2_with fail
              with_reducible refine hL9.mono ?_
              rintro e wq ⟨rfl, rfl⟩
              clear hL9
              go_wp2_with fail
              go_roundg (gk - 1)
              case measure => omega
              case rel => exact ⟨i + 1, by go_num, by omega, ⟨v9, ds9, ls9, D9, O9, K9, H9, by have := M9; omega⟩, X9⟩
            · have X2 : Ex [] we ((we.alloc (.cells #[] 58)).alloc (.cells y.cells.toArray 58)) := XA.alloc _
              have BZ := Blk.new (we.alloc (.cells #[] 58)) y.cells.toArray 58
              have OB := ownsRow_ex OA ((Ex.refl [] (we.alloc (.cells #[] 58))).alloc (.cells y.cells.toArray 58)) (by simp)
              rw [World.size_alloc] at BZ
              refine tre_val (v := ?_) (w' := ?_) rfl ?_ ?_ ?_
              rotate_left
              rotate_left
              · go_simp
                first | with_reducible rfl | (refine ⟨?_, ?_⟩ <;> with_reducible rfl)
              · intro _; exact HSe _ X2
              go_frame
              obtain ⟨v1, w1', ha1, O1, X1, X1'⟩ := join_first X2 (Nat.le_refl _) OB Oe rfl (by omega)
              have BW := BZ.ex X1' (by simp)
              have Ha1 := Lib.hid ha1
              clear ha1
              refine tre_val rfl (ex_append2 (v1 := .slice (some ⟨we.heap.size, 0, none⟩) 0 0) (v2 := .slice (some ⟨lg, 0, none⟩) ls.length lc) rfl (by go_simp) (by go_simp) Ha1.out) (fun _ => HSe _ X1) ?_
              go_frame
              obtain ⟨lv9, w9, ha2, J⟩ := join_one (w0 := we) (e0 := 0) (g := 0) (cap := 0) (Ex.refl _ _) O1 X1 rfl (Ex.refl _ _) BW (by omega)
              have Ha2 := Lib.hid ha2
              clear ha2
              refine tre_val rfl (ex_append2 (v1 := v1) (v2 := .slice (some ⟨we.heap.size + 1, 0, none⟩) 1 1) rfl (by go_simp) (by go_simp) Ha2.out) (fun _ => HSe _ J.2.1) ?_
              go_frame
              iterate 1
                refine tre_take (v := ?_) rfl ?_ ?_
                rotate_left
                · intro w' hS
                  go_simp
                  with_reducible rfl
                go_frame
              refine tre_nil ?_
              clear Ha1 Ha2 X1 X1' X2 BZ BW O1 XA XY BY OA OB Oe
              obtain ⟨O9, X9e, hf9⟩ := J
              have D9 := De.turn (av'' := lv9.ownBlock.toList) X9e (by simp) (fun x hx => .inr (hf9 x (by simpa using hx)))
              have X9 := Xe.trans X9e
              have hsX := Xe.size
              obtain ⟨v9', rfl⟩ : ∃ v, v9 = v := ⟨_, rfl⟩
              have K9 := HK9.out
              clear De Xe HSe X9e
              generalize ls ++ [y] = ls9 at *
              generalize ds ++ es8 = ds9 at *
              have O9 : w9.ownsRow W.heap.size 58 3 lv9 ls9.length (dcellsOf ls9) := ⟨O9.1, O9.2.imp id (fun ⟨g', cap', cur, a1, a2, a3⟩ => ⟨g', cap', cur, a1, by omega, a3⟩)⟩
              have hdl9 : ds9.length = ls9.length := by have := congrArg List.length K9; simpa using this
              have hL9 := NetLen_any D9
              rw [hdl9] at hL9
              obtain ⟨l9a, l9c, rfl⟩ := own_shape O9
              go_wp2_with fail
              with_reducible refine hL9.mono ?_
              rintro e wq ⟨rfl, rfl⟩
              clear hL9
              go_wp2_with fail
              go_roundg (gk - 1)
              case measure => omega
              case rel => exact ⟨i + 1, by go_num, by omega, ⟨v9, ds9, ls9, D9, O9, K9, H9, by have := M9; omega⟩, X9⟩
          · skip
            refine tre_val (v := ?_) (w' := ?_) rfl ?_ ?_ ?_
            rotate_left
            rotate_left
            · go_simp
              first | with_reducible rfl | (refine ⟨?_, ?_⟩ <;> with_reducible rfl)
            · intro _; exact HSe _ XY
            go_frame
            have X2 : Ex [] we ((we.alloc (.cells y.cells.toArray 58)).alloc (.cells #[] 58)) := XY.alloc _
            have BZ := BY.alloc (.cells #[] 58)
            have OB : ((we.alloc (.cells y.cells.toArray 58)).alloc (.cells #[] 58)).ownsRow we.heap.size 58 3 (.slice (some ⟨(we.alloc (.cells y.cells.toArray 58)).heap.size, 0, none⟩) 0 0) 0 (dcellsOf []) := World.ownsRow_lit _ #[] 0 (by simp) (by simp [maxLen]) rfl
            rw [World.size_alloc] at OB
            refine tre_val (v := ?_) (w' := ?_) rfl ?_ ?_ ?_
            rotate_left
            rotate_left
            · go_simp
              first | with_reducible rfl | (refine ⟨?_, ?_⟩ <;> with_reducible rfl)
            · intro _; exact HSe _ X2
            go_frame
            obtain ⟨v1, w1', ha1, O1, X1, X1'⟩ := join_first X2 (Nat.le_succ _) OB Oe rfl (by omega)
            have BW := BZ.ex X1' (by simp)
            have Ha1 := Lib.hid ha1
            clear ha1
            refine tre_val rfl (ex_append2 (v1 := .slice (some ⟨we.heap.size + 1, 0, none⟩) 0 0) (v2 := .slice (some ⟨lg, 0, none⟩) ls.length lc) rfl (by go_simp) (by go_simp) Ha1.out) (fun _ => HSe _ X1) ?_
            go_frame
            obtain ⟨lv9, w9, ha2, J⟩ := join_one (w0 := we) (e0 := 0) (g := 0) (cap := 0) (Ex.refl _ _) O1 X1 rfl (Ex.refl _ _) BW (by omega)
            have Ha2 := Lib.hid ha2
            clear ha2
            refine tre_val rfl (ex_append2 (v1 := v1) (v2 := .slice (some ⟨we.heap.size, 0, none⟩) 1 1) rfl (by go_simp) (by go_simp) Ha2.out) (fun _ => HSe _ J.2.1) ?_
            go_frame
            iterate 1
              refine tre_take (v := ?_) rfl ?_ ?_
              rotate_left
              · intro w' hS
                go_simp
                with_reducible rfl
              go_frame
            refine tre_nil ?_
            clear Ha1 Ha2 X1 X1' X2 BZ BW O1 XA XY BY OA OB Oe
            obtain ⟨O9, X9e, hf9⟩ := J
            have D9 := De.turn (av'' := lv9.ownBlock.toList) X9e (by simp) (fun x hx => .inr (hf9 x (by simpa using hx)))
            have X9 := Xe.trans X9e
            have hsX := Xe.size
            obtain ⟨v9', rfl⟩ : ∃ v, v9 = v := ⟨_, rfl⟩
            have K9 := HK9.out
            clear De Xe HSe X9e
            generalize ls ++ [y] = ls9 at *
            generalize ds ++ es8 = ds9 at *
            have O9 : w9.ownsRow W.heap.size 58 3 lv9 ls9.length (dcellsOf ls9) := ⟨O9.1, O9.2.imp id (fun ⟨g', cap', cur, a1, a2, a3⟩ => ⟨g', cap', cur, a1, by omega, a3⟩)⟩
            have hdl9 : ds9.length = ls9.length := by have := congrArg List.length K9; simpa using this
            have hL9 := NetLen_any D9
            rw [hdl9] at hL9
            obtain ⟨l9a, l9c, rfl⟩ := own_shape O9
            go_wp2_with fail
            with_reducible refine hL9.mono ?_
            rintro e wq ⟨rfl, rfl⟩
            clear hL9
            go_wp2_with fail
            go_roundg (gk - 1)
            case measure => omega
            case rel => exact ⟨i + 1, by go_num, by omega, ⟨v9, ds9, ls9, D9, O9, K9, H9, by have := M9; omega⟩, X9⟩
      · obtain rfl : ls = [] := List.eq_nil_of_length_eq_zero (by omega)
        obtain rfl : ds = [] := List.eq_nil_of_length_eq_zero (by have := Hdl.out; simpa using this)
        have kk : Nat := 0
        have hkd : ck % 4 = 0 ∨ ck % 4 = 1 ∨ ck % 4 = 2 ∨ ck % 4 = 3 := by omega
        generalize hls0 : ([] : List Dv) = ls at O hkey hls Hll Hdl hlb
        subst hls0
        go_wp2_with fail
        have X6 : Ex [] wr (wr.alloc (.cells #[.int .i64 ck, .int .i64 cn, .slice ca cl ccp] 56)) := (Ex.refl [] _).alloc _
        have B6 := Blk.new wr #[.int .i64 ck, .int .i64 cn, .slice ca cl ccp] 56
        have D6 := D.ex X6 (by simp)
        have D6b := D.turn (av'' := wr.heap.size :: (Value.slice la ([] : List Dv).length lc).ownBlock.toList) X6 (by simp) (by intro k hk; rcases List.mem_cons.1 hk with h | h; exact .inr (by omega); exact .inl h)
        have ne6 : (Value.slice la ([] : List Dv).length lc).ownBlock ≠ some wr.heap.size := fun h => by have := (O.lt _ h).2; omega
        have O6 := ownsRow_ex O X6 (by simp)
        have hs6 := X6.size
        have hc6 := B6.lt
        generalize wr.alloc (.cells #[.int .i64 ck, .int .i64 cn, .slice ca cl ccp] 56) = w6 at *
        clear D O r0 r1 r2
        have cc6 := B6.cell
        have X06 := X.trans X6
        generalize wr.heap.size = b6 at *
        with_reducible refine (within20 ck 4 (by omega) (by omega) _).mono ?_
        rintro e w7 ⟨rfl, rfl⟩
        rcases hkd with h | h | h | h
        · as_aux_lemma =>
          rw [h]
          clear h
          go_wp2_with fail
          obtain ⟨gko, rfl⟩ : ∃ g, g = gk := ⟨_, rfl⟩
          have P6 : SndI W b b6 #[.int .i64 ck, .int .i64 cn, .slice ca cl ccp] (5 * i) 5 (.slice la 0 lc) (.int .i64 0) w6 := ⟨0, _, ([] : List Dv), ([] : List Dv), rfl, by omega, D6b, ne6, O6, rfl, hls, by have := Hll.out; omega, B6, X06⟩
          go_wp2_with fail
          go_loopg [4, 9] 5 (fun k lv vi wr => SndI W b b6 #[.int .i64 ck, .int .i64 cn, .slice ca cl ccp] (5 * i) k lv vi wr)
          case atStart => exact P6
          case round =>
            clear P6 D6 D6b ne6 O6 X06 cc6 B6 X6 hkey hls
            obtain ⟨j, v, ds, ls, rfl, hjk, D, hne, O, hkey, hls, hlm, B6, X⟩ := hrel
            have c6 := B6.cell
            have hsX := X.size
            obtain ⟨la, lc, rfl⟩ := own_shape O
            by_cases hj : j < cl ∧ j < 5
            · obtain ⟨hj1, hj2⟩ := hj
              obtain ⟨d, hd⟩ : ∃ d, es[j]? = some d := ⟨es[j]'(by rw [Hql.out]; exact hj1), by simp⟩
              have hj3 : (j : Int) < cl := by omega
              have hde := List.mem_of_getElem? hd
              rcases qr with h | ⟨eb, eo, rfl, heb, hR⟩
              · rw [h] at hd; simp at hd
              have hR2 := hR.ex X heb (by simp)
              obtain ⟨r0, r1, r2⟩ := hR2 j d hd
              obtain ⟨hby, hnil⟩ := qe d hde
              have Hnil := Lib.hid hnil
              have hby2 := hby.ex X (by simp)
              clear hd hR hR2 hnil
              obtain ⟨frm, to, da, dl, dc, dd⟩ := d
              simp only at r0 r1 r2 Hnil hby2 hby hde
              by_cases h3 : dl ≤ 300
              · have h3' : (dl : Int) ≤ 300 := by omega
                go_wp2_with fail
                have BD := Blk.new wr #[.int .i64 frm, .int .i64 to, .slice da dl dc] 58
                have XD : Ex [] wr (wr.alloc (.cells #[.int .i64 frm, .int .i64 to, .slice da dl dc] 58)) := (Ex.refl _ _).alloc _
                generalize wr.alloc (.cells #[.int .i64 frm, .int .i64 to, .slice da dl dc] 58) = wd at *
                have DD := D.turn (av'' := wr.heap.size :: b6 :: (Value.slice la ls.length lc).ownBlock.toList) XD (by simp) (fun k hk => by
                  rcases List.mem_cons.1 hk with rfl | hk
                  · exact .inr (Nat.le_refl _)
                  · exact .inl hk)
                have hlD := BD.lt
                have hl6 := B6.lt
                have hlO := O.lt
                have OD := ownsRow_ex O XD (by simp)
                have BD6 := B6.ex XD (by simp)
                have XXD := X.trans XD
                have hbyD := hby2.ex XD (by simp)
                have d0 := BD.cell 0
                have d1 := BD.cell 1
                have d2 := BD.cell 2
                clear c6 r0 r1 r2
                have HS : ∀ w', Ex [] wd w' → w'.cell? ⟨wr.heap.size, 0, none⟩ = some (.int .i64 frm) ∧ w'.cell? ⟨wr.heap.size, 1, none⟩ = some (.int .i64 to) ∧ w'.cell? ⟨wr.heap.size, 2, none⟩ = some (.slice da dl dc) := fun w' hx => by
                  refine ⟨?_, ?_, ?_⟩
                  · rw [hx.cell (p := ⟨wr.heap.size, 0, none⟩) BD.lt (by simp)]; exact d0
                  · rw [hx.cell (p := ⟨wr.heap.size, 1, none⟩) BD.lt (by simp)]; exact d1
                  · rw [hx.cell (p := ⟨wr.heap.size, 2, none⟩) BD.lt (by simp)]; exact d2
                refine wp_region_tree (x := ?xtree3) (fun w' => w'.cell? ⟨wr.heap.size, 0, none⟩ = some (.int .i64 frm) ∧ w'.cell? ⟨wr.heap.size, 1, none⟩ = some (.int .i64 to) ∧ w'.cell? ⟨wr.heap.size, 2, none⟩ = some (.slice da dl dc)) [] (.take 0 (.take 1 (.take 2 (.take 3 (.take 5 (.take 6 (.two 4 (.two 7 (.take 8 (.one 9 (.one 10 .nil))) 9 (.one 7 (.take 8 (.one 10 .nil)))) 9 (.one 4 (.one 7 (.take 8 (.one 10 .nil))))))))))) (by kernel_rfl) (by kernel_rfl) (by kernel_rfl) (by kernel_rfl) rfl (by intro c a d v w h; cases d <;> exact h) (HS _ (Ex.refl _ _).drew) ?hxtree3 ?_
                case hxtree3 =>
                  simp only [mkTr, List.getElem?_toArray, List.getElem?_cons_zero, List.getElem?_cons_succ]
                  exact rfl
                clear d0 d1 d2
                iterate 6
                  refine tre_take (v := ?_) rfl ?_ ?_
                  rotate_left
                  · intro w' hS
                    obtain ⟨s0, s1, s2⟩ := hS
                    go_simp
                    with_reducible rfl
                  go_frame
                have Xq : Ex [] wd wd.drew := (Ex.refl _ _).drew
                have HSe : ∀ w', Ex [] wd.drew w' → w'.cell? ⟨wr.heap.size, 0, none⟩ = some (.int .i64 frm) ∧ w'.cell? ⟨wr.heap.size, 1, none⟩ = some (.int .i64 to) ∧ w'.cell? ⟨wr.heap.size, 2, none⟩ = some (.slice da dl dc) := fun w' hx => HS w' (Xq.trans hx)
                have DD2 := DD.ex Xq (by simp)
                have OD2 := OD.drew
                have BE6 := BD6.drew
                have BE := BD.drew
                have XXE := XXD.drew
                have hbyE := hbyD.ex Xq (by simp)
                clear HS DD OD BD6 BD XXD hbyD XD Xq
                have HBE : 0 = 0 := rfl
                generalize wd.drew = we at *
                clear HBE
                have OA0 : (we.alloc (.cells #[] 5)).ownsRow we.heap.size 5 1 (.slice (some ⟨we.heap.size, 0, none⟩) 0 0) 0 (([] : List UInt8).map bv) := World.ownsRow_lit we #[] 0 (Nat.le_refl _) (by simp [maxLen]) rfl
                have XA : Ex [] we (we.alloc (.cells #[] 5)) := (Ex.refl _ _).alloc _
                refine tre_two ?_ ?_
                · skip
                  refine tre_val (v := ?_) (w' := ?_) rfl ?_ ?_ ?_
                  rotate_left
                  rotate_left
                  · go_simp
                    first | with_reducible rfl | (refine ⟨?_, ?_⟩ <;> with_reducible rfl)
                  · intro _; exact HSe _ XA
                  go_frame
                  refine tre_two ?_ ?_
                  · obtain ⟨dv, w2, hap, O2, X2, _, L2⟩ := mine_append XA (Nat.le_refl _) OA0 hbyE Hnil.out (by omega)
                    obtain ⟨xa, xc, rfl⟩ := own_shape O2
                    have Hap := Lib.hid hap
                    clear hap
                    refine tre_val rfl (ex_append2 (v1 := .slice (some ⟨we.heap.size, 0, none⟩) 0 0) (v2 := .slice da dl dc) rfl (by go_simp) (by go_simp) Hap.out) (fun _ => HSe _ X2) ?_
                    go_frame
                    iterate 1
                      refine tre_take (v := ?_) rfl ?_ ?_
                      rotate_left
                      · intro w' hS
                        go_simp
                        with_reducible rfl
                      go_frame
                    have B3 := Blk.new w2 #[.int .i64 0, .int .i64 0, .slice none 0 0] 58
                    have X3 : Ex [] w2 (w2.alloc (.cells #[.int .i64 0, .int .i64 0, .slice none 0 0] 58)) := (Ex.refl _ _).alloc _
                    have O3 := ownsRow_ex O2 X3 (by simp)
                    have l2 := O2.lt
                    refine tre_val (v := ?_) (w' := ?_) rfl ?_ ?_ ?_
                    rotate_left
                    rotate_left
                    · go_simp
                      first | with_reducible rfl | (refine ⟨?_, ?_⟩ <;> with_reducible rfl)
                    · intro _; exact HSe _ (X2.trans X3)
                    go_frame
                    have M := mine_store (frm := frm) (to := to) X2.size B3 O3 (fun h => by have := (l2 _ h).2; omega) (X2.trans X3)
                    generalize w2.heap.size = bm at *
                    generalize w2.alloc (.cells #[.int .i64 0, .int .i64 0, .slice none 0 0] 58) = w3 at *
                    have cbm := B3.cell
                    have cfm := B3.froz
                    refine tre_skip (w' := ?_) rfl ?_ ?_ ?_
                    rotate_left
                    · go_simp
                      first | with_reducible rfl | (refine ⟨?_, ?_⟩ <;> with_reducible rfl)
                    · intro h; exact HSe _ M.ex
                    go_frame
                    clear O2 X2 L2 Hap B3 X3 O3 l2 cbm cfm
                    refine tre_nil ?_
                    clear HSe hbyE OA0 XA
                    generalize hbd : wr.heap.size = bd at *
                    obtain ⟨hbm, BM, OM, nem, XM⟩ := M
                    have D5 := DD2.turn (av'' := bm :: (Value.slice xa dd.length xc).ownBlock.toList ++ (bd :: b6 :: (Value.slice la ls.length lc).ownBlock.toList)) XM (by simp) (fun k hk => by
                      rcases List.mem_append.1 hk with hk | hk
                      · rcases List.mem_cons.1 hk with rfl | hk
                        · exact .inr hbm
                        · exact .inr (OM.lt k (by simpa using hk)).1
                      · exact .inl hk)
                    have O5 := ownsRow_ex OD2 XM (by simp)
                    have B65 := BE6.ex XM (by simp)
                    have BD5 := BE.ex XM (by simp)
                    have X5 := XXE.trans XM
                    have hw1 := XM.size
                    have hw2 := XXE.size
                    have hwE := BE.lt
                    have hwE6 := BE6.lt
                    have hlO5 := OD2.lt
                    clear DD2 OD2 BE6 BE XXE XM
                    generalize ((w3.setCell ⟨bm, 0, none⟩ (.int .i64 frm)).setCell ⟨bm, 1, none⟩ (.int .i64 to)).setCell ⟨bm, 2, none⟩ (.slice xa dd.length xc) = w5 at *
                    have c5 := BM.cell
                    go_wp2_with fail
                    have X6 : Ex [] w5 (w5.alloc (.cells #[.int .i64 frm, .int .i64 to, .slice xa dd.length xc] 58)) := (Ex.refl _ _).alloc _
                    have BS := Blk.new w5 #[.int .i64 frm, .int .i64 to, .slice xa dd.length xc] 58
                    generalize hw6 : w5.alloc (.cells #[.int .i64 frm, .int .i64 to, .slice xa dd.length xc] 58) = w6' at *
                    clear c5 hw6
                    have D6 := D5.turn (av'' := w5.heap.size :: (bm :: (Value.slice xa dd.length xc).ownBlock.toList ++ (bd :: b6 :: (Value.slice la ls.length lc).ownBlock.toList))) X6 (by simp) (fun k hk => by
                      rcases List.mem_cons.1 hk with rfl | hk
                      · exact .inr (Nat.le_refl _)
                      · exact .inl hk)
                    have O6 := ownsRow_ex O5 X6 (by simp)
                    have B66 := B65.ex X6 (by simp)
                    have BD6 := BD5.ex X6 (by simp)
                    have OM6 := ownsRow_ex OM X6 (by simp)
                    have BM6 := BM.ex X6 (by simp)
                    have XX6 := X5.trans X6
                    have hR : RowAt w6' w5.heap.size 0 [⟨frm, to, xa, dd.length, xc, dd⟩] := fun q d hq => by
                      match q, hq with
                      | 0, hq =>
                        simp only [List.getElem?_cons_zero, Option.some.injEq] at hq
                        subst hq
                        exact ⟨BS.cell _, BS.cell _, BS.cell _⟩
                    have hdl9 : ds.length = ls.length := by have := congrArg List.length hkey; simpa using this
                    have hs6' := XX6.size
                    have hb6 := D6.vav
                    have hb7 := D6.bav
                    simp only [List.mem_cons, List.mem_append, Option.mem_toList, not_or] at hb6 hb7
                    have hddl : dd.length = dl := hby.1
                    with_reducible refine (NetSend_n (so := 0) (sc := 1) (n := 1) (es := [⟨frm, to, xa, dd.length, xc, dd⟩]) rfl D6 hs6' ?hav BS.lt hR ?hok ?hle).mono ?_
                    case hle => omega
                    case hok =>
                      intro d hd
                      obtain rfl := List.mem_singleton.1 hd
                      refine own_dv OM6 rfl (by omega) (fun c hc h => ?_) frm to
                      rcases h with rfl | h
                      · exact hb7.2.1.2 hc
                      · exact (hb6 c h).1.2.1.2 hc
                    case hav =>
                      intro x hx
                      have hsx := X6.size
                      simp only [List.mem_cons, List.mem_append, Option.mem_toList] at hx
                      rcases hx with (rfl | hx) | rfl | rfl | hx
                      · exact BM6.lt
                      · exact (OM6.lt x hx).2
                      · exact BD6.lt
                      · exact B66.lt
                      · exact (O6.lt x hx).2
                    rintro e w7 ⟨v7, es7, rfl, hes, D7, X67⟩
                    have hsub : ∀ k, k ≠ b → v.ownBlock ≠ some k → k ∉ b :: v.ownBlock.toList := fun k h1 h2 h => by
                      simp only [List.mem_cons, Option.mem_toList] at h
                      rcases h with h | h
                      · exact h1 h
                      · exact h2 h
                    have nbm : bm ∉ b :: v.ownBlock.toList := hsub _ (fun h => hb7.2.1.1 h.symm) (fun h => (hb6 _ h).1.2.1.1 rfl)
                    have nbd : bd ∉ b :: v.ownBlock.toList := hsub _ (fun h => hb7.2.2.1 h.symm) (fun h => (hb6 _ h).1.2.2.1 rfl)
                    have nb6 : b6 ∉ b :: v.ownBlock.toList := hsub _ (fun h => hb7.2.2.2.1 h.symm) (fun h => (hb6 _ h).1.2.2.2.1 rfl)
                    have nOM : ∀ k, (Value.slice xa dd.length xc).ownBlock = some k → k ∉ b :: v.ownBlock.toList := fun k hk => hsub _ (fun h => hb7.2.1.2 (by rw [← h]; exact hk)) (fun h => (hb6 _ h).1.2.1.2 hk)
                    have nO : ∀ k, (Value.slice la ls.length lc).ownBlock = some k → k ∉ b :: v.ownBlock.toList := fun k hk => hsub _ (fun h => hb7.2.2.2.2 (by rw [← h]; exact hk)) (fun h => (hb6 _ h).1.2.2.2.2 hk)
                    have O7 := ownsRow_ex O6 X67 nO
                    have OM7 := ownsRow_ex OM6 X67 nOM
                    have B67 := B66.ex X67 nb6
                    have BD7 := BD6.ex X67 nbd
                    have BM7 := BM6.ex X67 nbm
                    have X7 : Ex [] W w7 := XX6.own X67 (fun x hx => by
                      simp only [List.mem_cons, Option.mem_toList] at hx
                      rcases hx with hx | hx
                      · exact .inr (by have := D6.bas; omega)
                      · exact .inr (D6.own.lt x hx).1)
                    have hl76 := X67.size
                    have nlm : ∀ k, (Value.slice la ls.length lc).ownBlock = some k → k < we.heap.size := fun k hk => (hlO5 k hk).2
                    have nlw : ∀ k, (Value.slice xa dd.length xc).ownBlock = some k → we.heap.size ≤ k := fun k hk => (OM.lt k hk).1
                    have n1 : bm ∉ (Value.slice xa dd.length xc).ownBlock.toList := by simpa using nem
                    have n2 : bd ∉ (Value.slice xa dd.length xc).ownBlock.toList := fun h => by have := nlw bd (by simpa using h); omega
                    have n3 : b6 ∉ (Value.slice xa dd.length xc).ownBlock.toList := fun h => by have := nlw b6 (by simpa using h); omega
                    have n4 : ∀ k, (Value.slice la ls.length lc).ownBlock = some k → k ∉ (Value.slice xa dd.length xc).ownBlock.toList := fun k hk h => by have := nlm k hk; have := nlw k (by simpa using h); omega
                    clear hb6 hb7 hsub nbm nbd nb6 nOM nO D5 D6 O6 O5 OM6 B66 BD6 BM6 B65 BD5 X5 XX6 X6 BS hR OM BM nlw hlO5 X67 hwE hwE6 hbm hl76
                    have hdb : (dd.length : Int) ≤ 300 := by omega
                    have Hdd := Lib.hid hddl
                    clear hddl
                    obtain ⟨gk1, rfl⟩ : ∃ g, g = gk := ⟨_, rfl⟩
                    go_wp2_with fail
                    go_loopg [12] dd.length (fun k vi wr => MineB w7 we.heap.size (.slice xa dd.length xc) dd.length k vi wr)
                    case atStart => exact ⟨0, dd, rfl, by omega, OM7, Ex.refl _ _⟩
                    case round =>
                      obtain ⟨q, zs, rfl, hqk, OZ, XZ⟩ := hrel
                      have BMZ := BM7.ex XZ n1
                      have cZ := BMZ.cell
                      by_cases hql : (q : Int) < dd.length
                      · obtain ⟨xg, rfl⟩ : ∃ g, xa = some ⟨g, 0, none⟩ := by
                          rcases OZ.2 with ⟨h1, h2⟩ | ⟨g, cap, cur, h1, _⟩
                          · have := congrArg (fun v => match v with | Value.slice _ n _ => n | _ => 0) h1
                            simp at this
                            rw [this] at hql
                            simp at hql
                            omega
                          · cases h1; exact ⟨g, rfl⟩
                        have hzl : zs.length = dd.length := by have := OZ.1; simpa using this
                        obtain ⟨z, hz⟩ : ∃ z, zs[q]? = some z := ⟨zs[q], by simp⟩
                        have cz : wr.cell? ⟨xg, q, none⟩ = some (.int .u8 (z.toNat : Int)) := by rw [OZ.cellAt q (by omega)]; simp [hz]
                        have fz := OZ.frozenAt q
                        clear hz hzl
                        go_wp2_with fail
                        go_roundg (gk - 1)
                        case measure => omega
                        case rel =>
                          refine ⟨q + 1, zs.set q 238, by go_num, by omega, ?_, XZ.setCell (.inl (by simp [Value.ownBlock])) _⟩
                          rw [List.map_set]
                          exact (OZ.stored q _).1
                      · have O8 := ownsRow_ex O7 XZ n4
                        have B68 := B67.ex XZ n3
                        have BD8 := BD7.ex XZ n2
                        have hwv : ∀ k, (Value.slice xa dd.length xc).ownBlock = some k → W.heap.size ≤ k := fun k hk => by have := (OZ.lt k hk).1; omega
                        have X8 := X7.own XZ (fun k hk => .inr (hwv k (by simpa using hk)))
                        have D8 := D7.turn (av'' := b6 :: (Value.slice la ls.length lc).ownBlock.toList) XZ (fun k hk => .inl (by simp only [List.mem_cons, List.mem_append]; exact .inr (.inl (.inr hk)))) (fun k hk => by
                          simp only [List.mem_cons] at hk
                          refine .inl ?_
                          simp only [List.mem_cons, List.mem_append]
                          rcases hk with rfl | hk
                          · exact .inr (.inr (.inr (.inl rfl)))
                          · exact .inr (.inr (.inr (.inr hk))))
                        have hs8 := X8.size
                        have cD := BD8.cell
                        have BN := Blk.new wr #[.int .i64 frm, .int .i64 to, .slice da dl dc] 58
                        have XN : Ex [] wr (wr.alloc (.cells #[.int .i64 frm, .int .i64 to, .slice da dl dc] 58)) := (Ex.refl _ _).alloc _
                        have ON := ownsRow_ex O8 XN (by simp)
                        have hsn := XN.size
                        obtain ⟨lv9, w9, hap, O9, X9n, L9⟩ := own_join (c := 1) ON (by omega) (ad := ⟨wr.heap.size, 0, none⟩) (m := 1) (ys := [⟨frm, to, da, dl, dc, dd⟩]) rfl (fun q u hu => by
                          rw [Addr.add_mid, Nat.zero_add, BN.cell]; simpa [dcellsOf] using hu) (by omega)
                        have Hap := Lib.hid hap
                        clear hap
                        go_wp2_with (refine G_val rfl (ex_append2 rfl rfl rfl Hap.out) ?_)
                        go_roundg (gk1 - 1)
                        case measure => omega
                        case rel =>
                          obtain ⟨m, rfl, km⟩ := keys1 hes
                          have hl9 := O9.lt
                          have hlO := ON.lt
                          refine ⟨j + 1, v7, ds ++ [m], ls ++ [⟨frm, to, da, dl, dc, dd⟩], by go_num, by omega, ?_, ?_, ?_, ?_, ?_, ?_, (B68.ex XN (by simp)).ex X9n (fun h => by have := hlO _ (by simpa using h); exact hne (by simpa using h)), (X8.trans XN).own X9n (fun k hk => .inr (hlO k (by simpa using hk)).1)⟩
                          · refine (D8.ex XN (by simp)).turn X9n (fun k hk => .inl (List.mem_cons_of_mem _ hk)) (fun k hk => ?_)
                            rcases List.mem_cons.1 hk with rfl | hk
                            · exact .inl (by simp)
                            · simp only [Option.mem_toList] at hk
                              rcases L9 with h | h
                              · rw [h] at hk; exact .inl (List.mem_cons_of_mem _ (by simpa using hk))
                              · rw [h] at hk; cases hk; exact .inr (Nat.le_refl _)
                          · intro h
                            rcases L9 with h' | h'
                            · rw [h'] at h; exact hne h
                            · rw [h'] at h; cases h; have := B68.lt; omega
                          · rw [List.length_append, List.length_singleton]; exact O9
                          · rw [List.map_append, List.map_append, hkey]
                            simp [km, Dv.key]
                          · intro d hd
                            rcases List.mem_append.1 hd with h | h
                            · exact hls d h
                            · rw [List.mem_singleton.1 h]; exact ⟨hby, Hnil.out, show dl ≤ 140737488351232 by omega, fun _ _ _ _ h => h⟩
                          · rw [List.length_append, List.length_singleton]; omega
                  · have X2 : Ex [] we ((we.alloc (.cells #[] 5)).alloc (.cells #[.int .i64 0, .int .i64 0, .slice none 0 0] 58)) := XA.alloc _
                    have BZ := Blk.new (we.alloc (.cells #[] 5)) #[.int .i64 0, .int .i64 0, .slice none 0 0] 58
                    rw [World.size_alloc] at BZ
                    have OB := ownsRow_ex OA0 ((Ex.refl [] (we.alloc (.cells #[] 5))).alloc (.cells #[.int .i64 0, .int .i64 0, .slice none 0 0] 58)) (by simp)
                    refine tre_val (v := ?_) (w' := ?_) rfl ?_ ?_ ?_
                    rotate_left
                    rotate_left
                    · go_simp
                      first | with_reducible rfl | (refine ⟨?_, ?_⟩ <;> with_reducible rfl)
                    · intro _; exact HSe _ X2
                    go_frame
                    obtain ⟨dv, w3, hap, O2, X3, X3', L2⟩ := mine_append X2 (Nat.le_refl _) OB hbyE Hnil.out (by omega)
                    obtain ⟨xa, xc, rfl⟩ := own_shape O2
                    have Hap := Lib.hid hap
                    clear hap
                    refine tre_val rfl (ex_append2 (v1 := .slice (some ⟨we.heap.size, 0, none⟩) 0 0) (v2 := .slice da dl dc) rfl (by go_simp) (by go_simp) Hap.out) (fun _ => HSe _ X3) ?_
                    go_frame
                    iterate 1
                      refine tre_take (v := ?_) rfl ?_ ?_
                      rotate_left
                      · intro w' hS
                        go_simp
                        with_reducible rfl
                      go_frame
                    have B3 := BZ.ex X3' (by simp)
                    have M := mine_store (bm := we.heap.size + 1) (frm := frm) (to := to) (Nat.le_add_right _ 1) B3 O2 (fun h => by
                      rcases L2 with h' | h' <;> rw [h'] at h <;> simp at h) X3
                    have hbm0 : we.heap.size < we.heap.size + 1 := Nat.lt_succ_self _
                    generalize we.heap.size + 1 = bm at *
                    have cbm := B3.cell
                    have cfm := B3.froz
                    refine tre_skip (w' := ?_) rfl ?_ ?_ ?_
                    rotate_left
                    · go_simp
                      first | with_reducible rfl | (refine ⟨?_, ?_⟩ <;> with_reducible rfl)
                    · intro h; exact HSe _ M.ex
                    go_frame
                    clear O2 X2 X3 X3' L2 Hap B3 BZ OB cbm cfm
                    refine tre_nil ?_
                    clear HSe hbyE OA0 XA
                    generalize hbd : wr.heap.size = bd at *
                    obtain ⟨hbm, BM, OM, nem, XM⟩ := M
                    have D5 := DD2.turn (av'' := bm :: (Value.slice xa dd.length xc).ownBlock.toList ++ (bd :: b6 :: (Value.slice la ls.length lc).ownBlock.toList)) XM (by simp) (fun k hk => by
                      rcases List.mem_append.1 hk with hk | hk
                      · rcases List.mem_cons.1 hk with rfl | hk
                        · exact .inr hbm
                        · exact .inr (OM.lt k (by simpa using hk)).1
                      · exact .inl hk)
                    have O5 := ownsRow_ex OD2 XM (by simp)
                    have B65 := BE6.ex XM (by simp)
                    have BD5 := BE.ex XM (by simp)
                    have X5 := XXE.trans XM
                    have hw1 := XM.size
                    have hw2 := XXE.size
                    have hwE := BE.lt
                    have hwE6 := BE6.lt
                    have hlO5 := OD2.lt
                    clear DD2 OD2 BE6 BE XXE XM
                    generalize ((w3.setCell ⟨bm, 0, none⟩ (.int .i64 frm)).setCell ⟨bm, 1, none⟩ (.int .i64 to)).setCell ⟨bm, 2, none⟩ (.slice xa dd.length xc) = w5 at *
                    have c5 := BM.cell
                    go_wp2_with fail
                    have X6 : Ex [] w5 (w5.alloc (.cells #[.int .i64 frm, .int .i64 to, .slice xa dd.length xc] 58)) := (Ex.refl _ _).alloc _
                    have BS := Blk.new w5 #[.int .i64 frm, .int .i64 to, .slice xa dd.length xc] 58
                    generalize hw6 : w5.alloc (.cells #[.int .i64 frm, .int .i64 to, .slice xa dd.length xc] 58) = w6' at *
                    clear c5 hw6
                    have D6 := D5.turn (av'' := w5.heap.size :: (bm :: (Value.slice xa dd.length xc).ownBlock.toList ++ (bd :: b6 :: (Value.slice la ls.length lc).ownBlock.toList))) X6 (by simp) (fun k hk => by
                      rcases List.mem_cons.1 hk with rfl | hk
                      · exact .inr (Nat.le_refl _)
                      · exact .inl hk)
                    have O6 := ownsRow_ex O5 X6 (by simp)
                    have B66 := B65.ex X6 (by simp)
                    have BD6 := BD5.ex X6 (by simp)
                    have OM6 := ownsRow_ex OM X6 (by simp)
                    have BM6 := BM.ex X6 (by simp)
                    have XX6 := X5.trans X6
                    have hR : RowAt w6' w5.heap.size 0 [⟨frm, to, xa, dd.length, xc, dd⟩] := fun q d hq => by
                      match q, hq with
                      | 0, hq =>
                        simp only [List.getElem?_cons_zero, Option.some.injEq] at hq
                        subst hq
                        exact ⟨BS.cell _, BS.cell _, BS.cell _⟩
                    have hdl9 : ds.length = ls.length := by have := congrArg List.length hkey; simpa using this
                    have hs6' := XX6.size
                    have hb6 := D6.vav
                    have hb7 := D6.bav
                    simp only [List.mem_cons, List.mem_append, Option.mem_toList, not_or] at hb6 hb7
                    have hddl : dd.length = dl := hby.1
                    with_reducible refine (NetSend_n (so := 0) (sc := 1) (n := 1) (es := [⟨frm, to, xa, dd.length, xc, dd⟩]) rfl D6 hs6' ?hav BS.lt hR ?hok ?hle).mono ?_
                    case hle => omega
                    case hok =>
                      intro d hd
                      obtain rfl := List.mem_singleton.1 hd
                      refine own_dv OM6 rfl (by omega) (fun c hc h => ?_) frm to
                      rcases h with rfl | h
                      · exact hb7.2.1.2 hc
                      · exact (hb6 c h).1.2.1.2 hc
                    case hav =>
                      intro x hx
                      have hsx := X6.size
                      simp only [List.mem_cons, List.mem_append, Option.mem_toList] at hx
                      rcases hx with (rfl | hx) | rfl | rfl | hx
                      · exact BM6.lt
                      · exact (OM6.lt x hx).2
                      · exact BD6.lt
                      · exact B66.lt
                      · exact (O6.lt x hx).2
                    rintro e w7 ⟨v7, es7, rfl, hes, D7, X67⟩
                    have hsub : ∀ k, k ≠ b → v.ownBlock ≠ some k → k ∉ b :: v.ownBlock.toList := fun k h1 h2 h => by
                      simp only [List.mem_cons, Option.mem_toList] at h
                      rcases h with h | h
                      · exact h1 h
                      · exact h2 h
                    have nbm : bm ∉ b :: v.ownBlock.toList := hsub _ (fun h => hb7.2.1.1 h.symm) (fun h => (hb6 _ h).1.2.1.1 rfl)
                    have nbd : bd ∉ b :: v.ownBlock.toList := hsub _ (fun h => hb7.2.2.1 h.symm) (fun h => (hb6 _ h).1.2.2.1 rfl)
                    have nb6 : b6 ∉ b :: v.ownBlock.toList := hsub _ (fun h => hb7.2.2.2.1 h.symm) (fun h => (hb6 _ h).1.2.2.2.1 rfl)
                    have nOM : ∀ k, (Value.slice xa dd.length xc).ownBlock = some k → k ∉ b :: v.ownBlock.toList := fun k hk => hsub _ (fun h => hb7.2.1.2 (by rw [← h]; exact hk)) (fun h => (hb6 _ h).1.2.1.2 hk)
                    have nO : ∀ k, (Value.slice la ls.length lc).ownBlock = some k → k ∉ b :: v.ownBlock.toList := fun k hk => hsub _ (fun h => hb7.2.2.2.2 (by rw [← h]; exact hk)) (fun h => (hb6 _ h).1.2.2.2.2 hk)
                    have O7 := ownsRow_ex O6 X67 nO
                    have OM7 := ownsRow_ex OM6 X67 nOM
                    have B67 := B66.ex X67 nb6
                    have BD7 := BD6.ex X67 nbd
                    have BM7 := BM6.ex X67 nbm
                    have X7 : Ex [] W w7 := XX6.own X67 (fun x hx => by
                      simp only [List.mem_cons, Option.mem_toList] at hx
                      rcases hx with hx | hx
                      · exact .inr (by have := D6.bas; omega)
                      · exact .inr (D6.own.lt x hx).1)
                    have hl76 := X67.size
                    have nlm : ∀ k, (Value.slice la ls.length lc).ownBlock = some k → k < we.heap.size := fun k hk => (hlO5 k hk).2
                    have nlw : ∀ k, (Value.slice xa dd.length xc).ownBlock = some k → we.heap.size ≤ k := fun k hk => (OM.lt k hk).1
                    have n1 : bm ∉ (Value.slice xa dd.length xc).ownBlock.toList := by simpa using nem
                    have n2 : bd ∉ (Value.slice xa dd.length xc).ownBlock.toList := fun h => by have := nlw bd (by simpa using h); omega
                    have n3 : b6 ∉ (Value.slice xa dd.length xc).ownBlock.toList := fun h => by have := nlw b6 (by simpa using h); omega
                    have n4 : ∀ k, (Value.slice la ls.length lc).ownBlock = some k → k ∉ (Value.slice xa dd.length xc).ownBlock.toList := fun k hk h => by have := nlm k hk; have := nlw k (by simpa using h); omega
                    clear hb6 hb7 hsub nbm nbd nb6 nOM nO D5 D6 O6 O5 OM6 B66 BD6 BM6 B65 BD5 X5 XX6 X6 BS hR OM BM nlw hlO5 X67 hwE hwE6 hbm hl76
                    have hdb : (dd.length : Int) ≤ 300 := by omega
                    have Hdd := Lib.hid hddl
                    clear hddl
                    obtain ⟨gk1, rfl⟩ : ∃ g, g = gk := ⟨_, rfl⟩
                    go_wp2_with fail
                    go_loopg [12] dd.length (fun k vi wr => MineB w7 we.heap.size (.slice xa dd.length xc) dd.length k vi wr)
                    case atStart => exact ⟨0, dd, rfl, by omega, OM7, Ex.refl _ _⟩
                    case round =>
                      obtain ⟨q, zs, rfl, hqk, OZ, XZ⟩ := hrel
                      have BMZ := BM7.ex XZ n1
                      have cZ := BMZ.cell
                      by_cases hql : (q : Int) < dd.length
                      · obtain ⟨xg, rfl⟩ : ∃ g, xa = some ⟨g, 0, none⟩ := by
                          rcases OZ.2 with ⟨h1, h2⟩ | ⟨g, cap, cur, h1, _⟩
                          · have := congrArg (fun v => match v with | Value.slice _ n _ => n | _ => 0) h1
                            simp at this
                            rw [this] at hql
                            simp at hql
                            omega
                          · cases h1; exact ⟨g, rfl⟩
                        have hzl : zs.length = dd.length := by have := OZ.1; simpa using this
                        obtain ⟨z, hz⟩ : ∃ z, zs[q]? = some z := ⟨zs[q], by simp⟩
                        have cz : wr.cell? ⟨xg, q, none⟩ = some (.int .u8 (z.toNat : Int)) := by rw [OZ.cellAt q (by omega)]; simp [hz]
                        have fz := OZ.frozenAt q
                        clear hz hzl
                        go_wp2_with fail
                        go_roundg (gk - 1)
                        case measure => omega
                        case rel =>
                          refine ⟨q + 1, zs.set q 238, by go_num, by omega, ?_, XZ.setCell (.inl (by simp [Value.ownBlock])) _⟩
                          rw [List.map_set]
                          exact (OZ.stored q _).1
                      · have O8 := ownsRow_ex O7 XZ n4
                        have B68 := B67.ex XZ n3
                        have BD8 := BD7.ex XZ n2
                        have hwv : ∀ k, (Value.slice xa dd.length xc).ownBlock = some k → W.heap.size ≤ k := fun k hk => by have := (OZ.lt k hk).1; omega
                        have X8 := X7.own XZ (fun k hk => .inr (hwv k (by simpa using hk)))
                        have D8 := D7.turn (av'' := b6 :: (Value.slice la ls.length lc).ownBlock.toList) XZ (fun k hk => .inl (by simp only [List.mem_cons, List.mem_append]; exact .inr (.inl (.inr hk)))) (fun k hk => by
                          simp only [List.mem_cons] at hk
                          refine .inl ?_
                          simp only [List.mem_cons, List.mem_append]
                          rcases hk with rfl | hk
                          · exact .inr (.inr (.inr (.inl rfl)))
                          · exact .inr (.inr (.inr (.inr hk))))
                        have hs8 := X8.size
                        have cD := BD8.cell
                        have BN := Blk.new wr #[.int .i64 frm, .int .i64 to, .slice da dl dc] 58
                        have XN : Ex [] wr (wr.alloc (.cells #[.int .i64 frm, .int .i64 to, .slice da dl dc] 58)) := (Ex.refl _ _).alloc _
                        have ON := ownsRow_ex O8 XN (by simp)
                        have hsn := XN.size
                        obtain ⟨lv9, w9, hap, O9, X9n, L9⟩ := own_join (c := 1) ON (by omega) (ad := ⟨wr.heap.size, 0, none⟩) (m := 1) (ys := [⟨frm, to, da, dl, dc, dd⟩]) rfl (fun q u hu => by
                          rw [Addr.add_mid, Nat.zero_add, BN.cell]; simpa [dcellsOf] using hu) (by omega)
                        have Hap := Lib.hid hap
                        clear hap
                        go_wp2_with (refine G_val rfl (ex_append2 rfl rfl rfl Hap.out) ?_)
                        go_roundg (gk1 - 1)
                        case measure => omega
                        case rel =>
                          obtain ⟨m, rfl, km⟩ := keys1 hes
                          have hl9 := O9.lt
                          have hlO := ON.lt
                          refine ⟨j + 1, v7, ds ++ [m], ls ++ [⟨frm, to, da, dl, dc, dd⟩], by go_num, by omega, ?_, ?_, ?_, ?_, ?_, ?_, (B68.ex XN (by simp)).ex X9n (fun h => by have := hlO _ (by simpa using h); exact hne (by simpa using h)), (X8.trans XN).own X9n (fun k hk => .inr (hlO k (by simpa using hk)).1)⟩
                          · refine (D8.ex XN (by simp)).turn X9n (fun k hk => .inl (List.mem_cons_of_mem _ hk)) (fun k hk => ?_)
                            rcases List.mem_cons.1 hk with rfl | hk
                            · exact .inl (by simp)
                            · simp only [Option.mem_toList] at hk
                              rcases L9 with h | h
                              · rw [h] at hk; exact .inl (List.mem_cons_of_mem _ (by simpa using hk))
                              · rw [h] at hk; cases hk; exact .inr (Nat.le_refl _)
                          · intro h
                            rcases L9 with h' | h'
                            · rw [h'] at h; exact hne h
                            · rw [h'] at h; cases h; have := B68.lt; omega
                          · rw [List.length_append, List.length_singleton]; exact O9
                          · rw [List.map_append, List.map_append, hkey]
                            simp [km, Dv.key]
                          · intro d hd
                            rcases List.mem_append.1 hd with h | h
                            · exact hls d h
                            · rw [List.mem_singleton.1 h]; exact ⟨hby, Hnil.out, show dl ≤ 140737488351232 by omega, fun _ _ _ _ h => h⟩
                          · rw [List.length_append, List.length_singleton]; omega
                · skip
                  refine tre_val (v := ?_) (w' := ?_) rfl ?_ ?_ ?_
                  rotate_left
                  rotate_left
                  · go_simp
                    first | with_reducible rfl | (refine ⟨?_, ?_⟩ <;> with_reducible rfl)
                  · intro _; exact HSe _ ((Ex.refl _ _).alloc _)
                  go_frame
                  have X2 : Ex [] we ((we.alloc (.cells #[.int .i64 0, .int .i64 0, .slice none 0 0] 58)).alloc (.cells #[] 5)) := ((Ex.refl _ _).alloc _).alloc _
                  have BZ := (Blk.new we #[.int .i64 0, .int .i64 0, .slice none 0 0] 58).alloc (.cells #[] 5)
                  have OB : ((we.alloc (.cells #[.int .i64 0, .int .i64 0, .slice none 0 0] 58)).alloc (.cells #[] 5)).ownsRow we.heap.size 5 1 (.slice (some ⟨(we.alloc (.cells #[.int .i64 0, .int .i64 0, .slice none 0 0] 58)).heap.size, 0, none⟩) 0 0) 0 (([] : List UInt8).map bv) := World.ownsRow_lit _ #[] 0 (by simp) (by simp [maxLen]) rfl
                  rw [World.size_alloc] at OB
                  refine tre_val (v := ?_) (w' := ?_) rfl ?_ ?_ ?_
                  rotate_left
                  rotate_left
                  · go_simp
                    first | with_reducible rfl | (refine ⟨?_, ?_⟩ <;> with_reducible rfl)
                  · intro _; exact HSe _ X2
                  go_frame
                  obtain ⟨dv, w3, hap, O2, X3, X3', L2⟩ := mine_append X2 (Nat.le_succ _) OB hbyE Hnil.out (by omega)
                  obtain ⟨xa, xc, rfl⟩ := own_shape O2
                  have Hap := Lib.hid hap
                  clear hap
                  refine tre_val rfl (ex_append2 (v1 := .slice (some ⟨we.heap.size + 1, 0, none⟩) 0 0) (v2 := .slice da dl dc) rfl (by go_simp) (by go_simp) Hap.out) (fun _ => HSe _ X3) ?_
                  go_frame
                  iterate 1
                    refine tre_take (v := ?_) rfl ?_ ?_
                    rotate_left
                    · intro w' hS
                      go_simp
                      with_reducible rfl
                    go_frame
                  have B3 := BZ.ex X3' (by simp)
                  have M := mine_store (frm := frm) (to := to) (Nat.le_refl _) B3 O2 (fun h => by
                    rcases L2 with h' | h' <;> rw [h'] at h <;> first | (simp at h; done) | (simp at h; omega)) X3
                  generalize hbm1 : we.heap.size = bm at M B3 ⊢
                  have cbm := B3.cell
                  have cfm := B3.froz
                  refine tre_skip (w' := ?_) rfl ?_ ?_ ?_
                  rotate_left
                  · go_simp
                    first | with_reducible rfl | (refine ⟨?_, ?_⟩ <;> with_reducible rfl)
                  · intro h; exact HSe _ M.ex
                  go_frame
                  clear O2 X2 X3 X3' L2 Hap B3 BZ OB cbm cfm
                  refine tre_nil ?_
                  clear HSe hbyE OA0 XA
                  generalize hbd : wr.heap.size = bd at *
                  obtain ⟨hbm, BM, OM, nem, XM⟩ := M
                  have D5 := DD2.turn (av'' := bm :: (Value.slice xa dd.length xc).ownBlock.toList ++ (bd :: b6 :: (Value.slice la ls.length lc).ownBlock.toList)) XM (by simp) (fun k hk => by
                    rcases List.mem_append.1 hk with hk | hk
                    · rcases List.mem_cons.1 hk with rfl | hk
                      · exact .inr hbm
                      · exact .inr (OM.lt k (by simpa using hk)).1
                    · exact .inl hk)
                  have O5 := ownsRow_ex OD2 XM (by simp)
                  have B65 := BE6.ex XM (by simp)
                  have BD5 := BE.ex XM (by simp)
                  have X5 := XXE.trans XM
                  have hw1 := XM.size
                  have hw2 := XXE.size
                  have hwE := BE.lt
                  have hwE6 := BE6.lt
                  have hlO5 := OD2.lt
                  clear DD2 OD2 BE6 BE XXE XM
                  generalize ((w3.setCell ⟨bm, 0, none⟩ (.int .i64 frm)).setCell ⟨bm, 1, none⟩ (.int .i64 to)).setCell ⟨bm, 2, none⟩ (.slice xa dd.length xc) = w5 at *
                  have c5 := BM.cell
                  go_wp2_with fail
                  have X6 : Ex [] w5 (w5.alloc (.cells #[.int .i64 frm, .int .i64 to, .slice xa dd.length xc] 58)) := (Ex.refl _ _).alloc _
                  have BS := Blk.new w5 #[.int .i64 frm, .int .i64 to, .slice xa dd.length xc] 58
                  generalize hw6 : w5.alloc (.cells #[.int .i64 frm, .int .i64 to, .slice xa dd.length xc] 58) = w6' at *
                  clear c5 hw6
                  have D6 := D5.turn (av'' := w5.heap.size :: (bm :: (Value.slice xa dd.length xc).ownBlock.toList ++ (bd :: b6 :: (Value.slice la ls.length lc).ownBlock.toList))) X6 (by simp) (fun k hk => by
                    rcases List.mem_cons.1 hk with rfl | hk
                    · exact .inr (Nat.le_refl _)
                    · exact .inl hk)
                  have O6 := ownsRow_ex O5 X6 (by simp)
                  have B66 := B65.ex X6 (by simp)
                  have BD6 := BD5.ex X6 (by simp)
                  have OM6 := ownsRow_ex OM X6 (by simp)
                  have BM6 := BM.ex X6 (by simp)
                  have XX6 := X5.trans X6
                  have hR : RowAt w6' w5.heap.size 0 [⟨frm, to, xa, dd.length, xc, dd⟩] := fun q d hq => by
                    match q, hq with
                    | 0, hq =>
                      simp only [List.getElem?_cons_zero, Option.some.injEq] at hq
                      subst hq
                      exact ⟨BS.cell _, BS.cell _, BS.cell _⟩
                  have hdl9 : ds.length = ls.length := by have := congrArg List.length hkey; simpa using this
                  have hs6' := XX6.size
                  have hb6 := D6.vav
                  have hb7 := D6.bav
                  simp only [List.mem_cons, List.mem_append, Option.mem_toList, not_or] at hb6 hb7
                  have hddl : dd.length = dl := hby.1
                  with_reducible refine (NetSend_n (so := 0) (sc := 1) (n := 1) (es := [⟨frm, to, xa, dd.length, xc, dd⟩]) rfl D6 hs6' ?hav BS.lt hR ?hok ?hle).mono ?_
                  case hle => omega
                  case hok =>
                    intro d hd
                    obtain rfl := List.mem_singleton.1 hd
                    refine own_dv OM6 rfl (by omega) (fun c hc h => ?_) frm to
                    rcases h with rfl | h
                    · exact hb7.2.1.2 hc
                    · exact (hb6 c h).1.2.1.2 hc
                  case hav =>
                    intro x hx
                    have hsx := X6.size
                    simp only [List.mem_cons, List.mem_append, Option.mem_toList] at hx
                    rcases hx with (rfl | hx) | rfl | rfl | hx
                    · exact BM6.lt
                    · exact (OM6.lt x hx).2
                    · exact BD6.lt
                    · exact B66.lt
                    · exact (O6.lt x hx).2
                  rintro e w7 ⟨v7, es7, rfl, hes, D7, X67⟩
                  have hsub : ∀ k, k ≠ b → v.ownBlock ≠ some k → k ∉ b :: v.ownBlock.toList := fun k h1 h2 h => by
                    simp only [List.mem_cons, Option.mem_toList] at h
                    rcases h with h | h
                    · exact h1 h
                    · exact h2 h
                  have nbm : bm ∉ b :: v.ownBlock.toList := hsub _ (fun h => hb7.2.1.1 h.symm) (fun h => (hb6 _ h).1.2.1.1 rfl)
                  have nbd : bd ∉ b :: v.ownBlock.toList := hsub _ (fun h => hb7.2.2.1 h.symm) (fun h => (hb6 _ h).1.2.2.1 rfl)
                  have nb6 : b6 ∉ b :: v.ownBlock.toList := hsub _ (fun h => hb7.2.2.2.1 h.symm) (fun h => (hb6 _ h).1.2.2.2.1 rfl)
                  have nOM : ∀ k, (Value.slice xa dd.length xc).ownBlock = some k → k ∉ b :: v.ownBlock.toList := fun k hk => hsub _ (fun h => hb7.2.1.2 (by rw [← h]; exact hk)) (fun h => (hb6 _ h).1.2.1.2 hk)
                  have nO : ∀ k, (Value.slice la ls.length lc).ownBlock = some k → k ∉ b :: v.ownBlock.toList := fun k hk => hsub _ (fun h => hb7.2.2.2.2 (by rw [← h]; exact hk)) (fun h => (hb6 _ h).1.2.2.2.2 hk)
                  have O7 := ownsRow_ex O6 X67 nO
                  have OM7 := ownsRow_ex OM6 X67 nOM
                  have B67 := B66.ex X67 nb6
                  have BD7 := BD6.ex X67 nbd
                  have BM7 := BM6.ex X67 nbm
                  have X7 : Ex [] W w7 := XX6.own X67 (fun x hx => by
                    simp only [List.mem_cons, Option.mem_toList] at hx
                    rcases hx with hx | hx
                    · exact .inr (by have := D6.bas; omega)
                    · exact .inr (D6.own.lt x hx).1)
                  have hl76 := X67.size
                  have nlm : ∀ k, (Value.slice la ls.length lc).ownBlock = some k → k < we.heap.size := fun k hk => (hlO5 k hk).2
                  have nlw : ∀ k, (Value.slice xa dd.length xc).ownBlock = some k → we.heap.size ≤ k := fun k hk => (OM.lt k hk).1
                  have n1 : bm ∉ (Value.slice xa dd.length xc).ownBlock.toList := by simpa using nem
                  have n2 : bd ∉ (Value.slice xa dd.length xc).ownBlock.toList := fun h => by have := nlw bd (by simpa using h); omega
                  have n3 : b6 ∉ (Value.slice xa dd.length xc).ownBlock.toList := fun h => by have := nlw b6 (by simpa using h); omega
                  have n4 : ∀ k, (Value.slice la ls.length lc).ownBlock = some k → k ∉ (Value.slice xa dd.length xc).ownBlock.toList := fun k hk h => by have := nlm k hk; have := nlw k (by simpa using h); omega
                  clear hb6 hb7 hsub nbm nbd nb6 nOM nO D5 D6 O6 O5 OM6 B66 BD6 BM6 B65 BD5 X5 XX6 X6 BS hR OM BM nlw hlO5 X67 hwE hwE6 hbm hl76
                  have hdb : (dd.length : Int) ≤ 300 := by omega
                  have Hdd := Lib.hid hddl
                  clear hddl
                  obtain ⟨gk1, rfl⟩ : ∃ g, g = gk := ⟨_, rfl⟩
                  go_wp2_with fail
                  go_loopg [12] dd.length (fun k vi wr => MineB w7 we.heap.size (.slice xa dd.length xc) dd.length k vi wr)
                  case atStart => exact ⟨0, dd, rfl, by omega, OM7, Ex.refl _ _⟩
                  case round =>
                    obtain ⟨q, zs, rfl, hqk, OZ, XZ⟩ := hrel
                    have BMZ := BM7.ex XZ n1
                    have cZ := BMZ.cell
                    by_cases hql : (q : Int) < dd.length
                    · obtain ⟨xg, rfl⟩ : ∃ g, xa = some ⟨g, 0, none⟩ := by
                        rcases OZ.2 with ⟨h1, h2⟩ | ⟨g, cap, cur, h1, _⟩
                        · have := congrArg (fun v => match v with | Value.slice _ n _ => n | _ => 0) h1
                          simp at this
                          rw [this] at hql
                          simp at hql
                          omega
                        · cases h1; exact ⟨g, rfl⟩
                      have hzl : zs.length = dd.length := by have := OZ.1; simpa using this
                      obtain ⟨z, hz⟩ : ∃ z, zs[q]? = some z := ⟨zs[q], by simp⟩
                      have cz : wr.cell? ⟨xg, q, none⟩ = some (.int .u8 (z.toNat : Int)) := by rw [OZ.cellAt q (by omega)]; simp [hz]
                      have fz := OZ.frozenAt q
                      clear hz hzl
                      go_wp2_with fail
                      go_roundg (gk - 1)
                      case measure => omega
                      case rel =>
                        refine ⟨q + 1, zs.set q 238, by go_num, by omega, ?_, XZ.setCell (.inl (by simp [Value.ownBlock])) _⟩
                        rw [List.map_set]
                        exact (OZ.stored q _).1
                    · have O8 := ownsRow_ex O7 XZ n4
                      have B68 := B67.ex XZ n3
                      have BD8 := BD7.ex XZ n2
                      have hwv : ∀ k, (Value.slice xa dd.length xc).ownBlock = some k → W.heap.size ≤ k := fun k hk => by have := (OZ.lt k hk).1; omega
                      have X8 := X7.own XZ (fun k hk => .inr (hwv k (by simpa using hk)))
                      have D8 := D7.turn (av'' := b6 :: (Value.slice la ls.length lc).ownBlock.toList) XZ (fun k hk => .inl (by simp only [List.mem_cons, List.mem_append]; exact .inr (.inl (.inr hk)))) (fun k hk => by
                        simp only [List.mem_cons] at hk
                        refine .inl ?_
                        simp only [List.mem_cons, List.mem_append]
                        rcases hk with rfl | hk
                        · exact .inr (.inr (.inr (.inl rfl)))
                        · exact .inr (.inr (.inr (.inr hk))))
                      have hs8 := X8.size
                      have cD := BD8.cell
                      have BN := Blk.new wr #[.int .i64 frm, .int .i64 to, .slice da dl dc] 58
                      have XN : Ex [] wr (wr.alloc (.cells #[.int .i64 frm, .int .i64 to, .slice da dl dc] 58)) := (Ex.refl _ _).alloc _
                      have ON := ownsRow_ex O8 XN (by simp)
                      have hsn := XN.size
                      obtain ⟨lv9, w9, hap, O9, X9n, L9⟩ := own_join (c := 1) ON (by omega) (ad := ⟨wr.heap.size, 0, none⟩) (m := 1) (ys := [⟨frm, to, da, dl, dc, dd⟩]) rfl (fun q u hu => by
                        rw [Addr.add_mid, Nat.zero_add, BN.cell]; simpa [dcellsOf] using hu) (by omega)
                      have Hap := Lib.hid hap
                      clear hap
                      go_wp2_with (refine G_val rfl (ex_append2 rfl rfl rfl Hap.out) ?_)
                      go_roundg (gk1 - 1)
                      case measure => omega
                      case rel =>
                        obtain ⟨m, rfl, km⟩ := keys1 hes
                        have hl9 := O9.lt
                        have hlO := ON.lt
                        refine ⟨j + 1, v7, ds ++ [m], ls ++ [⟨frm, to, da, dl, dc, dd⟩], by go_num, by omega, ?_, ?_, ?_, ?_, ?_, ?_, (B68.ex XN (by simp)).ex X9n (fun h => by have := hlO _ (by simpa using h); exact hne (by simpa using h)), (X8.trans XN).own X9n (fun k hk => .inr (hlO k (by simpa using hk)).1)⟩
                        · refine (D8.ex XN (by simp)).turn X9n (fun k hk => .inl (List.mem_cons_of_mem _ hk)) (fun k hk => ?_)
                          rcases List.mem_cons.1 hk with rfl | hk
                          · exact .inl (by simp)
                          · simp only [Option.mem_toList] at hk
                            rcases L9 with h | h
                            · rw [h] at hk; exact .inl (List.mem_cons_of_mem _ (by simpa using hk))
                            · rw [h] at hk; cases hk; exact .inr (Nat.le_refl _)
                        · intro h
                          rcases L9 with h' | h'
                          · rw [h'] at h; exact hne h
                          · rw [h'] at h; cases h; have := B68.lt; omega
                        · rw [List.length_append, List.length_singleton]; exact O9
                        · rw [List.map_append, List.map_append, hkey]
                          simp [km, Dv.key]
                        · intro d hd
                          rcases List.mem_append.1 hd with h | h
                          · exact hls d h
                          · rw [List.mem_singleton.1 h]; exact ⟨hby, Hnil.out, show dl ≤ 140737488351232 by omega, fun _ _ _ _ h => h⟩
                        · rw [List.length_append, List.length_singleton]; omega
              · have h3' : (300 : Int) < dl := by omega
                go_wp2_with fail
                have XD : Ex [] wr (wr.alloc (.cells #[.int .i64 frm, .int .i64 to, .slice da dl dc] 58)) := (Ex.refl _ _).alloc _
                go_roundg (gk - 1)
                case measure => omega
                case rel => exact ⟨j + 1, v, ds, ls, by go_num, by omega, D.ex XD (by simp), hne, ownsRow_ex O XD (by simp), hkey, hls, by omega, B6.ex XD (by simp), X.trans XD⟩
            · by_cases hja : (j : Int) < cl
              · have hjb : ¬ ((j : Int) < 5) := by omega
                clear hj
                go_wp2_with fail
                have K9 := hkey
                have D9 := D.fewer (av' := (Value.slice la ls.length lc).ownBlock.toList) (by intro k hk; exact List.mem_cons_of_mem _ hk)
                have O9 := O
                have H9 := hls
                have M9 : ls.length ≤ 5 * i + 5 := by omega
                have X9 := X
                clear D O hls hlm X B6 hkey hne c6
                generalize (Value.slice la ls.length lc) = lv9 at *
                have hdl9 : ds.length = ls.length := by have := congrArg List.length K9; simpa using this
                have hL9 := NetLen_any D9
                rw [hdl9] at hL9
                obtain ⟨l9a, l9c, rfl⟩ := own_shape O9
                go_wp2_with fail
                with_reducible refine hL9.mono ?_
                rintro e wq ⟨rfl, rfl⟩
                clear hL9
                go_wp2_with fail
                go_roundg (gko - 1)
                case measure => omega
                case rel => exact ⟨i + 1, by go_num, by omega, ⟨v, ds, ls, D9, O9, K9, H9, by have := M9; omega⟩, X9⟩
              · clear hj
                go_wp2_with fail
                have K9 := hkey
                have D9 := D.fewer (av' := (Value.slice la ls.length lc).ownBlock.toList) (by intro k hk; exact List.mem_cons_of_mem _ hk)
                have O9 := O
                have H9 := hls
                have M9 : ls.length ≤ 5 * i + 5 := by omega
                have X9 := X
                clear D O hls hlm X B6 hkey hne c6
                generalize (Value.slice la ls.length lc) = lv9 at *
                have hdl9 : ds.length = ls.length := by have := congrArg List.length K9; simpa using this
                have hL9 := NetLen_any D9
                rw [hdl9] at hL9
                obtain ⟨l9a, l9c, rfl⟩ := own_shape O9
                go_wp2_with fail
                with_reducible refine hL9.mono ?_
                rintro e wq ⟨rfl, rfl⟩
                clear hL9
                go_wp2_with fail
                go_roundg (gko - 1)
                case measure => omega
                case rel => exact ⟨i + 1, by go_num, by omega, ⟨v, ds, ls, D9, O9, K9, H9, by have := M9; omega⟩, X9⟩
        · as_aux_lemma =>
          rw [h]
          clear h
          go_wp2_with fail
          with_reducible refine (NetDeliver_none (i := cn) D6).mono ?_
          rintro e w8 ⟨rfl, X68⟩
          have D8 := D6.ex X68 (by simp)
          have O8 := ownsRow_ex O6 X68 (by simp)
          have X8 := X06.trans X68
          clear cc6 D6 D6b ne6 O6 X06 X68
          go_wp2_with fail
          have B10 := Blk.new w8 #[.int .i64 0, .int .i64 0, .slice none 0 0] 58
          have X10 : Ex [] w8 (w8.alloc (.cells #[.int .i64 0, .int .i64 0, .slice none 0 0] 58)) := (Ex.refl _ _).alloc _
          generalize hbd : w8.heap.size = bd at *
          generalize w8.alloc (.cells #[.int .i64 0, .int .i64 0, .slice none 0 0] 58) = w10 at *
          have b0 := B10.cell 0
          have b1 := B10.cell 1
          have b2 := B10.cell 2
          have HS : ∀ w', Ex [] w10 w' → (w'.cell? ⟨bd, 0, none⟩ = some (.int .i64 0) ∧ w'.cell? ⟨bd, 1, none⟩ = some (.int .i64 0) ∧ w'.cell? ⟨bd, 2, none⟩ = some (.slice none 0 0)) := fun w' hx => by
            refine ⟨?_, ?_, ?_⟩
            · rw [hx.cell (p := ⟨bd, 0, none⟩) B10.lt (by simp)]; exact b0
            · rw [hx.cell (p := ⟨bd, 1, none⟩) B10.lt (by simp)]; exact b1
            · rw [hx.cell (p := ⟨bd, 2, none⟩) B10.lt (by simp)]; exact b2
          have D10 := D8.ex X10 (by simp)
          have O10 := ownsRow_ex O8 X10 (by simp)
          have XX := X8.trans X10
          clear D8 O8 X8 X10
          refine wp_region_ord (fun w' => w'.cell? ⟨bd, 0, none⟩ = some (.int .i64 0) ∧ w'.cell? ⟨bd, 1, none⟩ = some (.int .i64 0) ∧ w'.cell? ⟨bd, 2, none⟩ = some (.slice none 0 0)) [] [(0, true), (1, true), (2, true), (3, true), (4, true), (5, true), (6, true), (7, true), (8, true), (9, true), (10, true), (11, true), (12, false), (13, true), (14, true), (15, true), (16, true), (17, true), (18, true), (19, true), (20, true), (21, true), (22, false), (23, true), (24, true), (25, true)]
            (by kernel_rfl) (by kernel_rfl) (by kernel_rfl) (by kernel_rfl) rfl (by intro c a d v w h; cases d <;> exact h) (HS _ (Ex.refl _ _).drew) ?_
          simp only [mkOrd, List.filterMap_cons, List.filterMap_nil, List.getElem?_toArray, List.getElem?_cons_zero, List.getElem?_cons_succ, Option.map_some]
          clear b0 b1 b2
          iterate 7
            refine ord_take (v := ?_) rfl ?_ ?_
            rotate_left
            · intro w' hS
              obtain ⟨s0, s1, s2⟩ := hS
              go_simp
              with_reducible rfl
            go_frame
          iterate 5
            refine ord_pass rfl ?_
            go_frame
          refine ord_none rfl (fun _ => HS _ (Ex.refl _ _).drew) ?_
          go_frame
          iterate 1
            refine ord_pass rfl ?_
            go_frame
          iterate 8
            refine ord_take (v := ?_) rfl ?_ ?_
            rotate_left
            · intro w' hS
              obtain ⟨s0, s1, s2⟩ := hS
              go_simp
              with_reducible rfl
            go_frame
          have X11 : Ex [] w10 w10.drew := (Ex.refl _ _).drew
          refine ord_enter rfl (ex_call (vs := [.agg #[.int .i64 0, .int .i64 0, .slice none 0 0], .agg #[.int .i64 0, .int .i64 0, .slice none 0 0]]) rfl Try.func29 rfl (by kernel_rfl) rfl) ?_
          refine (same20_eq ⟨0, 0, none, 0, 0, []⟩ ⟨0, 0, none, 0, 0, []⟩ (nilOk _ (fun _ => False) _) (nilOk _ (fun _ => False) _) rfl).mono ?_
          rintro e w12 ⟨rfl, X12⟩
          refine ⟨_, rfl, fun _ => HS _ (X11.trans X12), ?_⟩
          go_frame
          iterate 3
            refine ord_take (v := ?_) rfl ?_ ?_
            rotate_left
            · intro w' hS
              go_simp
              with_reducible rfl
            go_frame
          refine ord_nil ?_
          have D8 := D10.ex (X11.trans X12) (by simp)
          have O8 := ownsRow_ex O10 (X11.trans X12) (by simp)
          have X8 := XX.trans (X11.trans X12)
          clear HS D10 O10 XX X11 X12 B10 hbd
          have D9 := D8
          have O9 := O8
          have X9 := X8
          have K9 := hkey
          have H9 := hls
          have M9 : ([] : List Dv).length ≤ 5 * i := by simp
          clear D8 O8 X8
          go_wp2_with fail
          with_reducible refine (NetLen_any D9).mono ?_
          rintro e wq ⟨rfl, rfl⟩
          go_wp2_with fail
          go_roundg (gk - 1)
          case measure => omega
          case rel => exact ⟨i + 1, by go_num, by omega, ⟨v, [], [], D9, O9, rfl, H9, by simp⟩, X9⟩
        · as_aux_lemma =>
          rw [h]
          clear h
          go_wp2_with fail
          with_reducible refine (NetDrop_none (i := cn) D6).mono ?_
          rintro e w8 ⟨rfl, X68⟩
          have D8 := D6.ex X68 (by simp)
          have O8 := ownsRow_ex O6 X68 (by simp)
          have X8 := X06.trans X68
          clear cc6 D6 D6b ne6 O6 X06 X68
          have D9 := D8
          have O9 := O8
          have X9 := X8
          have K9 := hkey
          have H9 := hls
          have M9 : ([] : List Dv).length ≤ 5 * i := by simp
          clear D8 O8 X8
          go_wp2_with fail
          with_reducible refine (NetLen_any D9).mono ?_
          rintro e wq ⟨rfl, rfl⟩
          go_wp2_with fail
          go_roundg (gk - 1)
          case measure => omega
          case rel => exact ⟨i + 1, by go_num, by omega, ⟨v, [], [], D9, O9, rfl, H9, by simp⟩, X9⟩
        · as_aux_lemma =>
          rw [h]
          clear h
          go_wp2_with fail
          with_reducible refine (NetDouble_none (i := cn) D6).mono ?_
          rintro e w8 ⟨rfl, rfl⟩
          have D8 := D6
          have O8 := O6
          have X8 := X06
          clear cc6 D6 D6b ne6 O6 X06
          have D9 := D8
          have O9 := O8
          have X9 := X8
          have K9 := hkey
          have H9 := hls
          have M9 : ([] : List Dv).length ≤ 5 * i := by simp
          clear D8 O8 X8
          go_wp2_with fail
          with_reducible refine (NetLen_any D9).mono ?_
          rintro e wq ⟨rfl, rfl⟩
          go_wp2_with fail
          go_roundg (gk - 1)
          case measure => omega
          case rel => exact ⟨i + 1, by go_num, by omega, ⟨v, [], [], D9, O9, rfl, H9, by simp⟩, X9⟩
    · by_cases hja : (i : Int) < cs.length
      · as_aux_lemma =>
        have hjb : ¬ ((i : Int) < 100) := by omega
        clear hin
        go_wp2_with fail
        have hlb : ls.length ≤ 500 := by omega
        have Hdl := Lib.hid hdl
        have Hll := Lib.hid hll
        clear hdl hll
        have P9 : ClsI W b (.slice la ls.length lc) ls ls.length (.int .i64 0) wr := ⟨0, _, ds, rfl, by omega, D, O, by simpa using hkey, X⟩
        clear D hkey X
        go_loopg [15] ls.length (fun k vi wr => ClsI W b (.slice la ls.length lc) ls k vi wr)
        case atStart => exact P9
        case round =>
          clear P9
          obtain ⟨i2, v, ds, rfl, hk2, D, O, hkey, X⟩ := hrel
          have hdl2 : ds.length = ls.length - i2 := by have := congrArg List.length hkey; simpa using this
          have Hk2 := Lib.hid hkey
          clear hkey
          by_cases hi2 : (i2 : Int) < ls.length
          · obtain ⟨y, hy⟩ : ∃ y, ls[i2]? = some y := ⟨ls[i2], by simp⟩
            obtain ⟨lg, rfl⟩ : ∃ g, la = some ⟨g, 0, none⟩ := by
              rcases O.2 with ⟨h, _⟩ | ⟨g, cap, cur, h, _⟩
              · have := congrArg (fun v => match v with | Value.slice _ n _ => n | _ => 0) h
                simp at this
                rw [this] at hi2
                simp at hi2
                omega
              · cases h; exact ⟨g, rfl⟩
            have Hdl2 := Lib.hid hdl2
            have Hy := Lib.hid hy
            clear hdl2 hy
            go_wp2_with fail
            with_reducible refine (NetDeliver_ok (i := 0) D (by rw [Hdl2.out]; omega) (by rw [Hdl2.out]; omega)).mono ?_
            rintro e w8 ⟨d, v9, hd, rfl, D8, E8, X68⟩
            have e0 : ((0 : Int) % (ds.length : Int)).toNat = 0 := by simp
            rw [e0] at hd D8
            have hk1 := congrArg (fun l => l[0]?) Hk2.out
            simp only [List.getElem?_map, List.getElem?_drop, Nat.add_zero, hd, Hy.out, Option.map_some, Option.some.injEq] at hk1
            have HK9 := Lib.hid (show (ds.eraseIdx 0).map Dv.key = (ls.drop (i2 + 1)).map Dv.key by
              have := congrArg List.tail Hk2.out
              cases ds with
              | nil => simp at hd
              | cons x r => rw [← List.map_tail, ← List.map_tail, List.tail_drop] at this; simpa using this)
            have Hkd := Lib.hid hk1
            have O8 := row_over_net O D X68
            have X8 := ex_over_net X D X68
            have Y8 : DvOk w8 (fun _ => False) y := (hls y (List.mem_of_getElem? Hy.out)).ex X8 (by simp) (by simp)
            clear D O X X68 hd hk1 e0
            obtain ⟨frm, to, da, dl, dc, dd⟩ := d
            go_wp2_with fail
            have B10 := Blk.new w8 #[.int .i64 frm, .int .i64 to, .slice da dl dc] 58
            have X10 : Ex [] w8 (w8.alloc (.cells #[.int .i64 frm, .int .i64 to, .slice da dl dc] 58)) := (Ex.refl _ _).alloc _
            generalize w8.alloc (.cells #[.int .i64 frm, .int .i64 to, .slice da dl dc] 58) = w10 at *
            generalize hbd : w8.heap.size = bd at *
            have b0 := B10.cell 0
            have b1 := B10.cell 1
            have b2 := B10.cell 2
            have D10 := D8.ex X10 (by simp)
            have O10 := ownsRow_ex O8 X10 (by simp)
            have E10 := E8.ex X10 (bad' := fun _ => False) (by simp) (fun _ _ h => h.elim)
            have Y10 := Y8.ex X10 (bad' := fun _ => False) (by simp) (fun _ _ h => h)
            have F10 := own_elem O10 rfl Hy.out
            have XX := X8.trans X10
            clear D8 O8 E8 Y8 X8 X10
            have HS : ∀ w', Ex [] w10 w' → (w'.cell? ⟨bd, 0, none⟩ = some (.int .i64 frm) ∧ w'.cell? ⟨bd, 1, none⟩ = some (.int .i64 to) ∧ w'.cell? ⟨bd, 2, none⟩ = some (.slice da dl dc)) ∧ w'.cell? ⟨lg, i2 * 3, none⟩ = some (.int .i64 y.frm) ∧ w'.cell? ⟨lg, i2 * 3 + 1, none⟩ = some (.int .i64 y.to) ∧ w'.cell? ⟨lg, i2 * 3 + 2, none⟩ = some (.slice y.a y.len y.cap) := fun w' hx => by
              have hl := O10.lt lg rfl
              refine ⟨⟨?_, ?_, ?_⟩, ?_, ?_, ?_⟩
              · rw [hx.cell (p := ⟨bd, 0, none⟩) B10.lt (by simp)]; exact b0
              · rw [hx.cell (p := ⟨bd, 1, none⟩) B10.lt (by simp)]; exact b1
              · rw [hx.cell (p := ⟨bd, 2, none⟩) B10.lt (by simp)]; exact b2
              · rw [hx.cell (p := ⟨lg, _, none⟩) hl.2 (by simp)]; exact F10.1
              · rw [hx.cell (p := ⟨lg, _, none⟩) hl.2 (by simp)]; exact F10.2.1
              · rw [hx.cell (p := ⟨lg, _, none⟩) hl.2 (by simp)]; exact F10.2.2
            refine wp_region_ord (fun w' => (w'.cell? ⟨bd, 0, none⟩ = some (.int .i64 frm) ∧ w'.cell? ⟨bd, 1, none⟩ = some (.int .i64 to) ∧ w'.cell? ⟨bd, 2, none⟩ = some (.slice da dl dc)) ∧ w'.cell? ⟨lg, i2 * 3, none⟩ = some (.int .i64 y.frm) ∧ w'.cell? ⟨lg, i2 * 3 + 1, none⟩ = some (.int .i64 y.to) ∧ w'.cell? ⟨lg, i2 * 3 + 2, none⟩ = some (.slice y.a y.len y.cap)) [] [(0, true), (1, true), (2, true), (3, true), (4, true), (5, true), (6, true), (7, true), (8, false), (9, true), (10, true)]
              (by kernel_rfl) (by kernel_rfl) (by kernel_rfl) (by kernel_rfl) rfl (by intro c a d v w h; cases d <;> exact h) (HS _ (Ex.refl _ _).drew) ?_
            simp only [mkOrd, List.filterMap_cons, List.filterMap_nil, List.getElem?_toArray, List.getElem?_cons_zero, List.getElem?_cons_succ, Option.map_some]
            clear b0 b1 b2 F10
            iterate 8
              refine ord_take (v := ?_) rfl ?_ ?_
              rotate_left
              · intro w' hS
                obtain ⟨⟨s0, s1, s2⟩, s3, s4, s5⟩ := hS
                go_simp
                with_reducible rfl
              go_frame
            have X11 : Ex [] w10 w10.drew := (Ex.refl _ _).drew
            refine ord_enter rfl (ex_call (vs := [.agg #[.int .i64 frm, .int .i64 to, .slice da dl dc], .agg #[.int .i64 y.frm, .int .i64 y.to, .slice y.a y.len y.cap]]) rfl Try.func29 rfl (by kernel_rfl) rfl) ?_
            refine (same20_eq ⟨frm, to, da, dl, dc, dd⟩ y (E10.ex X11 (bad' := fun _ => False) (by simp) (fun _ _ h => h.elim)) (Y10.ex X11 (bad' := fun _ => False) (by simp) (fun _ _ h => h)) Hkd.out).mono ?_
            rintro e w12 ⟨rfl, X12⟩
            refine ⟨_, rfl, fun _ => HS _ (X11.trans X12), ?_⟩
            go_frame
            iterate 2
              refine ord_take (v := ?_) rfl ?_ ?_
              rotate_left
              · intro w' hS
                go_simp
                with_reducible rfl
              go_frame
            refine ord_nil ?_
            have D8 := D10.ex (X11.trans X12) (by simp)
            have O8 := ownsRow_ex O10 (X11.trans X12) (by simp)
            have X8 := XX.trans (X11.trans X12)
            clear HS D10 O10 E10 Y10 XX X11 X12 B10 hbd
            go_wp2_with fail
            go_roundg (gk - 1)
            case measure => omega
            case rel => exact ⟨i2 + 1, v9, _, by go_num, by omega, D8, O8, HK9.out, X8⟩
          · obtain rfl : ds = [] := List.eq_nil_of_length_eq_zero (by omega)
            clear Hk2 hdl2
            go_wp2_with fail
            with_reducible refine (NetDeliver_none (i := 0) D).mono ?_
            rintro e w8 ⟨rfl, X68⟩
            go_wp2_with fail
            go_ret
            exact ⟨rfl, (X.trans X68).alloc _⟩
      · as_aux_lemma =>
        clear hin
        go_wp2_with fail
        have hlb : ls.length ≤ 500 := by omega
        have Hdl := Lib.hid hdl
        have Hll := Lib.hid hll
        clear hdl hll
        have P9 : ClsI W b (.slice la ls.length lc) ls ls.length (.int .i64 0) wr := ⟨0, _, ds, rfl, by omega, D, O, by simpa using hkey, X⟩
        clear D hkey X
        go_loopg [15] ls.length (fun k vi wr => ClsI W b (.slice la ls.length lc) ls k vi wr)
        case atStart => exact P9
        case round =>
          clear P9
          obtain ⟨i2, v, ds, rfl, hk2, D, O, hkey, X⟩ := hrel
          have hdl2 : ds.length = ls.length - i2 := by have := congrArg List.length hkey; simpa using this
          have Hk2 := Lib.hid hkey
          clear hkey
          by_cases hi2 : (i2 : Int) < ls.length
          · obtain ⟨y, hy⟩ : ∃ y, ls[i2]? = some y := ⟨ls[i2], by simp⟩
            obtain ⟨lg, rfl⟩ : ∃ g, la = some ⟨g, 0, none⟩ := by
              rcases O.2 with ⟨h, _⟩ | ⟨g, cap, cur, h, _⟩
              · have := congrArg (fun v => match v with | Value.slice _ n _ => n | _ => 0) h
                simp at this
                rw [this] at hi2
                simp at hi2
                omega
              · cases h; exact ⟨g, rfl⟩
            have Hdl2 := Lib.hid hdl2
            have Hy := Lib.hid hy
            clear hdl2 hy
            go_wp2_with fail
            with_reducible refine (NetDeliver_ok (i := 0) D (by rw [Hdl2.out]; omega) (by rw [Hdl2.out]; omega)).mono ?_
            rintro e w8 ⟨d, v9, hd, rfl, D8, E8, X68⟩
            have e0 : ((0 : Int) % (ds.length : Int)).toNat = 0 := by simp
            rw [e0] at hd D8
            have hk1 := congrArg (fun l => l[0]?) Hk2.out
            simp only [List.getElem?_map, List.getElem?_drop, Nat.add_zero, hd, Hy.out, Option.map_some, Option.some.injEq] at hk1
            have HK9 := Lib.hid (show (ds.eraseIdx 0).map Dv.key = (ls.drop (i2 + 1)).map Dv.key by
              have := congrArg List.tail Hk2.out
              cases ds with
              | nil => simp at hd
              | cons x r => rw [← List.map_tail, ← List.map_tail, List.tail_drop] at this; simpa using this)
            have Hkd := Lib.hid hk1
            have O8 := row_over_net O D X68
            have X8 := ex_over_net X D X68
            have Y8 : DvOk w8 (fun _ => False) y := (hls y (List.mem_of_getElem? Hy.out)).ex X8 (by simp) (by simp)
            clear D O X X68 hd hk1 e0
            obtain ⟨frm, to, da, dl, dc, dd⟩ := d
            go_wp2_with fail
            have B10 := Blk.new w8 #[.int .i64 frm, .int .i64 to, .slice da dl dc] 58
            have X10 : Ex [] w8 (w8.alloc (.cells #[.int .i64 frm, .int .i64 to, .slice da dl dc] 58)) := (Ex.refl _ _).alloc _
            generalize w8.alloc (.cells #[.int .i64 frm, .int .i64 to, .slice da dl dc] 58) = w10 at *
            generalize hbd : w8.heap.size = bd at *
            have b0 := B10.cell 0
            have b1 := B10.cell 1
            have b2 := B10.cell 2
            have D10 := D8.ex X10 (by simp)
            have O10 := ownsRow_ex O8 X10 (by simp)
            have E10 := E8.ex X10 (bad' := fun _ => False) (by simp) (fun _ _ h => h.elim)
            have Y10 := Y8.ex X10 (bad' := fun _ => False) (by simp) (fun _ _ h => h)
            have F10 := own_elem O10 rfl Hy.out
            have XX := X8.trans X10
            clear D8 O8 E8 Y8 X8 X10
            have HS : ∀ w', Ex [] w10 w' → (w'.cell? ⟨bd, 0, none⟩ = some (.int .i64 frm) ∧ w'.cell? ⟨bd, 1, none⟩ = some (.int .i64 to) ∧ w'.cell? ⟨bd, 2, none⟩ = some (.slice da dl dc)) ∧ w'.cell? ⟨lg, i2 * 3, none⟩ = some (.int .i64 y.frm) ∧ w'.cell? ⟨lg, i2 * 3 + 1, none⟩ = some (.int .i64 y.to) ∧ w'.cell? ⟨lg, i2 * 3 + 2, none⟩ = some (.slice y.a y.len y.cap) := fun w' hx => by
              have hl := O10.lt lg rfl
              refine ⟨⟨?_, ?_, ?_⟩, ?_, ?_, ?_⟩
              · rw [hx.cell (p := ⟨bd, 0, none⟩) B10.lt (by simp)]; exact b0
              · rw [hx.cell (p := ⟨bd, 1, none⟩) B10.lt (by simp)]; exact b1
              · rw [hx.cell (p := ⟨bd, 2, none⟩) B10.lt (by simp)]; exact b2
              · rw [hx.cell (p := ⟨lg, _, none⟩) hl.2 (by simp)]; exact F10.1
              · rw [hx.cell (p := ⟨lg, _, none⟩) hl.2 (by simp)]; exact F10.2.1
              · rw [hx.cell (p := ⟨lg, _, none⟩) hl.2 (by simp)]; exact F10.2.2
            refine wp_region_ord (fun w' => (w'.cell? ⟨bd, 0, none⟩ = some (.int .i64 frm) ∧ w'.cell? ⟨bd, 1, none⟩ = some (.int .i64 to) ∧ w'.cell? ⟨bd, 2, none⟩ = some (.slice da dl dc)) ∧ w'.cell? ⟨lg, i2 * 3, none⟩ = some (.int .i64 y.frm) ∧ w'.cell? ⟨lg, i2 * 3 + 1, none⟩ = some (.int .i64 y.to) ∧ w'.cell? ⟨lg, i2 * 3 + 2, none⟩ = some (.slice y.a y.len y.cap)) [] [(0, true), (1, true), (2, true), (3, true), (4, true), (5, true), (6, true), (7, true), (8, false), (9, true), (10, true)]
              (by kernel_rfl) (by kernel_rfl) (by kernel_rfl) (by kernel_rfl) rfl (by intro c a d v w h; cases d <;> exact h) (HS _ (Ex.refl _ _).drew) ?_
            simp only [mkOrd, List.filterMap_cons, List.filterMap_nil, List.getElem?_toArray, List.getElem?_cons_zero, List.getElem?_cons_succ, Option.map_some]
            clear b0 b1 b2 F10
            iterate 8
              refine ord_take (v := ?_) rfl ?_ ?_
              rotate_left
              · intro w' hS
                obtain ⟨⟨s0, s1, s2⟩, s3, s4, s5⟩ := hS
                go_simp
                with_reducible rfl
              go_frame
            have X11 : Ex [] w10 w10.drew := (Ex.refl _ _).drew
            refine ord_enter rfl (ex_call (vs := [.agg #[.int .i64 frm, .int .i64 to, .slice da dl dc], .agg #[.int .i64 y.frm, .int .i64 y.to, .slice y.a y.len y.cap]]) rfl Try.func29 rfl (by kernel_rfl) rfl) ?_
            refine (same20_eq ⟨frm, to, da, dl, dc, dd⟩ y (E10.ex X11 (bad' := fun _ => False) (by simp) (fun _ _ h => h.elim)) (Y10.ex X11 (bad' := fun _ => False) (by simp) (fun _ _ h => h)) Hkd.out).mono ?_
            rintro e w12 ⟨rfl, X12⟩
            refine ⟨_, rfl, fun _ => HS _ (X11.trans X12), ?_⟩
            go_frame
            iterate 2
              refine ord_take (v := ?_) rfl ?_ ?_
              rotate_left
              · intro w' hS
                go_simp
                with_reducible rfl
              go_frame
            refine ord_nil ?_
            have D8 := D10.ex (X11.trans X12) (by simp)
            have O8 := ownsRow_ex O10 (X11.trans X12) (by simp)
            have X8 := XX.trans (X11.trans X12)
            clear HS D10 O10 E10 Y10 XX X11 X12 B10 hbd
            go_wp2_with fail
            go_roundg (gk - 1)
            case measure => omega
            case rel => exact ⟨i2 + 1, v9, _, by go_num, by omega, D8, O8, HK9.out, X8⟩
          · obtain rfl : ds = [] := List.eq_nil_of_length_eq_zero (by omega)
            clear Hk2 hdl2
            go_wp2_with fail
            with_reducible refine (NetDeliver_none (i := 0) D).mono ?_
            rintro e w8 ⟨rfl, X68⟩
            go_wp2_with fail
            go_ret
            exact ⟨rfl, (X.trans X68).alloc _⟩
end Go.Proofs.Ytjgkanmhmkmdeaa
