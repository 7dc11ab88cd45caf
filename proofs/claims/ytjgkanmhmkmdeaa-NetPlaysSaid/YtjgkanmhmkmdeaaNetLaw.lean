/- The laws of chapter 20: NetOrder, walked. -/
import Derived.Test.YtjgkanmhmkmdeaaNet
namespace Go.Proofs.Ytjgkanmhmkmdeaa
open Go.RowKit Go.Ad Go.Maps
theorem infoInt : (Try.prog.info? 3).map (fun i => (i.zero, i.size, i.bytes)) = some (some (.int .i64 0), 1, 8) := by kernel_rfl
theorem NetAt.turn {w w' : World} {B : Nat} {av av' av'' : List Nat} {b : Nat} {v : Value} {ds : List Dv} (h : NetAt w B av b v ds) (hx : Ex av' w w') (ha : ∀ k ∈ av', k ∈ av ∨ w.heap.size ≤ k) (hb : ∀ k ∈ av'', k ∈ av ∨ w.heap.size ≤ k) : NetAt w' B av'' b v ds := by
  have ho := h.own.lt
  have hbl := h.blk.lt
  have hnb : ∀ l : List Nat, (∀ k ∈ l, k ∈ av ∨ w.heap.size ≤ k) → b ∉ l := fun l hl hm => by
    rcases hl b hm with h1 | h1
    · exact h.bav h1
    · omega
  have hnv : ∀ l : List Nat, (∀ k ∈ l, k ∈ av ∨ w.heap.size ≤ k) → ∀ k, v.ownBlock = some k → k ∉ l := fun l hl k hk hm => by
    rcases hl k hm with h1 | h1
    · exact (h.vav k hk).1 h1
    · have := (ho k hk).2; omega
  refine ⟨h.blk.ex hx (hnb _ ha), hnb _ hb, h.bas, fun k hk => ⟨hnv _ hb k hk, (h.vav k hk).2⟩, ownsRow_ex h.own hx (hnv _ ha), fun d hd => (h.dat d hd).ex hx (fun k hk hlt => ?_) (fun k hlt hk => ?_)⟩
  · rcases ha k hk with h1 | h1
    · exact .inl h1
    · omega
  · rcases hk with hk | hk
    · rcases hb k hk with h1 | h1
      · exact .inl h1
      · omega
    · exact .inr hk
/-- 'append(want, x)' onto a slice of ints of the call's own. -/
theorem own_push {w : World} {B : Nat} {vw : Value} {n : Nat} {xs : List Value} (h : w.ownsRow B 3 1 vw n xs) (hB : B ≤ w.heap.size) (hn : n < 1000000) (x : Int) :
    ∃ vw' w', (Builtin.append_ #[65, 65] 65 #[vw, .slice (some ⟨w.heap.size, 0, none⟩) 1 1]).run Try.prog (w.alloc (.cells #[.int .i64 x] 3)) = .ok vw' w' ∧ w'.ownsRow B 3 1 vw' (n + 1) (xs ++ [.int .i64 x]) ∧
      Ex vw.ownBlock.toList w w' ∧ (vw'.ownBlock = vw.ownBlock ∨ ∃ y, vw'.ownBlock = some y ∧ w.heap.size ≤ y) := by
  obtain ⟨ii, hi1, hi2, hi3, hi4⟩ := info_parts infoInt
  have B1 := Blk.new w #[.int .i64 x] 3
  obtain ⟨v', w', h1, h2, h3, _, h5⟩ := run_append_own_at (P := Try.prog) (w.alloc (.cells #[.int .i64 x] 3)) B 65 65 3 ii _ 1 8 Try.underlying65 hi1 hi2 hi3 hi4 rfl (by omega)
    vw n xs (h.alloc _) ⟨w.heap.size, 0, none⟩ 1 1 [.int .i64 x] rfl (fun q u hu => by rw [Addr.add_mid]; exact B1.range0 q u hu) (by simp [Value.oneCell']) (by simp [maxLen]; omega) (by omega) (by rw [World.size_alloc]; omega)
  refine ⟨v', w', h1, h2, (((Ex.refl [] w).alloc _).mono (by simp)).trans (Ex.of_own h3 (by simp)), ?_⟩
  rcases h5 with h5 | h5
  · exact .inl h5
  · exact .inr ⟨_, h5, by rw [World.size_alloc]; omega⟩
theorem keys2 {es : List Dv} {a b : Int × Int × List UInt8} (h : es.map Dv.key = [a, b]) : ∃ d1 d2, es = [d1, d2] ∧ d1.key = a ∧ d2.key = b := by
  rcases es with _ | ⟨d1, _ | ⟨d2, _ | ⟨d3, r⟩⟩⟩ <;> simp at h
  exact ⟨d1, d2, rfl, by simp [Dv.key, h], by simp [Dv.key, h]⟩
theorem within20 (n k : Int) (hk : 0 < k) (hk2 : k < 1000) (w : World) :
    Calls Try.prog 26 #[.int .i64 n, .int .i64 k] w fun e w' => e = .returned (.int .i64 (n % k)) ∧ w = w' := by
  go_enter Try.func26, Try.ntmps26
  go_wp2
  · have h : n.tmod k < 0 := by assumption
    have h1 := tmod_neg hk h
    have h2 := Int.emod_lt_of_pos n hk
    have h3 := Int.emod_nonneg n (by omega : k ≠ 0)
    go_ret
    exact ⟨ret_int (by rw [wrap64_id (by omega) (by omega), h1]), rfl⟩
  · have h : 0 ≤ n.tmod k := by assumption
    go_ret
    exact ⟨ret_int (tmod_nonneg hk h), rfl⟩
set_option maxHeartbeats 800000 in
theorem known20 (w : World) : Calls Try.prog 24 #[] w fun e w' => e = .returned (.bool true) ∧ Ex [] w w' := by
  go_enter Try.func24, Try.ntmps24
  go_wp2_with fail
  with_reducible refine (NetNew_any (av := []) (Nat.le_refl w.heap.size) (by simp)).mono ?_
  rintro e w1 ⟨rfl, D1, X1⟩
  go_wp2_with fail
  have B2 := Blk.new w1 #[.int .i64 1, .int .i64 0, .slice none 0 0, .int .i64 2, .int .i64 0, .slice none 0 0] 58
  have X2 : Ex [] w1 (w1.alloc (.cells #[.int .i64 1, .int .i64 0, .slice none 0 0, .int .i64 2, .int .i64 0, .slice none 0 0] 58)) := (Ex.refl _ _).alloc _
  have D2 := D1.turn (av'' := [w1.heap.size]) X2 (by simp) (by simp)
  have hs1 := X1.size
  have hs2 := B2.lt
  generalize w1.alloc (.cells #[.int .i64 1, .int .i64 0, .slice none 0 0, .int .i64 2, .int .i64 0, .slice none 0 0] 58) = w2 at *
  have hR : RowAt w2 w1.heap.size 0 [⟨1, 0, none, 0, 0, []⟩, ⟨2, 0, none, 0, 0, []⟩] := fun j d hj => by
    match j, hj with
    | 0, hj =>
      simp only [List.getElem?_cons_zero, Option.some.injEq] at hj
      subst hj
      exact ⟨B2.cell _, B2.cell _, B2.cell _⟩
    | 1, hj =>
      simp only [List.getElem?_cons_zero, List.getElem?_cons_succ, Option.some.injEq] at hj
      subst hj
      exact ⟨B2.cell _, B2.cell _, B2.cell _⟩
  have hnil : ∀ (w : World) (bad : Nat → Prop) (x : Int), DvOk w bad ⟨x, 0, none, 0, 0, []⟩ := fun w bad x => ⟨⟨rfl, .inl rfl⟩, fun _ => rfl, Nat.zero_le _, fun c o h => by simp at h⟩
  with_reducible refine (NetSend_n (so := 0) (sc := 2) (n := 2) (es := [⟨1, 0, none, 0, 0, []⟩, ⟨2, 0, none, 0, 0, []⟩]) rfl D2 (by omega) (by simp) hs2 hR (fun d hd => by
    simp only [List.mem_cons, List.not_mem_nil, or_false] at hd
    rcases hd with rfl | rfl <;> exact hnil _ _ _) (by simp)).mono ?_
  rintro e w3 ⟨v3, es, rfl, hkey, D3, X3⟩
  obtain ⟨d1, d2, rfl, k1, k2⟩ := keys2 hkey
  have k2 : d2.frm = 2 := congrArg Prod.fst k2
  go_wp2_with fail
  with_reducible refine (NetDeliver_ok D3 (by simp) (by simp)).mono ?_
  rintro e w4 ⟨d, v4, hd, rfl, D4, _, X4⟩
  have hd2 : d = d2 := by simpa using hd.symm
  subst hd2
  obtain ⟨frm, to, da, dl, dc, dd⟩ := d
  obtain rfl : frm = 2 := k2
  have D5 := D4.ex (l := []) ((Ex.refl _ _).alloc (.cells #[.int .i64 2, .int .i64 to, .slice da dl dc] 58)) (by simp)
  go_wp2_with fail
  with_reducible refine (NetLen_any D5).mono ?_
  rintro e w5 ⟨rfl, rfl⟩
  go_wp2_with fail
  go_ret
  refine ⟨rfl, (((X1.trans X2).own X3 (by simp [Value.ownBlock])).own X4 (fun x hx => ?_)).alloc _⟩
  simp only [List.mem_cons, Option.mem_toList] at hx
  rcases hx with hx | hx
  · exact .inr (by omega)
  · exact .inr (D3.own.lt x hx).1
theorem nilOk (w : World) (bad : Nat → Prop) (x : Int) : DvOk w bad ⟨x, 0, none, 0, 0, []⟩ := ⟨⟨rfl, .inl rfl⟩, fun _ => rfl, Nat.zero_le _, fun c o h => by simp at h⟩
/-- The net holds these senders' datagrams. -/
abbrev ikey (x : Int) : Int × Int × List UInt8 := (x, 0, [])
/-- Net and wanted row. -/
def OrdN (w : World) (B b : Nat) (vw : Value) (ns ws : List Int) : Prop :=
  ∃ (v : Value) (ds : List Dv), NetAt w B vw.ownBlock.toList b v ds ∧ ds.map Dv.key = ns.map ikey ∧ w.ownsRow B 3 1 vw ws.length (ws.map (Value.int .i64))
def Ord1 (W : World) (b N : Nat) (k : Nat) (vi : Value) (wr : World) : Prop := ∃ i : Nat, vi = .int .i64 (i : Int) ∧ i + k = N ∧ OrdN wr W.heap.size b (.slice none 0 0) ((List.range i).map Int.ofNat) [] ∧ Ex [] W wr
def Ord2 (W : World) (b N : Nat) (k : Nat) (vw vi : Value) (wr : World) : Prop := ∃ i : Nat, vi = .int .i64 (i : Int) ∧ i + k = N ∧ OrdN wr W.heap.size b vw ((List.range N).map Int.ofNat) ((List.range i).map Int.ofNat) ∧ Ex [] W wr
def Ord3 (W : World) (b N : Nat) (k : Nat) (vw vi : Value) (wr : World) : Prop := ∃ (i : Nat) (ws : List Int), vi = .int .i64 (i : Int) ∧ i + k = 20 ∧ ws.length = N + i ∧ OrdN wr W.heap.size b vw ws ws ∧ Ex [] W wr
def Ord4 (W : World) (b : Nat) (ws : List Int) (vw : Value) (k : Nat) (vi : Value) (wr : World) : Prop := ∃ i : Nat, vi = .int .i64 (i : Int) ∧ i + k = ws.length ∧ OrdN wr W.heap.size b vw (ws.drop i) ws ∧ Ex [] W wr
/-- A slice of ints that is only read. -/
def IntsAt (w : World) (a : Option Addr) (zs : List Int) : Prop := zs = [] ∨ ∃ b o, a = some ⟨b, o, none⟩ ∧ b < w.heap.size ∧ w.rangeAt b o (zs.map (Value.int .i64))
set_option maxRecDepth 100000 in
set_option maxHeartbeats 3200000 in
theorem netOrder_walk (q : Int) (a : Option Addr) (cap : Nat) (zs : List Int) (W : World) (hz : IntsAt W a zs) :
    Calls Try.prog 7 #[.int .i64 q, .slice a zs.length cap] W fun e w' => e = .returned (.bool true) ∧ Ex [] W w' := by
  have hq1 := Int.emod_nonneg q (show (30 : Int) ≠ 0 by omega)
  have hq2 := Int.emod_lt_of_pos q (show (0 : Int) < 30 by omega)
  have Hz := Lib.hid hz
  clear hz
  go_enter Try.func7, Try.ntmps7
  go_wp2_with fail
  with_reducible refine (known20 _).mono ?_
  rintro e w1 ⟨rfl, X1⟩
  go_wp2_with fail
  with_reducible refine (within20 _ _ (by omega) (by omega) _).mono ?_
  rintro e w2 ⟨rfl, rfl⟩
  obtain ⟨N, hN⟩ := Int.eq_ofNat_of_zero_le hq1
  rw [hN] at hq1 hq2 ⊢
  clear hN
  go_wp2_with fail
  with_reducible refine (NetNew_any (av := []) (B := W.heap.size) X1.size (by simp)).mono ?_
  rintro e w2 ⟨rfl, D2, X2⟩
  have hb : W.heap.size ≤ w1.heap.size := X1.size
  have X : Ex [] W w2 := X1.trans X2
  have P2 : OrdN w2 W.heap.size w1.heap.size (.slice none 0 0) ((List.range 0).map Int.ofNat) [] := ⟨_, _, D2, rfl, World.ownsRow_nil _ _ _ _⟩
  generalize w1.heap.size = b at *
  clear D2 X1 X2
  go_wp2_with fail
  go_loopg [6] N (fun k vi wr => Ord1 W b N k vi wr)
  case atStart => exact ⟨0, rfl, by omega, P2, X⟩
  case round =>
    clear P2 X
    obtain ⟨i, rfl, hk, ⟨v, ds, D, hds, O⟩, X⟩ := hrel
    by_cases hin : (i : Int) < N
    · go_wp2_with fail
      have B3 := Blk.new wr #[.int .i64 (i : Int), .int .i64 0, .slice none 0 0] 58
      have X3 : Ex [] wr (wr.alloc (.cells #[.int .i64 (i : Int), .int .i64 0, .slice none 0 0] 58)) := (Ex.refl _ _).alloc _
      have D3 := D.turn (av'' := [wr.heap.size]) X3 (by simp) (by simp)
      have hs3 := B3.lt
      have hsX := X.size
      generalize wr.alloc (.cells #[.int .i64 (i : Int), .int .i64 0, .slice none 0 0] 58) = w3 at *
      have hR : RowAt w3 wr.heap.size 0 [⟨i, 0, none, 0, 0, []⟩] := fun j d hj => by
        match j, hj with
        | 0, hj =>
          simp only [List.getElem?_cons_zero, Option.some.injEq] at hj
          subst hj
          exact ⟨B3.cell _, B3.cell _, B3.cell _⟩
      have hlen : ds.length = i := by have := congrArg List.length hds; simpa using this
      with_reducible refine (NetSend_n (so := 0) (sc := 1) (n := 1) (es := [⟨i, 0, none, 0, 0, []⟩]) rfl D3 (by omega) (by simp) hs3 hR (fun d hd => by
        obtain rfl := List.mem_singleton.1 hd
        exact nilOk _ _ _) (by omega)).mono ?_
      rintro e w4 ⟨v4, es, rfl, hkey, D4, X4⟩
      go_wp2_with fail
      go_roundg (gk - 1)
      case measure => omega
      case rel =>
        refine ⟨i + 1, by go_num, by omega, ⟨v4, ds ++ es, D4.fewer (by simp [Value.ownBlock]), ?_, World.ownsRow_nil _ _ _ _⟩, ?_⟩
        · rw [List.map_append, hds, hkey, List.range_succ]; simp
        · refine (X.trans X3).own X4 (fun x hx => ?_)
          simp only [List.mem_cons, Option.mem_toList] at hx
          rcases hx with hx | hx
          · exact .inr (by have := D.bas; omega)
          · exact .inr (D.own.lt x hx).1
    · obtain rfl : N = i := by omega
      go_wp2_with fail
      have hO : OrdN wr W.heap.size b (.slice none 0 0) ((List.range N).map Int.ofNat) ((List.range 0).map Int.ofNat) := ⟨v, ds, D, hds, O⟩
      clear D O hds ds v hk hin
      go_loopg [7, 8] N (fun k vw vi wr => Ord2 W b N k vw vi wr)
      case atStart => exact ⟨0, rfl, by omega, hO, X⟩
      case round =>
        clear hO X
        obtain ⟨i, rfl, hk, ⟨v, ds, D, hds, O⟩, X⟩ := hrel
        have hsX := X.size
        simp only [List.length_map, List.length_range] at O
        by_cases hin : (i : Int) < N
        · obtain ⟨vw', w', hap, O', Xp, L⟩ := own_push O hsX (by omega) (i : Int)
          have Hap := Lib.hid hap
          clear hap
          go_wp2_with (refine G_val rfl (ex_append2 rfl rfl rfl Hap.out) ?_)
          go_roundg (gk - 1)
          case measure => omega
          case rel =>
            refine ⟨i + 1, by go_num, by omega, ⟨v, ds, D.turn Xp (fun _ h => .inl h) (fun x hx => ?_), hds, ?_⟩, X.own Xp (fun x hx => .inr (O.lt x (by simpa using hx)).1)⟩
            · simp only [Option.mem_toList] at hx
              rcases L with e | ⟨y, e, hy⟩
              · exact .inl (by rw [e] at hx; simpa using hx)
              · rw [e] at hx; cases hx; exact .inr hy
            · simpa [List.range_succ] using O'
        · obtain rfl : N = i := by omega
          go_wp2_with fail
          have hO : OrdN wr W.heap.size b u7 ((List.range N).map Int.ofNat) ((List.range N).map Int.ofNat) := ⟨v, ds, D, hds, by simpa using O⟩
          clear D O hds ds v hk hin
          go_loopg [7, 9] 20 (fun k vw vi wr => Ord3 W b N k vw vi wr)
          case atStart => exact ⟨0, _, rfl, by omega, by simp, hO, X⟩
          case round =>
            clear hO X
            obtain ⟨i, ws, rfl, hk, hwl, ⟨v, ds, D, hds, O⟩, X⟩ := hrel
            have hsX := X.size
            have hdl : ds.length = ws.length := by have := congrArg List.length hds; simpa using this
            have hw1 : ws.length < 60 := by omega
            have hw2 : 0 < N → 0 < ws.length := by omega
            have Hwl := Lib.hid hwl
            have Hdl := Lib.hid hdl
            clear hwl hdl
            by_cases hin : (i < zs.length ∧ i < 20) ∧ 0 < N
            · obtain ⟨⟨hin1, hin2⟩, hin3⟩ := hin
              rcases Hz.out with h | ⟨zb, zo, rfl, hzb, hzr⟩
              · rw [h] at hin1; simp at hin1
              obtain ⟨z, hz⟩ : ∃ z, zs[i]? = some z := ⟨zs[i], by simp⟩
              have cz : wr.cell? ⟨zb, zo + i, none⟩ = some (.int .i64 z) := by
                rw [X.cell (p := ⟨zb, zo + i, none⟩) hzb (by simp)]; exact hzr i _ (by simp [hz])
              have j1 : (i : Int) < zs.length := by omega
              have j2 : (0 : Int) < N := by omega
              obtain ⟨va, vc, rfl⟩ := own_shape O
              have hL : (0 : Int) < ws.length := by omega
              have m0 := Int.emod_nonneg z (show (ws.length : Int) ≠ 0 by omega)
              have m1 := Int.emod_lt_of_pos z hL
              have hw3 := hw2 hin3
              clear hzr hz hin1 hin3 hw2
              go_wp2_with fail
              with_reducible refine (within20 z (ws.length : Int) hL (by omega) _).mono ?_
              rintro e w2 ⟨rfl, rfl⟩
              go_wp2_with fail
              with_reducible refine (NetDouble_ok (i := z) D hsX ?hav (by rw [Hdl.out]; omega) (by rw [Hdl.out]; omega)).mono ?_
              case hav => intro x hx; exact (O.lt x (by simpa using hx)).2
              rintro e w2 ⟨d, v2, es, hd, rfl, hes, D2, X2⟩
              rw [Hdl.out] at hd
              obtain ⟨k2, hk2⟩ := Int.eq_ofNat_of_zero_le m0
              rw [hk2] at hd m1 ⊢
              simp only [Int.toNat_natCast] at hd
              have hkl : k2 < ws.length := by omega
              obtain ⟨x, hx⟩ : ∃ x, ws[k2]? = some x := ⟨ws[k2], by simp⟩
              have hkey : d.key = ikey x := by
                have h1 := congrArg (fun l => l[k2]?) hds
                simpa [hd, hx] using h1
              have O2 := ownsRow_ex O X2 (fun y hy => by
                simp only [List.mem_cons, Option.mem_toList, not_or]
                exact ⟨fun e => D.bav (by simp [← e, hy]), fun e => (D.vav y e).1 (by simp [hy])⟩)
              have hown := fun y (hy : v.ownBlock = some y) => D.own.lt y hy
              have hdb := D.bas
              have X02 : Ex [] W w2 := X.own X2 (fun y hy => by
                simp only [List.mem_cons, Option.mem_toList] at hy
                rcases hy with hy | hy
                · exact .inr (by omega)
                · exact .inr (hown y hy).1)
              obtain ⟨vg, rfl⟩ : ∃ g, va = some ⟨g, 0, none⟩ := by
                rcases O.2 with ⟨_, h⟩ | ⟨g, cap, cur, h, _⟩
                · omega
                · cases h; exact ⟨g, rfl⟩
              have c2 : w2.cell? ⟨vg, k2, none⟩ = some (.int .i64 x) := by rw [O2.cellAt k2 (by omega)]; simp [hx]
              obtain ⟨vw', w', hap, O', Xp, L⟩ := own_push O2 X02.size (by omega) x
              have Hap := Lib.hid hap
              have hds2 := hds
              clear hap cz D O X hds
              go_wp2_with (refine G_val rfl (ex_append2 rfl rfl rfl Hap.out) ?_)
              go_roundg (gk - 1)
              case measure => omega
              case rel =>
                refine ⟨i + 1, ws ++ [x], by go_num, by omega, by have := Hwl.out; simp; omega, ⟨v2, ds ++ es, D2.turn Xp (fun _ h => .inl h) (fun y hy => ?_), ?_, ?_⟩, X02.own Xp (fun y hy => .inr (O2.lt y (by simpa using hy)).1)⟩
                · simp only [Option.mem_toList] at hy
                  rcases L with e | ⟨y', e, hy'⟩
                  · exact .inl (by rw [e] at hy; simpa using hy)
                  · rw [e] at hy; cases hy; exact .inr hy'
                · rw [List.map_append, hds2, hes, hkey]; simp
                · simpa using O'
            · have hO : OrdN wr W.heap.size b u7 (ws.drop 0) ws := ⟨v, ds, D, hds, O⟩
              have hz4 : ¬ ((i : Int) < zs.length) ∨ ((i : Int) < zs.length ∧ ¬ (i : Int) < 20) ∨ ((i : Int) < zs.length ∧ (i : Int) < 20 ∧ ¬ (0 : Int) < N) := by omega
              obtain ⟨va, vc, rfl⟩ := own_shape O
              clear hin D O hds Hdl ds v hk
              rcases hz4 with h1 | ⟨h1, h2⟩ | ⟨h1, h2, h3⟩
              all_goals
                go_wp2_with fail
                go_loopg [11] ws.length (fun k vi wr => Ord4 W b ws (.slice va ws.length vc) k vi wr)
                case atStart => exact ⟨0, rfl, by omega, hO, X⟩
                case round =>
                  clear hO X
                  obtain ⟨i4, rfl, hk, ⟨v, ds, D, hds, O⟩, X⟩ := hrel
                  have hsX := X.size
                  by_cases hin : (i4 : Int) < ws.length
                  · obtain ⟨x, hx⟩ : ∃ x, ws[i4]? = some x := ⟨ws[i4], by simp⟩
                    have hdr : ws.drop i4 = x :: ws.drop (i4 + 1) := by
                      rw [List.drop_eq_getElem_cons (by omega)]
                      congr 1
                      rw [List.getElem?_eq_getElem (by omega)] at hx
                      exact Option.some.inj hx
                    rw [hdr, List.map_cons] at hds
                    rcases ds with _ | ⟨d, r⟩
                    · simp at hds
                    have hrl : r.length < 100 := by have := congrArg List.length hds; simp at this; omega
                    obtain ⟨vg, rfl⟩ : ∃ g, va = some ⟨g, 0, none⟩ := by
                      rcases O.2 with ⟨_, h⟩ | ⟨g, cap, cur, h, _⟩
                      · omega
                      · cases h; exact ⟨g, rfl⟩
                    go_wp2_with fail
                    with_reducible refine (NetDeliver_ok (i := 0) D (by simp) (by simp; omega)).mono ?_
                    rintro e w2 ⟨d', v2, hd, rfl, D2, _, X2⟩
                    simp only [Int.zero_emod, Int.toNat_zero, List.getElem?_cons_zero, Option.some.injEq, List.eraseIdx_cons_zero] at hd D2
                    subst hd
                    simp only [List.map_cons, List.cons.injEq] at hds
                    obtain ⟨hk1, hk2⟩ := hds
                    have O2 := ownsRow_ex O X2 (fun y hy => by
                      simp only [List.mem_cons, Option.mem_toList, not_or]
                      exact ⟨fun e => D.bav (by simp [← e, hy]), fun e => (D.vav y e).1 (by simp [hy])⟩)
                    have hown := D.own.lt
                    have hdb := D.bas
                    have X02 : Ex [] W w2 := X.own X2 (fun y hy => by
                      simp only [List.mem_cons, Option.mem_toList] at hy
                      rcases hy with hy | hy
                      · exact .inr (by omega)
                      · exact .inr (hown y hy).1)
                    obtain ⟨frm, to, da, dl, dc, dd⟩ := d
                    obtain rfl : frm = x := congrArg Prod.fst hk1
                    clear hk1 hown D X O X2
                    go_wp2_with fail
                    have B3 := Blk.new w2 #[.int .i64 frm, .int .i64 to, .slice da dl dc] 58
                    have X3 : Ex [] w2 (w2.alloc (.cells #[.int .i64 frm, .int .i64 to, .slice da dl dc] 58)) := (Ex.refl _ _).alloc _
                    have D3 := D2.ex X3 (by simp)
                    have O3 := ownsRow_ex O2 X3 (by simp)
                    have X03 := X02.trans X3
                    clear D2 O2 X02 X3
                    generalize w2.alloc (.cells #[.int .i64 frm, .int .i64 to, .slice da dl dc] 58) = w3 at *
                    have c3 : w3.cell? ⟨vg, i4, none⟩ = some (.int .i64 frm) := by rw [O3.cellAt i4 (by omega)]; simp [hx]
                    refine wp_region_ord (fun w' => w'.cell? ⟨w2.heap.size, 0, none⟩ = some (.int .i64 frm) ∧ w'.cell? ⟨vg, i4, none⟩ = some (.int .i64 frm)) [] [(0, true), (1, true), (2, true), (3, true), (4, true), (5, true), (6, true), (7, true), (8, true), (9, true), (10, true)]
                      (by kernel_rfl) (by kernel_rfl) (by kernel_rfl) (by kernel_rfl) rfl (by intro c a d v w h; cases d <;> exact h) ⟨B3.cell 0, c3⟩ ?_
                    simp only [mkOrd, List.filterMap_cons, List.filterMap_nil, List.getElem?_toArray, List.getElem?_cons_zero, List.getElem?_cons_succ, Option.map_some]
                    iterate 11
                      refine ord_take (v := ?_) rfl ?_ ?_
                      rotate_left
                      · intro w' hS
                        obtain ⟨s0, s1⟩ := hS
                        go_simp
                        with_reducible rfl
                      go_frame
                    refine ord_nil ?_
                    have D4 := D3.ex ((Ex.refl [] w3).drew) (by simp)
                    have O4 := O3.drew
                    have X04 := X03.drew
                    clear D3 O3 X03 B3 c3
                    generalize w3.drew = w4 at *
                    go_wp2_with fail
                    go_roundg (gk - 1)
                    case measure => omega
                    case rel => exact ⟨i4 + 1, by go_num, by omega, ⟨v2, r, D4, hk2, O4⟩, X04⟩
                  · obtain rfl : ds = [] := by
                      have := congrArg List.length hds
                      simp at this
                      exact List.eq_nil_of_length_eq_zero (by omega)
                    go_wp2_with fail
                    with_reducible refine (NetLen_any D).mono ?_
                    rintro e w5 ⟨rfl, rfl⟩
                    go_wp2_with fail
                    with_reducible refine (NetDrop_none D).mono ?_
                    rintro e w5 ⟨rfl, X5⟩
                    have D5 := D.ex X5 (by simp)
                    go_wp2_with fail
                    with_reducible refine (NetDouble_none D5).mono ?_
                    rintro e w6 ⟨rfl, rfl⟩
                    go_wp2_with fail
                    go_ret
                    exact ⟨rfl, X.trans X5⟩
end Go.Proofs.Ytjgkanmhmkmdeaa
