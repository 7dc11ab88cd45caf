/- The end of the document's floors, walked. -/
import Derived.Test.YtecodneffflpoaaD6
namespace Go.Proofs.Ytecodneffflpoaa
open Go.RowKit Go.Ad Go.Maps
set_option linter.unusedVariables false
set_option linter.unusedSimpArgs false
def arrM (f : Nat → Int) (i : Nat) : List Value := (List.range 6).map fun k => iv (if k < i then f k else 0)
theorem arr_set (f : Nat → Int) {i : Nat} (h : i < 6) : (arrM f i).set (0 + i * 1) (iv (f i)) = arrM f (i + 1) := by
  rcases (show i = 0 ∨ i = 1 ∨ i = 2 ∨ i = 3 ∨ i = 4 ∨ i = 5 by omega) with rfl | rfl | rfl | rfl | rfl | rfl <;> rfl
theorem arr_get (f : Nat → Int) {i : Nat} (h : i < 6) : (arrM f 6)[0 + i * 1]? = some (iv (f i)) := by
  rcases (show i = 0 ∨ i = 1 ∨ i = 2 ∨ i = 3 ∨ i = 4 ∨ i = 5 by omega) with rfl | rfl | rfl | rfl | rfl | rfl <;> rfl
theorem fillRow_len : ∀ (n : Nat) (cells : List UInt8) (k : Nat), (fillRow cells k n).length = cells.length
  | 0, _, _ => rfl
  | n + 1, cells, k => by rw [fillRow, fillRow_len n, List.length_set]
theorem fillRect_len : ∀ (n : Nat) (cells : List UInt8) (k w : Nat), (fillRect cells k w n).length = cells.length
  | 0, _, _, _ => rfl
  | n + 1, cells, k, w => by rw [fillRect, fillRect_len n, fillRow_len]
theorem digRooms_len (seed floor : Int) : ∀ i, (digRooms seed floor i).length = 384
  | 0 => List.length_replicate
  | i + 1 => by rw [digRooms, digRoom, fillRect_len, digRooms_len seed floor i]
theorem digM_len (cells : List UInt8) (x y : Int) (d : Bool) : (digM cells x y d).1.length = cells.length := by
  unfold digM; split <;> simp
theorem corrM_len (tx ty : Int) (first : Bool) : ∀ (n : Nat) (cells : List UInt8) (d : Bool) (x y : Int), (corrM tx ty first n cells d x y).length = cells.length
  | 0, _, _, _, _ => rfl
  | n + 1, cells, d, x, y => by
    rw [corrM]
    split
    · simp only; rw [corrM_len tx ty first n, digM_len]
    · rfl
theorem corrsM_len (seed floor : Int) (cells : List UInt8) : ∀ i, (corrsM seed floor cells i).length = cells.length
  | 0 => rfl
  | i + 1 => by rw [corrsM, corrStart, corrM_len, digM_len, corrsM_len seed floor cells i]
abbrev aB (b : Nat) (f : Nat → Int) (i : Nat) : Bk := ⟨b, 84, 6, 1, arrM f i⟩
abbrev lB (b : Nat) (c : List Value) : Bk := ⟨b, 63, 3, 1, c⟩
abbrev lz : List Value := [.slice none 0 0, .slice none 0 0, .slice none 0 0]
theorem rooms0 (seed floor : Int) : (digRooms seed floor 0).map bv = List.replicate 384 (.int .u8 0) := by
  rw [digRooms, List.map_replicate]; rfl
abbrev z6 : List Value := [.int .i64 0, .int .i64 0, .int .i64 0, .int .i64 0, .int .i64 0, .int .i64 0]
theorem mk0 {W w : World} {M : List Nat} {seed floor : Int} {b34 b6 b7 b4 : Nat} (h : Has W M [⟨b7, 84, 6, 1, z6⟩, ⟨b6, 84, 6, 1, z6⟩, ⟨b34, 5, 1, 384, List.replicate 384 (.int .u8 0)⟩, lB b4 lz] w) : Has W M [cB b34 384 (digRooms seed floor 0), aB b6 (fun k => midX seed floor k) 0, aB b7 (fun k => midY seed floor k) 0, lB b4 lz] w := by
  have e : cB b34 384 (digRooms seed floor 0) = ⟨b34, 5, 1, 384, List.replicate 384 (.int .u8 0)⟩ := by rw [cB, rooms0]
  have e6 : aB b6 (fun k => midX seed floor k) 0 = ⟨b6, 84, 6, 1, z6⟩ := rfl
  have e7 : aB b7 (fun k => midY seed floor k) 0 = ⟨b7, 84, 6, 1, z6⟩ := rfl
  rw [e, e6, e7]
  generalize List.replicate 384 (Value.int .u8 0) = r at h ⊢
  generalize z6 = z at h ⊢
  exact h.pick (by repeat (first | exact Sels.nil | apply Sels.cons (by repeat (first | exact Sel.head | apply Sel.tail))))
theorem room_nat (seed floor i : Int) : ∃ k0 rw rh : Nat, (k0 : Int) = roomY seed floor i * 24 + roomX seed floor i ∧ (rw : Int) = roomW seed floor i ∧ (rh : Int) = roomH seed floor i := by
  have hr := room_rng seed floor i
  refine ⟨(roomY seed floor i * 24 + roomX seed floor i).toNat, (roomW seed floor i).toNat, (roomH seed floor i).toNat, ?_, ?_, ?_⟩ <;> omega
theorem dig_start {seed floor : Int} {i k0 rw rh : Nat} (h0 : (k0 : Int) = roomY seed floor i * 24 + roomX seed floor i) (h1 : (rw : Int) = roomW seed floor i) (h2 : (rh : Int) = roomH seed floor i) : fillRect (digRooms seed floor i) (k0 + 24 * 0) rw rh = digRooms seed floor (i + 1) := by
  rw [digRooms, digRoom, ← h0, ← h1, ← h2, Int.toNat_natCast, Int.toNat_natCast, Int.toNat_natCast, Nat.mul_zero, Nat.add_zero]
theorem corr_x {tx ty x y : Int} {first : Bool} {n : Nat} {cells : List UInt8} {d : Bool} (h0 : x ≠ tx ∨ y ≠ ty) (h : (first = true ∧ x ≠ tx) ∨ (first = false ∧ y = ty)) : corrM tx ty first (n + 1) cells d x y = corrM tx ty first n (digM cells (towardM x tx) y d).1 (digM cells (towardM x tx) y d).2 (towardM x tx) y := by
  rw [corrM, if_pos h0]; simp only [if_pos h]
theorem corr_y {tx ty x y : Int} {first : Bool} {n : Nat} {cells : List UInt8} {d : Bool} (h0 : x ≠ tx ∨ y ≠ ty) (h : ¬ ((first = true ∧ x ≠ tx) ∨ (first = false ∧ y = ty))) : corrM tx ty first (n + 1) cells d x y = corrM tx ty first n (digM cells x (towardM y ty) d).1 (digM cells x (towardM y ty) d).2 x (towardM y ty) := by
  rw [corrM, if_pos h0]; simp only [if_neg h]
theorem corr_end {tx ty x y : Int} {first : Bool} {n : Nat} {cells : List UInt8} {d : Bool} (h0 : ¬ (x ≠ tx ∨ y ≠ ty)) : corrM tx ty first n cells d x y = cells := by
  cases n with
  | zero => rfl
  | succ n => rw [corrM, if_neg h0]
theorem toward_rng {a b : Int} (h : a ≠ b) : (towardM a b - b).natAbs + 1 = (a - b).natAbs ∧ ((a ≤ towardM a b ∧ towardM a b ≤ b) ∨ (b ≤ towardM a b ∧ towardM a b ≤ a)) := by
  unfold towardM; split <;> omega
theorem corrs_succ (seed floor : Int) (cells : List UInt8) (t : Nat) : corrsM seed floor cells (t + 1) = corrM (midX seed floor ((t + 1 : Nat) : Int)) (midY seed floor ((t + 1 : Nat) : Int)) (decide (gd seed floor ((t + 1 : Nat) : Int) 4 2 = 0)) 64 (digM (corrsM seed floor cells t) (midX seed floor (t : Int)) (midY seed floor (t : Int)) false).1 (digM (corrsM seed floor cells t) (midX seed floor (t : Int)) (midY seed floor (t : Int)) false).2 (midX seed floor (t : Int)) (midY seed floor (t : Int)) := by
  rw [corrsM, corrStart, show (t : Int) + 1 - 1 = t by omega, show (t : Int) + 1 = ((t + 1 : Nat) : Int) by omega]
theorem tryD_len (cells : List UInt8) (bl : List Bool) (i : Nat) (st : List Int × List Nat) (d : Nat) : (tryD cells bl i st d).1.length = st.1.length := by
  unfold tryD; split <;> simp
theorem tries_len (cells : List UInt8) (bl : List Bool) (i : Nat) (st : List Int × List Nat) : ∀ d, (triesM cells bl i st d).1.length = st.1.length
  | 0 => rfl
  | d + 1 => by rw [triesM, tryD_len, tries_len cells bl i st d]
theorem bfs_len (cells : List UInt8) (bl : List Bool) : ∀ (n k : Nat) (st : List Int × List Nat), (bfs cells bl n k st).length = st.1.length
  | 0, _, _ => rfl
  | n + 1, k, st => by
    rw [bfs]
    cases st.2[k]? with
    | none => rfl
    | some i => simp only; rw [bfs_len cells bl n, tries_len]
theorem marks_mk (cells : List UInt8) : ∀ (ts : List Int) (f : List Int), Mk f → Mk (ts.foldl (markM cells) f)
  | [], f, h => h
  | t :: ts, f, h => marks_mk cells ts _ (h.mark cells t)
theorem field_len (cells : List UInt8) (bl : List Bool) (ts : List Int) : (fieldM cells bl ts).length = 384 := by
  rw [fieldM, bfs_len]
  have := negF_mk
  rw [negF_all] at this
  exact (marks_mk cells ts _ this).len
theorem bfs_low (cells : List UInt8) (bl : List Bool) : ∀ (n k : Nat) (f : List Int) (row : List Nat), Bfs f row → ∀ v ∈ bfs cells bl n k (f, row), -1 ≤ v ∧ v ≤ 384
  | 0, _, f, row, B, v, hv => by
    have := B.low v hv; have := B.sum; omega
  | n + 1, k, f, row, B, v, hv => by
    rw [bfs] at hv
    cases hi : row[k]? with
    | none =>
      simp only [hi] at hv
      have := B.low v hv; have := B.sum; omega
    | some i =>
      simp only [hi] at hv
      obtain ⟨h1, h2⟩ := B.rws i (List.mem_of_getElem? hi)
      exact bfs_low cells bl n (k + 1) _ _ (B.tries h1 h2 cells bl 4).1 v hv
theorem field_rng (cells : List UInt8) (bl : List Bool) (ts : List Int) {i : Nat} (h : i < 384) : -1 ≤ getI (fieldM cells bl ts) i ∧ getI (fieldM cells bl ts) i ≤ 384 := by
  have h0 := negF_mk
  rw [negF_all] at h0
  have hm := marks_mk cells ts _ h0
  exact bfs_low cells bl 385 0 _ _ hm.bfs _ (List.mem_of_getElem? (get_getI (show i < (fieldM cells bl ts).length by rw [field_len]; exact h)))
theorem tdiv_rng {a : Int} (h : -1 ≤ a ∧ a ≤ 384) : -1 ≤ a.tdiv 2 ∧ a.tdiv 2 ≤ 384 := by
  by_cases h0 : 0 ≤ a
  · rw [Int.tdiv_eq_ediv_of_nonneg h0]; omega
  · obtain rfl : a = -1 := by omega
    decide
theorem base_len (seed floor : Int) : (baseM seed floor).length = 384 := by
  rw [baseM, List.length_set, corrsM_len, digRooms_len]
theorem down_len (seed floor : Int) : (downM seed floor).length = 384 := by rw [downM, List.length_set, base_len]
theorem far_lt (f : List Int) {up : Nat} (h : up < 384) : ∀ i, i ≤ 384 → farM f up i < 384
  | 0, _ => h
  | i + 1, hi => by
    rw [farM]
    split
    · omega
    · exact far_lt f h i (by omega)
theorem cells_eq (seed floor : Int) : shopC (downM seed floor) (shopAt seed floor) = cellsM seed floor := rfl
theorem shopC_len (cells : List UInt8) (o : Option Nat) : (shopC cells o).length = cells.length := by cases o <;> simp [shopC]
theorem shop_lt {cells : List UInt8} {f : List Int} {v : Int} : ∀ {n k : Nat}, shopM cells f v n = some k → k < n
  | 0, _, h => by cases h
  | n + 1, k, h => by
    rw [shopM] at h
    cases hs : shopM cells f v n with
    | some q => rw [hs] at h; simp only [Option.some.injEq] at h; have := shop_lt hs; omega
    | none =>
      rw [hs] at h
      simp only at h
      split at h
      · cases h; omega
      · cases h
theorem shop_stays {cells : List UInt8} {f : List Int} {v : Int} {n k : Nat} (h : shopM cells f v n = some k) : ∀ m, shopM cells f v (n + m) = some k
  | 0 => h
  | m + 1 => by rw [← Nat.add_assoc, shopM, shop_stays h m]
theorem pick_nat {cells : List UInt8} {f : List Int} {far : Int} {used : List Bool} {seed floor a : Int} (h : ¬ pickM cells f far used seed floor a < 0) : ∃ z : Nat, pickM cells f far used seed floor a = (z : Int) ∧ z < 384 ∧ byteAt cells z = 1 ∧ getI f z ≥ far ∧ used.getD z false = false := by
  have key : ∀ l : List Nat, l = freeM cells f far used 384 → 0 < l.length → ∀ g : Int, 0 ≤ g ∧ g < (l.length : Int) → l.getD g.toNat 0 < 384 ∧ byteAt cells (l.getD g.toNat 0) = 1 ∧ getI f (l.getD g.toNat 0) ≥ far ∧ used.getD (l.getD g.toNat 0) false = false := by
    intro l hl h0 g hg
    apply free_mem
    rw [← hl, List.getD_eq_getElem?_getD, List.getElem?_eq_getElem (show g.toNat < l.length by omega)]
    exact List.getElem_mem _
  unfold pickM at h ⊢
  obtain ⟨l, hl⟩ : ∃ q_, freeM cells f far used 384 = q_ := ⟨_, rfl⟩
  rw [hl] at h ⊢
  cases l with
  | nil => exact absurd (show (-1 : Int) < 0 by decide) h
  | cons x r => exact ⟨_, rfl, key _ hl.symm (Nat.succ_pos _) _ (gd_rng (Int.natCast_pos.2 (Nat.succ_pos _)) seed floor a 0)⟩
theorem up_eq (seed floor : Int) : ((upM seed floor : Nat) : Int) = midY seed floor 0 * 24 + midX seed floor 0 ∧ upM seed floor < 384 := by
  have := mid_rng seed floor 0
  unfold upM
  omega
abbrev uB (b : Nat) (u : List Bool) : Bk := ⟨b, 4, 1, 384, u.map Value.bool⟩
theorem bool_set (u : List Bool) (k : Nat) (x : Bool) : (u.map Value.bool).set k (.bool x) = (u.set k x).map Value.bool := by rw [List.map_set]
/-- A floor, as it is handed back. -/
def LvlP (m : Lvl) (v : Value) (L : List Bk) : Prop := ∃ cb ev E iv' I, v = .agg #[.slice (some ⟨cb, 0, none⟩) 384 384, ev, iv'] ∧ Row 48 11 ev m.ents.length (ecells m.ents) E ∧ Row 57 4 iv' m.items.length (icells m.items) I ∧ L = cB cb 384 m.cells :: (I ++ E)
section
variable {W : World}
set_option maxRecDepth 100000 in
set_option maxHeartbeats 6400000 in
theorem make_t2 {seed floor : Int} {m : Lvl} {cs : List UInt8} {f : List Int} {o : Option Nat} {b4 b26 b34 fb : Nat} {ev : Value} {E : List Bk} (hfl : 1 ≤ floor ∧ floor ≤ 3) (hcl0 : cs.length = 384) (hdl : f.length = 384) (hmcs : m.cells = cs) (hE : Row 48 11 ev m.ents.length (ecells m.ents) E) (hitems : m.items = waresM seed floor cs f 4 0 (List.replicate 384 false) [] ++ (if o.isSome then shelfM seed floor 3 else [])) (j : Nat → Value) :
    wpC Try.prog W [] (tailOf Try.f30 56) (PostOf Try.prog Try.f30 W [] (LvlP m)) [(0, iv seed), (1, iv floor), (4, .pointer (some ⟨b4, 0, none⟩)), (5, .slice (some ⟨b34, 0, none⟩) 384 384), (21, .slice (some ⟨fb, 0, none⟩) 384 384), (24, .bool o.isSome), (26, .pointer (some ⟨b26, 0, none⟩))] ((List.range 326).map j) (lB b26 [.slice (some ⟨b34, 0, none⟩) 384 384, ev, .slice none 0 0] :: cB b34 384 cs :: fB fb f :: lB b4 lz :: E) := by
  have hrep : List.replicate 384 (Value.bool false) = (List.replicate 384 false).map Value.bool := by rw [List.map_replicate]
  have hu0 : (List.replicate 384 false).length = 384 := List.length_replicate
  obtain ⟨u0, hgen4⟩ : ∃ q_, List.replicate 384 false = q_ := ⟨_, rfl⟩
  rw [hgen4] at hitems hrep hu0
  obtain ⟨wa, hwa0⟩ : ∃ q_, waresM seed floor cs f 4 0 u0 [] = q_ := ⟨_, rfl⟩
  rw [hwa0] at hitems
  refine c_seq ?_
  -- ref.go:97 R56
  refine c_reg ?_
  refine s_n (N_make1 (n := 384) rfl rfl Try.underlying88 inf4 rfl rfl (by omega) (by omega)) rfl rfl (fun b271 _ => ?_)
  refine s_y (Y_as) rfl rfl ?_
  refine s_nil ?_
  refine q_then ?_
  refine c_seq ?_
  refine c_seq ?_
  -- ref.go:98 R57
  refine QL.pick2 (xs := [lB b26 [.slice (some ⟨b34, 0, none⟩) 384 384, ev, .slice none 0 0], ⟨b271, 4, 1, 384, List.replicate 384 (.bool false)⟩, cB b34 384 cs, fB fb f, lB b4 lz]) (R' := E) (by repeat (first | exact Sels.nil | apply Sels.cons (by repeat (first | exact Sel.head | apply Sel.tail)))) sl_ ?_
  rw [hrep]
  simp only [List.cons_append, List.nil_append]
  refine c_reg ?_
  refine s_y (Y_asC) rfl rfl ?_
  refine s_nil ?_
  refine q_then ?_
  refine c_block ?_
  refine c_loop [31, 32, 272, 273, 274, 275, 276, 277, 278, 279, 280, 281, 282, 283, 284, 285, 286, 287, 288, 289, 290, 291, 292, 293, 294, 295, 296, 297, 298, 299, 300, 301, 302, 303, 304] (fun n (y : Nat × List Bool × List Itm × Value × List Bk) => y.1 + n = 4 ∧ y.2.1.length = 384 ∧ Row 57 4 y.2.2.2.1 y.2.2.1.length (icells y.2.2.1) y.2.2.2.2 ∧ y.2.2.1.length ≤ y.1 ∧ waresM seed floor cs f n y.1 y.2.1 y.2.2.1 = wa) (fun y => [(31, iv y.1)]) (fun y => lB b26 [.slice (some ⟨b34, 0, none⟩) 384 384, ev, y.2.2.2.1] :: uB b271 y.2.1 :: cB b34 384 cs :: fB fb f :: lB b4 lz :: (y.2.2.2.2 ++ E)) (4) ((0, u0, [], .slice none 0 0, [])) (⟨rfl, hu0, .nil, Nat.le_refl _, hwa0⟩) (by repeat (first | exact trivial | refine ⟨rfl, ?_⟩)) (fun _ h => h.sub sl_) (fun _ => rfl) ?_
  rintro n ⟨k, used, es, v, B⟩ j ⟨hk, hul, hB, hel, hfo⟩ K hK
  simp only at hk hul hB hel hfo ⊢
  refine c_seq ?_
  refine c_seq ?_
  -- ref.go:98 R58
  refine c_reg ?_
  refine s_y (Y_mv) rfl rfl ?_
  refine s_y (Y_lss rfl rfl) rfl rfl ?_
  refine s_nil ?_
  refine q_then ?_
  first | refine c_cond' rfl (fun hc58 => ?_) (fun hc58 => ?_) | refine c_cond rfl (fun hc58 => ?_) (fun hc58 => ?_)
  · skip
    try simp only [nrm_] at hc58
    refine c_skip ?_
    refine q_then ?_
    refine c_seq ?_
    refine c_block ?_
    refine c_seq ?_
    -- ref.go:99 R60
    refine c_reg ?_
    refine s_y (Y_mv) rfl rfl ?_
    refine s_y (Y_mv) rfl rfl ?_
    refine s_y (Y_mv) rfl rfl ?_
    refine s_y (Y_mv) rfl rfl ?_
    refine s_y (Y_mv) rfl rfl ?_
    refine s_y (Y_mv) rfl rfl ?_
    refine s_y ((by first | exact Y_add rfl rfl (by omega) | exact Y_addw rfl rfl)) rfl rfl ?_
    refine s_c (En_call (fun _ => rfl) Try.func53 rfl (by kernel_rfl) rfl) (fun w hH => rpick_d ((hH.at' (x := cB b34 384 cs) mm_).sl (by rw [List.length_map]; omega) (Nat.le_refl _)) ((hH.at' (x := fB fb f) mm_).sl (by rw [List.length_map]; omega) (Nat.le_refl _)) ((hH.at' (x := uB b271 used) mm_).sl (by rw [List.length_map]; omega) (Nat.le_refl _))) rfl rfl ?_
    rintro _ _ ⟨rfl, rfl⟩
    refine s_y (Y_as) rfl rfl ?_
    refine s_nil ?_
    refine q_then ?_
    refine c_seq ?_
    refine c_seq ?_
    -- ref.go:100 R61
    refine c_reg ?_
    refine s_y (Y_mv) rfl rfl ?_
    refine s_y (Y_lss rfl rfl) rfl rfl ?_
    refine s_nil ?_
    refine q_then ?_
    first | refine c_cond' rfl (fun hc61 => ?_) (fun hc61 => ?_) | refine c_cond rfl (fun hc61 => ?_) (fun hc61 => ?_)
    · skip
      try simp only [nrm_] at hc61
      refine c_exit ?_
      repeat with_reducible refine q_te ?_
      refine q_exit ?_
      refine q_then ?_
      -- ref.go:98 R59
      refine c_reg ?_
      refine s_y (Y_mv) rfl rfl ?_
      refine s_y ((by first | exact Y_add rfl rfl (by omega) | exact Y_addw rfl rfl)) rfl rfl ?_
      refine s_y (Y_as) rfl rfl ?_
      refine s_nil ?_
      obtain ⟨q, rfl⟩ : ∃ q, n = q + 1 := ⟨n - 1, by omega⟩
      rw [waresM] at hfo
      simp only [if_pos hc61] at hfo
      refine hK q (k + 1, used, es, v, B) _ _ (by omega) ⟨by simp only; omega, hul, hB, by simp only; omega, hfo⟩ ⟨rfl, trivial⟩ rfl (fun w h => h)
    · skip
      try simp only [nrm_] at hc61
      refine c_skip ?_
      refine q_then ?_
      refine c_seq ?_
      -- ref.go:103 R62
      obtain ⟨z, hz, hzl, hzc, hzf, hzu⟩ := pick_nat hc61
      obtain ⟨q, rfl⟩ : ∃ q, n = q + 1 := ⟨n - 1, by omega⟩
      rw [waresM] at hfo
      simp only [if_neg hc61] at hfo
      rw [hz, Int.toNat_natCast] at hfo
      rw [hz]
      have hg := gd_rng (n := 4) (by omega) seed floor (40 + k) 1
      obtain ⟨zx, hzx⟩ : ∃ x : Int, (z : Int) % 24 = x := ⟨_, rfl⟩
      obtain ⟨zy, hzy⟩ : ∃ x : Int, (z : Int) / 24 = x := ⟨_, rfl⟩
      rw [hzx, hzy] at hfo
      obtain ⟨zk, hzk⟩ : ∃ x : Int, 1 + gd seed floor (40 + k) 1 4 = x := ⟨_, rfl⟩
      rw [hzk] at hfo
      refine c_reg ?_
      refine s_y (Y_mv) rfl rfl ?_
      refine s_y (Y_mv) rfl rfl ?_
      refine s_y (Y_ia1 (n := z) rfl rfl Try.underlying88 sz4 rfl (by omega)) rfl rfl ?_
      refine s_s (S_stC (cs' := (used.set z true).map Value.bool) rfl sz4 (by rfl) (by repeat (first | exact Upd.head | apply Upd.tail)) (by rw [Nat.zero_add]; exact bool_set used z true) (by rw [List.length_map]; omega)) rfl ?_
      refine s_nil ?_
      refine q_then ?_
      -- ref.go:104 R63
      refine c_rordS (L0 := [lB b26 [.slice (some ⟨b34, 0, none⟩) 384 384, ev, v]]) sl_ [16] [(0, true), (1, true), (2, true), (3, true), (4, true), (5, true), (8, true), (9, true), (10, true), (11, true), (6, false), (7, true), (12, true), (13, false), (14, false), (15, true), (16, false)] (by kernel_rfl) (by kernel_rfl) (by kernel_rfl) (by kernel_rfl) rfl (by intro c a d v w h; cases d <;> exact h) rfl ?_
      simp only [mkOrd, List.filterMap_cons, List.filterMap_nil, List.getElem?_toArray, List.getElem?_cons_zero, List.getElem?_cons_succ, Option.map_some]
      refine o_y (Y_fa 2 rfl Try.underlying63 rfl sz23 rfl) rfl rfl ?_
      refine o_y ((by first | exact Y_load rfl one23 mm_ (by rfl) | exact Y_loadR rfl one23 hr rfl rfl | exact Y_loadR rfl one23 hr2 rfl rfl | exact Y_load rfl one23 mm_ (eget he rfl) | exact Y_load rfl one23 mm_ (iget hx rfl) | exact Y_load rfl one23 mm_ (by assumption) | exact Y_loadR rfl one23 (by assumption) rfl (by assumption))) rfl rfl ?_
      refine o_y (Y_mv) rfl rfl ?_
      refine o_y (Y_mv) rfl rfl ?_
      refine o_y (Y_mv) rfl rfl ?_
      refine o_y ((by first | exact Y_add rfl rfl (by omega) | exact Y_addw rfl rfl)) rfl rfl ?_
      refine o_y (Y_mv) rfl rfl ?_
      refine o_y ((Y_rem rfl rfl (by omega)).num hzx) rfl rfl ?_
      refine o_y (Y_mv) rfl rfl ?_
      refine o_y ((Y_quo rfl rfl (by omega)).num hzy) rfl rfl ?_
      refine o_c (En_call (fun _ => rfl) Try.func49 rfl (by kernel_rfl) rfl) (fun w hH => rd_d (by omega)) (fun _ _ h => by obtain ⟨rfl, rfl⟩ := h; exact (by first | exact keep_no rfl | (refine keep_sub ?_; (repeat (first | exact List.Sublist.refl _ | exact List.nil_sublist _ | apply List.Sublist.cons_cons | apply List.Sublist.cons)); done) | (refine keep_sub (List.Sublist.trans ?_ (List.sublist_append_right _ _)); (repeat (first | exact List.Sublist.refl _ | exact List.nil_sublist _ | apply List.Sublist.cons_cons | apply List.Sublist.cons)); done))) rfl rfl ?_
      rintro _ _ ⟨rfl, rfl⟩
      refine o_y ((Y_add rfl rfl (by omega)).num hzk) rfl rfl ?_
      refine o_y (Y_build (cs := [_, (Value.int Go.IntKind.i64 1), _, _]) (by repeat (first | exact Gp.nil | apply Gp.const | apply Gp.tmp gt_)) (bld57 _ _ (by first | rfl | (simp; rfl)))) rfl rfl ?_
      refine o_n (N_bsA gt_ Try.underlying23 inf57 rfl rfl (by omega) (by omega)) (fun _ => (by first | exact keep_no rfl | (refine keep_sub ?_; (repeat (first | exact List.Sublist.refl _ | exact List.nil_sublist _ | apply List.Sublist.cons_cons | apply List.Sublist.cons)); done) | (refine keep_sub (List.Sublist.trans ?_ (List.sublist_append_right _ _)); (repeat (first | exact List.Sublist.refl _ | exact List.nil_sublist _ | apply List.Sublist.cons_cons | apply List.Sublist.cons)); done))) rfl rfl (fun b302 _ => ?_)
      refine o_n (N_appR (bytes := 32) hB (perm_mid B [_, _, _, _, _, _] E) rfl rfl Try.underlying23 inf57 rfl (by omega) (src (news := (Itm.mk zk 1 zx zy).cells) mm_) (by rfl) (one_i1 _) (by omega) (by omega) (by omega)) (fun _ => (by first | exact keep_no rfl | (refine keep_sub ?_; (repeat (first | exact List.Sublist.refl _ | exact List.nil_sublist _ | apply List.Sublist.cons_cons | apply List.Sublist.cons)); done) | (refine keep_sub (List.Sublist.trans ?_ (List.sublist_append_right _ _)); (repeat (first | exact List.Sublist.refl _ | exact List.nil_sublist _ | apply List.Sublist.cons_cons | apply List.Sublist.cons)); done))) rfl rfl (fun ⟨g303, cp303⟩ hc303 => ?_)
      refine o_y (Y_fa 2 rfl Try.underlying63 rfl sz23 rfl) rfl rfl ?_
      refine o_s (S_st rfl gt_ sz23 (by rfl) (by repeat (first | exact Upd.head | apply Upd.tail)) (by first | (simp only [Nat.zero_add, Nat.reduceAdd, List.set_cons_succ, List.set_cons_zero]; rfl) | rfl) (by first | (simp; done) | omega)) (by first | exact keep_no rfl | (refine keep_sub ?_; (repeat (first | exact List.Sublist.refl _ | exact List.nil_sublist _ | apply List.Sublist.cons_cons | apply List.Sublist.cons)); done) | (refine keep_sub (List.Sublist.trans ?_ (List.sublist_append_right _ _)); (repeat (first | exact List.Sublist.refl _ | exact List.nil_sublist _ | apply List.Sublist.cons_cons | apply List.Sublist.cons)); done)) rfl ?_
      refine o_nil ?_
      refine q_bn ?_
      refine q_then ?_
      -- ref.go:98 R59
      refine c_reg ?_
      refine s_y (Y_mv) rfl rfl ?_
      refine s_y ((by first | exact Y_add rfl rfl (by omega) | exact Y_addw rfl rfl)) rfl rfl ?_
      refine s_y (Y_as) rfl rfl ?_
      refine s_nil ?_
      rw [icells_snoc]
      obtain ⟨e, hgen6⟩ : ∃ q_, Itm.mk zk 1 zx zy = q_ := ⟨_, rfl⟩
      rw [hgen6] at hfo ⊢
      refine hK q (k + 1, used.set z true, es ++ [e], .slice (some ⟨g303, 0, none⟩) (es.length + 1) cp303, [⟨g303, 57, 4, cp303, icells (es ++ [e])⟩]) _ _ (by omega) ⟨by simp only; omega, by simp only [List.length_set]; exact hul, by simp only; rw [List.length_append, List.length_singleton]; exact .some hc303 (by rw [icells_len, List.length_append, List.length_singleton]), by simp only; rw [List.length_append, List.length_singleton]; omega, hfo⟩ ⟨rfl, trivial⟩ rfl (fun w h => ?_)
      exact h.pick2 (xs := [lB b26 [.slice (some ⟨b34, 0, none⟩) 384 384, ev, .slice (some ⟨g303, 0, none⟩) (es.length + 1) cp303], uB b271 (used.set z true), cB b34 384 cs, fB fb f, lB b4 lz, ⟨g303, 57, 4, cp303, icells (es ++ [e])⟩]) (R' := E) (by repeat (first | exact Sels.nil | apply Sels.cons (by repeat (first | exact Sel.head | apply Sel.tail)))) sl_
  · skip
    try simp only [nrm_] at hc58
    refine c_exit ?_
    repeat with_reducible refine q_te ?_
    refine q_exit ?_
    refine q_then ?_
    refine c_seq ?_
    refine c_seq ?_
    -- ref.go:106 R64
    obtain rfl : n = 0 := by omega
    obtain rfl : es = wa := by rw [← hfo, waresM]
    have hwl : es.length ≤ 4 := by omega
    refine c_reg ?_
    refine s_y (Y_asC) rfl rfl ?_
    refine s_nil ?_
    refine q_then ?_
    refine c_block ?_
    refine c_loop [33, 305, 306, 307, 308, 309, 310, 311, 312, 313, 314, 315, 316, 317, 318, 319, 320, 321, 322, 323, 324] (fun n (y : Nat × List Itm × Value × List Bk) => y.1 + n = 3 ∧ Row 57 4 y.2.2.1 y.2.1.length (icells y.2.1) y.2.2.2 ∧ y.2.1.length ≤ 4 + y.1 ∧ y.2.1 = es ++ shelfM seed floor y.1 ∧ (o.isSome = false → y.1 = 0)) (fun y => [(33, iv y.1)]) (fun y => lB b26 [.slice (some ⟨b34, 0, none⟩) 384 384, ev, y.2.2.1] :: cB b34 384 cs :: fB fb f :: lB b4 lz :: (y.2.2.2 ++ E)) (3) ((0, es, v, B)) (⟨rfl, hB, by simp only; omega, by simp only [shelfM, List.append_nil], fun _ => rfl⟩) (by repeat (first | exact trivial | refine ⟨rfl, ?_⟩)) (fun _ h => h.sub sl_) (fun _ => rfl) ?_
    rintro n ⟨k, es2, v2, B2⟩ j2 ⟨hk2, hB2, hel2, hes2, hsh2⟩ K hK
    simp only at hk2 hB2 hel2 hes2 hsh2 ⊢
    refine c_seq ?_
    refine c_seq ?_
    -- ref.go:106 R65
    refine c_reg ?_
    refine s_y (Y_mv) rfl rfl ?_
    refine s_y (Y_lss rfl rfl) rfl rfl ?_
    refine s_y (Y_mv) rfl rfl ?_
    apply s_and 2 [307, 308, 309] 309 (g := 307) rfl rfl
    · intro ht3 hm
      try simp only [nrm_] at ht3
      first | refine s_y (Y_mv) rfl rfl ?_ | refine s_pass rfl rfl ?_
      refine s_y (Y_pk rfl (Gx.tmp gt_) Gx.const) rfl rfl ?_
      first | exact hm _ ⟨rfl, trivial⟩ rfl | exact QL.sub sl_ (hm _ ⟨rfl, trivial⟩ rfl)
    · intro ht3 hm
      iterate 1 refine s_pass rfl rfl ?_
      refine s_y (Y_pk rfl (Gx.tmp gt_) Gx.const) rfl rfl ?_
      exact hm _ ⟨rfl, trivial⟩ rfl
    intro j309
    refine s_nil ?_
    refine q_then ?_
    first | refine c_cond' rfl (fun hc65 => ?_) (fun hc65 => ?_) | refine c_cond rfl (fun hc65 => ?_) (fun hc65 => ?_)
    · skip
      try simp only [nrm_] at hc65
      refine c_skip ?_
      refine q_then ?_
      refine c_seq ?_
      refine c_block ?_
      -- ref.go:107 R67
      have hg := gd_rng (n := 3) (by omega) seed floor (50 + k) 1
      obtain ⟨zk, hzk⟩ : ∃ x : Int, 1 + gd seed floor (50 + k) 1 3 = x := ⟨_, rfl⟩
      refine c_rordS (L0 := [lB b26 [.slice (some ⟨b34, 0, none⟩) 384 384, ev, v2]]) sl_ [13] [(0, true), (1, true), (2, true), (3, true), (4, true), (5, true), (8, true), (6, false), (7, true), (9, true), (10, false), (11, false), (12, true), (13, false)] (by kernel_rfl) (by kernel_rfl) (by kernel_rfl) (by kernel_rfl) rfl (by intro c a d v w h; cases d <;> exact h) rfl ?_
      simp only [mkOrd, List.filterMap_cons, List.filterMap_nil, List.getElem?_toArray, List.getElem?_cons_zero, List.getElem?_cons_succ, Option.map_some]
      refine o_y (Y_fa 2 rfl Try.underlying63 rfl sz23 rfl) rfl rfl ?_
      refine o_y ((by first | exact Y_load rfl one23 mm_ (by rfl) | exact Y_loadR rfl one23 hr rfl rfl | exact Y_loadR rfl one23 hr2 rfl rfl | exact Y_load rfl one23 mm_ (eget he rfl) | exact Y_load rfl one23 mm_ (iget hx rfl) | exact Y_load rfl one23 mm_ (by assumption) | exact Y_loadR rfl one23 (by assumption) rfl (by assumption))) rfl rfl ?_
      refine o_y (Y_mv) rfl rfl ?_
      refine o_y (Y_mv) rfl rfl ?_
      refine o_y (Y_mv) rfl rfl ?_
      refine o_y ((by first | exact Y_add rfl rfl (by omega) | exact Y_addw rfl rfl)) rfl rfl ?_
      refine o_y (Y_mv) rfl rfl ?_
      refine o_c (En_call (fun _ => rfl) Try.func49 rfl (by kernel_rfl) rfl) (fun w hH => rd_d (by omega)) (fun _ _ h => by obtain ⟨rfl, rfl⟩ := h; exact (by first | exact keep_no rfl | (refine keep_sub ?_; (repeat (first | exact List.Sublist.refl _ | exact List.nil_sublist _ | apply List.Sublist.cons_cons | apply List.Sublist.cons)); done) | (refine keep_sub (List.Sublist.trans ?_ (List.sublist_append_right _ _)); (repeat (first | exact List.Sublist.refl _ | exact List.nil_sublist _ | apply List.Sublist.cons_cons | apply List.Sublist.cons)); done))) rfl rfl ?_
      rintro _ _ ⟨rfl, rfl⟩
      refine o_y ((Y_add rfl rfl (by omega)).num hzk) rfl rfl ?_
      refine o_y (Y_build (cs := [_, (Value.int Go.IntKind.i64 4), _, .int .i64 0]) (by repeat (first | exact Gp.nil | apply Gp.const | apply Gp.tmp gt_)) (bld57 _ _ (by first | rfl | (simp; rfl)))) rfl rfl ?_
      refine o_n (N_bsA gt_ Try.underlying23 inf57 rfl rfl (by omega) (by omega)) (fun _ => (by first | exact keep_no rfl | (refine keep_sub ?_; (repeat (first | exact List.Sublist.refl _ | exact List.nil_sublist _ | apply List.Sublist.cons_cons | apply List.Sublist.cons)); done) | (refine keep_sub (List.Sublist.trans ?_ (List.sublist_append_right _ _)); (repeat (first | exact List.Sublist.refl _ | exact List.nil_sublist _ | apply List.Sublist.cons_cons | apply List.Sublist.cons)); done))) rfl rfl (fun b322 _ => ?_)
      refine o_n (N_appR (bytes := 32) hB2 (perm_mid B2 [_, _, _, _, _] E) rfl rfl Try.underlying23 inf57 rfl (by omega) (src (news := (Itm.mk zk 4 (k : Int) 0).cells) mm_) (by rfl) (one_i1 _) (by omega) (by omega) (by omega)) (fun _ => (by first | exact keep_no rfl | (refine keep_sub ?_; (repeat (first | exact List.Sublist.refl _ | exact List.nil_sublist _ | apply List.Sublist.cons_cons | apply List.Sublist.cons)); done) | (refine keep_sub (List.Sublist.trans ?_ (List.sublist_append_right _ _)); (repeat (first | exact List.Sublist.refl _ | exact List.nil_sublist _ | apply List.Sublist.cons_cons | apply List.Sublist.cons)); done))) rfl rfl (fun ⟨g323, cp323⟩ hc323 => ?_)
      refine o_y (Y_fa 2 rfl Try.underlying63 rfl sz23 rfl) rfl rfl ?_
      refine o_s (S_st rfl gt_ sz23 (by rfl) (by repeat (first | exact Upd.head | apply Upd.tail)) (by first | (simp only [Nat.zero_add, Nat.reduceAdd, List.set_cons_succ, List.set_cons_zero]; rfl) | rfl) (by first | (simp; done) | omega)) (by first | exact keep_no rfl | (refine keep_sub ?_; (repeat (first | exact List.Sublist.refl _ | exact List.nil_sublist _ | apply List.Sublist.cons_cons | apply List.Sublist.cons)); done) | (refine keep_sub (List.Sublist.trans ?_ (List.sublist_append_right _ _)); (repeat (first | exact List.Sublist.refl _ | exact List.nil_sublist _ | apply List.Sublist.cons_cons | apply List.Sublist.cons)); done)) rfl ?_
      refine o_nil ?_
      refine q_bn ?_
      refine q_then ?_
      -- ref.go:106 R66
      refine c_reg ?_
      refine s_y (Y_mv) rfl rfl ?_
      refine s_y ((by first | exact Y_add rfl rfl (by omega) | exact Y_addw rfl rfl)) rfl rfl ?_
      refine s_y (Y_as) rfl rfl ?_
      refine s_nil ?_
      have hsn : es2 ++ [Itm.mk zk 4 (k : Int) 0] = es ++ shelfM seed floor (k + 1) := by rw [hes2, shelfM, List.append_assoc, hzk]
      rw [icells_snoc]
      obtain ⟨e, hgen7⟩ : ∃ q_, Itm.mk zk 4 (k : Int) 0 = q_ := ⟨_, rfl⟩
      rw [hgen7] at hsn ⊢
      refine hK (n - 1) (k + 1, es2 ++ [e], .slice (some ⟨g323, 0, none⟩) (es2.length + 1) cp323, [⟨g323, 57, 4, cp323, icells (es2 ++ [e])⟩]) _ _ (by omega) ⟨by simp only; omega, by simp only; rw [List.length_append, List.length_singleton]; exact .some hc323 (by rw [icells_len, List.length_append, List.length_singleton]), by simp only; rw [List.length_append, List.length_singleton]; omega, hsn, fun h => by rw [hc65.2] at h; cases h⟩ ⟨rfl, trivial⟩ rfl (fun w h => ?_)
      exact h.pick2 (xs := [lB b26 [.slice (some ⟨b34, 0, none⟩) 384 384, ev, .slice (some ⟨g323, 0, none⟩) (es2.length + 1) cp323], cB b34 384 cs, fB fb f, lB b4 lz, ⟨g323, 57, 4, cp323, icells (es2 ++ [e])⟩]) (R' := E) (by repeat (first | exact Sels.nil | apply Sels.cons (by repeat (first | exact Sel.head | apply Sel.tail)))) sl_
    · skip
      try simp only [nrm_] at hc65
      refine c_exit ?_
      repeat with_reducible refine q_te ?_
      refine q_exit ?_
      refine q_then ?_
      refine c_seq ?_
      -- ref.go:109 R68
      have hfin : m.items = es2 := by
        rw [hitems, hes2]
        cases ho2 : o.isSome with
        | true =>
          rw [ho2] at hc65
          obtain rfl : k = 3 := by
            rcases hc65 with h | h
            · omega
            · cases h
          rfl
        | false =>
          obtain rfl := hsh2 ho2
          rfl
      refine c_reg ?_
      refine s_y ((by first | exact Y_loadAll rfl many63 mm_ (by rfl) | exact Y_loadN rfl many63 mm_ ‹_› ‹_› | exact Y_loadNR rfl many63 hr rfl | exact Y_loadNR rfl many63 hr2 rfl | exact Y_loadNR rfl many63 ‹_› rfl)) rfl rfl ?_
      refine s_s (S_storeA (vs := [.slice (some ⟨b34, 0, none⟩) 384 384, ev, v2]) rfl rfl sz63 (by rfl) (by simp only [List.all_cons, List.all_nil, hE.one, hB2.one]; rfl) (by repeat (first | exact Upd.head | apply Upd.tail)) (by rfl)) rfl ?_
      refine s_nil ?_
      refine q_then ?_
      refine c_ret ?_
      refine q_ret1c rfl rfl many63 mm_ (by rfl) (L' := cB b34 384 cs :: (B2 ++ E)) sl_ (⟨b34, ev, E, v2, B2, rfl, hE, by rw [hfin]; exact hB2, by rw [hmcs]⟩)
set_option maxRecDepth 100000 in
set_option maxHeartbeats 6400000 in
theorem make_t1 {seed floor : Int} {m : Lvl} {cs : List UInt8} {f : List Int} {o : Option Nat} {b4 b34 fb : Nat} (hfl : 1 ≤ floor ∧ floor ≤ 3) (hcl0 : cs.length = 384) (hdl : f.length = 384) (hmcs : m.cells = cs) (hents : m.ents = foesM seed floor cs f (floor + 2).toNat 0 (List.replicate 384 false) []) (hitems : m.items = waresM seed floor cs f 4 0 (List.replicate 384 false) [] ++ (if o.isSome then shelfM seed floor 3 else [])) (j : Nat → Value) :
    wpC Try.prog W [] (tailOf Try.f30 45) (PostOf Try.prog Try.f30 W [] (LvlP m)) [(0, iv seed), (1, iv floor), (4, .pointer (some ⟨b4, 0, none⟩)), (5, .slice (some ⟨b34, 0, none⟩) 384 384), (21, .slice (some ⟨fb, 0, none⟩) 384 384), (24, .bool o.isSome)] ((List.range 326).map j) [cB b34 384 cs, fB fb f, lB b4 lz] := by
  have hrep : List.replicate 384 (Value.bool false) = (List.replicate 384 false).map Value.bool := by rw [List.map_replicate]
  have hu0 : (List.replicate 384 false).length = 384 := List.length_replicate
  obtain ⟨u0, hu⟩ : ∃ q_, List.replicate 384 false = q_ := ⟨_, rfl⟩
  rw [hu] at hents hrep hu0
  obtain ⟨fo, hfo0⟩ : ∃ q_, foesM seed floor cs f (floor + 2).toNat 0 u0 [] = q_ := ⟨_, rfl⟩
  rw [hfo0] at hents
  refine c_seq ?_
  -- ref.go:85 R45
  refine c_reg ?_
  refine s_y (Y_mv) rfl rfl ?_
  refine s_y (Y_build (cs := [_, .slice none 0 0, .slice none 0 0]) (by repeat (first | exact Gp.nil | apply Gp.const | apply Gp.tmp gt_)) (bld63 _ _ (by first | rfl | (simp; rfl)))) rfl rfl ?_
  refine s_n (N_alloc (z := .agg #[.slice none 0 0, .slice none 0 0, .slice none 0 0]) (cs := [.slice none 0 0, .slice none 0 0, .slice none 0 0]) zv63 rfl) rfl rfl (fun b26 _ => ?_)
  refine s_s ((by first | exact S_storeA rfl rfl sz63 (by first | rfl | assumption) (by first | rfl | assumption) (by repeat (first | exact Upd.head | apply Upd.tail)) (by first | rfl | assumption) | exact S_storeN rfl rfl sz63 (by rfl) (by first | rfl | assumption) (by repeat (first | exact Upd.head | apply Upd.tail)) (by simp only [setAll, List.set_cons_zero, List.set_cons_succ, Nat.zero_add, Nat.reduceAdd]; rfl) (by first | rfl | assumption))) rfl ?_
  refine s_nil ?_
  refine q_then ?_
  refine c_seq ?_
  -- ref.go:86 R46
  refine c_reg ?_
  refine s_n (N_make1 (n := 384) rfl rfl Try.underlying88 inf4 rfl rfl (by omega) (by omega)) rfl rfl (fun b229 _ => ?_)
  refine s_y (Y_as) rfl rfl ?_
  refine s_nil ?_
  refine QL.pick (L' := [lB b26 [.slice (some ⟨b34, 0, none⟩) 384 384, .slice none 0 0, .slice none 0 0], ⟨b229, 4, 1, 384, List.replicate 384 (.bool false)⟩, cB b34 384 cs, fB fb f, lB b4 lz]) (by repeat (first | exact Sels.nil | apply Sels.cons (by repeat (first | exact Sel.head | apply Sel.tail)))) ?_
  rw [hrep]
  refine q_then ?_
  refine c_seq ?_
  refine c_meetQ (ks := [28, 29, 30, 230, 231, 232, 233, 234, 235, 236, 237, 238, 239, 240, 241, 242, 243, 244, 245, 246, 247, 248, 249, 250, 251, 252, 253, 254, 255, 256, 257, 258, 259, 260, 261, 262, 263, 264, 265, 266, 267, 268, 269, 270]) (tr := fun _ : Value × List Bk => []) (φ := fun y => Row 48 11 y.1 fo.length (ecells fo) y.2) (G := fun y => lB b26 [.slice (some ⟨b34, 0, none⟩) 384 384, y.1, .slice none 0 0] :: cB b34 384 cs :: fB fb f :: lB b4 lz :: y.2) (fun _ => rfl) ?_ ?_
  · rintro ⟨ev, E⟩ jE hE
    refine q_then ?_
    refine QL.forget (tr := [(0, _), (1, _), (4, _), (5, _), (21, _), (24, _), (26, _)]) 326 (by kernel_rfl) (by repeat (first | exact Gts.nil | apply Gts.cons gt_)) (fun jj => ?_)
    exact make_t2 hfl hcl0 hdl hmcs (by rw [hents]; exact hE) hitems jj
  · intro go
    refine c_seq ?_
    -- ref.go:87 R47
    refine c_reg ?_
    refine s_y (Y_asC) rfl rfl ?_
    refine s_nil ?_
    refine q_then ?_
    refine c_block ?_
    refine c_loop [28, 29, 30, 230, 231, 232, 233, 234, 235, 236, 237, 238, 239, 240, 241, 242, 243, 244, 245, 246, 247, 248, 249, 250, 251, 252, 253, 254, 255, 256, 257, 258, 259, 260, 261, 262, 263, 264, 265, 266, 267, 268, 269, 270] (fun n (y : Nat × List Bool × List Ent × Value × List Bk) => (y.1 : Int) + n = floor + 2 ∧ y.2.1.length = 384 ∧ Row 48 11 y.2.2.2.1 y.2.2.1.length (ecells y.2.2.1) y.2.2.2.2 ∧ y.2.2.1.length ≤ y.1 ∧ foesM seed floor cs f n y.1 y.2.1 y.2.2.1 = fo) (fun y => [(28, iv y.1)]) (fun y => lB b26 [.slice (some ⟨b34, 0, none⟩) 384 384, y.2.2.2.1, .slice none 0 0] :: uB b229 y.2.1 :: cB b34 384 cs :: fB fb f :: lB b4 lz :: y.2.2.2.2) ((floor + 2).toNat) ((0, u0, [], .slice none 0 0, [])) (⟨by simp only; omega, hu0, .nil, Nat.le_refl _, hfo0⟩) (by repeat (first | exact trivial | refine ⟨rfl, ?_⟩)) (fun _ h => h.sub sl_) (fun _ => rfl) ?_
    rintro n ⟨k, used, es, v, B⟩ j ⟨hk, hul, hB, hel, hfo⟩ K hK
    simp only at hk hul hB hel hfo ⊢
    refine c_seq ?_
    refine c_seq ?_
    -- ref.go:87 R48
    refine c_reg ?_
    refine s_y (Y_mv) rfl rfl ?_
    refine s_y (Y_mv) rfl rfl ?_
    refine s_y ((by first | exact Y_add rfl rfl (by omega) | exact Y_addw rfl rfl)) rfl rfl ?_
    refine s_y (Y_leq rfl rfl) rfl rfl ?_
    refine s_nil ?_
    refine q_then ?_
    first | refine c_cond' rfl (fun hc48 => ?_) (fun hc48 => ?_) | refine c_cond rfl (fun hc48 => ?_) (fun hc48 => ?_)
    · skip
      try simp only [nrm_] at hc48
      refine c_skip ?_
      refine q_then ?_
      refine c_seq ?_
      refine c_block ?_
      refine c_seq ?_
      -- ref.go:88 R50
      refine c_reg ?_
      refine s_y (Y_mv) rfl rfl ?_
      refine s_y (Y_mv) rfl rfl ?_
      refine s_y (Y_mv) rfl rfl ?_
      refine s_y (Y_mv) rfl rfl ?_
      refine s_y (Y_mv) rfl rfl ?_
      refine s_y (Y_mv) rfl rfl ?_
      refine s_y ((by first | exact Y_add rfl rfl (by omega) | exact Y_addw rfl rfl)) rfl rfl ?_
      refine s_c (En_call (fun _ => rfl) Try.func53 rfl (by kernel_rfl) rfl) (fun w hH => rpick_d ((hH.at' (x := cB b34 384 cs) mm_).sl (by rw [List.length_map]; omega) (Nat.le_refl _)) ((hH.at' (x := fB fb f) mm_).sl (by rw [List.length_map]; omega) (Nat.le_refl _)) ((hH.at' (x := uB b229 used) mm_).sl (by rw [List.length_map]; omega) (Nat.le_refl _))) rfl rfl ?_
      rintro _ _ ⟨rfl, rfl⟩
      refine s_y (Y_as) rfl rfl ?_
      refine s_nil ?_
      refine q_then ?_
      refine c_seq ?_
      refine c_seq ?_
      -- ref.go:89 R51
      refine c_reg ?_
      refine s_y (Y_mv) rfl rfl ?_
      refine s_y (Y_lss rfl rfl) rfl rfl ?_
      refine s_nil ?_
      refine q_then ?_
      first | refine c_cond' rfl (fun hc51 => ?_) (fun hc51 => ?_) | refine c_cond rfl (fun hc51 => ?_) (fun hc51 => ?_)
      · skip
        try simp only [nrm_] at hc51
        refine c_exit ?_
        repeat with_reducible refine q_te ?_
        refine q_past rfl ?_
        repeat with_reducible refine q_te ?_
        refine q_exit ?_
        obtain ⟨q, rfl⟩ : ∃ q, n = q + 1 := ⟨n - 1, by omega⟩
        rw [foesM] at hfo
        simp only [if_pos hc51] at hfo
        obtain rfl : es = fo := hfo
        exact go (v, B) _ _ hB trivial rfl (fun w h => h.sub sl_)
      · skip
        try simp only [nrm_] at hc51
        refine c_skip ?_
        refine q_then ?_
        refine c_seq ?_
        -- ref.go:92 R52
        obtain ⟨z, hz, hzl, hzc, hzf, hzu⟩ := pick_nat hc51
        obtain ⟨q, rfl⟩ : ∃ q, n = q + 1 := ⟨n - 1, by omega⟩
        rw [foesM] at hfo
        simp only [if_neg hc51] at hfo
        rw [hz, Int.toNat_natCast] at hfo
        rw [hz]
        have hg := gd_rng (n := min (floor + 1) 3) (by omega) seed floor (16 + k) 1
        obtain ⟨zx, hzx⟩ : ∃ x : Int, (z : Int) % 24 = x := ⟨_, rfl⟩
        obtain ⟨zy, hzy⟩ : ∃ x : Int, (z : Int) / 24 = x := ⟨_, rfl⟩
        rw [hzx, hzy] at hfo
        refine c_reg ?_
        refine s_y (Y_mv) rfl rfl ?_
        refine s_y (Y_mv) rfl rfl ?_
        refine s_y (Y_ia1 (n := z) rfl rfl Try.underlying88 sz4 rfl (by omega)) rfl rfl ?_
        refine s_s (S_stC (cs' := (used.set z true).map Value.bool) rfl sz4 (by rfl) (by repeat (first | exact Upd.head | apply Upd.tail)) (by rw [Nat.zero_add]; exact bool_set used z true) (by rw [List.length_map]; omega)) rfl ?_
        refine s_nil ?_
        refine q_then ?_
        refine c_seq ?_
        -- ref.go:93 R53
        refine c_reg ?_
        refine s_y (Y_mv) rfl rfl ?_
        refine s_y (Y_mv) rfl rfl ?_
        refine s_y (Y_mv) rfl rfl ?_
        refine s_y ((by first | exact Y_add rfl rfl (by omega) | exact Y_addw rfl rfl)) rfl rfl ?_
        refine s_y (Y_mv) rfl rfl ?_
        refine s_y ((by first | exact Y_add rfl rfl (by omega) | exact Y_addw rfl rfl)) rfl rfl ?_
        refine s_y (Y_min rfl rfl) rfl rfl ?_
        refine s_c (En_call (fun _ => rfl) Try.func49 rfl (by kernel_rfl) rfl) (fun w hH => rd_d (by omega)) rfl rfl ?_
        rintro _ _ ⟨rfl, rfl⟩
        refine s_y ((by first | exact Y_add rfl rfl (by omega) | exact Y_addw rfl rfl)) rfl rfl ?_
        refine s_c (En_call (fun _ => rfl) Try.func17 rfl (by kernel_rfl) rfl) (fun w hH => rstats_d) rfl rfl ?_
        rintro _ _ ⟨rfl, rfl⟩
        obtain ⟨st, hgen10⟩ : ∃ q_, statsM (2 + gd seed floor (16 + k) 1 (min (floor + 1) 3)) = q_ := ⟨_, rfl⟩
        rw [hgen10] at hfo ⊢
        refine s_n (N_alloc (z := .agg #[.int .i64 0, .int .i64 0, .int .i64 0, .int .i64 0, .int .i64 0, .int .i64 0, .int .i64 0, .int .i64 0, .int .i64 0, .int .i64 0, .int .i64 0]) (cs := [.int .i64 0, .int .i64 0, .int .i64 0, .int .i64 0, .int .i64 0, .int .i64 0, .int .i64 0, .int .i64 0, .int .i64 0, .int .i64 0, .int .i64 0]) zv48 rfl) rfl rfl (fun b30 _ => ?_)
        refine s_s (S_storeA (vs := st.cells) rfl rfl sz48 (by rfl) (by rfl) (by repeat (first | exact Upd.head | apply Upd.tail)) (by rfl)) rfl ?_
        refine s_nil ?_
        refine q_then ?_
        refine c_seq ?_
        -- ref.go:94 R54
        refine c_reg ?_
        refine s_y (Y_mv) rfl rfl ?_
        refine s_y ((Y_rem rfl rfl (by omega)).num hzx) rfl rfl ?_
        refine s_y (Y_mv) rfl rfl ?_
        refine s_y ((Y_quo rfl rfl (by omega)).num hzy) rfl rfl ?_
        refine s_y (Y_fa 3 rfl Try.underlying48 rfl sz3 rfl) rfl rfl ?_
        refine s_s (S_st (cs' := ({ st with x := zx } : Ent).cells) rfl gt_ sz3 (by rfl) (by repeat (first | exact Upd.head | apply Upd.tail)) (by rfl) (by rw [Ent.len]; decide)) rfl ?_
        refine s_y (Y_fa 4 rfl Try.underlying48 rfl sz3 rfl) rfl rfl ?_
        refine s_s (S_st (cs' := ({ st with x := zx, y := zy } : Ent).cells) rfl gt_ sz3 (by rfl) (by repeat (first | exact Upd.head | apply Upd.tail)) (by rfl) (by rw [Ent.len]; decide)) rfl ?_
        obtain ⟨e, hgen11⟩ : ∃ q_, ({ st with x := zx, y := zy } : Ent) = q_ := ⟨_, rfl⟩
        rw [hgen11] at hfo ⊢
        refine s_nil ?_
        refine q_then ?_
        -- ref.go:95 R55
        refine c_reg ?_
        refine s_y (Y_fa 1 rfl Try.underlying63 rfl sz26 rfl) rfl rfl ?_
        refine s_y ((by first | exact Y_load rfl one26 mm_ (by rfl) | exact Y_loadR rfl one26 hr rfl rfl | exact Y_loadR rfl one26 hr2 rfl rfl | exact Y_load rfl one26 mm_ (eget he rfl) | exact Y_load rfl one26 mm_ (iget hx rfl) | exact Y_load rfl one26 mm_ (by assumption) | exact Y_loadR rfl one26 (by assumption) rfl (by assumption))) rfl rfl ?_
        refine s_y (Y_loadAll rfl many48 mm_ (by rfl)) rfl rfl ?_
        refine s_n (N_bsA (cs := e.cells) gt_ Try.underlying26 inf48 rfl rfl (by omega) (by omega)) rfl rfl (fun b268 _ => ?_)
        refine s_n (N_appR (bytes := 88) hB (List.perm_append_comm (l₁ := B) (l₂ := [_, _, _, _, _, _, _])) rfl rfl Try.underlying26 inf48 rfl (by omega) (src (news := e.cells) mm_) (by rfl) (one_e1 e) (by omega) (by omega) (by omega)) rfl rfl (fun ⟨g269, cp269⟩ hc269 => ?_)
        refine s_y (Y_fa 1 rfl Try.underlying63 rfl sz26 rfl) rfl rfl ?_
        refine s_s (S_st rfl gt_ sz26 (by rfl) (by repeat (first | exact Upd.head | apply Upd.tail)) (by first | (simp only [Nat.zero_add, Nat.reduceAdd, List.set_cons_succ, List.set_cons_zero]; rfl) | rfl) (by first | (simp; done) | omega)) rfl ?_
        refine s_nil ?_
        refine q_bn ?_
        refine q_then ?_
        -- ref.go:87 R49
        refine c_reg ?_
        refine s_y (Y_mv) rfl rfl ?_
        refine s_y ((by first | exact Y_add rfl rfl (by omega) | exact Y_addw rfl rfl)) rfl rfl ?_
        refine s_y (Y_as) rfl rfl ?_
        refine s_nil ?_
        refine hK q (k + 1, used.set z true, es ++ [e], .slice (some ⟨g269, 0, none⟩) (es.length + 1) cp269, [⟨g269, 48, 11, cp269, ecells (es ++ [e])⟩]) _ _ (by omega) ⟨by simp only; omega, by simp only [List.length_set]; exact hul, by simp only; rw [List.length_append, List.length_singleton]; exact .some hc269 (by rw [ecells_len, List.length_append, List.length_singleton]), by simp only; rw [List.length_append, List.length_singleton]; omega, hfo⟩ ⟨rfl, trivial⟩ rfl (fun w h => ?_)
        rw [ecells_snoc] at h
        exact h.pick (by repeat (first | exact Sels.nil | apply Sels.cons (by repeat (first | exact Sel.head | apply Sel.tail))))
    · skip
      try simp only [nrm_] at hc48
      refine c_exit ?_
      repeat with_reducible refine q_te ?_
      refine q_exit ?_
      obtain rfl : n = 0 := by omega
      obtain rfl : es = fo := by rw [← hfo, foesM]
      exact go (v, B) _ _ hB trivial rfl (fun w h => h.sub sl_)
end
end Go.Proofs.Ytecodneffflpoaa
