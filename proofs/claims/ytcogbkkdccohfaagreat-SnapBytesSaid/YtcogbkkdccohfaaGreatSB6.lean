/- Texts of this claim, laid together: part 6. -/
import Derived.Test.YtcogbkkdccohfaaGreatSB5
import Derived.ChangeArms
set_option linter.unusedVariables false
set_option linter.unusedSimpArgs false
set_option maxHeartbeats 1600000
namespace Go.Ad
open Go.RowKit Go.Maps Go.Proofs.YtcogbkkdccohfaaGreat
theorem byteM_add (v m : Int) {k n : Nat} (h : k < n) : byteM ((v + m * 2 ^ (8 * n)).fdiv (2 ^ (8 * k))) = byteM (v.fdiv (2 ^ (8 * k))) := by
  have e : (2 : Int) ^ (8 * n) = 2 ^ (8 * k) * (256 * 2 ^ (8 * (n - k - 1))) := by
    rw [show 8 * n = 8 * k + (8 + 8 * (n - k - 1)) by omega, Int.pow_add, Int.pow_add]; rfl
  have hp : (0 : Int) < 2 ^ (8 * k) := Int.pow_pos (by decide)
  rw [e, show m * (2 ^ (8 * k) * (256 * 2 ^ (8 * (n - k - 1)))) = 2 ^ (8 * k) * (m * (256 * 2 ^ (8 * (n - k - 1)))) by rw [← Int.mul_assoc, Int.mul_comm m, Int.mul_assoc], Int.fdiv_eq_ediv_of_nonneg _ (by omega), Int.fdiv_eq_ediv_of_nonneg _ (by omega), Int.add_mul_ediv_left _ _ (by omega)]
  unfold byteM
  congr 2
  rw [show m * (256 * 2 ^ (8 * (n - k - 1))) = 256 * (m * 2 ^ (8 * (n - k - 1))) by rw [← Int.mul_assoc, Int.mul_comm m 256, Int.mul_assoc], Int.add_mul_emod_self_left]
theorem be_add (v m : Int) {n : Nat} : ∀ k, k ≤ n → beM (v + m * 2 ^ (8 * n)) k = beM v k
  | 0, _ => rfl
  | k + 1, h => by rw [beM, beM, byteM_add v m (by omega), be_add v m k (by omega)]
theorem num_cons (x : UInt8) (r : List UInt8) : (numM (x :: r) : Int) = x.toNat * 2 ^ (8 * r.length) + numM r := by
  have key : ∀ (r : List UInt8) (a : Nat), r.foldl (fun v x => v * 256 + x.toNat) a = a * 256 ^ r.length + r.foldl (fun v x => v * 256 + x.toNat) 0 := by
    intro r
    induction r with
    | nil => intro a; simp
    | cons y r ih =>
      intro a
      rw [List.foldl_cons, List.foldl_cons, ih, ih (0 * 256 + y.toNat), List.length_cons, Nat.pow_succ]
      rw [Nat.add_mul, Nat.zero_mul, Nat.zero_add, Nat.mul_assoc, Nat.mul_comm 256, Nat.add_assoc]
  unfold numM
  rw [List.foldl_cons, key r (0 * 256 + x.toNat)]
  rw [show (2 : Int) ^ (8 * r.length) = ((256 ^ r.length : Nat) : Int) by rw [Int.pow_mul]; rfl, Nat.zero_mul, Nat.zero_add, Int.natCast_add, Int.natCast_mul]
theorem be_num : ∀ l : List UInt8, beM (numM l : Nat) l.length = l
  | [] => rfl
  | x :: r => by
    have hl := numM_lt r
    have hp : (2 : Int) ^ (8 * r.length) = ((256 ^ r.length : Nat) : Int) := by rw [Int.pow_mul]; rfl
    have hx := x.toNat_lt
    rw [List.length_cons, beM]
    congr 1
    · rw [num_cons, Int.fdiv_eq_ediv_of_nonneg _ (by rw [hp]; omega), Int.add_comm, Int.add_mul_ediv_right _ _ (by rw [hp]; have := Nat.pow_pos (n := r.length) (show 0 < 256 by decide); omega), Int.ediv_eq_zero_of_lt (by omega) (by rw [hp]; omega), Int.zero_add]
      unfold byteM
      rw [Int.emod_eq_of_lt (by omega) (by omega), Int.toNat_natCast]
      exact UInt8.ofNat_toNat
    · rw [num_cons, Int.add_comm, be_add _ _ _ (Nat.le_refl _)]
      exact be_num r
theorem take_bytes {bs : List UInt8} : ∀ {m k : Nat}, k + m ≤ bs.length → (bs.drop k).take m = (List.range m).map fun j => bs.getD (k + j) 0
  | 0, _, _ => rfl
  | m + 1, k, h => by
    rw [List.range_succ, List.map_append, ← take_bytes (m := m) (by omega), List.take_add_one, List.getElem?_drop, List.getElem?_eq_getElem (by omega)]
    simp only [Option.toList_some, List.map_cons, List.map_nil]
    rw [List.getD_eq_getElem?_getD, List.getElem?_eq_getElem (by omega)]; rfl
theorem byteM_at (bs : List UInt8) (i : Nat) : byteM (byteAt bs i) = bs.getD i 0 := by
  unfold byteAt byteM
  have := (bs.getD i 0).toNat_lt
  rw [Int.emod_eq_of_lt (by omega) (by omega), Int.toNat_natCast]
  exact UInt8.ofNat_toNat
theorem eBytes_at {bs : List UInt8} {k : Nat} (h : k + 11 ≤ bs.length) : eBytes (entAt bs k) = (bs.drop k).take 11 := by
  rw [take_bytes h]
  unfold eBytes entAt
  simp only [byteM_at]
  rfl
theorem iBytes_at {bs : List UInt8} {k : Nat} (h : k + 4 ≤ bs.length) : iBytes (itmAt bs k) = (bs.drop k).take 4 := by
  rw [take_bytes h]
  unfold iBytes itmAt
  simp only [byteM_at]
  rfl
theorem rows_at {α : Type} {f : Nat → α} {g : α → List UInt8} {m : Nat} {bs : List UInt8} {k : Nat} (hf : ∀ i, k + i * m + m ≤ bs.length → g (f i) = (bs.drop (k + i * m)).take m) : ∀ n, k + n * m ≤ bs.length → ((List.range n).map f).flatMap g = (bs.drop k).take (n * m)
  | 0, _ => by simp
  | n + 1, h => by
    have hm : (n + 1) * m = n * m + m := Nat.succ_mul n m
    rw [List.range_succ, List.map_append, List.flatMap_append, rows_at hf n (by omega), hm, List.take_add, List.drop_drop]
    congr 1
    simp only [List.map_cons, List.map_nil, List.flatMap_cons, List.flatMap_nil, List.append_nil]
    exact hf n (by omega)
theorem u64_i64 {n : Int} (h : 0 ≤ n ∧ n < 18446744073709551616) : IntKind.u64.wrap (IntKind.i64.wrap n) = n := by
  rw [IntKind.wrap_u64, IntKind.wrap_i64]; omega
theorem be_cut {bs : List UInt8} {k m : Nat} (h : k + m ≤ bs.length) : beM ((numM ((bs.drop k).take m) : Nat) : Int) m = (bs.drop k).take m := by
  have := be_num ((bs.drop k).take m)
  rw [show ((bs.drop k).take m).length = m by rw [List.length_take, List.length_drop]; omega] at this
  exact this
theorem cut_cut {bs : List UInt8} {k m n : Nat} : (bs.drop k).take m ++ (bs.drop (k + m)).take n = (bs.drop k).take (m + n) := by rw [List.take_add, List.drop_drop]
theorem enc_dec {bs : List UInt8} (h : bs.length = 918) : encW (decM bs) = bs := by
  have n8 := numM_lt ((bs.drop 0).take 8)
  rw [show ((bs.drop 0).take 8).length = 8 by rw [List.length_take, List.length_drop]; omega] at n8
  have n4 := numM_lt ((bs.drop 8).take 4)
  rw [show ((bs.drop 8).take 4).length = 4 by rw [List.length_take, List.length_drop]; omega] at n4
  have n2 : ∀ k, k + 2 ≤ bs.length → numM ((bs.drop k).take 2) < 65536 := fun k hk => by
    have := numM_lt ((bs.drop k).take 2)
    rw [show ((bs.drop k).take 2).length = 2 by rw [List.length_take, List.length_drop]; omega] at this
    exact this
  have g2 : ∀ k, k + 2 ≤ bs.length → beM (IntKind.u64.wrap (num2 bs k)) 2 = (bs.drop k).take 2 := fun k hk => by
    have := n2 k hk
    unfold num2
    rw [u64_id (by omega)]
    exact be_cut hk
  have p1 : beM (IntKind.u64.wrap (decM bs).seed) 8 = (bs.drop 0).take 8 := by
    show beM (IntKind.u64.wrap (IntKind.i64.wrap (numM ((bs.drop 0).take 8) : Nat))) 8 = _
    rw [u64_i64 (by omega)]; exact be_cut (by omega)
  have p2 : beM (IntKind.u64.wrap (decM bs).frame) 4 = (bs.drop 8).take 4 := by
    show beM (IntKind.u64.wrap (numM ((bs.drop 8).take 4) : Nat)) 4 = _
    rw [u64_id (by omega)]; exact be_cut (by omega)
  have p3 : [byteM (decM bs).floor, byteM (decM bs).state] = (bs.drop 12).take 2 := by
    show [byteM (byteAt bs (12 + 0)), byteM (byteAt bs (12 + 1))] = _
    rw [byteM_at, byteM_at, take_bytes (by omega)]; rfl
  have q0 : beM (IntKind.u64.wrap (decM bs).gold.a) 2 = (bs.drop 14).take 2 := g2 14 (by omega)
  have q1 : beM (IntKind.u64.wrap (decM bs).gold.b) 2 = (bs.drop 16).take 2 := g2 16 (by omega)
  have q2 : beM (IntKind.u64.wrap (decM bs).gold.c) 2 = (bs.drop 18).take 2 := g2 18 (by omega)
  have q3 : beM (IntKind.u64.wrap (decM bs).gold.d) 2 = (bs.drop 20).take 2 := g2 20 (by omega)
  have p4 : (decM bs).cells = (bs.drop 22).take 384 := rfl
  have p5 : (decM bs).ents.flatMap eBytes = (bs.drop 406).take 352 := rows_at (f := fun i => entAt bs (406 + i * 11)) (fun i hi => eBytes_at hi) 32 (by omega)
  have p6 : (decM bs).items.flatMap iBytes = (bs.drop 758).take 160 := rows_at (f := fun i => itmAt bs (758 + i * 4)) (fun i hi => iBytes_at hi) 40 (by omega)
  unfold encW
  rw [p1, p2, p3, q0, q1, q2, q3, p4, p5, p6]
  rw [cut_cut (k := 0) (m := 8) (n := 4), cut_cut (k := 0) (m := 8 + 4) (n := 2), cut_cut (k := 0) (m := 8 + 4 + 2) (n := 2), cut_cut (k := 0) (m := 8 + 4 + 2 + 2) (n := 2), cut_cut (k := 0) (m := 8 + 4 + 2 + 2 + 2) (n := 2), cut_cut (k := 0) (m := 8 + 4 + 2 + 2 + 2 + 2) (n := 2), cut_cut (k := 0) (m := 8 + 4 + 2 + 2 + 2 + 2 + 2) (n := 384), cut_cut (k := 0) (m := 8 + 4 + 2 + 2 + 2 + 2 + 2 + 384) (n := 352), cut_cut (k := 0) (m := 8 + 4 + 2 + 2 + 2 + 2 + 2 + 384 + 352) (n := 160)]
  rw [List.drop_zero, List.take_of_length_le (by omega)]
theorem Y_app00 {P : Program} {W : World} {M : List Nat} {L : List Bk} {ρ : Operand → Value} {x y : Operand} {ty : TypeId} {n cap c2 : Nat} {ad : Addr} {a2 : Option Addr} {e : Nat} {u : TypeId} {i : TypeInfo} (hx : ρ x = .slice (some ad) n cap) (hy : ρ y = .slice a2 0 c2) (hu : P.underlying u = some (.slice e)) (hi : P.info? e = some i) (hn : n ≤ cap) :
    Y P W M L ρ (.call { callee := .builtin .append, args := #[x, y], argTypes := #[u, u] }) ty (.slice (some ad) n cap) := fun w hw o ho _ => by
  refine x_append ho hx hy ?_
  cases a2 with
  | none => simp [Builtin.append_, run_underlying hu, sizeOf, typeInfo, hi, Builtin.lenOf, Builtin.firstCells, hn, storeCells]
  | some ad2 => simp [Builtin.append_, run_underlying hu, sizeOf, typeInfo, hi, Builtin.lenOf, Builtin.firstCells, hn, storeCells, loadCells, loadCellsFrom]
theorem N_appV {P : Program} {W : World} {M : List Nat} {L R : List Bk} {ρ : Operand → Value} {x y : Operand} {ty : TypeId} {b n cap m e kk bytes : Nat} {z v : Value} {u : TypeId} {cs news : List Value} (hV : ∀ w, Has W M L w → SlV w kk v m news) (hv : v = v) (hx : ρ x = .slice (some ⟨b, 0, none⟩) n cap) (hy : ρ y = v) (hu : P.underlying u = some (.slice e)) (hi : (P.info? e).map (fun i => (i.zero, i.size, i.bytes)) = some (some z, kk, bytes))
    (hz : z.cells.size = kk) (hk : 0 < kk) (hs : Sel ⟨b, e, kk, cap, cs⟩ L R) (hc : cs.length = n * kk) (hn : n ≤ cap) (h1 : ∀ u ∈ news, u.oneCell' = true)
    (h63 : n + m ≤ 140737488355328) (hb : (n + m) * bytes ≤ 140737488355328) :
    N P W M L ρ (.call { callee := .builtin .append, args := #[x, y], argTypes := #[u, u] }) ty (fun p : Nat × Nat => n + m ≤ p.2) (fun p => .slice (some ⟨p.1, 0, none⟩) (n + m) p.2) (fun p => ⟨p.1, e, kk, p.2, cs ++ news⟩ :: R) := fun w hw o ho ht => by
  obtain ⟨i, hi1, hi2, hi3, hi4⟩ := info_parts hi
  have same : (execOp ρ o).run P w = .ok (.value (.slice (some ⟨b, 0, none⟩) n cap)) w → m = 0 → news = [] → ∃ (p : Nat × Nat) (w' : World), n + m ≤ p.2 ∧ (execOp ρ o).run P w = .ok (.value (.slice (some ⟨p.1, 0, none⟩) (n + m) p.2)) w' ∧ Has W M (⟨p.1, e, kk, p.2, cs ++ news⟩ :: R) w' := fun h h0 h2 => by
    subst h0 h2
    refine ⟨(b, cap), w, hn, h, ?_⟩
    rw [List.append_nil]
    exact hw.perm hs.toPerm
  have hV1 := hV w hw
  cases hV1 with
  | nil => exact same (Y_app00 hx hy hu hi1 hn w hw o ho ht) rfl rfl
  | zero => exact same (Y_app00 hx hy hu hi1 hn w hw o ho ht) rfl rfl
  | some h =>
    exact N_app hx hy hu hi hz hk hs hc hn (fun w' hw' j u hj => by
      have hV2 := hV w' hw'
      cases hV2 with
      | zero => simp at hj
      | some h' => rw [Addr.add_mid]; exact h'.ro j u hj) h.len h1 h63 hb w hw o ho ht
end Go.Ad
namespace Go.Proofs.YtcogbkkdccohfaaGreat
open Go.RowKit Go.Ad Go.Maps
set_option linter.unusedVariables false
set_option linter.unusedSimpArgs false
theorem EncP.open {d : Wd} {v : Value} {L : List Bk} (h : EncP d v L) : ∃ a n c, v = .tuple #[.slice a n c, iv (checkM d)] ∧ ∀ {W w : World} {M : List Nat} {L' : List Bk}, Has W M L' w → (∀ x ∈ L, x ∈ L') → BytesAt w a n (if checkM d = 0 then encW d else []) := by
  rcases h with ⟨h1, rfl, rfl⟩ | ⟨h1, g, cap, rfl, rfl, h2⟩
  · refine ⟨none, 0, 0, rfl, fun hH _ => ?_⟩
    rw [if_neg h1]
    exact ⟨rfl, .inl rfl⟩
  · refine ⟨_, _, cap, by rw [h1], fun hH hL => ?_⟩
    rw [if_pos h1]
    exact bytesL (hL _ (List.Mem.head _)) hH
section
variable {W : World}
set_option maxRecDepth 100000 in
theorem known_d (hnew : checkM (newM 1) = 0) (hit : ∀ x ∈ (newM 1).items, Itm.ok x) (hde : decM (encW (newM 1)) = newM 1) (hlen : (encW (newM 1)).length = 918) : Does Tryz.prog 15 [] W [] (fun v L => v = .bool true ∧ L = []) := by
  obtain ⟨d, hd⟩ : ∃ q, newM 1 = q := ⟨_, rfl⟩
  rw [hd] at hnew hit hde hlen
  refine enter Tryz.func15 rfl rfl rfl (Has.start _) ?_
  refine c_seq ?_
  refine c_reg ?_
  refine s_y (Y_asC) rfl rfl ?_
  refine s_nil ?_
  refine q_then ?_
  refine c_seq ?_
  refine c_reg ?_
  refine s_c (En_call (fun _ => rfl) Tryz.func45 rfl (by kernel_rfl) rfl) (fun w hH => rnew_d) rfl rfl ?_
  rintro _ _ ⟨cb, cc, eb, ec, ib, ic, rfl, rfl, l1, l2, l3⟩
  rw [hd] at l1 l2 l3 ⊢
  refine s_n (N_alloc (z := .agg #[.int .i64 0, .int .i64 0, .int .i64 0, .int .i64 0, .slice none 0 0, .slice none 0 0, .slice none 0 0, .int .i64 0, .int .i64 0, .int .i64 0, .int .i64 0]) (cs := [.int .i64 0, .int .i64 0, .int .i64 0, .int .i64 0, .slice none 0 0, .slice none 0 0, .slice none 0 0, .int .i64 0, .int .i64 0, .int .i64 0, .int .i64 0]) zv34 rfl) rfl rfl (fun b1 _ => ?_)
  refine s_s (S_storeA (vs := wv d ⟨cb, 0, cc, eb, 0, ec, ib, 0, ic⟩) rfl rfl sz34 (by rfl) (by rfl) up_ (by rfl)) rfl ?_
  refine s_nil ?_
  refine q_then ?_
  refine c_seq ?_
  refine c_reg ?_
  refine s_y (ya_ many34) rfl rfl ?_
  refine s_c (En_call (fun _ => rfl) Tryz.func22 rfl (by kernel_rfl) rfl) (fun w hH => penc_d (wAt_of hH mm_ mm_ mm_ l1 l2 l3) hit) rfl rfl ?_
  rintro _ _ hE
  rcases hE with ⟨h, _⟩ | ⟨_, g, cap, rfl, rfl, hcap⟩
  · exact absurd hnew h
  refine s_y (Y_mv) rfl rfl ?_
  refine s_y (Y_extract rfl rfl) rfl rfl ?_
  refine s_y (Y_extract rfl rfl) rfl rfl ?_
  refine s_y (Y_as) rfl rfl ?_
  refine s_y (Y_as) rfl rfl ?_
  refine s_nil ?_
  refine q_then ?_
  refine c_seq ?_
  refine c_reg ?_
  refine s_y (Y_mv) rfl rfl ?_
  refine s_c (En_call (fun _ => rfl) Tryz.func19 rfl (by kernel_rfl) rfl) (fun w hH => pdec_d ((hH.at' (x := cB g cap (encW d)) mm_).sl (by rw [List.length_map, Nat.mul_one]) hcap) (by omega)) rfl rfl ?_
  rintro _ _ hD
  rcases hD with ⟨e, he, _, _, h⟩ | ⟨_, _, cb2, cc2, eb2, ec2, ib2, ic2, rfl, rfl, m1, m2, m3⟩
  · rw [if_neg (by omega), if_neg (by omega), hde, hnew] at h
    exact absurd h he
  rw [hde] at m1 m2 m3 ⊢
  refine QL.sub (L' := cB cb2 cc2 d.cells :: eB eb2 ec2 d.ents :: iB ib2 ic2 d.items :: _) (List.Sublist.refl _) ?_
  refine s_y (Y_mv) rfl rfl ?_
  refine s_y (Y_extract rfl rfl) rfl rfl ?_
  refine s_y (Y_extract rfl rfl) rfl rfl ?_
  refine s_n (N_alloc (z := .agg #[.int .i64 0, .int .i64 0, .int .i64 0, .int .i64 0, .slice none 0 0, .slice none 0 0, .slice none 0 0, .int .i64 0, .int .i64 0, .int .i64 0, .int .i64 0]) (cs := [.int .i64 0, .int .i64 0, .int .i64 0, .int .i64 0, .slice none 0 0, .slice none 0 0, .slice none 0 0, .int .i64 0, .int .i64 0, .int .i64 0, .int .i64 0]) zv34 rfl) rfl rfl (fun b4 _ => ?_)
  refine s_s (S_storeA (vs := wv d ⟨cb2, 0, cc2, eb2, 0, ec2, ib2, 0, ic2⟩) rfl rfl sz34 (by rfl) (by rfl) up_ (by rfl)) rfl ?_
  refine s_y (Y_as) rfl rfl ?_
  refine s_nil ?_
  refine q_then ?_
  refine c_seq ?_
  refine c_reg ?_
  refine s_y (Y_mv) rfl rfl ?_
  refine s_y (Y_eql rfl rfl) rfl rfl ?_
  refine s_y (Y_mv) rfl rfl ?_
  apply s_and 4 [19, 20, 21, 22, 23] 23 (g := 19) rfl rfl
  · intro ht3 hm
    try simp only [nrm_] at ht3
    first | refine s_y (Y_mv) rfl rfl ?_ | refine s_pass rfl rfl ?_
    first | refine s_y (Y_len rfl rfl Tryz.underlying24) rfl rfl ?_ | refine s_pass rfl rfl ?_
    first | refine s_y (Y_eql rfl rfl) rfl rfl ?_ | refine s_pass rfl rfl ?_
    refine s_y (Y_pk rfl (Gx.tmp gt_) Gx.const) rfl rfl ?_
    first | exact hm _ ⟨rfl, trivial⟩ rfl | exact QL.sub sl_ (hm _ ⟨rfl, trivial⟩ rfl)
  · intro ht3 hm
    iterate 3 refine s_pass rfl rfl ?_
    refine s_y (Y_pk rfl (Gx.tmp gt_) Gx.const) rfl rfl ?_
    exact hm _ ⟨rfl, trivial⟩ rfl
  intro j23
  refine s_y (Y_mv) rfl rfl ?_
  apply s_and 3 [24, 25, 26, 27] 27 (g := 24) rfl rfl
  · intro ht8 hm
    try simp only [nrm_] at ht8
    first | refine s_y (Y_mv) rfl rfl ?_ | refine s_pass rfl rfl ?_
    first | refine s_y (Y_eql rfl rfl) rfl rfl ?_ | refine s_pass rfl rfl ?_
    refine s_y (Y_pk rfl (Gx.tmp gt_) Gx.const) rfl rfl ?_
    first | exact hm _ ⟨rfl, trivial⟩ rfl | exact QL.sub sl_ (hm _ ⟨rfl, trivial⟩ rfl)
  · intro ht8 hm
    iterate 2 refine s_pass rfl rfl ?_
    refine s_y (Y_pk rfl (Gx.tmp gt_) Gx.const) rfl rfl ?_
    exact hm _ ⟨rfl, trivial⟩ rfl
  intro j27
  refine s_y (Y_mv) rfl rfl ?_
  apply s_and 4 [28, 29, 30, 31, 32] 32 (g := 28) rfl rfl
  · intro ht12 hm
    try simp only [nrm_] at ht12
    first | refine s_y (Y_loadAll rfl many34 mm_ (by rfl)) rfl rfl ?_ | refine s_pass rfl rfl ?_
    first | refine s_y (Y_loadAll rfl many34 mm_ (by rfl)) rfl rfl ?_ | refine s_pass rfl rfl ?_
    refine s_c (En_call (fun _ => rfl) Tryz.func21 rfl (by kernel_rfl) rfl) (fun w hH => lsame_d (wAt_of hH (d := d) (cb := cb2) (cc := cc2) (eb := eb2) (ec := ec2) (ib := ib2) (ic := ic2) mm_ mm_ mm_ m1 m2 m3).v (wAt_of hH (d := d) (cb := cb) (cc := cc) (eb := eb) (ec := ec) (ib := ib) (ic := ic) mm_ mm_ mm_ l1 l2 l3).v) rfl rfl ?_
    rintro _ _ ⟨⟨q, rfl, hq⟩, rfl⟩
    obtain rfl : q = true := hq.2 rfl
    refine s_y (Y_pk rfl (Gx.tmp gt_) Gx.const) rfl rfl ?_
    first | exact hm _ ⟨rfl, trivial⟩ rfl | exact QL.sub sl_ (hm _ ⟨rfl, trivial⟩ rfl)
  · intro ht12 hm
    iterate 3 refine s_pass rfl rfl ?_
    refine s_y (Y_pk rfl (Gx.tmp gt_) Gx.const) rfl rfl ?_
    exact hm _ ⟨rfl, trivial⟩ rfl
  intro j32
  refine s_y (Y_mv) rfl rfl ?_
  refine s_y (Y_pk rfl Gx.const Gx.const) rfl rfl ?_
  refine s_y (Y_as) rfl rfl ?_
  refine s_nil ?_
  refine q_then ?_
  refine c_ret ?_
  refine q_retG1 rfl gt_ (L' := _) sl_ (⟨by rw [hlen]; rfl, rfl⟩)
theorem Does.law {f : FuncId} {args : List Value} (h : Does Tryz.prog f args W [] (fun v L => v = .bool true ∧ L = [])) : Calls Tryz.prog f args.toArray W fun e w' => e = .returned (.bool true) ∧ Ex [] W w' :=
  Calls.mono h fun _ _ ⟨v, L, h1, h2, h3, _⟩ => ⟨by rw [h1, h3], h2.ex⟩
end
end Go.Proofs.YtcogbkkdccohfaaGreat
namespace Go.Ad
open Go.RowKit Go.Maps Go.Proofs.YtcogbkkdccohfaaGreat
def zW : Wd := ⟨0, 0, 0, 0, [], [], [], ⟨0, 0, 0, 0⟩⟩
def decE (bs : List UInt8) : Int := if bs.length < 918 then 7 else if 918 < bs.length then 8 else checkM (decM bs)
def decD (bs : List UInt8) : Wd := if decE bs = 0 then decM bs else zW
theorem decE_ok {bs : List UInt8} (h : decE bs = 0) : bs.length = 918 ∧ checkM (decM bs) = 0 := by
  unfold decE at h
  split at h
  · omega
  · split at h
    · omega
    · exact ⟨by omega, h⟩
theorem Has.pre {W w : World} {M : List Nat} {R : List Bk} {b t k cap : Nat} {c c' : List Value} (h : Has W M (⟨b, t, k, cap, c⟩ :: R) w) (hp : c' <+: c) : Has W M (⟨b, t, k, cap, c'⟩ :: R) w := by
  refine ⟨h.ex, fun y hy => ?_, h.nd⟩
  rcases List.mem_cons.1 hy with rfl | hy
  · obtain ⟨⟨cur, h1, h2, h3, h4⟩, h5⟩ := h.bk ⟨b, t, k, cap, c⟩ (List.Mem.head _)
    exact ⟨⟨cur, h1, h2, h3, hp.trans h4⟩, h5⟩
  · exact h.bk y (List.Mem.tail _ hy)
theorem map_take_pre {α β : Type} (f : α → β) (l : List α) (n : Nat) : (l.take n).map f <+: l.map f := by
  rw [List.map_take]; exact List.take_prefix _ _
end Go.Ad
namespace Go.Proofs.YtcogbkkdccohfaaGreat
open Go.RowKit Go.Ad Go.Maps
set_option linter.unusedVariables false
set_option linter.unusedSimpArgs false
theorem DecP.open {bs : List UInt8} {v : Value} {L : List Bk} (h : DecP bs v L) : ∃ c e i, v = .tuple #[.agg (wcV (decD bs) c e i).toArray, iv (decE bs)] ∧ (wcV (decD bs) c e i).all (·.oneCell') = true ∧ (∀ {W w : World} {M : List Nat} {L' : List Bk}, Has W M L' w → (∀ x ∈ L, x ∈ L') → WAtV w (decD bs) c e i) ∧
    (decE bs = 0 → ∃ s, wcV (decD bs) c e i = wv (decM bs) s ∧ ∀ {W w : World} {M : List Nat} {L' : List Bk}, Has W M L' w → (∀ x ∈ L, x ∈ L') → WAt w (decM bs) s) := by
  rcases h with ⟨e, he, rfl, rfl, h4⟩ | ⟨hl, hc, cb, cc, eb, ec, ib, ic, rfl, rfl, l1, l2, l3⟩
  · have hE : decE bs = e := h4.symm
    have hD : decD bs = zW := by unfold decD; rw [if_neg (by rw [hE]; exact he)]
    rw [hE, hD]
    exact ⟨.slice none 0 0, .slice none 0 0, .slice none 0 0, rfl, rfl, fun _ _ => ⟨.nil, .nil, .nil⟩, fun h => absurd h he⟩
  · have hE : decE bs = 0 := by unfold decE; rw [if_neg (by omega), if_neg (by omega)]; exact hc
    have hD : decD bs = decM bs := by unfold decD; rw [if_pos hE]
    rw [hE, hD]
    have hw : ∀ {W w : World} {M : List Nat} {L' : List Bk}, Has W M L' w → (∀ x ∈ [cB cb cc (decM bs).cells, eB eb ec (decM bs).ents, iB ib ic (decM bs).items], x ∈ L') → WAt w (decM bs) ⟨cb, 0, cc, eb, 0, ec, ib, 0, ic⟩ := fun hH hs => wAt_of hH (hs _ mm_) (hs _ mm_) (hs _ mm_) l1 l2 l3
    exact ⟨_, _, _, rfl, rfl, fun hH hs => (hw hH hs).v, fun _ => ⟨⟨cb, 0, cc, eb, 0, ec, ib, 0, ic⟩, rfl, fun hH hs => hw hH hs⟩⟩
section
variable {W : World}
theorem rencL_d {d : Wd} {s : Ws} (hw : WL W d s) : Does Tryz.prog 17 [.agg (wL d s).toArray] W [] (EncP d) := by
  have h := renc_d hw.at'
  rwa [wv_wL hw.sz] at h
theorem known11_d : Does Tryz.prog 15 [] W [] (fun v L => v = .bool true ∧ L = []) := known_d (new_ok 1) (ok_of_check (new_ok 1)) (dec_enc (new_ok 1) (by rw [new_seed]; decide)) (enc_len (new_ok 1))
set_option maxRecDepth 100000 in
set_option maxHeartbeats 3200000 in
theorem snapBytes_d {seed cut : Int} {lv av bv' mv : Value} {ls : List (List Int)} {na nb nm : Nat} {ats : List Int} {bys more : List UInt8} (hl : Lls W lv ls) (hat : SlV W 1 av na (ats.map iv)) (hby : SlV W 1 bv' nb (bys.map bv)) (hmore : SlV W 1 mv nm (more.map bv)) :
    Does Tryz.prog 3 [iv seed, lv, av, bv', iv cut, mv] W [] (fun v L => v = .bool true ∧ L = []) := by
  obtain rfl : na = ats.length := by have := hat.len; simpa using this.symm
  obtain rfl : nb = bys.length := by have := hby.len; simpa using this.symm
  obtain rfl : nm = more.length := by have := hmore.len; simpa using this.symm
  have hall := hat.le
  have hbll := hby.le
  have hmll := hmore.le
  simp only [maxLen] at hall hbll hmll
  refine enter Tryz.func3 rfl rfl rfl (Has.start _) ?_
  refine c_seq ?_
  refine c_reg ?_
  refine s_y (Y_asC) rfl rfl ?_
  refine s_nil ?_
  refine q_then ?_
  refine c_seq ?_
  refine c_seq ?_
  refine c_reg ?_
  refine s_c (En_call (fun _ => rfl) Tryz.func15 rfl (by kernel_rfl) rfl) (fun w hH => known11_d) rfl rfl ?_
  rintro _ _ ⟨rfl, rfl⟩
  refine s_y (Y_not rfl) rfl rfl ?_
  refine s_nil ?_
  refine q_then ?_
  refine c_F rfl (rfl) ?_
  refine c_skip ?_
  refine q_then ?_
  refine c_seq ?_
  refine c_reg ?_
  refine s_y (Y_mv) rfl rfl ?_
  refine s_y (Y_mv) rfl rfl ?_
  refine s_c (En_call (fun _ => rfl) Tryz.func16 rfl (by kernel_rfl) rfl) (fun w hH => lstory_d (hl.has hH)) rfl rfl ?_
  rintro _ _ ⟨ps, g0, c0, B, hpl, hT, rfl, hc0, rfl⟩
  obtain ⟨np, hnp⟩ : ∃ q, 1 + min ls.length 30 = q := ⟨_, rfl⟩
  rw [hnp] at hpl hc0 ⊢
  obtain ⟨p, hp⟩ := take_lt (show np - 1 < ps.length by omega)
  have hpt := (hT.told p (List.mem_of_getElem? hp)).1
  have hpo := (hT.told p (List.mem_of_getElem? hp)).2
  have hck := hpt.vw.check (by have := hpt.fr; omega)
  refine QL.conv (L' := ⟨g0, 34, 11, c0, wcs ps⟩ :: B) (fun w h => h.sub (by simp)) ?_
  refine s_y (Y_as) rfl rfl ?_
  refine s_nil ?_
  refine q_then ?_
  refine c_seq ?_
  refine c_reg ?_
  refine s_y (Y_mv) rfl rfl ?_
  refine s_y (Y_mv) rfl rfl ?_
  refine s_y (Y_len rfl rfl Tryz.underlying26) rfl rfl ?_
  refine s_y su_ rfl rfl ?_
  refine s_y (Y_ia (n := np - 1) rfl rfl Tryz.underlying26 sz34 (by omega) (by omega)) rfl rfl ?_
  refine s_y (Y_loadN (vs := wL p.1 p.2) rfl many34 mm_ (by rfl) (wcs_at hp)) rfl rfl ?_
  refine s_c (En_call (fun _ => rfl) Tryz.func17 rfl (by kernel_rfl) rfl) (fun w hH => rencL_d (hpo.wl hpt.vw.sz hH (fun x hx => by repeat (first | exact hx | exact List.mem_append_left _ hx | exact List.mem_append_right _ hx | apply List.Mem.tail | apply List.mem_append_right)))) rfl rfl ?_
  rintro _ _ hE
  rcases hE with ⟨h, _⟩ | ⟨_, g, cap, rfl, rfl, hcap⟩
  · exact absurd hck h
  have hel := enc_len hck
  obtain ⟨b0, hb0⟩ : ∃ z, encW p.1 = z := ⟨_, rfl⟩
  rw [hb0] at hel hcap ⊢
  rw [hel] at hcap ⊢
  refine QL.conv (L' := [cB g cap b0]) (fun w h => h.pick2 (xs := [cB g cap b0]) (R' := []) ss_ (List.nil_sublist _)) ?_
  refine s_y (Y_mv) rfl rfl ?_
  refine s_y (Y_extract rfl rfl) rfl rfl ?_
  refine s_y (Y_extract rfl rfl) rfl rfl ?_
  refine s_y (Y_as) rfl rfl ?_
  refine s_y (Y_as) rfl rfl ?_
  refine s_nil ?_
  refine q_then ?_
  refine c_seq ?_
  refine c_seq ?_
  refine c_reg ?_
  refine s_y (Y_mv) rfl rfl ?_
  refine s_y (Y_neq rfl rfl) rfl rfl ?_
  refine s_y (Y_mv) rfl rfl ?_
  apply s_or 4 [41, 42, 43, 44, 45] 45 (g := 41) rfl rfl
  · intro ht3 hm
    try simp only [nrm_] at ht3
    first | refine s_y (Y_mv) rfl rfl ?_ | refine s_pass rfl rfl ?_
    first | refine s_y (Y_lenV hmore rfl rfl Tryz.underlying24) rfl rfl ?_ | refine s_pass rfl rfl ?_
    first | refine s_y (Y_gtr rfl rfl) rfl rfl ?_ | refine s_pass rfl rfl ?_
    refine s_y (Y_pk rfl Gx.const (Gx.tmp gt_)) rfl rfl ?_
    first | exact hm _ ⟨rfl, trivial⟩ rfl | exact QL.sub sl_ (hm _ ⟨rfl, trivial⟩ rfl)
  · intro ht3 hm
    iterate 3 refine s_pass rfl rfl ?_
    refine s_y (Y_pk rfl Gx.const (Gx.tmp gt_)) rfl rfl ?_
    exact hm _ ⟨rfl, trivial⟩ rfl
  intro j45
  refine s_nil ?_
  refine q_then ?_
  first | refine c_cond' rfl (fun hc5 => ?_) (fun hc5 => ?_) | refine c_cond rfl (fun hc5 => ?_) (fun hc5 => ?_)
  · skip
    try simp only [nrm_] at hc5
    refine c_seq ?_
    refine c_reg ?_
    refine s_y (Y_mv) rfl rfl ?_
    refine s_y (Y_lenV hmore rfl rfl Tryz.underlying24) rfl rfl ?_
    refine s_y (Y_gtr rfl rfl) rfl rfl ?_
    refine s_y (Y_as) rfl rfl ?_
    refine s_nil ?_
    refine q_then ?_
    refine c_ret ?_
    refine q_retG1 rfl gt_ (L' := _) sl_ (⟨by congr 1; rw [decide_eq_true_eq]; first | exact hc5 | omega | (simp at hc5; omega), rfl⟩)
  · skip
    try simp only [nrm_] at hc5
    refine c_skip ?_
    refine q_then ?_
    refine c_seq ?_
    refine c_seq ?_
    refine c_reg ?_
    refine s_y (Y_asC) rfl rfl ?_
    refine s_nil ?_
    refine q_then ?_
    refine c_block ?_
    refine c_loop [16, 17, 49, 50, 51, 52, 53, 54, 55, 56, 57, 58, 59, 60, 61, 62, 63, 64, 65, 66, 67, 68, 69, 70, 71, 72, 73, 74, 75, 76, 77, 78, 79, 80, 81, 82, 83] (fun m (y : Nat × List UInt8) => y.1 + m = 5 ∧ y.2.length = 918) (fun y => [(16, iv y.1)]) (fun y => [cB g cap y.2]) (5) ((0, b0)) (⟨rfl, hel⟩) (by repeat (first | exact trivial | refine ⟨rfl, ?_⟩)) (fun _ h => h.sub sl_) (fun _ => rfl) ?_
    rintro m ⟨i, bs⟩ j ⟨hi, hbl⟩ K hK
    simp only at hi hbl ⊢
    refine c_seq ?_
    refine c_seq ?_
    refine c_reg ?_
    refine s_y (Y_mv) rfl rfl ?_
    refine s_y (Y_mv) rfl rfl ?_
    refine s_y (Y_lenV hat rfl rfl Tryz.underlying23) rfl rfl ?_
    refine s_y (Y_lss rfl rfl) rfl rfl ?_
    refine s_y (Y_mv) rfl rfl ?_
    apply s_and 5 [53, 54, 55, 56, 57, 58] 58 (g := 53) rfl rfl
    · intro ht5 hm
      try simp only [nrm_] at ht5
      first | refine s_y (Y_mv) rfl rfl ?_ | refine s_pass rfl rfl ?_
      first | refine s_y (Y_mv) rfl rfl ?_ | refine s_pass rfl rfl ?_
      first | refine s_y (Y_lenV hby rfl rfl Tryz.underlying24) rfl rfl ?_ | refine s_pass rfl rfl ?_
      first | refine s_y (Y_lss rfl rfl) rfl rfl ?_ | refine s_pass rfl rfl ?_
      refine s_y (Y_pk rfl (Gx.tmp gt_) Gx.const) rfl rfl ?_
      first | exact hm _ ⟨rfl, trivial⟩ rfl | exact QL.sub sl_ (hm _ ⟨rfl, trivial⟩ rfl)
    · intro ht5 hm
      iterate 4 refine s_pass rfl rfl ?_
      refine s_y (Y_pk rfl (Gx.tmp gt_) Gx.const) rfl rfl ?_
      exact hm _ ⟨rfl, trivial⟩ rfl
    intro j58
    refine s_y (Y_mv) rfl rfl ?_
    apply s_and 3 [59, 60, 61, 62] 62 (g := 59) rfl rfl
    · intro ht11 hm
      try simp only [nrm_] at ht11
      first | refine s_y (Y_mv) rfl rfl ?_ | refine s_pass rfl rfl ?_
      first | refine s_y (Y_lss rfl rfl) rfl rfl ?_ | refine s_pass rfl rfl ?_
      refine s_y (Y_pk rfl (Gx.tmp gt_) Gx.const) rfl rfl ?_
      first | exact hm _ ⟨rfl, trivial⟩ rfl | exact QL.sub sl_ (hm _ ⟨rfl, trivial⟩ rfl)
    · intro ht11 hm
      iterate 2 refine s_pass rfl rfl ?_
      refine s_y (Y_pk rfl (Gx.tmp gt_) Gx.const) rfl rfl ?_
      exact hm _ ⟨rfl, trivial⟩ rfl
    intro j62
    refine s_nil ?_
    refine q_then ?_
    first | refine c_cond' rfl (fun hc8 => ?_) (fun hc8 => ?_) | refine c_cond rfl (fun hc8 => ?_) (fun hc8 => ?_)
    · skip
      try simp only [nrm_] at hc8
      refine c_skip ?_
      refine q_then ?_
      refine c_seq ?_
      refine c_block ?_
      refine c_seq ?_
      obtain ⟨ab, ao, ac, rfl, has⟩ := hat.some_of (by omega)
      obtain ⟨bb, bo, bc, rfl, hbs⟩ := hby.some_of (by omega)
      obtain ⟨z, hz⟩ := take_lt (show i < ats.length by omega)
      obtain ⟨q, hq⟩ : ∃ q : Nat, z % 918 = (q : Int) := ⟨(z % 918).toNat, by omega⟩
      refine c_reg ?_
      refine s_y (Y_mv) rfl rfl ?_
      refine s_y (Y_mv) rfl rfl ?_
      refine s_y (Y_ia1 (n := i) rfl rfl Tryz.underlying23 sz3 rfl (by omega)) rfl rfl ?_
      refine s_y (Y_loadR (v := iv z) (i := i) rfl one3 has.ro (by omega) (by rw [List.getElem?_map, hz]; rfl)) rfl rfl ?_
      refine s_y (Y_mv) rfl rfl ?_
      refine s_y (Y_len rfl rfl Tryz.underlying24) rfl rfl ?_
      refine s_c (En_call (fun _ => rfl) Tryz.func18 rfl (by kernel_rfl) rfl) (fun w hH => l11within_d (by decide)) rfl rfl ?_
      rintro _ _ ⟨rfl, rfl⟩
      rw [show (((918 : Nat) : Int)) = 918 from rfl, hq]
      refine s_y (Y_as) rfl rfl ?_
      refine s_nil ?_
      refine q_then ?_
      refine c_rordS (L0 := [cB g cap bs]) sl_ [12] [(0, true), (1, true), (2, true), (3, true), (4, true), (5, true), (6, true), (7, true), (8, true), (9, true), (10, true), (11, true), (12, false)] (by kernel_rfl) (by kernel_rfl) (by kernel_rfl) (by kernel_rfl) rfl (by intro c a d v w h; cases d <;> exact h) rfl ?_
      simp only [mkOrd, List.filterMap_cons, List.filterMap_nil, List.getElem?_toArray, List.getElem?_cons_zero, List.getElem?_cons_succ, Option.map_some]
      refine o_y (Y_mv) rfl rfl ?_
      refine o_y (Y_mv) rfl rfl ?_
      refine o_y (Y_mv) rfl rfl ?_
      refine o_y (Y_mv) rfl rfl ?_
      refine o_y (Y_ia1 (n := q) rfl rfl Tryz.underlying24 sz5 rfl (by omega)) rfl rfl ?_
      refine o_y (Y_load (v := .int .u8 (byteAt bs q)) rfl one5 mm_ (by rw [Nat.zero_add]; exact byte_get (by omega))) rfl rfl ?_
      refine o_y (Y_mv) rfl rfl ?_
      refine o_y (Y_mv) rfl rfl ?_
      refine o_y (Y_ia1 (n := i) rfl rfl Tryz.underlying24 sz5 rfl (by omega)) rfl rfl ?_
      refine o_y (Y_loadR (v := .int .u8 (byteAt bys i)) (i := i) rfl one5 hbs.ro (by omega) (byte_get (by omega))) rfl rfl ?_
      refine o_y ((Y_addw rfl rfl).num (show _ = ((byteM (byteAt bs q + byteAt bys i)).toNat : Int) by rw [IntKind.wrap_u8, byteM_nat])) rfl rfl ?_
      refine o_y (Y_ia1 (n := q) rfl rfl Tryz.underlying24 sz5 rfl (by omega)) rfl rfl ?_
      refine o_s (S_st (cs' := (bs.set q (byteM (byteAt bs q + byteAt bys i))).map bv) rfl gt_ sz5 (by rfl) up_ (by rw [Nat.zero_add]; exact bv_set _ _ _) (by rw [List.length_map]; omega)) kp_ rfl ?_
      refine o_nil ?_
      refine q_bn ?_
      refine q_then ?_
      refine c_reg ?_
      refine s_y (Y_mv) rfl rfl ?_
      refine s_y ad_ rfl rfl ?_
      refine s_y (Y_as) rfl rfl ?_
      refine s_nil ?_
      refine hK (m - 1) (i + 1, bs.set q (byteM (byteAt bs q + byteAt bys i))) _ _ (by omega) ⟨by simp only; omega, by simp only; rw [List.length_set]; exact hbl⟩ ⟨rfl, trivial⟩ rfl (fun w h => h)
    · skip
      try simp only [nrm_] at hc8
      refine c_exit ?_
      repeat with_reducible refine q_te ?_
      refine q_exit ?_
      refine q_then ?_
      refine c_seq ?_
      refine c_meetQ (ks := [14, 84, 85, 86, 87, 88, 89, 90, 91, 92, 93, 94]) (tr := fun y : Nat => [(14, .slice (some ⟨g, 0, none⟩) y cap)]) (φ := fun y => y ≤ 918) (G := fun y => [cB g cap (bs.take y)]) (fun _ => rfl) ?_ ?_
      · rintro n j14 hn
        refine q_then ?_
        refine c_seq ?_
        refine c_reg ?_
        refine s_y (Y_mv) rfl rfl ?_
        refine s_y (Y_mv) rfl rfl ?_
        refine s_n (N_appV (hV := fun w hH => hmore.has hH) rfl rfl rfl Tryz.underlying24 inf5 rfl (by omega) se_ (by rw [List.length_map, List.length_take]; omega) (by omega) (bvs_one _) (by omega) (by omega)) rfl rfl (fun ⟨g97, cp97⟩ hc97 => ?_)
        refine s_y (Y_as) rfl rfl ?_
        refine s_nil ?_
        obtain ⟨bz, hbz⟩ : ∃ z, bs.take n ++ more = z := ⟨_, rfl⟩
        have hzl : n + more.length = bz.length := by rw [← hbz, List.length_append, List.length_take]; omega
        rw [hzl]
        rw [hzl] at hc97
        refine QL.conv (L' := [cB g97 cp97 bz]) (fun w h => by rw [← hbz, cB, List.map_append]; exact h) ?_
        refine q_then ?_
        refine c_seq ?_
        refine c_reg ?_
        refine s_n (N_bs0 rfl Tryz.underlying24 sz5) rfl rfl (fun b99 _ => ?_)
        refine s_y (Y_mv) rfl rfl ?_
        refine s_n (N_appE (m := bz.length) (news := bz.map bv) rfl rfl Tryz.underlying24 inf5 rfl (by omega) se_ (src mm_) (by simp) (bvs_one _) (by omega) (by omega)) rfl rfl (fun ⟨g101, cp101⟩ hc101 => ?_)
        refine s_c (En_call (fun _ => rfl) Tryz.func19 rfl (by kernel_rfl) rfl) (fun w hH => pdec_d ((hH.at' (x := cB g101 cp101 bz) mm_).sl (by rw [List.length_map, Nat.mul_one]) hc101) (by omega)) rfl rfl ?_
        rintro _ _ hD1
        rename_i lD1
        obtain ⟨c1, e1, i1, rfl, ho1, hr1, hs1⟩ := hD1.open
        refine QL.perm List.perm_append_comm ?_
        refine s_y (Y_mv) rfl rfl ?_
        refine s_y (Y_extract rfl rfl) rfl rfl ?_
        refine s_y (Y_extract rfl rfl) rfl rfl ?_
        refine s_n (N_alloc (z := .agg #[.int .i64 0, .int .i64 0, .int .i64 0, .int .i64 0, .slice none 0 0, .slice none 0 0, .slice none 0 0, .int .i64 0, .int .i64 0, .int .i64 0, .int .i64 0]) (cs := [.int .i64 0, .int .i64 0, .int .i64 0, .int .i64 0, .slice none 0 0, .slice none 0 0, .slice none 0 0, .int .i64 0, .int .i64 0, .int .i64 0, .int .i64 0]) zv34 rfl) rfl rfl (fun b18 _ => ?_)
        refine s_s (S_storeA (vs := wcV (decD bz) c1 e1 i1) rfl rfl sz34 (by rfl) ho1 up_ (by rfl)) rfl ?_
        refine s_y (Y_as) rfl rfl ?_
        refine s_nil ?_
        refine q_then ?_
        refine c_seq ?_
        refine c_reg ?_
        refine s_y (Y_mv) rfl rfl ?_
        refine s_c (En_call (fun _ => rfl) Tryz.func20 rfl (by kernel_rfl) rfl) (fun w hH => rdec_d ((hH.at' (x := cB g97 cp97 bz) mm_).sl (by rw [List.length_map, Nat.mul_one]) hc97) (by omega)) rfl rfl ?_
        rintro _ _ hD2
        rename_i lD2
        obtain ⟨c2, e2, i2, rfl, ho2, hr2, hs2⟩ := hD2.open
        refine QL.perm List.perm_append_comm ?_
        refine s_y (Y_mv) rfl rfl ?_
        refine s_y (Y_extract rfl rfl) rfl rfl ?_
        refine s_y (Y_extract rfl rfl) rfl rfl ?_
        refine s_n (N_alloc (z := .agg #[.int .i64 0, .int .i64 0, .int .i64 0, .int .i64 0, .slice none 0 0, .slice none 0 0, .slice none 0 0, .int .i64 0, .int .i64 0, .int .i64 0, .int .i64 0]) (cs := [.int .i64 0, .int .i64 0, .int .i64 0, .int .i64 0, .slice none 0 0, .slice none 0 0, .slice none 0 0, .int .i64 0, .int .i64 0, .int .i64 0, .int .i64 0]) zv34 rfl) rfl rfl (fun b20 _ => ?_)
        refine s_s (S_storeA (vs := wcV (decD bz) c2 e2 i2) rfl rfl sz34 (by rfl) ho2 up_ (by rfl)) rfl ?_
        refine s_y (Y_as) rfl rfl ?_
        refine s_nil ?_
        refine q_then ?_
        refine c_seq ?_
        refine c_seq ?_
        refine c_reg ?_
        refine s_y (Y_mv) rfl rfl ?_
        refine s_y (Y_mv) rfl rfl ?_
        refine s_y (Y_neq rfl rfl) rfl rfl ?_
        refine s_y (Y_mv) rfl rfl ?_
        apply s_or 5 [113, 114, 115, 116, 117, 118] 118 (g := 113) rfl rfl
        · intro ht4 hm
          try simp only [nrm_] at ht4
          first | refine s_y (Y_loadAll rfl many34 mm_ (by rfl)) rfl rfl ?_ | refine s_pass rfl rfl ?_
          first | refine s_y (Y_loadAll rfl many34 mm_ (by rfl)) rfl rfl ?_ | refine s_pass rfl rfl ?_
          refine s_c (En_call (fun _ => rfl) Tryz.func21 rfl (by kernel_rfl) rfl) (fun w hH => lsame_d (hr1 hH (fun x hx => by repeat (first | exact hx | exact List.mem_append_left _ hx | exact List.mem_append_right _ hx | apply List.Mem.tail | apply List.mem_append_right))) (hr2 hH (fun x hx => by repeat (first | exact hx | exact List.mem_append_left _ hx | exact List.mem_append_right _ hx | apply List.Mem.tail | apply List.mem_append_right)))) rfl rfl ?_
          rintro _ _ ⟨⟨q, rfl, hq⟩, rfl⟩
          obtain rfl : q = true := hq.2 rfl
          first | refine s_y (Y_not rfl) rfl rfl ?_ | refine s_pass rfl rfl ?_
          refine s_y (Y_pk rfl Gx.const (Gx.tmp gt_)) rfl rfl ?_
          first | exact hm _ ⟨rfl, trivial⟩ rfl | exact QL.sub sl_ (hm _ ⟨rfl, trivial⟩ rfl)
        · intro ht4 hm
          iterate 4 refine s_pass rfl rfl ?_
          refine s_y (Y_pk rfl Gx.const (Gx.tmp gt_)) rfl rfl ?_
          exact hm _ ⟨rfl, trivial⟩ rfl
        intro j118
        refine s_nil ?_
        refine q_then ?_
        refine c_F rfl ((by simp)) ?_
        refine c_skip ?_
        refine q_then ?_
        refine c_seq ?_
        refine c_seq ?_
        refine c_reg ?_
        refine s_y (Y_mv) rfl rfl ?_
        refine s_y (Y_eql rfl rfl) rfl rfl ?_
        refine s_nil ?_
        refine q_then ?_
        first | refine c_cond' rfl (fun hc19 => ?_) (fun hc19 => ?_) | refine c_cond rfl (fun hc19 => ?_) (fun hc19 => ?_)
        · skip
          try simp only [nrm_] at hc19
          refine c_seq ?_
          obtain ⟨s1, hsv, hsr⟩ := hs1 hc19
          obtain ⟨hl9, hck9⟩ := decE_ok hc19
          refine c_reg ?_
          refine s_y (Y_loadAll rfl many34 mm_ (by rfl)) rfl rfl ?_
          refine s_c (f := 22) (vs := [.agg (wv (decM bz) s1).toArray]) (by rw [← hsv]; exact En_call (fun _ => rfl) Tryz.func22 rfl (by kernel_rfl) rfl) (fun w hH => penc_d (hsr hH (fun x hx => by repeat (first | exact hx | exact List.mem_append_left _ hx | exact List.mem_append_right _ hx | apply List.Mem.tail | apply List.mem_append_right))) (dec_ok bz)) rfl rfl ?_
          rintro _ _ hE
          rcases hE with ⟨h, _⟩ | ⟨_, g9, cap9, rfl, rfl, hcap9⟩
          · exact absurd hck9 h
          refine s_y (Y_mv) rfl rfl ?_
          refine s_y (Y_extract rfl rfl) rfl rfl ?_
          refine s_y (Y_extract rfl rfl) rfl rfl ?_
          refine s_y (Y_as) rfl rfl ?_
          refine s_y (Y_as) rfl rfl ?_
          refine s_nil ?_
          refine q_then ?_
          refine c_seq ?_
          refine c_reg ?_
          refine s_y (Y_mv) rfl rfl ?_
          refine s_y (Y_eql rfl rfl) rfl rfl ?_
          refine s_y (Y_mv) rfl rfl ?_
          apply s_and 6 [128, 129, 130, 131, 132, 133, 134] 134 (g := 128) rfl rfl
          · intro ht3 hm
            try simp only [nrm_] at ht3
            first | refine s_y (Y_mv) rfl rfl ?_ | refine s_pass rfl rfl ?_
            first | refine s_y (Y_bs rfl Tryz.underlying24 Tryz.underlying5 Tryz.underlying9 (fun w hH => bytesL (xs := encW (decM bz)) mm_ hH)) rfl rfl ?_ | refine s_pass rfl rfl ?_
            first | refine s_y (Y_mv) rfl rfl ?_ | refine s_pass rfl rfl ?_
            first | refine s_y (Y_bs rfl Tryz.underlying24 Tryz.underlying5 Tryz.underlying9 (fun w hH => bytesL (xs := bz) mm_ hH)) rfl rfl ?_ | refine s_pass rfl rfl ?_
            first | refine s_y (Y_eqS rfl rfl) rfl rfl ?_ | refine s_pass rfl rfl ?_
            refine s_y (Y_pk rfl (Gx.tmp gt_) Gx.const) rfl rfl ?_
            first | exact hm _ ⟨rfl, trivial⟩ rfl | exact QL.sub sl_ (hm _ ⟨rfl, trivial⟩ rfl)
          · intro ht3 hm
            iterate 5 refine s_pass rfl rfl ?_
            refine s_y (Y_pk rfl (Gx.tmp gt_) Gx.const) rfl rfl ?_
            exact hm _ ⟨rfl, trivial⟩ rfl
          intro j134
          refine s_y (Y_as) rfl rfl ?_
          refine s_nil ?_
          refine q_then ?_
          refine c_ret ?_
          refine q_retG1 rfl gt_ (L' := _) sl_ (⟨by rw [enc_dec hl9]; simp, rfl⟩)
        · skip
          try simp only [nrm_] at hc19
          refine c_skip ?_
          refine q_then ?_
          refine c_seq ?_
          refine c_reg ?_
          refine s_y (Y_asC) rfl rfl ?_
          refine s_nil ?_
          refine q_then ?_
          refine c_ret ?_
          refine q_retG1 rfl gt_ (L' := _) sl_ (⟨rfl, rfl⟩)
      · intro go
        refine c_seq ?_
        refine c_reg ?_
        refine s_y (Y_mv) rfl rfl ?_
        refine s_y (Y_gtr rfl rfl) rfl rfl ?_
        refine s_nil ?_
        refine q_then ?_
        first | refine c_cond' rfl (fun hc12 => ?_) (fun hc12 => ?_) | refine c_cond rfl (fun hc12 => ?_) (fun hc12 => ?_)
        · skip
          try simp only [nrm_] at hc12
          refine c_reg ?_
          refine s_y (Y_mv) rfl rfl ?_
          refine s_y (Y_mv) rfl rfl ?_
          refine s_y (Y_len rfl rfl Tryz.underlying24) rfl rfl ?_
          refine s_y (Y_mv) rfl rfl ?_
          refine s_y (Y_mv) rfl rfl ?_
          refine s_y (Y_len rfl rfl Tryz.underlying24) rfl rfl ?_
          refine s_c (En_call (fun _ => rfl) Tryz.func18 rfl (by kernel_rfl) rfl) (fun w hH => l11within_d (by decide)) rfl rfl ?_
          rintro _ _ ⟨rfl, rfl⟩
          obtain ⟨q, hq⟩ : ∃ q : Nat, cut % ((918 : Nat) : Int) = (q : Int) := ⟨(cut % 918).toNat, by omega⟩
          rw [hq]
          refine s_y su_ rfl rfl ?_
          refine s_y (Y_slHi (h := 918 - q) rfl rfl Tryz.underlying24 sz5 (by omega) (by omega)) rfl rfl ?_
          refine s_y (Y_as) rfl rfl ?_
          refine s_nil ?_
          exact go (918 - q) _ _ (by omega) ⟨rfl, trivial⟩ rfl (fun w h => h.pre (map_take_pre _ _ _))
        · skip
          try simp only [nrm_] at hc12
          refine c_skip ?_
          exact go 918 _ _ (Nat.le_refl _) ⟨rfl, trivial⟩ rfl (fun w h => h.pre (map_take_pre _ _ _))
end
end Go.Proofs.YtcogbkkdccohfaaGreat
namespace Go.Ad
open Go.RowKit Go.Maps
section
variable {H : Type} {enc : TypeId × Value → H} {P : Program} {W : World} {base : Nat} {sp : Nat → Bool} {held : Bool} {fuel : Nat} {t e : TypeId} {a : Option Addr} {len cap : Nat} {x : DataW H × List MemPlace}
theorem slice_caps (ht : P.underlying t = some (.slice e)) (h : DataW.trod enc P W base sp held fuel t [.slice a len cap] = some x) : len ≤ cap ∧ cap ≤ maxLen := by
  rcases slice_inv ht h with ⟨_, rfl, rfl, _⟩ | ⟨ad, ds, rest, fuel', rfl, h1, h2, _⟩
  · exact ⟨Nat.le_refl _, by unfold maxLen; omega⟩
  · exact ⟨h1, h2⟩
theorem intsV_of (ht : P.underlying t = some (.slice e)) (he : P.cellsOf e = 1) (hb : P.underlying e = some (.int .i64)) (h : DataW.trod enc P W base sp held fuel t [.slice a len cap] = some x) : ∃ zs : List Int, SlV W 1 (.slice a len cap) len (zs.map iv) := by
  obtain ⟨hc1, hc2⟩ := slice_caps ht h
  obtain ⟨vs, f', h1, h2, h3, h4⟩ := slice_range ht he h
  have : ∃ zs : List Int, vs = zs.map (Value.int .i64) := by
    clear h1 h4
    induction vs with
    | nil => exact ⟨[], rfl⟩
    | cons v r ih =>
      obtain ⟨zs, rfl⟩ := ih (fun v hv => h3 v (by simp [hv]))
      obtain ⟨y, hy⟩ := h3 v (by simp)
      obtain ⟨b, hb1, _⟩ := DataW.trod_int hb hy
      exact ⟨b :: zs, by simpa using hb1⟩
  obtain ⟨zs, rfl⟩ := this
  refine ⟨zs, ?_⟩
  rcases h4 with h4 | ⟨b, o, rfl, hb', hr⟩
  · have h5 : zs = [] := by simpa using h4
    subst h5
    obtain rfl : len = 0 := by simpa using h1.symm
    exact .zero
  · exact .some ⟨by rw [Nat.mul_one]; exact h1, hc1, hc2, hb', hr⟩
end
end Go.Ad
namespace Go.Proofs.YtcogbkkdccohfaaGreat
open Go.RowKit Go.Ad Go.Maps
end Go.Proofs.YtcogbkkdccohfaaGreat
namespace Go.Ad
open Go.RowKit Go.Maps
section
variable {H : Type} {enc : TypeId × Value → H} {P : Program} {W : World} {base : Nat} {sp : Nat → Bool} {held : Bool} {fuel : Nat} {t e : TypeId} {a : Option Addr} {len cap : Nat} {x : DataW H × List MemPlace}
theorem slice_is (ht : P.underlying t = some (.slice e)) {v : Value} (h : DataW.trod enc P W base sp held fuel t [v] = some x) : ∃ a n c, v = .slice a n c := by
  rcases DataW.trod_slice ht h with ⟨h1, _⟩ | ⟨a, len, cap, _, _, _, _, h1, _⟩
  · exact ⟨none, 0, 0, by simpa using h1⟩
  · exact ⟨some a, len, cap, by simpa using h1⟩
theorem bytesV_of (ht : P.underlying t = some (.slice e)) (he : P.cellsOf e = 1) (hb : P.underlying e = some (.int .u8)) (h : DataW.trod enc P W base sp held fuel t [.slice a len cap] = some x) : ∃ zs : List UInt8, SlV W 1 (.slice a len cap) len (zs.map bv) := by
  obtain ⟨hc1, hc2⟩ := slice_caps ht h
  obtain ⟨vs, f', h1, h2, h3, h4⟩ := slice_range ht he h
  have : ∃ zs : List UInt8, vs = zs.map bv := by
    clear h1 h4
    induction vs with
    | nil => exact ⟨[], rfl⟩
    | cons v r ih =>
      obtain ⟨zs, rfl⟩ := ih (fun v hv => h3 v (by simp [hv]))
      obtain ⟨y, hy⟩ := h3 v (by simp)
      obtain ⟨b, hb1, _, hb3⟩ := DataW.trod_int hb hy
      have hb1 : v = .int .u8 b := by simpa using hb1
      exact ⟨UInt8.ofNat b.toNat :: zs, by rw [List.map_cons, hb1, u8_of_wf hb3]⟩
  obtain ⟨zs, rfl⟩ := this
  refine ⟨zs, ?_⟩
  rcases h4 with h4 | ⟨b, o, rfl, hb', hr⟩
  · have h5 : zs = [] := by simpa using h4
    subst h5
    obtain rfl : len = 0 := by simpa using h1.symm
    exact .zero
  · exact .some ⟨by rw [Nat.mul_one]; exact h1, hc1, hc2, hb', hr⟩
theorem lls_of {e2 : TypeId} (ht : P.underlying t = some (.slice e)) (he : P.cellsOf e = 1) (ht2 : P.underlying e = some (.slice e2)) (he2 : P.cellsOf e2 = 1) (hb : P.underlying e2 = some (.int .i64)) (h : DataW.trod enc P W base sp held fuel t [.slice a len cap] = some x) : ∃ ls : List (List Int), ls.length = len ∧ Lls W (.slice a len cap) ls := by
  obtain ⟨hc1, hc2⟩ := slice_caps ht h
  obtain ⟨vs, f', h1, h2, h3, h4⟩ := slice_range ht he h
  have : ∃ ls : List (List Int), ls.length = vs.length ∧ ∀ (i : Nat) (l : List Int), ls[i]? = some l → ∃ vi, vs[i]? = some vi ∧ SlV W 1 vi l.length (l.map iv) := by
    clear h1 h4
    induction vs with
    | nil => exact ⟨[], rfl, fun i l h => by simp at h⟩
    | cons v r ih =>
      obtain ⟨ls, hl, hi⟩ := ih (fun v hv => h3 v (by simp [hv]))
      obtain ⟨y, hy⟩ := h3 v (by simp)
      obtain ⟨a1, n1, c1, rfl⟩ := slice_is ht2 hy
      obtain ⟨zs, hz⟩ := intsV_of ht2 he2 hb hy
      have hzl : zs.length = n1 := by have := hz.len; simpa using this
      refine ⟨zs :: ls, by simp [hl], fun i l h => ?_⟩
      cases i with
      | zero =>
        obtain rfl : zs = l := by simpa using h
        exact ⟨_, rfl, by rw [hzl]; exact hz⟩
      | succ i => exact hi i l (by simpa using h)
  obtain ⟨ls, hl, hi⟩ := this
  refine ⟨ls, by omega, vs, ?_, hi⟩
  rcases h4 with h4 | ⟨b, o, rfl, hb', hr⟩
  · subst h4
    obtain rfl : len = 0 := by simpa using h1.symm
    obtain rfl : ls = [] := List.eq_nil_of_length_eq_zero hl
    exact .zero
  · rw [hl, h1]
    exact .some ⟨by rw [Nat.mul_one]; exact h1, hc1, hc2, hb', hr⟩
end
end Go.Ad
