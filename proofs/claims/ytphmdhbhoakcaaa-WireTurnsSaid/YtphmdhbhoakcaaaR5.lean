/- The reader: up, chunk. -/
import Derived.Test.YtphmdhbhoakcaaaR4
namespace Go.Proofs.Ytphmdhbhoakcaaa
open Go.RowKit Go.Ad Go.Maps
set_option linter.unusedVariables false
set_option linter.unusedSimpArgs false
/-- The value of a row: its block is one of these. -/
def InRow (v : Value) (bl : List Bk) (o : Option (List Int)) : Prop :=
  match o with
  | none => v = .slice none 0 0
  | some zs => ∃ g, ⟨g, 3, 1, zs.length, zs.map (Value.int .i64)⟩ ∈ bl ∧ v = .slice (some ⟨g, 0, none⟩) zs.length zs.length
theorem InRow.mono {v : Value} {bl bl' : List Bk} {o : Option (List Int)} (h : InRow v bl o) (hs : ∀ x ∈ bl, x ∈ bl') : InRow v bl' o := by
  cases o with
  | none => exact h
  | some zs => obtain ⟨g, h1, h2⟩ := h; exact ⟨g, hs _ h1, h2⟩
def InStr (v : Value) (bl : List Bk) (o : Option (Nat × List Value)) : Prop :=
  match o with
  | none => v = .slice none 0 0
  | some p => ∃ g, ⟨g, 37, 5, p.1, p.2⟩ ∈ bl ∧ v = .slice (some ⟨g, 0, none⟩) p.1 p.1
theorem InStr.mono {v : Value} {bl bl' : List Bk} {o : Option (Nat × List Value)} (h : InStr v bl o) (hs : ∀ x ∈ bl, x ∈ bl') : InStr v bl' o := by
  cases o with
  | none => exact h
  | some zs => obtain ⟨g, h1, h2⟩ := h; exact ⟨g, hs _ h1, h2⟩
theorem Does.perm {P : Program} {f : FuncId} {args : List Value} {W : World} {M : List Nat} {Post Post' : Value → List Bk → Prop} (h : Does P f args W M Post) (hp : ∀ v L, Post v L → ∃ L', Post' v L' ∧ List.Perm L' L) : Does P f args W M Post' :=
  Calls.mono h fun _ _ ⟨v, L, h1, h2, h3⟩ => by
    obtain ⟨L', h4, h5⟩ := hp v L h3
    exact ⟨v, L', h1, h2.perm h5, h4⟩
theorem set_same {c : List Value} {j : Nat} {v : Value} (h : c[j]? = some v) : c.set j v = c := by
  refine List.ext_getElem? fun i => ?_
  by_cases hij : j = i
  · subst hij; rw [List.getElem?_set_self (List.getElem?_eq_some_iff.1 h).1, h]
  · rw [List.getElem?_set_ne hij]
section
variable {W : World} {b : Nat} {a a' : Option Addr} {n c k : Nat} {e : Int} {bs : List UInt8} {y : Bk} {j : Nat} {u0 : Value}
theorem row_d' (hk : RdAt a n c k a') (hx : (rd b a' n c k e).holds W) (hy : y.holds W) (hne : b ≠ y.b) (hs : Src W [b, y.b] a n c bs) (hj : y.c[j]? = some (.slice none 0 0)) :
    Does Try.prog 48 [.iface 67 (ptr b), ptrAt y.b j] W [b, y.b] (fun v L => v = .tuple #[] ∧ ∃ x u bl, Rds b a n c (rdRow bs k e).2.1 (rdRow bs k e).2.2 x ∧ L = x :: { y with c := y.c.set j u } :: bl ∧ InRow u bl (rdRow bs k e).1) :=
  Does.perm (row_d hk hx hy hne hs hj) fun v L ⟨h1, x, h2, h3⟩ => by
    cases hr : (rdRow bs k e).1 with
    | none =>
      rw [hr] at h3
      refine ⟨_, ⟨h1, x, .slice none 0 0, [], h2, rfl, rfl⟩, ?_⟩
      rw [set_same hj]
      obtain rfl : L = [x, y] := h3
      exact .refl _
    | some zs =>
      rw [hr] at h3
      obtain ⟨g, rfl⟩ := h3
      exact ⟨_, ⟨h1, x, _, [_], h2, rfl, g, List.Mem.head _, rfl⟩, .cons _ (.swap _ _ _)⟩
theorem stream_d' (hk : RdAt a n c k a') (hx : (rd b a' n c k e).holds W) (hy : y.holds W) (hne : b ≠ y.b) (hs : Src W [b, y.b] a n c bs) (hj : y.c[j]? = some (.slice none 0 0)) :
    Does Try.prog 49 [.iface 67 (ptr b), ptrAt y.b j] W [b, y.b] (fun v L => v = .tuple #[] ∧ ∃ x u bl, Rds b a n c (rdStream bs k e).2.1 (rdStream bs k e).2.2 x ∧ L = x :: { y with c := y.c.set j u } :: bl ∧ InStr u bl (rdStream bs k e).1) :=
  Does.perm (stream_d hk hx hy hne hs hj) fun v L ⟨h1, x, h2, h3⟩ => by
    cases hr : (rdStream bs k e).1 with
    | none =>
      rw [hr] at h3
      refine ⟨_, ⟨h1, x, .slice none 0 0, [], h2, rfl, rfl⟩, ?_⟩
      rw [set_same hj]
      obtain rfl : L = [x, y] := h3
      exact .refl _
    | some p =>
      rw [hr] at h3
      obtain ⟨g, rfl⟩ := h3
      exact ⟨_, ⟨h1, x, _, [_], h2, rfl, g, List.Mem.head _, rfl⟩, .cons _ (.swap _ _ _)⟩
theorem rdNums_app (bs : List UInt8) : ∀ (js ks : List Nat) (c : List Value) (k : Nat) (e : Int), rdNums bs (js ++ ks) c k e = rdNums bs ks (rdNums bs js c k e).1 (rdNums bs js c k e).2.1 (rdNums bs js c k e).2.2
  | [], _, _, _, _ => rfl
  | j :: js, ks, c, k, e => by rw [List.cons_append, rdNums, rdNums_app bs js ks]; rfl
theorem rdNums_at {bs : List UInt8} {i : Nat} {v : Value} : ∀ (js : List Nat) {c : List Value} {k : Nat} {e : Int}, i ∉ js → c[i]? = some v → (rdNums bs js c k e).1[i]? = some v
  | [], _, _, _, _, h => h
  | j :: js, c, k, e, hn, h => rdNums_at js (fun hm => hn (List.Mem.tail _ hm)) (by rw [List.getElem?_set_ne (fun he => hn (by rw [he]; exact List.Mem.head _))]; exact h)
theorem rdNums_one (bs : List UInt8) (j : Nat) (c : List Value) (k : Nat) (e : Int) : rdNums bs [j] c k e = (c.set j (.int .i64 (rdNum bs 4 0 1073741823 k e).1), (rdNum bs 4 0 1073741823 k e).2) := rfl
/-! ### KUp -/
def upR (bs : List UInt8) (c : List Value) (k : Nat) (e : Int) : List Value × Nat × Int :=
  let r := rdRaw bs 4 k e
  rdNums bs [5, 6, 7, 8, 9, 10, 11] (c.set 4 (.int .u32 r.1)) r.2.1 r.2.2
set_option maxRecDepth 100000 in
theorem up_d (hk : RdAt a n c k a') (hx : (rd b a' n c k e).holds W) (hy : y.holds W) (hne : b ≠ y.b) (hs : Src W [b, y.b] a n c bs) (h4 : y.c[4]? = some (.int .u32 0)) (hj : ∀ i, 5 ≤ i → i < 12 → IntAt y.c i) (h12 : y.c[12]? = some (.slice none 0 0)) :
    Does Try.prog 42 [.iface 67 (ptr b), ptr y.b] W [b, y.b] (fun v L => v = .tuple #[] ∧ ∃ x u bl, Rds b a n c (rdRow bs (upR bs y.c k e).2.1 (upR bs y.c k e).2.2).2.1 (rdRow bs (upR bs y.c k e).2.1 (upR bs y.c k e).2.2).2.2 x ∧ L = x :: { y with c := (upR bs y.c k e).1.set 12 u } :: bl ∧ InRow u bl (rdRow bs (upR bs y.c k e).2.1 (upR bs y.c k e).2.2).1) := by
  obtain ⟨yb, yt, yk, ycap, yc⟩ := y
  simp only at hne hs hj h4 h12 ⊢
  have h4l : 4 < yc.length := (List.getElem?_eq_some_iff.1 h4).1
  have hlt := rdRaw_lt bs (m := 4) (by omega) k e
  refine enter Try.func42 rfl rfl rfl (Has.starts (xs := [rd b a' n c k e, ⟨yb, yt, yk, ycap, yc⟩]) (by simp; exact ⟨hx, hy⟩) (by simpa using hne)) ?_
  refine c_seq ?_
  refine c_reg ?_
  refine s_y (Y_mv) rfl rfl ?_
  refine s_y ((by first | exact Y_nil rfl | exact Y_nilF rfl | exact Y_nilM rfl (by assumption) | exact Y_nilM rfl (by intro w k; kernel_rfl))) rfl rfl ?_
  refine s_y (Y_fa 4 rfl Try.underlying29 rfl sz22 rfl) rfl rfl ?_
  refine s_y ((by first | exact Y_load rfl one22 (by repeat (first | exact List.Mem.head _ | assumption | apply List.Mem.tail | apply List.mem_append_right)) (by rfl) | exact Y_load rfl one22 (by repeat (first | exact List.Mem.head _ | assumption | apply List.Mem.tail | apply List.mem_append_right)) (by assumption) | exact Y_loadR rfl one22 (by assumption) rfl (by assumption))) rfl rfl ?_
  refine s_y ((by first | exact Y_conv rfl Try.underlying22 Try.underlying90 (by first | exact i64_u8 _ | exact u64_u8 _ | exact i64_id (by omega) | exact u64_id (by omega) | exact u8_id (by omega) | exact u32_id (by omega)) | exact Y_convw rfl Try.underlying22 Try.underlying90)) rfl rfl ?_
  refine s_n (N_alloc (z := .int .u64 0) (cs := [.int .u64 0]) zv90 rfl) rfl rfl (fun b4 _ => ?_)
  refine s_s (S_st rfl (by repeat (first | exact Gt.here | apply Gt.there (by rfl) | exact Gt.base (by rfl))) sz90 (by rfl) (by repeat (first | exact Upd.head | apply Upd.tail)) (by first | (simp only [Nat.zero_add, Nat.reduceAdd, List.set_cons_succ, List.set_cons_zero]; rfl) | rfl) (by first | (simp; done) | omega)) rfl ?_
  refine s_nil ?_
  refine q_then ?_
  refine c_seq ?_
  -- wire.go:213
  refine c_reg ?_
  refine s_y (Y_mv) rfl rfl ?_
  refine s_cm [rd b a' n c k e, u64B b4 0] (En_inv rfl rfl (by intro w; kernel_rfl)) (by repeat (first | exact Sels.nil | apply Sels.cons (by repeat (first | exact Sel.head | apply Sel.tail)))) (fun w hH => raw_d (m := 4) (y := u64B b4 0) (by omega) (by omega) hk (hH.at' (by repeat (first | exact List.Mem.head _ | assumption | apply List.Mem.tail | apply List.mem_append_right))) (hH.at' (by repeat (first | exact List.Mem.head _ | assumption | apply List.Mem.tail | apply List.mem_append_right))) (ne2 (rd b a' n c k e) (u64B b4 0) hH (by repeat (first | exact Sels.nil | apply Sels.cons (by repeat (first | exact Sel.head | apply Sel.tail))))) (hs.call2 (rd b a' n c k e) (u64B b4 0) hH (by repeat (first | exact Sels.nil | apply Sels.cons (by repeat (first | exact Sel.head | apply Sel.tail))))) rfl) rfl rfl ?_
  rintro _ _ ⟨rfl, _, ⟨a2, rfl, hk2⟩, rfl⟩
  have hR : upR bs yc k e = upR bs yc k e := rfl
  conv at hR => rhs; unfold upR
  generalize rdRaw bs 4 k e = r at *
  obtain ⟨z1, k1, e1⟩ := r
  simp only at hk2 hR hlt
  refine s_nil ?_
  refine q_then ?_
  refine c_seq ?_
  -- wire.go:214
  refine c_reg ?_
  refine s_y (Y_mv) rfl rfl ?_
  refine s_y ((by first | exact Y_load rfl one90 (by repeat (first | exact List.Mem.head _ | assumption | apply List.Mem.tail | apply List.mem_append_right)) (by rfl) | exact Y_load rfl one90 (by repeat (first | exact List.Mem.head _ | assumption | apply List.Mem.tail | apply List.mem_append_right)) (by assumption) | exact Y_loadR rfl one90 (by assumption) rfl (by assumption))) rfl rfl ?_
  refine s_y ((by first | exact Y_conv rfl Try.underlying90 Try.underlying22 (by first | exact i64_u8 _ | exact u64_u8 _ | exact i64_id (by omega) | exact u64_id (by omega) | exact u8_id (by omega) | exact u32_id (by omega)) | exact Y_convw rfl Try.underlying90 Try.underlying22)) rfl rfl ?_
  refine s_y ((by first | exact Y_nil rfl | exact Y_nilF rfl | exact Y_nilM rfl (by assumption) | exact Y_nilM rfl (by intro w k; kernel_rfl))) rfl rfl ?_
  refine s_y (Y_fa 4 rfl Try.underlying29 rfl sz22 rfl) rfl rfl ?_
  refine s_s (S_st rfl (by repeat (first | exact Gt.here | apply Gt.there (by rfl) | exact Gt.base (by rfl))) sz22 (by rfl) (by repeat (first | exact Upd.head | apply Upd.tail)) rfl (by simp [h4l])) rfl ?_
  refine s_nil ?_
  refine q_then ?_
  refine c_seq ?_
  -- wire.go:215
  have hI : ∀ i, 5 ≤ i → i < 12 → IntAt (yc.set 4 (.int .u32 z1)) i := fun i h1 h2 => by
    obtain ⟨q, hq⟩ := hj i h1 h2
    exact ⟨q, by rw [List.getElem?_set_ne (by omega)]; exact hq⟩
  have hN : (yc.set 4 (.int .u32 z1))[12]? = some (.slice none 0 0) := by rw [List.getElem?_set_ne (by omega)]; exact h12
  generalize yc.set 4 (.int .u32 z1) = C at *
  have hA : ∀ js ks : List Nat, rdNums bs (js ++ ks) C k1 e1 = rdNums bs ks (rdNums bs js C k1 e1).1 (rdNums bs js C k1 e1).2.1 (rdNums bs js C k1 e1).2.2 := fun js ks => rdNums_app bs js ks C k1 e1
  refine c_reg ?_
  refine s_y (Y_mv) rfl rfl ?_
  refine s_y (Y_mv) rfl rfl ?_
  refine s_y ((by first | exact Y_nil rfl | exact Y_nilF rfl | exact Y_nilM rfl (by assumption) | exact Y_nilM rfl (by intro w k; kernel_rfl))) rfl rfl ?_
  refine s_y (Y_fa 5 rfl Try.underlying29 rfl sz3 rfl) rfl rfl ?_
  refine s_n (N_bs (xs := [.tmp 21]) (by repeat (first | exact Gv.nil | apply Gv.const | apply Gv.tmp (by repeat (first | exact Gt.here | apply Gt.there (by rfl) | exact Gt.base (by rfl))))) rfl Try.underlying88 inf83 rfl (by omega) (by omega) (by first | simp [Value.oneCell'] | (intro v hv; simp at hv; subst hv; rfl))) rfl rfl (fun b22 _ => ?_)
  refine s_cm [rd b a2 n c k1 e1, ⟨yb, yt, yk, ycap, C⟩] (En_call (fun _ => rfl) Try.func40 rfl (by kernel_rfl) rfl) (by repeat (first | exact Sels.nil | apply Sels.cons (by repeat (first | exact Sel.head | apply Sel.tail)))) (fun w hH => plain_d (y := ⟨yb, yt, yk, ycap, C⟩) (js := [5]) hk2 (hH.at' (by repeat (first | exact List.Mem.head _ | assumption | apply List.Mem.tail | apply List.mem_append_right))) (hH.at' (by repeat (first | exact List.Mem.head _ | assumption | apply List.Mem.tail | apply List.mem_append_right))) hne (hs.call2 (rd b a2 n c k1 e1) ⟨yb, yt, yk, ycap, C⟩ hH (by repeat (first | exact Sels.nil | apply Sels.cons (by repeat (first | exact Sel.head | apply Sel.tail))))) rfl (by omega) (hH.at' (by repeat (first | exact List.Mem.head _ | assumption | apply List.Mem.tail | apply List.mem_append_right))).ro (by simp; exact ⟨ne2 ⟨b22, 83, 1, 1, [ptrAt yb 5]⟩ (rd b a2 n c k1 e1) hH (by repeat (first | exact Sels.nil | apply Sels.cons (by repeat (first | exact Sel.head | apply Sel.tail)))), ne2 ⟨b22, 83, 1, 1, [ptrAt yb 5]⟩ ⟨yb, yt, yk, ycap, C⟩ hH (by repeat (first | exact Sels.nil | apply Sels.cons (by repeat (first | exact Sel.head | apply Sel.tail))))⟩) (by simp; exact hI 5 (by omega) (by omega))) rfl rfl ?_
  rintro _ _ ⟨rfl, _, ⟨a3, rfl, hk3⟩, rfl⟩
  refine s_nil ?_
  refine q_then ?_
  refine c_seq ?_
  refine c_seq ?_
  -- wire.go:216
  refine c_reg ?_
  refine s_y (Y_mvC) rfl rfl ?_
  refine s_nil ?_
  refine q_then ?_
  refine c_block ?_
  have hI2 : ∀ js i, 5 ≤ i → i < 12 → IntAt (rdNums bs js C k1 e1).1 i := fun js i h1 h2 => rdNums_int js (hI i h1 h2)
  generalize hF : rdNums bs [5] C k1 e1 = f5 at *
  refine c_loop [5, 24, 25, 26, 27, 28, 29, 30, 31, 32, 33, 34, 35] (fun n2 (p : Nat × Option Addr × List Bk) => p.1 + n2 = 4 ∧ RdAt a n c (rdNums bs ([5] ++ [6, 7, 8, 9].take p.1) C k1 e1).2.1 p.2.1) (fun p => [(24, .int .i64 (p.1 : Int))])
    (fun p => rd b p.2.1 n c (rdNums bs ([5] ++ [6, 7, 8, 9].take p.1) C k1 e1).2.1 (rdNums bs ([5] ++ [6, 7, 8, 9].take p.1) C k1 e1).2.2 :: ⟨yb, yt, yk, ycap, (rdNums bs ([5] ++ [6, 7, 8, 9].take p.1) C k1 e1).1⟩ :: p.2.2) 4 (0, a3, []) ⟨by omega, by simpa [hF] using hk3⟩ ⟨rfl, trivial⟩ (fun w h => ?_) (fun _ => rfl) ?_
  · have h2 := h.sub (L' := [_, _]) (by repeat (first | exact List.Sublist.refl _ | exact List.nil_sublist _ | apply List.Sublist.cons_cons | apply List.Sublist.cons))
    simpa [hF] using h2
  rintro n2 ⟨i, a4, bl⟩ jj ⟨hi, hk4⟩ K hK
  refine c_seq ?_
  -- wire.go:216
  refine c_reg ?_
  refine s_y (Y_lss rfl rfl) rfl rfl ?_
  refine s_nil ?_
  refine q_then ?_
  refine c_seq ?_
  refine c_cond' rfl (fun h => ?_) (fun h => ?_)
  · have hi4 : i < 4 := by omega
    have hS : rdNums bs ([5] ++ [6, 7, 8, 9].take (i + 1)) C k1 e1 = rdNums bs [0 + 6 + i * 1] (rdNums bs ([5] ++ [6, 7, 8, 9].take i) C k1 e1).1 (rdNums bs ([5] ++ [6, 7, 8, 9].take i) C k1 e1).2.1 (rdNums bs ([5] ++ [6, 7, 8, 9].take i) C k1 e1).2.2 := by
      rw [← hA]
      congr 1
      obtain rfl | rfl | rfl | rfl : i = 0 ∨ i = 1 ∨ i = 2 ∨ i = 3 := by omega
      all_goals rfl
    have hI3 := hI2 ([5] ++ [6, 7, 8, 9].take i) (0 + 6 + i * 1) (by omega) (by omega)
    generalize rdNums bs ([5] ++ [6, 7, 8, 9].take i) C k1 e1 = r at *
    obtain ⟨C2, k2, e2⟩ := r
    simp only at hk4 hS hI3 ⊢
    refine c_skip ?_
    refine q_then ?_
    refine c_seq ?_
    refine c_block ?_
    refine c_seq ?_
    -- wire.go:216
    refine c_reg ?_
    refine s_y (Y_mv) rfl rfl ?_
    refine s_y (Y_as) rfl rfl ?_
    refine s_nil ?_
    refine q_then ?_
    -- wire.go:217
    refine c_reg ?_
    refine s_y (Y_mv) rfl rfl ?_
    refine s_y (Y_mv) rfl rfl ?_
    refine s_y (Y_mv) rfl rfl ?_
    refine s_y ((by first | exact Y_nil rfl | exact Y_nilF rfl | exact Y_nilM rfl (by assumption) | exact Y_nilM rfl (by intro w k; kernel_rfl))) rfl rfl ?_
    refine s_y (Y_fa 6 rfl Try.underlying29 rfl sz23 rfl) rfl rfl ?_
    refine s_y (Y_iaA rfl rfl Try.underlying23 sz3 rfl (by omega)) rfl rfl ?_
    refine s_n (N_bs (xs := [.tmp 32]) (by repeat (first | exact Gv.nil | apply Gv.const | apply Gv.tmp (by repeat (first | exact Gt.here | apply Gt.there (by rfl) | exact Gt.base (by rfl))))) rfl Try.underlying88 inf83 rfl (by omega) (by omega) (by first | simp [Value.oneCell'] | (intro v hv; simp at hv; subst hv; rfl))) rfl rfl (fun b33 _ => ?_)
    refine s_cm [rd b a4 n c k2 e2, ⟨yb, yt, yk, ycap, C2⟩] (En_call (fun _ => rfl) Try.func40 rfl (by kernel_rfl) rfl) (by repeat (first | exact Sels.nil | apply Sels.cons (by repeat (first | exact Sel.head | apply Sel.tail)))) (fun w hH => plain_d (y := ⟨yb, yt, yk, ycap, C2⟩) (js := [0 + 6 + i * 1]) hk4 (hH.at' (by repeat (first | exact List.Mem.head _ | assumption | apply List.Mem.tail | apply List.mem_append_right))) (hH.at' (by repeat (first | exact List.Mem.head _ | assumption | apply List.Mem.tail | apply List.mem_append_right))) hne (hs.call2 (rd b a4 n c k2 e2) ⟨yb, yt, yk, ycap, C2⟩ hH (by repeat (first | exact Sels.nil | apply Sels.cons (by repeat (first | exact Sel.head | apply Sel.tail))))) rfl (by omega) (hH.at' (by repeat (first | exact List.Mem.head _ | assumption | apply List.Mem.tail | apply List.mem_append_right))).ro (by simp; exact ⟨ne2 ⟨b33, 83, 1, 1, [ptrAt yb (0 + 6 + i * 1)]⟩ (rd b a4 n c k2 e2) hH (by repeat (first | exact Sels.nil | apply Sels.cons (by repeat (first | exact Sel.head | apply Sel.tail)))), ne2 ⟨b33, 83, 1, 1, [ptrAt yb (0 + 6 + i * 1)]⟩ ⟨yb, yt, yk, ycap, C2⟩ hH (by repeat (first | exact Sels.nil | apply Sels.cons (by repeat (first | exact Sel.head | apply Sel.tail))))⟩) (by simpa using hI3)) rfl rfl ?_
    rintro _ _ ⟨rfl, _, ⟨a5, rfl, hk5⟩, rfl⟩
    refine s_nil ?_
    refine q_bn ?_
    refine q_then ?_
    -- wire.go:216
    refine c_reg ?_
    refine s_y ((by first | exact Y_add rfl rfl (by omega) | exact Y_addw rfl rfl)) rfl rfl ?_
    refine s_y (Y_mv) rfl rfl ?_
    refine s_nil ?_
    refine hK (n2 - 1) (i + 1, a5, ⟨b33, 83, 1, 1, [ptrAt yb (0 + 6 + i * 1)]⟩ :: bl) _ _ (by omega) ⟨by simp only; omega, ?_⟩ ⟨rfl, trivial⟩ rfl (fun w h => ?_)
    · rw [hS]; exact hk5
    · dsimp only
      rw [hS]
      exact h
  · obtain rfl : i = 4 := by omega
    refine c_exit ?_
    repeat with_reducible refine q_te ?_
    refine q_exit ?_
    refine q_then ?_
    refine c_seq ?_
    -- wire.go:219
    have hIa := hI2 ([5] ++ [6, 7, 8, 9].take 4) 10 (by omega) (by omega)
    have hIb := hI2 ([5] ++ [6, 7, 8, 9].take 4) 11 (by omega) (by omega)
    have hS : rdNums bs [5, 6, 7, 8, 9, 10, 11] C k1 e1 = rdNums bs [10, 11] (rdNums bs ([5] ++ [6, 7, 8, 9].take 4) C k1 e1).1 (rdNums bs ([5] ++ [6, 7, 8, 9].take 4) C k1 e1).2.1 (rdNums bs ([5] ++ [6, 7, 8, 9].take 4) C k1 e1).2.2 := by
      rw [← hA]; rfl
    have hN2 := rdNums_at (bs := bs) (k := k1) (e := e1) [5, 6, 7, 8, 9, 10, 11] (by decide) hN
    generalize rdNums bs ([5] ++ [6, 7, 8, 9].take 4) C k1 e1 = r at *
    obtain ⟨C2, k2, e2⟩ := r
    simp only at hk4 hS hIa hIb ⊢
    refine c_rord [8] [(0, true), (1, true), (2, true), (3, true), (4, true), (5, true), (6, true), (7, false), (8, false)] (by kernel_rfl) (by kernel_rfl) (by kernel_rfl) (by kernel_rfl) rfl (by intro c a d v w h; cases d <;> exact h) rfl ?_
    simp only [mkOrd, List.filterMap_cons, List.filterMap_nil, List.getElem?_toArray, List.getElem?_cons_zero, List.getElem?_cons_succ, Option.map_some]
    refine o_y (Y_mv) rfl rfl ?_
    refine o_y (Y_mv) rfl rfl ?_
    refine o_y ((by first | exact Y_nil rfl | exact Y_nilF rfl | exact Y_nilM rfl (by assumption) | exact Y_nilM rfl (by intro w k; kernel_rfl))) rfl rfl ?_
    refine o_y (Y_fa 10 rfl Try.underlying29 rfl sz3 rfl) rfl rfl ?_
    refine o_y (Y_mv) rfl rfl ?_
    refine o_y ((by first | exact Y_nil rfl | exact Y_nilF rfl | exact Y_nilM rfl (by assumption) | exact Y_nilM rfl (by intro w k; kernel_rfl))) rfl rfl ?_
    refine o_y (Y_fa 11 rfl Try.underlying29 rfl sz3 rfl) rfl rfl ?_
    refine o_n (N_bs (xs := [.tmp 39, .tmp 42]) (by repeat (first | exact Gv.nil | apply Gv.const | apply Gv.tmp (by repeat (first | exact Gt.here | apply Gt.there (by rfl) | exact Gt.base (by rfl))))) rfl Try.underlying88 inf83 rfl (by omega) (by omega) (by first | simp [Value.oneCell'] | (intro v hv; simp at hv; subst hv; rfl))) (fun _ => (by first | exact keep_no rfl | exact keep_sub (by repeat (first | exact List.Sublist.refl _ | exact List.nil_sublist _ | apply List.Sublist.cons_cons | apply List.Sublist.cons)))) rfl rfl (fun b43 _ => ?_)
    refine o_cm [rd b a4 n c k2 e2, ⟨yb, yt, yk, ycap, C2⟩] (En_call (fun _ => rfl) Try.func40 rfl (by kernel_rfl) rfl) (by repeat (first | exact Sels.nil | apply Sels.cons (by repeat (first | exact Sel.head | apply Sel.tail)))) (fun w hH => plain_d (y := ⟨yb, yt, yk, ycap, C2⟩) (js := [10, 11]) hk4 (hH.at' (by repeat (first | exact List.Mem.head _ | assumption | apply List.Mem.tail | apply List.mem_append_right))) (hH.at' (by repeat (first | exact List.Mem.head _ | assumption | apply List.Mem.tail | apply List.mem_append_right))) hne (hs.call2 (rd b a4 n c k2 e2) ⟨yb, yt, yk, ycap, C2⟩ hH (by repeat (first | exact Sels.nil | apply Sels.cons (by repeat (first | exact Sel.head | apply Sel.tail))))) rfl (by omega) (hH.at' (by repeat (first | exact List.Mem.head _ | assumption | apply List.Mem.tail | apply List.mem_append_right))).ro (by simp; exact ⟨ne2 ⟨b43, 83, 1, 2, [ptrAt yb 10, ptrAt yb 11]⟩ (rd b a4 n c k2 e2) hH (by repeat (first | exact Sels.nil | apply Sels.cons (by repeat (first | exact Sel.head | apply Sel.tail)))), ne2 ⟨b43, 83, 1, 2, [ptrAt yb 10, ptrAt yb 11]⟩ ⟨yb, yt, yk, ycap, C2⟩ hH (by repeat (first | exact Sels.nil | apply Sels.cons (by repeat (first | exact Sel.head | apply Sel.tail))))⟩) (by simp; exact ⟨hIa, hIb⟩)) (fun _ _ h => by obtain ⟨rfl, _, ⟨a5, rfl, hk5⟩, rfl⟩ := h; exact (by first | exact keep_no rfl | exact keep_sub (by repeat (first | exact List.Sublist.refl _ | exact List.nil_sublist _ | apply List.Sublist.cons_cons | apply List.Sublist.cons)))) rfl rfl ?_
    rintro _ _ ⟨rfl, _, ⟨a5, rfl, hk5⟩, rfl⟩
    refine o_nil ?_
    refine q_then ?_
    rw [hR]
    rw [← hS] at hk5 ⊢
    generalize rdNums bs [5, 6, 7, 8, 9, 10, 11] C k1 e1 = r at *
    obtain ⟨C3, k3, e3⟩ := r
    simp only at hk5 hN2 ⊢
    -- wire.go:220
    refine c_reg ?_
    refine s_y (Y_mv) rfl rfl ?_
    refine s_y (Y_mv) rfl rfl ?_
    refine s_y ((by first | exact Y_nil rfl | exact Y_nilF rfl | exact Y_nilM rfl (by assumption) | exact Y_nilM rfl (by intro w k; kernel_rfl))) rfl rfl ?_
    refine s_y (Y_fa 12 rfl Try.underlying29 rfl sz24 rfl) rfl rfl ?_
    refine s_cm [rd b a5 n c k3 e3, ⟨yb, yt, yk, ycap, C3⟩] (En_call (fun _ => rfl) Try.func48 rfl (by kernel_rfl) rfl) (by repeat (first | exact Sels.nil | apply Sels.cons (by repeat (first | exact Sel.head | apply Sel.tail)))) (fun w hH => row_d' (y := ⟨yb, yt, yk, ycap, C3⟩) hk5 (hH.at' (by repeat (first | exact List.Mem.head _ | assumption | apply List.Mem.tail | apply List.mem_append_right))) (hH.at' (by repeat (first | exact List.Mem.head _ | assumption | apply List.Mem.tail | apply List.mem_append_right))) hne (hs.call2 (rd b a5 n c k3 e3) ⟨yb, yt, yk, ycap, C3⟩ hH (by repeat (first | exact Sels.nil | apply Sels.cons (by repeat (first | exact Sel.head | apply Sel.tail))))) hN2) rfl rfl ?_
    rintro _ _ ⟨rfl, _, u, bl2, ⟨a6, rfl, hk6⟩, rfl, hrow⟩
    refine s_nil ?_
    refine q_end0 rfl (L' := _) (by repeat (first | exact List.Sublist.refl _ | exact List.nil_sublist _ | apply List.Sublist.cons_cons | apply List.Sublist.cons)) ⟨rfl, _, u, _, ⟨a6, rfl, hk6⟩, rfl, hrow.mono (fun x hx => ?_)⟩
    exact List.mem_append_left _ hx
/-! ### KChunk -/
def chunkR (bs : List UInt8) (c : List Value) (k : Nat) (e : Int) : List Value × Int × Nat × Int :=
  let r := rdNum bs 4 0 1073741823 k e
  let s := rdNum bs 1 0 255 r.2.1 r.2.2
  let t := rdNum bs 1 1 16 s.2.1 s.2.2
  let e' := noted (inB s.1 0 (t.1 - 1)) t.2.2 9
  let q := rdNum bs 1 0 64 t.2.1 e'
  (((c.set 15 (.int .i64 r.1)).set 27 (.int .i64 s.1)).set 28 (.int .i64 t.1), q)
/-- .. and the bytes behind. -/
def chunkB (bs : List UInt8) (q : Int × Nat × Int) : List UInt8 × Nat × Int := if q.2.2 = 0 then rdBytes bs q.1.toNat q.2.1 0 else ([], q.2)
def InDat (v : Value) (bl : List Bk) (l : List UInt8) : Prop := (l = [] ∧ v = .slice none 0 0) ∨ ∃ g cap, l.length ≤ cap ∧ ⟨g, 5, 1, cap, l.map bv⟩ ∈ bl ∧ v = .slice (some ⟨g, 0, none⟩) l.length cap
theorem bytes_d' {m : Nat} (hm : m ≤ 1000) (hk : RdAt a n c k a') (hx : (rd b a' n c k e).holds W) (hy : y.holds W) (hne : b ≠ y.b) (hs : Src W [b, y.b] a n c bs) (hj : y.c[j]? = some u0) :
    Does Try.prog 70 [ptr b, .int .i64 (m : Int), ptrAt y.b j] W [b, y.b] (fun v L => v = .tuple #[] ∧ ∃ x u bl, Rds b a n c (rdBytes bs m k e).2.1 (rdBytes bs m k e).2.2 x ∧ L = x :: { y with c := y.c.set j u } :: bl ∧ InDat u bl (rdBytes bs m k e).1) :=
  Does.perm (bytes_d hm hk hx hy hne hs hj) fun v L ⟨h1, x, u, L2, h2, h3, h4⟩ => by
    refine ⟨_, ⟨h1, x, u, L2, h2, rfl, ?_⟩, by rw [h4]; exact (List.perm_append_comm (l₁ := [_, _]) (l₂ := L2))⟩
    rcases h3 with ⟨h3, h4, h5, h6⟩ | ⟨g, cap, h3, h4, h5⟩
    · exact .inl ⟨List.eq_nil_of_length_eq_zero h4, h3⟩
    · exact .inr ⟨g, cap, h3, by rw [h5]; exact List.Mem.head _, h4⟩
theorem nilR_bytes (rb : Nat) (w : World) (k : Nat) : (nilAhead (k + 1) 67 (ptr rb) "adit/wire.bytes").run Try.prog w = .ok (some false) w := by kernel_rfl
set_option maxRecDepth 100000 in
theorem chunk_d (hk : RdAt a n c k a') (hx : (rd b a' n c k e).holds W) (hy : y.holds W) (hne : b ≠ y.b) (hs : Src W [b, y.b] a n c bs) (h15 : IntAt y.c 15) (h27 : IntAt y.c 27) (h28 : IntAt y.c 28) (h29 : y.c[29]? = some (.slice none 0 0)) :
    Does Try.prog 44 [.iface 67 (ptr b), ptr y.b] W [b, y.b] (fun v L => v = .tuple #[] ∧ ∃ x u bl, Rds b a n c (chunkB bs (chunkR bs y.c k e).2).2.1 (chunkB bs (chunkR bs y.c k e).2).2.2 x ∧ L = x :: { y with c := (chunkR bs y.c k e).1.set 29 u } :: bl ∧ InDat u bl (chunkB bs (chunkR bs y.c k e).2).1) := by
  obtain ⟨yb, yt, yk, ycap, yc⟩ := y
  simp only at hne hs h15 h27 h28 h29 ⊢
  have hnw := nilR_within b
  refine enter Try.func44 rfl rfl rfl (Has.starts (xs := [rd b a' n c k e, ⟨yb, yt, yk, ycap, yc⟩]) (by simp; exact ⟨hx, hy⟩) (by simpa using hne)) ?_
  refine c_seq ?_
  -- wire.go:225
  refine c_reg ?_
  refine s_y (Y_mv) rfl rfl ?_
  refine s_y (Y_mv) rfl rfl ?_
  refine s_y ((by first | exact Y_nil rfl | exact Y_nilF rfl | exact Y_nilM rfl (by assumption) | exact Y_nilM rfl (by intro w k; kernel_rfl))) rfl rfl ?_
  refine s_y (Y_fa 15 rfl Try.underlying29 rfl sz3 rfl) rfl rfl ?_
  refine s_n (N_bs (xs := [.tmp 8]) (by repeat (first | exact Gv.nil | apply Gv.const | apply Gv.tmp (by repeat (first | exact Gt.here | apply Gt.there (by rfl) | exact Gt.base (by rfl))))) rfl Try.underlying88 inf83 rfl (by omega) (by omega) (by first | simp [Value.oneCell'] | (intro v hv; simp at hv; subst hv; rfl))) rfl rfl (fun b9 _ => ?_)
  refine s_cm [rd b a' n c k e, ⟨yb, yt, yk, ycap, yc⟩] (En_call (fun _ => rfl) Try.func40 rfl (by kernel_rfl) rfl) (by repeat (first | exact Sels.nil | apply Sels.cons (by repeat (first | exact Sel.head | apply Sel.tail)))) (fun w hH => plain_d (y := ⟨yb, yt, yk, ycap, yc⟩) (js := [15]) hk (hH.at' (by repeat (first | exact List.Mem.head _ | assumption | apply List.Mem.tail | apply List.mem_append_right))) (hH.at' (by repeat (first | exact List.Mem.head _ | assumption | apply List.Mem.tail | apply List.mem_append_right))) hne (hs.call2 (rd b a' n c k e) ⟨yb, yt, yk, ycap, yc⟩ hH (by repeat (first | exact Sels.nil | apply Sels.cons (by repeat (first | exact Sel.head | apply Sel.tail))))) rfl (by omega) (hH.at' (by repeat (first | exact List.Mem.head _ | assumption | apply List.Mem.tail | apply List.mem_append_right))).ro (by simp; exact ⟨ne2 ⟨b9, 83, 1, 1, [ptrAt yb 15]⟩ (rd b a' n c k e) hH (by repeat (first | exact Sels.nil | apply Sels.cons (by repeat (first | exact Sel.head | apply Sel.tail)))), ne2 ⟨b9, 83, 1, 1, [ptrAt yb 15]⟩ ⟨yb, yt, yk, ycap, yc⟩ hH (by repeat (first | exact Sels.nil | apply Sels.cons (by repeat (first | exact Sel.head | apply Sel.tail))))⟩) (by simp; exact h15)) rfl rfl ?_
  rintro _ _ ⟨rfl, _, ⟨a2, rfl, hk2⟩, rfl⟩
  have hR : chunkR bs yc k e = chunkR bs yc k e := rfl
  conv at hR => rhs; unfold chunkR
  rw [rdNums_one] at hk2 ⊢
  generalize rdNum bs 4 0 1073741823 k e = r at *
  obtain ⟨z1, k1, e1⟩ := r
  simp only at hk2 hR ⊢
  replace h27 := h27.set (j := 15) z1
  replace h28 := h28.set (j := 15) z1
  replace h29 : (yc.set 15 (.int .i64 z1))[29]? = some (.slice none 0 0) := by rw [List.getElem?_set_ne (by omega)]; exact h29
  clear h15
  generalize yc.set 15 (.int .i64 z1) = C1 at *
  obtain ⟨q27, hq27⟩ := h27
  refine s_nil ?_
  refine q_then ?_
  refine c_seq ?_
  -- wire.go:226
  refine c_reg ?_
  refine s_y (Y_mv) rfl rfl ?_
  refine s_y (Y_mv) rfl rfl ?_
  refine s_y ((by first | exact Y_nil rfl | exact Y_nilF rfl | exact Y_nilM rfl (by assumption) | exact Y_nilM rfl (by intro w k; kernel_rfl))) rfl rfl ?_
  refine s_y (Y_fa 27 rfl Try.underlying29 rfl sz3 rfl) rfl rfl ?_
  refine s_cm [rd b a2 n c k1 e1, ⟨yb, yt, yk, ycap, C1⟩] (En_call (fun _ => rfl) Try.func47 rfl (by kernel_rfl) rfl) (by repeat (first | exact Sels.nil | apply Sels.cons (by repeat (first | exact Sel.head | apply Sel.tail)))) (fun w hH => number_d (m := 1) (y := ⟨yb, yt, yk, ycap, C1⟩) (by omega) (by omega) hk2 (hH.at' (by repeat (first | exact List.Mem.head _ | assumption | apply List.Mem.tail | apply List.mem_append_right))) (hH.at' (by repeat (first | exact List.Mem.head _ | assumption | apply List.Mem.tail | apply List.mem_append_right))) hne (hs.call2 (rd b a2 n c k1 e1) ⟨yb, yt, yk, ycap, C1⟩ hH (by repeat (first | exact Sels.nil | apply Sels.cons (by repeat (first | exact Sel.head | apply Sel.tail))))) hq27) rfl rfl ?_
  rintro _ _ ⟨rfl, _, ⟨a3, rfl, hk3⟩, rfl⟩
  have hB2 : ∀ (f : (rdNum bs 1 0 255 k1 e1).2.2 = 0), 0 ≤ (rdNum bs 1 0 255 k1 e1).1 ∧ (rdNum bs 1 0 255 k1 e1).1 ≤ 255 := inB_num
  generalize rdNum bs 1 0 255 k1 e1 = r at *
  obtain ⟨z2, k2, e2⟩ := r
  simp only at hk3 hR hB2 ⊢
  replace h28 := h28.set (j := 27) z2
  replace h29 : (C1.set 27 (.int .i64 z2))[29]? = some (.slice none 0 0) := by rw [List.getElem?_set_ne (by omega)]; exact h29
  have hC27 : (C1.set 27 (.int .i64 z2))[27]? = some (.int .i64 z2) := List.getElem?_set_self (List.getElem?_eq_some_iff.1 hq27).1
  clear hq27
  generalize C1.set 27 (.int .i64 z2) = C2 at *
  obtain ⟨q28, hq28⟩ := h28
  refine s_nil ?_
  refine q_then ?_
  refine c_seq ?_
  -- wire.go:227
  refine c_reg ?_
  refine s_y (Y_mv) rfl rfl ?_
  refine s_y (Y_mv) rfl rfl ?_
  refine s_y ((by first | exact Y_nil rfl | exact Y_nilF rfl | exact Y_nilM rfl (by assumption) | exact Y_nilM rfl (by intro w k; kernel_rfl))) rfl rfl ?_
  refine s_y (Y_fa 28 rfl Try.underlying29 rfl sz3 rfl) rfl rfl ?_
  refine s_cm [rd b a3 n c k2 e2, ⟨yb, yt, yk, ycap, C2⟩] (En_call (fun _ => rfl) Try.func47 rfl (by kernel_rfl) rfl) (by repeat (first | exact Sels.nil | apply Sels.cons (by repeat (first | exact Sel.head | apply Sel.tail)))) (fun w hH => number_d (m := 1) (y := ⟨yb, yt, yk, ycap, C2⟩) (by omega) (by omega) hk3 (hH.at' (by repeat (first | exact List.Mem.head _ | assumption | apply List.Mem.tail | apply List.mem_append_right))) (hH.at' (by repeat (first | exact List.Mem.head _ | assumption | apply List.Mem.tail | apply List.mem_append_right))) hne (hs.call2 (rd b a3 n c k2 e2) ⟨yb, yt, yk, ycap, C2⟩ hH (by repeat (first | exact Sels.nil | apply Sels.cons (by repeat (first | exact Sel.head | apply Sel.tail))))) hq28) rfl rfl ?_
  rintro _ _ ⟨rfl, _, ⟨a4, rfl, hk4⟩, rfl⟩
  have hB3 : ∀ (f : (rdNum bs 1 1 16 k2 e2).2.2 = 0), 1 ≤ (rdNum bs 1 1 16 k2 e2).1 ∧ (rdNum bs 1 1 16 k2 e2).1 ≤ 16 := inB_num
  generalize rdNum bs 1 1 16 k2 e2 = r at *
  obtain ⟨z3, k3, e3⟩ := r
  simp only at hk4 hR hB3 ⊢
  replace h29 : (C2.set 28 (.int .i64 z3))[29]? = some (.slice none 0 0) := by rw [List.getElem?_set_ne (by omega)]; exact h29
  have h28l : 28 < C2.length := (List.getElem?_eq_some_iff.1 hq28).1
  have hD27 : (C2.set 28 (.int .i64 z3))[27]? = some (.int .i64 z2) := by rw [List.getElem?_set_ne (by omega)]; exact hC27
  have hD28 : (C2.set 28 (.int .i64 z3))[28]? = some (.int .i64 z3) := List.getElem?_set_self h28l
  have h29l : 29 < (C2.set 28 (.int .i64 z3)).length := (List.getElem?_eq_some_iff.1 h29).1
  clear hC27 hq28 h28l
  generalize C2.set 28 (.int .i64 z3) = C3 at *
  refine s_nil ?_
  refine q_then ?_
  refine c_seq ?_
  refine c_seq ?_
  -- wire.go:228
  refine c_reg ?_
  refine s_y (Y_mv) rfl rfl ?_
  refine s_cm [rd b a4 n c k3 e3] (En_inv rfl rfl (by intro w; kernel_rfl)) (by repeat (first | exact Sels.nil | apply Sels.cons (by repeat (first | exact Sel.head | apply Sel.tail)))) (fun w hH => failed_d (hH.at' (by repeat (first | exact List.Mem.head _ | assumption | apply List.Mem.tail | apply List.mem_append_right)))) rfl rfl ?_
  rintro _ _ ⟨rfl, rfl⟩
  refine s_y (Y_not rfl) rfl rfl ?_
  refine s_nil ?_
  refine q_then ?_
  by_cases he : e3 = 0
  · subst he
    refine c_T rfl (by simp) ?_
    obtain ⟨t0, t1⟩ := hB3 rfl
    -- wire.go:229
    refine c_rord [13] [(0, true), (1, true), (2, true), (3, true), (4, true), (5, true), (6, true), (7, true), (8, true), (9, true), (10, false), (11, true), (12, true), (13, false)] (by kernel_rfl) (by kernel_rfl) (by kernel_rfl) (by kernel_rfl) rfl (by intro c a d v w h; cases d <;> exact h) rfl ?_
    simp only [mkOrd, List.filterMap_cons, List.filterMap_nil, List.getElem?_toArray, List.getElem?_cons_zero, List.getElem?_cons_succ, Option.map_some]
    refine o_y (Y_mv) rfl rfl ?_
    refine o_y (Y_mv) rfl rfl ?_
    refine o_y ((by first | exact Y_nil rfl | exact Y_nilF rfl | exact Y_nilM rfl (by assumption) | exact Y_nilM rfl (by intro w k; kernel_rfl))) rfl rfl ?_
    refine o_y (Y_fa 27 rfl Try.underlying29 rfl sz3 rfl) rfl rfl ?_
    refine o_y (Y_load rfl one3 (by repeat (first | exact List.Mem.head _ | assumption | apply List.Mem.tail | apply List.mem_append_right)) hD27) rfl rfl ?_
    refine o_y (Y_mv) rfl rfl ?_
    refine o_y ((by first | exact Y_nil rfl | exact Y_nilF rfl | exact Y_nilM rfl (by assumption) | exact Y_nilM rfl (by intro w k; kernel_rfl))) rfl rfl ?_
    refine o_y (Y_fa 28 rfl Try.underlying29 rfl sz3 rfl) rfl rfl ?_
    refine o_y (Y_load rfl one3 (by repeat (first | exact List.Mem.head _ | assumption | apply List.Mem.tail | apply List.mem_append_right)) hD28) rfl rfl ?_
    refine o_y ((by first | exact Y_sub rfl rfl (by omega) | exact Y_subw rfl rfl)) rfl rfl ?_
    refine o_v (Y_mk (by repeat (first | exact Gv.nil | apply Gv.const | apply Gv.tmp (by repeat (first | exact Gt.here | apply Gt.there (by rfl) | exact Gt.base (by rfl))))) (by repeat (first | exact Gv.nil | apply Gv.const | apply Gv.tmp (by repeat (first | exact Gt.here | apply Gt.there (by rfl) | exact Gt.base (by rfl)))))) (by first | exact keep_no rfl | exact keep_sub (by repeat (first | exact List.Sublist.refl _ | exact List.nil_sublist _ | apply List.Sublist.cons_cons | apply List.Sublist.cons))) rfl rfl ?_
    refine o_y ((by first | exact Y_nil rfl | exact Y_nilF rfl | exact Y_nilM rfl (by assumption) | exact Y_nilM rfl (by intro w k; kernel_rfl))) rfl rfl ?_
    refine o_y (Y_mv) rfl rfl ?_
    refine o_cm [rd b a4 n c k3 0] (En_inv rfl rfl (by intro w; kernel_rfl)) (by repeat (first | exact Sels.nil | apply Sels.cons (by repeat (first | exact Sel.head | apply Sel.tail)))) (fun w hH => within_d z2 0 (z3 - 1) (hH.at' (by repeat (first | exact List.Mem.head _ | assumption | apply List.Mem.tail | apply List.mem_append_right)))) (fun _ _ h => by obtain ⟨rfl, rfl⟩ := h; exact (by first | exact keep_no rfl | exact keep_sub (by repeat (first | exact List.Sublist.refl _ | exact List.nil_sublist _ | apply List.Sublist.cons_cons | apply List.Sublist.cons)))) rfl rfl ?_
    rintro _ _ ⟨rfl, rfl⟩
    refine o_nil ?_
    generalize hen : noted (inB z2 0 (z3 - 1)) 0 9 = e4 at *
    refine q_then ?_
    refine c_seq ?_
    -- wire.go:231
    refine c_reg ?_
    refine s_y (Y_mv) rfl rfl ?_
    refine s_y ((by first | exact Y_nil rfl | exact Y_nilF rfl | exact Y_nilM rfl (by assumption) | exact Y_nilM rfl (by intro w k; kernel_rfl))) rfl rfl ?_
    refine s_y (Y_fa 29 rfl Try.underlying29 rfl sz27 rfl) rfl rfl ?_
    refine s_y (Y_load rfl one27 (by repeat (first | exact List.Mem.head _ | assumption | apply List.Mem.tail | apply List.mem_append_right)) h29) rfl rfl ?_
    refine s_y (Y_len rfl rfl Try.underlying27) rfl rfl ?_
    refine s_n (N_alloc (z := .int .i64 0) (cs := [.int .i64 0]) zv3 rfl) rfl rfl (fun b4 _ => ?_)
    refine s_s (S_st rfl (by repeat (first | exact Gt.here | apply Gt.there (by rfl) | exact Gt.base (by rfl))) sz3 (by rfl) (by repeat (first | exact Upd.head | apply Upd.tail)) (by first | (simp only [Nat.zero_add, Nat.reduceAdd, List.set_cons_succ, List.set_cons_zero]; rfl) | rfl) (by first | (simp; done) | omega)) rfl ?_
    refine s_nil ?_
    refine q_then ?_
    refine c_seq ?_
    -- wire.go:232
    refine c_reg ?_
    refine s_y (Y_mv) rfl rfl ?_
    refine s_cm [rd b a4 n c k3 e4, intB b4 0] (En_call (fun _ => rfl) Try.func47 rfl (by kernel_rfl) rfl) (by repeat (first | exact Sels.nil | apply Sels.cons (by repeat (first | exact Sel.head | apply Sel.tail)))) (fun w hH => number_d (m := 1) (y := intB b4 0) (by omega) (by omega) hk4 (hH.at' (by repeat (first | exact List.Mem.head _ | assumption | apply List.Mem.tail | apply List.mem_append_right))) (hH.at' (by repeat (first | exact List.Mem.head _ | assumption | apply List.Mem.tail | apply List.mem_append_right))) (ne2 (rd b a4 n c k3 e4) (intB b4 0) hH (by repeat (first | exact Sels.nil | apply Sels.cons (by repeat (first | exact Sel.head | apply Sel.tail))))) (hs.call2 (rd b a4 n c k3 e4) (intB b4 0) hH (by repeat (first | exact Sels.nil | apply Sels.cons (by repeat (first | exact Sel.head | apply Sel.tail))))) rfl) rfl rfl ?_
    rintro _ _ ⟨rfl, _, ⟨a5, rfl, hk5⟩, rfl⟩
    have hB4 : ∀ (f : (rdNum bs 1 0 64 k3 e4).2.2 = 0), 0 ≤ (rdNum bs 1 0 64 k3 e4).1 ∧ (rdNum bs 1 0 64 k3 e4).1 ≤ 64 := inB_num
    generalize rdNum bs 1 0 64 k3 e4 = r at *
    obtain ⟨z4, k4, e5⟩ := r
    simp only at hk5 hR hB4 ⊢
    rw [hR]
    refine s_nil ?_
    refine q_then ?_
    refine c_seq ?_
    -- wire.go:233
    refine c_reg ?_
    refine s_y (Y_mv) rfl rfl ?_
    refine s_cm [rd b a5 n c k4 e5] (En_inv rfl rfl (by intro w; kernel_rfl)) (by repeat (first | exact Sels.nil | apply Sels.cons (by repeat (first | exact Sel.head | apply Sel.tail)))) (fun w hH => failed_d (hH.at' (by repeat (first | exact List.Mem.head _ | assumption | apply List.Mem.tail | apply List.mem_append_right)))) rfl rfl ?_
    rintro _ _ ⟨rfl, rfl⟩
    refine s_y (Y_not rfl) rfl rfl ?_
    refine s_nil ?_
    refine q_then ?_
    by_cases he5 : e5 = 0
    · subst he5
      refine c_T rfl (by simp) ?_
      obtain ⟨t2, t3⟩ := hB4 rfl
      obtain ⟨m, rfl⟩ := Int.eq_ofNat_of_zero_le t2
      have hnb := nilR_bytes b
      have hQ : chunkB bs ((m : Int), k4, 0) = rdBytes bs m k4 0 := by simp [chunkB]
      rw [hQ]
      -- wire.go:234
      refine c_rord [8] [(0, true), (1, true), (2, true), (3, true), (4, true), (5, false), (6, true), (7, true), (8, false)] (by kernel_rfl) (by kernel_rfl) (by kernel_rfl) (by kernel_rfl) rfl (by intro c a d v w h; cases d <;> exact h) rfl ?_
      simp only [mkOrd, List.filterMap_cons, List.filterMap_nil, List.getElem?_toArray, List.getElem?_cons_zero, List.getElem?_cons_succ, Option.map_some]
      refine o_y (Y_mv) rfl rfl ?_
      refine o_y ((by first | exact Y_load rfl one3 (by repeat (first | exact List.Mem.head _ | assumption | apply List.Mem.tail | apply List.mem_append_right)) (by rfl) | exact Y_load rfl one3 (by repeat (first | exact List.Mem.head _ | assumption | apply List.Mem.tail | apply List.mem_append_right)) (by assumption) | exact Y_loadR rfl one3 (by assumption) rfl (by assumption))) rfl rfl ?_
      refine o_y (Y_mv) rfl rfl ?_
      refine o_y ((by first | exact Y_nil rfl | exact Y_nilF rfl | exact Y_nilM rfl (by assumption) | exact Y_nilM rfl (by intro w k; kernel_rfl))) rfl rfl ?_
      refine o_y (Y_fa 29 rfl Try.underlying29 rfl sz27 rfl) rfl rfl ?_
      refine o_v (Y_mk (by repeat (first | exact Gv.nil | apply Gv.const | apply Gv.tmp (by repeat (first | exact Gt.here | apply Gt.there (by rfl) | exact Gt.base (by rfl))))) (by repeat (first | exact Gv.nil | apply Gv.const | apply Gv.tmp (by repeat (first | exact Gt.here | apply Gt.there (by rfl) | exact Gt.base (by rfl)))))) (by first | exact keep_no rfl | exact keep_sub (by repeat (first | exact List.Sublist.refl _ | exact List.nil_sublist _ | apply List.Sublist.cons_cons | apply List.Sublist.cons))) rfl rfl ?_
      refine o_y ((by first | exact Y_nil rfl | exact Y_nilF rfl | exact Y_nilM rfl (by assumption) | exact Y_nilM rfl (by intro w k; kernel_rfl))) rfl rfl ?_
      refine o_y (Y_mv) rfl rfl ?_
      refine o_cm [rd b a5 n c k4 0, ⟨yb, yt, yk, ycap, C3⟩] (En_inv rfl rfl (by intro w; kernel_rfl)) (by repeat (first | exact Sels.nil | apply Sels.cons (by repeat (first | exact Sel.head | apply Sel.tail)))) (fun w hH => bytes_d' (m := m) (y := ⟨yb, yt, yk, ycap, C3⟩) (by omega) hk5 (hH.at' (by repeat (first | exact List.Mem.head _ | assumption | apply List.Mem.tail | apply List.mem_append_right))) (hH.at' (by repeat (first | exact List.Mem.head _ | assumption | apply List.Mem.tail | apply List.mem_append_right))) hne (hs.call2 (rd b a5 n c k4 0) ⟨yb, yt, yk, ycap, C3⟩ hH (by repeat (first | exact Sels.nil | apply Sels.cons (by repeat (first | exact Sel.head | apply Sel.tail))))) h29) (fun _ _ h => by obtain ⟨rfl, _, u, bl2, ⟨a6, rfl, hk6⟩, rfl, hdat⟩ := h; exact (by first | exact keep_no rfl | exact keep_sub (by repeat (first | exact List.Sublist.refl _ | exact List.nil_sublist _ | apply List.Sublist.cons_cons | apply List.Sublist.cons)))) rfl rfl ?_
      rintro _ _ ⟨rfl, _, u, bl2, ⟨a6, rfl, hk6⟩, rfl, hdat⟩
      refine o_nil ?_
      refine q_end0 rfl (L' := rd b a6 n c (rdBytes bs m k4 0).2.1 (rdBytes bs m k4 0).2.2 :: ⟨yb, yt, yk, ycap, C3.set 29 u⟩ :: bl2) ?_ ⟨rfl, _, u, _, ⟨a6, rfl, hk6⟩, rfl, hdat⟩
      exact List.sublist_append_left _ _
    · refine c_F rfl (by simp [he5]) ?_
      have hQ : chunkB bs (z4, k4, e5) = ([], k4, e5) := by simp [chunkB, he5]
      rw [hQ]
      refine c_skip ?_
      refine q_end0 rfl (L' := [rd b a5 n c k4 e5, ⟨yb, yt, yk, ycap, C3⟩]) (by repeat (first | exact List.Sublist.refl _ | exact List.nil_sublist _ | apply List.Sublist.cons_cons | apply List.Sublist.cons)) ⟨rfl, _, .slice none 0 0, [], ⟨a5, rfl, hk5⟩, by rw [set_same h29], .inl ⟨rfl, rfl⟩⟩
  · refine c_F rfl (by simp [he]) ?_
    have hen : noted (inB z2 0 (z3 - 1)) e3 9 = e3 := by simp [noted, he]
    rw [hen] at hR
    refine c_skip ?_
    generalize e3 = e4 at *
    refine q_then ?_
    refine c_seq ?_
    -- wire.go:231
    refine c_reg ?_
    refine s_y (Y_mv) rfl rfl ?_
    refine s_y ((by first | exact Y_nil rfl | exact Y_nilF rfl | exact Y_nilM rfl (by assumption) | exact Y_nilM rfl (by intro w k; kernel_rfl))) rfl rfl ?_
    refine s_y (Y_fa 29 rfl Try.underlying29 rfl sz27 rfl) rfl rfl ?_
    refine s_y (Y_load rfl one27 (by repeat (first | exact List.Mem.head _ | assumption | apply List.Mem.tail | apply List.mem_append_right)) h29) rfl rfl ?_
    refine s_y (Y_len rfl rfl Try.underlying27) rfl rfl ?_
    refine s_n (N_alloc (z := .int .i64 0) (cs := [.int .i64 0]) zv3 rfl) rfl rfl (fun b4 _ => ?_)
    refine s_s (S_st rfl (by repeat (first | exact Gt.here | apply Gt.there (by rfl) | exact Gt.base (by rfl))) sz3 (by rfl) (by repeat (first | exact Upd.head | apply Upd.tail)) (by first | (simp only [Nat.zero_add, Nat.reduceAdd, List.set_cons_succ, List.set_cons_zero]; rfl) | rfl) (by first | (simp; done) | omega)) rfl ?_
    refine s_nil ?_
    refine q_then ?_
    refine c_seq ?_
    -- wire.go:232
    refine c_reg ?_
    refine s_y (Y_mv) rfl rfl ?_
    refine s_cm [rd b a4 n c k3 e4, intB b4 0] (En_call (fun _ => rfl) Try.func47 rfl (by kernel_rfl) rfl) (by repeat (first | exact Sels.nil | apply Sels.cons (by repeat (first | exact Sel.head | apply Sel.tail)))) (fun w hH => number_d (m := 1) (y := intB b4 0) (by omega) (by omega) hk4 (hH.at' (by repeat (first | exact List.Mem.head _ | assumption | apply List.Mem.tail | apply List.mem_append_right))) (hH.at' (by repeat (first | exact List.Mem.head _ | assumption | apply List.Mem.tail | apply List.mem_append_right))) (ne2 (rd b a4 n c k3 e4) (intB b4 0) hH (by repeat (first | exact Sels.nil | apply Sels.cons (by repeat (first | exact Sel.head | apply Sel.tail))))) (hs.call2 (rd b a4 n c k3 e4) (intB b4 0) hH (by repeat (first | exact Sels.nil | apply Sels.cons (by repeat (first | exact Sel.head | apply Sel.tail))))) rfl) rfl rfl ?_
    rintro _ _ ⟨rfl, _, ⟨a5, rfl, hk5⟩, rfl⟩
    have hB4 : ∀ (f : (rdNum bs 1 0 64 k3 e4).2.2 = 0), 0 ≤ (rdNum bs 1 0 64 k3 e4).1 ∧ (rdNum bs 1 0 64 k3 e4).1 ≤ 64 := inB_num
    generalize rdNum bs 1 0 64 k3 e4 = r at *
    obtain ⟨z4, k4, e5⟩ := r
    simp only at hk5 hR hB4 ⊢
    rw [hR]
    refine s_nil ?_
    refine q_then ?_
    refine c_seq ?_
    -- wire.go:233
    refine c_reg ?_
    refine s_y (Y_mv) rfl rfl ?_
    refine s_cm [rd b a5 n c k4 e5] (En_inv rfl rfl (by intro w; kernel_rfl)) (by repeat (first | exact Sels.nil | apply Sels.cons (by repeat (first | exact Sel.head | apply Sel.tail)))) (fun w hH => failed_d (hH.at' (by repeat (first | exact List.Mem.head _ | assumption | apply List.Mem.tail | apply List.mem_append_right)))) rfl rfl ?_
    rintro _ _ ⟨rfl, rfl⟩
    refine s_y (Y_not rfl) rfl rfl ?_
    refine s_nil ?_
    refine q_then ?_
    by_cases he5 : e5 = 0
    · subst he5
      refine c_T rfl (by simp) ?_
      obtain ⟨t2, t3⟩ := hB4 rfl
      obtain ⟨m, rfl⟩ := Int.eq_ofNat_of_zero_le t2
      have hnb := nilR_bytes b
      have hQ : chunkB bs ((m : Int), k4, 0) = rdBytes bs m k4 0 := by simp [chunkB]
      rw [hQ]
      -- wire.go:234
      refine c_rord [8] [(0, true), (1, true), (2, true), (3, true), (4, true), (5, false), (6, true), (7, true), (8, false)] (by kernel_rfl) (by kernel_rfl) (by kernel_rfl) (by kernel_rfl) rfl (by intro c a d v w h; cases d <;> exact h) rfl ?_
      simp only [mkOrd, List.filterMap_cons, List.filterMap_nil, List.getElem?_toArray, List.getElem?_cons_zero, List.getElem?_cons_succ, Option.map_some]
      refine o_y (Y_mv) rfl rfl ?_
      refine o_y ((by first | exact Y_load rfl one3 (by repeat (first | exact List.Mem.head _ | assumption | apply List.Mem.tail | apply List.mem_append_right)) (by rfl) | exact Y_load rfl one3 (by repeat (first | exact List.Mem.head _ | assumption | apply List.Mem.tail | apply List.mem_append_right)) (by assumption) | exact Y_loadR rfl one3 (by assumption) rfl (by assumption))) rfl rfl ?_
      refine o_y (Y_mv) rfl rfl ?_
      refine o_y ((by first | exact Y_nil rfl | exact Y_nilF rfl | exact Y_nilM rfl (by assumption) | exact Y_nilM rfl (by intro w k; kernel_rfl))) rfl rfl ?_
      refine o_y (Y_fa 29 rfl Try.underlying29 rfl sz27 rfl) rfl rfl ?_
      refine o_v (Y_mk (by repeat (first | exact Gv.nil | apply Gv.const | apply Gv.tmp (by repeat (first | exact Gt.here | apply Gt.there (by rfl) | exact Gt.base (by rfl))))) (by repeat (first | exact Gv.nil | apply Gv.const | apply Gv.tmp (by repeat (first | exact Gt.here | apply Gt.there (by rfl) | exact Gt.base (by rfl)))))) (by first | exact keep_no rfl | exact keep_sub (by repeat (first | exact List.Sublist.refl _ | exact List.nil_sublist _ | apply List.Sublist.cons_cons | apply List.Sublist.cons))) rfl rfl ?_
      refine o_y ((by first | exact Y_nil rfl | exact Y_nilF rfl | exact Y_nilM rfl (by assumption) | exact Y_nilM rfl (by intro w k; kernel_rfl))) rfl rfl ?_
      refine o_y (Y_mv) rfl rfl ?_
      refine o_cm [rd b a5 n c k4 0, ⟨yb, yt, yk, ycap, C3⟩] (En_inv rfl rfl (by intro w; kernel_rfl)) (by repeat (first | exact Sels.nil | apply Sels.cons (by repeat (first | exact Sel.head | apply Sel.tail)))) (fun w hH => bytes_d' (m := m) (y := ⟨yb, yt, yk, ycap, C3⟩) (by omega) hk5 (hH.at' (by repeat (first | exact List.Mem.head _ | assumption | apply List.Mem.tail | apply List.mem_append_right))) (hH.at' (by repeat (first | exact List.Mem.head _ | assumption | apply List.Mem.tail | apply List.mem_append_right))) hne (hs.call2 (rd b a5 n c k4 0) ⟨yb, yt, yk, ycap, C3⟩ hH (by repeat (first | exact Sels.nil | apply Sels.cons (by repeat (first | exact Sel.head | apply Sel.tail))))) h29) (fun _ _ h => by obtain ⟨rfl, _, u, bl2, ⟨a6, rfl, hk6⟩, rfl, hdat⟩ := h; exact (by first | exact keep_no rfl | exact keep_sub (by repeat (first | exact List.Sublist.refl _ | exact List.nil_sublist _ | apply List.Sublist.cons_cons | apply List.Sublist.cons)))) rfl rfl ?_
      rintro _ _ ⟨rfl, _, u, bl2, ⟨a6, rfl, hk6⟩, rfl, hdat⟩
      refine o_nil ?_
      refine q_end0 rfl (L' := rd b a6 n c (rdBytes bs m k4 0).2.1 (rdBytes bs m k4 0).2.2 :: ⟨yb, yt, yk, ycap, C3.set 29 u⟩ :: bl2) ?_ ⟨rfl, _, u, _, ⟨a6, rfl, hk6⟩, rfl, hdat⟩
      exact List.sublist_append_left _ _
    · refine c_F rfl (by simp [he5]) ?_
      have hQ : chunkB bs (z4, k4, e5) = ([], k4, e5) := by simp [chunkB, he5]
      rw [hQ]
      refine c_skip ?_
      refine q_end0 rfl (L' := [rd b a5 n c k4 e5, ⟨yb, yt, yk, ycap, C3⟩]) (by repeat (first | exact List.Sublist.refl _ | exact List.nil_sublist _ | apply List.Sublist.cons_cons | apply List.Sublist.cons)) ⟨rfl, _, .slice none 0 0, [], ⟨a5, rfl, hk5⟩, by rw [set_same h29], .inl ⟨rfl, rfl⟩⟩
end
end Go.Proofs.Ytphmdhbhoakcaaa
