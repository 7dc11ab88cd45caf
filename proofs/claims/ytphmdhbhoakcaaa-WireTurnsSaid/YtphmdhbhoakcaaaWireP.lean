/- wire.plain, truth, row, record, stream over a writer. -/
import Derived.Test.YtphmdhbhoakcaaaWireN
namespace Go.Proofs.Ytphmdhbhoakcaaa
open Go.RowKit Go.Ad Go.Maps
section
variable {w w' : World} {B wb : Nat} {av : List Nat} {v : Value} {ys : List UInt8} {e : Int}
def numsY (xs : List Int) (ys : List UInt8) : List UInt8 := xs.foldl (fun ys x => numY 4 0 1073741823 x ys) ys
def numsE (xs : List Int) (e : Int) : Int := xs.foldl (fun e x => noted (inB x 0 1073741823) e 1) e
theorem numsY_len : ∀ (xs : List Int) (ys : List UInt8), (numsY xs ys).length ≤ ys.length + 4 * xs.length
  | [], ys => by simp [numsY]
  | x :: r, ys => by
    have h1 := numsY_len r (numY 4 0 1073741823 x ys)
    have h2 := numY_len 4 0 1073741823 x ys
    simp only [numsY, List.foldl_cons, List.length_cons] at *
    omega
theorem numsY_snoc (xs : List Int) (x : Int) (ys : List UInt8) : numsY (xs ++ [x]) ys = numY 4 0 1073741823 x (numsY xs ys) := by simp [numsY]
theorem numsE_snoc (xs : List Int) (x e : Int) : numsE (xs ++ [x]) e = noted (inB x 0 1073741823) (numsE xs e) 1 := by simp [numsE]
def PlainI (w : World) (B wb : Nat) (av : List Nat) (v : Value) (ys : List UInt8) (e : Int) (xs : List Int) (k : Nat) (vi : Value) (wr : World) : Prop :=
  ∃ (i : Nat) (v' : Value), vi = .int .i64 (i : Int) ∧ i + k = xs.length ∧ WrAt wr B wb av v' (numsY (xs.take i) ys) (numsE (xs.take i) e) ∧ Ex (wb :: v.ownBlock.toList) w wr ∧ Gr w v v'
/-- Where a row of pointers leads. -/
def PtrsAt (w : World) (av : List Nat) (sb so : Nat) (xs : List Int) : Prop := ∀ (i : Nat) (x : Int), xs[i]? = some x → ∃ pb po, w.cell? ⟨sb, so + i, none⟩ = some (ptrAt pb po) ∧ pb ∈ av ∧ w.cell? ⟨pb, po, none⟩ = some (.int .i64 x) ∧ w.frozen? ⟨pb, po, none⟩ = false
set_option maxRecDepth 100000 in
set_option maxHeartbeats 1600000 in
theorem plain_w {sb so sc : Nat} {xs : List Int} (D : WrAt w B wb av v ys e) (hB : B ≤ w.heap.size) (hav : ∀ k ∈ av, k < w.heap.size) (hl : ys.length + 4 * xs.length ≤ 1000000) (hsb : sb ∈ av) (hP : PtrsAt w av sb so xs) :
    Calls Try.prog 40 #[.iface 52 (ptr wb), .slice (some ⟨sb, so, none⟩) xs.length sc] w fun z w' => ∃ v', z = .returned (.tuple #[]) ∧ WrAt w' B wb av v' (numsY xs ys) (numsE xs e) ∧ Ex (wb :: v.ownBlock.toList) w w' ∧ Gr w v v' := by
  go_enter Try.func40, Try.ntmps40
  go_wp2_with fail
  go_loopg [8] xs.length (fun k vi wr => PlainI w B wb av v ys e xs k vi wr)
  case atStart => exact ⟨0, v, rfl, by omega, by simpa [numsY, numsE] using D, Ex.refl _ _, Gr.refl _ _⟩
  case round =>
    obtain ⟨i, v', rfl, hk, D2, X2, G2⟩ := hrel
    by_cases hi : (i : Int) < xs.length
    · obtain ⟨x, hx⟩ : ∃ x, xs[i]? = some x := ⟨xs[i], by simp⟩
      obtain ⟨pb, po, p1, p2, p3, p4⟩ := hP i x hx
      have q1 := cell_over D hav hsb p1 X2
      have q3 := cell_over D hav p2 p3 X2
      have q4 := froz_over D hav p2 p4 X2
      have hs2 := X2.size
      have hlen := numsY_len (xs.take i) ys
      have hti : (xs.take i).length ≤ i := List.length_take_le _ _
      have Q4 := Lib.hid q4
      have Hx := Lib.hid hx
      clear hP p1 p3 p4 q4 hx
      go_wp2_with fail
      refine (number_w (n := 4) (f := 0) (t := 1073741823) D2 (by omega) (fun k hk => by have := hav k hk; omega) (by omega) (by omega) q3 Q4.out p2 (by omega) (by omega)).mono ?_
      rintro z w3 ⟨v3, rfl, D3, X3, G3⟩
      have ht : xs.take (i + 1) = xs.take i ++ [x] := by rw [List.take_add_one, Hx.out]; rfl
      have Ht := Lib.hid ht
      clear ht q1 q3
      go_wp2_with fail
      go_roundg (gk - 1)
      case measure => omega
      case rel => exact ⟨i + 1, v3, by go_num, by omega, by rw [Ht.out, numsY_snoc, numsE_snoc]; exact D3, G2.ex X2 X3, G2.grow G3 hs2⟩
    · go_wp2_with fail
      go_end0
      have : xs.take i = xs := List.take_of_length_le (by omega)
      rw [this] at D2
      exact ⟨rfl, v', D2, X2, G2⟩
theorem WrAt.more (D : WrAt w B wb av v ys e) {l : List Nat} (X : Ex l w w') (hl : ∀ k ∈ l, k ∈ av ∨ w.heap.size ≤ k := by simp) : WrAt w' B wb (w.heap.size :: av) v ys e := D.turn X hl (fun k hk => by
  rcases List.mem_cons.1 hk with rfl | hk
  · exact .inr (Nat.le_refl _)
  · exact .inl hk)
theorem WrAt.less (D : WrAt w B wb av v ys e) {av' : List Nat} (h : ∀ k ∈ av', k ∈ av) : WrAt w B wb av' v ys e := D.turn (Ex.refl [] w) (by simp) (fun k hk => .inl (h k hk))
theorem av_more {l : List Nat} (X : Ex l w w') (hb : w.heap.size < w'.heap.size) (hav : ∀ k ∈ av, k < w.heap.size) : ∀ k ∈ w.heap.size :: av, k < w'.heap.size := fun k hk => by
  rcases List.mem_cons.1 hk with rfl | hk
  · exact hb
  · have := hav k hk; have := X.size; omega
/-- What has been done to a writer so far: is all fine, the bytes then, how many at most. -/
structure WSt (w0 : World) (B wb : Nat) (av : List Nat) (v0 : Value) (ys0 : List UInt8) (e0 : Int) (ok : Bool) (enc : List UInt8) (m : Nat) (w : World) (v : Value) (ys : List UInt8) : Prop where
  at' : WrAt w B wb av v ys (noted ok e0 1)
  enc : e0 = 0 → ok = true → ys = ys0 ++ enc
  len : ys.length ≤ ys0.length + m
  ex : Ex (wb :: v0.ownBlock.toList) w0 w
  gr : Gr w0 v0 v
def WPost (w0 : World) (B wb : Nat) (av : List Nat) (v0 : Value) (ys0 : List UInt8) (e0 : Int) (ok : Bool) (enc : List UInt8) (m : Nat) (z : Ending) (w : World) : Prop :=
  ∃ v ys, z = .returned (.tuple #[]) ∧ WSt w0 B wb av v0 ys0 e0 ok enc m w v ys
theorem noted_true (e c : Int) : noted true e c = e := by simp [noted]
theorem noted_two (a b : Bool) (e : Int) : noted b (noted a e 1) 1 = noted (a && b) e 1 := by
  unfold noted
  cases a <;> cases b <;> by_cases h : e = 0 <;> simp [h]
theorem noted_zero {a : Bool} {e : Int} : noted a e 1 = 0 ↔ e = 0 ∧ a = true := by
  unfold noted
  cases a <;> by_cases h : e = 0 <;> simp [h]
section
variable {w0 w1 : World} {v0 : Value} {ys0 : List UInt8} {e0 : Int} {ok ok2 : Bool} {enc enc2 : List UInt8} {m m2 : Nat} {av' : List Nat}
theorem WSt.start (D : WrAt w B wb av v ys e) : WSt w B wb av v ys e true [] 0 w v ys := ⟨by rw [noted_true]; exact D, by simp, by simp, Ex.refl _ _, Gr.refl _ _⟩
theorem WSt.go (h : WSt w0 B wb av v0 ys0 e0 ok enc m w v ys) (X : Ex [] w w1) : WSt w0 B wb av v0 ys0 e0 ok enc m w1 v ys :=
  ⟨h.at'.turn X (by simp) (fun _ h => .inl h), h.enc, h.len, h.ex.trans (X.mono (by simp)), h.gr⟩
theorem WSt.step (h : WSt w0 B wb av v0 ys0 e0 ok enc m w v ys) {z : Ending} (k : WPost w B wb av' v ys (noted ok e0 1) ok2 enc2 m2 z w1) (ha : ∀ x ∈ av, x ∈ av') :
    ∃ v1 ys1, z = .returned (.tuple #[]) ∧ WSt w0 B wb av v0 ys0 e0 (ok && ok2) (enc ++ enc2) (m + m2) w1 v1 ys1 := by
  obtain ⟨v1, ys1, rfl, k1, k2, k3, k4, k5⟩ := k
  refine ⟨v1, ys1, rfl, ?_, fun h0 hk => ?_, by have := h.len; omega, h.gr.ex h.ex k4, h.gr.grow k5 h.ex.size⟩
  · rw [noted_two] at k1
    exact k1.turn (Ex.refl [] _) (by simp) (fun x hx => .inl (ha x hx))
  · simp only [Bool.and_eq_true] at hk
    rw [k2 (noted_zero.2 ⟨h0, hk.1⟩) hk.2, h.enc h0 hk.1, List.append_assoc]
theorem WSt.done (h : WSt w0 B wb av v0 ys0 e0 ok enc m w v ys) : WPost w0 B wb av v0 ys0 e0 ok enc m (.returned (.tuple #[])) w := ⟨v, ys, rfl, h⟩
end
theorem number_p {n : Nat} {x f t : Int} {pb po : Nat} (D : WrAt w B wb av v ys e) (hB : B ≤ w.heap.size) (hav : ∀ k ∈ av, k < w.heap.size) (hn : n ≤ 4) (hl : ys.length + n ≤ 1000000) (hp : w.cell? ⟨pb, po, none⟩ = some (.int .i64 x)) (hpf : w.frozen? ⟨pb, po, none⟩ = false) (hpa : pb ∈ av) (hf : 0 ≤ f) (ht : t < 4294967296) :
    Calls Try.prog 47 #[.iface 52 (ptr wb), .int .i64 (n : Int), ptrAt pb po, .int .i64 f, .int .i64 t] w (WPost w B wb av v ys e (inB x f t) (be n x.toNat) n) :=
  (number_w D hB hav hn hl hp hpf hpa hf ht).mono fun z w' ⟨v', hz, h1, h2, h3⟩ => ⟨v', _, hz, h1, fun _ h => by simp [numY, h], numY_len _ _ _ _ _, h2, h3⟩
def nokAll (xs : List Int) : Bool := xs.all fun x => inB x 0 1073741823
def nenc (xs : List Int) : List UInt8 := xs.flatMap fun x => be 4 x.toNat
theorem numsE_eq : ∀ (xs : List Int) (e : Int), numsE xs e = noted (nokAll xs) e 1
  | [], e => by simp [numsE, nokAll, noted]
  | x :: r, e => by
    have := numsE_eq r (noted (inB x 0 1073741823) e 1)
    simp only [numsE, List.foldl_cons, nokAll, List.all_cons] at *
    rw [this, noted_two]
theorem numsY_eq : ∀ (xs : List Int) (ys : List UInt8), nokAll xs = true → numsY xs ys = ys ++ nenc xs
  | [], ys, _ => by simp [numsY, nenc]
  | x :: r, ys, h => by
    simp only [nokAll, List.all_cons, Bool.and_eq_true] at h
    have := numsY_eq r (numY 4 0 1073741823 x ys) h.2
    simp only [numsY, List.foldl_cons, nenc, List.flatMap_cons] at *
    rw [this]
    simp [numY, h.1]
theorem plain_p {sb so sc n : Nat} {xs : List Int} (hn : xs.length = n) (D : WrAt w B wb av v ys e) (hB : B ≤ w.heap.size) (hav : ∀ k ∈ av, k < w.heap.size) (hl : ys.length + 4 * n ≤ 1000000) (hsb : sb ∈ av) (hP : PtrsAt w av sb so xs) :
    Calls Try.prog 40 #[.iface 52 (ptr wb), .slice (some ⟨sb, so, none⟩) n sc] w (WPost w B wb av v ys e (nokAll xs) (nenc xs) (4 * n)) := by
  subst hn
  exact (plain_w D hB hav hl hsb hP).mono fun z w' ⟨v', hz, h1, h2, h3⟩ => ⟨v', _, hz, by rw [numsE_eq] at h1; exact h1, fun _ h => numsY_eq _ _ h, numsY_len _ _, h2, h3⟩
set_option maxRecDepth 100000 in
set_option maxHeartbeats 1600000 in
theorem truth_w {b : Bool} {pb po : Nat} (D : WrAt w B wb av v ys e) (hB : B ≤ w.heap.size) (hav : ∀ k ∈ av, k < w.heap.size) (hl : ys.length + 1 ≤ 1000000) (hp : w.cell? ⟨pb, po, none⟩ = some (.bool b)) (hpf : w.frozen? ⟨pb, po, none⟩ = false) (hpa : pb ∈ av) :
    Calls Try.prog 41 #[.iface 52 (ptr wb), ptrAt pb po] w (WPost w B wb av v ys e true [if b then 1 else 0] 1) := by
  have Hpf := Lib.hid hpf
  clear hpf
  cases b
  · skip
    go_enter Try.func41, Try.ntmps41
    go_wp2_with fail
    have X1 : Ex [] w (w.alloc (.cells #[.int .i64 0] 3)) := (Ex.refl _ _).alloc _
    have B1 := Blk.new w #[.int .i64 0] 3
    have D1 := D.more X1
    have hav1 : ∀ k ∈ w.heap.size :: av, k < (w.alloc (.cells #[.int .i64 0] 3)).heap.size := av_more X1 B1.lt hav
    generalize w.alloc (.cells #[.int .i64 0] 3) = w1 at *
    have hs1 := X1.size
    refine (number_w (n := 1) (x := 0) (f := 0) (t := 1) D1 (by omega) hav1 (by omega) (by omega) (B1.cell 0) (B1.froz 0) (by simp) (by omega) (by omega)).mono ?_
    rintro z w2 ⟨v2, rfl, D2, X2, G2⟩
    have hv2 := cell_over D1 hav1 (by simp) (B1.cell 0) X2
    have hp2 : w2.cell? ⟨pb, po, none⟩ = some (.bool false) := cell_over D1 hav1 (by simp [hpa]) (by rw [X1.cell (p := ⟨pb, po, none⟩) (hav _ hpa) (by simp)]; exact hp) X2
    have hf2 : w2.frozen? ⟨pb, po, none⟩ = false := froz_over D1 hav1 (by simp [hpa]) (by rw [X1.frozen (p := ⟨pb, po, none⟩) (hav _ hpa) (by simp)]; exact Hpf.out) X2
    clear hp
    go_wp2_with fail
    go_end0
    rw [setCell_stay hp2]
    exact ⟨v2, _, rfl, D2.less (fun _ h => List.mem_cons_of_mem _ h), fun _ _ => rfl, by simp [numY, inB, be], (X1.mono (by simp)).trans X2, (Gr.refl w v).grow G2 hs1⟩
  · skip
    go_enter Try.func41, Try.ntmps41
    go_wp2_with fail
    have X1 : Ex [] w (w.alloc (.cells #[.int .i64 1] 3)) := (Ex.refl _ _).alloc _
    have B1 := Blk.new w #[.int .i64 1] 3
    have D1 := D.more X1
    have hav1 : ∀ k ∈ w.heap.size :: av, k < (w.alloc (.cells #[.int .i64 1] 3)).heap.size := av_more X1 B1.lt hav
    generalize w.alloc (.cells #[.int .i64 1] 3) = w1 at *
    have hs1 := X1.size
    refine (number_w (n := 1) (x := 1) (f := 0) (t := 1) D1 (by omega) hav1 (by omega) (by omega) (B1.cell 0) (B1.froz 0) (by simp) (by omega) (by omega)).mono ?_
    rintro z w2 ⟨v2, rfl, D2, X2, G2⟩
    have hv2 := cell_over D1 hav1 (by simp) (B1.cell 0) X2
    have hp2 : w2.cell? ⟨pb, po, none⟩ = some (.bool true) := cell_over D1 hav1 (by simp [hpa]) (by rw [X1.cell (p := ⟨pb, po, none⟩) (hav _ hpa) (by simp)]; exact hp) X2
    have hf2 : w2.frozen? ⟨pb, po, none⟩ = false := froz_over D1 hav1 (by simp [hpa]) (by rw [X1.frozen (p := ⟨pb, po, none⟩) (hav _ hpa) (by simp)]; exact Hpf.out) X2
    clear hp
    go_wp2_with fail
    go_end0
    rw [setCell_stay hp2]
    exact ⟨v2, _, rfl, D2.less (fun _ h => List.mem_cons_of_mem _ h), fun _ _ => rfl, by simp [numY, inB, be], (X1.mono (by simp)).trans X2, (Gr.refl w v).grow G2 hs1⟩
theorem assert_wr (wb : Nat) (w : World) : (Instr.typeAssert (.iface 52 (ptr wb)) 81 67 true).run Try.prog w = .ok (.tuple #[.pointer none, .bool false]) w := by kernel_rfl
/-- Ints that lie somewhere that may be written. -/
def IntsIn (w : World) (av : List Nat) (a : Option Addr) (zs : List Int) : Prop := zs = [] ∨ ∃ ab ao, a = some ⟨ab, ao, none⟩ ∧ ab ∈ av ∧ ∀ (i : Nat) (x : Int), zs[i]? = some x → w.cell? ⟨ab, ao + i, none⟩ = some (.int .i64 x) ∧ w.frozen? ⟨ab, ao + i, none⟩ = false
def rowOk (zs : List Int) : Bool := inB zs.length 0 255 && zs.all fun x => inB x 0 10
def rowEnc (zs : List Int) : List UInt8 := be 1 zs.length ++ zs.flatMap fun x => be 1 x.toNat
def RowWI (w0 : World) (B wb : Nat) (av : List Nat) (v0 : Value) (ys0 : List UInt8) (e0 : Int) (zs : List Int) (k : Nat) (vi : Value) (wr : World) : Prop :=
  ∃ (i : Nat) (v' : Value) (ys' : List UInt8), vi = .int .i64 (i : Int) ∧ i + k = zs.length ∧ WSt w0 B wb av v0 ys0 e0 (inB zs.length 0 255 && (zs.take i).all fun x => inB x 0 10) (be 1 zs.length ++ (zs.take i).flatMap fun x => be 1 x.toNat) (1 + i) wr v' ys'
set_option maxRecDepth 100000 in
set_option maxHeartbeats 1600000 in
theorem row_w {a : Option Addr} {len cap : Nat} {zs : List Int} {pb po : Nat} (D : WrAt w B wb av v ys e) (hB : B ≤ w.heap.size) (hav : ∀ k ∈ av, k < w.heap.size) (hl : ys.length + 1 + len ≤ 1000000) (hp : w.cell? ⟨pb, po, none⟩ = some (.slice a len cap)) (hpa : pb ∈ av) (hz : zs.length = len) (hI : IntsIn w av a zs) :
    Calls Try.prog 48 #[.iface 52 (ptr wb), ptrAt pb po] w (WPost w B wb av v ys e (rowOk zs) (rowEnc zs) (1 + len)) := by
  subst hz
  have HI := Lib.hid hI
  clear hI
  go_enter Try.func48, Try.ntmps48
  go_wp2_with fail
  have X1 : Ex [] w (w.alloc (.cells #[.int .i64 (zs.length : Int)] 3)) := (Ex.refl _ _).alloc _
  have B1 := Blk.new w #[.int .i64 (zs.length : Int)] 3
  have S1 : WSt w B wb av v ys e true [] 0 (w.alloc (.cells #[.int .i64 (zs.length : Int)] 3)) v ys := (WSt.start D).go X1
  have D1 := D.more X1
  have hav1 : ∀ k ∈ w.heap.size :: av, k < (w.alloc (.cells #[.int .i64 (zs.length : Int)] 3)).heap.size := av_more X1 B1.lt hav
  have D1' : WrAt (w.alloc (.cells #[.int .i64 (zs.length : Int)] 3)) B wb (w.heap.size :: av) v ys (noted true e 1) := by rw [noted_true]; exact D1
  have hp1 : (w.alloc (.cells #[.int .i64 (zs.length : Int)] 3)).cell? ⟨pb, po, none⟩ = some (.slice a zs.length cap) := by rw [X1.cell (p := ⟨pb, po, none⟩) (hav _ hpa) (by simp)]; exact hp
  generalize w.alloc (.cells #[.int .i64 (zs.length : Int)] 3) = w1 at *
  have hs1 := X1.size
  have Hp := Lib.hid hp
  clear hp
  refine (number_p (n := 1) (x := (zs.length : Int)) (f := 0) (t := 255) D1' (by omega) hav1 (by omega) (by omega) (B1.cell 0) (B1.froz 0) (by simp) (by omega) (by omega)).mono ?_
  rintro z w2 hz
  obtain ⟨v2, ys2, rfl, S2⟩ := S1.step hz (fun _ h => List.mem_cons_of_mem _ h)
  clear S1 D1' D1 hav1 B1 hp1 hz
  go_wp2_with (refine G_enter (o := ⟨some 15, _, _, _, _, _⟩) rfl (ex_invoke rfl rfl rfl (inv_failed wb _)) ?_)
  refine (failed_any S2.at').mono ?_
  rintro z w3 ⟨rfl, rfl⟩
  refine ⟨_, rfl, ?_⟩
  by_cases he : noted (true && inB zs.length 0 255) e 1 = 0
  · have he1 : (noted (true && inB zs.length 0 255) e 1 != 0) = false := by simpa using he
    obtain ⟨he2, he3⟩ := noted_zero.1 he
    have hzl : zs.length ≤ 255 := by have := he3; simp [inB] at this; omega
    clear he2 he3
    have hp2 := cell_over D hav hpa Hp.out S2.ex
    clear he
    go_wp2_with (refine G_val (o := ⟨some 18, _, _, _, _, _⟩) rfl (ex_assert rfl rfl (assert_wr wb _)) ?_)
    clear hp2
    have S3 : RowWI w B wb av v ys e zs zs.length (.int .i64 0) w2 := ⟨0, v2, ys2, rfl, by omega, by simpa using S2⟩
    go_loopg [30] zs.length (fun k vi wr => RowWI w B wb av v ys e zs k vi wr)
    case atStart => exact S3
    case round =>
      clear S3 S2
      obtain ⟨i, v3, ys3, rfl, hk, S3⟩ := hrel
      have hp3 := cell_over D hav hpa Hp.out S3.ex
      have hs3 := S3.ex.size
      have hl3 := S3.len
      by_cases hi : (i : Int) < zs.length
      · obtain ⟨x, hx⟩ : ∃ x, zs[i]? = some x := ⟨zs[i], by simp⟩
        rcases HI.out with h | ⟨ab, ao, rfl, hab, hR⟩
        · rw [h] at hx; simp at hx
        obtain ⟨r1, r2⟩ := hR i x hx
        have q1 := cell_over D hav hab r1 S3.ex
        have q2 := froz_over D hav hab r2 S3.ex
        have Q1 := Lib.hid q1
        have Q2 := Lib.hid q2
        have Hx := Lib.hid hx
        clear hR r1 r2 q1 q2 hx
        go_wp2_with fail
        refine (number_p (n := 1) (x := x) (f := 0) (t := 10) S3.at' (by omega) (fun k hk => by have := hav k hk; omega) (by omega) (by omega) Q1.out Q2.out hab (by omega) (by omega)).mono ?_
        rintro z w4 hz
        obtain ⟨v4, ys4, rfl, S4⟩ := S3.step hz (fun _ h => h)
        have ht : zs.take (i + 1) = zs.take i ++ [x] := by rw [List.take_add_one, Hx.out]; rfl
        have Ht := Lib.hid ht
        clear ht hp3 hz S3
        go_wp2_with fail
        go_roundg (gk - 1)
        case measure => omega
        case rel =>
          refine ⟨i + 1, v4, ys4, by go_num, by omega, ?_⟩
          rw [Ht.out]
          simpa [List.all_append, List.flatMap_append, Bool.and_assoc, Nat.add_assoc] using S4
      · go_wp2_with fail
        go_end0
        have : zs.take i = zs := List.take_of_length_le (by omega)
        rw [this] at S3
        obtain rfl : i = zs.length := by omega
        exact S3.done
  · have he1 : (noted (true && inB zs.length 0 255) e 1 != 0) = true := by simpa using he
    go_wp2_with fail
    refine bodyPost_ret (v := .tuple #[]) (results_none rfl _ _ _) rfl ?_
    refine ⟨v2, ys2, rfl, ?_, fun h0 h1 => ?_, by have := S2.len; omega, S2.ex, S2.gr⟩
    · have hh : noted (true && inB zs.length 0 255) e 1 = noted (rowOk zs) e 1 := by
        have h3 : ¬ (e = 0 ∧ (true && inB zs.length 0 255) = true) := fun h => he (noted_zero.2 h)
        unfold rowOk noted at *
        by_cases h0 : e = 0
        · cases hb : inB (zs.length : Int) 0 255
          · simp
          · exact absurd ⟨h0, by simp [hb]⟩ h3
        · simp [h0]
      rw [← hh]; exact S2.at'
    · exfalso
      refine he (noted_zero.2 ⟨h0, ?_⟩)
      unfold rowOk at h1
      simp only [Bool.and_eq_true] at h1
      simp [h1.1]
end
end Go.Proofs.Ytphmdhbhoakcaaa
