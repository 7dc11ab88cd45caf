/- The law NetPlays, walked. -/
import Derived.Test.YtjgkanmhmkmdeaaNetLaw
import Derived.Test.YtjgkanmhmkmdeaaTree
namespace Go.Proofs.Ytjgkanmhmkmdeaa
open Go.RowKit Go.Ad Go.Maps
section
variable {w : World}
set_option maxHeartbeats 800000 in
theorem same20_eq {bad bad' : Nat → Prop} (x y : Dv) (hx : DvOk w bad x) (hy : DvOk w bad' y) (hk : x.key = y.key) :
    Calls Try.prog 29 #[.agg x.cells.toArray, .agg y.cells.toArray] w fun e w' => e = .returned (.bool true) ∧ Ex [] w w' := by
  obtain ⟨xf, xt, xa, xl, xc, xd⟩ := x
  obtain ⟨yf, yt, ya, yl, yc, yd⟩ := y
  simp only [Dv.key, Prod.mk.injEq] at hk
  obtain ⟨rfl, rfl, rfl⟩ := hk
  have B0 := (Blk.new w #[.int .i64 xf, .int .i64 xt, .slice xa xl xc] 58).alloc (.cells #[.int .i64 xf, .int .i64 xt, .slice ya yl yc] 58)
  have B1 := Blk.new (w.alloc (.cells #[.int .i64 xf, .int .i64 xt, .slice xa xl xc] 58)) #[.int .i64 xf, .int .i64 xt, .slice ya yl yc] 58
  simp only [World.size_alloc] at B1
  have X1 : Ex [] w ((w.alloc (.cells #[.int .i64 xf, .int .i64 xt, .slice xa xl xc] 58)).alloc (.cells #[.int .i64 xf, .int .i64 xt, .slice ya yl yc] 58)) := ((Ex.refl _ _).alloc _).alloc _
  have H1 := Lib.hid (hx.bytes.ex X1 (by simp))
  have H2 := Lib.hid (hy.bytes.ex X1 (by simp))
  clear hx hy
  go_enter Try.func29, Try.ntmps29
  go_wp2_with (first | (refine G_val rfl (ex_convert rfl rfl (run_bytes_string Try.underlying31 Try.underlying5 Try.underlying9 H1.out)) ?_) | (refine G_val rfl (ex_convert rfl rfl (run_bytes_string Try.underlying31 Try.underlying5 Try.underlying9 H2.out)) ?_))
  go_ret
  exact ⟨by simp, X1⟩
end
/-- 'append(x, y...)' of datagrams: onto an own row. -/
theorem own_join {w : World} {B : Nat} {v : Value} {n : Nat} {xs : List Dv} (h : w.ownsRow B 58 3 v n (dcellsOf xs)) (hB : B ≤ w.heap.size) {ad : Addr} {m c : Nat} {ys : List Dv} (hm : ys.length = m) (hy : ∀ j u, (dcellsOf ys)[j]? = some u → w.cell? (ad.add j) = some u) (hn : n + m ≤ 1000000) :
    ∃ v' w', (Builtin.append_ #[54, 54] 54 #[v, .slice (some ad) m c]).run Try.prog w = .ok v' w' ∧ w'.ownsRow B 58 3 v' (n + m) (dcellsOf (xs ++ ys)) ∧
      Ex v.ownBlock.toList w w' ∧ (v'.ownBlock = v.ownBlock ∨ v'.ownBlock = some w.heap.size) := by
  obtain ⟨ii, hi1, hi2, hi3, hi4⟩ := info_parts infoDg
  obtain ⟨v', w', h1, h2, h3, _, h5⟩ := run_append_own_at (P := Try.prog) w B 54 54 58 ii _ 3 40 Try.underlying54 hi1 hi2 hi3 hi4 rfl (by omega)
    v n _ h ad m c (dcellsOf ys) (by rw [dcells_length, hm]) hy (fun u hu => List.all_eq_true.1 (dcells_one ys) u hu) (by simp [maxLen]; omega) (by omega) hB
  exact ⟨v', w', h1, by simpa [dcellsOf] using h2, Ex.of_own h3 (by simp), h5⟩
end Go.Proofs.Ytjgkanmhmkmdeaa
