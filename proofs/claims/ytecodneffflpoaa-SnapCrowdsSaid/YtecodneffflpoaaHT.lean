/- The tables of this program's types, each by its number. -/
import Derived.Test.YtecodneffflpoaaHQ
import Derived.Test.YtecodneffflpoaaProg
namespace Go.Proofs.Ytecodneffflpoaa
open Go.RowKit Go.Ad
set_option linter.unusedVariables false
theorem sz1 : (Try.prog.info? 1).map (·.size) = some 1 := by kernel_rfl
theorem one1 : Cel1 Try.prog 1 := Cel1.mk Try.underlying1 rfl
theorem zv1 (w : World) : (zeroValue 1).run Try.prog w = .ok (.nilFunc) w := by kernel_rfl
theorem sz2 : (Try.prog.info? 2).map (·.size) = some 1 := by kernel_rfl
theorem one2 : Cel1 Try.prog 2 := Cel1.mk Try.underlying2 rfl
theorem zv2 (w : World) : (zeroValue 2).run Try.prog w = .ok (.int .i64 0) w := by kernel_rfl
theorem inf2 : (Try.prog.info? 2).map (fun i => (i.zero, i.size, i.bytes)) = some (some (.int .i64 0), 1, 8) := by kernel_rfl
theorem sz3 : (Try.prog.info? 3).map (·.size) = some 1 := by kernel_rfl
theorem one3 : Cel1 Try.prog 3 := Cel1.mk Try.underlying3 rfl
theorem zv3 (w : World) : (zeroValue 3).run Try.prog w = .ok (.int .i64 0) w := by kernel_rfl
theorem inf3 : (Try.prog.info? 3).map (fun i => (i.zero, i.size, i.bytes)) = some (some (.int .i64 0), 1, 8) := by kernel_rfl
theorem sz4 : (Try.prog.info? 4).map (·.size) = some 1 := by kernel_rfl
theorem one4 : Cel1 Try.prog 4 := Cel1.mk Try.underlying4 rfl
theorem zv4 (w : World) : (zeroValue 4).run Try.prog w = .ok (.bool false) w := by kernel_rfl
theorem inf4 : (Try.prog.info? 4).map (fun i => (i.zero, i.size, i.bytes)) = some (some (.bool false), 1, 1) := by kernel_rfl
theorem sz5 : (Try.prog.info? 5).map (·.size) = some 1 := by kernel_rfl
theorem one5 : Cel1 Try.prog 5 := Cel1.mk Try.underlying5 rfl
theorem zv5 (w : World) : (zeroValue 5).run Try.prog w = .ok (.int .u8 0) w := by kernel_rfl
theorem inf5 : (Try.prog.info? 5).map (fun i => (i.zero, i.size, i.bytes)) = some (some (.int .u8 0), 1, 1) := by kernel_rfl
theorem sz6 : (Try.prog.info? 6).map (·.size) = some 1 := by kernel_rfl
theorem one6 : Cel1 Try.prog 6 := Cel1.mk Try.underlying6 rfl
theorem zv6 (w : World) : (zeroValue 6).run Try.prog w = .ok (.int .u8 0) w := by kernel_rfl
theorem inf6 : (Try.prog.info? 6).map (fun i => (i.zero, i.size, i.bytes)) = some (some (.int .u8 0), 1, 1) := by kernel_rfl
theorem sz7 : (Try.prog.info? 7).map (·.size) = some 4 := by kernel_rfl
theorem many7 : CelN Try.prog 7 4 := CelN.mk Try.underlying7 sz7 rfl
theorem zv7 (w : World) : (zeroValue 7).run Try.prog w = .ok (.agg #[.int .i64 0, .int .i64 0, .bool false, .int .u8 0]) w := by kernel_rfl
theorem inf7 : (Try.prog.info? 7).map (fun i => (i.zero, i.size, i.bytes)) = some (some (.agg #[.int .i64 0, .int .i64 0, .bool false, .int .u8 0]), 4, 24) := by kernel_rfl
theorem bld7 : Bld Try.prog 7 #[.int .i64 0, .int .i64 0, .bool false, .int .u8 0] #[(0, 1), (1, 1), (2, 1), (3, 1)] := by
  obtain ⟨i, h1, h2, _⟩ := info_parts inf7
  exact Bld.mk h1 h2 rfl Try.underlying7 (by kernel_rfl)
theorem sz8 : (Try.prog.info? 8).map (·.size) = some 4 := by kernel_rfl
theorem many8 : CelN Try.prog 8 4 := CelN.mk Try.underlying8 sz8 rfl
theorem zv8 (w : World) : (zeroValue 8).run Try.prog w = .ok (.agg #[.int .i64 0, .int .i64 0, .bool false, .int .u8 0]) w := by kernel_rfl
theorem inf8 : (Try.prog.info? 8).map (fun i => (i.zero, i.size, i.bytes)) = some (some (.agg #[.int .i64 0, .int .i64 0, .bool false, .int .u8 0]), 4, 24) := by kernel_rfl
theorem bld8 : Bld Try.prog 8 #[.int .i64 0, .int .i64 0, .bool false, .int .u8 0] #[(0, 1), (1, 1), (2, 1), (3, 1)] := by
  obtain ⟨i, h1, h2, _⟩ := info_parts inf8
  exact Bld.mk h1 h2 rfl Try.underlying8 (by kernel_rfl)
theorem sz9 : (Try.prog.info? 9).map (·.size) = some 1 := by kernel_rfl
theorem one9 : Cel1 Try.prog 9 := Cel1.mk Try.underlying9 rfl
theorem zv9 (w : World) : (zeroValue 9).run Try.prog w = .ok (.string ByteArray.empty) w := by kernel_rfl
theorem inf9 : (Try.prog.info? 9).map (fun i => (i.zero, i.size, i.bytes)) = some (some (.string ByteArray.empty), 1, 16) := by kernel_rfl
theorem sz10 : (Try.prog.info? 10).map (·.size) = some 1 := by kernel_rfl
theorem one10 : Cel1 Try.prog 10 := Cel1.mk Try.underlying10 rfl
theorem zv10 (w : World) : (zeroValue 10).run Try.prog w = .ok (.string ByteArray.empty) w := by kernel_rfl
theorem inf10 : (Try.prog.info? 10).map (fun i => (i.zero, i.size, i.bytes)) = some (some (.string ByteArray.empty), 1, 16) := by kernel_rfl
theorem sz11 : (Try.prog.info? 11).map (·.size) = some 1 := by kernel_rfl
theorem one11 : Cel1 Try.prog 11 := Cel1.mk Try.underlying11 rfl
theorem zv11 (w : World) : (zeroValue 11).run Try.prog w = .ok (.string ByteArray.empty) w := by kernel_rfl
theorem inf11 : (Try.prog.info? 11).map (fun i => (i.zero, i.size, i.bytes)) = some (some (.string ByteArray.empty), 1, 16) := by kernel_rfl
theorem sz12 : (Try.prog.info? 12).map (·.size) = some 1 := by kernel_rfl
theorem one12 : Cel1 Try.prog 12 := Cel1.mk Try.underlying12 rfl
theorem zv12 (w : World) : (zeroValue 12).run Try.prog w = .ok (.int .u64 0) w := by kernel_rfl
theorem inf12 : (Try.prog.info? 12).map (fun i => (i.zero, i.size, i.bytes)) = some (some (.int .u64 0), 1, 8) := by kernel_rfl
theorem sz13 : (Try.prog.info? 13).map (·.size) = some 2 := by kernel_rfl
theorem many13 : CelN Try.prog 13 2 := CelN.mk Try.underlying13 sz13 rfl
theorem zv13 (w : World) : (zeroValue 13).run Try.prog w = .ok (.agg #[.string ByteArray.empty, .int .u64 0]) w := by kernel_rfl
theorem inf13 : (Try.prog.info? 13).map (fun i => (i.zero, i.size, i.bytes)) = some (some (.agg #[.string ByteArray.empty, .int .u64 0]), 2, 24) := by kernel_rfl
theorem bld13 : Bld Try.prog 13 #[.string ByteArray.empty, .int .u64 0] #[(0, 1), (1, 1)] := by
  obtain ⟨i, h1, h2, _⟩ := info_parts inf13
  exact Bld.mk h1 h2 rfl Try.underlying13 (by kernel_rfl)
theorem sz14 : (Try.prog.info? 14).map (·.size) = some 2 := by kernel_rfl
theorem many14 : CelN Try.prog 14 2 := CelN.mk Try.underlying14 sz14 rfl
theorem zv14 (w : World) : (zeroValue 14).run Try.prog w = .ok (.agg #[.string ByteArray.empty, .int .u64 0]) w := by kernel_rfl
theorem inf14 : (Try.prog.info? 14).map (fun i => (i.zero, i.size, i.bytes)) = some (some (.agg #[.string ByteArray.empty, .int .u64 0]), 2, 24) := by kernel_rfl
theorem bld14 : Bld Try.prog 14 #[.string ByteArray.empty, .int .u64 0] #[(0, 1), (1, 1)] := by
  obtain ⟨i, h1, h2, _⟩ := info_parts inf14
  exact Bld.mk h1 h2 rfl Try.underlying14 (by kernel_rfl)
theorem sz15 : (Try.prog.info? 15).map (·.size) = some 1 := by kernel_rfl
theorem one15 : Cel1 Try.prog 15 := Cel1.mk Try.underlying15 rfl
theorem zv15 (w : World) : (zeroValue 15).run Try.prog w = .ok (.pointer none) w := by kernel_rfl
theorem inf15 : (Try.prog.info? 15).map (fun i => (i.zero, i.size, i.bytes)) = some (some (.pointer none), 1, 8) := by kernel_rfl
theorem sz16 : (Try.prog.info? 16).map (·.size) = some 1 := by kernel_rfl
theorem one16 : Cel1 Try.prog 16 := Cel1.mk Try.underlying16 rfl
theorem zv16 (w : World) : (zeroValue 16).run Try.prog w = .ok (.pointer none) w := by kernel_rfl
theorem inf16 : (Try.prog.info? 16).map (fun i => (i.zero, i.size, i.bytes)) = some (some (.pointer none), 1, 8) := by kernel_rfl
theorem sz17 : (Try.prog.info? 17).map (·.size) = some 1 := by kernel_rfl
theorem one17 : Cel1 Try.prog 17 := Cel1.mk Try.underlying17 rfl
theorem zv17 (w : World) : (zeroValue 17).run Try.prog w = .ok (.pointer none) w := by kernel_rfl
theorem inf17 : (Try.prog.info? 17).map (fun i => (i.zero, i.size, i.bytes)) = some (some (.pointer none), 1, 8) := by kernel_rfl
theorem sz18 : (Try.prog.info? 18).map (·.size) = some 1 := by kernel_rfl
theorem many18 : CelN Try.prog 18 1 := CelN.mk Try.underlying18 sz18 rfl
theorem zv18 (w : World) : (zeroValue 18).run Try.prog w = .ok (.agg #[.pointer none]) w := by kernel_rfl
theorem inf18 : (Try.prog.info? 18).map (fun i => (i.zero, i.size, i.bytes)) = some (some (.agg #[.pointer none]), 1, 8) := by kernel_rfl
theorem bld18 : Bld Try.prog 18 #[.pointer none] #[(0, 1)] := by
  obtain ⟨i, h1, h2, _⟩ := info_parts inf18
  exact Bld.mk h1 h2 rfl Try.underlying18 (by kernel_rfl)
theorem sz19 : (Try.prog.info? 19).map (·.size) = some 1 := by kernel_rfl
theorem many19 : CelN Try.prog 19 1 := CelN.mk Try.underlying19 sz19 rfl
theorem zv19 (w : World) : (zeroValue 19).run Try.prog w = .ok (.agg #[.pointer none]) w := by kernel_rfl
theorem inf19 : (Try.prog.info? 19).map (fun i => (i.zero, i.size, i.bytes)) = some (some (.agg #[.pointer none]), 1, 8) := by kernel_rfl
theorem bld19 : Bld Try.prog 19 #[.pointer none] #[(0, 1)] := by
  obtain ⟨i, h1, h2, _⟩ := info_parts inf19
  exact Bld.mk h1 h2 rfl Try.underlying19 (by kernel_rfl)
theorem sz20 : (Try.prog.info? 20).map (·.size) = some 1 := by kernel_rfl
theorem one20 : Cel1 Try.prog 20 := Cel1.mk Try.underlying20 rfl
theorem zv20 (w : World) : (zeroValue 20).run Try.prog w = .ok (.nilIface) w := by kernel_rfl
theorem sz21 : (Try.prog.info? 21).map (·.size) = some 1 := by kernel_rfl
theorem one21 : Cel1 Try.prog 21 := Cel1.mk Try.underlying21 rfl
theorem zv21 (w : World) : (zeroValue 21).run Try.prog w = .ok (.int .i32 0) w := by kernel_rfl
theorem inf21 : (Try.prog.info? 21).map (fun i => (i.zero, i.size, i.bytes)) = some (some (.int .i32 0), 1, 4) := by kernel_rfl
theorem sz22 : (Try.prog.info? 22).map (·.size) = some 1 := by kernel_rfl
theorem one22 : Cel1 Try.prog 22 := Cel1.mk Try.underlying22 rfl
theorem zv22 (w : World) : (zeroValue 22).run Try.prog w = .ok (.slice none 0 0) w := by kernel_rfl
theorem inf22 : (Try.prog.info? 22).map (fun i => (i.zero, i.size, i.bytes)) = some (some (.slice none 0 0), 1, 24) := by kernel_rfl
theorem sz23 : (Try.prog.info? 23).map (·.size) = some 1 := by kernel_rfl
theorem one23 : Cel1 Try.prog 23 := Cel1.mk Try.underlying23 rfl
theorem zv23 (w : World) : (zeroValue 23).run Try.prog w = .ok (.slice none 0 0) w := by kernel_rfl
theorem inf23 : (Try.prog.info? 23).map (fun i => (i.zero, i.size, i.bytes)) = some (some (.slice none 0 0), 1, 24) := by kernel_rfl
theorem sz24 : (Try.prog.info? 24).map (·.size) = some 1 := by kernel_rfl
theorem one24 : Cel1 Try.prog 24 := Cel1.mk Try.underlying24 rfl
theorem zv24 (w : World) : (zeroValue 24).run Try.prog w = .ok (.nilFunc) w := by kernel_rfl
theorem sz25 : (Try.prog.info? 25).map (·.size) = some 1 := by kernel_rfl
theorem one25 : Cel1 Try.prog 25 := Cel1.mk Try.underlying25 rfl
theorem zv25 (w : World) : (zeroValue 25).run Try.prog w = .ok (.slice none 0 0) w := by kernel_rfl
theorem inf25 : (Try.prog.info? 25).map (fun i => (i.zero, i.size, i.bytes)) = some (some (.slice none 0 0), 1, 24) := by kernel_rfl
theorem sz26 : (Try.prog.info? 26).map (·.size) = some 1 := by kernel_rfl
theorem one26 : Cel1 Try.prog 26 := Cel1.mk Try.underlying26 rfl
theorem zv26 (w : World) : (zeroValue 26).run Try.prog w = .ok (.slice none 0 0) w := by kernel_rfl
theorem inf26 : (Try.prog.info? 26).map (fun i => (i.zero, i.size, i.bytes)) = some (some (.slice none 0 0), 1, 24) := by kernel_rfl
theorem sz27 : (Try.prog.info? 27).map (·.size) = some 4 := by kernel_rfl
theorem many27 : CelN Try.prog 27 4 := CelN.mk Try.underlying27 sz27 rfl
theorem flat27 : Flat Try.prog 27 4 := Flat.array Try.underlying27 (by kernel_rfl) sz3 (by kernel_rfl)
theorem zv27 (w : World) : (zeroValue 27).run Try.prog w = .ok (.agg #[.int .i64 0, .int .i64 0, .int .i64 0, .int .i64 0]) w := by kernel_rfl
theorem inf27 : (Try.prog.info? 27).map (fun i => (i.zero, i.size, i.bytes)) = some (some (.agg #[.int .i64 0, .int .i64 0, .int .i64 0, .int .i64 0]), 4, 32) := by kernel_rfl
theorem sz28 : (Try.prog.info? 28).map (·.size) = some 11 := by kernel_rfl
theorem many28 : CelN Try.prog 28 11 := CelN.mk Try.underlying28 sz28 rfl
theorem zv28 (w : World) : (zeroValue 28).run Try.prog w = .ok (.agg #[.int .i64 0, .int .i64 0, .int .i64 0, .int .i64 0, .slice none 0 0, .slice none 0 0, .slice none 0 0, .int .i64 0, .int .i64 0, .int .i64 0, .int .i64 0]) w := by kernel_rfl
theorem inf28 : (Try.prog.info? 28).map (fun i => (i.zero, i.size, i.bytes)) = some (some (.agg #[.int .i64 0, .int .i64 0, .int .i64 0, .int .i64 0, .slice none 0 0, .slice none 0 0, .slice none 0 0, .int .i64 0, .int .i64 0, .int .i64 0, .int .i64 0]), 11, 136) := by kernel_rfl
theorem bld28 : Bld Try.prog 28 #[.int .i64 0, .int .i64 0, .int .i64 0, .int .i64 0, .slice none 0 0, .slice none 0 0, .slice none 0 0, .int .i64 0, .int .i64 0, .int .i64 0, .int .i64 0] #[(0, 1), (1, 1), (2, 1), (3, 1), (4, 1), (5, 1), (6, 1), (7, 4)] := by
  obtain ⟨i, h1, h2, _⟩ := info_parts inf28
  exact Bld.mk h1 h2 rfl Try.underlying28 (by kernel_rfl)
theorem sz29 : (Try.prog.info? 29).map (·.size) = some 11 := by kernel_rfl
theorem many29 : CelN Try.prog 29 11 := CelN.mk Try.underlying29 sz29 rfl
theorem zv29 (w : World) : (zeroValue 29).run Try.prog w = .ok (.agg #[.int .i64 0, .int .i64 0, .int .i64 0, .int .i64 0, .slice none 0 0, .slice none 0 0, .slice none 0 0, .int .i64 0, .int .i64 0, .int .i64 0, .int .i64 0]) w := by kernel_rfl
theorem inf29 : (Try.prog.info? 29).map (fun i => (i.zero, i.size, i.bytes)) = some (some (.agg #[.int .i64 0, .int .i64 0, .int .i64 0, .int .i64 0, .slice none 0 0, .slice none 0 0, .slice none 0 0, .int .i64 0, .int .i64 0, .int .i64 0, .int .i64 0]), 11, 136) := by kernel_rfl
theorem bld29 : Bld Try.prog 29 #[.int .i64 0, .int .i64 0, .int .i64 0, .int .i64 0, .slice none 0 0, .slice none 0 0, .slice none 0 0, .int .i64 0, .int .i64 0, .int .i64 0, .int .i64 0] #[(0, 1), (1, 1), (2, 1), (3, 1), (4, 1), (5, 1), (6, 1), (7, 4)] := by
  obtain ⟨i, h1, h2, _⟩ := info_parts inf29
  exact Bld.mk h1 h2 rfl Try.underlying29 (by kernel_rfl)
theorem sz30 : (Try.prog.info? 30).map (·.size) = some 1 := by kernel_rfl
theorem one30 : Cel1 Try.prog 30 := Cel1.mk Try.underlying30 rfl
theorem zv30 (w : World) : (zeroValue 30).run Try.prog w = .ok (.nilFunc) w := by kernel_rfl
theorem sz31 : (Try.prog.info? 31).map (·.size) = some 1 := by kernel_rfl
theorem one31 : Cel1 Try.prog 31 := Cel1.mk Try.underlying31 rfl
theorem zv31 (w : World) : (zeroValue 31).run Try.prog w = .ok (.int .i64 0) w := by kernel_rfl
theorem inf31 : (Try.prog.info? 31).map (fun i => (i.zero, i.size, i.bytes)) = some (some (.int .i64 0), 1, 8) := by kernel_rfl
theorem sz33 : (Try.prog.info? 33).map (·.size) = some 1 := by kernel_rfl
theorem one33 : Cel1 Try.prog 33 := Cel1.mk Try.underlying33 rfl
theorem zv33 (w : World) : (zeroValue 33).run Try.prog w = .ok (.nilFunc) w := by kernel_rfl
theorem sz35 : (Try.prog.info? 35).map (·.size) = some 1 := by kernel_rfl
theorem one35 : Cel1 Try.prog 35 := Cel1.mk Try.underlying35 rfl
theorem zv35 (w : World) : (zeroValue 35).run Try.prog w = .ok (.nilFunc) w := by kernel_rfl
theorem sz36 : (Try.prog.info? 36).map (·.size) = some 1 := by kernel_rfl
theorem one36 : Cel1 Try.prog 36 := Cel1.mk Try.underlying36 rfl
theorem zv36 (w : World) : (zeroValue 36).run Try.prog w = .ok (.nilFunc) w := by kernel_rfl
theorem sz37 : (Try.prog.info? 37).map (·.size) = some 1 := by kernel_rfl
theorem one37 : Cel1 Try.prog 37 := Cel1.mk Try.underlying37 rfl
theorem zv37 (w : World) : (zeroValue 37).run Try.prog w = .ok (.nilFunc) w := by kernel_rfl
theorem sz38 : (Try.prog.info? 38).map (·.size) = some 1 := by kernel_rfl
theorem one38 : Cel1 Try.prog 38 := Cel1.mk Try.underlying38 rfl
theorem zv38 (w : World) : (zeroValue 38).run Try.prog w = .ok (.nilFunc) w := by kernel_rfl
theorem sz39 : (Try.prog.info? 39).map (·.size) = some 1 := by kernel_rfl
theorem one39 : Cel1 Try.prog 39 := Cel1.mk Try.underlying39 rfl
theorem zv39 (w : World) : (zeroValue 39).run Try.prog w = .ok (.nilFunc) w := by kernel_rfl
theorem sz41 : (Try.prog.info? 41).map (·.size) = some 1 := by kernel_rfl
theorem one41 : Cel1 Try.prog 41 := Cel1.mk Try.underlying41 rfl
theorem zv41 (w : World) : (zeroValue 41).run Try.prog w = .ok (.nilFunc) w := by kernel_rfl
theorem sz42 : (Try.prog.info? 42).map (·.size) = some 1 := by kernel_rfl
theorem one42 : Cel1 Try.prog 42 := Cel1.mk Try.underlying42 rfl
theorem zv42 (w : World) : (zeroValue 42).run Try.prog w = .ok (.nilFunc) w := by kernel_rfl
theorem sz43 : (Try.prog.info? 43).map (·.size) = some 1 := by kernel_rfl
theorem one43 : Cel1 Try.prog 43 := Cel1.mk Try.underlying43 rfl
theorem zv43 (w : World) : (zeroValue 43).run Try.prog w = .ok (.nilFunc) w := by kernel_rfl
theorem sz44 : (Try.prog.info? 44).map (·.size) = some 1 := by kernel_rfl
theorem one44 : Cel1 Try.prog 44 := Cel1.mk Try.underlying44 rfl
theorem zv44 (w : World) : (zeroValue 44).run Try.prog w = .ok (.nilFunc) w := by kernel_rfl
theorem sz45 : (Try.prog.info? 45).map (·.size) = some 1 := by kernel_rfl
theorem one45 : Cel1 Try.prog 45 := Cel1.mk Try.underlying45 rfl
theorem zv45 (w : World) : (zeroValue 45).run Try.prog w = .ok (.nilFunc) w := by kernel_rfl
theorem sz46 : (Try.prog.info? 46).map (·.size) = some 1 := by kernel_rfl
theorem one46 : Cel1 Try.prog 46 := Cel1.mk Try.underlying46 rfl
theorem zv46 (w : World) : (zeroValue 46).run Try.prog w = .ok (.nilFunc) w := by kernel_rfl
theorem sz47 : (Try.prog.info? 47).map (·.size) = some 11 := by kernel_rfl
theorem many47 : CelN Try.prog 47 11 := CelN.mk Try.underlying47 sz47 rfl
theorem flat47 : Flat Try.prog 47 11 := Flat.struct Try.underlying47 (by kernel_rfl) (by kernel_rfl) (by kernel_rfl) rfl
theorem zv47 (w : World) : (zeroValue 47).run Try.prog w = .ok (.agg #[.int .i64 0, .int .i64 0, .int .i64 0, .int .i64 0, .int .i64 0, .int .i64 0, .int .i64 0, .int .i64 0, .int .i64 0, .int .i64 0, .int .i64 0]) w := by kernel_rfl
theorem inf47 : (Try.prog.info? 47).map (fun i => (i.zero, i.size, i.bytes)) = some (some (.agg #[.int .i64 0, .int .i64 0, .int .i64 0, .int .i64 0, .int .i64 0, .int .i64 0, .int .i64 0, .int .i64 0, .int .i64 0, .int .i64 0, .int .i64 0]), 11, 88) := by kernel_rfl
theorem bld47 : Bld Try.prog 47 #[.int .i64 0, .int .i64 0, .int .i64 0, .int .i64 0, .int .i64 0, .int .i64 0, .int .i64 0, .int .i64 0, .int .i64 0, .int .i64 0, .int .i64 0] #[(0, 1), (1, 1), (2, 1), (3, 1), (4, 1), (5, 1), (6, 1), (7, 1), (8, 1), (9, 1), (10, 1)] := by
  obtain ⟨i, h1, h2, _⟩ := info_parts inf47
  exact Bld.mk h1 h2 rfl Try.underlying47 (by kernel_rfl)
theorem sz48 : (Try.prog.info? 48).map (·.size) = some 11 := by kernel_rfl
theorem many48 : CelN Try.prog 48 11 := CelN.mk Try.underlying48 sz48 rfl
theorem flat48 : Flat Try.prog 48 11 := Flat.struct Try.underlying48 (by kernel_rfl) (by kernel_rfl) (by kernel_rfl) rfl
theorem zv48 (w : World) : (zeroValue 48).run Try.prog w = .ok (.agg #[.int .i64 0, .int .i64 0, .int .i64 0, .int .i64 0, .int .i64 0, .int .i64 0, .int .i64 0, .int .i64 0, .int .i64 0, .int .i64 0, .int .i64 0]) w := by kernel_rfl
theorem inf48 : (Try.prog.info? 48).map (fun i => (i.zero, i.size, i.bytes)) = some (some (.agg #[.int .i64 0, .int .i64 0, .int .i64 0, .int .i64 0, .int .i64 0, .int .i64 0, .int .i64 0, .int .i64 0, .int .i64 0, .int .i64 0, .int .i64 0]), 11, 88) := by kernel_rfl
theorem bld48 : Bld Try.prog 48 #[.int .i64 0, .int .i64 0, .int .i64 0, .int .i64 0, .int .i64 0, .int .i64 0, .int .i64 0, .int .i64 0, .int .i64 0, .int .i64 0, .int .i64 0] #[(0, 1), (1, 1), (2, 1), (3, 1), (4, 1), (5, 1), (6, 1), (7, 1), (8, 1), (9, 1), (10, 1)] := by
  obtain ⟨i, h1, h2, _⟩ := info_parts inf48
  exact Bld.mk h1 h2 rfl Try.underlying48 (by kernel_rfl)
theorem sz49 : (Try.prog.info? 49).map (·.size) = some 1 := by kernel_rfl
theorem one49 : Cel1 Try.prog 49 := Cel1.mk Try.underlying49 rfl
theorem zv49 (w : World) : (zeroValue 49).run Try.prog w = .ok (.nilFunc) w := by kernel_rfl
theorem sz50 : (Try.prog.info? 50).map (·.size) = some 1 := by kernel_rfl
theorem one50 : Cel1 Try.prog 50 := Cel1.mk Try.underlying50 rfl
theorem zv50 (w : World) : (zeroValue 50).run Try.prog w = .ok (.nilFunc) w := by kernel_rfl
theorem sz52 : (Try.prog.info? 52).map (·.size) = some 1 := by kernel_rfl
theorem one52 : Cel1 Try.prog 52 := Cel1.mk Try.underlying52 rfl
theorem zv52 (w : World) : (zeroValue 52).run Try.prog w = .ok (.nilFunc) w := by kernel_rfl
theorem sz53 : (Try.prog.info? 53).map (·.size) = some 1 := by kernel_rfl
theorem one53 : Cel1 Try.prog 53 := Cel1.mk Try.underlying53 rfl
theorem zv53 (w : World) : (zeroValue 53).run Try.prog w = .ok (.nilFunc) w := by kernel_rfl
theorem sz54 : (Try.prog.info? 54).map (·.size) = some 1 := by kernel_rfl
theorem one54 : Cel1 Try.prog 54 := Cel1.mk Try.underlying54 rfl
theorem zv54 (w : World) : (zeroValue 54).run Try.prog w = .ok (.int .u64 0) w := by kernel_rfl
theorem inf54 : (Try.prog.info? 54).map (fun i => (i.zero, i.size, i.bytes)) = some (some (.int .u64 0), 1, 8) := by kernel_rfl
theorem sz55 : (Try.prog.info? 55).map (·.size) = some 1 := by kernel_rfl
theorem one55 : Cel1 Try.prog 55 := Cel1.mk Try.underlying55 rfl
theorem zv55 (w : World) : (zeroValue 55).run Try.prog w = .ok (.nilFunc) w := by kernel_rfl
theorem sz56 : (Try.prog.info? 56).map (·.size) = some 4 := by kernel_rfl
theorem many56 : CelN Try.prog 56 4 := CelN.mk Try.underlying56 sz56 rfl
theorem flat56 : Flat Try.prog 56 4 := Flat.struct Try.underlying56 (by kernel_rfl) (by kernel_rfl) (by kernel_rfl) rfl
theorem zv56 (w : World) : (zeroValue 56).run Try.prog w = .ok (.agg #[.int .i64 0, .int .i64 0, .int .i64 0, .int .i64 0]) w := by kernel_rfl
theorem inf56 : (Try.prog.info? 56).map (fun i => (i.zero, i.size, i.bytes)) = some (some (.agg #[.int .i64 0, .int .i64 0, .int .i64 0, .int .i64 0]), 4, 32) := by kernel_rfl
theorem bld56 : Bld Try.prog 56 #[.int .i64 0, .int .i64 0, .int .i64 0, .int .i64 0] #[(0, 1), (1, 1), (2, 1), (3, 1)] := by
  obtain ⟨i, h1, h2, _⟩ := info_parts inf56
  exact Bld.mk h1 h2 rfl Try.underlying56 (by kernel_rfl)
theorem sz57 : (Try.prog.info? 57).map (·.size) = some 4 := by kernel_rfl
theorem many57 : CelN Try.prog 57 4 := CelN.mk Try.underlying57 sz57 rfl
theorem flat57 : Flat Try.prog 57 4 := Flat.struct Try.underlying57 (by kernel_rfl) (by kernel_rfl) (by kernel_rfl) rfl
theorem zv57 (w : World) : (zeroValue 57).run Try.prog w = .ok (.agg #[.int .i64 0, .int .i64 0, .int .i64 0, .int .i64 0]) w := by kernel_rfl
theorem inf57 : (Try.prog.info? 57).map (fun i => (i.zero, i.size, i.bytes)) = some (some (.agg #[.int .i64 0, .int .i64 0, .int .i64 0, .int .i64 0]), 4, 32) := by kernel_rfl
theorem bld57 : Bld Try.prog 57 #[.int .i64 0, .int .i64 0, .int .i64 0, .int .i64 0] #[(0, 1), (1, 1), (2, 1), (3, 1)] := by
  obtain ⟨i, h1, h2, _⟩ := info_parts inf57
  exact Bld.mk h1 h2 rfl Try.underlying57 (by kernel_rfl)
theorem sz58 : (Try.prog.info? 58).map (·.size) = some 1 := by kernel_rfl
theorem one58 : Cel1 Try.prog 58 := Cel1.mk Try.underlying58 rfl
theorem zv58 (w : World) : (zeroValue 58).run Try.prog w = .ok (.nilFunc) w := by kernel_rfl
theorem sz59 : (Try.prog.info? 59).map (·.size) = some 1 := by kernel_rfl
theorem one59 : Cel1 Try.prog 59 := Cel1.mk Try.underlying59 rfl
theorem zv59 (w : World) : (zeroValue 59).run Try.prog w = .ok (.nilFunc) w := by kernel_rfl
theorem sz60 : (Try.prog.info? 60).map (·.size) = some 1 := by kernel_rfl
theorem one60 : Cel1 Try.prog 60 := Cel1.mk Try.underlying60 rfl
theorem zv60 (w : World) : (zeroValue 60).run Try.prog w = .ok (.nilFunc) w := by kernel_rfl
theorem sz61 : (Try.prog.info? 61).map (·.size) = some 1 := by kernel_rfl
theorem one61 : Cel1 Try.prog 61 := Cel1.mk Try.underlying61 rfl
theorem zv61 (w : World) : (zeroValue 61).run Try.prog w = .ok (.nilFunc) w := by kernel_rfl
theorem sz62 : (Try.prog.info? 62).map (·.size) = some 3 := by kernel_rfl
theorem many62 : CelN Try.prog 62 3 := CelN.mk Try.underlying62 sz62 rfl
theorem zv62 (w : World) : (zeroValue 62).run Try.prog w = .ok (.agg #[.slice none 0 0, .slice none 0 0, .slice none 0 0]) w := by kernel_rfl
theorem inf62 : (Try.prog.info? 62).map (fun i => (i.zero, i.size, i.bytes)) = some (some (.agg #[.slice none 0 0, .slice none 0 0, .slice none 0 0]), 3, 72) := by kernel_rfl
theorem bld62 : Bld Try.prog 62 #[.slice none 0 0, .slice none 0 0, .slice none 0 0] #[(0, 1), (1, 1), (2, 1)] := by
  obtain ⟨i, h1, h2, _⟩ := info_parts inf62
  exact Bld.mk h1 h2 rfl Try.underlying62 (by kernel_rfl)
theorem sz63 : (Try.prog.info? 63).map (·.size) = some 3 := by kernel_rfl
theorem many63 : CelN Try.prog 63 3 := CelN.mk Try.underlying63 sz63 rfl
theorem zv63 (w : World) : (zeroValue 63).run Try.prog w = .ok (.agg #[.slice none 0 0, .slice none 0 0, .slice none 0 0]) w := by kernel_rfl
theorem inf63 : (Try.prog.info? 63).map (fun i => (i.zero, i.size, i.bytes)) = some (some (.agg #[.slice none 0 0, .slice none 0 0, .slice none 0 0]), 3, 72) := by kernel_rfl
theorem bld63 : Bld Try.prog 63 #[.slice none 0 0, .slice none 0 0, .slice none 0 0] #[(0, 1), (1, 1), (2, 1)] := by
  obtain ⟨i, h1, h2, _⟩ := info_parts inf63
  exact Bld.mk h1 h2 rfl Try.underlying63 (by kernel_rfl)
theorem sz64 : (Try.prog.info? 64).map (·.size) = some 1 := by kernel_rfl
theorem one64 : Cel1 Try.prog 64 := Cel1.mk Try.underlying64 rfl
theorem zv64 (w : World) : (zeroValue 64).run Try.prog w = .ok (.nilFunc) w := by kernel_rfl
theorem sz65 : (Try.prog.info? 65).map (·.size) = some 1 := by kernel_rfl
theorem one65 : Cel1 Try.prog 65 := Cel1.mk Try.underlying65 rfl
theorem zv65 (w : World) : (zeroValue 65).run Try.prog w = .ok (.nilFunc) w := by kernel_rfl
theorem sz66 : (Try.prog.info? 66).map (·.size) = some 1 := by kernel_rfl
theorem one66 : Cel1 Try.prog 66 := Cel1.mk Try.underlying66 rfl
theorem zv66 (w : World) : (zeroValue 66).run Try.prog w = .ok (.pointer none) w := by kernel_rfl
theorem inf66 : (Try.prog.info? 66).map (fun i => (i.zero, i.size, i.bytes)) = some (some (.pointer none), 1, 8) := by kernel_rfl
theorem sz67 : (Try.prog.info? 67).map (·.size) = some 1 := by kernel_rfl
theorem many67 : CelN Try.prog 67 1 := CelN.mk Try.underlying67 sz67 rfl
theorem zv67 (w : World) : (zeroValue 67).run Try.prog w = .ok (.agg #[.slice none 0 0]) w := by kernel_rfl
theorem inf67 : (Try.prog.info? 67).map (fun i => (i.zero, i.size, i.bytes)) = some (some (.agg #[.slice none 0 0]), 1, 24) := by kernel_rfl
theorem bld67 : Bld Try.prog 67 #[.slice none 0 0] #[(0, 1)] := by
  obtain ⟨i, h1, h2, _⟩ := info_parts inf67
  exact Bld.mk h1 h2 rfl Try.underlying67 (by kernel_rfl)
theorem sz68 : (Try.prog.info? 68).map (·.size) = some 1 := by kernel_rfl
theorem many68 : CelN Try.prog 68 1 := CelN.mk Try.underlying68 sz68 rfl
theorem zv68 (w : World) : (zeroValue 68).run Try.prog w = .ok (.agg #[.slice none 0 0]) w := by kernel_rfl
theorem inf68 : (Try.prog.info? 68).map (fun i => (i.zero, i.size, i.bytes)) = some (some (.agg #[.slice none 0 0]), 1, 24) := by kernel_rfl
theorem bld68 : Bld Try.prog 68 #[.slice none 0 0] #[(0, 1)] := by
  obtain ⟨i, h1, h2, _⟩ := info_parts inf68
  exact Bld.mk h1 h2 rfl Try.underlying68 (by kernel_rfl)
theorem sz69 : (Try.prog.info? 69).map (·.size) = some 1 := by kernel_rfl
theorem one69 : Cel1 Try.prog 69 := Cel1.mk Try.underlying69 rfl
theorem zv69 (w : World) : (zeroValue 69).run Try.prog w = .ok (.nilFunc) w := by kernel_rfl
theorem sz70 : (Try.prog.info? 70).map (·.size) = some 1 := by kernel_rfl
theorem one70 : Cel1 Try.prog 70 := Cel1.mk Try.underlying70 rfl
theorem zv70 (w : World) : (zeroValue 70).run Try.prog w = .ok (.nilFunc) w := by kernel_rfl
theorem sz71 : (Try.prog.info? 71).map (·.size) = some 1 := by kernel_rfl
theorem one71 : Cel1 Try.prog 71 := Cel1.mk Try.underlying71 rfl
theorem zv71 (w : World) : (zeroValue 71).run Try.prog w = .ok (.pointer none) w := by kernel_rfl
theorem inf71 : (Try.prog.info? 71).map (fun i => (i.zero, i.size, i.bytes)) = some (some (.pointer none), 1, 8) := by kernel_rfl
theorem sz72 : (Try.prog.info? 72).map (·.size) = some 1 := by kernel_rfl
theorem one72 : Cel1 Try.prog 72 := Cel1.mk Try.underlying72 rfl
theorem zv72 (w : World) : (zeroValue 72).run Try.prog w = .ok (.nilFunc) w := by kernel_rfl
theorem sz73 : (Try.prog.info? 73).map (·.size) = some 1 := by kernel_rfl
theorem one73 : Cel1 Try.prog 73 := Cel1.mk Try.underlying73 rfl
theorem zv73 (w : World) : (zeroValue 73).run Try.prog w = .ok (.pointer none) w := by kernel_rfl
theorem inf73 : (Try.prog.info? 73).map (fun i => (i.zero, i.size, i.bytes)) = some (some (.pointer none), 1, 8) := by kernel_rfl
theorem sz74 : (Try.prog.info? 74).map (·.size) = some 1 := by kernel_rfl
theorem one74 : Cel1 Try.prog 74 := Cel1.mk Try.underlying74 rfl
theorem zv74 (w : World) : (zeroValue 74).run Try.prog w = .ok (.pointer none) w := by kernel_rfl
theorem inf74 : (Try.prog.info? 74).map (fun i => (i.zero, i.size, i.bytes)) = some (some (.pointer none), 1, 8) := by kernel_rfl
theorem sz75 : (Try.prog.info? 75).map (·.size) = some 1 := by kernel_rfl
theorem one75 : Cel1 Try.prog 75 := Cel1.mk Try.underlying75 rfl
theorem zv75 (w : World) : (zeroValue 75).run Try.prog w = .ok (.nilFunc) w := by kernel_rfl
theorem sz76 : (Try.prog.info? 76).map (·.size) = some 1 := by kernel_rfl
theorem one76 : Cel1 Try.prog 76 := Cel1.mk Try.underlying76 rfl
theorem zv76 (w : World) : (zeroValue 76).run Try.prog w = .ok (.nilFunc) w := by kernel_rfl
theorem sz77 : (Try.prog.info? 77).map (·.size) = some 1 := by kernel_rfl
theorem one77 : Cel1 Try.prog 77 := Cel1.mk Try.underlying77 rfl
theorem zv77 (w : World) : (zeroValue 77).run Try.prog w = .ok (.nilFunc) w := by kernel_rfl
theorem sz78 : (Try.prog.info? 78).map (·.size) = some 1 := by kernel_rfl
theorem one78 : Cel1 Try.prog 78 := Cel1.mk Try.underlying78 rfl
theorem zv78 (w : World) : (zeroValue 78).run Try.prog w = .ok (.nilFunc) w := by kernel_rfl
theorem sz79 : (Try.prog.info? 79).map (·.size) = some 1 := by kernel_rfl
theorem one79 : Cel1 Try.prog 79 := Cel1.mk Try.underlying79 rfl
theorem zv79 (w : World) : (zeroValue 79).run Try.prog w = .ok (.nilFunc) w := by kernel_rfl
theorem sz80 : (Try.prog.info? 80).map (·.size) = some 1 := by kernel_rfl
theorem one80 : Cel1 Try.prog 80 := Cel1.mk Try.underlying80 rfl
theorem zv80 (w : World) : (zeroValue 80).run Try.prog w = .ok (.map none) w := by kernel_rfl
theorem inf80 : (Try.prog.info? 80).map (fun i => (i.zero, i.size, i.bytes)) = some (some (.map none), 1, 8) := by kernel_rfl
theorem sz82 : (Try.prog.info? 82).map (·.size) = some 1 := by kernel_rfl
theorem one82 : Cel1 Try.prog 82 := Cel1.mk Try.underlying82 rfl
theorem zv82 (w : World) : (zeroValue 82).run Try.prog w = .ok (.nilFunc) w := by kernel_rfl
theorem sz83 : (Try.prog.info? 83).map (·.size) = some 1 := by kernel_rfl
theorem one83 : Cel1 Try.prog 83 := Cel1.mk Try.underlying83 rfl
theorem zv83 (w : World) : (zeroValue 83).run Try.prog w = .ok (.nilFunc) w := by kernel_rfl
theorem sz84 : (Try.prog.info? 84).map (·.size) = some 6 := by kernel_rfl
theorem many84 : CelN Try.prog 84 6 := CelN.mk Try.underlying84 sz84 rfl
theorem flat84 : Flat Try.prog 84 6 := Flat.array Try.underlying84 (by kernel_rfl) sz3 (by kernel_rfl)
theorem zv84 (w : World) : (zeroValue 84).run Try.prog w = .ok (.agg #[.int .i64 0, .int .i64 0, .int .i64 0, .int .i64 0, .int .i64 0, .int .i64 0]) w := by kernel_rfl
theorem inf84 : (Try.prog.info? 84).map (fun i => (i.zero, i.size, i.bytes)) = some (some (.agg #[.int .i64 0, .int .i64 0, .int .i64 0, .int .i64 0, .int .i64 0, .int .i64 0]), 6, 48) := by kernel_rfl
theorem sz85 : (Try.prog.info? 85).map (·.size) = some 1 := by kernel_rfl
theorem one85 : Cel1 Try.prog 85 := Cel1.mk Try.underlying85 rfl
theorem zv85 (w : World) : (zeroValue 85).run Try.prog w = .ok (.nilFunc) w := by kernel_rfl
theorem sz86 : (Try.prog.info? 86).map (·.size) = some 1 := by kernel_rfl
theorem one86 : Cel1 Try.prog 86 := Cel1.mk Try.underlying86 rfl
theorem zv86 (w : World) : (zeroValue 86).run Try.prog w = .ok (.nilFunc) w := by kernel_rfl
theorem sz87 : (Try.prog.info? 87).map (·.size) = some 1 := by kernel_rfl
theorem one87 : Cel1 Try.prog 87 := Cel1.mk Try.underlying87 rfl
theorem zv87 (w : World) : (zeroValue 87).run Try.prog w = .ok (.nilFunc) w := by kernel_rfl
theorem sz88 : (Try.prog.info? 88).map (·.size) = some 1 := by kernel_rfl
theorem one88 : Cel1 Try.prog 88 := Cel1.mk Try.underlying88 rfl
theorem zv88 (w : World) : (zeroValue 88).run Try.prog w = .ok (.slice none 0 0) w := by kernel_rfl
theorem inf88 : (Try.prog.info? 88).map (fun i => (i.zero, i.size, i.bytes)) = some (some (.slice none 0 0), 1, 24) := by kernel_rfl
theorem sz89 : (Try.prog.info? 89).map (·.size) = some 1 := by kernel_rfl
theorem one89 : Cel1 Try.prog 89 := Cel1.mk Try.underlying89 rfl
theorem zv89 (w : World) : (zeroValue 89).run Try.prog w = .ok (.nilFunc) w := by kernel_rfl
theorem sz90 : (Try.prog.info? 90).map (·.size) = some 1 := by kernel_rfl
theorem one90 : Cel1 Try.prog 90 := Cel1.mk Try.underlying90 rfl
theorem zv90 (w : World) : (zeroValue 90).run Try.prog w = .ok (.nilFunc) w := by kernel_rfl
theorem sz91 : (Try.prog.info? 91).map (·.size) = some 1 := by kernel_rfl
theorem one91 : Cel1 Try.prog 91 := Cel1.mk Try.underlying91 rfl
theorem zv91 (w : World) : (zeroValue 91).run Try.prog w = .ok (.nilFunc) w := by kernel_rfl
theorem sz92 : (Try.prog.info? 92).map (·.size) = some 1 := by kernel_rfl
theorem one92 : Cel1 Try.prog 92 := Cel1.mk Try.underlying92 rfl
theorem zv92 (w : World) : (zeroValue 92).run Try.prog w = .ok (.int .u64 0) w := by kernel_rfl
theorem inf92 : (Try.prog.info? 92).map (fun i => (i.zero, i.size, i.bytes)) = some (some (.int .u64 0), 1, 8) := by kernel_rfl
theorem sz93 : (Try.prog.info? 93).map (·.size) = some 1 := by kernel_rfl
theorem one93 : Cel1 Try.prog 93 := Cel1.mk Try.underlying93 rfl
theorem zv93 (w : World) : (zeroValue 93).run Try.prog w = .ok (.slice none 0 0) w := by kernel_rfl
theorem inf93 : (Try.prog.info? 93).map (fun i => (i.zero, i.size, i.bytes)) = some (some (.slice none 0 0), 1, 24) := by kernel_rfl
theorem sz94 : (Try.prog.info? 94).map (·.size) = some 1 := by kernel_rfl
theorem one94 : Cel1 Try.prog 94 := Cel1.mk Try.underlying94 rfl
theorem zv94 (w : World) : (zeroValue 94).run Try.prog w = .ok (.nilFunc) w := by kernel_rfl
theorem sz95 : (Try.prog.info? 95).map (·.size) = some 1 := by kernel_rfl
theorem one95 : Cel1 Try.prog 95 := Cel1.mk Try.underlying95 rfl
theorem zv95 (w : World) : (zeroValue 95).run Try.prog w = .ok (.nilFunc) w := by kernel_rfl
theorem sz96 : (Try.prog.info? 96).map (·.size) = some 1 := by kernel_rfl
theorem one96 : Cel1 Try.prog 96 := Cel1.mk Try.underlying96 rfl
theorem zv96 (w : World) : (zeroValue 96).run Try.prog w = .ok (.nilFunc) w := by kernel_rfl
theorem sz97 : (Try.prog.info? 97).map (·.size) = some 2 := by kernel_rfl
theorem many97 : CelN Try.prog 97 2 := CelN.mk Try.underlying97 sz97 rfl
theorem flat97 : Flat Try.prog 97 2 := Flat.struct Try.underlying97 (by kernel_rfl) (by kernel_rfl) (by kernel_rfl) rfl
theorem zv97 (w : World) : (zeroValue 97).run Try.prog w = .ok (.agg #[.int .i64 0, .int .i64 0]) w := by kernel_rfl
theorem inf97 : (Try.prog.info? 97).map (fun i => (i.zero, i.size, i.bytes)) = some (some (.agg #[.int .i64 0, .int .i64 0]), 2, 16) := by kernel_rfl
theorem bld97 : Bld Try.prog 97 #[.int .i64 0, .int .i64 0] #[(0, 1), (1, 1)] := by
  obtain ⟨i, h1, h2, _⟩ := info_parts inf97
  exact Bld.mk h1 h2 rfl Try.underlying97 (by kernel_rfl)
theorem sz98 : (Try.prog.info? 98).map (·.size) = some 2 := by kernel_rfl
theorem many98 : CelN Try.prog 98 2 := CelN.mk Try.underlying98 sz98 rfl
theorem flat98 : Flat Try.prog 98 2 := Flat.struct Try.underlying98 (by kernel_rfl) (by kernel_rfl) (by kernel_rfl) rfl
theorem zv98 (w : World) : (zeroValue 98).run Try.prog w = .ok (.agg #[.int .i64 0, .int .i64 0]) w := by kernel_rfl
theorem inf98 : (Try.prog.info? 98).map (fun i => (i.zero, i.size, i.bytes)) = some (some (.agg #[.int .i64 0, .int .i64 0]), 2, 16) := by kernel_rfl
theorem bld98 : Bld Try.prog 98 #[.int .i64 0, .int .i64 0] #[(0, 1), (1, 1)] := by
  obtain ⟨i, h1, h2, _⟩ := info_parts inf98
  exact Bld.mk h1 h2 rfl Try.underlying98 (by kernel_rfl)
theorem sz99 : (Try.prog.info? 99).map (·.size) = some 1 := by kernel_rfl
theorem one99 : Cel1 Try.prog 99 := Cel1.mk Try.underlying99 rfl
theorem zv99 (w : World) : (zeroValue 99).run Try.prog w = .ok (.nilFunc) w := by kernel_rfl
theorem sz100 : (Try.prog.info? 100).map (·.size) = some 1 := by kernel_rfl
theorem one100 : Cel1 Try.prog 100 := Cel1.mk Try.underlying100 rfl
theorem zv100 (w : World) : (zeroValue 100).run Try.prog w = .ok (.nilFunc) w := by kernel_rfl
theorem sz101 : (Try.prog.info? 101).map (·.size) = some 1 := by kernel_rfl
theorem one101 : Cel1 Try.prog 101 := Cel1.mk Try.underlying101 rfl
theorem zv101 (w : World) : (zeroValue 101).run Try.prog w = .ok (.nilFunc) w := by kernel_rfl
theorem sz102 : (Try.prog.info? 102).map (·.size) = some 1 := by kernel_rfl
theorem one102 : Cel1 Try.prog 102 := Cel1.mk Try.underlying102 rfl
theorem zv102 (w : World) : (zeroValue 102).run Try.prog w = .ok (.nilFunc) w := by kernel_rfl
theorem sz103 : (Try.prog.info? 103).map (·.size) = some 1 := by kernel_rfl
theorem one103 : Cel1 Try.prog 103 := Cel1.mk Try.underlying103 rfl
theorem zv103 (w : World) : (zeroValue 103).run Try.prog w = .ok (.nilFunc) w := by kernel_rfl
theorem sz104 : (Try.prog.info? 104).map (·.size) = some 1 := by kernel_rfl
theorem one104 : Cel1 Try.prog 104 := Cel1.mk Try.underlying104 rfl
theorem zv104 (w : World) : (zeroValue 104).run Try.prog w = .ok (.nilFunc) w := by kernel_rfl
theorem sz105 : (Try.prog.info? 105).map (·.size) = some 1 := by kernel_rfl
theorem one105 : Cel1 Try.prog 105 := Cel1.mk Try.underlying105 rfl
theorem zv105 (w : World) : (zeroValue 105).run Try.prog w = .ok (.nilFunc) w := by kernel_rfl
theorem sz106 : (Try.prog.info? 106).map (·.size) = some 1 := by kernel_rfl
theorem one106 : Cel1 Try.prog 106 := Cel1.mk Try.underlying106 rfl
theorem zv106 (w : World) : (zeroValue 106).run Try.prog w = .ok (.nilFunc) w := by kernel_rfl
theorem sz107 : (Try.prog.info? 107).map (·.size) = some 1 := by kernel_rfl
theorem one107 : Cel1 Try.prog 107 := Cel1.mk Try.underlying107 rfl
theorem zv107 (w : World) : (zeroValue 107).run Try.prog w = .ok (.int .u32 0) w := by kernel_rfl
theorem inf107 : (Try.prog.info? 107).map (fun i => (i.zero, i.size, i.bytes)) = some (some (.int .u32 0), 1, 4) := by kernel_rfl
theorem sz109 : (Try.prog.info? 109).map (·.size) = some 1 := by kernel_rfl
theorem one109 : Cel1 Try.prog 109 := Cel1.mk Try.underlying109 rfl
theorem zv109 (w : World) : (zeroValue 109).run Try.prog w = .ok (.nilFunc) w := by kernel_rfl
theorem sz110 : (Try.prog.info? 110).map (·.size) = some 1 := by kernel_rfl
theorem one110 : Cel1 Try.prog 110 := Cel1.mk Try.underlying110 rfl
theorem zv110 (w : World) : (zeroValue 110).run Try.prog w = .ok (.nilFunc) w := by kernel_rfl
theorem sz111 : (Try.prog.info? 111).map (·.size) = some 1 := by kernel_rfl
theorem one111 : Cel1 Try.prog 111 := Cel1.mk Try.underlying111 rfl
theorem zv111 (w : World) : (zeroValue 111).run Try.prog w = .ok (.nilFunc) w := by kernel_rfl
theorem sz112 : (Try.prog.info? 112).map (·.size) = some 4 := by kernel_rfl
theorem many112 : CelN Try.prog 112 4 := CelN.mk Try.underlying112 sz112 rfl
theorem zv112 (w : World) : (zeroValue 112).run Try.prog w = .ok (.agg #[.pointer none, .pointer none, .pointer none, .string ByteArray.empty]) w := by kernel_rfl
theorem inf112 : (Try.prog.info? 112).map (fun i => (i.zero, i.size, i.bytes)) = some (some (.agg #[.pointer none, .pointer none, .pointer none, .string ByteArray.empty]), 4, 40) := by kernel_rfl
theorem bld112 : Bld Try.prog 112 #[.pointer none, .pointer none, .pointer none, .string ByteArray.empty] #[(0, 1), (1, 1), (2, 1), (3, 1)] := by
  obtain ⟨i, h1, h2, _⟩ := info_parts inf112
  exact Bld.mk h1 h2 rfl Try.underlying112 (by kernel_rfl)
theorem sz113 : (Try.prog.info? 113).map (·.size) = some 4 := by kernel_rfl
theorem many113 : CelN Try.prog 113 4 := CelN.mk Try.underlying113 sz113 rfl
theorem zv113 (w : World) : (zeroValue 113).run Try.prog w = .ok (.agg #[.pointer none, .pointer none, .pointer none, .string ByteArray.empty]) w := by kernel_rfl
theorem inf113 : (Try.prog.info? 113).map (fun i => (i.zero, i.size, i.bytes)) = some (some (.agg #[.pointer none, .pointer none, .pointer none, .string ByteArray.empty]), 4, 40) := by kernel_rfl
theorem bld113 : Bld Try.prog 113 #[.pointer none, .pointer none, .pointer none, .string ByteArray.empty] #[(0, 1), (1, 1), (2, 1), (3, 1)] := by
  obtain ⟨i, h1, h2, _⟩ := info_parts inf113
  exact Bld.mk h1 h2 rfl Try.underlying113 (by kernel_rfl)
theorem sz114 : (Try.prog.info? 114).map (·.size) = some 0 := by kernel_rfl
theorem many114 : CelN Try.prog 114 0 := CelN.mk Try.underlying114 sz114 rfl
theorem zv114 (w : World) : (zeroValue 114).run Try.prog w = .ok (.agg #[]) w := by kernel_rfl
theorem inf114 : (Try.prog.info? 114).map (fun i => (i.zero, i.size, i.bytes)) = some (some (.agg #[]), 0, 0) := by kernel_rfl
theorem sz115 : (Try.prog.info? 115).map (·.size) = some 0 := by kernel_rfl
theorem many115 : CelN Try.prog 115 0 := CelN.mk Try.underlying115 sz115 rfl
theorem zv115 (w : World) : (zeroValue 115).run Try.prog w = .ok (.agg #[]) w := by kernel_rfl
theorem inf115 : (Try.prog.info? 115).map (fun i => (i.zero, i.size, i.bytes)) = some (some (.agg #[]), 0, 0) := by kernel_rfl
theorem bld115 : Bld Try.prog 115 #[] #[(0, 0)] := by
  obtain ⟨i, h1, h2, _⟩ := info_parts inf115
  exact Bld.mk h1 h2 rfl Try.underlying115 (by kernel_rfl)
theorem sz116 : (Try.prog.info? 116).map (·.size) = some 0 := by kernel_rfl
theorem many116 : CelN Try.prog 116 0 := CelN.mk Try.underlying116 sz116 rfl
theorem zv116 (w : World) : (zeroValue 116).run Try.prog w = .ok (.agg #[]) w := by kernel_rfl
theorem inf116 : (Try.prog.info? 116).map (fun i => (i.zero, i.size, i.bytes)) = some (some (.agg #[]), 0, 0) := by kernel_rfl
theorem bld116 : Bld Try.prog 116 #[] #[(0, 0)] := by
  obtain ⟨i, h1, h2, _⟩ := info_parts inf116
  exact Bld.mk h1 h2 rfl Try.underlying116 (by kernel_rfl)
theorem sz117 : (Try.prog.info? 117).map (·.size) = some 1 := by kernel_rfl
theorem one117 : Cel1 Try.prog 117 := Cel1.mk Try.underlying117 rfl
theorem zv117 (w : World) : (zeroValue 117).run Try.prog w = .ok (.nilFunc) w := by kernel_rfl
theorem sz118 : (Try.prog.info? 118).map (·.size) = some 1 := by kernel_rfl
theorem one118 : Cel1 Try.prog 118 := Cel1.mk Try.underlying118 rfl
theorem zv118 (w : World) : (zeroValue 118).run Try.prog w = .ok (.int .u8 0) w := by kernel_rfl
theorem inf118 : (Try.prog.info? 118).map (fun i => (i.zero, i.size, i.bytes)) = some (some (.int .u8 0), 1, 1) := by kernel_rfl
theorem sz119 : (Try.prog.info? 119).map (·.size) = some 1 := by kernel_rfl
theorem one119 : Cel1 Try.prog 119 := Cel1.mk Try.underlying119 rfl
theorem zv119 (w : World) : (zeroValue 119).run Try.prog w = .ok (.int .u8 0) w := by kernel_rfl
theorem inf119 : (Try.prog.info? 119).map (fun i => (i.zero, i.size, i.bytes)) = some (some (.int .u8 0), 1, 1) := by kernel_rfl
theorem sz120 : (Try.prog.info? 120).map (·.size) = some 1 := by kernel_rfl
theorem one120 : Cel1 Try.prog 120 := Cel1.mk Try.underlying120 rfl
theorem zv120 (w : World) : (zeroValue 120).run Try.prog w = .ok (.nilFunc) w := by kernel_rfl
theorem sz121 : (Try.prog.info? 121).map (·.size) = some 1 := by kernel_rfl
theorem one121 : Cel1 Try.prog 121 := Cel1.mk Try.underlying121 rfl
theorem zv121 (w : World) : (zeroValue 121).run Try.prog w = .ok (.pointer none) w := by kernel_rfl
theorem inf121 : (Try.prog.info? 121).map (fun i => (i.zero, i.size, i.bytes)) = some (some (.pointer none), 1, 8) := by kernel_rfl
theorem sz122 : (Try.prog.info? 122).map (·.size) = some 1 := by kernel_rfl
theorem one122 : Cel1 Try.prog 122 := Cel1.mk Try.underlying122 rfl
theorem zv122 (w : World) : (zeroValue 122).run Try.prog w = .ok (.int .i32 0) w := by kernel_rfl
theorem inf122 : (Try.prog.info? 122).map (fun i => (i.zero, i.size, i.bytes)) = some (some (.int .i32 0), 1, 4) := by kernel_rfl
theorem sz123 : (Try.prog.info? 123).map (·.size) = some 1 := by kernel_rfl
theorem one123 : Cel1 Try.prog 123 := Cel1.mk Try.underlying123 rfl
theorem zv123 (w : World) : (zeroValue 123).run Try.prog w = .ok (.int .i32 0) w := by kernel_rfl
theorem inf123 : (Try.prog.info? 123).map (fun i => (i.zero, i.size, i.bytes)) = some (some (.int .i32 0), 1, 4) := by kernel_rfl
theorem sz124 : (Try.prog.info? 124).map (·.size) = some 11 := by kernel_rfl
theorem many124 : CelN Try.prog 124 11 := CelN.mk Try.underlying124 sz124 rfl
theorem zv124 (w : World) : (zeroValue 124).run Try.prog w = .ok (.agg #[.int .u64 0, .int .u64 0, .int .u32 0, .int .u8 0, .int .u8 0, .int .u8 0, .int .u8 0, .nilFunc, .pointer none, .int .i32 0, .int .i32 0]) w := by kernel_rfl
theorem inf124 : (Try.prog.info? 124).map (fun i => (i.zero, i.size, i.bytes)) = some (some (.agg #[.int .u64 0, .int .u64 0, .int .u32 0, .int .u8 0, .int .u8 0, .int .u8 0, .int .u8 0, .nilFunc, .pointer none, .int .i32 0, .int .i32 0]), 11, 48) := by kernel_rfl
theorem bld124 : Bld Try.prog 124 #[.int .u64 0, .int .u64 0, .int .u32 0, .int .u8 0, .int .u8 0, .int .u8 0, .int .u8 0, .nilFunc, .pointer none, .int .i32 0, .int .i32 0] #[(0, 1), (1, 1), (2, 1), (3, 1), (4, 1), (5, 1), (6, 1), (7, 1), (8, 1), (9, 1), (10, 1)] := by
  obtain ⟨i, h1, h2, _⟩ := info_parts inf124
  exact Bld.mk h1 h2 rfl Try.underlying124 (by kernel_rfl)
theorem sz125 : (Try.prog.info? 125).map (·.size) = some 11 := by kernel_rfl
theorem many125 : CelN Try.prog 125 11 := CelN.mk Try.underlying125 sz125 rfl
theorem zv125 (w : World) : (zeroValue 125).run Try.prog w = .ok (.agg #[.int .u64 0, .int .u64 0, .int .u32 0, .int .u8 0, .int .u8 0, .int .u8 0, .int .u8 0, .nilFunc, .pointer none, .int .i32 0, .int .i32 0]) w := by kernel_rfl
theorem inf125 : (Try.prog.info? 125).map (fun i => (i.zero, i.size, i.bytes)) = some (some (.agg #[.int .u64 0, .int .u64 0, .int .u32 0, .int .u8 0, .int .u8 0, .int .u8 0, .int .u8 0, .nilFunc, .pointer none, .int .i32 0, .int .i32 0]), 11, 48) := by kernel_rfl
theorem bld125 : Bld Try.prog 125 #[.int .u64 0, .int .u64 0, .int .u32 0, .int .u8 0, .int .u8 0, .int .u8 0, .int .u8 0, .nilFunc, .pointer none, .int .i32 0, .int .i32 0] #[(0, 1), (1, 1), (2, 1), (3, 1), (4, 1), (5, 1), (6, 1), (7, 1), (8, 1), (9, 1), (10, 1)] := by
  obtain ⟨i, h1, h2, _⟩ := info_parts inf125
  exact Bld.mk h1 h2 rfl Try.underlying125 (by kernel_rfl)
end Go.Proofs.Ytecodneffflpoaa
