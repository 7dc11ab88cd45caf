/-
  No cell of these rows narrows 'for every input' (looked for: loops, veiled, ifaces, maps, wideKeys, modest, calm, conditions, laid).
  DERIVED. THE GIVEN ROWS OF THIS SEAT. 12 by the template 'for every input the law returns true; each argument reads behind the call as it read before'; 0 by the template 'total and deterministic' (their statements: YtcogbkkdccohfaaGreatTotals.lean).
  GIVEN WITH THE SEED: the statements are not yours to turn. If you find one false, say at which input.
  Laid BY PROGRAM, IN A SANDBOX (cutbox-rows.mjs): the forced cells as the released guide's own fill.sh prints them over the translation 4200c67257796196… (all of the seat's roots in one cut). By AI agents, Wed Nov 11 2026. No macro, syntax, notation, axiom, sorry.
-/
import Derived.Test.YtcogbkkdccohfaaGreatChecked
import GoSem.Claim
import GoSem.ClaimJoined
import GoSem.ClaimMapViews
import Derived.JoinedTies
import Derived.KernelRfl
namespace Go.Proofs.YtcogbkkdccohfaaGreat
/- THE CELL 'sum', in the pinned program and in every row, IS THE sha256 OF THE DUMP (.gsa) THAT YtcogbkkdccohfaaGreatProg.lean LOADS. Nothing in Lean hashes anything: it is a label: what it is worth is what the hold of that sum in a sandbox is worth. -/
noncomputable def Tryz.pinned : Pinned := { name := "ytcogbkkdccohfaagreat", sum := "4200c67257796196e5639a3f4dd469741e63f328ef82adca7230307616e5c3b0", checked := Tryz.checked }
namespace Rows
def none {H : Type} : Left H := { results := [], args := [] }

/-- 'aditlaw11.SnapBytes': WHATEVER THE INPUT: true; the input reads as it did. -/
def snapBytesSpec : ChangeSpec := { name := "snapBytes", fn := fun _ => fun
  | [d1, d2, d3, d4, d5, d6] => { results := [.lit (.bool true)], args := [d1, d2, d3, d4, d5, d6] }
  | _ => none }
def snapBytesRow : OpenClaim := { program := "ytcogbkkdccohfaagreat", sum := "4200c67257796196e5639a3f4dd469741e63f328ef82adca7230307616e5c3b0", func := "adit/aditlaw11.SnapBytes", spec := "snapBytes", inPlace := ["internal/bytealg.Count", "internal/bytealg.IndexByte", "internal/bytealg.Index"], unfollowed := true, recurses := true, named := ["internal/bytealg.MaxLen"], plainKeys := false, apart := false }
def SnapBytesSaid : Prop := snapBytesRow.holds Tryz.pinned (OpenSpec.ofChange snapBytesSpec)

/-- ITS FALSE NEIGHBOUR: 'it returns false'. Refute it at one input. -/
def snapBytesWrong : ChangeSpec := { name := "snapBytes", fn := fun _ => fun
  | [d1, d2, d3, d4, d5, d6] => { results := [.lit (.bool false)], args := [d1, d2, d3, d4, d5, d6] }
  | _ => none }
def SnapBytesWrongFalsely : Prop := snapBytesRow.holds Tryz.pinned (OpenSpec.ofChange snapBytesWrong)

/-- 'aditlaw11.SnapRows': WHATEVER THE INPUT: true; the input reads as it did. -/
def snapRowsSpec : ChangeSpec := { name := "snapRows", fn := fun _ => fun
  | [d1, d2, d3, d4] => { results := [.lit (.bool true)], args := [d1, d2, d3, d4] }
  | _ => none }
def snapRowsRow : OpenClaim := { program := "ytcogbkkdccohfaagreat", sum := "4200c67257796196e5639a3f4dd469741e63f328ef82adca7230307616e5c3b0", func := "adit/aditlaw11.SnapRows", spec := "snapRows", inPlace := ["internal/bytealg.Count", "internal/bytealg.IndexByte", "internal/bytealg.Index"], unfollowed := true, recurses := true, named := ["internal/bytealg.MaxLen"], plainKeys := false, apart := false }
def SnapRowsSaid : Prop := snapRowsRow.holds Tryz.pinned (OpenSpec.ofChange snapRowsSpec)

/-- ITS FALSE NEIGHBOUR: 'it returns false'. Refute it at one input. -/
def snapRowsWrong : ChangeSpec := { name := "snapRows", fn := fun _ => fun
  | [d1, d2, d3, d4] => { results := [.lit (.bool false)], args := [d1, d2, d3, d4] }
  | _ => none }
def SnapRowsWrongFalsely : Prop := snapRowsRow.holds Tryz.pinned (OpenSpec.ofChange snapRowsWrong)

/-- 'aditlaw11.SnapRings': WHATEVER THE INPUT: true; the input reads as it did. -/
def snapRingsSpec : ChangeSpec := { name := "snapRings", fn := fun _ => fun
  | [d1, d2, d3, d4] => { results := [.lit (.bool true)], args := [d1, d2, d3, d4] }
  | _ => none }
def snapRingsRow : OpenClaim := { program := "ytcogbkkdccohfaagreat", sum := "4200c67257796196e5639a3f4dd469741e63f328ef82adca7230307616e5c3b0", func := "adit/aditlaw11.SnapRings", spec := "snapRings", inPlace := ["internal/bytealg.Count", "internal/bytealg.IndexByte", "internal/bytealg.Index"], unfollowed := true, recurses := true, named := ["internal/bytealg.MaxLen"], plainKeys := false, apart := false }
def SnapRingsSaid : Prop := snapRingsRow.holds Tryz.pinned (OpenSpec.ofChange snapRingsSpec)

/-- ITS FALSE NEIGHBOUR: 'it returns false'. Refute it at one input. -/
def snapRingsWrong : ChangeSpec := { name := "snapRings", fn := fun _ => fun
  | [d1, d2, d3, d4] => { results := [.lit (.bool false)], args := [d1, d2, d3, d4] }
  | _ => none }
def SnapRingsWrongFalsely : Prop := snapRingsRow.holds Tryz.pinned (OpenSpec.ofChange snapRingsWrong)

/-- 'aditlaw14.SaveBytes': WHATEVER THE INPUT: true; the input reads as it did. -/
def saveBytesSpec : ChangeSpec := { name := "saveBytes", fn := fun _ => fun
  | [d1, d2, d3, d4, d5, d6, d7] => { results := [.lit (.bool true)], args := [d1, d2, d3, d4, d5, d6, d7] }
  | _ => none }
def saveBytesRow : OpenClaim := { program := "ytcogbkkdccohfaagreat", sum := "4200c67257796196e5639a3f4dd469741e63f328ef82adca7230307616e5c3b0", func := "adit/aditlaw14.SaveBytes", spec := "saveBytes", inPlace := ["internal/bytealg.Count", "internal/bytealg.IndexByte", "internal/bytealg.Index"], unfollowed := true, recurses := true, named := ["internal/bytealg.MaxLen"], plainKeys := false, apart := false }
def SaveBytesSaid : Prop := saveBytesRow.holds Tryz.pinned (OpenSpec.ofChange saveBytesSpec)

/-- ITS FALSE NEIGHBOUR: 'it returns false'. Refute it at one input. -/
def saveBytesWrong : ChangeSpec := { name := "saveBytes", fn := fun _ => fun
  | [d1, d2, d3, d4, d5, d6, d7] => { results := [.lit (.bool false)], args := [d1, d2, d3, d4, d5, d6, d7] }
  | _ => none }
def SaveBytesWrongFalsely : Prop := saveBytesRow.holds Tryz.pinned (OpenSpec.ofChange saveBytesWrong)

/-- 'aditlaw14.SaveFew': WHATEVER THE INPUT: true; the input reads as it did. -/
def saveFewSpec : ChangeSpec := { name := "saveFew", fn := fun _ => fun
  | [d1, d2, d3] => { results := [.lit (.bool true)], args := [d1, d2, d3] }
  | _ => none }
def saveFewRow : OpenClaim := { program := "ytcogbkkdccohfaagreat", sum := "4200c67257796196e5639a3f4dd469741e63f328ef82adca7230307616e5c3b0", func := "adit/aditlaw14.SaveFew", spec := "saveFew", inPlace := ["internal/bytealg.Count", "internal/bytealg.IndexByte", "internal/bytealg.Index"], unfollowed := true, recurses := true, named := ["internal/bytealg.MaxLen"], plainKeys := false, apart := false }
def SaveFewSaid : Prop := saveFewRow.holds Tryz.pinned (OpenSpec.ofChange saveFewSpec)

/-- ITS FALSE NEIGHBOUR: 'it returns false'. Refute it at one input. -/
def saveFewWrong : ChangeSpec := { name := "saveFew", fn := fun _ => fun
  | [d1, d2, d3] => { results := [.lit (.bool false)], args := [d1, d2, d3] }
  | _ => none }
def SaveFewWrongFalsely : Prop := saveFewRow.holds Tryz.pinned (OpenSpec.ofChange saveFewWrong)

/-- 'aditlaw14.SaveReads': WHATEVER THE INPUT: true; the input reads as it did. -/
def saveReadsSpec : ChangeSpec := { name := "saveReads", fn := fun _ => fun
  | [d1, d2, d3] => { results := [.lit (.bool true)], args := [d1, d2, d3] }
  | _ => none }
def saveReadsRow : OpenClaim := { program := "ytcogbkkdccohfaagreat", sum := "4200c67257796196e5639a3f4dd469741e63f328ef82adca7230307616e5c3b0", func := "adit/aditlaw14.SaveReads", spec := "saveReads", inPlace := ["internal/bytealg.Count", "internal/bytealg.IndexByte", "internal/bytealg.Index"], unfollowed := true, recurses := true, named := ["internal/bytealg.MaxLen"], plainKeys := false, apart := false }
def SaveReadsSaid : Prop := saveReadsRow.holds Tryz.pinned (OpenSpec.ofChange saveReadsSpec)

/-- ITS FALSE NEIGHBOUR: 'it returns false'. Refute it at one input. -/
def saveReadsWrong : ChangeSpec := { name := "saveReads", fn := fun _ => fun
  | [d1, d2, d3] => { results := [.lit (.bool false)], args := [d1, d2, d3] }
  | _ => none }
def SaveReadsWrongFalsely : Prop := saveReadsRow.holds Tryz.pinned (OpenSpec.ofChange saveReadsWrong)

/-- 'aditlaw14.SaveTwoCuts': WHATEVER THE INPUT: true; the input reads as it did. -/
def saveTwoCutsSpec : ChangeSpec := { name := "saveTwoCuts", fn := fun _ => fun
  | [d1, d2, d3, d4, d5] => { results := [.lit (.bool true)], args := [d1, d2, d3, d4, d5] }
  | _ => none }
def saveTwoCutsRow : OpenClaim := { program := "ytcogbkkdccohfaagreat", sum := "4200c67257796196e5639a3f4dd469741e63f328ef82adca7230307616e5c3b0", func := "adit/aditlaw14.SaveTwoCuts", spec := "saveTwoCuts", inPlace := ["internal/bytealg.Count", "internal/bytealg.IndexByte", "internal/bytealg.Index"], unfollowed := true, recurses := true, named := ["internal/bytealg.MaxLen"], plainKeys := false, apart := false }
def SaveTwoCutsSaid : Prop := saveTwoCutsRow.holds Tryz.pinned (OpenSpec.ofChange saveTwoCutsSpec)

/-- ITS FALSE NEIGHBOUR: 'it returns false'. Refute it at one input. -/
def saveTwoCutsWrong : ChangeSpec := { name := "saveTwoCuts", fn := fun _ => fun
  | [d1, d2, d3, d4, d5] => { results := [.lit (.bool false)], args := [d1, d2, d3, d4, d5] }
  | _ => none }
def SaveTwoCutsWrongFalsely : Prop := saveTwoCutsRow.holds Tryz.pinned (OpenSpec.ofChange saveTwoCutsWrong)

/-- 'aditlaw10.CrawlSteps': WHATEVER THE INPUT: true; the input reads as it did. -/
def crawlStepsSpec : ChangeSpec := { name := "crawlSteps", fn := fun _ => fun
  | [d1, d2, d3] => { results := [.lit (.bool true)], args := [d1, d2, d3] }
  | _ => none }
def crawlStepsRow : OpenClaim := { program := "ytcogbkkdccohfaagreat", sum := "4200c67257796196e5639a3f4dd469741e63f328ef82adca7230307616e5c3b0", func := "adit/aditlaw10.CrawlSteps", spec := "crawlSteps", inPlace := ["internal/bytealg.IndexByte"], unfollowed := true, recurses := true, plainKeys := false, apart := false }
def CrawlStepsSaid : Prop := crawlStepsRow.holds Tryz.pinned (OpenSpec.ofChange crawlStepsSpec)

/-- ITS FALSE NEIGHBOUR: 'it returns false'. Refute it at one input. -/
def crawlStepsWrong : ChangeSpec := { name := "crawlSteps", fn := fun _ => fun
  | [d1, d2, d3] => { results := [.lit (.bool false)], args := [d1, d2, d3] }
  | _ => none }
def CrawlStepsWrongFalsely : Prop := crawlStepsRow.holds Tryz.pinned (OpenSpec.ofChange crawlStepsWrong)

/-- 'aditlaw10.CrawlRobots': WHATEVER THE INPUT: true; the input reads as it did. -/
def crawlRobotsSpec : ChangeSpec := { name := "crawlRobots", fn := fun _ => fun
  | [d1, d2, d3, d4] => { results := [.lit (.bool true)], args := [d1, d2, d3, d4] }
  | _ => none }
def crawlRobotsRow : OpenClaim := { program := "ytcogbkkdccohfaagreat", sum := "4200c67257796196e5639a3f4dd469741e63f328ef82adca7230307616e5c3b0", func := "adit/aditlaw10.CrawlRobots", spec := "crawlRobots", inPlace := ["internal/bytealg.IndexByte"], unfollowed := true, recurses := true, plainKeys := false, apart := false }
def CrawlRobotsSaid : Prop := crawlRobotsRow.holds Tryz.pinned (OpenSpec.ofChange crawlRobotsSpec)

/-- ITS FALSE NEIGHBOUR: 'it returns false'. Refute it at one input. -/
def crawlRobotsWrong : ChangeSpec := { name := "crawlRobots", fn := fun _ => fun
  | [d1, d2, d3, d4] => { results := [.lit (.bool false)], args := [d1, d2, d3, d4] }
  | _ => none }
def CrawlRobotsWrongFalsely : Prop := crawlRobotsRow.holds Tryz.pinned (OpenSpec.ofChange crawlRobotsWrong)

/-- 'aditlaw10.CrawlCrowds': WHATEVER THE INPUT: true; the input reads as it did. -/
def crawlCrowdsSpec : ChangeSpec := { name := "crawlCrowds", fn := fun _ => fun
  | [d1, d2, d3, d4, d5, d6] => { results := [.lit (.bool true)], args := [d1, d2, d3, d4, d5, d6] }
  | _ => none }
def crawlCrowdsRow : OpenClaim := { program := "ytcogbkkdccohfaagreat", sum := "4200c67257796196e5639a3f4dd469741e63f328ef82adca7230307616e5c3b0", func := "adit/aditlaw10.CrawlCrowds", spec := "crawlCrowds", inPlace := ["internal/bytealg.IndexByte"], unfollowed := true, recurses := true, plainKeys := false, apart := false }
def CrawlCrowdsSaid : Prop := crawlCrowdsRow.holds Tryz.pinned (OpenSpec.ofChange crawlCrowdsSpec)

/-- ITS FALSE NEIGHBOUR: 'it returns false'. Refute it at one input. -/
def crawlCrowdsWrong : ChangeSpec := { name := "crawlCrowds", fn := fun _ => fun
  | [d1, d2, d3, d4, d5, d6] => { results := [.lit (.bool false)], args := [d1, d2, d3, d4, d5, d6] }
  | _ => none }
def CrawlCrowdsWrongFalsely : Prop := crawlCrowdsRow.holds Tryz.pinned (OpenSpec.ofChange crawlCrowdsWrong)

/-- 'aditlaw10.CrawlSound': WHATEVER THE INPUT: true; the input reads as it did. -/
def crawlSoundSpec : ChangeSpec := { name := "crawlSound", fn := fun _ => fun
  | [d1, d2, d3] => { results := [.lit (.bool true)], args := [d1, d2, d3] }
  | _ => none }
def crawlSoundRow : OpenClaim := { program := "ytcogbkkdccohfaagreat", sum := "4200c67257796196e5639a3f4dd469741e63f328ef82adca7230307616e5c3b0", func := "adit/aditlaw10.CrawlSound", spec := "crawlSound", inPlace := ["internal/bytealg.IndexByte"], unfollowed := true, recurses := true, plainKeys := false, apart := false }
def CrawlSoundSaid : Prop := crawlSoundRow.holds Tryz.pinned (OpenSpec.ofChange crawlSoundSpec)

/-- ITS FALSE NEIGHBOUR: 'it returns false'. Refute it at one input. -/
def crawlSoundWrong : ChangeSpec := { name := "crawlSound", fn := fun _ => fun
  | [d1, d2, d3] => { results := [.lit (.bool false)], args := [d1, d2, d3] }
  | _ => none }
def CrawlSoundWrongFalsely : Prop := crawlSoundRow.holds Tryz.pinned (OpenSpec.ofChange crawlSoundWrong)

/-- 'aditlaw10.CrawlEnds': WHATEVER THE INPUT: true; the input reads as it did. -/
def crawlEndsSpec : ChangeSpec := { name := "crawlEnds", fn := fun _ => fun
  | [d1, d2, d3] => { results := [.lit (.bool true)], args := [d1, d2, d3] }
  | _ => none }
def crawlEndsRow : OpenClaim := { program := "ytcogbkkdccohfaagreat", sum := "4200c67257796196e5639a3f4dd469741e63f328ef82adca7230307616e5c3b0", func := "adit/aditlaw10.CrawlEnds", spec := "crawlEnds", inPlace := ["internal/bytealg.IndexByte"], unfollowed := true, recurses := true, plainKeys := false, apart := false }
def CrawlEndsSaid : Prop := crawlEndsRow.holds Tryz.pinned (OpenSpec.ofChange crawlEndsSpec)

/-- ITS FALSE NEIGHBOUR: 'it returns false'. Refute it at one input. -/
def crawlEndsWrong : ChangeSpec := { name := "crawlEnds", fn := fun _ => fun
  | [d1, d2, d3] => { results := [.lit (.bool false)], args := [d1, d2, d3] }
  | _ => none }
def CrawlEndsWrongFalsely : Prop := crawlEndsRow.holds Tryz.pinned (OpenSpec.ofChange crawlEndsWrong)

/- THE SECOND FORM. 'bulk': how many values and letters a reading holds, each counted each time it is reached (what is shared counts as often as it is met; a slice's spare places count too). A statement '..UptoSaid' is the law's where the arguments, and the package variables that the reading takes, are together of bulk at most 1048576: NARROWER than '..Said'. Prove '..Said' where nothing that the law and all that it calls make is longer than what came in: it says more and counts as full. Else prove '..UptoSaid'. A law counts once. -/
mutual
def uptoBulk {H : Type} : DataW H → Nat
  | .lit (.string bytes) => bytes.length + 1
  | .lit _ => 1
  | .nil => 1
  | .ptr d => uptoBulk d + 1
  | .slice elems spare => uptoBulkAll elems + uptoBulkAll spare + 1
  | .agg parts => uptoBulkAll parts + 1
  | .iface _ d => uptoBulk d + 1
  | .map entries => uptoBulkEntries entries + 1
  | .held _ => 1
def uptoBulkAll {H : Type} : List (DataW H) → Nat
  | [] => 0
  | d :: r => uptoBulk d + uptoBulkAll r
def uptoBulkEntries {H : Type} : List (Lit × DataW H) → Nat
  | [] => 0
  | x :: r => uptoBulkEntry x + uptoBulkEntries r
def uptoBulkEntry {H : Type} : Lit × DataW H → Nat
  | (.string bytes, d) => bytes.length + uptoBulk d + 1
  | (_, d) => uptoBulk d + 1
 end
def uptoSmall : (H : Type) → List (DataW H) → Bool := fun _ ds => decide (uptoBulkAll ds ≤ 1048576)
def OpenSpec.upto (s : _root_.Go.ChangeSpec) : _root_.Go.OpenSpec := { _root_.Go.OpenSpec.ofChange s with cond := some uptoSmall }

/-- 'aditlaw11.SnapBytes', WHERE WHAT IT READS IS OF BULK AT MOST 1048576: true; the input reads as it did. -/
def snapBytesUptoRow : OpenClaim := { program := "ytcogbkkdccohfaagreat", sum := "4200c67257796196e5639a3f4dd469741e63f328ef82adca7230307616e5c3b0", func := "adit/aditlaw11.SnapBytes", spec := "snapBytes", inPlace := ["internal/bytealg.Count", "internal/bytealg.IndexByte", "internal/bytealg.Index"], unfollowed := true, recurses := true, named := ["internal/bytealg.MaxLen"], plainKeys := false, apart := false, narrowed := true }
def SnapBytesUptoSaid : Prop := snapBytesUptoRow.holds Tryz.pinned (OpenSpec.upto snapBytesSpec)

/-- 'aditlaw11.SnapRows', WHERE WHAT IT READS IS OF BULK AT MOST 1048576: true; the input reads as it did. -/
def snapRowsUptoRow : OpenClaim := { program := "ytcogbkkdccohfaagreat", sum := "4200c67257796196e5639a3f4dd469741e63f328ef82adca7230307616e5c3b0", func := "adit/aditlaw11.SnapRows", spec := "snapRows", inPlace := ["internal/bytealg.Count", "internal/bytealg.IndexByte", "internal/bytealg.Index"], unfollowed := true, recurses := true, named := ["internal/bytealg.MaxLen"], plainKeys := false, apart := false, narrowed := true }
def SnapRowsUptoSaid : Prop := snapRowsUptoRow.holds Tryz.pinned (OpenSpec.upto snapRowsSpec)

/-- 'aditlaw11.SnapRings', WHERE WHAT IT READS IS OF BULK AT MOST 1048576: true; the input reads as it did. -/
def snapRingsUptoRow : OpenClaim := { program := "ytcogbkkdccohfaagreat", sum := "4200c67257796196e5639a3f4dd469741e63f328ef82adca7230307616e5c3b0", func := "adit/aditlaw11.SnapRings", spec := "snapRings", inPlace := ["internal/bytealg.Count", "internal/bytealg.IndexByte", "internal/bytealg.Index"], unfollowed := true, recurses := true, named := ["internal/bytealg.MaxLen"], plainKeys := false, apart := false, narrowed := true }
def SnapRingsUptoSaid : Prop := snapRingsUptoRow.holds Tryz.pinned (OpenSpec.upto snapRingsSpec)

/-- 'aditlaw14.SaveBytes', WHERE WHAT IT READS IS OF BULK AT MOST 1048576: true; the input reads as it did. -/
def saveBytesUptoRow : OpenClaim := { program := "ytcogbkkdccohfaagreat", sum := "4200c67257796196e5639a3f4dd469741e63f328ef82adca7230307616e5c3b0", func := "adit/aditlaw14.SaveBytes", spec := "saveBytes", inPlace := ["internal/bytealg.Count", "internal/bytealg.IndexByte", "internal/bytealg.Index"], unfollowed := true, recurses := true, named := ["internal/bytealg.MaxLen"], plainKeys := false, apart := false, narrowed := true }
def SaveBytesUptoSaid : Prop := saveBytesUptoRow.holds Tryz.pinned (OpenSpec.upto saveBytesSpec)

/-- 'aditlaw14.SaveFew', WHERE WHAT IT READS IS OF BULK AT MOST 1048576: true; the input reads as it did. -/
def saveFewUptoRow : OpenClaim := { program := "ytcogbkkdccohfaagreat", sum := "4200c67257796196e5639a3f4dd469741e63f328ef82adca7230307616e5c3b0", func := "adit/aditlaw14.SaveFew", spec := "saveFew", inPlace := ["internal/bytealg.Count", "internal/bytealg.IndexByte", "internal/bytealg.Index"], unfollowed := true, recurses := true, named := ["internal/bytealg.MaxLen"], plainKeys := false, apart := false, narrowed := true }
def SaveFewUptoSaid : Prop := saveFewUptoRow.holds Tryz.pinned (OpenSpec.upto saveFewSpec)

/-- 'aditlaw14.SaveReads', WHERE WHAT IT READS IS OF BULK AT MOST 1048576: true; the input reads as it did. -/
def saveReadsUptoRow : OpenClaim := { program := "ytcogbkkdccohfaagreat", sum := "4200c67257796196e5639a3f4dd469741e63f328ef82adca7230307616e5c3b0", func := "adit/aditlaw14.SaveReads", spec := "saveReads", inPlace := ["internal/bytealg.Count", "internal/bytealg.IndexByte", "internal/bytealg.Index"], unfollowed := true, recurses := true, named := ["internal/bytealg.MaxLen"], plainKeys := false, apart := false, narrowed := true }
def SaveReadsUptoSaid : Prop := saveReadsUptoRow.holds Tryz.pinned (OpenSpec.upto saveReadsSpec)

/-- 'aditlaw14.SaveTwoCuts', WHERE WHAT IT READS IS OF BULK AT MOST 1048576: true; the input reads as it did. -/
def saveTwoCutsUptoRow : OpenClaim := { program := "ytcogbkkdccohfaagreat", sum := "4200c67257796196e5639a3f4dd469741e63f328ef82adca7230307616e5c3b0", func := "adit/aditlaw14.SaveTwoCuts", spec := "saveTwoCuts", inPlace := ["internal/bytealg.Count", "internal/bytealg.IndexByte", "internal/bytealg.Index"], unfollowed := true, recurses := true, named := ["internal/bytealg.MaxLen"], plainKeys := false, apart := false, narrowed := true }
def SaveTwoCutsUptoSaid : Prop := saveTwoCutsUptoRow.holds Tryz.pinned (OpenSpec.upto saveTwoCutsSpec)

/-- 'aditlaw10.CrawlSteps', WHERE WHAT IT READS IS OF BULK AT MOST 1048576: true; the input reads as it did. -/
def crawlStepsUptoRow : OpenClaim := { program := "ytcogbkkdccohfaagreat", sum := "4200c67257796196e5639a3f4dd469741e63f328ef82adca7230307616e5c3b0", func := "adit/aditlaw10.CrawlSteps", spec := "crawlSteps", inPlace := ["internal/bytealg.IndexByte"], unfollowed := true, recurses := true, plainKeys := false, apart := false, narrowed := true }
def CrawlStepsUptoSaid : Prop := crawlStepsUptoRow.holds Tryz.pinned (OpenSpec.upto crawlStepsSpec)

/-- 'aditlaw10.CrawlRobots', WHERE WHAT IT READS IS OF BULK AT MOST 1048576: true; the input reads as it did. -/
def crawlRobotsUptoRow : OpenClaim := { program := "ytcogbkkdccohfaagreat", sum := "4200c67257796196e5639a3f4dd469741e63f328ef82adca7230307616e5c3b0", func := "adit/aditlaw10.CrawlRobots", spec := "crawlRobots", inPlace := ["internal/bytealg.IndexByte"], unfollowed := true, recurses := true, plainKeys := false, apart := false, narrowed := true }
def CrawlRobotsUptoSaid : Prop := crawlRobotsUptoRow.holds Tryz.pinned (OpenSpec.upto crawlRobotsSpec)

/-- 'aditlaw10.CrawlCrowds', WHERE WHAT IT READS IS OF BULK AT MOST 1048576: true; the input reads as it did. -/
def crawlCrowdsUptoRow : OpenClaim := { program := "ytcogbkkdccohfaagreat", sum := "4200c67257796196e5639a3f4dd469741e63f328ef82adca7230307616e5c3b0", func := "adit/aditlaw10.CrawlCrowds", spec := "crawlCrowds", inPlace := ["internal/bytealg.IndexByte"], unfollowed := true, recurses := true, plainKeys := false, apart := false, narrowed := true }
def CrawlCrowdsUptoSaid : Prop := crawlCrowdsUptoRow.holds Tryz.pinned (OpenSpec.upto crawlCrowdsSpec)

/-- 'aditlaw10.CrawlSound', WHERE WHAT IT READS IS OF BULK AT MOST 1048576: true; the input reads as it did. -/
def crawlSoundUptoRow : OpenClaim := { program := "ytcogbkkdccohfaagreat", sum := "4200c67257796196e5639a3f4dd469741e63f328ef82adca7230307616e5c3b0", func := "adit/aditlaw10.CrawlSound", spec := "crawlSound", inPlace := ["internal/bytealg.IndexByte"], unfollowed := true, recurses := true, plainKeys := false, apart := false, narrowed := true }
def CrawlSoundUptoSaid : Prop := crawlSoundUptoRow.holds Tryz.pinned (OpenSpec.upto crawlSoundSpec)

/-- 'aditlaw10.CrawlEnds', WHERE WHAT IT READS IS OF BULK AT MOST 1048576: true; the input reads as it did. -/
def crawlEndsUptoRow : OpenClaim := { program := "ytcogbkkdccohfaagreat", sum := "4200c67257796196e5639a3f4dd469741e63f328ef82adca7230307616e5c3b0", func := "adit/aditlaw10.CrawlEnds", spec := "crawlEnds", inPlace := ["internal/bytealg.IndexByte"], unfollowed := true, recurses := true, plainKeys := false, apart := false, narrowed := true }
def CrawlEndsUptoSaid : Prop := crawlEndsUptoRow.holds Tryz.pinned (OpenSpec.upto crawlEndsSpec)

end Rows
end Go.Proofs.YtcogbkkdccohfaaGreat
