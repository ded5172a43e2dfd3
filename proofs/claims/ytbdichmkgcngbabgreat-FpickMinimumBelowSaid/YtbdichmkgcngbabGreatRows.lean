/-
  No cell of these rows narrows 'for every input' (looked for: loops, veiled, ifaces, maps, wideKeys, modest, calm, conditions, laid).
  DERIVED. THE GIVEN ROWS OF THIS SEAT. 12 by the template 'for every input the law returns true; each argument reads behind the call as it read before'; 0 by the template 'total and deterministic' (their statements: YtbdichmkgcngbabGreatTotals.lean).
  GIVEN WITH THE SEED: the statements are not yours to turn. If you find one false, say at which input.
  Laid BY PROGRAM, IN A SANDBOX (cutbox-rows.mjs): the forced cells as the released guide's own fill.sh prints them over the translation 8ea0a30db882db9d… (all of the seat's roots in one cut). By AI agents, Wed Nov 11 2026. No macro, syntax, notation, axiom, sorry.
-/
import Derived.Test.YtbdichmkgcngbabGreatChecked
import GoSem.Claim
import GoSem.ClaimJoined
import GoSem.ClaimMapViews
import Derived.JoinedTies
import Derived.KernelRfl
namespace Go.Proofs.YtbdichmkgcngbabGreat
/- THE CELL 'sum', in the pinned program and in every row, IS THE sha256 OF THE DUMP (.gsa) THAT YtbdichmkgcngbabGreatProg.lean LOADS. Nothing in Lean hashes anything: it is a label: what it is worth is what the hold of that sum in a sandbox is worth. -/
noncomputable def Tryz.pinned : Pinned := { name := "ytbdichmkgcngbabgreat", sum := "8ea0a30db882db9d201085eba89263a884eb2188e51e47dc24eb5324294dd047", checked := Tryz.checked }
namespace Rows
def none {H : Type} : Left H := { results := [], args := [] }

/-- 'graticulelaw23.FpickLowestCurrent': WHATEVER THE INPUT: true; the input reads as it did. -/
def fpickLowestCurrentSpec : ChangeSpec := { name := "fpickLowestCurrent", fn := fun _ => fun
  | [d1, d2] => { results := [.lit (.bool true)], args := [d1, d2] }
  | _ => none }
def fpickLowestCurrentRow : OpenClaim := { program := "ytbdichmkgcngbabgreat", sum := "8ea0a30db882db9d201085eba89263a884eb2188e51e47dc24eb5324294dd047", func := "graticule/graticulelaw23.FpickLowestCurrent", spec := "fpickLowestCurrent", inPlace := ["internal/bytealg.abigen_runtime_cmpstring"], unfollowed := true, recurses := true, named := ["math/bits.divideError", "math/bits.overflowError"], apart := false }
def FpickLowestCurrentSaid : Prop := fpickLowestCurrentRow.holds Tryz.pinned (OpenSpec.ofChange fpickLowestCurrentSpec)

/-- ITS FALSE NEIGHBOUR: 'it returns false'. Refute it at one input. -/
def fpickLowestCurrentWrong : ChangeSpec := { name := "fpickLowestCurrent", fn := fun _ => fun
  | [d1, d2] => { results := [.lit (.bool false)], args := [d1, d2] }
  | _ => none }
def FpickLowestCurrentWrongFalsely : Prop := fpickLowestCurrentRow.holds Tryz.pinned (OpenSpec.ofChange fpickLowestCurrentWrong)

/-- 'graticulelaw23.FpickMostDeviant': WHATEVER THE INPUT: true; the input reads as it did. -/
def fpickMostDeviantSpec : ChangeSpec := { name := "fpickMostDeviant", fn := fun _ => fun
  | [d1, d2] => { results := [.lit (.bool true)], args := [d1, d2] }
  | _ => none }
def fpickMostDeviantRow : OpenClaim := { program := "ytbdichmkgcngbabgreat", sum := "8ea0a30db882db9d201085eba89263a884eb2188e51e47dc24eb5324294dd047", func := "graticule/graticulelaw23.FpickMostDeviant", spec := "fpickMostDeviant", inPlace := ["internal/bytealg.abigen_runtime_cmpstring"], unfollowed := true, recurses := true, named := ["math/bits.divideError", "math/bits.overflowError"], apart := false }
def FpickMostDeviantSaid : Prop := fpickMostDeviantRow.holds Tryz.pinned (OpenSpec.ofChange fpickMostDeviantSpec)

/-- ITS FALSE NEIGHBOUR: 'it returns false'. Refute it at one input. -/
def fpickMostDeviantWrong : ChangeSpec := { name := "fpickMostDeviant", fn := fun _ => fun
  | [d1, d2] => { results := [.lit (.bool false)], args := [d1, d2] }
  | _ => none }
def FpickMostDeviantWrongFalsely : Prop := fpickMostDeviantRow.holds Tryz.pinned (OpenSpec.ofChange fpickMostDeviantWrong)

/-- 'graticulelaw23.FpickAverageAbove': WHATEVER THE INPUT: true; the input reads as it did. -/
def fpickAverageAboveSpec : ChangeSpec := { name := "fpickAverageAbove", fn := fun _ => fun
  | [d1, d2] => { results := [.lit (.bool true)], args := [d1, d2] }
  | _ => none }
def fpickAverageAboveRow : OpenClaim := { program := "ytbdichmkgcngbabgreat", sum := "8ea0a30db882db9d201085eba89263a884eb2188e51e47dc24eb5324294dd047", func := "graticule/graticulelaw23.FpickAverageAbove", spec := "fpickAverageAbove", inPlace := ["internal/bytealg.abigen_runtime_cmpstring"], unfollowed := true, recurses := true, named := ["math/bits.divideError", "math/bits.overflowError"], apart := false }
def FpickAverageAboveSaid : Prop := fpickAverageAboveRow.holds Tryz.pinned (OpenSpec.ofChange fpickAverageAboveSpec)

/-- ITS FALSE NEIGHBOUR: 'it returns false'. Refute it at one input. -/
def fpickAverageAboveWrong : ChangeSpec := { name := "fpickAverageAbove", fn := fun _ => fun
  | [d1, d2] => { results := [.lit (.bool false)], args := [d1, d2] }
  | _ => none }
def FpickAverageAboveWrongFalsely : Prop := fpickAverageAboveRow.holds Tryz.pinned (OpenSpec.ofChange fpickAverageAboveWrong)

/-- 'graticulelaw23.FpickAverageBelow': WHATEVER THE INPUT: true; the input reads as it did. -/
def fpickAverageBelowSpec : ChangeSpec := { name := "fpickAverageBelow", fn := fun _ => fun
  | [d1, d2] => { results := [.lit (.bool true)], args := [d1, d2] }
  | _ => none }
def fpickAverageBelowRow : OpenClaim := { program := "ytbdichmkgcngbabgreat", sum := "8ea0a30db882db9d201085eba89263a884eb2188e51e47dc24eb5324294dd047", func := "graticule/graticulelaw23.FpickAverageBelow", spec := "fpickAverageBelow", inPlace := ["internal/bytealg.abigen_runtime_cmpstring"], unfollowed := true, recurses := true, named := ["math/bits.divideError", "math/bits.overflowError"], apart := false }
def FpickAverageBelowSaid : Prop := fpickAverageBelowRow.holds Tryz.pinned (OpenSpec.ofChange fpickAverageBelowSpec)

/-- ITS FALSE NEIGHBOUR: 'it returns false'. Refute it at one input. -/
def fpickAverageBelowWrong : ChangeSpec := { name := "fpickAverageBelow", fn := fun _ => fun
  | [d1, d2] => { results := [.lit (.bool false)], args := [d1, d2] }
  | _ => none }
def FpickAverageBelowWrongFalsely : Prop := fpickAverageBelowRow.holds Tryz.pinned (OpenSpec.ofChange fpickAverageBelowWrong)

/-- 'graticulelaw23.FpickCurrentAbove': WHATEVER THE INPUT: true; the input reads as it did. -/
def fpickCurrentAboveSpec : ChangeSpec := { name := "fpickCurrentAbove", fn := fun _ => fun
  | [d1, d2] => { results := [.lit (.bool true)], args := [d1, d2] }
  | _ => none }
def fpickCurrentAboveRow : OpenClaim := { program := "ytbdichmkgcngbabgreat", sum := "8ea0a30db882db9d201085eba89263a884eb2188e51e47dc24eb5324294dd047", func := "graticule/graticulelaw23.FpickCurrentAbove", spec := "fpickCurrentAbove", inPlace := ["internal/bytealg.abigen_runtime_cmpstring"], unfollowed := true, recurses := true, named := ["math/bits.divideError", "math/bits.overflowError"], apart := false }
def FpickCurrentAboveSaid : Prop := fpickCurrentAboveRow.holds Tryz.pinned (OpenSpec.ofChange fpickCurrentAboveSpec)

/-- ITS FALSE NEIGHBOUR: 'it returns false'. Refute it at one input. -/
def fpickCurrentAboveWrong : ChangeSpec := { name := "fpickCurrentAbove", fn := fun _ => fun
  | [d1, d2] => { results := [.lit (.bool false)], args := [d1, d2] }
  | _ => none }
def FpickCurrentAboveWrongFalsely : Prop := fpickCurrentAboveRow.holds Tryz.pinned (OpenSpec.ofChange fpickCurrentAboveWrong)

/-- 'graticulelaw23.FpickCurrentBelow': WHATEVER THE INPUT: true; the input reads as it did. -/
def fpickCurrentBelowSpec : ChangeSpec := { name := "fpickCurrentBelow", fn := fun _ => fun
  | [d1, d2] => { results := [.lit (.bool true)], args := [d1, d2] }
  | _ => none }
def fpickCurrentBelowRow : OpenClaim := { program := "ytbdichmkgcngbabgreat", sum := "8ea0a30db882db9d201085eba89263a884eb2188e51e47dc24eb5324294dd047", func := "graticule/graticulelaw23.FpickCurrentBelow", spec := "fpickCurrentBelow", inPlace := ["internal/bytealg.abigen_runtime_cmpstring"], unfollowed := true, recurses := true, named := ["math/bits.divideError", "math/bits.overflowError"], apart := false }
def FpickCurrentBelowSaid : Prop := fpickCurrentBelowRow.holds Tryz.pinned (OpenSpec.ofChange fpickCurrentBelowSpec)

/-- ITS FALSE NEIGHBOUR: 'it returns false'. Refute it at one input. -/
def fpickCurrentBelowWrong : ChangeSpec := { name := "fpickCurrentBelow", fn := fun _ => fun
  | [d1, d2] => { results := [.lit (.bool false)], args := [d1, d2] }
  | _ => none }
def FpickCurrentBelowWrongFalsely : Prop := fpickCurrentBelowRow.holds Tryz.pinned (OpenSpec.ofChange fpickCurrentBelowWrong)

/-- 'graticulelaw23.FpickMaximumAbove': WHATEVER THE INPUT: true; the input reads as it did. -/
def fpickMaximumAboveSpec : ChangeSpec := { name := "fpickMaximumAbove", fn := fun _ => fun
  | [d1, d2] => { results := [.lit (.bool true)], args := [d1, d2] }
  | _ => none }
def fpickMaximumAboveRow : OpenClaim := { program := "ytbdichmkgcngbabgreat", sum := "8ea0a30db882db9d201085eba89263a884eb2188e51e47dc24eb5324294dd047", func := "graticule/graticulelaw23.FpickMaximumAbove", spec := "fpickMaximumAbove", inPlace := ["internal/bytealg.abigen_runtime_cmpstring"], unfollowed := true, recurses := true, named := ["math/bits.divideError", "math/bits.overflowError"], apart := false }
def FpickMaximumAboveSaid : Prop := fpickMaximumAboveRow.holds Tryz.pinned (OpenSpec.ofChange fpickMaximumAboveSpec)

/-- ITS FALSE NEIGHBOUR: 'it returns false'. Refute it at one input. -/
def fpickMaximumAboveWrong : ChangeSpec := { name := "fpickMaximumAbove", fn := fun _ => fun
  | [d1, d2] => { results := [.lit (.bool false)], args := [d1, d2] }
  | _ => none }
def FpickMaximumAboveWrongFalsely : Prop := fpickMaximumAboveRow.holds Tryz.pinned (OpenSpec.ofChange fpickMaximumAboveWrong)

/-- 'graticulelaw23.FpickMaximumBelow': WHATEVER THE INPUT: true; the input reads as it did. -/
def fpickMaximumBelowSpec : ChangeSpec := { name := "fpickMaximumBelow", fn := fun _ => fun
  | [d1, d2] => { results := [.lit (.bool true)], args := [d1, d2] }
  | _ => none }
def fpickMaximumBelowRow : OpenClaim := { program := "ytbdichmkgcngbabgreat", sum := "8ea0a30db882db9d201085eba89263a884eb2188e51e47dc24eb5324294dd047", func := "graticule/graticulelaw23.FpickMaximumBelow", spec := "fpickMaximumBelow", inPlace := ["internal/bytealg.abigen_runtime_cmpstring"], unfollowed := true, recurses := true, named := ["math/bits.divideError", "math/bits.overflowError"], apart := false }
def FpickMaximumBelowSaid : Prop := fpickMaximumBelowRow.holds Tryz.pinned (OpenSpec.ofChange fpickMaximumBelowSpec)

/-- ITS FALSE NEIGHBOUR: 'it returns false'. Refute it at one input. -/
def fpickMaximumBelowWrong : ChangeSpec := { name := "fpickMaximumBelow", fn := fun _ => fun
  | [d1, d2] => { results := [.lit (.bool false)], args := [d1, d2] }
  | _ => none }
def FpickMaximumBelowWrongFalsely : Prop := fpickMaximumBelowRow.holds Tryz.pinned (OpenSpec.ofChange fpickMaximumBelowWrong)

/-- 'graticulelaw23.FpickMinimumAbove': WHATEVER THE INPUT: true; the input reads as it did. -/
def fpickMinimumAboveSpec : ChangeSpec := { name := "fpickMinimumAbove", fn := fun _ => fun
  | [d1, d2] => { results := [.lit (.bool true)], args := [d1, d2] }
  | _ => none }
def fpickMinimumAboveRow : OpenClaim := { program := "ytbdichmkgcngbabgreat", sum := "8ea0a30db882db9d201085eba89263a884eb2188e51e47dc24eb5324294dd047", func := "graticule/graticulelaw23.FpickMinimumAbove", spec := "fpickMinimumAbove", inPlace := ["internal/bytealg.abigen_runtime_cmpstring"], unfollowed := true, recurses := true, named := ["math/bits.divideError", "math/bits.overflowError"], apart := false }
def FpickMinimumAboveSaid : Prop := fpickMinimumAboveRow.holds Tryz.pinned (OpenSpec.ofChange fpickMinimumAboveSpec)

/-- ITS FALSE NEIGHBOUR: 'it returns false'. Refute it at one input. -/
def fpickMinimumAboveWrong : ChangeSpec := { name := "fpickMinimumAbove", fn := fun _ => fun
  | [d1, d2] => { results := [.lit (.bool false)], args := [d1, d2] }
  | _ => none }
def FpickMinimumAboveWrongFalsely : Prop := fpickMinimumAboveRow.holds Tryz.pinned (OpenSpec.ofChange fpickMinimumAboveWrong)

/-- 'graticulelaw23.FpickMinimumBelow': WHATEVER THE INPUT: true; the input reads as it did. -/
def fpickMinimumBelowSpec : ChangeSpec := { name := "fpickMinimumBelow", fn := fun _ => fun
  | [d1, d2] => { results := [.lit (.bool true)], args := [d1, d2] }
  | _ => none }
def fpickMinimumBelowRow : OpenClaim := { program := "ytbdichmkgcngbabgreat", sum := "8ea0a30db882db9d201085eba89263a884eb2188e51e47dc24eb5324294dd047", func := "graticule/graticulelaw23.FpickMinimumBelow", spec := "fpickMinimumBelow", inPlace := ["internal/bytealg.abigen_runtime_cmpstring"], unfollowed := true, recurses := true, named := ["math/bits.divideError", "math/bits.overflowError"], apart := false }
def FpickMinimumBelowSaid : Prop := fpickMinimumBelowRow.holds Tryz.pinned (OpenSpec.ofChange fpickMinimumBelowSpec)

/-- ITS FALSE NEIGHBOUR: 'it returns false'. Refute it at one input. -/
def fpickMinimumBelowWrong : ChangeSpec := { name := "fpickMinimumBelow", fn := fun _ => fun
  | [d1, d2] => { results := [.lit (.bool false)], args := [d1, d2] }
  | _ => none }
def FpickMinimumBelowWrongFalsely : Prop := fpickMinimumBelowRow.holds Tryz.pinned (OpenSpec.ofChange fpickMinimumBelowWrong)

/-- 'graticulelaw23.FpickGrep': WHATEVER THE INPUT: true; the input reads as it did. -/
def fpickGrepSpec : ChangeSpec := { name := "fpickGrep", fn := fun _ => fun
  | [d1, d2] => { results := [.lit (.bool true)], args := [d1, d2] }
  | _ => none }
def fpickGrepRow : OpenClaim := { program := "ytbdichmkgcngbabgreat", sum := "8ea0a30db882db9d201085eba89263a884eb2188e51e47dc24eb5324294dd047", func := "graticule/graticulelaw23.FpickGrep", spec := "fpickGrep", inPlace := ["internal/bytealg.abigen_runtime_cmpstring"], unfollowed := true, recurses := true, named := ["math/bits.divideError", "math/bits.overflowError"], apart := false }
def FpickGrepSaid : Prop := fpickGrepRow.holds Tryz.pinned (OpenSpec.ofChange fpickGrepSpec)

/-- ITS FALSE NEIGHBOUR: 'it returns false'. Refute it at one input. -/
def fpickGrepWrong : ChangeSpec := { name := "fpickGrep", fn := fun _ => fun
  | [d1, d2] => { results := [.lit (.bool false)], args := [d1, d2] }
  | _ => none }
def FpickGrepWrongFalsely : Prop := fpickGrepRow.holds Tryz.pinned (OpenSpec.ofChange fpickGrepWrong)

/-- 'graticulelaw23.FpickOthers': WHATEVER THE INPUT: true; the input reads as it did. -/
def fpickOthersSpec : ChangeSpec := { name := "fpickOthers", fn := fun _ => fun
  | [d1, d2, d3] => { results := [.lit (.bool true)], args := [d1, d2, d3] }
  | _ => none }
def fpickOthersRow : OpenClaim := { program := "ytbdichmkgcngbabgreat", sum := "8ea0a30db882db9d201085eba89263a884eb2188e51e47dc24eb5324294dd047", func := "graticule/graticulelaw23.FpickOthers", spec := "fpickOthers", inPlace := ["internal/bytealg.abigen_runtime_cmpstring"], unfollowed := true, recurses := true, named := ["math/bits.divideError", "math/bits.overflowError"], apart := false }
def FpickOthersSaid : Prop := fpickOthersRow.holds Tryz.pinned (OpenSpec.ofChange fpickOthersSpec)

/-- ITS FALSE NEIGHBOUR: 'it returns false'. Refute it at one input. -/
def fpickOthersWrong : ChangeSpec := { name := "fpickOthers", fn := fun _ => fun
  | [d1, d2, d3] => { results := [.lit (.bool false)], args := [d1, d2, d3] }
  | _ => none }
def FpickOthersWrongFalsely : Prop := fpickOthersRow.holds Tryz.pinned (OpenSpec.ofChange fpickOthersWrong)

/- THE SECOND FORM. 'bulk': how many values and letters a reading holds, each counted each time it is reached (what is shared counts as often as it is met; a slice's spare places count too). A statement '..UptoSaid' is the law's where the arguments, and the package variables that the reading takes, are together of bulk at most 1048576: NARROWER than '..Said'. Prove '..Said' where nothing that the law and all that it calls make is longer than what came in: it says more and counts as full. Else prove '..UptoSaid'. A law counts once. -/
mutual
def uptoBulk {H : Type} : DataW H → Nat
  | .lit (.string bytes) => bytes.length + 1
  | .lit _ => 1
  | .nil => 1
  | .ptr d => uptoBulk d + 1
  | .slice elems spare => uptoBulkAll elems + uptoBulkAll spare + 1
  | .agg parts => uptoBulkAll parts + 1
  | .iface _ d => uptoBulk d + 1
  | .map entries => uptoBulkEntries entries + 1
  | .held _ => 1
def uptoBulkAll {H : Type} : List (DataW H) → Nat
  | [] => 0
  | d :: r => uptoBulk d + uptoBulkAll r
def uptoBulkEntries {H : Type} : List (Lit × DataW H) → Nat
  | [] => 0
  | x :: r => uptoBulkEntry x + uptoBulkEntries r
def uptoBulkEntry {H : Type} : Lit × DataW H → Nat
  | (.string bytes, d) => bytes.length + uptoBulk d + 1
  | (_, d) => uptoBulk d + 1
 end
def uptoSmall : (H : Type) → List (DataW H) → Bool := fun _ ds => decide (uptoBulkAll ds ≤ 1048576)
def OpenSpec.upto (s : _root_.Go.ChangeSpec) : _root_.Go.OpenSpec := { _root_.Go.OpenSpec.ofChange s with cond := some uptoSmall }

/-- 'graticulelaw23.FpickLowestCurrent', WHERE WHAT IT READS IS OF BULK AT MOST 1048576: true; the input reads as it did. -/
def fpickLowestCurrentUptoRow : OpenClaim := { program := "ytbdichmkgcngbabgreat", sum := "8ea0a30db882db9d201085eba89263a884eb2188e51e47dc24eb5324294dd047", func := "graticule/graticulelaw23.FpickLowestCurrent", spec := "fpickLowestCurrent", inPlace := ["internal/bytealg.abigen_runtime_cmpstring"], unfollowed := true, recurses := true, named := ["math/bits.divideError", "math/bits.overflowError"], apart := false, narrowed := true }
def FpickLowestCurrentUptoSaid : Prop := fpickLowestCurrentUptoRow.holds Tryz.pinned (OpenSpec.upto fpickLowestCurrentSpec)

/-- 'graticulelaw23.FpickMostDeviant', WHERE WHAT IT READS IS OF BULK AT MOST 1048576: true; the input reads as it did. -/
def fpickMostDeviantUptoRow : OpenClaim := { program := "ytbdichmkgcngbabgreat", sum := "8ea0a30db882db9d201085eba89263a884eb2188e51e47dc24eb5324294dd047", func := "graticule/graticulelaw23.FpickMostDeviant", spec := "fpickMostDeviant", inPlace := ["internal/bytealg.abigen_runtime_cmpstring"], unfollowed := true, recurses := true, named := ["math/bits.divideError", "math/bits.overflowError"], apart := false, narrowed := true }
def FpickMostDeviantUptoSaid : Prop := fpickMostDeviantUptoRow.holds Tryz.pinned (OpenSpec.upto fpickMostDeviantSpec)

/-- 'graticulelaw23.FpickAverageAbove', WHERE WHAT IT READS IS OF BULK AT MOST 1048576: true; the input reads as it did. -/
def fpickAverageAboveUptoRow : OpenClaim := { program := "ytbdichmkgcngbabgreat", sum := "8ea0a30db882db9d201085eba89263a884eb2188e51e47dc24eb5324294dd047", func := "graticule/graticulelaw23.FpickAverageAbove", spec := "fpickAverageAbove", inPlace := ["internal/bytealg.abigen_runtime_cmpstring"], unfollowed := true, recurses := true, named := ["math/bits.divideError", "math/bits.overflowError"], apart := false, narrowed := true }
def FpickAverageAboveUptoSaid : Prop := fpickAverageAboveUptoRow.holds Tryz.pinned (OpenSpec.upto fpickAverageAboveSpec)

/-- 'graticulelaw23.FpickAverageBelow', WHERE WHAT IT READS IS OF BULK AT MOST 1048576: true; the input reads as it did. -/
def fpickAverageBelowUptoRow : OpenClaim := { program := "ytbdichmkgcngbabgreat", sum := "8ea0a30db882db9d201085eba89263a884eb2188e51e47dc24eb5324294dd047", func := "graticule/graticulelaw23.FpickAverageBelow", spec := "fpickAverageBelow", inPlace := ["internal/bytealg.abigen_runtime_cmpstring"], unfollowed := true, recurses := true, named := ["math/bits.divideError", "math/bits.overflowError"], apart := false, narrowed := true }
def FpickAverageBelowUptoSaid : Prop := fpickAverageBelowUptoRow.holds Tryz.pinned (OpenSpec.upto fpickAverageBelowSpec)

/-- 'graticulelaw23.FpickCurrentAbove', WHERE WHAT IT READS IS OF BULK AT MOST 1048576: true; the input reads as it did. -/
def fpickCurrentAboveUptoRow : OpenClaim := { program := "ytbdichmkgcngbabgreat", sum := "8ea0a30db882db9d201085eba89263a884eb2188e51e47dc24eb5324294dd047", func := "graticule/graticulelaw23.FpickCurrentAbove", spec := "fpickCurrentAbove", inPlace := ["internal/bytealg.abigen_runtime_cmpstring"], unfollowed := true, recurses := true, named := ["math/bits.divideError", "math/bits.overflowError"], apart := false, narrowed := true }
def FpickCurrentAboveUptoSaid : Prop := fpickCurrentAboveUptoRow.holds Tryz.pinned (OpenSpec.upto fpickCurrentAboveSpec)

/-- 'graticulelaw23.FpickCurrentBelow', WHERE WHAT IT READS IS OF BULK AT MOST 1048576: true; the input reads as it did. -/
def fpickCurrentBelowUptoRow : OpenClaim := { program := "ytbdichmkgcngbabgreat", sum := "8ea0a30db882db9d201085eba89263a884eb2188e51e47dc24eb5324294dd047", func := "graticule/graticulelaw23.FpickCurrentBelow", spec := "fpickCurrentBelow", inPlace := ["internal/bytealg.abigen_runtime_cmpstring"], unfollowed := true, recurses := true, named := ["math/bits.divideError", "math/bits.overflowError"], apart := false, narrowed := true }
def FpickCurrentBelowUptoSaid : Prop := fpickCurrentBelowUptoRow.holds Tryz.pinned (OpenSpec.upto fpickCurrentBelowSpec)

/-- 'graticulelaw23.FpickMaximumAbove', WHERE WHAT IT READS IS OF BULK AT MOST 1048576: true; the input reads as it did. -/
def fpickMaximumAboveUptoRow : OpenClaim := { program := "ytbdichmkgcngbabgreat", sum := "8ea0a30db882db9d201085eba89263a884eb2188e51e47dc24eb5324294dd047", func := "graticule/graticulelaw23.FpickMaximumAbove", spec := "fpickMaximumAbove", inPlace := ["internal/bytealg.abigen_runtime_cmpstring"], unfollowed := true, recurses := true, named := ["math/bits.divideError", "math/bits.overflowError"], apart := false, narrowed := true }
def FpickMaximumAboveUptoSaid : Prop := fpickMaximumAboveUptoRow.holds Tryz.pinned (OpenSpec.upto fpickMaximumAboveSpec)

/-- 'graticulelaw23.FpickMaximumBelow', WHERE WHAT IT READS IS OF BULK AT MOST 1048576: true; the input reads as it did. -/
def fpickMaximumBelowUptoRow : OpenClaim := { program := "ytbdichmkgcngbabgreat", sum := "8ea0a30db882db9d201085eba89263a884eb2188e51e47dc24eb5324294dd047", func := "graticule/graticulelaw23.FpickMaximumBelow", spec := "fpickMaximumBelow", inPlace := ["internal/bytealg.abigen_runtime_cmpstring"], unfollowed := true, recurses := true, named := ["math/bits.divideError", "math/bits.overflowError"], apart := false, narrowed := true }
def FpickMaximumBelowUptoSaid : Prop := fpickMaximumBelowUptoRow.holds Tryz.pinned (OpenSpec.upto fpickMaximumBelowSpec)

/-- 'graticulelaw23.FpickMinimumAbove', WHERE WHAT IT READS IS OF BULK AT MOST 1048576: true; the input reads as it did. -/
def fpickMinimumAboveUptoRow : OpenClaim := { program := "ytbdichmkgcngbabgreat", sum := "8ea0a30db882db9d201085eba89263a884eb2188e51e47dc24eb5324294dd047", func := "graticule/graticulelaw23.FpickMinimumAbove", spec := "fpickMinimumAbove", inPlace := ["internal/bytealg.abigen_runtime_cmpstring"], unfollowed := true, recurses := true, named := ["math/bits.divideError", "math/bits.overflowError"], apart := false, narrowed := true }
def FpickMinimumAboveUptoSaid : Prop := fpickMinimumAboveUptoRow.holds Tryz.pinned (OpenSpec.upto fpickMinimumAboveSpec)

/-- 'graticulelaw23.FpickMinimumBelow', WHERE WHAT IT READS IS OF BULK AT MOST 1048576: true; the input reads as it did. -/
def fpickMinimumBelowUptoRow : OpenClaim := { program := "ytbdichmkgcngbabgreat", sum := "8ea0a30db882db9d201085eba89263a884eb2188e51e47dc24eb5324294dd047", func := "graticule/graticulelaw23.FpickMinimumBelow", spec := "fpickMinimumBelow", inPlace := ["internal/bytealg.abigen_runtime_cmpstring"], unfollowed := true, recurses := true, named := ["math/bits.divideError", "math/bits.overflowError"], apart := false, narrowed := true }
def FpickMinimumBelowUptoSaid : Prop := fpickMinimumBelowUptoRow.holds Tryz.pinned (OpenSpec.upto fpickMinimumBelowSpec)

/-- 'graticulelaw23.FpickGrep', WHERE WHAT IT READS IS OF BULK AT MOST 1048576: true; the input reads as it did. -/
def fpickGrepUptoRow : OpenClaim := { program := "ytbdichmkgcngbabgreat", sum := "8ea0a30db882db9d201085eba89263a884eb2188e51e47dc24eb5324294dd047", func := "graticule/graticulelaw23.FpickGrep", spec := "fpickGrep", inPlace := ["internal/bytealg.abigen_runtime_cmpstring"], unfollowed := true, recurses := true, named := ["math/bits.divideError", "math/bits.overflowError"], apart := false, narrowed := true }
def FpickGrepUptoSaid : Prop := fpickGrepUptoRow.holds Tryz.pinned (OpenSpec.upto fpickGrepSpec)

/-- 'graticulelaw23.FpickOthers', WHERE WHAT IT READS IS OF BULK AT MOST 1048576: true; the input reads as it did. -/
def fpickOthersUptoRow : OpenClaim := { program := "ytbdichmkgcngbabgreat", sum := "8ea0a30db882db9d201085eba89263a884eb2188e51e47dc24eb5324294dd047", func := "graticule/graticulelaw23.FpickOthers", spec := "fpickOthers", inPlace := ["internal/bytealg.abigen_runtime_cmpstring"], unfollowed := true, recurses := true, named := ["math/bits.divideError", "math/bits.overflowError"], apart := false, narrowed := true }
def FpickOthersUptoSaid : Prop := fpickOthersUptoRow.holds Tryz.pinned (OpenSpec.upto fpickOthersSpec)

end Rows
end Go.Proofs.YtbdichmkgcngbabGreat
