/-
  No cell of these rows narrows 'for every input' (looked for: loops, veiled, ifaces, maps, wideKeys, modest, calm, conditions, laid).
  DERIVED. THE GIVEN ROWS OF THIS SEAT. 12 by the template 'for every input the law returns true; each argument reads behind the call as it read before'; 0 by the template 'total and deterministic' (their statements: YtbdichmkgcngbaaGreatTotals.lean).
  GIVEN WITH THE SEED: the statements are not yours to turn. If you find one false, say at which input.
  Laid BY PROGRAM, IN A SANDBOX (cutbox-rows.mjs): the forced cells as the released guide's own fill.sh prints them over the translation f5bc6921ba87bba8… (all of the seat's roots in one cut). By AI agents, Wed Nov 11 2026. No macro, syntax, notation, axiom, sorry.
-/
import Derived.Test.YtbdichmkgcngbaaGreatChecked
import GoSem.Claim
import GoSem.ClaimJoined
import GoSem.ClaimMapViews
import Derived.JoinedTies
import Derived.KernelRfl
namespace Go.Proofs.YtbdichmkgcngbaaGreat
/- THE CELL 'sum', in the pinned program and in every row, IS THE sha256 OF THE DUMP (.gsa) THAT YtbdichmkgcngbaaGreatProg.lean LOADS. Nothing in Lean hashes anything: it is a label: what it is worth is what the hold of that sum in a sandbox is worth. -/
noncomputable def Tryz.pinned : Pinned := { name := "ytbdichmkgcngbaagreat", sum := "f5bc6921ba87bba80f26110cd9c4f7998f966afbc2527b47dd7f4bdd1072adf5", checked := Tryz.checked }
namespace Rows
def none {H : Type} : Left H := { results := [], args := [] }

/-- 'graticulelaw23.FpickParts': WHATEVER THE INPUT: true; the input reads as it did. -/
def fpickPartsSpec : ChangeSpec := { name := "fpickParts", fn := fun _ => fun
  | [d1, d2, d3] => { results := [.lit (.bool true)], args := [d1, d2, d3] }
  | _ => none }
def fpickPartsRow : OpenClaim := { program := "ytbdichmkgcngbaagreat", sum := "f5bc6921ba87bba80f26110cd9c4f7998f966afbc2527b47dd7f4bdd1072adf5", func := "graticule/graticulelaw23.FpickParts", spec := "fpickParts", inPlace := ["internal/bytealg.abigen_runtime_cmpstring"], unfollowed := true, recurses := true, named := ["math/bits.divideError", "math/bits.overflowError"], apart := false }
def FpickPartsSaid : Prop := fpickPartsRow.holds Tryz.pinned (OpenSpec.ofChange fpickPartsSpec)

/-- ITS FALSE NEIGHBOUR: 'it returns false'. Refute it at one input. -/
def fpickPartsWrong : ChangeSpec := { name := "fpickParts", fn := fun _ => fun
  | [d1, d2, d3] => { results := [.lit (.bool false)], args := [d1, d2, d3] }
  | _ => none }
def FpickPartsWrongFalsely : Prop := fpickPartsRow.holds Tryz.pinned (OpenSpec.ofChange fpickPartsWrong)

/-- 'graticulelaw23.FpickSorts': WHATEVER THE INPUT: true; the input reads as it did. -/
def fpickSortsSpec : ChangeSpec := { name := "fpickSorts", fn := fun _ => fun
  | [d1, d2] => { results := [.lit (.bool true)], args := [d1, d2] }
  | _ => none }
def fpickSortsRow : OpenClaim := { program := "ytbdichmkgcngbaagreat", sum := "f5bc6921ba87bba80f26110cd9c4f7998f966afbc2527b47dd7f4bdd1072adf5", func := "graticule/graticulelaw23.FpickSorts", spec := "fpickSorts", inPlace := ["internal/bytealg.abigen_runtime_cmpstring"], unfollowed := true, recurses := true, named := ["math/bits.divideError", "math/bits.overflowError"], apart := false }
def FpickSortsSaid : Prop := fpickSortsRow.holds Tryz.pinned (OpenSpec.ofChange fpickSortsSpec)

/-- ITS FALSE NEIGHBOUR: 'it returns false'. Refute it at one input. -/
def fpickSortsWrong : ChangeSpec := { name := "fpickSorts", fn := fun _ => fun
  | [d1, d2] => { results := [.lit (.bool false)], args := [d1, d2] }
  | _ => none }
def FpickSortsWrongFalsely : Prop := fpickSortsRow.holds Tryz.pinned (OpenSpec.ofChange fpickSortsWrong)

/-- 'graticulelaw23.FpickSortByName': WHATEVER THE INPUT: true; the input reads as it did. -/
def fpickSortByNameSpec : ChangeSpec := { name := "fpickSortByName", fn := fun _ => fun
  | [d] => { results := [.lit (.bool true)], args := [d] }
  | _ => none }
def fpickSortByNameRow : OpenClaim := { program := "ytbdichmkgcngbaagreat", sum := "f5bc6921ba87bba80f26110cd9c4f7998f966afbc2527b47dd7f4bdd1072adf5", func := "graticule/graticulelaw23.FpickSortByName", spec := "fpickSortByName", inPlace := ["internal/bytealg.abigen_runtime_cmpstring"], unfollowed := true, recurses := true, named := ["math/bits.divideError", "math/bits.overflowError"], apart := false }
def FpickSortByNameSaid : Prop := fpickSortByNameRow.holds Tryz.pinned (OpenSpec.ofChange fpickSortByNameSpec)

/-- ITS FALSE NEIGHBOUR: 'it returns false'. Refute it at one input. -/
def fpickSortByNameWrong : ChangeSpec := { name := "fpickSortByName", fn := fun _ => fun
  | [d] => { results := [.lit (.bool false)], args := [d] }
  | _ => none }
def FpickSortByNameWrongFalsely : Prop := fpickSortByNameRow.holds Tryz.pinned (OpenSpec.ofChange fpickSortByNameWrong)

/-- 'graticulelaw23.FpickSortByMaxima': WHATEVER THE INPUT: true; the input reads as it did. -/
def fpickSortByMaximaSpec : ChangeSpec := { name := "fpickSortByMaxima", fn := fun _ => fun
  | [d] => { results := [.lit (.bool true)], args := [d] }
  | _ => none }
def fpickSortByMaximaRow : OpenClaim := { program := "ytbdichmkgcngbaagreat", sum := "f5bc6921ba87bba80f26110cd9c4f7998f966afbc2527b47dd7f4bdd1072adf5", func := "graticule/graticulelaw23.FpickSortByMaxima", spec := "fpickSortByMaxima", inPlace := ["internal/bytealg.abigen_runtime_cmpstring"], unfollowed := true, recurses := true, named := ["math/bits.divideError", "math/bits.overflowError"], apart := false }
def FpickSortByMaximaSaid : Prop := fpickSortByMaximaRow.holds Tryz.pinned (OpenSpec.ofChange fpickSortByMaximaSpec)

/-- ITS FALSE NEIGHBOUR: 'it returns false'. Refute it at one input. -/
def fpickSortByMaximaWrong : ChangeSpec := { name := "fpickSortByMaxima", fn := fun _ => fun
  | [d] => { results := [.lit (.bool false)], args := [d] }
  | _ => none }
def FpickSortByMaximaWrongFalsely : Prop := fpickSortByMaximaRow.holds Tryz.pinned (OpenSpec.ofChange fpickSortByMaximaWrong)

/-- 'graticulelaw23.FpickSortByMinima': WHATEVER THE INPUT: true; the input reads as it did. -/
def fpickSortByMinimaSpec : ChangeSpec := { name := "fpickSortByMinima", fn := fun _ => fun
  | [d] => { results := [.lit (.bool true)], args := [d] }
  | _ => none }
def fpickSortByMinimaRow : OpenClaim := { program := "ytbdichmkgcngbaagreat", sum := "f5bc6921ba87bba80f26110cd9c4f7998f966afbc2527b47dd7f4bdd1072adf5", func := "graticule/graticulelaw23.FpickSortByMinima", spec := "fpickSortByMinima", inPlace := ["internal/bytealg.abigen_runtime_cmpstring"], unfollowed := true, recurses := true, named := ["math/bits.divideError", "math/bits.overflowError"], apart := false }
def FpickSortByMinimaSaid : Prop := fpickSortByMinimaRow.holds Tryz.pinned (OpenSpec.ofChange fpickSortByMinimaSpec)

/-- ITS FALSE NEIGHBOUR: 'it returns false'. Refute it at one input. -/
def fpickSortByMinimaWrong : ChangeSpec := { name := "fpickSortByMinima", fn := fun _ => fun
  | [d] => { results := [.lit (.bool false)], args := [d] }
  | _ => none }
def FpickSortByMinimaWrongFalsely : Prop := fpickSortByMinimaRow.holds Tryz.pinned (OpenSpec.ofChange fpickSortByMinimaWrong)

/-- 'graticulelaw23.FpickSortByTotal': WHATEVER THE INPUT: true; the input reads as it did. -/
def fpickSortByTotalSpec : ChangeSpec := { name := "fpickSortByTotal", fn := fun _ => fun
  | [d] => { results := [.lit (.bool true)], args := [d] }
  | _ => none }
def fpickSortByTotalRow : OpenClaim := { program := "ytbdichmkgcngbaagreat", sum := "f5bc6921ba87bba80f26110cd9c4f7998f966afbc2527b47dd7f4bdd1072adf5", func := "graticule/graticulelaw23.FpickSortByTotal", spec := "fpickSortByTotal", inPlace := ["internal/bytealg.abigen_runtime_cmpstring"], unfollowed := true, recurses := true, named := ["math/bits.divideError", "math/bits.overflowError"], apart := false }
def FpickSortByTotalSaid : Prop := fpickSortByTotalRow.holds Tryz.pinned (OpenSpec.ofChange fpickSortByTotalSpec)

/-- ITS FALSE NEIGHBOUR: 'it returns false'. Refute it at one input. -/
def fpickSortByTotalWrong : ChangeSpec := { name := "fpickSortByTotal", fn := fun _ => fun
  | [d] => { results := [.lit (.bool false)], args := [d] }
  | _ => none }
def FpickSortByTotalWrongFalsely : Prop := fpickSortByTotalRow.holds Tryz.pinned (OpenSpec.ofChange fpickSortByTotalWrong)

/-- 'graticulelaw23.FpickRemoveEmptySeries': WHATEVER THE INPUT: true; the input reads as it did. -/
def fpickRemoveEmptySeriesSpec : ChangeSpec := { name := "fpickRemoveEmptySeries", fn := fun _ => fun
  | [d] => { results := [.lit (.bool true)], args := [d] }
  | _ => none }
def fpickRemoveEmptySeriesRow : OpenClaim := { program := "ytbdichmkgcngbaagreat", sum := "f5bc6921ba87bba80f26110cd9c4f7998f966afbc2527b47dd7f4bdd1072adf5", func := "graticule/graticulelaw23.FpickRemoveEmptySeries", spec := "fpickRemoveEmptySeries", inPlace := ["internal/bytealg.abigen_runtime_cmpstring"], unfollowed := true, recurses := true, named := ["math/bits.divideError", "math/bits.overflowError"], apart := false }
def FpickRemoveEmptySeriesSaid : Prop := fpickRemoveEmptySeriesRow.holds Tryz.pinned (OpenSpec.ofChange fpickRemoveEmptySeriesSpec)

/-- ITS FALSE NEIGHBOUR: 'it returns false'. Refute it at one input. -/
def fpickRemoveEmptySeriesWrong : ChangeSpec := { name := "fpickRemoveEmptySeries", fn := fun _ => fun
  | [d] => { results := [.lit (.bool false)], args := [d] }
  | _ => none }
def FpickRemoveEmptySeriesWrongFalsely : Prop := fpickRemoveEmptySeriesRow.holds Tryz.pinned (OpenSpec.ofChange fpickRemoveEmptySeriesWrong)

/-- 'graticulelaw23.FpickLimit': WHATEVER THE INPUT: true; the input reads as it did. -/
def fpickLimitSpec : ChangeSpec := { name := "fpickLimit", fn := fun _ => fun
  | [d1, d2] => { results := [.lit (.bool true)], args := [d1, d2] }
  | _ => none }
def fpickLimitRow : OpenClaim := { program := "ytbdichmkgcngbaagreat", sum := "f5bc6921ba87bba80f26110cd9c4f7998f966afbc2527b47dd7f4bdd1072adf5", func := "graticule/graticulelaw23.FpickLimit", spec := "fpickLimit", inPlace := ["internal/bytealg.abigen_runtime_cmpstring"], unfollowed := true, recurses := true, named := ["math/bits.divideError", "math/bits.overflowError"], apart := false }
def FpickLimitSaid : Prop := fpickLimitRow.holds Tryz.pinned (OpenSpec.ofChange fpickLimitSpec)

/-- ITS FALSE NEIGHBOUR: 'it returns false'. Refute it at one input. -/
def fpickLimitWrong : ChangeSpec := { name := "fpickLimit", fn := fun _ => fun
  | [d1, d2] => { results := [.lit (.bool false)], args := [d1, d2] }
  | _ => none }
def FpickLimitWrongFalsely : Prop := fpickLimitRow.holds Tryz.pinned (OpenSpec.ofChange fpickLimitWrong)

/-- 'graticulelaw23.FpickHighestMax': WHATEVER THE INPUT: true; the input reads as it did. -/
def fpickHighestMaxSpec : ChangeSpec := { name := "fpickHighestMax", fn := fun _ => fun
  | [d1, d2] => { results := [.lit (.bool true)], args := [d1, d2] }
  | _ => none }
def fpickHighestMaxRow : OpenClaim := { program := "ytbdichmkgcngbaagreat", sum := "f5bc6921ba87bba80f26110cd9c4f7998f966afbc2527b47dd7f4bdd1072adf5", func := "graticule/graticulelaw23.FpickHighestMax", spec := "fpickHighestMax", inPlace := ["internal/bytealg.abigen_runtime_cmpstring"], unfollowed := true, recurses := true, named := ["math/bits.divideError", "math/bits.overflowError"], apart := false }
def FpickHighestMaxSaid : Prop := fpickHighestMaxRow.holds Tryz.pinned (OpenSpec.ofChange fpickHighestMaxSpec)

/-- ITS FALSE NEIGHBOUR: 'it returns false'. Refute it at one input. -/
def fpickHighestMaxWrong : ChangeSpec := { name := "fpickHighestMax", fn := fun _ => fun
  | [d1, d2] => { results := [.lit (.bool false)], args := [d1, d2] }
  | _ => none }
def FpickHighestMaxWrongFalsely : Prop := fpickHighestMaxRow.holds Tryz.pinned (OpenSpec.ofChange fpickHighestMaxWrong)

/-- 'graticulelaw23.FpickHighestAverage': WHATEVER THE INPUT: true; the input reads as it did. -/
def fpickHighestAverageSpec : ChangeSpec := { name := "fpickHighestAverage", fn := fun _ => fun
  | [d1, d2] => { results := [.lit (.bool true)], args := [d1, d2] }
  | _ => none }
def fpickHighestAverageRow : OpenClaim := { program := "ytbdichmkgcngbaagreat", sum := "f5bc6921ba87bba80f26110cd9c4f7998f966afbc2527b47dd7f4bdd1072adf5", func := "graticule/graticulelaw23.FpickHighestAverage", spec := "fpickHighestAverage", inPlace := ["internal/bytealg.abigen_runtime_cmpstring"], unfollowed := true, recurses := true, named := ["math/bits.divideError", "math/bits.overflowError"], apart := false }
def FpickHighestAverageSaid : Prop := fpickHighestAverageRow.holds Tryz.pinned (OpenSpec.ofChange fpickHighestAverageSpec)

/-- ITS FALSE NEIGHBOUR: 'it returns false'. Refute it at one input. -/
def fpickHighestAverageWrong : ChangeSpec := { name := "fpickHighestAverage", fn := fun _ => fun
  | [d1, d2] => { results := [.lit (.bool false)], args := [d1, d2] }
  | _ => none }
def FpickHighestAverageWrongFalsely : Prop := fpickHighestAverageRow.holds Tryz.pinned (OpenSpec.ofChange fpickHighestAverageWrong)

/-- 'graticulelaw23.FpickHighestCurrent': WHATEVER THE INPUT: true; the input reads as it did. -/
def fpickHighestCurrentSpec : ChangeSpec := { name := "fpickHighestCurrent", fn := fun _ => fun
  | [d1, d2] => { results := [.lit (.bool true)], args := [d1, d2] }
  | _ => none }
def fpickHighestCurrentRow : OpenClaim := { program := "ytbdichmkgcngbaagreat", sum := "f5bc6921ba87bba80f26110cd9c4f7998f966afbc2527b47dd7f4bdd1072adf5", func := "graticule/graticulelaw23.FpickHighestCurrent", spec := "fpickHighestCurrent", inPlace := ["internal/bytealg.abigen_runtime_cmpstring"], unfollowed := true, recurses := true, named := ["math/bits.divideError", "math/bits.overflowError"], apart := false }
def FpickHighestCurrentSaid : Prop := fpickHighestCurrentRow.holds Tryz.pinned (OpenSpec.ofChange fpickHighestCurrentSpec)

/-- ITS FALSE NEIGHBOUR: 'it returns false'. Refute it at one input. -/
def fpickHighestCurrentWrong : ChangeSpec := { name := "fpickHighestCurrent", fn := fun _ => fun
  | [d1, d2] => { results := [.lit (.bool false)], args := [d1, d2] }
  | _ => none }
def FpickHighestCurrentWrongFalsely : Prop := fpickHighestCurrentRow.holds Tryz.pinned (OpenSpec.ofChange fpickHighestCurrentWrong)

/-- 'graticulelaw23.FpickLowestAverage': WHATEVER THE INPUT: true; the input reads as it did. -/
def fpickLowestAverageSpec : ChangeSpec := { name := "fpickLowestAverage", fn := fun _ => fun
  | [d1, d2] => { results := [.lit (.bool true)], args := [d1, d2] }
  | _ => none }
def fpickLowestAverageRow : OpenClaim := { program := "ytbdichmkgcngbaagreat", sum := "f5bc6921ba87bba80f26110cd9c4f7998f966afbc2527b47dd7f4bdd1072adf5", func := "graticule/graticulelaw23.FpickLowestAverage", spec := "fpickLowestAverage", inPlace := ["internal/bytealg.abigen_runtime_cmpstring"], unfollowed := true, recurses := true, named := ["math/bits.divideError", "math/bits.overflowError"], apart := false }
def FpickLowestAverageSaid : Prop := fpickLowestAverageRow.holds Tryz.pinned (OpenSpec.ofChange fpickLowestAverageSpec)

/-- ITS FALSE NEIGHBOUR: 'it returns false'. Refute it at one input. -/
def fpickLowestAverageWrong : ChangeSpec := { name := "fpickLowestAverage", fn := fun _ => fun
  | [d1, d2] => { results := [.lit (.bool false)], args := [d1, d2] }
  | _ => none }
def FpickLowestAverageWrongFalsely : Prop := fpickLowestAverageRow.holds Tryz.pinned (OpenSpec.ofChange fpickLowestAverageWrong)

/- THE SECOND FORM. 'bulk': how many values and letters a reading holds, each counted each time it is reached (what is shared counts as often as it is met; a slice's spare places count too). A statement '..UptoSaid' is the law's where the arguments, and the package variables that the reading takes, are together of bulk at most 1048576: NARROWER than '..Said'. Prove '..Said' where nothing that the law and all that it calls make is longer than what came in: it says more and counts as full. Else prove '..UptoSaid'. A law counts once. -/
mutual
def uptoBulk {H : Type} : DataW H → Nat
  | .lit (.string bytes) => bytes.length + 1
  | .lit _ => 1
  | .nil => 1
  | .ptr d => uptoBulk d + 1
  | .slice elems spare => uptoBulkAll elems + uptoBulkAll spare + 1
  | .agg parts => uptoBulkAll parts + 1
  | .iface _ d => uptoBulk d + 1
  | .map entries => uptoBulkEntries entries + 1
  | .held _ => 1
def uptoBulkAll {H : Type} : List (DataW H) → Nat
  | [] => 0
  | d :: r => uptoBulk d + uptoBulkAll r
def uptoBulkEntries {H : Type} : List (Lit × DataW H) → Nat
  | [] => 0
  | x :: r => uptoBulkEntry x + uptoBulkEntries r
def uptoBulkEntry {H : Type} : Lit × DataW H → Nat
  | (.string bytes, d) => bytes.length + uptoBulk d + 1
  | (_, d) => uptoBulk d + 1
 end
def uptoSmall : (H : Type) → List (DataW H) → Bool := fun _ ds => decide (uptoBulkAll ds ≤ 1048576)
def OpenSpec.upto (s : _root_.Go.ChangeSpec) : _root_.Go.OpenSpec := { _root_.Go.OpenSpec.ofChange s with cond := some uptoSmall }

/-- 'graticulelaw23.FpickParts', WHERE WHAT IT READS IS OF BULK AT MOST 1048576: true; the input reads as it did. -/
def fpickPartsUptoRow : OpenClaim := { program := "ytbdichmkgcngbaagreat", sum := "f5bc6921ba87bba80f26110cd9c4f7998f966afbc2527b47dd7f4bdd1072adf5", func := "graticule/graticulelaw23.FpickParts", spec := "fpickParts", inPlace := ["internal/bytealg.abigen_runtime_cmpstring"], unfollowed := true, recurses := true, named := ["math/bits.divideError", "math/bits.overflowError"], apart := false, narrowed := true }
def FpickPartsUptoSaid : Prop := fpickPartsUptoRow.holds Tryz.pinned (OpenSpec.upto fpickPartsSpec)

/-- 'graticulelaw23.FpickSorts', WHERE WHAT IT READS IS OF BULK AT MOST 1048576: true; the input reads as it did. -/
def fpickSortsUptoRow : OpenClaim := { program := "ytbdichmkgcngbaagreat", sum := "f5bc6921ba87bba80f26110cd9c4f7998f966afbc2527b47dd7f4bdd1072adf5", func := "graticule/graticulelaw23.FpickSorts", spec := "fpickSorts", inPlace := ["internal/bytealg.abigen_runtime_cmpstring"], unfollowed := true, recurses := true, named := ["math/bits.divideError", "math/bits.overflowError"], apart := false, narrowed := true }
def FpickSortsUptoSaid : Prop := fpickSortsUptoRow.holds Tryz.pinned (OpenSpec.upto fpickSortsSpec)

/-- 'graticulelaw23.FpickSortByName', WHERE WHAT IT READS IS OF BULK AT MOST 1048576: true; the input reads as it did. -/
def fpickSortByNameUptoRow : OpenClaim := { program := "ytbdichmkgcngbaagreat", sum := "f5bc6921ba87bba80f26110cd9c4f7998f966afbc2527b47dd7f4bdd1072adf5", func := "graticule/graticulelaw23.FpickSortByName", spec := "fpickSortByName", inPlace := ["internal/bytealg.abigen_runtime_cmpstring"], unfollowed := true, recurses := true, named := ["math/bits.divideError", "math/bits.overflowError"], apart := false, narrowed := true }
def FpickSortByNameUptoSaid : Prop := fpickSortByNameUptoRow.holds Tryz.pinned (OpenSpec.upto fpickSortByNameSpec)

/-- 'graticulelaw23.FpickSortByMaxima', WHERE WHAT IT READS IS OF BULK AT MOST 1048576: true; the input reads as it did. -/
def fpickSortByMaximaUptoRow : OpenClaim := { program := "ytbdichmkgcngbaagreat", sum := "f5bc6921ba87bba80f26110cd9c4f7998f966afbc2527b47dd7f4bdd1072adf5", func := "graticule/graticulelaw23.FpickSortByMaxima", spec := "fpickSortByMaxima", inPlace := ["internal/bytealg.abigen_runtime_cmpstring"], unfollowed := true, recurses := true, named := ["math/bits.divideError", "math/bits.overflowError"], apart := false, narrowed := true }
def FpickSortByMaximaUptoSaid : Prop := fpickSortByMaximaUptoRow.holds Tryz.pinned (OpenSpec.upto fpickSortByMaximaSpec)

/-- 'graticulelaw23.FpickSortByMinima', WHERE WHAT IT READS IS OF BULK AT MOST 1048576: true; the input reads as it did. -/
def fpickSortByMinimaUptoRow : OpenClaim := { program := "ytbdichmkgcngbaagreat", sum := "f5bc6921ba87bba80f26110cd9c4f7998f966afbc2527b47dd7f4bdd1072adf5", func := "graticule/graticulelaw23.FpickSortByMinima", spec := "fpickSortByMinima", inPlace := ["internal/bytealg.abigen_runtime_cmpstring"], unfollowed := true, recurses := true, named := ["math/bits.divideError", "math/bits.overflowError"], apart := false, narrowed := true }
def FpickSortByMinimaUptoSaid : Prop := fpickSortByMinimaUptoRow.holds Tryz.pinned (OpenSpec.upto fpickSortByMinimaSpec)

/-- 'graticulelaw23.FpickSortByTotal', WHERE WHAT IT READS IS OF BULK AT MOST 1048576: true; the input reads as it did. -/
def fpickSortByTotalUptoRow : OpenClaim := { program := "ytbdichmkgcngbaagreat", sum := "f5bc6921ba87bba80f26110cd9c4f7998f966afbc2527b47dd7f4bdd1072adf5", func := "graticule/graticulelaw23.FpickSortByTotal", spec := "fpickSortByTotal", inPlace := ["internal/bytealg.abigen_runtime_cmpstring"], unfollowed := true, recurses := true, named := ["math/bits.divideError", "math/bits.overflowError"], apart := false, narrowed := true }
def FpickSortByTotalUptoSaid : Prop := fpickSortByTotalUptoRow.holds Tryz.pinned (OpenSpec.upto fpickSortByTotalSpec)

/-- 'graticulelaw23.FpickRemoveEmptySeries', WHERE WHAT IT READS IS OF BULK AT MOST 1048576: true; the input reads as it did. -/
def fpickRemoveEmptySeriesUptoRow : OpenClaim := { program := "ytbdichmkgcngbaagreat", sum := "f5bc6921ba87bba80f26110cd9c4f7998f966afbc2527b47dd7f4bdd1072adf5", func := "graticule/graticulelaw23.FpickRemoveEmptySeries", spec := "fpickRemoveEmptySeries", inPlace := ["internal/bytealg.abigen_runtime_cmpstring"], unfollowed := true, recurses := true, named := ["math/bits.divideError", "math/bits.overflowError"], apart := false, narrowed := true }
def FpickRemoveEmptySeriesUptoSaid : Prop := fpickRemoveEmptySeriesUptoRow.holds Tryz.pinned (OpenSpec.upto fpickRemoveEmptySeriesSpec)

/-- 'graticulelaw23.FpickLimit', WHERE WHAT IT READS IS OF BULK AT MOST 1048576: true; the input reads as it did. -/
def fpickLimitUptoRow : OpenClaim := { program := "ytbdichmkgcngbaagreat", sum := "f5bc6921ba87bba80f26110cd9c4f7998f966afbc2527b47dd7f4bdd1072adf5", func := "graticule/graticulelaw23.FpickLimit", spec := "fpickLimit", inPlace := ["internal/bytealg.abigen_runtime_cmpstring"], unfollowed := true, recurses := true, named := ["math/bits.divideError", "math/bits.overflowError"], apart := false, narrowed := true }
def FpickLimitUptoSaid : Prop := fpickLimitUptoRow.holds Tryz.pinned (OpenSpec.upto fpickLimitSpec)

/-- 'graticulelaw23.FpickHighestMax', WHERE WHAT IT READS IS OF BULK AT MOST 1048576: true; the input reads as it did. -/
def fpickHighestMaxUptoRow : OpenClaim := { program := "ytbdichmkgcngbaagreat", sum := "f5bc6921ba87bba80f26110cd9c4f7998f966afbc2527b47dd7f4bdd1072adf5", func := "graticule/graticulelaw23.FpickHighestMax", spec := "fpickHighestMax", inPlace := ["internal/bytealg.abigen_runtime_cmpstring"], unfollowed := true, recurses := true, named := ["math/bits.divideError", "math/bits.overflowError"], apart := false, narrowed := true }
def FpickHighestMaxUptoSaid : Prop := fpickHighestMaxUptoRow.holds Tryz.pinned (OpenSpec.upto fpickHighestMaxSpec)

/-- 'graticulelaw23.FpickHighestAverage', WHERE WHAT IT READS IS OF BULK AT MOST 1048576: true; the input reads as it did. -/
def fpickHighestAverageUptoRow : OpenClaim := { program := "ytbdichmkgcngbaagreat", sum := "f5bc6921ba87bba80f26110cd9c4f7998f966afbc2527b47dd7f4bdd1072adf5", func := "graticule/graticulelaw23.FpickHighestAverage", spec := "fpickHighestAverage", inPlace := ["internal/bytealg.abigen_runtime_cmpstring"], unfollowed := true, recurses := true, named := ["math/bits.divideError", "math/bits.overflowError"], apart := false, narrowed := true }
def FpickHighestAverageUptoSaid : Prop := fpickHighestAverageUptoRow.holds Tryz.pinned (OpenSpec.upto fpickHighestAverageSpec)

/-- 'graticulelaw23.FpickHighestCurrent', WHERE WHAT IT READS IS OF BULK AT MOST 1048576: true; the input reads as it did. -/
def fpickHighestCurrentUptoRow : OpenClaim := { program := "ytbdichmkgcngbaagreat", sum := "f5bc6921ba87bba80f26110cd9c4f7998f966afbc2527b47dd7f4bdd1072adf5", func := "graticule/graticulelaw23.FpickHighestCurrent", spec := "fpickHighestCurrent", inPlace := ["internal/bytealg.abigen_runtime_cmpstring"], unfollowed := true, recurses := true, named := ["math/bits.divideError", "math/bits.overflowError"], apart := false, narrowed := true }
def FpickHighestCurrentUptoSaid : Prop := fpickHighestCurrentUptoRow.holds Tryz.pinned (OpenSpec.upto fpickHighestCurrentSpec)

/-- 'graticulelaw23.FpickLowestAverage', WHERE WHAT IT READS IS OF BULK AT MOST 1048576: true; the input reads as it did. -/
def fpickLowestAverageUptoRow : OpenClaim := { program := "ytbdichmkgcngbaagreat", sum := "f5bc6921ba87bba80f26110cd9c4f7998f966afbc2527b47dd7f4bdd1072adf5", func := "graticule/graticulelaw23.FpickLowestAverage", spec := "fpickLowestAverage", inPlace := ["internal/bytealg.abigen_runtime_cmpstring"], unfollowed := true, recurses := true, named := ["math/bits.divideError", "math/bits.overflowError"], apart := false, narrowed := true }
def FpickLowestAverageUptoSaid : Prop := fpickLowestAverageUptoRow.holds Tryz.pinned (OpenSpec.upto fpickLowestAverageSpec)

end Rows
end Go.Proofs.YtbdichmkgcngbaaGreat
