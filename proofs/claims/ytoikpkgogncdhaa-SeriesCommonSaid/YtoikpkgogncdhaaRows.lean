/-
  No cell of these rows narrows 'for every input' (looked for: loops, veiled, ifaces, maps, wideKeys, modest, calm, conditions, laid).
  DERIVED. THE GIVEN ROWS OF THIS SEAT. 8 by the template 'for every input the law returns true; each argument reads behind the call as it read before'; 0 by the template 'total and deterministic' (their statements: YtoikpkgogncdhaaTotals.lean).
  GIVEN WITH THE SEED: the statements are not yours to turn. If you find one false, say at which input.
  Laid BY PROGRAM, IN A SANDBOX (cutbox-rows.mjs): the forced cells as the released guide's own fill.sh prints them over the translation f51a947a16c01bdd… (all of the seat's roots in one cut). By AI agents, Wed Nov 11 2026. No macro, syntax, notation, axiom, sorry.
-/
import Derived.Test.YtoikpkgogncdhaaChecked
import GoSem.Claim
import GoSem.ClaimJoined
import GoSem.ClaimMapViews
import Derived.JoinedTies
import Derived.KernelRfl
namespace Go.Proofs.Ytoikpkgogncdhaa
/- THE CELL 'sum', in the pinned program and in every row, IS THE sha256 OF THE DUMP (.gsa) THAT YtoikpkgogncdhaaProg.lean LOADS. Nothing in Lean hashes anything: it is a label: what it is worth is what the hold of that sum in a sandbox is worth. -/
noncomputable def Try.pinned : Pinned := { name := "ytoikpkgogncdhaa", sum := "f51a947a16c01bdde9182c56716aed686275c7d47f2b26365c42607a0683777c", checked := Try.checked }
namespace Rows
def none {H : Type} : Left H := { results := [], args := [] }

/-- 'graticulelaw18.SeriesFits': WHATEVER THE INPUT: true; the input reads as it did. -/
def seriesFitsSpec : ChangeSpec := { name := "seriesFits", fn := fun _ => fun
  | [d1, d2, d3, d4] => { results := [.lit (.bool true)], args := [d1, d2, d3, d4] }
  | _ => none }
def seriesFitsRow : OpenClaim := { program := "ytoikpkgogncdhaa", sum := "f51a947a16c01bdde9182c56716aed686275c7d47f2b26365c42607a0683777c", func := "graticule/graticulelaw18.SeriesFits", spec := "seriesFits", unfollowed := true, recurses := true, named := ["math/bits.divideError", "math/bits.overflowError"], apart := false }
def SeriesFitsSaid : Prop := seriesFitsRow.holds Try.pinned (OpenSpec.ofChange seriesFitsSpec)

/-- ITS FALSE NEIGHBOUR: 'it returns false'. Refute it at one input. -/
def seriesFitsWrong : ChangeSpec := { name := "seriesFits", fn := fun _ => fun
  | [d1, d2, d3, d4] => { results := [.lit (.bool false)], args := [d1, d2, d3, d4] }
  | _ => none }
def SeriesFitsWrongFalsely : Prop := seriesFitsRow.holds Try.pinned (OpenSpec.ofChange seriesFitsWrong)

/-- 'graticulelaw18.SeriesShrinks': WHATEVER THE INPUT: true; the input reads as it did. -/
def seriesShrinksSpec : ChangeSpec := { name := "seriesShrinks", fn := fun _ => fun
  | [d1, d2] => { results := [.lit (.bool true)], args := [d1, d2] }
  | _ => none }
def seriesShrinksRow : OpenClaim := { program := "ytoikpkgogncdhaa", sum := "f51a947a16c01bdde9182c56716aed686275c7d47f2b26365c42607a0683777c", func := "graticule/graticulelaw18.SeriesShrinks", spec := "seriesShrinks", unfollowed := true, recurses := true, named := ["math/bits.divideError", "math/bits.overflowError"], apart := false }
def SeriesShrinksSaid : Prop := seriesShrinksRow.holds Try.pinned (OpenSpec.ofChange seriesShrinksSpec)

/-- ITS FALSE NEIGHBOUR: 'it returns false'. Refute it at one input. -/
def seriesShrinksWrong : ChangeSpec := { name := "seriesShrinks", fn := fun _ => fun
  | [d1, d2] => { results := [.lit (.bool false)], args := [d1, d2] }
  | _ => none }
def SeriesShrinksWrongFalsely : Prop := seriesShrinksRow.holds Try.pinned (OpenSpec.ofChange seriesShrinksWrong)

/-- 'graticulelaw18.SeriesBuckets': WHATEVER THE INPUT: true; the input reads as it did. -/
def seriesBucketsSpec : ChangeSpec := { name := "seriesBuckets", fn := fun _ => fun
  | [d1, d2] => { results := [.lit (.bool true)], args := [d1, d2] }
  | _ => none }
def seriesBucketsRow : OpenClaim := { program := "ytoikpkgogncdhaa", sum := "f51a947a16c01bdde9182c56716aed686275c7d47f2b26365c42607a0683777c", func := "graticule/graticulelaw18.SeriesBuckets", spec := "seriesBuckets", unfollowed := true, recurses := true, named := ["math/bits.divideError", "math/bits.overflowError"], apart := false }
def SeriesBucketsSaid : Prop := seriesBucketsRow.holds Try.pinned (OpenSpec.ofChange seriesBucketsSpec)

/-- ITS FALSE NEIGHBOUR: 'it returns false'. Refute it at one input. -/
def seriesBucketsWrong : ChangeSpec := { name := "seriesBuckets", fn := fun _ => fun
  | [d1, d2] => { results := [.lit (.bool false)], args := [d1, d2] }
  | _ => none }
def SeriesBucketsWrongFalsely : Prop := seriesBucketsRow.holds Try.pinned (OpenSpec.ofChange seriesBucketsWrong)

/-- 'graticulelaw18.SeriesLooks': WHATEVER THE INPUT: true; the input reads as it did. -/
def seriesLooksSpec : ChangeSpec := { name := "seriesLooks", fn := fun _ => fun
  | [d1, d2] => { results := [.lit (.bool true)], args := [d1, d2] }
  | _ => none }
def seriesLooksRow : OpenClaim := { program := "ytoikpkgogncdhaa", sum := "f51a947a16c01bdde9182c56716aed686275c7d47f2b26365c42607a0683777c", func := "graticule/graticulelaw18.SeriesLooks", spec := "seriesLooks", unfollowed := true, recurses := true, named := ["math/bits.divideError", "math/bits.overflowError"], apart := false }
def SeriesLooksSaid : Prop := seriesLooksRow.holds Try.pinned (OpenSpec.ofChange seriesLooksSpec)

/-- ITS FALSE NEIGHBOUR: 'it returns false'. Refute it at one input. -/
def seriesLooksWrong : ChangeSpec := { name := "seriesLooks", fn := fun _ => fun
  | [d1, d2] => { results := [.lit (.bool false)], args := [d1, d2] }
  | _ => none }
def SeriesLooksWrongFalsely : Prop := seriesLooksRow.holds Try.pinned (OpenSpec.ofChange seriesLooksWrong)

/-- 'graticulelaw18.SeriesJoins': WHATEVER THE INPUT: true; the input reads as it did. -/
def seriesJoinsSpec : ChangeSpec := { name := "seriesJoins", fn := fun _ => fun
  | [d] => { results := [.lit (.bool true)], args := [d] }
  | _ => none }
def seriesJoinsRow : OpenClaim := { program := "ytoikpkgogncdhaa", sum := "f51a947a16c01bdde9182c56716aed686275c7d47f2b26365c42607a0683777c", func := "graticule/graticulelaw18.SeriesJoins", spec := "seriesJoins", unfollowed := true, recurses := true, named := ["math/bits.divideError", "math/bits.overflowError"], apart := false }
def SeriesJoinsSaid : Prop := seriesJoinsRow.holds Try.pinned (OpenSpec.ofChange seriesJoinsSpec)

/-- ITS FALSE NEIGHBOUR: 'it returns false'. Refute it at one input. -/
def seriesJoinsWrong : ChangeSpec := { name := "seriesJoins", fn := fun _ => fun
  | [d] => { results := [.lit (.bool false)], args := [d] }
  | _ => none }
def SeriesJoinsWrongFalsely : Prop := seriesJoinsRow.holds Try.pinned (OpenSpec.ofChange seriesJoinsWrong)

/-- 'graticulelaw18.SeriesItself': WHATEVER THE INPUT: true; the input reads as it did. -/
def seriesItselfSpec : ChangeSpec := { name := "seriesItself", fn := fun _ => fun
  | [d] => { results := [.lit (.bool true)], args := [d] }
  | _ => none }
def seriesItselfRow : OpenClaim := { program := "ytoikpkgogncdhaa", sum := "f51a947a16c01bdde9182c56716aed686275c7d47f2b26365c42607a0683777c", func := "graticule/graticulelaw18.SeriesItself", spec := "seriesItself", unfollowed := true, recurses := true, named := ["math/bits.divideError", "math/bits.overflowError"], apart := false }
def SeriesItselfSaid : Prop := seriesItselfRow.holds Try.pinned (OpenSpec.ofChange seriesItselfSpec)

/-- ITS FALSE NEIGHBOUR: 'it returns false'. Refute it at one input. -/
def seriesItselfWrong : ChangeSpec := { name := "seriesItself", fn := fun _ => fun
  | [d] => { results := [.lit (.bool false)], args := [d] }
  | _ => none }
def SeriesItselfWrongFalsely : Prop := seriesItselfRow.holds Try.pinned (OpenSpec.ofChange seriesItselfWrong)

/-- 'graticulelaw18.SeriesCommon': WHATEVER THE INPUT: true; the input reads as it did. -/
def seriesCommonSpec : ChangeSpec := { name := "seriesCommon", fn := fun _ => fun
  | [d] => { results := [.lit (.bool true)], args := [d] }
  | _ => none }
def seriesCommonRow : OpenClaim := { program := "ytoikpkgogncdhaa", sum := "f51a947a16c01bdde9182c56716aed686275c7d47f2b26365c42607a0683777c", func := "graticule/graticulelaw18.SeriesCommon", spec := "seriesCommon", unfollowed := true, recurses := true, named := ["math/bits.divideError", "math/bits.overflowError"], apart := false }
def SeriesCommonSaid : Prop := seriesCommonRow.holds Try.pinned (OpenSpec.ofChange seriesCommonSpec)

/-- ITS FALSE NEIGHBOUR: 'it returns false'. Refute it at one input. -/
def seriesCommonWrong : ChangeSpec := { name := "seriesCommon", fn := fun _ => fun
  | [d] => { results := [.lit (.bool false)], args := [d] }
  | _ => none }
def SeriesCommonWrongFalsely : Prop := seriesCommonRow.holds Try.pinned (OpenSpec.ofChange seriesCommonWrong)

/-- 'graticulelaw18.SeriesLabel': WHATEVER THE INPUT: true; the input reads as it did. -/
def seriesLabelSpec : ChangeSpec := { name := "seriesLabel", fn := fun _ => fun
  | [d1, d2] => { results := [.lit (.bool true)], args := [d1, d2] }
  | _ => none }
def seriesLabelRow : OpenClaim := { program := "ytoikpkgogncdhaa", sum := "f51a947a16c01bdde9182c56716aed686275c7d47f2b26365c42607a0683777c", func := "graticule/graticulelaw18.SeriesLabel", spec := "seriesLabel", inPlace := ["internal/abi.NoEscape", "internal/bytealg.MakeNoZero"], unfollowed := true, recurses := true, named := ["math/bits.divideError", "math/bits.overflowError"], apart := false }
def SeriesLabelSaid : Prop := seriesLabelRow.holds Try.pinned (OpenSpec.ofChange seriesLabelSpec)

/-- ITS FALSE NEIGHBOUR: 'it returns false'. Refute it at one input. -/
def seriesLabelWrong : ChangeSpec := { name := "seriesLabel", fn := fun _ => fun
  | [d1, d2] => { results := [.lit (.bool false)], args := [d1, d2] }
  | _ => none }
def SeriesLabelWrongFalsely : Prop := seriesLabelRow.holds Try.pinned (OpenSpec.ofChange seriesLabelWrong)

/- THE SECOND FORM. 'bulk': how many values and letters a reading holds, each counted each time it is reached (what is shared counts as often as it is met; a slice's spare places count too). A statement '..UptoSaid' is the law's where the arguments, and the package variables that the reading takes, are together of bulk at most 1048576: NARROWER than '..Said'. Prove '..Said' where nothing that the law and all that it calls make is longer than what came in: it says more and counts as full. Else prove '..UptoSaid'. A law counts once. -/
mutual
def uptoBulk {H : Type} : DataW H → Nat
  | .lit (.string bytes) => bytes.length + 1
  | .lit _ => 1
  | .nil => 1
  | .ptr d => uptoBulk d + 1
  | .slice elems spare => uptoBulkAll elems + uptoBulkAll spare + 1
  | .agg parts => uptoBulkAll parts + 1
  | .iface _ d => uptoBulk d + 1
  | .map entries => uptoBulkEntries entries + 1
  | .held _ => 1
def uptoBulkAll {H : Type} : List (DataW H) → Nat
  | [] => 0
  | d :: r => uptoBulk d + uptoBulkAll r
def uptoBulkEntries {H : Type} : List (Lit × DataW H) → Nat
  | [] => 0
  | x :: r => uptoBulkEntry x + uptoBulkEntries r
def uptoBulkEntry {H : Type} : Lit × DataW H → Nat
  | (.string bytes, d) => bytes.length + uptoBulk d + 1
  | (_, d) => uptoBulk d + 1
 end
def uptoSmall : (H : Type) → List (DataW H) → Bool := fun _ ds => decide (uptoBulkAll ds ≤ 1048576)
def OpenSpec.upto (s : _root_.Go.ChangeSpec) : _root_.Go.OpenSpec := { _root_.Go.OpenSpec.ofChange s with cond := some uptoSmall }

/-- 'graticulelaw18.SeriesFits', WHERE WHAT IT READS IS OF BULK AT MOST 1048576: true; the input reads as it did. -/
def seriesFitsUptoRow : OpenClaim := { program := "ytoikpkgogncdhaa", sum := "f51a947a16c01bdde9182c56716aed686275c7d47f2b26365c42607a0683777c", func := "graticule/graticulelaw18.SeriesFits", spec := "seriesFits", unfollowed := true, recurses := true, named := ["math/bits.divideError", "math/bits.overflowError"], apart := false, narrowed := true }
def SeriesFitsUptoSaid : Prop := seriesFitsUptoRow.holds Try.pinned (OpenSpec.upto seriesFitsSpec)

/-- 'graticulelaw18.SeriesShrinks', WHERE WHAT IT READS IS OF BULK AT MOST 1048576: true; the input reads as it did. -/
def seriesShrinksUptoRow : OpenClaim := { program := "ytoikpkgogncdhaa", sum := "f51a947a16c01bdde9182c56716aed686275c7d47f2b26365c42607a0683777c", func := "graticule/graticulelaw18.SeriesShrinks", spec := "seriesShrinks", unfollowed := true, recurses := true, named := ["math/bits.divideError", "math/bits.overflowError"], apart := false, narrowed := true }
def SeriesShrinksUptoSaid : Prop := seriesShrinksUptoRow.holds Try.pinned (OpenSpec.upto seriesShrinksSpec)

/-- 'graticulelaw18.SeriesBuckets', WHERE WHAT IT READS IS OF BULK AT MOST 1048576: true; the input reads as it did. -/
def seriesBucketsUptoRow : OpenClaim := { program := "ytoikpkgogncdhaa", sum := "f51a947a16c01bdde9182c56716aed686275c7d47f2b26365c42607a0683777c", func := "graticule/graticulelaw18.SeriesBuckets", spec := "seriesBuckets", unfollowed := true, recurses := true, named := ["math/bits.divideError", "math/bits.overflowError"], apart := false, narrowed := true }
def SeriesBucketsUptoSaid : Prop := seriesBucketsUptoRow.holds Try.pinned (OpenSpec.upto seriesBucketsSpec)

/-- 'graticulelaw18.SeriesLooks', WHERE WHAT IT READS IS OF BULK AT MOST 1048576: true; the input reads as it did. -/
def seriesLooksUptoRow : OpenClaim := { program := "ytoikpkgogncdhaa", sum := "f51a947a16c01bdde9182c56716aed686275c7d47f2b26365c42607a0683777c", func := "graticule/graticulelaw18.SeriesLooks", spec := "seriesLooks", unfollowed := true, recurses := true, named := ["math/bits.divideError", "math/bits.overflowError"], apart := false, narrowed := true }
def SeriesLooksUptoSaid : Prop := seriesLooksUptoRow.holds Try.pinned (OpenSpec.upto seriesLooksSpec)

/-- 'graticulelaw18.SeriesJoins', WHERE WHAT IT READS IS OF BULK AT MOST 1048576: true; the input reads as it did. -/
def seriesJoinsUptoRow : OpenClaim := { program := "ytoikpkgogncdhaa", sum := "f51a947a16c01bdde9182c56716aed686275c7d47f2b26365c42607a0683777c", func := "graticule/graticulelaw18.SeriesJoins", spec := "seriesJoins", unfollowed := true, recurses := true, named := ["math/bits.divideError", "math/bits.overflowError"], apart := false, narrowed := true }
def SeriesJoinsUptoSaid : Prop := seriesJoinsUptoRow.holds Try.pinned (OpenSpec.upto seriesJoinsSpec)

/-- 'graticulelaw18.SeriesItself', WHERE WHAT IT READS IS OF BULK AT MOST 1048576: true; the input reads as it did. -/
def seriesItselfUptoRow : OpenClaim := { program := "ytoikpkgogncdhaa", sum := "f51a947a16c01bdde9182c56716aed686275c7d47f2b26365c42607a0683777c", func := "graticule/graticulelaw18.SeriesItself", spec := "seriesItself", unfollowed := true, recurses := true, named := ["math/bits.divideError", "math/bits.overflowError"], apart := false, narrowed := true }
def SeriesItselfUptoSaid : Prop := seriesItselfUptoRow.holds Try.pinned (OpenSpec.upto seriesItselfSpec)

/-- 'graticulelaw18.SeriesCommon', WHERE WHAT IT READS IS OF BULK AT MOST 1048576: true; the input reads as it did. -/
def seriesCommonUptoRow : OpenClaim := { program := "ytoikpkgogncdhaa", sum := "f51a947a16c01bdde9182c56716aed686275c7d47f2b26365c42607a0683777c", func := "graticule/graticulelaw18.SeriesCommon", spec := "seriesCommon", unfollowed := true, recurses := true, named := ["math/bits.divideError", "math/bits.overflowError"], apart := false, narrowed := true }
def SeriesCommonUptoSaid : Prop := seriesCommonUptoRow.holds Try.pinned (OpenSpec.upto seriesCommonSpec)

/-- 'graticulelaw18.SeriesLabel', WHERE WHAT IT READS IS OF BULK AT MOST 1048576: true; the input reads as it did. -/
def seriesLabelUptoRow : OpenClaim := { program := "ytoikpkgogncdhaa", sum := "f51a947a16c01bdde9182c56716aed686275c7d47f2b26365c42607a0683777c", func := "graticule/graticulelaw18.SeriesLabel", spec := "seriesLabel", inPlace := ["internal/abi.NoEscape", "internal/bytealg.MakeNoZero"], unfollowed := true, recurses := true, named := ["math/bits.divideError", "math/bits.overflowError"], apart := false, narrowed := true }
def SeriesLabelUptoSaid : Prop := seriesLabelUptoRow.holds Try.pinned (OpenSpec.upto seriesLabelSpec)

end Rows
end Go.Proofs.Ytoikpkgogncdhaa
