/-
  No cell of these rows narrows 'for every input' (looked for: loops, veiled, ifaces, maps, wideKeys, modest, calm, conditions, laid).
  DERIVED. THE GIVEN ROWS OF THIS SEAT. 3 by the template 'for every input the law returns true; each argument reads behind the call as it read before'; 0 by the template 'total and deterministic' (their statements: YtoncapkmaeghfaaTotals.lean).
  GIVEN WITH THE SEED: the statements are not yours to turn. If you find one false, say at which input.
  Laid BY PROGRAM, IN A SANDBOX (cutbox-rows.mjs): the forced cells as the released guide's own fill.sh prints them over the translation b2c1634b8d3f7f20… (all of the seat's roots in one cut). By AI agents, Wed Nov 11 2026. No macro, syntax, notation, axiom, sorry.
-/
import Derived.Test.YtoncapkmaeghfaaChecked
import GoSem.Claim
import GoSem.ClaimJoined
import GoSem.ClaimMapViews
import Derived.JoinedTies
import Derived.KernelRfl
namespace Go.Proofs.Ytoncapkmaeghfaa
/- THE CELL 'sum', in the pinned program and in every row, IS THE sha256 OF THE DUMP (.gsa) THAT YtoncapkmaeghfaaProg.lean LOADS. Nothing in Lean hashes anything: it is a label: what it is worth is what the hold of that sum in a sandbox is worth. -/
noncomputable def Try.pinned : Pinned := { name := "ytoncapkmaeghfaa", sum := "b2c1634b8d3f7f206b4a741700a3ec6527c4642e14f3f5c4a63d81d10eb5cb97", checked := Try.checked }
namespace Rows
def none {H : Type} : Left H := { results := [], args := [] }

/-- 'graticulelaw7.WhisperKeeps': WHATEVER THE INPUT: true; the input reads as it did. -/
def whisperKeepsSpec : ChangeSpec := { name := "whisperKeeps", fn := fun _ => fun
  | [d1, d2, d3, d4, d5] => { results := [.lit (.bool true)], args := [d1, d2, d3, d4, d5] }
  | _ => none }
def whisperKeepsRow : OpenClaim := { program := "ytoncapkmaeghfaa", sum := "b2c1634b8d3f7f206b4a741700a3ec6527c4642e14f3f5c4a63d81d10eb5cb97", func := "graticule/graticulelaw7.WhisperKeeps", spec := "whisperKeeps", inPlace := ["internal/bytealg.MakeNoZero", "maps.clone"], named := ["math/bits.divideError", "math/bits.overflowError"], apart := false }
def WhisperKeepsSaid : Prop := whisperKeepsRow.holds Try.pinned (OpenSpec.ofChange whisperKeepsSpec)

/-- ITS FALSE NEIGHBOUR: 'it returns false'. Refute it at one input. -/
def whisperKeepsWrong : ChangeSpec := { name := "whisperKeeps", fn := fun _ => fun
  | [d1, d2, d3, d4, d5] => { results := [.lit (.bool false)], args := [d1, d2, d3, d4, d5] }
  | _ => none }
def WhisperKeepsWrongFalsely : Prop := whisperKeepsRow.holds Try.pinned (OpenSpec.ofChange whisperKeepsWrong)

/-- 'graticulelaw7.WhisperRolls': WHATEVER THE INPUT: true; the input reads as it did. -/
def whisperRollsSpec : ChangeSpec := { name := "whisperRolls", fn := fun _ => fun
  | [d1, d2] => { results := [.lit (.bool true)], args := [d1, d2] }
  | _ => none }
def whisperRollsRow : OpenClaim := { program := "ytoncapkmaeghfaa", sum := "b2c1634b8d3f7f206b4a741700a3ec6527c4642e14f3f5c4a63d81d10eb5cb97", func := "graticule/graticulelaw7.WhisperRolls", spec := "whisperRolls", inPlace := ["internal/bytealg.MakeNoZero", "maps.clone"], named := ["math/bits.divideError", "math/bits.overflowError"], apart := false }
def WhisperRollsSaid : Prop := whisperRollsRow.holds Try.pinned (OpenSpec.ofChange whisperRollsSpec)

/-- ITS FALSE NEIGHBOUR: 'it returns false'. Refute it at one input. -/
def whisperRollsWrong : ChangeSpec := { name := "whisperRolls", fn := fun _ => fun
  | [d1, d2] => { results := [.lit (.bool false)], args := [d1, d2] }
  | _ => none }
def WhisperRollsWrongFalsely : Prop := whisperRollsRow.holds Try.pinned (OpenSpec.ofChange whisperRollsWrong)

/-- 'graticulelaw7.WhisperOfNothing': WHATEVER THE INPUT: true; the input reads as it did. -/
def whisperOfNothingSpec : ChangeSpec := { name := "whisperOfNothing", fn := fun _ => fun
  | [d1, d2, d3] => { results := [.lit (.bool true)], args := [d1, d2, d3] }
  | _ => none }
def whisperOfNothingRow : OpenClaim := { program := "ytoncapkmaeghfaa", sum := "b2c1634b8d3f7f206b4a741700a3ec6527c4642e14f3f5c4a63d81d10eb5cb97", func := "graticule/graticulelaw7.WhisperOfNothing", spec := "whisperOfNothing", inPlace := ["internal/bytealg.MakeNoZero", "maps.clone"], named := ["math/bits.divideError", "math/bits.overflowError"], apart := false }
def WhisperOfNothingSaid : Prop := whisperOfNothingRow.holds Try.pinned (OpenSpec.ofChange whisperOfNothingSpec)

/-- ITS FALSE NEIGHBOUR: 'it returns false'. Refute it at one input. -/
def whisperOfNothingWrong : ChangeSpec := { name := "whisperOfNothing", fn := fun _ => fun
  | [d1, d2, d3] => { results := [.lit (.bool false)], args := [d1, d2, d3] }
  | _ => none }
def WhisperOfNothingWrongFalsely : Prop := whisperOfNothingRow.holds Try.pinned (OpenSpec.ofChange whisperOfNothingWrong)

/- THE SECOND FORM. 'bulk': how many values and letters a reading holds, each counted each time it is reached (what is shared counts as often as it is met; a slice's spare places count too). A statement '..UptoSaid' is the law's where the arguments, and the package variables that the reading takes, are together of bulk at most 1048576: NARROWER than '..Said'. Prove '..Said' where nothing that the law and all that it calls make is longer than what came in: it says more and counts as full. Else prove '..UptoSaid'. A law counts once. -/
mutual
def uptoBulk {H : Type} : DataW H → Nat
  | .lit (.string bytes) => bytes.length + 1
  | .lit _ => 1
  | .nil => 1
  | .ptr d => uptoBulk d + 1
  | .slice elems spare => uptoBulkAll elems + uptoBulkAll spare + 1
  | .agg parts => uptoBulkAll parts + 1
  | .iface _ d => uptoBulk d + 1
  | .map entries => uptoBulkEntries entries + 1
  | .held _ => 1
def uptoBulkAll {H : Type} : List (DataW H) → Nat
  | [] => 0
  | d :: r => uptoBulk d + uptoBulkAll r
def uptoBulkEntries {H : Type} : List (Lit × DataW H) → Nat
  | [] => 0
  | x :: r => uptoBulkEntry x + uptoBulkEntries r
def uptoBulkEntry {H : Type} : Lit × DataW H → Nat
  | (.string bytes, d) => bytes.length + uptoBulk d + 1
  | (_, d) => uptoBulk d + 1
 end
def uptoSmall : (H : Type) → List (DataW H) → Bool := fun _ ds => decide (uptoBulkAll ds ≤ 1048576)
def OpenSpec.upto (s : _root_.Go.ChangeSpec) : _root_.Go.OpenSpec := { _root_.Go.OpenSpec.ofChange s with cond := some uptoSmall }

/-- 'graticulelaw7.WhisperKeeps', WHERE WHAT IT READS IS OF BULK AT MOST 1048576: true; the input reads as it did. -/
def whisperKeepsUptoRow : OpenClaim := { program := "ytoncapkmaeghfaa", sum := "b2c1634b8d3f7f206b4a741700a3ec6527c4642e14f3f5c4a63d81d10eb5cb97", func := "graticule/graticulelaw7.WhisperKeeps", spec := "whisperKeeps", inPlace := ["internal/bytealg.MakeNoZero", "maps.clone"], named := ["math/bits.divideError", "math/bits.overflowError"], apart := false, narrowed := true }
def WhisperKeepsUptoSaid : Prop := whisperKeepsUptoRow.holds Try.pinned (OpenSpec.upto whisperKeepsSpec)

/-- 'graticulelaw7.WhisperRolls', WHERE WHAT IT READS IS OF BULK AT MOST 1048576: true; the input reads as it did. -/
def whisperRollsUptoRow : OpenClaim := { program := "ytoncapkmaeghfaa", sum := "b2c1634b8d3f7f206b4a741700a3ec6527c4642e14f3f5c4a63d81d10eb5cb97", func := "graticule/graticulelaw7.WhisperRolls", spec := "whisperRolls", inPlace := ["internal/bytealg.MakeNoZero", "maps.clone"], named := ["math/bits.divideError", "math/bits.overflowError"], apart := false, narrowed := true }
def WhisperRollsUptoSaid : Prop := whisperRollsUptoRow.holds Try.pinned (OpenSpec.upto whisperRollsSpec)

/-- 'graticulelaw7.WhisperOfNothing', WHERE WHAT IT READS IS OF BULK AT MOST 1048576: true; the input reads as it did. -/
def whisperOfNothingUptoRow : OpenClaim := { program := "ytoncapkmaeghfaa", sum := "b2c1634b8d3f7f206b4a741700a3ec6527c4642e14f3f5c4a63d81d10eb5cb97", func := "graticule/graticulelaw7.WhisperOfNothing", spec := "whisperOfNothing", inPlace := ["internal/bytealg.MakeNoZero", "maps.clone"], named := ["math/bits.divideError", "math/bits.overflowError"], apart := false, narrowed := true }
def WhisperOfNothingUptoSaid : Prop := whisperOfNothingUptoRow.holds Try.pinned (OpenSpec.upto whisperOfNothingSpec)

end Rows
end Go.Proofs.Ytoncapkmaeghfaa
