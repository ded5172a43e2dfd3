/-
  No cell of these rows narrows 'for every input' (looked for: loops, veiled, ifaces, maps, wideKeys, modest, calm, conditions, laid).
  DERIVED. THE GIVEN ROWS OF THIS SEAT. 3 by the template 'for every input the law returns true; each argument reads behind the call as it read before'; 0 by the template 'total and deterministic' (their statements: YtoncapkmaeghfaaGreatTotals.lean).
  GIVEN WITH THE SEED: the statements are not yours to turn. If you find one false, say at which input.
  Laid BY PROGRAM, IN A SANDBOX (cutbox-rows.mjs): the forced cells as the released guide's own fill.sh prints them over the translation dafb038381f959ea… (all of the seat's roots in one cut). By AI agents, Wed Nov 11 2026. No macro, syntax, notation, axiom, sorry.
-/
import Derived.Test.YtoncapkmaeghfaaGreatChecked
import GoSem.Claim
import GoSem.ClaimJoined
import GoSem.ClaimMapViews
import Derived.JoinedTies
import Derived.KernelRfl
namespace Go.Proofs.YtoncapkmaeghfaaGreat
/- THE CELL 'sum', in the pinned program and in every row, IS THE sha256 OF THE DUMP (.gsa) THAT YtoncapkmaeghfaaGreatProg.lean LOADS. Nothing in Lean hashes anything: it is a label: what it is worth is what the hold of that sum in a sandbox is worth. -/
noncomputable def Tryz.pinned : Pinned := { name := "ytoncapkmaeghfaagreat", sum := "dafb038381f959ea52665ef1d84b3dbf2e060d6dfb08a48fef8023dd7d4d9a86", checked := Tryz.checked }
namespace Rows
def none {H : Type} : Left H := { results := [], args := [] }

/-- 'graticulelaw7.WhisperPlays': WHATEVER THE INPUT: true; the input reads as it did. -/
def whisperPlaysSpec : ChangeSpec := { name := "whisperPlays", fn := fun _ => fun
  | [d1, d2] => { results := [.lit (.bool true)], args := [d1, d2] }
  | _ => none }
def whisperPlaysRow : OpenClaim := { program := "ytoncapkmaeghfaagreat", sum := "dafb038381f959ea52665ef1d84b3dbf2e060d6dfb08a48fef8023dd7d4d9a86", func := "graticule/graticulelaw7.WhisperPlays", spec := "whisperPlays", inPlace := ["internal/bytealg.MakeNoZero", "maps.clone"], named := ["math/bits.divideError", "math/bits.overflowError"], apart := false }
def WhisperPlaysSaid : Prop := whisperPlaysRow.holds Tryz.pinned (OpenSpec.ofChange whisperPlaysSpec)

/-- ITS FALSE NEIGHBOUR: 'it returns false'. Refute it at one input. -/
def whisperPlaysWrong : ChangeSpec := { name := "whisperPlays", fn := fun _ => fun
  | [d1, d2] => { results := [.lit (.bool false)], args := [d1, d2] }
  | _ => none }
def WhisperPlaysWrongFalsely : Prop := whisperPlaysRow.holds Tryz.pinned (OpenSpec.ofChange whisperPlaysWrong)

/-- 'graticulelaw7.WhisperFiles': WHATEVER THE INPUT: true; the input reads as it did. -/
def whisperFilesSpec : ChangeSpec := { name := "whisperFiles", fn := fun _ => fun
  | [d1, d2] => { results := [.lit (.bool true)], args := [d1, d2] }
  | _ => none }
def whisperFilesRow : OpenClaim := { program := "ytoncapkmaeghfaagreat", sum := "dafb038381f959ea52665ef1d84b3dbf2e060d6dfb08a48fef8023dd7d4d9a86", func := "graticule/graticulelaw7.WhisperFiles", spec := "whisperFiles", inPlace := ["internal/bytealg.MakeNoZero", "maps.clone"], named := ["math/bits.divideError", "math/bits.overflowError"], apart := false }
def WhisperFilesSaid : Prop := whisperFilesRow.holds Tryz.pinned (OpenSpec.ofChange whisperFilesSpec)

/-- ITS FALSE NEIGHBOUR: 'it returns false'. Refute it at one input. -/
def whisperFilesWrong : ChangeSpec := { name := "whisperFiles", fn := fun _ => fun
  | [d1, d2] => { results := [.lit (.bool false)], args := [d1, d2] }
  | _ => none }
def WhisperFilesWrongFalsely : Prop := whisperFilesRow.holds Tryz.pinned (OpenSpec.ofChange whisperFilesWrong)

/-- 'graticulelaw7.WhisperTorn': WHATEVER THE INPUT: true; the input reads as it did. -/
def whisperTornSpec : ChangeSpec := { name := "whisperTorn", fn := fun _ => fun
  | [d1, d2, d3, d4, d5, d6] => { results := [.lit (.bool true)], args := [d1, d2, d3, d4, d5, d6] }
  | _ => none }
def whisperTornRow : OpenClaim := { program := "ytoncapkmaeghfaagreat", sum := "dafb038381f959ea52665ef1d84b3dbf2e060d6dfb08a48fef8023dd7d4d9a86", func := "graticule/graticulelaw7.WhisperTorn", spec := "whisperTorn", inPlace := ["internal/bytealg.MakeNoZero", "maps.clone"], named := ["math/bits.divideError", "math/bits.overflowError"], apart := false }
def WhisperTornSaid : Prop := whisperTornRow.holds Tryz.pinned (OpenSpec.ofChange whisperTornSpec)

/-- ITS FALSE NEIGHBOUR: 'it returns false'. Refute it at one input. -/
def whisperTornWrong : ChangeSpec := { name := "whisperTorn", fn := fun _ => fun
  | [d1, d2, d3, d4, d5, d6] => { results := [.lit (.bool false)], args := [d1, d2, d3, d4, d5, d6] }
  | _ => none }
def WhisperTornWrongFalsely : Prop := whisperTornRow.holds Tryz.pinned (OpenSpec.ofChange whisperTornWrong)

/- THE SECOND FORM. 'bulk': how many values and letters a reading holds, each counted each time it is reached (what is shared counts as often as it is met; a slice's spare places count too). A statement '..UptoSaid' is the law's where the arguments, and the package variables that the reading takes, are together of bulk at most 1048576: NARROWER than '..Said'. Prove '..Said' where nothing that the law and all that it calls make is longer than what came in: it says more and counts as full. Else prove '..UptoSaid'. A law counts once. -/
mutual
def uptoBulk {H : Type} : DataW H → Nat
  | .lit (.string bytes) => bytes.length + 1
  | .lit _ => 1
  | .nil => 1
  | .ptr d => uptoBulk d + 1
  | .slice elems spare => uptoBulkAll elems + uptoBulkAll spare + 1
  | .agg parts => uptoBulkAll parts + 1
  | .iface _ d => uptoBulk d + 1
  | .map entries => uptoBulkEntries entries + 1
  | .held _ => 1
def uptoBulkAll {H : Type} : List (DataW H) → Nat
  | [] => 0
  | d :: r => uptoBulk d + uptoBulkAll r
def uptoBulkEntries {H : Type} : List (Lit × DataW H) → Nat
  | [] => 0
  | x :: r => uptoBulkEntry x + uptoBulkEntries r
def uptoBulkEntry {H : Type} : Lit × DataW H → Nat
  | (.string bytes, d) => bytes.length + uptoBulk d + 1
  | (_, d) => uptoBulk d + 1
 end
def uptoSmall : (H : Type) → List (DataW H) → Bool := fun _ ds => decide (uptoBulkAll ds ≤ 1048576)
def OpenSpec.upto (s : _root_.Go.ChangeSpec) : _root_.Go.OpenSpec := { _root_.Go.OpenSpec.ofChange s with cond := some uptoSmall }

/-- 'graticulelaw7.WhisperPlays', WHERE WHAT IT READS IS OF BULK AT MOST 1048576: true; the input reads as it did. -/
def whisperPlaysUptoRow : OpenClaim := { program := "ytoncapkmaeghfaagreat", sum := "dafb038381f959ea52665ef1d84b3dbf2e060d6dfb08a48fef8023dd7d4d9a86", func := "graticule/graticulelaw7.WhisperPlays", spec := "whisperPlays", inPlace := ["internal/bytealg.MakeNoZero", "maps.clone"], named := ["math/bits.divideError", "math/bits.overflowError"], apart := false, narrowed := true }
def WhisperPlaysUptoSaid : Prop := whisperPlaysUptoRow.holds Tryz.pinned (OpenSpec.upto whisperPlaysSpec)

/-- 'graticulelaw7.WhisperFiles', WHERE WHAT IT READS IS OF BULK AT MOST 1048576: true; the input reads as it did. -/
def whisperFilesUptoRow : OpenClaim := { program := "ytoncapkmaeghfaagreat", sum := "dafb038381f959ea52665ef1d84b3dbf2e060d6dfb08a48fef8023dd7d4d9a86", func := "graticule/graticulelaw7.WhisperFiles", spec := "whisperFiles", inPlace := ["internal/bytealg.MakeNoZero", "maps.clone"], named := ["math/bits.divideError", "math/bits.overflowError"], apart := false, narrowed := true }
def WhisperFilesUptoSaid : Prop := whisperFilesUptoRow.holds Tryz.pinned (OpenSpec.upto whisperFilesSpec)

/-- 'graticulelaw7.WhisperTorn', WHERE WHAT IT READS IS OF BULK AT MOST 1048576: true; the input reads as it did. -/
def whisperTornUptoRow : OpenClaim := { program := "ytoncapkmaeghfaagreat", sum := "dafb038381f959ea52665ef1d84b3dbf2e060d6dfb08a48fef8023dd7d4d9a86", func := "graticule/graticulelaw7.WhisperTorn", spec := "whisperTorn", inPlace := ["internal/bytealg.MakeNoZero", "maps.clone"], named := ["math/bits.divideError", "math/bits.overflowError"], apart := false, narrowed := true }
def WhisperTornUptoSaid : Prop := whisperTornUptoRow.holds Tryz.pinned (OpenSpec.upto whisperTornSpec)

end Rows
end Go.Proofs.YtoncapkmaeghfaaGreat
