/-
  DERIVED. GIVEN WITH THE SEED: THE CARDS: each row of YtfnpmdcbhjabmaaDoorRows.lean that lists a variable, with what it lists TIED to the program's text (the seventh form; the later family's looks); each row that meets fmt, with fmt's text TOLD by the authors' own Lean function (tested against real Go, not proved from fmt's source: count such statements apart). THE CARD IS WHAT COUNTS. Prove the row's statement (the work); the ties are given (YtfnpmdcbhjabmaaDoorTie.lean); close each card by the builder's one call (the guide's Derived/Test/ToyasCard.lean, 'card_holds'). Laid BY PROGRAM, IN A SANDBOX (cutbox-door.mjs). By AI agents, Wed Nov 11 2026. No macro, syntax, notation, axiom, sorry.
-/
import Derived.Test.YtfnpmdcbhjabmaaDoorRows
import GoSem.ClaimSeven
namespace Go.Proofs.YtfnpmdcbhjabmaaDoor
namespace Rows

/-- THE TIED CARD OF 'graticulelaw25.RulesRetentions'. -/
def rulesRetentionsCard : Claim7 := { stood := { row := rulesRetentionsRow, standIns := [], harness := (true, "e73a2c708d577c39ef786e2f36f75968ac104edd7e24beb05e64255d5a7e3f35"), looks := false }, kinds := [], alts := [], laidByText := true, laidKinds := [.data, .pinned], laidTests := true, laidLooks := .later }
def RulesRetentionsCardSaid : Prop := Claim7.holds Tryd.pinned (.plain (OpenSpec.ofChange rulesRetentionsSpec)) rulesRetentionsCard

/-- THE TIED CARD OF 'graticulelaw25.RulesOfNothing'. -/
def rulesOfNothingCard : Claim7 := { stood := { row := rulesOfNothingRow, standIns := [], harness := (true, "e73a2c708d577c39ef786e2f36f75968ac104edd7e24beb05e64255d5a7e3f35"), looks := false }, kinds := [], alts := [], laidByText := true, laidKinds := [.data, .pinned], laidTests := true, laidLooks := .later }
def RulesOfNothingCardSaid : Prop := Claim7.holds Tryd.pinned (.plain (OpenSpec.ofChange rulesOfNothingSpec)) rulesOfNothingCard

/-- THE SECOND FORM's CARD OF 'graticulelaw25.RulesRetentions'. -/
def rulesRetentionsUptoCard : Claim7 := { stood := { row := rulesRetentionsUptoRow, standIns := [], harness := (true, "e73a2c708d577c39ef786e2f36f75968ac104edd7e24beb05e64255d5a7e3f35"), looks := false }, kinds := [], alts := [], laidByText := true, laidKinds := [.data, .pinned], laidTests := true, laidLooks := .later }
def RulesRetentionsUptoCardSaid : Prop := Claim7.holds Tryd.pinned (.plain (OpenSpec.upto rulesRetentionsSpec)) rulesRetentionsUptoCard

/-- THE SECOND FORM's CARD OF 'graticulelaw25.RulesOfNothing'. -/
def rulesOfNothingUptoCard : Claim7 := { stood := { row := rulesOfNothingUptoRow, standIns := [], harness := (true, "e73a2c708d577c39ef786e2f36f75968ac104edd7e24beb05e64255d5a7e3f35"), looks := false }, kinds := [], alts := [], laidByText := true, laidKinds := [.data, .pinned], laidTests := true, laidLooks := .later }
def RulesOfNothingUptoCardSaid : Prop := Claim7.holds Tryd.pinned (.plain (OpenSpec.upto rulesOfNothingSpec)) rulesOfNothingUptoCard
end Rows
end Go.Proofs.YtfnpmdcbhjabmaaDoor
