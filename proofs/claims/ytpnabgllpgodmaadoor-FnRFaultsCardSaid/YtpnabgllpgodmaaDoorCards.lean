/-
  DERIVED. GIVEN WITH THE SEED: THE CARDS: each row of YtpnabgllpgodmaaDoorRows.lean that lists a variable, with what it lists TIED to the program's text (the seventh form; the later family's looks); each row that meets fmt, with fmt's text TOLD by the authors' own Lean function (tested against real Go, not proved from fmt's source: count such statements apart). THE CARD IS WHAT COUNTS. Prove the row's statement (the work); the ties are given (YtpnabgllpgodmaaDoorTie.lean); close each card by the builder's one call (the guide's Derived/Test/ToyasCard.lean, 'card_holds'). Laid BY PROGRAM, IN A SANDBOX (cutbox-door.mjs). By AI agents, Wed Nov 11 2026. No macro, syntax, notation, axiom, sorry.
-/
import Derived.Test.YtpnabgllpgodmaaDoorRows
import GoSem.ClaimSeven
namespace Go.Proofs.YtpnabgllpgodmaaDoor
namespace Rows

/-- THE TIED CARD OF 'laws.FnExactRFaultText'. -/
def fnExactRFaultTextCard : Claim7 := { stood := { row := fnExactRFaultTextRow, standIns := [], harness := (true, "a3220e128fe1aca45b1acedb29cafdce05460fcc145a77e538fedc47013f4264"), looks := false }, kinds := [], alts := [], laidByText := true, laidKinds := [.data, .pinned], laidTests := true, laidLooks := .later }
def FnExactRFaultTextCardSaid : Prop := Claim7.holds Tryd.pinned (.plain (OpenSpec.ofChange fnExactRFaultTextSpec)) fnExactRFaultTextCard

/-- THE TIED CARD OF 'laws.FnRFaults'. -/
def fnRFaultsCard : Claim7 := { stood := { row := fnRFaultsRow, standIns := [], harness := (true, "a3220e128fe1aca45b1acedb29cafdce05460fcc145a77e538fedc47013f4264"), looks := false }, kinds := [], alts := [], laidByText := true, laidKinds := [.data, .pinned], laidTests := true, laidLooks := .later }
def FnRFaultsCardSaid : Prop := Claim7.holds Tryd.pinned (.plain (OpenSpec.ofChange fnRFaultsSpec)) fnRFaultsCard

/-- THE SECOND FORM's CARD OF 'laws.FnExactRFaultText'. -/
def fnExactRFaultTextUptoCard : Claim7 := { stood := { row := fnExactRFaultTextUptoRow, standIns := [], harness := (true, "a3220e128fe1aca45b1acedb29cafdce05460fcc145a77e538fedc47013f4264"), looks := false }, kinds := [], alts := [], laidByText := true, laidKinds := [.data, .pinned], laidTests := true, laidLooks := .later }
def FnExactRFaultTextUptoCardSaid : Prop := Claim7.holds Tryd.pinned (.plain (OpenSpec.upto fnExactRFaultTextSpec)) fnExactRFaultTextUptoCard

/-- THE SECOND FORM's CARD OF 'laws.FnRFaults'. -/
def fnRFaultsUptoCard : Claim7 := { stood := { row := fnRFaultsUptoRow, standIns := [], harness := (true, "a3220e128fe1aca45b1acedb29cafdce05460fcc145a77e538fedc47013f4264"), looks := false }, kinds := [], alts := [], laidByText := true, laidKinds := [.data, .pinned], laidTests := true, laidLooks := .later }
def FnRFaultsUptoCardSaid : Prop := Claim7.holds Tryd.pinned (.plain (OpenSpec.upto fnRFaultsSpec)) fnRFaultsUptoCard
end Rows
end Go.Proofs.YtpnabgllpgodmaaDoor
