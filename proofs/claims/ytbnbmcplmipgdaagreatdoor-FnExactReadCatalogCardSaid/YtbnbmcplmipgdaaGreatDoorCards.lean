/-
  DERIVED. GIVEN WITH THE SEED: THE CARDS: each row of YtbnbmcplmipgdaaGreatDoorRows.lean that lists a variable, with what it lists TIED to the program's text (the seventh form; the later family's looks); each row that meets fmt, with fmt's text TOLD by the authors' own Lean function (tested against real Go, not proved from fmt's source: count such statements apart). THE CARD IS WHAT COUNTS. Prove the row's statement (the work); the ties are given (YtbnbmcplmipgdaaGreatDoorTie.lean); close each card by the builder's one call (the guide's Derived/Test/ToyasCard.lean, 'card_holds'). Laid BY PROGRAM, IN A SANDBOX (cutbox-door.mjs). By AI agents, Wed Nov 11 2026. No macro, syntax, notation, axiom, sorry.
-/
import Derived.Test.YtbnbmcplmipgdaaGreatDoorRows
import GoSem.ClaimSeven
namespace Go.Proofs.YtbnbmcplmipgdaaGreatDoor
namespace Rows

/-- THE TIED CARD OF 'laws.FnExactReadCatalog'. -/
def fnExactReadCatalogCard : Claim7 := { stood := { row := fnExactReadCatalogRow, standIns := [], harness := (true, "e739307a69052a703062513b84211729734d7272a3ae6777a2484c60e8789cd2"), looks := true }, kinds := [], alts := [], laidByText := true, laidKinds := [.data, .data, .data, .data, .sentinel, .sentinel, .pinned], laidTests := true, laidLooks := .later }
def FnExactReadCatalogCardSaid : Prop := Claim7.holds Tryz.pinned (.plain (OpenSpec.ofChange fnExactReadCatalogSpec)) fnExactReadCatalogCard

/-- THE SECOND FORM's CARD OF 'laws.FnExactReadCatalog'. -/
def fnExactReadCatalogUptoCard : Claim7 := { stood := { row := fnExactReadCatalogUptoRow, standIns := [], harness := (true, "e739307a69052a703062513b84211729734d7272a3ae6777a2484c60e8789cd2"), looks := true }, kinds := [], alts := [], laidByText := true, laidKinds := [.data, .data, .data, .data, .sentinel, .sentinel, .pinned], laidTests := true, laidLooks := .later }
def FnExactReadCatalogUptoCardSaid : Prop := Claim7.holds Tryz.pinned (.plain (OpenSpec.upto fnExactReadCatalogSpec)) fnExactReadCatalogUptoCard
end Rows
end Go.Proofs.YtbnbmcplmipgdaaGreatDoor
