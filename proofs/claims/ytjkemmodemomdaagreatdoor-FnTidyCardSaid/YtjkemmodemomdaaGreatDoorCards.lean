/-
  DERIVED. GIVEN WITH THE SEED: THE CARDS: each row of YtjkemmodemomdaaGreatDoorRows.lean that lists a variable, with what it lists TIED to the program's text (the seventh form; the later family's looks); each row that meets fmt, with fmt's text TOLD by the authors' own Lean function (tested against real Go, not proved from fmt's source: count such statements apart). THE CARD IS WHAT COUNTS. Prove the row's statement (the work); the ties are given (YtjkemmodemomdaaGreatDoorTie.lean); close each card by the builder's one call (the guide's Derived/Test/ToyasCard.lean, 'card_holds'). Laid BY PROGRAM, IN A SANDBOX (cutbox-door.mjs). By AI agents, Wed Nov 11 2026. No macro, syntax, notation, axiom, sorry.
-/
import Derived.Test.YtjkemmodemomdaaGreatDoorRows
import GoSem.ClaimSeven
namespace Go.Proofs.YtjkemmodemomdaaGreatDoor
namespace Rows

/-- THE TIED CARD OF 'laws.FnTidy'. -/
def fnTidyCard : Claim7 := { stood := { row := fnTidyRow, standIns := [], harness := (true, "2c2c9b15e9af128bb70447edff694393f83379be21d3ccf700ba55242b2368a7"), looks := true }, kinds := [], alts := [], laidByText := true, laidKinds := [.data, .data, .data, .data, .sentinel, .sentinel, .pinned], laidTests := true, laidLooks := .later }
def FnTidyCardSaid : Prop := Claim7.holds Tryz.pinned (.plain (OpenSpec.ofChange fnTidySpec)) fnTidyCard

/-- THE SECOND FORM's CARD OF 'laws.FnTidy'. -/
def fnTidyUptoCard : Claim7 := { stood := { row := fnTidyUptoRow, standIns := [], harness := (true, "2c2c9b15e9af128bb70447edff694393f83379be21d3ccf700ba55242b2368a7"), looks := true }, kinds := [], alts := [], laidByText := true, laidKinds := [.data, .data, .data, .data, .sentinel, .sentinel, .pinned], laidTests := true, laidLooks := .later }
def FnTidyUptoCardSaid : Prop := Claim7.holds Tryz.pinned (.plain (OpenSpec.upto fnTidySpec)) fnTidyUptoCard
end Rows
end Go.Proofs.YtjkemmodemomdaaGreatDoor
