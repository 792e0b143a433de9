/-
  DERIVED. GIVEN WITH THE SEED: THE CARDS: each row of YtdmclbbhhcpjfaaDoorRows.lean that lists a variable, with what it lists TIED to the program's text (the seventh form; the later family's looks); each row that meets fmt, with fmt's text TOLD by the authors' own Lean function (tested against real Go, not proved from fmt's source: count such statements apart). THE CARD IS WHAT COUNTS. Prove the row's statement (the work); the ties are given (YtdmclbbhhcpjfaaDoorTie.lean); close each card by the builder's one call (the guide's Derived/Test/ToyasCard.lean, 'card_holds'). Laid BY PROGRAM, IN A SANDBOX (cutbox-door.mjs). By AI agents, Wed Nov 11 2026. No macro, syntax, notation, axiom, sorry.
-/
import Derived.Test.YtdmclbbhhcpjfaaDoorRows
import GoSem.ClaimSeven
namespace Go.Proofs.YtdmclbbhhcpjfaaDoor
namespace Rows

/-- THE TIED CARD OF 'laws.FnExactVaultText'. -/
def fnExactVaultTextCard : Claim7 := { stood := { row := fnExactVaultTextRow, standIns := [], harness := (true, "2ff62e8144e2303ba6bca380692348d58bfe67a289310759c12369603ad782e6"), looks := false }, kinds := [], alts := [], laidByText := true, laidKinds := [.data, .data, .data], laidTests := true, laidLooks := .later }
def FnExactVaultTextCardSaid : Prop := Claim7.holds Tryd.pinned (.plain (OpenSpec.ofChange fnExactVaultTextSpec)) fnExactVaultTextCard

/-- THE SECOND FORM's CARD OF 'laws.FnExactVaultText'. -/
def fnExactVaultTextUptoCard : Claim7 := { stood := { row := fnExactVaultTextUptoRow, standIns := [], harness := (true, "2ff62e8144e2303ba6bca380692348d58bfe67a289310759c12369603ad782e6"), looks := false }, kinds := [], alts := [], laidByText := true, laidKinds := [.data, .data, .data], laidTests := true, laidLooks := .later }
def FnExactVaultTextUptoCardSaid : Prop := Claim7.holds Tryd.pinned (.plain (OpenSpec.upto fnExactVaultTextSpec)) fnExactVaultTextUptoCard
end Rows
end Go.Proofs.YtdmclbbhhcpjfaaDoor
