/-
  DERIVED. GIVEN WITH THE SEED: THE CARDS: each row of YtecnioodkihceaaDoorRows.lean that lists a variable, with what it lists TIED to the program's text (the seventh form; the later family's looks); each row that meets fmt, with fmt's text TOLD by the authors' own Lean function (tested against real Go, not proved from fmt's source: count such statements apart). THE CARD IS WHAT COUNTS. Prove the row's statement (the work); the ties are given (YtecnioodkihceaaDoorTie.lean); close each card by the builder's one call (the guide's Derived/Test/ToyasCard.lean, 'card_holds'). Laid BY PROGRAM, IN A SANDBOX (cutbox-door.mjs). By AI agents, Wed Nov 11 2026. No macro, syntax, notation, axiom, sorry.
-/
import Derived.Test.YtecnioodkihceaaDoorRows
import GoSem.ClaimSeven
namespace Go.Proofs.YtecnioodkihceaaDoor
namespace Rows

/-- THE TIED CARD OF 'laws.FnExactSlotsText'. -/
def fnExactSlotsTextCard : Claim7 := { stood := { row := fnExactSlotsTextRow, standIns := [], harness := (true, "7d91c661ecf42a20eff4a4737b72956f23e34ae17ccd0d5311905e9a38085ba5"), looks := false }, kinds := [], alts := [], laidByText := true, laidKinds := [.data, .data, .data], laidTests := true, laidLooks := .later }
def FnExactSlotsTextCardSaid : Prop := Claim7.holds Tryd.pinned (.plain (OpenSpec.ofChange fnExactSlotsTextSpec)) fnExactSlotsTextCard

/-- THE SECOND FORM's CARD OF 'laws.FnExactSlotsText'. -/
def fnExactSlotsTextUptoCard : Claim7 := { stood := { row := fnExactSlotsTextUptoRow, standIns := [], harness := (true, "7d91c661ecf42a20eff4a4737b72956f23e34ae17ccd0d5311905e9a38085ba5"), looks := false }, kinds := [], alts := [], laidByText := true, laidKinds := [.data, .data, .data], laidTests := true, laidLooks := .later }
def FnExactSlotsTextUptoCardSaid : Prop := Claim7.holds Tryd.pinned (.plain (OpenSpec.upto fnExactSlotsTextSpec)) fnExactSlotsTextUptoCard
end Rows
end Go.Proofs.YtecnioodkihceaaDoor
