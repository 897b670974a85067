/-
  DERIVED. GIVEN WITH THE SEED: THE CARDS: each row of YtemnodpabflkoaaGreatDoorRows.lean that lists a variable, with what it lists TIED to the program's text (the seventh form; the later family's looks); each row that meets fmt, with fmt's text TOLD by the authors' own Lean function (tested against real Go, not proved from fmt's source: count such statements apart). THE CARD IS WHAT COUNTS. Prove the row's statement (the work); the ties are given (YtemnodpabflkoaaGreatDoorTie.lean); close each card by the builder's one call (the guide's Derived/Test/ToyasCard.lean, 'card_holds'). Laid BY PROGRAM, IN A SANDBOX (cutbox-door.mjs). By AI agents, Wed Nov 11 2026. No macro, syntax, notation, axiom, sorry.
-/
import Derived.Test.YtemnodpabflkoaaGreatDoorRows
import GoSem.ClaimSeven
namespace Go.Proofs.YtemnodpabflkoaaGreatDoor
namespace Rows

/-- THE TIED CARD OF 'laws.FnExactQueueText'. -/
def fnExactQueueTextCard : Claim7 := { stood := { row := fnExactQueueTextRow, standIns := [], harness := (true, "6228b7f5b1e044a4756abc097921ec9abd07de7ed4dcbd794b9fbc63634cedaf"), looks := false }, kinds := [], alts := [], laidByText := true, laidKinds := [.data, .data, .data], laidTests := true, laidLooks := .later }
def FnExactQueueTextCardSaid : Prop := Claim7.holds Tryz.pinned (.plain (OpenSpec.ofChange fnExactQueueTextSpec)) fnExactQueueTextCard

/-- THE SECOND FORM's CARD OF 'laws.FnExactQueueText'. -/
def fnExactQueueTextUptoCard : Claim7 := { stood := { row := fnExactQueueTextUptoRow, standIns := [], harness := (true, "6228b7f5b1e044a4756abc097921ec9abd07de7ed4dcbd794b9fbc63634cedaf"), looks := false }, kinds := [], alts := [], laidByText := true, laidKinds := [.data, .data, .data], laidTests := true, laidLooks := .later }
def FnExactQueueTextUptoCardSaid : Prop := Claim7.holds Tryz.pinned (.plain (OpenSpec.upto fnExactQueueTextSpec)) fnExactQueueTextUptoCard
end Rows
end Go.Proofs.YtemnodpabflkoaaGreatDoor
