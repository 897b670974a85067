/-
  DERIVED. GIVEN WITH THE SEED: THE CARDS: each row of YtdniejjhkkepcaaDoorRows.lean that lists a variable, with what it lists TIED to the program's text (the seventh form; the later family's looks); each row that meets fmt, with fmt's text TOLD by the authors' own Lean function (tested against real Go, not proved from fmt's source: count such statements apart). THE CARD IS WHAT COUNTS. Prove the row's statement (the work); the ties are given (YtdniejjhkkepcaaDoorTie.lean); close each card by the builder's one call (the guide's Derived/Test/ToyasCard.lean, 'card_holds'). Laid BY PROGRAM, IN A SANDBOX (cutbox-door.mjs). By AI agents, Wed Nov 11 2026. No macro, syntax, notation, axiom, sorry.
-/
import Derived.Test.YtdniejjhkkepcaaDoorRows
import GoSem.ClaimSeven
namespace Go.Proofs.YtdniejjhkkepcaaDoor
namespace Rows

/-- THE TIED CARD OF 'laws.FnPlanned'. -/
def fnPlannedCard : Claim7 := { stood := { row := fnPlannedRow, standIns := [], harness := (true, "c9396db3e81f3b6ca9b9cf9315bc678175ba60cd5f9d22537f694b87f16f5f15"), looks := false }, kinds := [], alts := [], laidByText := true, laidKinds := [.data, .data, .data], laidTests := true, laidLooks := .later }
def FnPlannedCardSaid : Prop := Claim7.holds Tryd.pinned (.plain (OpenSpec.ofChange fnPlannedSpec)) fnPlannedCard

/-- THE SECOND FORM's CARD OF 'laws.FnPlanned'. -/
def fnPlannedUptoCard : Claim7 := { stood := { row := fnPlannedUptoRow, standIns := [], harness := (true, "c9396db3e81f3b6ca9b9cf9315bc678175ba60cd5f9d22537f694b87f16f5f15"), looks := false }, kinds := [], alts := [], laidByText := true, laidKinds := [.data, .data, .data], laidTests := true, laidLooks := .later }
def FnPlannedUptoCardSaid : Prop := Claim7.holds Tryd.pinned (.plain (OpenSpec.upto fnPlannedSpec)) fnPlannedUptoCard
end Rows
end Go.Proofs.YtdniejjhkkepcaaDoor
