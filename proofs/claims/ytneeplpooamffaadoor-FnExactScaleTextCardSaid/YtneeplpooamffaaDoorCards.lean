/-
  DERIVED. GIVEN WITH THE SEED: THE CARDS: each row of YtneeplpooamffaaDoorRows.lean that lists a variable, with what it lists TIED to the program's text (the seventh form; the later family's looks); each row that meets fmt, with fmt's text TOLD by the authors' own Lean function (tested against real Go, not proved from fmt's source: count such statements apart). THE CARD IS WHAT COUNTS. Prove the row's statement (the work); the ties are given (YtneeplpooamffaaDoorTie.lean); close each card by the builder's one call (the guide's Derived/Test/ToyasCard.lean, 'card_holds'). Laid BY PROGRAM, IN A SANDBOX (cutbox-door.mjs). By AI agents, Wed Nov 11 2026. No macro, syntax, notation, axiom, sorry.
-/
import Derived.Test.YtneeplpooamffaaDoorRows
import GoSem.ClaimSeven
namespace Go.Proofs.YtneeplpooamffaaDoor
namespace Rows

/-- THE TIED CARD OF 'laws.FnExactScaleText'. -/
def fnExactScaleTextCard : Claim7 := { stood := { row := fnExactScaleTextRow, standIns := [], harness := (true, "401c780cec6294a96230e45ceb5a52a456a6ec233f90e9cf17d2ceebfa8722be"), looks := false }, kinds := [], alts := [], laidByText := true, laidKinds := [.data, .data, .data], laidTests := true, laidLooks := .later }
def FnExactScaleTextCardSaid : Prop := Claim7.holds Tryd.pinned (.plain (OpenSpec.ofChange fnExactScaleTextSpec)) fnExactScaleTextCard

/-- THE SECOND FORM's CARD OF 'laws.FnExactScaleText'. -/
def fnExactScaleTextUptoCard : Claim7 := { stood := { row := fnExactScaleTextUptoRow, standIns := [], harness := (true, "401c780cec6294a96230e45ceb5a52a456a6ec233f90e9cf17d2ceebfa8722be"), looks := false }, kinds := [], alts := [], laidByText := true, laidKinds := [.data, .data, .data], laidTests := true, laidLooks := .later }
def FnExactScaleTextUptoCardSaid : Prop := Claim7.holds Tryd.pinned (.plain (OpenSpec.upto fnExactScaleTextSpec)) fnExactScaleTextUptoCard
end Rows
end Go.Proofs.YtneeplpooamffaaDoor
