/-
  DERIVED. GIVEN WITH THE SEED: THE CARDS: each row of YtemnodpabflkoaaDoorRows.lean that lists a variable, with what it lists TIED to the program's text (the seventh form; the later family's looks); each row that meets fmt, with fmt's text TOLD by the authors' own Lean function (tested against real Go, not proved from fmt's source: count such statements apart). THE CARD IS WHAT COUNTS. Prove the row's statement (the work); the ties are given (YtemnodpabflkoaaDoorTie.lean); close each card by the builder's one call (the guide's Derived/Test/ToyasCard.lean, 'card_holds'). Laid BY PROGRAM, IN A SANDBOX (cutbox-door.mjs). By AI agents, Wed Nov 11 2026. No macro, syntax, notation, axiom, sorry.
-/
import Derived.Test.YtemnodpabflkoaaDoorRows
import GoSem.ClaimSeven
namespace Go.Proofs.YtemnodpabflkoaaDoor
namespace Rows

/-- THE TIED CARD OF 'laws.FnExactEventText'. -/
def fnExactEventTextCard : Claim7 := { stood := { row := fnExactEventTextRow, standIns := [], harness := (true, "55e81930d1fd7e9e2d2b2fbbb8aad460a48e6bedc537a312764915baae52a474"), looks := false }, kinds := [], alts := [], laidByText := true, laidKinds := [.data, .data, .data], laidTests := true, laidLooks := .later }
def FnExactEventTextCardSaid : Prop := Claim7.holds Tryd.pinned (.plain (OpenSpec.ofChange fnExactEventTextSpec)) fnExactEventTextCard

/-- THE TIED CARD OF 'laws.FnExactSameEvents'. -/
def fnExactSameEventsCard : Claim7 := { stood := { row := fnExactSameEventsRow, standIns := [], harness := (true, "55e81930d1fd7e9e2d2b2fbbb8aad460a48e6bedc537a312764915baae52a474"), looks := false }, kinds := [], alts := [], laidByText := true, laidKinds := [.data, .data, .data], laidTests := true, laidLooks := .later }
def FnExactSameEventsCardSaid : Prop := Claim7.holds Tryd.pinned (.plain (OpenSpec.ofChange fnExactSameEventsSpec)) fnExactSameEventsCard

/-- THE TIED CARD OF 'laws.FnExactJobText'. -/
def fnExactJobTextCard : Claim7 := { stood := { row := fnExactJobTextRow, standIns := [], harness := (true, "55e81930d1fd7e9e2d2b2fbbb8aad460a48e6bedc537a312764915baae52a474"), looks := false }, kinds := [], alts := [], laidByText := true, laidKinds := [.data, .data, .data], laidTests := true, laidLooks := .later }
def FnExactJobTextCardSaid : Prop := Claim7.holds Tryd.pinned (.plain (OpenSpec.ofChange fnExactJobTextSpec)) fnExactJobTextCard

/-- THE SECOND FORM's CARD OF 'laws.FnExactEventText'. -/
def fnExactEventTextUptoCard : Claim7 := { stood := { row := fnExactEventTextUptoRow, standIns := [], harness := (true, "55e81930d1fd7e9e2d2b2fbbb8aad460a48e6bedc537a312764915baae52a474"), looks := false }, kinds := [], alts := [], laidByText := true, laidKinds := [.data, .data, .data], laidTests := true, laidLooks := .later }
def FnExactEventTextUptoCardSaid : Prop := Claim7.holds Tryd.pinned (.plain (OpenSpec.upto fnExactEventTextSpec)) fnExactEventTextUptoCard

/-- THE SECOND FORM's CARD OF 'laws.FnExactSameEvents'. -/
def fnExactSameEventsUptoCard : Claim7 := { stood := { row := fnExactSameEventsUptoRow, standIns := [], harness := (true, "55e81930d1fd7e9e2d2b2fbbb8aad460a48e6bedc537a312764915baae52a474"), looks := false }, kinds := [], alts := [], laidByText := true, laidKinds := [.data, .data, .data], laidTests := true, laidLooks := .later }
def FnExactSameEventsUptoCardSaid : Prop := Claim7.holds Tryd.pinned (.plain (OpenSpec.upto fnExactSameEventsSpec)) fnExactSameEventsUptoCard

/-- THE SECOND FORM's CARD OF 'laws.FnExactJobText'. -/
def fnExactJobTextUptoCard : Claim7 := { stood := { row := fnExactJobTextUptoRow, standIns := [], harness := (true, "55e81930d1fd7e9e2d2b2fbbb8aad460a48e6bedc537a312764915baae52a474"), looks := false }, kinds := [], alts := [], laidByText := true, laidKinds := [.data, .data, .data], laidTests := true, laidLooks := .later }
def FnExactJobTextUptoCardSaid : Prop := Claim7.holds Tryd.pinned (.plain (OpenSpec.upto fnExactJobTextSpec)) fnExactJobTextUptoCard
end Rows
end Go.Proofs.YtemnodpabflkoaaDoor
