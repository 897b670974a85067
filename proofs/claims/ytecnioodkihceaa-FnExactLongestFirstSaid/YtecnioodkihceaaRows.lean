/-
  No cell of these rows narrows 'for every input' (looked for: loops, veiled, ifaces, maps, wideKeys, modest, calm, conditions, laid).
  DERIVED. THE GIVEN ROWS OF THIS SEAT. 11 by the template 'for every input the law returns true; each argument reads behind the call as it read before'; 0 by the template 'total and deterministic' (their statements: YtecnioodkihceaaTotals.lean).
  GIVEN WITH THE SEED: the statements are not yours to turn. If you find one false, say at which input.
  Laid BY PROGRAM, IN A SANDBOX (cutbox-rows.mjs): the forced cells as the released guide's own fill.sh prints them over the translation f719fe66d590f296… (all of the seat's roots in one cut). By AI agents, Wed Nov 11 2026. No macro, syntax, notation, axiom, sorry.
-/
import Derived.Test.YtecnioodkihceaaChecked
import GoSem.Claim
import GoSem.ClaimJoined
import GoSem.ClaimMapViews
import Derived.JoinedTies
import Derived.KernelRfl
namespace Go.Proofs.Ytecnioodkihceaa
/- THE CELL 'sum', in the pinned program and in every row, IS THE sha256 OF THE DUMP (.gsa) THAT YtecnioodkihceaaProg.lean LOADS. Nothing in Lean hashes anything: it is a label: what it is worth is what the hold of that sum in a sandbox is worth. -/
noncomputable def Try.pinned : Pinned := { name := "ytecnioodkihceaa", sum := "f719fe66d590f29691a08b5a3fc0538b2291743c8d841b3b81b9362f38384ead", checked := Try.checked }
namespace Rows
def none {H : Type} : Left H := { results := [], args := [] }

/-- 'laws.FnExactJobsOk': WHATEVER THE INPUT: true; the input reads as it did. -/
def fnExactJobsOkSpec : ChangeSpec := { name := "fnExactJobsOk", fn := fun _ => fun
  | [d] => { results := [.lit (.bool true)], args := [d] }
  | _ => none }
def fnExactJobsOkRow : OpenClaim := { program := "ytecnioodkihceaa", sum := "f719fe66d590f29691a08b5a3fc0538b2291743c8d841b3b81b9362f38384ead", func := "loop.example/g00778/laws.FnExactJobsOk", spec := "fnExactJobsOk", unfollowed := true, recurses := true, apart := false }
def FnExactJobsOkSaid : Prop := fnExactJobsOkRow.holds Try.pinned (OpenSpec.ofChange fnExactJobsOkSpec)

/-- ITS FALSE NEIGHBOUR: 'it returns false'. Refute it at one input. -/
def fnExactJobsOkWrong : ChangeSpec := { name := "fnExactJobsOk", fn := fun _ => fun
  | [d] => { results := [.lit (.bool false)], args := [d] }
  | _ => none }
def FnExactJobsOkWrongFalsely : Prop := fnExactJobsOkRow.holds Try.pinned (OpenSpec.ofChange fnExactJobsOkWrong)

/-- 'laws.FnExactLowerBound': WHATEVER THE INPUT: true; the input reads as it did. -/
def fnExactLowerBoundSpec : ChangeSpec := { name := "fnExactLowerBound", fn := fun _ => fun
  | [d1, d2] => { results := [.lit (.bool true)], args := [d1, d2] }
  | _ => none }
def fnExactLowerBoundRow : OpenClaim := { program := "ytecnioodkihceaa", sum := "f719fe66d590f29691a08b5a3fc0538b2291743c8d841b3b81b9362f38384ead", func := "loop.example/g00778/laws.FnExactLowerBound", spec := "fnExactLowerBound", unfollowed := true, recurses := true, apart := false }
def FnExactLowerBoundSaid : Prop := fnExactLowerBoundRow.holds Try.pinned (OpenSpec.ofChange fnExactLowerBoundSpec)

/-- ITS FALSE NEIGHBOUR: 'it returns false'. Refute it at one input. -/
def fnExactLowerBoundWrong : ChangeSpec := { name := "fnExactLowerBound", fn := fun _ => fun
  | [d1, d2] => { results := [.lit (.bool false)], args := [d1, d2] }
  | _ => none }
def FnExactLowerBoundWrongFalsely : Prop := fnExactLowerBoundRow.holds Try.pinned (OpenSpec.ofChange fnExactLowerBoundWrong)

/-- 'laws.FnExactSpanOf': WHATEVER THE INPUT: true; the input reads as it did. -/
def fnExactSpanOfSpec : ChangeSpec := { name := "fnExactSpanOf", fn := fun _ => fun
  | [d] => { results := [.lit (.bool true)], args := [d] }
  | _ => none }
def fnExactSpanOfRow : OpenClaim := { program := "ytecnioodkihceaa", sum := "f719fe66d590f29691a08b5a3fc0538b2291743c8d841b3b81b9362f38384ead", func := "loop.example/g00778/laws.FnExactSpanOf", spec := "fnExactSpanOf", unfollowed := true, recurses := true, apart := false }
def FnExactSpanOfSaid : Prop := fnExactSpanOfRow.holds Try.pinned (OpenSpec.ofChange fnExactSpanOfSpec)

/-- ITS FALSE NEIGHBOUR: 'it returns false'. Refute it at one input. -/
def fnExactSpanOfWrong : ChangeSpec := { name := "fnExactSpanOf", fn := fun _ => fun
  | [d] => { results := [.lit (.bool false)], args := [d] }
  | _ => none }
def FnExactSpanOfWrongFalsely : Prop := fnExactSpanOfRow.holds Try.pinned (OpenSpec.ofChange fnExactSpanOfWrong)

/-- 'laws.FnExactJobsAt': WHATEVER THE INPUT: true; the input reads as it did. -/
def fnExactJobsAtSpec : ChangeSpec := { name := "fnExactJobsAt", fn := fun _ => fun
  | [d1, d2] => { results := [.lit (.bool true)], args := [d1, d2] }
  | _ => none }
def fnExactJobsAtRow : OpenClaim := { program := "ytecnioodkihceaa", sum := "f719fe66d590f29691a08b5a3fc0538b2291743c8d841b3b81b9362f38384ead", func := "loop.example/g00778/laws.FnExactJobsAt", spec := "fnExactJobsAt", apart := false }
def FnExactJobsAtSaid : Prop := fnExactJobsAtRow.holds Try.pinned (OpenSpec.ofChange fnExactJobsAtSpec)

/-- ITS FALSE NEIGHBOUR: 'it returns false'. Refute it at one input. -/
def fnExactJobsAtWrong : ChangeSpec := { name := "fnExactJobsAt", fn := fun _ => fun
  | [d1, d2] => { results := [.lit (.bool false)], args := [d1, d2] }
  | _ => none }
def FnExactJobsAtWrongFalsely : Prop := fnExactJobsAtRow.holds Try.pinned (OpenSpec.ofChange fnExactJobsAtWrong)

/-- 'laws.FnExactBestSpan': WHATEVER THE INPUT: true; the input reads as it did. -/
def fnExactBestSpanSpec : ChangeSpec := { name := "fnExactBestSpan", fn := fun _ => fun
  | [d1, d2] => { results := [.lit (.bool true)], args := [d1, d2] }
  | _ => none }
def fnExactBestSpanRow : OpenClaim := { program := "ytecnioodkihceaa", sum := "f719fe66d590f29691a08b5a3fc0538b2291743c8d841b3b81b9362f38384ead", func := "loop.example/g00778/laws.FnExactBestSpan", spec := "fnExactBestSpan", unfollowed := true, recurses := true, apart := false }
def FnExactBestSpanSaid : Prop := fnExactBestSpanRow.holds Try.pinned (OpenSpec.ofChange fnExactBestSpanSpec)

/-- ITS FALSE NEIGHBOUR: 'it returns false'. Refute it at one input. -/
def fnExactBestSpanWrong : ChangeSpec := { name := "fnExactBestSpan", fn := fun _ => fun
  | [d1, d2] => { results := [.lit (.bool false)], args := [d1, d2] }
  | _ => none }
def FnExactBestSpanWrongFalsely : Prop := fnExactBestSpanRow.holds Try.pinned (OpenSpec.ofChange fnExactBestSpanWrong)

/-- 'laws.FnExactLoadsOf': WHATEVER THE INPUT: true; the input reads as it did. -/
def fnExactLoadsOfSpec : ChangeSpec := { name := "fnExactLoadsOf", fn := fun _ => fun
  | [d1, d2] => { results := [.lit (.bool true)], args := [d1, d2] }
  | _ => none }
def fnExactLoadsOfRow : OpenClaim := { program := "ytecnioodkihceaa", sum := "f719fe66d590f29691a08b5a3fc0538b2291743c8d841b3b81b9362f38384ead", func := "loop.example/g00778/laws.FnExactLoadsOf", spec := "fnExactLoadsOf", apart := false }
def FnExactLoadsOfSaid : Prop := fnExactLoadsOfRow.holds Try.pinned (OpenSpec.ofChange fnExactLoadsOfSpec)

/-- ITS FALSE NEIGHBOUR: 'it returns false'. Refute it at one input. -/
def fnExactLoadsOfWrong : ChangeSpec := { name := "fnExactLoadsOf", fn := fun _ => fun
  | [d1, d2] => { results := [.lit (.bool false)], args := [d1, d2] }
  | _ => none }
def FnExactLoadsOfWrongFalsely : Prop := fnExactLoadsOfRow.holds Try.pinned (OpenSpec.ofChange fnExactLoadsOfWrong)

/-- 'laws.FnExactPlanOk': WHATEVER THE INPUT: true; the input reads as it did. -/
def fnExactPlanOkSpec : ChangeSpec := { name := "fnExactPlanOk", fn := fun _ => fun
  | [d1, d2, d3] => { results := [.lit (.bool true)], args := [d1, d2, d3] }
  | _ => none }
def fnExactPlanOkRow : OpenClaim := { program := "ytecnioodkihceaa", sum := "f719fe66d590f29691a08b5a3fc0538b2291743c8d841b3b81b9362f38384ead", func := "loop.example/g00778/laws.FnExactPlanOk", spec := "fnExactPlanOk", unfollowed := true, recurses := true, apart := false }
def FnExactPlanOkSaid : Prop := fnExactPlanOkRow.holds Try.pinned (OpenSpec.ofChange fnExactPlanOkSpec)

/-- ITS FALSE NEIGHBOUR: 'it returns false'. Refute it at one input. -/
def fnExactPlanOkWrong : ChangeSpec := { name := "fnExactPlanOk", fn := fun _ => fun
  | [d1, d2, d3] => { results := [.lit (.bool false)], args := [d1, d2, d3] }
  | _ => none }
def FnExactPlanOkWrongFalsely : Prop := fnExactPlanOkRow.holds Try.pinned (OpenSpec.ofChange fnExactPlanOkWrong)

/-- 'laws.FnExactIdleOf': WHATEVER THE INPUT: true; the input reads as it did. -/
def fnExactIdleOfSpec : ChangeSpec := { name := "fnExactIdleOf", fn := fun _ => fun
  | [d1, d2] => { results := [.lit (.bool true)], args := [d1, d2] }
  | _ => none }
def fnExactIdleOfRow : OpenClaim := { program := "ytecnioodkihceaa", sum := "f719fe66d590f29691a08b5a3fc0538b2291743c8d841b3b81b9362f38384ead", func := "loop.example/g00778/laws.FnExactIdleOf", spec := "fnExactIdleOf", unfollowed := true, recurses := true, apart := false }
def FnExactIdleOfSaid : Prop := fnExactIdleOfRow.holds Try.pinned (OpenSpec.ofChange fnExactIdleOfSpec)

/-- ITS FALSE NEIGHBOUR: 'it returns false'. Refute it at one input. -/
def fnExactIdleOfWrong : ChangeSpec := { name := "fnExactIdleOf", fn := fun _ => fun
  | [d1, d2] => { results := [.lit (.bool false)], args := [d1, d2] }
  | _ => none }
def FnExactIdleOfWrongFalsely : Prop := fnExactIdleOfRow.holds Try.pinned (OpenSpec.ofChange fnExactIdleOfWrong)

/-- 'laws.FnLoads': WHATEVER THE INPUT: true; the input reads as it did. -/
def fnLoadsSpec : ChangeSpec := { name := "fnLoads", fn := fun _ => fun
  | [d] => { results := [.lit (.bool true)], args := [d] }
  | _ => none }
def fnLoadsRow : OpenClaim := { program := "ytecnioodkihceaa", sum := "f719fe66d590f29691a08b5a3fc0538b2291743c8d841b3b81b9362f38384ead", func := "loop.example/g00778/laws.FnLoads", spec := "fnLoads", unfollowed := true, recurses := true, apart := false }
def FnLoadsSaid : Prop := fnLoadsRow.holds Try.pinned (OpenSpec.ofChange fnLoadsSpec)

/-- ITS FALSE NEIGHBOUR: 'it returns false'. Refute it at one input. -/
def fnLoadsWrong : ChangeSpec := { name := "fnLoads", fn := fun _ => fun
  | [d] => { results := [.lit (.bool false)], args := [d] }
  | _ => none }
def FnLoadsWrongFalsely : Prop := fnLoadsRow.holds Try.pinned (OpenSpec.ofChange fnLoadsWrong)

/-- 'laws.FnExactListPlan': WHATEVER THE INPUT: true; the input reads as it did. -/
def fnExactListPlanSpec : ChangeSpec := { name := "fnExactListPlan", fn := fun _ => fun
  | [d1, d2] => { results := [.lit (.bool true)], args := [d1, d2] }
  | _ => none }
def fnExactListPlanRow : OpenClaim := { program := "ytecnioodkihceaa", sum := "f719fe66d590f29691a08b5a3fc0538b2291743c8d841b3b81b9362f38384ead", func := "loop.example/g00778/laws.FnExactListPlan", spec := "fnExactListPlan", unfollowed := true, recurses := true, apart := false }
def FnExactListPlanSaid : Prop := fnExactListPlanRow.holds Try.pinned (OpenSpec.ofChange fnExactListPlanSpec)

/-- ITS FALSE NEIGHBOUR: 'it returns false'. Refute it at one input. -/
def fnExactListPlanWrong : ChangeSpec := { name := "fnExactListPlan", fn := fun _ => fun
  | [d1, d2] => { results := [.lit (.bool false)], args := [d1, d2] }
  | _ => none }
def FnExactListPlanWrongFalsely : Prop := fnExactListPlanRow.holds Try.pinned (OpenSpec.ofChange fnExactListPlanWrong)

/-- 'laws.FnExactLongestFirst': WHATEVER THE INPUT: true; the input reads as it did. -/
def fnExactLongestFirstSpec : ChangeSpec := { name := "fnExactLongestFirst", fn := fun _ => fun
  | [d1, d2] => { results := [.lit (.bool true)], args := [d1, d2] }
  | _ => none }
def fnExactLongestFirstRow : OpenClaim := { program := "ytecnioodkihceaa", sum := "f719fe66d590f29691a08b5a3fc0538b2291743c8d841b3b81b9362f38384ead", func := "loop.example/g00778/laws.FnExactLongestFirst", spec := "fnExactLongestFirst", unfollowed := true, recurses := true, apart := false }
def FnExactLongestFirstSaid : Prop := fnExactLongestFirstRow.holds Try.pinned (OpenSpec.ofChange fnExactLongestFirstSpec)

/-- ITS FALSE NEIGHBOUR: 'it returns false'. Refute it at one input. -/
def fnExactLongestFirstWrong : ChangeSpec := { name := "fnExactLongestFirst", fn := fun _ => fun
  | [d1, d2] => { results := [.lit (.bool false)], args := [d1, d2] }
  | _ => none }
def FnExactLongestFirstWrongFalsely : Prop := fnExactLongestFirstRow.holds Try.pinned (OpenSpec.ofChange fnExactLongestFirstWrong)

/- THE SECOND FORM. 'bulk': how many values and letters a reading holds, each counted each time it is reached (what is shared counts as often as it is met; a slice's spare places count too). A statement '..UptoSaid' is the law's where the arguments, and the package variables that the reading takes, are together of bulk at most 1048576: NARROWER than '..Said'. Prove '..Said' where nothing that the law and all that it calls make is longer than what came in: it says more and counts as full. Else prove '..UptoSaid'. A law counts once. -/
mutual
def uptoBulk {H : Type} : DataW H → Nat
  | .lit (.string bytes) => bytes.length + 1
  | .lit _ => 1
  | .nil => 1
  | .ptr d => uptoBulk d + 1
  | .slice elems spare => uptoBulkAll elems + uptoBulkAll spare + 1
  | .agg parts => uptoBulkAll parts + 1
  | .iface _ d => uptoBulk d + 1
  | .map entries => uptoBulkEntries entries + 1
  | .held _ => 1
def uptoBulkAll {H : Type} : List (DataW H) → Nat
  | [] => 0
  | d :: r => uptoBulk d + uptoBulkAll r
def uptoBulkEntries {H : Type} : List (Lit × DataW H) → Nat
  | [] => 0
  | x :: r => uptoBulkEntry x + uptoBulkEntries r
def uptoBulkEntry {H : Type} : Lit × DataW H → Nat
  | (.string bytes, d) => bytes.length + uptoBulk d + 1
  | (_, d) => uptoBulk d + 1
 end
def uptoSmall : (H : Type) → List (DataW H) → Bool := fun _ ds => decide (uptoBulkAll ds ≤ 1048576)
def OpenSpec.upto (s : _root_.Go.ChangeSpec) : _root_.Go.OpenSpec := { _root_.Go.OpenSpec.ofChange s with cond := some uptoSmall }

/-- 'laws.FnExactJobsOk', WHERE WHAT IT READS IS OF BULK AT MOST 1048576: true; the input reads as it did. -/
def fnExactJobsOkUptoRow : OpenClaim := { program := "ytecnioodkihceaa", sum := "f719fe66d590f29691a08b5a3fc0538b2291743c8d841b3b81b9362f38384ead", func := "loop.example/g00778/laws.FnExactJobsOk", spec := "fnExactJobsOk", unfollowed := true, recurses := true, apart := false, narrowed := true }
def FnExactJobsOkUptoSaid : Prop := fnExactJobsOkUptoRow.holds Try.pinned (OpenSpec.upto fnExactJobsOkSpec)

/-- 'laws.FnExactLowerBound', WHERE WHAT IT READS IS OF BULK AT MOST 1048576: true; the input reads as it did. -/
def fnExactLowerBoundUptoRow : OpenClaim := { program := "ytecnioodkihceaa", sum := "f719fe66d590f29691a08b5a3fc0538b2291743c8d841b3b81b9362f38384ead", func := "loop.example/g00778/laws.FnExactLowerBound", spec := "fnExactLowerBound", unfollowed := true, recurses := true, apart := false, narrowed := true }
def FnExactLowerBoundUptoSaid : Prop := fnExactLowerBoundUptoRow.holds Try.pinned (OpenSpec.upto fnExactLowerBoundSpec)

/-- 'laws.FnExactSpanOf', WHERE WHAT IT READS IS OF BULK AT MOST 1048576: true; the input reads as it did. -/
def fnExactSpanOfUptoRow : OpenClaim := { program := "ytecnioodkihceaa", sum := "f719fe66d590f29691a08b5a3fc0538b2291743c8d841b3b81b9362f38384ead", func := "loop.example/g00778/laws.FnExactSpanOf", spec := "fnExactSpanOf", unfollowed := true, recurses := true, apart := false, narrowed := true }
def FnExactSpanOfUptoSaid : Prop := fnExactSpanOfUptoRow.holds Try.pinned (OpenSpec.upto fnExactSpanOfSpec)

/-- 'laws.FnExactJobsAt', WHERE WHAT IT READS IS OF BULK AT MOST 1048576: true; the input reads as it did. -/
def fnExactJobsAtUptoRow : OpenClaim := { program := "ytecnioodkihceaa", sum := "f719fe66d590f29691a08b5a3fc0538b2291743c8d841b3b81b9362f38384ead", func := "loop.example/g00778/laws.FnExactJobsAt", spec := "fnExactJobsAt", apart := false, narrowed := true }
def FnExactJobsAtUptoSaid : Prop := fnExactJobsAtUptoRow.holds Try.pinned (OpenSpec.upto fnExactJobsAtSpec)

/-- 'laws.FnExactBestSpan', WHERE WHAT IT READS IS OF BULK AT MOST 1048576: true; the input reads as it did. -/
def fnExactBestSpanUptoRow : OpenClaim := { program := "ytecnioodkihceaa", sum := "f719fe66d590f29691a08b5a3fc0538b2291743c8d841b3b81b9362f38384ead", func := "loop.example/g00778/laws.FnExactBestSpan", spec := "fnExactBestSpan", unfollowed := true, recurses := true, apart := false, narrowed := true }
def FnExactBestSpanUptoSaid : Prop := fnExactBestSpanUptoRow.holds Try.pinned (OpenSpec.upto fnExactBestSpanSpec)

/-- 'laws.FnExactLoadsOf', WHERE WHAT IT READS IS OF BULK AT MOST 1048576: true; the input reads as it did. -/
def fnExactLoadsOfUptoRow : OpenClaim := { program := "ytecnioodkihceaa", sum := "f719fe66d590f29691a08b5a3fc0538b2291743c8d841b3b81b9362f38384ead", func := "loop.example/g00778/laws.FnExactLoadsOf", spec := "fnExactLoadsOf", apart := false, narrowed := true }
def FnExactLoadsOfUptoSaid : Prop := fnExactLoadsOfUptoRow.holds Try.pinned (OpenSpec.upto fnExactLoadsOfSpec)

/-- 'laws.FnExactPlanOk', WHERE WHAT IT READS IS OF BULK AT MOST 1048576: true; the input reads as it did. -/
def fnExactPlanOkUptoRow : OpenClaim := { program := "ytecnioodkihceaa", sum := "f719fe66d590f29691a08b5a3fc0538b2291743c8d841b3b81b9362f38384ead", func := "loop.example/g00778/laws.FnExactPlanOk", spec := "fnExactPlanOk", unfollowed := true, recurses := true, apart := false, narrowed := true }
def FnExactPlanOkUptoSaid : Prop := fnExactPlanOkUptoRow.holds Try.pinned (OpenSpec.upto fnExactPlanOkSpec)

/-- 'laws.FnExactIdleOf', WHERE WHAT IT READS IS OF BULK AT MOST 1048576: true; the input reads as it did. -/
def fnExactIdleOfUptoRow : OpenClaim := { program := "ytecnioodkihceaa", sum := "f719fe66d590f29691a08b5a3fc0538b2291743c8d841b3b81b9362f38384ead", func := "loop.example/g00778/laws.FnExactIdleOf", spec := "fnExactIdleOf", unfollowed := true, recurses := true, apart := false, narrowed := true }
def FnExactIdleOfUptoSaid : Prop := fnExactIdleOfUptoRow.holds Try.pinned (OpenSpec.upto fnExactIdleOfSpec)

/-- 'laws.FnLoads', WHERE WHAT IT READS IS OF BULK AT MOST 1048576: true; the input reads as it did. -/
def fnLoadsUptoRow : OpenClaim := { program := "ytecnioodkihceaa", sum := "f719fe66d590f29691a08b5a3fc0538b2291743c8d841b3b81b9362f38384ead", func := "loop.example/g00778/laws.FnLoads", spec := "fnLoads", unfollowed := true, recurses := true, apart := false, narrowed := true }
def FnLoadsUptoSaid : Prop := fnLoadsUptoRow.holds Try.pinned (OpenSpec.upto fnLoadsSpec)

/-- 'laws.FnExactListPlan', WHERE WHAT IT READS IS OF BULK AT MOST 1048576: true; the input reads as it did. -/
def fnExactListPlanUptoRow : OpenClaim := { program := "ytecnioodkihceaa", sum := "f719fe66d590f29691a08b5a3fc0538b2291743c8d841b3b81b9362f38384ead", func := "loop.example/g00778/laws.FnExactListPlan", spec := "fnExactListPlan", unfollowed := true, recurses := true, apart := false, narrowed := true }
def FnExactListPlanUptoSaid : Prop := fnExactListPlanUptoRow.holds Try.pinned (OpenSpec.upto fnExactListPlanSpec)

/-- 'laws.FnExactLongestFirst', WHERE WHAT IT READS IS OF BULK AT MOST 1048576: true; the input reads as it did. -/
def fnExactLongestFirstUptoRow : OpenClaim := { program := "ytecnioodkihceaa", sum := "f719fe66d590f29691a08b5a3fc0538b2291743c8d841b3b81b9362f38384ead", func := "loop.example/g00778/laws.FnExactLongestFirst", spec := "fnExactLongestFirst", unfollowed := true, recurses := true, apart := false, narrowed := true }
def FnExactLongestFirstUptoSaid : Prop := fnExactLongestFirstUptoRow.holds Try.pinned (OpenSpec.upto fnExactLongestFirstSpec)

end Rows
end Go.Proofs.Ytecnioodkihceaa
