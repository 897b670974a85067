/-
  No cell of these rows narrows 'for every input' (looked for: loops, veiled, ifaces, maps, wideKeys, modest, calm, conditions, laid).
  DERIVED. THE GIVEN ROWS OF THIS SEAT. 11 by the template 'for every input the law returns true; each argument reads behind the call as it read before'; 0 by the template 'total and deterministic' (their statements: YtljboinndpnefaaTotals.lean).
  GIVEN WITH THE SEED: the statements are not yours to turn. If you find one false, say at which input.
  Laid BY PROGRAM, IN A SANDBOX (cutbox-rows.mjs): the forced cells as the released guide's own fill.sh prints them over the translation 085aa48966372a8f… (all of the seat's roots in one cut). By AI agents, Wed Nov 11 2026. No macro, syntax, notation, axiom, sorry.
-/
import Derived.Test.YtljboinndpnefaaChecked
import GoSem.Claim
import GoSem.ClaimJoined
import GoSem.ClaimMapViews
import Derived.JoinedTies
import Derived.KernelRfl
namespace Go.Proofs.Ytljboinndpnefaa
/- THE CELL 'sum', in the pinned program and in every row, IS THE sha256 OF THE DUMP (.gsa) THAT YtljboinndpnefaaProg.lean LOADS. Nothing in Lean hashes anything: it is a label: what it is worth is what the hold of that sum in a sandbox is worth. -/
noncomputable def Try.pinned : Pinned := { name := "ytljboinndpnefaa", sum := "085aa48966372a8f63a88da7e6be510eb7e5423722607fe0a93391f413c207dd", checked := Try.checked }
namespace Rows
def none {H : Type} : Left H := { results := [], args := [] }

/-- 'laws.FnExactTaskOk': WHATEVER THE INPUT: true; the input reads as it did. -/
def fnExactTaskOkSpec : ChangeSpec := { name := "fnExactTaskOk", fn := fun _ => fun
  | [d] => { results := [.lit (.bool true)], args := [d] }
  | _ => none }
def fnExactTaskOkRow : OpenClaim := { program := "ytljboinndpnefaa", sum := "085aa48966372a8f63a88da7e6be510eb7e5423722607fe0a93391f413c207dd", func := "loop.example/g00778/laws.FnExactTaskOk", spec := "fnExactTaskOk", unfollowed := true, recurses := true, apart := false }
def FnExactTaskOkSaid : Prop := fnExactTaskOkRow.holds Try.pinned (OpenSpec.ofChange fnExactTaskOkSpec)

/-- ITS FALSE NEIGHBOUR: 'it returns false'. Refute it at one input. -/
def fnExactTaskOkWrong : ChangeSpec := { name := "fnExactTaskOk", fn := fun _ => fun
  | [d] => { results := [.lit (.bool false)], args := [d] }
  | _ => none }
def FnExactTaskOkWrongFalsely : Prop := fnExactTaskOkRow.holds Try.pinned (OpenSpec.ofChange fnExactTaskOkWrong)

/-- 'laws.FnExactSchedOk': WHATEVER THE INPUT: true; the input reads as it did. -/
def fnExactSchedOkSpec : ChangeSpec := { name := "fnExactSchedOk", fn := fun _ => fun
  | [d] => { results := [.lit (.bool true)], args := [d] }
  | _ => none }
def fnExactSchedOkRow : OpenClaim := { program := "ytljboinndpnefaa", sum := "085aa48966372a8f63a88da7e6be510eb7e5423722607fe0a93391f413c207dd", func := "loop.example/g00778/laws.FnExactSchedOk", spec := "fnExactSchedOk", unfollowed := true, recurses := true, apart := false }
def FnExactSchedOkSaid : Prop := fnExactSchedOkRow.holds Try.pinned (OpenSpec.ofChange fnExactSchedOkSpec)

/-- ITS FALSE NEIGHBOUR: 'it returns false'. Refute it at one input. -/
def fnExactSchedOkWrong : ChangeSpec := { name := "fnExactSchedOk", fn := fun _ => fun
  | [d] => { results := [.lit (.bool false)], args := [d] }
  | _ => none }
def FnExactSchedOkWrongFalsely : Prop := fnExactSchedOkRow.holds Try.pinned (OpenSpec.ofChange fnExactSchedOkWrong)

/-- 'laws.FnExactNewSched': WHATEVER THE INPUT: true; the input reads as it did. -/
def fnExactNewSchedSpec : ChangeSpec := { name := "fnExactNewSched", fn := fun _ => fun
  | [d1, d2] => { results := [.lit (.bool true)], args := [d1, d2] }
  | _ => none }
def fnExactNewSchedRow : OpenClaim := { program := "ytljboinndpnefaa", sum := "085aa48966372a8f63a88da7e6be510eb7e5423722607fe0a93391f413c207dd", func := "loop.example/g00778/laws.FnExactNewSched", spec := "fnExactNewSched", unfollowed := true, recurses := true, apart := false }
def FnExactNewSchedSaid : Prop := fnExactNewSchedRow.holds Try.pinned (OpenSpec.ofChange fnExactNewSchedSpec)

/-- ITS FALSE NEIGHBOUR: 'it returns false'. Refute it at one input. -/
def fnExactNewSchedWrong : ChangeSpec := { name := "fnExactNewSched", fn := fun _ => fun
  | [d1, d2] => { results := [.lit (.bool false)], args := [d1, d2] }
  | _ => none }
def FnExactNewSchedWrongFalsely : Prop := fnExactNewSchedRow.holds Try.pinned (OpenSpec.ofChange fnExactNewSchedWrong)

/-- 'laws.FnExactBlockAt': WHATEVER THE INPUT: true; the input reads as it did. -/
def fnExactBlockAtSpec : ChangeSpec := { name := "fnExactBlockAt", fn := fun _ => fun
  | [d1, d2] => { results := [.lit (.bool true)], args := [d1, d2] }
  | _ => none }
def fnExactBlockAtRow : OpenClaim := { program := "ytljboinndpnefaa", sum := "085aa48966372a8f63a88da7e6be510eb7e5423722607fe0a93391f413c207dd", func := "loop.example/g00778/laws.FnExactBlockAt", spec := "fnExactBlockAt", unfollowed := true, recurses := true, apart := false }
def FnExactBlockAtSaid : Prop := fnExactBlockAtRow.holds Try.pinned (OpenSpec.ofChange fnExactBlockAtSpec)

/-- ITS FALSE NEIGHBOUR: 'it returns false'. Refute it at one input. -/
def fnExactBlockAtWrong : ChangeSpec := { name := "fnExactBlockAt", fn := fun _ => fun
  | [d1, d2] => { results := [.lit (.bool false)], args := [d1, d2] }
  | _ => none }
def FnExactBlockAtWrongFalsely : Prop := fnExactBlockAtRow.holds Try.pinned (OpenSpec.ofChange fnExactBlockAtWrong)

/-- 'laws.FnExactRemainOf': WHATEVER THE INPUT: true; the input reads as it did. -/
def fnExactRemainOfSpec : ChangeSpec := { name := "fnExactRemainOf", fn := fun _ => fun
  | [d1, d2] => { results := [.lit (.bool true)], args := [d1, d2] }
  | _ => none }
def fnExactRemainOfRow : OpenClaim := { program := "ytljboinndpnefaa", sum := "085aa48966372a8f63a88da7e6be510eb7e5423722607fe0a93391f413c207dd", func := "loop.example/g00778/laws.FnExactRemainOf", spec := "fnExactRemainOf", unfollowed := true, recurses := true, apart := false }
def FnExactRemainOfSaid : Prop := fnExactRemainOfRow.holds Try.pinned (OpenSpec.ofChange fnExactRemainOfSpec)

/-- ITS FALSE NEIGHBOUR: 'it returns false'. Refute it at one input. -/
def fnExactRemainOfWrong : ChangeSpec := { name := "fnExactRemainOf", fn := fun _ => fun
  | [d1, d2] => { results := [.lit (.bool false)], args := [d1, d2] }
  | _ => none }
def FnExactRemainOfWrongFalsely : Prop := fnExactRemainOfRow.holds Try.pinned (OpenSpec.ofChange fnExactRemainOfWrong)

/-- 'laws.FnExactWorkLeft': WHATEVER THE INPUT: true; the input reads as it did. -/
def fnExactWorkLeftSpec : ChangeSpec := { name := "fnExactWorkLeft", fn := fun _ => fun
  | [d] => { results := [.lit (.bool true)], args := [d] }
  | _ => none }
def fnExactWorkLeftRow : OpenClaim := { program := "ytljboinndpnefaa", sum := "085aa48966372a8f63a88da7e6be510eb7e5423722607fe0a93391f413c207dd", func := "loop.example/g00778/laws.FnExactWorkLeft", spec := "fnExactWorkLeft", unfollowed := true, recurses := true, apart := false }
def FnExactWorkLeftSaid : Prop := fnExactWorkLeftRow.holds Try.pinned (OpenSpec.ofChange fnExactWorkLeftSpec)

/-- ITS FALSE NEIGHBOUR: 'it returns false'. Refute it at one input. -/
def fnExactWorkLeftWrong : ChangeSpec := { name := "fnExactWorkLeft", fn := fun _ => fun
  | [d] => { results := [.lit (.bool false)], args := [d] }
  | _ => none }
def FnExactWorkLeftWrongFalsely : Prop := fnExactWorkLeftRow.holds Try.pinned (OpenSpec.ofChange fnExactWorkLeftWrong)

/-- 'laws.FnExactDemandAt': WHATEVER THE INPUT: true; the input reads as it did. -/
def fnExactDemandAtSpec : ChangeSpec := { name := "fnExactDemandAt", fn := fun _ => fun
  | [d1, d2] => { results := [.lit (.bool true)], args := [d1, d2] }
  | _ => none }
def fnExactDemandAtRow : OpenClaim := { program := "ytljboinndpnefaa", sum := "085aa48966372a8f63a88da7e6be510eb7e5423722607fe0a93391f413c207dd", func := "loop.example/g00778/laws.FnExactDemandAt", spec := "fnExactDemandAt", unfollowed := true, recurses := true, apart := false }
def FnExactDemandAtSaid : Prop := fnExactDemandAtRow.holds Try.pinned (OpenSpec.ofChange fnExactDemandAtSpec)

/-- ITS FALSE NEIGHBOUR: 'it returns false'. Refute it at one input. -/
def fnExactDemandAtWrong : ChangeSpec := { name := "fnExactDemandAt", fn := fun _ => fun
  | [d1, d2] => { results := [.lit (.bool false)], args := [d1, d2] }
  | _ => none }
def FnExactDemandAtWrongFalsely : Prop := fnExactDemandAtRow.holds Try.pinned (OpenSpec.ofChange fnExactDemandAtWrong)

/-- 'laws.FnExactLateOf': WHATEVER THE INPUT: true; the input reads as it did. -/
def fnExactLateOfSpec : ChangeSpec := { name := "fnExactLateOf", fn := fun _ => fun
  | [d] => { results := [.lit (.bool true)], args := [d] }
  | _ => none }
def fnExactLateOfRow : OpenClaim := { program := "ytljboinndpnefaa", sum := "085aa48966372a8f63a88da7e6be510eb7e5423722607fe0a93391f413c207dd", func := "loop.example/g00778/laws.FnExactLateOf", spec := "fnExactLateOf", unfollowed := true, recurses := true, apart := false }
def FnExactLateOfSaid : Prop := fnExactLateOfRow.holds Try.pinned (OpenSpec.ofChange fnExactLateOfSpec)

/-- ITS FALSE NEIGHBOUR: 'it returns false'. Refute it at one input. -/
def fnExactLateOfWrong : ChangeSpec := { name := "fnExactLateOf", fn := fun _ => fun
  | [d] => { results := [.lit (.bool false)], args := [d] }
  | _ => none }
def FnExactLateOfWrongFalsely : Prop := fnExactLateOfRow.holds Try.pinned (OpenSpec.ofChange fnExactLateOfWrong)

/-- 'laws.FnExactFitsIn': WHATEVER THE INPUT: true; the input reads as it did. -/
def fnExactFitsInSpec : ChangeSpec := { name := "fnExactFitsIn", fn := fun _ => fun
  | [d] => { results := [.lit (.bool true)], args := [d] }
  | _ => none }
def fnExactFitsInRow : OpenClaim := { program := "ytljboinndpnefaa", sum := "085aa48966372a8f63a88da7e6be510eb7e5423722607fe0a93391f413c207dd", func := "loop.example/g00778/laws.FnExactFitsIn", spec := "fnExactFitsIn", unfollowed := true, recurses := true, apart := false }
def FnExactFitsInSaid : Prop := fnExactFitsInRow.holds Try.pinned (OpenSpec.ofChange fnExactFitsInSpec)

/-- ITS FALSE NEIGHBOUR: 'it returns false'. Refute it at one input. -/
def fnExactFitsInWrong : ChangeSpec := { name := "fnExactFitsIn", fn := fun _ => fun
  | [d] => { results := [.lit (.bool false)], args := [d] }
  | _ => none }
def FnExactFitsInWrongFalsely : Prop := fnExactFitsInRow.holds Try.pinned (OpenSpec.ofChange fnExactFitsInWrong)

/-- 'laws.FnExactPickNext': WHATEVER THE INPUT: true; the input reads as it did. -/
def fnExactPickNextSpec : ChangeSpec := { name := "fnExactPickNext", fn := fun _ => fun
  | [d] => { results := [.lit (.bool true)], args := [d] }
  | _ => none }
def fnExactPickNextRow : OpenClaim := { program := "ytljboinndpnefaa", sum := "085aa48966372a8f63a88da7e6be510eb7e5423722607fe0a93391f413c207dd", func := "loop.example/g00778/laws.FnExactPickNext", spec := "fnExactPickNext", unfollowed := true, recurses := true, apart := false }
def FnExactPickNextSaid : Prop := fnExactPickNextRow.holds Try.pinned (OpenSpec.ofChange fnExactPickNextSpec)

/-- ITS FALSE NEIGHBOUR: 'it returns false'. Refute it at one input. -/
def fnExactPickNextWrong : ChangeSpec := { name := "fnExactPickNext", fn := fun _ => fun
  | [d] => { results := [.lit (.bool false)], args := [d] }
  | _ => none }
def FnExactPickNextWrongFalsely : Prop := fnExactPickNextRow.holds Try.pinned (OpenSpec.ofChange fnExactPickNextWrong)

/-- 'laws.FnExactNewRuntime': WHATEVER THE INPUT: true; the input reads as it did. -/
def fnExactNewRuntimeSpec : ChangeSpec := { name := "fnExactNewRuntime", fn := fun _ => fun
  | [d1, d2] => { results := [.lit (.bool true)], args := [d1, d2] }
  | _ => none }
def fnExactNewRuntimeRow : OpenClaim := { program := "ytljboinndpnefaa", sum := "085aa48966372a8f63a88da7e6be510eb7e5423722607fe0a93391f413c207dd", func := "loop.example/g00778/laws.FnExactNewRuntime", spec := "fnExactNewRuntime", unfollowed := true, recurses := true, apart := false }
def FnExactNewRuntimeSaid : Prop := fnExactNewRuntimeRow.holds Try.pinned (OpenSpec.ofChange fnExactNewRuntimeSpec)

/-- ITS FALSE NEIGHBOUR: 'it returns false'. Refute it at one input. -/
def fnExactNewRuntimeWrong : ChangeSpec := { name := "fnExactNewRuntime", fn := fun _ => fun
  | [d1, d2] => { results := [.lit (.bool false)], args := [d1, d2] }
  | _ => none }
def FnExactNewRuntimeWrongFalsely : Prop := fnExactNewRuntimeRow.holds Try.pinned (OpenSpec.ofChange fnExactNewRuntimeWrong)

/- THE SECOND FORM. 'bulk': how many values and letters a reading holds, each counted each time it is reached (what is shared counts as often as it is met; a slice's spare places count too). A statement '..UptoSaid' is the law's where the arguments, and the package variables that the reading takes, are together of bulk at most 1048576: NARROWER than '..Said'. Prove '..Said' where nothing that the law and all that it calls make is longer than what came in: it says more and counts as full. Else prove '..UptoSaid'. A law counts once. -/
mutual
def uptoBulk {H : Type} : DataW H → Nat
  | .lit (.string bytes) => bytes.length + 1
  | .lit _ => 1
  | .nil => 1
  | .ptr d => uptoBulk d + 1
  | .slice elems spare => uptoBulkAll elems + uptoBulkAll spare + 1
  | .agg parts => uptoBulkAll parts + 1
  | .iface _ d => uptoBulk d + 1
  | .map entries => uptoBulkEntries entries + 1
  | .held _ => 1
def uptoBulkAll {H : Type} : List (DataW H) → Nat
  | [] => 0
  | d :: r => uptoBulk d + uptoBulkAll r
def uptoBulkEntries {H : Type} : List (Lit × DataW H) → Nat
  | [] => 0
  | x :: r => uptoBulkEntry x + uptoBulkEntries r
def uptoBulkEntry {H : Type} : Lit × DataW H → Nat
  | (.string bytes, d) => bytes.length + uptoBulk d + 1
  | (_, d) => uptoBulk d + 1
 end
def uptoSmall : (H : Type) → List (DataW H) → Bool := fun _ ds => decide (uptoBulkAll ds ≤ 1048576)
def OpenSpec.upto (s : _root_.Go.ChangeSpec) : _root_.Go.OpenSpec := { _root_.Go.OpenSpec.ofChange s with cond := some uptoSmall }

/-- 'laws.FnExactTaskOk', WHERE WHAT IT READS IS OF BULK AT MOST 1048576: true; the input reads as it did. -/
def fnExactTaskOkUptoRow : OpenClaim := { program := "ytljboinndpnefaa", sum := "085aa48966372a8f63a88da7e6be510eb7e5423722607fe0a93391f413c207dd", func := "loop.example/g00778/laws.FnExactTaskOk", spec := "fnExactTaskOk", unfollowed := true, recurses := true, apart := false, narrowed := true }
def FnExactTaskOkUptoSaid : Prop := fnExactTaskOkUptoRow.holds Try.pinned (OpenSpec.upto fnExactTaskOkSpec)

/-- 'laws.FnExactSchedOk', WHERE WHAT IT READS IS OF BULK AT MOST 1048576: true; the input reads as it did. -/
def fnExactSchedOkUptoRow : OpenClaim := { program := "ytljboinndpnefaa", sum := "085aa48966372a8f63a88da7e6be510eb7e5423722607fe0a93391f413c207dd", func := "loop.example/g00778/laws.FnExactSchedOk", spec := "fnExactSchedOk", unfollowed := true, recurses := true, apart := false, narrowed := true }
def FnExactSchedOkUptoSaid : Prop := fnExactSchedOkUptoRow.holds Try.pinned (OpenSpec.upto fnExactSchedOkSpec)

/-- 'laws.FnExactNewSched', WHERE WHAT IT READS IS OF BULK AT MOST 1048576: true; the input reads as it did. -/
def fnExactNewSchedUptoRow : OpenClaim := { program := "ytljboinndpnefaa", sum := "085aa48966372a8f63a88da7e6be510eb7e5423722607fe0a93391f413c207dd", func := "loop.example/g00778/laws.FnExactNewSched", spec := "fnExactNewSched", unfollowed := true, recurses := true, apart := false, narrowed := true }
def FnExactNewSchedUptoSaid : Prop := fnExactNewSchedUptoRow.holds Try.pinned (OpenSpec.upto fnExactNewSchedSpec)

/-- 'laws.FnExactBlockAt', WHERE WHAT IT READS IS OF BULK AT MOST 1048576: true; the input reads as it did. -/
def fnExactBlockAtUptoRow : OpenClaim := { program := "ytljboinndpnefaa", sum := "085aa48966372a8f63a88da7e6be510eb7e5423722607fe0a93391f413c207dd", func := "loop.example/g00778/laws.FnExactBlockAt", spec := "fnExactBlockAt", unfollowed := true, recurses := true, apart := false, narrowed := true }
def FnExactBlockAtUptoSaid : Prop := fnExactBlockAtUptoRow.holds Try.pinned (OpenSpec.upto fnExactBlockAtSpec)

/-- 'laws.FnExactRemainOf', WHERE WHAT IT READS IS OF BULK AT MOST 1048576: true; the input reads as it did. -/
def fnExactRemainOfUptoRow : OpenClaim := { program := "ytljboinndpnefaa", sum := "085aa48966372a8f63a88da7e6be510eb7e5423722607fe0a93391f413c207dd", func := "loop.example/g00778/laws.FnExactRemainOf", spec := "fnExactRemainOf", unfollowed := true, recurses := true, apart := false, narrowed := true }
def FnExactRemainOfUptoSaid : Prop := fnExactRemainOfUptoRow.holds Try.pinned (OpenSpec.upto fnExactRemainOfSpec)

/-- 'laws.FnExactWorkLeft', WHERE WHAT IT READS IS OF BULK AT MOST 1048576: true; the input reads as it did. -/
def fnExactWorkLeftUptoRow : OpenClaim := { program := "ytljboinndpnefaa", sum := "085aa48966372a8f63a88da7e6be510eb7e5423722607fe0a93391f413c207dd", func := "loop.example/g00778/laws.FnExactWorkLeft", spec := "fnExactWorkLeft", unfollowed := true, recurses := true, apart := false, narrowed := true }
def FnExactWorkLeftUptoSaid : Prop := fnExactWorkLeftUptoRow.holds Try.pinned (OpenSpec.upto fnExactWorkLeftSpec)

/-- 'laws.FnExactDemandAt', WHERE WHAT IT READS IS OF BULK AT MOST 1048576: true; the input reads as it did. -/
def fnExactDemandAtUptoRow : OpenClaim := { program := "ytljboinndpnefaa", sum := "085aa48966372a8f63a88da7e6be510eb7e5423722607fe0a93391f413c207dd", func := "loop.example/g00778/laws.FnExactDemandAt", spec := "fnExactDemandAt", unfollowed := true, recurses := true, apart := false, narrowed := true }
def FnExactDemandAtUptoSaid : Prop := fnExactDemandAtUptoRow.holds Try.pinned (OpenSpec.upto fnExactDemandAtSpec)

/-- 'laws.FnExactLateOf', WHERE WHAT IT READS IS OF BULK AT MOST 1048576: true; the input reads as it did. -/
def fnExactLateOfUptoRow : OpenClaim := { program := "ytljboinndpnefaa", sum := "085aa48966372a8f63a88da7e6be510eb7e5423722607fe0a93391f413c207dd", func := "loop.example/g00778/laws.FnExactLateOf", spec := "fnExactLateOf", unfollowed := true, recurses := true, apart := false, narrowed := true }
def FnExactLateOfUptoSaid : Prop := fnExactLateOfUptoRow.holds Try.pinned (OpenSpec.upto fnExactLateOfSpec)

/-- 'laws.FnExactFitsIn', WHERE WHAT IT READS IS OF BULK AT MOST 1048576: true; the input reads as it did. -/
def fnExactFitsInUptoRow : OpenClaim := { program := "ytljboinndpnefaa", sum := "085aa48966372a8f63a88da7e6be510eb7e5423722607fe0a93391f413c207dd", func := "loop.example/g00778/laws.FnExactFitsIn", spec := "fnExactFitsIn", unfollowed := true, recurses := true, apart := false, narrowed := true }
def FnExactFitsInUptoSaid : Prop := fnExactFitsInUptoRow.holds Try.pinned (OpenSpec.upto fnExactFitsInSpec)

/-- 'laws.FnExactPickNext', WHERE WHAT IT READS IS OF BULK AT MOST 1048576: true; the input reads as it did. -/
def fnExactPickNextUptoRow : OpenClaim := { program := "ytljboinndpnefaa", sum := "085aa48966372a8f63a88da7e6be510eb7e5423722607fe0a93391f413c207dd", func := "loop.example/g00778/laws.FnExactPickNext", spec := "fnExactPickNext", unfollowed := true, recurses := true, apart := false, narrowed := true }
def FnExactPickNextUptoSaid : Prop := fnExactPickNextUptoRow.holds Try.pinned (OpenSpec.upto fnExactPickNextSpec)

/-- 'laws.FnExactNewRuntime', WHERE WHAT IT READS IS OF BULK AT MOST 1048576: true; the input reads as it did. -/
def fnExactNewRuntimeUptoRow : OpenClaim := { program := "ytljboinndpnefaa", sum := "085aa48966372a8f63a88da7e6be510eb7e5423722607fe0a93391f413c207dd", func := "loop.example/g00778/laws.FnExactNewRuntime", spec := "fnExactNewRuntime", unfollowed := true, recurses := true, apart := false, narrowed := true }
def FnExactNewRuntimeUptoSaid : Prop := fnExactNewRuntimeUptoRow.holds Try.pinned (OpenSpec.upto fnExactNewRuntimeSpec)

end Rows
end Go.Proofs.Ytljboinndpnefaa
