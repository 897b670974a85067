/-
  No cell of these rows narrows 'for every input' (looked for: loops, veiled, ifaces, maps, wideKeys, modest, calm, conditions, laid).
  DERIVED. THE GIVEN ROWS OF THIS SEAT. 7 by the template 'for every input the law returns true; each argument reads behind the call as it read before'; 0 by the template 'total and deterministic' (their statements: YtoggdgahfagegaaTotals.lean).
  GIVEN WITH THE SEED: the statements are not yours to turn. If you find one false, say at which input.
  Laid BY PROGRAM, IN A SANDBOX (cutbox-rows.mjs): the forced cells as the released guide's own fill.sh prints them over the translation 65caa71bb465e92d… (all of the seat's roots in one cut). By AI agents, Wed Nov 11 2026. No macro, syntax, notation, axiom, sorry.
-/
import Derived.Test.YtoggdgahfagegaaChecked
import GoSem.Claim
import GoSem.ClaimJoined
import GoSem.ClaimMapViews
import Derived.JoinedTies
import Derived.KernelRfl
namespace Go.Proofs.Ytoggdgahfagegaa
/- THE CELL 'sum', in the pinned program and in every row, IS THE sha256 OF THE DUMP (.gsa) THAT YtoggdgahfagegaaProg.lean LOADS. Nothing in Lean hashes anything: it is a label: what it is worth is what the hold of that sum in a sandbox is worth. -/
noncomputable def Try.pinned : Pinned := { name := "ytoggdgahfagegaa", sum := "65caa71bb465e92dbe0cd011e880f938a82fa36b5477b438384836446b03e3eb", checked := Try.checked }
namespace Rows
def none {H : Type} : Left H := { results := [], args := [] }

/-- 'laws.FnExactFitsBatch': WHATEVER THE INPUT: true; the input reads as it did. -/
def fnExactFitsBatchSpec : ChangeSpec := { name := "fnExactFitsBatch", fn := fun _ => fun
  | [d1, d2, d3] => { results := [.lit (.bool true)], args := [d1, d2, d3] }
  | _ => none }
def fnExactFitsBatchRow : OpenClaim := { program := "ytoggdgahfagegaa", sum := "65caa71bb465e92dbe0cd011e880f938a82fa36b5477b438384836446b03e3eb", func := "loop.example/g00778/laws.FnExactFitsBatch", spec := "fnExactFitsBatch", apart := false }
def FnExactFitsBatchSaid : Prop := fnExactFitsBatchRow.holds Try.pinned (OpenSpec.ofChange fnExactFitsBatchSpec)

/-- ITS FALSE NEIGHBOUR: 'it returns false'. Refute it at one input. -/
def fnExactFitsBatchWrong : ChangeSpec := { name := "fnExactFitsBatch", fn := fun _ => fun
  | [d1, d2, d3] => { results := [.lit (.bool false)], args := [d1, d2, d3] }
  | _ => none }
def FnExactFitsBatchWrongFalsely : Prop := fnExactFitsBatchRow.holds Try.pinned (OpenSpec.ofChange fnExactFitsBatchWrong)

/-- 'laws.FnExactGroupDues': WHATEVER THE INPUT: true; the input reads as it did. -/
def fnExactGroupDuesSpec : ChangeSpec := { name := "fnExactGroupDues", fn := fun _ => fun
  | [d1, d2] => { results := [.lit (.bool true)], args := [d1, d2] }
  | _ => none }
def fnExactGroupDuesRow : OpenClaim := { program := "ytoggdgahfagegaa", sum := "65caa71bb465e92dbe0cd011e880f938a82fa36b5477b438384836446b03e3eb", func := "loop.example/g00778/laws.FnExactGroupDues", spec := "fnExactGroupDues", apart := false }
def FnExactGroupDuesSaid : Prop := fnExactGroupDuesRow.holds Try.pinned (OpenSpec.ofChange fnExactGroupDuesSpec)

/-- ITS FALSE NEIGHBOUR: 'it returns false'. Refute it at one input. -/
def fnExactGroupDuesWrong : ChangeSpec := { name := "fnExactGroupDues", fn := fun _ => fun
  | [d1, d2] => { results := [.lit (.bool false)], args := [d1, d2] }
  | _ => none }
def FnExactGroupDuesWrongFalsely : Prop := fnExactGroupDuesRow.holds Try.pinned (OpenSpec.ofChange fnExactGroupDuesWrong)

/-- 'laws.FnExactDonesOf': WHATEVER THE INPUT: true; the input reads as it did. -/
def fnExactDonesOfSpec : ChangeSpec := { name := "fnExactDonesOf", fn := fun _ => fun
  | [d] => { results := [.lit (.bool true)], args := [d] }
  | _ => none }
def fnExactDonesOfRow : OpenClaim := { program := "ytoggdgahfagegaa", sum := "65caa71bb465e92dbe0cd011e880f938a82fa36b5477b438384836446b03e3eb", func := "loop.example/g00778/laws.FnExactDonesOf", spec := "fnExactDonesOf", apart := false }
def FnExactDonesOfSaid : Prop := fnExactDonesOfRow.holds Try.pinned (OpenSpec.ofChange fnExactDonesOfSpec)

/-- ITS FALSE NEIGHBOUR: 'it returns false'. Refute it at one input. -/
def fnExactDonesOfWrong : ChangeSpec := { name := "fnExactDonesOf", fn := fun _ => fun
  | [d] => { results := [.lit (.bool false)], args := [d] }
  | _ => none }
def FnExactDonesOfWrongFalsely : Prop := fnExactDonesOfRow.holds Try.pinned (OpenSpec.ofChange fnExactDonesOfWrong)

/-- 'laws.FnExactRefusedBy': WHATEVER THE INPUT: true; the input reads as it did. -/
def fnExactRefusedBySpec : ChangeSpec := { name := "fnExactRefusedBy", fn := fun _ => fun
  | [d] => { results := [.lit (.bool true)], args := [d] }
  | _ => none }
def fnExactRefusedByRow : OpenClaim := { program := "ytoggdgahfagegaa", sum := "65caa71bb465e92dbe0cd011e880f938a82fa36b5477b438384836446b03e3eb", func := "loop.example/g00778/laws.FnExactRefusedBy", spec := "fnExactRefusedBy", apart := false }
def FnExactRefusedBySaid : Prop := fnExactRefusedByRow.holds Try.pinned (OpenSpec.ofChange fnExactRefusedBySpec)

/-- ITS FALSE NEIGHBOUR: 'it returns false'. Refute it at one input. -/
def fnExactRefusedByWrong : ChangeSpec := { name := "fnExactRefusedBy", fn := fun _ => fun
  | [d] => { results := [.lit (.bool false)], args := [d] }
  | _ => none }
def FnExactRefusedByWrongFalsely : Prop := fnExactRefusedByRow.holds Try.pinned (OpenSpec.ofChange fnExactRefusedByWrong)

/-- 'laws.FnExactEndTick': WHATEVER THE INPUT: true; the input reads as it did. -/
def fnExactEndTickSpec : ChangeSpec := { name := "fnExactEndTick", fn := fun _ => fun
  | [d] => { results := [.lit (.bool true)], args := [d] }
  | _ => none }
def fnExactEndTickRow : OpenClaim := { program := "ytoggdgahfagegaa", sum := "65caa71bb465e92dbe0cd011e880f938a82fa36b5477b438384836446b03e3eb", func := "loop.example/g00778/laws.FnExactEndTick", spec := "fnExactEndTick", apart := false }
def FnExactEndTickSaid : Prop := fnExactEndTickRow.holds Try.pinned (OpenSpec.ofChange fnExactEndTickSpec)

/-- ITS FALSE NEIGHBOUR: 'it returns false'. Refute it at one input. -/
def fnExactEndTickWrong : ChangeSpec := { name := "fnExactEndTick", fn := fun _ => fun
  | [d] => { results := [.lit (.bool false)], args := [d] }
  | _ => none }
def FnExactEndTickWrongFalsely : Prop := fnExactEndTickRow.holds Try.pinned (OpenSpec.ofChange fnExactEndTickWrong)

/-- 'laws.FnExactSameOutputs': WHATEVER THE INPUT: true; the input reads as it did. -/
def fnExactSameOutputsSpec : ChangeSpec := { name := "fnExactSameOutputs", fn := fun _ => fun
  | [d1, d2] => { results := [.lit (.bool true)], args := [d1, d2] }
  | _ => none }
def fnExactSameOutputsRow : OpenClaim := { program := "ytoggdgahfagegaa", sum := "65caa71bb465e92dbe0cd011e880f938a82fa36b5477b438384836446b03e3eb", func := "loop.example/g00778/laws.FnExactSameOutputs", spec := "fnExactSameOutputs", unfollowed := true, recurses := true, apart := false }
def FnExactSameOutputsSaid : Prop := fnExactSameOutputsRow.holds Try.pinned (OpenSpec.ofChange fnExactSameOutputsSpec)

/-- ITS FALSE NEIGHBOUR: 'it returns false'. Refute it at one input. -/
def fnExactSameOutputsWrong : ChangeSpec := { name := "fnExactSameOutputs", fn := fun _ => fun
  | [d1, d2] => { results := [.lit (.bool false)], args := [d1, d2] }
  | _ => none }
def FnExactSameOutputsWrongFalsely : Prop := fnExactSameOutputsRow.holds Try.pinned (OpenSpec.ofChange fnExactSameOutputsWrong)

/-- 'laws.FnExactStalledBetween': WHATEVER THE INPUT: true; the input reads as it did. -/
def fnExactStalledBetweenSpec : ChangeSpec := { name := "fnExactStalledBetween", fn := fun _ => fun
  | [d1, d2, d3] => { results := [.lit (.bool true)], args := [d1, d2, d3] }
  | _ => none }
def fnExactStalledBetweenRow : OpenClaim := { program := "ytoggdgahfagegaa", sum := "65caa71bb465e92dbe0cd011e880f938a82fa36b5477b438384836446b03e3eb", func := "loop.example/g00778/laws.FnExactStalledBetween", spec := "fnExactStalledBetween", apart := false }
def FnExactStalledBetweenSaid : Prop := fnExactStalledBetweenRow.holds Try.pinned (OpenSpec.ofChange fnExactStalledBetweenSpec)

/-- ITS FALSE NEIGHBOUR: 'it returns false'. Refute it at one input. -/
def fnExactStalledBetweenWrong : ChangeSpec := { name := "fnExactStalledBetween", fn := fun _ => fun
  | [d1, d2, d3] => { results := [.lit (.bool false)], args := [d1, d2, d3] }
  | _ => none }
def FnExactStalledBetweenWrongFalsely : Prop := fnExactStalledBetweenRow.holds Try.pinned (OpenSpec.ofChange fnExactStalledBetweenWrong)

/- THE SECOND FORM. 'bulk': how many values and letters a reading holds, each counted each time it is reached (what is shared counts as often as it is met; a slice's spare places count too). A statement '..UptoSaid' is the law's where the arguments, and the package variables that the reading takes, are together of bulk at most 1048576: NARROWER than '..Said'. Prove '..Said' where nothing that the law and all that it calls make is longer than what came in: it says more and counts as full. Else prove '..UptoSaid'. A law counts once. -/
mutual
def uptoBulk {H : Type} : DataW H → Nat
  | .lit (.string bytes) => bytes.length + 1
  | .lit _ => 1
  | .nil => 1
  | .ptr d => uptoBulk d + 1
  | .slice elems spare => uptoBulkAll elems + uptoBulkAll spare + 1
  | .agg parts => uptoBulkAll parts + 1
  | .iface _ d => uptoBulk d + 1
  | .map entries => uptoBulkEntries entries + 1
  | .held _ => 1
def uptoBulkAll {H : Type} : List (DataW H) → Nat
  | [] => 0
  | d :: r => uptoBulk d + uptoBulkAll r
def uptoBulkEntries {H : Type} : List (Lit × DataW H) → Nat
  | [] => 0
  | x :: r => uptoBulkEntry x + uptoBulkEntries r
def uptoBulkEntry {H : Type} : Lit × DataW H → Nat
  | (.string bytes, d) => bytes.length + uptoBulk d + 1
  | (_, d) => uptoBulk d + 1
 end
def uptoSmall : (H : Type) → List (DataW H) → Bool := fun _ ds => decide (uptoBulkAll ds ≤ 1048576)
def OpenSpec.upto (s : _root_.Go.ChangeSpec) : _root_.Go.OpenSpec := { _root_.Go.OpenSpec.ofChange s with cond := some uptoSmall }

/-- 'laws.FnExactFitsBatch', WHERE WHAT IT READS IS OF BULK AT MOST 1048576: true; the input reads as it did. -/
def fnExactFitsBatchUptoRow : OpenClaim := { program := "ytoggdgahfagegaa", sum := "65caa71bb465e92dbe0cd011e880f938a82fa36b5477b438384836446b03e3eb", func := "loop.example/g00778/laws.FnExactFitsBatch", spec := "fnExactFitsBatch", apart := false, narrowed := true }
def FnExactFitsBatchUptoSaid : Prop := fnExactFitsBatchUptoRow.holds Try.pinned (OpenSpec.upto fnExactFitsBatchSpec)

/-- 'laws.FnExactGroupDues', WHERE WHAT IT READS IS OF BULK AT MOST 1048576: true; the input reads as it did. -/
def fnExactGroupDuesUptoRow : OpenClaim := { program := "ytoggdgahfagegaa", sum := "65caa71bb465e92dbe0cd011e880f938a82fa36b5477b438384836446b03e3eb", func := "loop.example/g00778/laws.FnExactGroupDues", spec := "fnExactGroupDues", apart := false, narrowed := true }
def FnExactGroupDuesUptoSaid : Prop := fnExactGroupDuesUptoRow.holds Try.pinned (OpenSpec.upto fnExactGroupDuesSpec)

/-- 'laws.FnExactDonesOf', WHERE WHAT IT READS IS OF BULK AT MOST 1048576: true; the input reads as it did. -/
def fnExactDonesOfUptoRow : OpenClaim := { program := "ytoggdgahfagegaa", sum := "65caa71bb465e92dbe0cd011e880f938a82fa36b5477b438384836446b03e3eb", func := "loop.example/g00778/laws.FnExactDonesOf", spec := "fnExactDonesOf", apart := false, narrowed := true }
def FnExactDonesOfUptoSaid : Prop := fnExactDonesOfUptoRow.holds Try.pinned (OpenSpec.upto fnExactDonesOfSpec)

/-- 'laws.FnExactRefusedBy', WHERE WHAT IT READS IS OF BULK AT MOST 1048576: true; the input reads as it did. -/
def fnExactRefusedByUptoRow : OpenClaim := { program := "ytoggdgahfagegaa", sum := "65caa71bb465e92dbe0cd011e880f938a82fa36b5477b438384836446b03e3eb", func := "loop.example/g00778/laws.FnExactRefusedBy", spec := "fnExactRefusedBy", apart := false, narrowed := true }
def FnExactRefusedByUptoSaid : Prop := fnExactRefusedByUptoRow.holds Try.pinned (OpenSpec.upto fnExactRefusedBySpec)

/-- 'laws.FnExactEndTick', WHERE WHAT IT READS IS OF BULK AT MOST 1048576: true; the input reads as it did. -/
def fnExactEndTickUptoRow : OpenClaim := { program := "ytoggdgahfagegaa", sum := "65caa71bb465e92dbe0cd011e880f938a82fa36b5477b438384836446b03e3eb", func := "loop.example/g00778/laws.FnExactEndTick", spec := "fnExactEndTick", apart := false, narrowed := true }
def FnExactEndTickUptoSaid : Prop := fnExactEndTickUptoRow.holds Try.pinned (OpenSpec.upto fnExactEndTickSpec)

/-- 'laws.FnExactSameOutputs', WHERE WHAT IT READS IS OF BULK AT MOST 1048576: true; the input reads as it did. -/
def fnExactSameOutputsUptoRow : OpenClaim := { program := "ytoggdgahfagegaa", sum := "65caa71bb465e92dbe0cd011e880f938a82fa36b5477b438384836446b03e3eb", func := "loop.example/g00778/laws.FnExactSameOutputs", spec := "fnExactSameOutputs", unfollowed := true, recurses := true, apart := false, narrowed := true }
def FnExactSameOutputsUptoSaid : Prop := fnExactSameOutputsUptoRow.holds Try.pinned (OpenSpec.upto fnExactSameOutputsSpec)

/-- 'laws.FnExactStalledBetween', WHERE WHAT IT READS IS OF BULK AT MOST 1048576: true; the input reads as it did. -/
def fnExactStalledBetweenUptoRow : OpenClaim := { program := "ytoggdgahfagegaa", sum := "65caa71bb465e92dbe0cd011e880f938a82fa36b5477b438384836446b03e3eb", func := "loop.example/g00778/laws.FnExactStalledBetween", spec := "fnExactStalledBetween", apart := false, narrowed := true }
def FnExactStalledBetweenUptoSaid : Prop := fnExactStalledBetweenUptoRow.holds Try.pinned (OpenSpec.upto fnExactStalledBetweenSpec)

end Rows
end Go.Proofs.Ytoggdgahfagegaa
