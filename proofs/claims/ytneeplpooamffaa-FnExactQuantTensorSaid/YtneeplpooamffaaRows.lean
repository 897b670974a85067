/-
  No cell of these rows narrows 'for every input' (looked for: loops, veiled, ifaces, maps, wideKeys, modest, calm, conditions, laid).
  DERIVED. THE GIVEN ROWS OF THIS SEAT. 11 by the template 'for every input the law returns true; each argument reads behind the call as it read before'; 0 by the template 'total and deterministic' (their statements: YtneeplpooamffaaTotals.lean).
  GIVEN WITH THE SEED: the statements are not yours to turn. If you find one false, say at which input.
  Laid BY PROGRAM, IN A SANDBOX (cutbox-rows.mjs): the forced cells as the released guide's own fill.sh prints them over the translation 8a2c6f46e2baa9b7… (all of the seat's roots in one cut). By AI agents, Wed Nov 11 2026. No macro, syntax, notation, axiom, sorry.
-/
import Derived.Test.YtneeplpooamffaaChecked
import GoSem.Claim
import GoSem.ClaimJoined
import GoSem.ClaimMapViews
import Derived.JoinedTies
import Derived.KernelRfl
namespace Go.Proofs.Ytneeplpooamffaa
/- THE CELL 'sum', in the pinned program and in every row, IS THE sha256 OF THE DUMP (.gsa) THAT YtneeplpooamffaaProg.lean LOADS. Nothing in Lean hashes anything: it is a label: what it is worth is what the hold of that sum in a sandbox is worth. -/
noncomputable def Try.pinned : Pinned := { name := "ytneeplpooamffaa", sum := "8a2c6f46e2baa9b725cae78d5f0fa91b2cc06360703a19b94f81e747e530eedc", checked := Try.checked }
namespace Rows
def none {H : Type} : Left H := { results := [], args := [] }

/-- 'laws.FnExactScaleOk': WHATEVER THE INPUT: true; the input reads as it did. -/
def fnExactScaleOkSpec : ChangeSpec := { name := "fnExactScaleOk", fn := fun _ => fun
  | [d] => { results := [.lit (.bool true)], args := [d] }
  | _ => none }
def fnExactScaleOkRow : OpenClaim := { program := "ytneeplpooamffaa", sum := "8a2c6f46e2baa9b725cae78d5f0fa91b2cc06360703a19b94f81e747e530eedc", func := "loop.example/g00778/laws.FnExactScaleOk", spec := "fnExactScaleOk", apart := false }
def FnExactScaleOkSaid : Prop := fnExactScaleOkRow.holds Try.pinned (OpenSpec.ofChange fnExactScaleOkSpec)

/-- ITS FALSE NEIGHBOUR: 'it returns false'. Refute it at one input. -/
def fnExactScaleOkWrong : ChangeSpec := { name := "fnExactScaleOk", fn := fun _ => fun
  | [d] => { results := [.lit (.bool false)], args := [d] }
  | _ => none }
def FnExactScaleOkWrongFalsely : Prop := fnExactScaleOkRow.holds Try.pinned (OpenSpec.ofChange fnExactScaleOkWrong)

/-- 'laws.FnExactFromInt8': WHATEVER THE INPUT: true; the input reads as it did. -/
def fnExactFromInt8Spec : ChangeSpec := { name := "fnExactFromInt8", fn := fun _ => fun
  | [d1, d2] => { results := [.lit (.bool true)], args := [d1, d2] }
  | _ => none }
def fnExactFromInt8Row : OpenClaim := { program := "ytneeplpooamffaa", sum := "8a2c6f46e2baa9b725cae78d5f0fa91b2cc06360703a19b94f81e747e530eedc", func := "loop.example/g00778/laws.FnExactFromInt8", spec := "fnExactFromInt8", apart := false }
def FnExactFromInt8Said : Prop := fnExactFromInt8Row.holds Try.pinned (OpenSpec.ofChange fnExactFromInt8Spec)

/-- ITS FALSE NEIGHBOUR: 'it returns false'. Refute it at one input. -/
def fnExactFromInt8Wrong : ChangeSpec := { name := "fnExactFromInt8", fn := fun _ => fun
  | [d1, d2] => { results := [.lit (.bool false)], args := [d1, d2] }
  | _ => none }
def FnExactFromInt8WrongFalsely : Prop := fnExactFromInt8Row.holds Try.pinned (OpenSpec.ofChange fnExactFromInt8Wrong)

/-- 'laws.FnExactToInt8': WHATEVER THE INPUT: true; the input reads as it did. -/
def fnExactToInt8Spec : ChangeSpec := { name := "fnExactToInt8", fn := fun _ => fun
  | [d1, d2] => { results := [.lit (.bool true)], args := [d1, d2] }
  | _ => none }
def fnExactToInt8Row : OpenClaim := { program := "ytneeplpooamffaa", sum := "8a2c6f46e2baa9b725cae78d5f0fa91b2cc06360703a19b94f81e747e530eedc", func := "loop.example/g00778/laws.FnExactToInt8", spec := "fnExactToInt8", recurses := true, apart := false }
def FnExactToInt8Said : Prop := fnExactToInt8Row.holds Try.pinned (OpenSpec.ofChange fnExactToInt8Spec)

/-- ITS FALSE NEIGHBOUR: 'it returns false'. Refute it at one input. -/
def fnExactToInt8Wrong : ChangeSpec := { name := "fnExactToInt8", fn := fun _ => fun
  | [d1, d2] => { results := [.lit (.bool false)], args := [d1, d2] }
  | _ => none }
def FnExactToInt8WrongFalsely : Prop := fnExactToInt8Row.holds Try.pinned (OpenSpec.ofChange fnExactToInt8Wrong)

/-- 'laws.FnExactMultOfScales': WHATEVER THE INPUT: true; the input reads as it did. -/
def fnExactMultOfScalesSpec : ChangeSpec := { name := "fnExactMultOfScales", fn := fun _ => fun
  | [d1, d2, d3] => { results := [.lit (.bool true)], args := [d1, d2, d3] }
  | _ => none }
def fnExactMultOfScalesRow : OpenClaim := { program := "ytneeplpooamffaa", sum := "8a2c6f46e2baa9b725cae78d5f0fa91b2cc06360703a19b94f81e747e530eedc", func := "loop.example/g00778/laws.FnExactMultOfScales", spec := "fnExactMultOfScales", apart := false }
def FnExactMultOfScalesSaid : Prop := fnExactMultOfScalesRow.holds Try.pinned (OpenSpec.ofChange fnExactMultOfScalesSpec)

/-- ITS FALSE NEIGHBOUR: 'it returns false'. Refute it at one input. -/
def fnExactMultOfScalesWrong : ChangeSpec := { name := "fnExactMultOfScales", fn := fun _ => fun
  | [d1, d2, d3] => { results := [.lit (.bool false)], args := [d1, d2, d3] }
  | _ => none }
def FnExactMultOfScalesWrongFalsely : Prop := fnExactMultOfScalesRow.holds Try.pinned (OpenSpec.ofChange fnExactMultOfScalesWrong)

/-- 'laws.FnExactRangeOfReals': WHATEVER THE INPUT: true; the input reads as it did. -/
def fnExactRangeOfRealsSpec : ChangeSpec := { name := "fnExactRangeOfReals", fn := fun _ => fun
  | [d] => { results := [.lit (.bool true)], args := [d] }
  | _ => none }
def fnExactRangeOfRealsRow : OpenClaim := { program := "ytneeplpooamffaa", sum := "8a2c6f46e2baa9b725cae78d5f0fa91b2cc06360703a19b94f81e747e530eedc", func := "loop.example/g00778/laws.FnExactRangeOfReals", spec := "fnExactRangeOfReals", unfollowed := true, recurses := true, apart := false }
def FnExactRangeOfRealsSaid : Prop := fnExactRangeOfRealsRow.holds Try.pinned (OpenSpec.ofChange fnExactRangeOfRealsSpec)

/-- ITS FALSE NEIGHBOUR: 'it returns false'. Refute it at one input. -/
def fnExactRangeOfRealsWrong : ChangeSpec := { name := "fnExactRangeOfReals", fn := fun _ => fun
  | [d] => { results := [.lit (.bool false)], args := [d] }
  | _ => none }
def FnExactRangeOfRealsWrongFalsely : Prop := fnExactRangeOfRealsRow.holds Try.pinned (OpenSpec.ofChange fnExactRangeOfRealsWrong)

/-- 'laws.FnExactSymmetricScale': WHATEVER THE INPUT: true; the input reads as it did. -/
def fnExactSymmetricScaleSpec : ChangeSpec := { name := "fnExactSymmetricScale", fn := fun _ => fun
  | [d] => { results := [.lit (.bool true)], args := [d] }
  | _ => none }
def fnExactSymmetricScaleRow : OpenClaim := { program := "ytneeplpooamffaa", sum := "8a2c6f46e2baa9b725cae78d5f0fa91b2cc06360703a19b94f81e747e530eedc", func := "loop.example/g00778/laws.FnExactSymmetricScale", spec := "fnExactSymmetricScale", unfollowed := true, recurses := true, apart := false }
def FnExactSymmetricScaleSaid : Prop := fnExactSymmetricScaleRow.holds Try.pinned (OpenSpec.ofChange fnExactSymmetricScaleSpec)

/-- ITS FALSE NEIGHBOUR: 'it returns false'. Refute it at one input. -/
def fnExactSymmetricScaleWrong : ChangeSpec := { name := "fnExactSymmetricScale", fn := fun _ => fun
  | [d] => { results := [.lit (.bool false)], args := [d] }
  | _ => none }
def FnExactSymmetricScaleWrongFalsely : Prop := fnExactSymmetricScaleRow.holds Try.pinned (OpenSpec.ofChange fnExactSymmetricScaleWrong)

/-- 'laws.FnExactScaleFor': WHATEVER THE INPUT: true; the input reads as it did. -/
def fnExactScaleForSpec : ChangeSpec := { name := "fnExactScaleFor", fn := fun _ => fun
  | [d] => { results := [.lit (.bool true)], args := [d] }
  | _ => none }
def fnExactScaleForRow : OpenClaim := { program := "ytneeplpooamffaa", sum := "8a2c6f46e2baa9b725cae78d5f0fa91b2cc06360703a19b94f81e747e530eedc", func := "loop.example/g00778/laws.FnExactScaleFor", spec := "fnExactScaleFor", unfollowed := true, recurses := true, apart := false }
def FnExactScaleForSaid : Prop := fnExactScaleForRow.holds Try.pinned (OpenSpec.ofChange fnExactScaleForSpec)

/-- ITS FALSE NEIGHBOUR: 'it returns false'. Refute it at one input. -/
def fnExactScaleForWrong : ChangeSpec := { name := "fnExactScaleFor", fn := fun _ => fun
  | [d] => { results := [.lit (.bool false)], args := [d] }
  | _ => none }
def FnExactScaleForWrongFalsely : Prop := fnExactScaleForRow.holds Try.pinned (OpenSpec.ofChange fnExactScaleForWrong)

/-- 'laws.FnExactWorstError': WHATEVER THE INPUT: true; the input reads as it did. -/
def fnExactWorstErrorSpec : ChangeSpec := { name := "fnExactWorstError", fn := fun _ => fun
  | [d1, d2] => { results := [.lit (.bool true)], args := [d1, d2] }
  | _ => none }
def fnExactWorstErrorRow : OpenClaim := { program := "ytneeplpooamffaa", sum := "8a2c6f46e2baa9b725cae78d5f0fa91b2cc06360703a19b94f81e747e530eedc", func := "loop.example/g00778/laws.FnExactWorstError", spec := "fnExactWorstError", unfollowed := true, recurses := true, apart := false }
def FnExactWorstErrorSaid : Prop := fnExactWorstErrorRow.holds Try.pinned (OpenSpec.ofChange fnExactWorstErrorSpec)

/-- ITS FALSE NEIGHBOUR: 'it returns false'. Refute it at one input. -/
def fnExactWorstErrorWrong : ChangeSpec := { name := "fnExactWorstError", fn := fun _ => fun
  | [d1, d2] => { results := [.lit (.bool false)], args := [d1, d2] }
  | _ => none }
def FnExactWorstErrorWrongFalsely : Prop := fnExactWorstErrorRow.holds Try.pinned (OpenSpec.ofChange fnExactWorstErrorWrong)

/-- 'laws.FnExactRealsOf': WHATEVER THE INPUT: true; the input reads as it did. -/
def fnExactRealsOfSpec : ChangeSpec := { name := "fnExactRealsOf", fn := fun _ => fun
  | [d1, d2] => { results := [.lit (.bool true)], args := [d1, d2] }
  | _ => none }
def fnExactRealsOfRow : OpenClaim := { program := "ytneeplpooamffaa", sum := "8a2c6f46e2baa9b725cae78d5f0fa91b2cc06360703a19b94f81e747e530eedc", func := "loop.example/g00778/laws.FnExactRealsOf", spec := "fnExactRealsOf", unfollowed := true, recurses := true, apart := false }
def FnExactRealsOfSaid : Prop := fnExactRealsOfRow.holds Try.pinned (OpenSpec.ofChange fnExactRealsOfSpec)

/-- ITS FALSE NEIGHBOUR: 'it returns false'. Refute it at one input. -/
def fnExactRealsOfWrong : ChangeSpec := { name := "fnExactRealsOf", fn := fun _ => fun
  | [d1, d2] => { results := [.lit (.bool false)], args := [d1, d2] }
  | _ => none }
def FnExactRealsOfWrongFalsely : Prop := fnExactRealsOfRow.holds Try.pinned (OpenSpec.ofChange fnExactRealsOfWrong)

/-- 'laws.FnExactQuantTensor': WHATEVER THE INPUT: true; the input reads as it did. -/
def fnExactQuantTensorSpec : ChangeSpec := { name := "fnExactQuantTensor", fn := fun _ => fun
  | [d1, d2] => { results := [.lit (.bool true)], args := [d1, d2] }
  | _ => none }
def fnExactQuantTensorRow : OpenClaim := { program := "ytneeplpooamffaa", sum := "8a2c6f46e2baa9b725cae78d5f0fa91b2cc06360703a19b94f81e747e530eedc", func := "loop.example/g00778/laws.FnExactQuantTensor", spec := "fnExactQuantTensor", unfollowed := true, recurses := true, apart := false }
def FnExactQuantTensorSaid : Prop := fnExactQuantTensorRow.holds Try.pinned (OpenSpec.ofChange fnExactQuantTensorSpec)

/-- ITS FALSE NEIGHBOUR: 'it returns false'. Refute it at one input. -/
def fnExactQuantTensorWrong : ChangeSpec := { name := "fnExactQuantTensor", fn := fun _ => fun
  | [d1, d2] => { results := [.lit (.bool false)], args := [d1, d2] }
  | _ => none }
def FnExactQuantTensorWrongFalsely : Prop := fnExactQuantTensorRow.holds Try.pinned (OpenSpec.ofChange fnExactQuantTensorWrong)

/-- 'laws.FnScales': WHATEVER THE INPUT: true; the input reads as it did. -/
def fnScalesSpec : ChangeSpec := { name := "fnScales", fn := fun _ => fun
  | [d] => { results := [.lit (.bool true)], args := [d] }
  | _ => none }
def fnScalesRow : OpenClaim := { program := "ytneeplpooamffaa", sum := "8a2c6f46e2baa9b725cae78d5f0fa91b2cc06360703a19b94f81e747e530eedc", func := "loop.example/g00778/laws.FnScales", spec := "fnScales", unfollowed := true, recurses := true, apart := false }
def FnScalesSaid : Prop := fnScalesRow.holds Try.pinned (OpenSpec.ofChange fnScalesSpec)

/-- ITS FALSE NEIGHBOUR: 'it returns false'. Refute it at one input. -/
def fnScalesWrong : ChangeSpec := { name := "fnScales", fn := fun _ => fun
  | [d] => { results := [.lit (.bool false)], args := [d] }
  | _ => none }
def FnScalesWrongFalsely : Prop := fnScalesRow.holds Try.pinned (OpenSpec.ofChange fnScalesWrong)

/- THE SECOND FORM. 'bulk': how many values and letters a reading holds, each counted each time it is reached (what is shared counts as often as it is met; a slice's spare places count too). A statement '..UptoSaid' is the law's where the arguments, and the package variables that the reading takes, are together of bulk at most 1048576: NARROWER than '..Said'. Prove '..Said' where nothing that the law and all that it calls make is longer than what came in: it says more and counts as full. Else prove '..UptoSaid'. A law counts once. -/
mutual
def uptoBulk {H : Type} : DataW H → Nat
  | .lit (.string bytes) => bytes.length + 1
  | .lit _ => 1
  | .nil => 1
  | .ptr d => uptoBulk d + 1
  | .slice elems spare => uptoBulkAll elems + uptoBulkAll spare + 1
  | .agg parts => uptoBulkAll parts + 1
  | .iface _ d => uptoBulk d + 1
  | .map entries => uptoBulkEntries entries + 1
  | .held _ => 1
def uptoBulkAll {H : Type} : List (DataW H) → Nat
  | [] => 0
  | d :: r => uptoBulk d + uptoBulkAll r
def uptoBulkEntries {H : Type} : List (Lit × DataW H) → Nat
  | [] => 0
  | x :: r => uptoBulkEntry x + uptoBulkEntries r
def uptoBulkEntry {H : Type} : Lit × DataW H → Nat
  | (.string bytes, d) => bytes.length + uptoBulk d + 1
  | (_, d) => uptoBulk d + 1
 end
def uptoSmall : (H : Type) → List (DataW H) → Bool := fun _ ds => decide (uptoBulkAll ds ≤ 1048576)
def OpenSpec.upto (s : _root_.Go.ChangeSpec) : _root_.Go.OpenSpec := { _root_.Go.OpenSpec.ofChange s with cond := some uptoSmall }

/-- 'laws.FnExactScaleOk', WHERE WHAT IT READS IS OF BULK AT MOST 1048576: true; the input reads as it did. -/
def fnExactScaleOkUptoRow : OpenClaim := { program := "ytneeplpooamffaa", sum := "8a2c6f46e2baa9b725cae78d5f0fa91b2cc06360703a19b94f81e747e530eedc", func := "loop.example/g00778/laws.FnExactScaleOk", spec := "fnExactScaleOk", apart := false, narrowed := true }
def FnExactScaleOkUptoSaid : Prop := fnExactScaleOkUptoRow.holds Try.pinned (OpenSpec.upto fnExactScaleOkSpec)

/-- 'laws.FnExactFromInt8', WHERE WHAT IT READS IS OF BULK AT MOST 1048576: true; the input reads as it did. -/
def fnExactFromInt8UptoRow : OpenClaim := { program := "ytneeplpooamffaa", sum := "8a2c6f46e2baa9b725cae78d5f0fa91b2cc06360703a19b94f81e747e530eedc", func := "loop.example/g00778/laws.FnExactFromInt8", spec := "fnExactFromInt8", apart := false, narrowed := true }
def FnExactFromInt8UptoSaid : Prop := fnExactFromInt8UptoRow.holds Try.pinned (OpenSpec.upto fnExactFromInt8Spec)

/-- 'laws.FnExactToInt8', WHERE WHAT IT READS IS OF BULK AT MOST 1048576: true; the input reads as it did. -/
def fnExactToInt8UptoRow : OpenClaim := { program := "ytneeplpooamffaa", sum := "8a2c6f46e2baa9b725cae78d5f0fa91b2cc06360703a19b94f81e747e530eedc", func := "loop.example/g00778/laws.FnExactToInt8", spec := "fnExactToInt8", recurses := true, apart := false, narrowed := true }
def FnExactToInt8UptoSaid : Prop := fnExactToInt8UptoRow.holds Try.pinned (OpenSpec.upto fnExactToInt8Spec)

/-- 'laws.FnExactMultOfScales', WHERE WHAT IT READS IS OF BULK AT MOST 1048576: true; the input reads as it did. -/
def fnExactMultOfScalesUptoRow : OpenClaim := { program := "ytneeplpooamffaa", sum := "8a2c6f46e2baa9b725cae78d5f0fa91b2cc06360703a19b94f81e747e530eedc", func := "loop.example/g00778/laws.FnExactMultOfScales", spec := "fnExactMultOfScales", apart := false, narrowed := true }
def FnExactMultOfScalesUptoSaid : Prop := fnExactMultOfScalesUptoRow.holds Try.pinned (OpenSpec.upto fnExactMultOfScalesSpec)

/-- 'laws.FnExactRangeOfReals', WHERE WHAT IT READS IS OF BULK AT MOST 1048576: true; the input reads as it did. -/
def fnExactRangeOfRealsUptoRow : OpenClaim := { program := "ytneeplpooamffaa", sum := "8a2c6f46e2baa9b725cae78d5f0fa91b2cc06360703a19b94f81e747e530eedc", func := "loop.example/g00778/laws.FnExactRangeOfReals", spec := "fnExactRangeOfReals", unfollowed := true, recurses := true, apart := false, narrowed := true }
def FnExactRangeOfRealsUptoSaid : Prop := fnExactRangeOfRealsUptoRow.holds Try.pinned (OpenSpec.upto fnExactRangeOfRealsSpec)

/-- 'laws.FnExactSymmetricScale', WHERE WHAT IT READS IS OF BULK AT MOST 1048576: true; the input reads as it did. -/
def fnExactSymmetricScaleUptoRow : OpenClaim := { program := "ytneeplpooamffaa", sum := "8a2c6f46e2baa9b725cae78d5f0fa91b2cc06360703a19b94f81e747e530eedc", func := "loop.example/g00778/laws.FnExactSymmetricScale", spec := "fnExactSymmetricScale", unfollowed := true, recurses := true, apart := false, narrowed := true }
def FnExactSymmetricScaleUptoSaid : Prop := fnExactSymmetricScaleUptoRow.holds Try.pinned (OpenSpec.upto fnExactSymmetricScaleSpec)

/-- 'laws.FnExactScaleFor', WHERE WHAT IT READS IS OF BULK AT MOST 1048576: true; the input reads as it did. -/
def fnExactScaleForUptoRow : OpenClaim := { program := "ytneeplpooamffaa", sum := "8a2c6f46e2baa9b725cae78d5f0fa91b2cc06360703a19b94f81e747e530eedc", func := "loop.example/g00778/laws.FnExactScaleFor", spec := "fnExactScaleFor", unfollowed := true, recurses := true, apart := false, narrowed := true }
def FnExactScaleForUptoSaid : Prop := fnExactScaleForUptoRow.holds Try.pinned (OpenSpec.upto fnExactScaleForSpec)

/-- 'laws.FnExactWorstError', WHERE WHAT IT READS IS OF BULK AT MOST 1048576: true; the input reads as it did. -/
def fnExactWorstErrorUptoRow : OpenClaim := { program := "ytneeplpooamffaa", sum := "8a2c6f46e2baa9b725cae78d5f0fa91b2cc06360703a19b94f81e747e530eedc", func := "loop.example/g00778/laws.FnExactWorstError", spec := "fnExactWorstError", unfollowed := true, recurses := true, apart := false, narrowed := true }
def FnExactWorstErrorUptoSaid : Prop := fnExactWorstErrorUptoRow.holds Try.pinned (OpenSpec.upto fnExactWorstErrorSpec)

/-- 'laws.FnExactRealsOf', WHERE WHAT IT READS IS OF BULK AT MOST 1048576: true; the input reads as it did. -/
def fnExactRealsOfUptoRow : OpenClaim := { program := "ytneeplpooamffaa", sum := "8a2c6f46e2baa9b725cae78d5f0fa91b2cc06360703a19b94f81e747e530eedc", func := "loop.example/g00778/laws.FnExactRealsOf", spec := "fnExactRealsOf", unfollowed := true, recurses := true, apart := false, narrowed := true }
def FnExactRealsOfUptoSaid : Prop := fnExactRealsOfUptoRow.holds Try.pinned (OpenSpec.upto fnExactRealsOfSpec)

/-- 'laws.FnExactQuantTensor', WHERE WHAT IT READS IS OF BULK AT MOST 1048576: true; the input reads as it did. -/
def fnExactQuantTensorUptoRow : OpenClaim := { program := "ytneeplpooamffaa", sum := "8a2c6f46e2baa9b725cae78d5f0fa91b2cc06360703a19b94f81e747e530eedc", func := "loop.example/g00778/laws.FnExactQuantTensor", spec := "fnExactQuantTensor", unfollowed := true, recurses := true, apart := false, narrowed := true }
def FnExactQuantTensorUptoSaid : Prop := fnExactQuantTensorUptoRow.holds Try.pinned (OpenSpec.upto fnExactQuantTensorSpec)

/-- 'laws.FnScales', WHERE WHAT IT READS IS OF BULK AT MOST 1048576: true; the input reads as it did. -/
def fnScalesUptoRow : OpenClaim := { program := "ytneeplpooamffaa", sum := "8a2c6f46e2baa9b725cae78d5f0fa91b2cc06360703a19b94f81e747e530eedc", func := "loop.example/g00778/laws.FnScales", spec := "fnScales", unfollowed := true, recurses := true, apart := false, narrowed := true }
def FnScalesUptoSaid : Prop := fnScalesUptoRow.holds Try.pinned (OpenSpec.upto fnScalesSpec)

end Rows
end Go.Proofs.Ytneeplpooamffaa
