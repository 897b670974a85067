/- Plain lemmas on lists and whole numbers that the pure statements use; no program in sight. No condition. -/
import Derived.Test.YtgolleldpmkkoaaGreatDoorOwn
set_option linter.unusedVariables false
set_option linter.unusedSimpArgs false
namespace Go.Proofs.YtgolleldpmkkoaaGreatDoorW.Aid
open Go.RowKit Go.Proofs.YtgolleldpmkkoaaGreatDoorW.PrintWords Go.Proofs.YtgolleldpmkkoaaGreatDoorW.PrintLast Go.Proofs.YtgolleldpmkkoaaGreatDoorW.PrintMore
theorem w64 {x : Int} (h0 : -9223372036854775808 ≤ x) (h1 : x ≤ 9223372036854775807) : wrap64 x = x := by
  unfold wrap64; omega
theorem w64_succ (i : Nat) (h : i < 9223372036854775807) : wrap64 ((i : Int) + 1) = ((i + 1 : Nat) : Int) := by
  rw [w64 (by omega) (by omega)]; rfl
theorem mn_eq (a b : Int) : mn a b = min a b := by unfold mn; omega
theorem st {α β : Type} {g : Option α} {f : α → Option β} {a : α} {r : Option β} (h : g = some a) (k : f a = r) : g.bind f = r := by
  rw [h]; exact k
theorem ifp {β : Type} {c : Prop} [Decidable c] {A B : Option β} {r : Option β} (h : c) (k : A = r) : (if c then A else B) = r := by
  rw [if_pos h]; exact k
theorem ifn {β : Type} {c : Prop} [Decidable c] {A B : Option β} {r : Option β} (h : ¬ c) (k : B = r) : (if c then A else B) = r := by
  rw [if_neg h]; exact k
section
variable {α : Type}
theorem drop_getD (l : List α) (d : α) (i : Nat) (h : i < l.length) : l.drop i = l.getD i d :: l.drop (i + 1) := by
  rw [List.drop_eq_getElem_cons h]
  simp [h]
theorem mem_getD (l : List α) (d : α) (i : Nat) (h : i < l.length) : l.getD i d ∈ l := by
  simp [h]
end
theorem rd_natD (l : List Int) (i : Nat) : rd l (i : Int) = l.getD i 0 := by simp [rd]
def marks (m : Int) : Nat → List Int
  | 0 => []
  | n + 1 => m :: marks (m + 1) n
end Go.Proofs.YtgolleldpmkkoaaGreatDoorW.Aid
