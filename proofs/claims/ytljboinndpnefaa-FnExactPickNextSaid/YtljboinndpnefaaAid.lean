/- Plain lemmas on lists and whole numbers that the pure statements use; no program in sight. No condition. -/
import Derived.Test.YtljboinndpnefaaOwn
set_option linter.unusedVariables false
set_option linter.unusedSimpArgs false
namespace Go.Proofs.YtljboinndpnefaaW.Aid
open Go.RowKit Go.Proofs.YtljboinndpnefaaW.PrintWords Go.Proofs.YtljboinndpnefaaW.PrintLast Go.Proofs.YtljboinndpnefaaW.PrintMore
theorem w64 {x : Int} (h0 : -9223372036854775808 ≤ x) (h1 : x ≤ 9223372036854775807) : wrap64 x = x := by
  unfold wrap64; omega
theorem w64_succ (i : Nat) (h : i < 9223372036854775807) : wrap64 ((i : Int) + 1) = ((i + 1 : Nat) : Int) := by
  rw [w64 (by omega) (by omega)]; rfl
theorem tdiv_pos {a b : Int} (ha : 0 ≤ a) : Int.tdiv a b = a / b := Int.tdiv_eq_ediv_of_nonneg ha
theorem tmod_pos {a b : Int} (ha : 0 ≤ a) : Int.tmod a b = a % b := Int.tmod_eq_emod_of_nonneg ha
theorem mx_eq (a b : Int) : mx a b = max a b := by unfold mx; omega
theorem mn_eq (a b : Int) : mn a b = min a b := by unfold mn; omega
/-- One step of a printed law: a call that has an answer. -/
theorem st {α β : Type} {g : Option α} {f : α → Option β} {a : α} {r : Option β} (h : g = some a) (k : f a = r) : g.bind f = r := by
  rw [h]; exact k
theorem ifp {β : Type} {c : Prop} [Decidable c] {A B : Option β} {r : Option β} (h : c) (k : A = r) : (if c then A else B) = r := by
  rw [if_pos h]; exact k
theorem ifn {β : Type} {c : Prop} [Decidable c] {A B : Option β} {r : Option β} (h : ¬ c) (k : B = r) : (if c then A else B) = r := by
  rw [if_neg h]; exact k
section
variable {α : Type}
theorem take_set_succ (x : List α) (i : Nat) (v : α) (h : i < x.length) : (x.set i v).take (i + 1) = x.take i ++ [v] := by
  rw [List.take_succ_eq_append_getElem (by simpa using h), List.take_set, List.set_eq_of_length_le (by simp; omega)]
  simp
theorem take_full {x l : List α} {n : Nat} (hx : x.length = n) (hl : l.length = n) (h : x.take n = l.take n) : x = l := by
  rwa [List.take_of_length_le (by omega), List.take_of_length_le (by omega)] at h
theorem getD_nat (l : List α) (d : α) (i : Nat) (h : i < l.length) : l.getD (i : Int).toNat d = l[i] := by
  simp [h]
theorem getD_natD (l : List α) (d : α) (i : Nat) : l.getD (i : Int).toNat d = l.getD i d := by simp
theorem take_succ_getD (l : List α) (d : α) (i : Nat) (h : i < l.length) : l.take (i + 1) = l.take i ++ [l.getD i d] := by
  rw [List.take_succ_eq_append_getElem h]
  simp [h]
theorem drop_getD (l : List α) (d : α) (i : Nat) (h : i < l.length) : l.drop i = l.getD i d :: l.drop (i + 1) := by
  rw [List.drop_eq_getElem_cons h]
  simp [h]
theorem mem_getD (l : List α) (d : α) (i : Nat) (h : i < l.length) : l.getD i d ∈ l := by
  simp [h]
theorem eq_of_drop {a b : List α} {i : Nat} (hl : a.length = b.length) (ha : a.length ≤ i) (h : a.take i = b.take i) : a = b := by
  rwa [List.take_of_length_le ha, List.take_of_length_le (by omega)] at h
end
theorem rd_natD (l : List Int) (i : Nat) : rd l (i : Int) = l.getD i 0 := by simp [rd]
/-- The numbers that a mark lays. -/
def marks (m : Int) : Nat → List Int
  | 0 => []
  | n + 1 => m :: marks (m + 1) n
theorem marks_length (m : Int) (n : Nat) : (marks m n).length = n := by
  induction n generalizing m with
  | zero => rfl
  | succ n ih => simp [marks, ih]
theorem marks_getD (m : Int) (n i : Nat) (h : i < n) : (marks m n).getD i 0 = m + i := by
  induction n generalizing m i with
  | zero => omega
  | succ n ih =>
    cases i with
    | zero => simp [marks]
    | succ i =>
      have := ih (m + 1) i (by omega)
      simp only [marks, List.getD_cons_succ, this]
      omega
theorem marks_snoc (m : Int) (n : Nat) : marks m (n + 1) = marks m n ++ [m + n] := by
  induction n generalizing m with
  | zero => simp [marks]
  | succ n ih =>
    rw [marks, ih (m + 1), marks]
    simp
    omega
end Go.Proofs.YtljboinndpnefaaW.Aid
