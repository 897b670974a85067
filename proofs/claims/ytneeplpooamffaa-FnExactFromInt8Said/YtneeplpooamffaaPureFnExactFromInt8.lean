/- What is left of the statement FnExactFromInt8 once the Go functions are Lean functions: the program's FromInt8 and the reference's answer alike. No condition. -/
import Derived.Test.YtneeplpooamffaaQFnExactFromInt8x1
set_option linter.unusedVariables false
set_option linter.unusedSimpArgs false
namespace Go.Proofs.Ytneeplpooamffaa.Pure
open Go.RowKit Go.Proofs.Ytneeplpooamffaa.QFnExactFromInt8 Go.Proofs.YtneeplpooamffaaW.PrintWords Go.Proofs.YtneeplpooamffaaW.PrintLast Go.Proofs.YtneeplpooamffaaW.PrintMore


theorem spec_in (x lo hi : Int) : spec_l01In.f x lo hi = some (decide (lo ≤ x ∧ x ≤ hi)) := by
  unfold spec_l01In.f
  split
  · simp_all
  · simp; omega
theorem impl_in_ (x lo hi : Int) : impl_in.f x lo hi = some (decide (lo ≤ x ∧ x ≤ hi)) := by
  unfold impl_in.f
  split
  · simp_all
  · simp; omega
theorem w64 {x : Int} (h0 : -9223372036854775808 ≤ x) (h1 : x ≤ 9223372036854775807) : wrap64 x = x := by
  unfold wrap64; omega

def sOk (n z : Int) : Bool := decide ((1 ≤ n ∧ n ≤ 1000000000) ∧ (-128 ≤ z ∧ z ≤ 127))
theorem sOk_iff {n z : Int} : sOk n z = true ↔ ((1 ≤ n ∧ n ≤ 1000000000) ∧ (-128 ≤ z ∧ z ≤ 127)) := by simp [sOk]
theorem spec_scaleOk (n z : Int) : spec_ScaleOk.f n z = some (sOk n z) := by
  unfold spec_ScaleOk.f spec_l02Int8.f
  simp only [spec_in, Option.bind_some]
  by_cases h : 1 ≤ n ∧ n ≤ 1000000000 <;> simp [sOk, h]
theorem impl_scaleOk (n z : Int) : impl_ScaleOk.f n z = some (sOk n z) := by
  unfold impl_ScaleOk.f
  simp only [impl_in_, Option.bind_some]
  by_cases h : 1 ≤ n ∧ n ≤ 1000000000 <;> simp [sOk, h]

def sat8 (x : Int) : Int := mx (-128) (mn x 127)
theorem sat8_bd (x : Int) : -128 ≤ sat8 x ∧ sat8 x ≤ 127 := by unfold sat8 mx mn; repeat' split <;> omega
theorem spec_clamp (k : Nat) (hk : 1 ≤ k) (x lo hi : Int) (h : lo ≤ hi) : spec_ClampTo.f k x lo hi = some (mx lo (mn x hi)) := by
  obtain ⟨k, rfl⟩ : ∃ m, k = m + 1 := ⟨k - 1, by omega⟩
  unfold spec_ClampTo.f
  simp only [spec_ClampTo.j0]
  unfold mx mn
  repeat' split
  all_goals simp_all
  all_goals omega
theorem spec_sat8 (k : Nat) (hk : 1 ≤ k) (x : Int) : spec_Sat8.f k x = some (sat8 x) := by
  unfold spec_Sat8.f
  rw [spec_clamp k hk x _ _ (by omega)]; rfl
theorem impl_sat8 (x : Int) : impl_Sat8.f x = some (sat8 x) := rfl

def from8 (q n z : Int) : Int := mx (-1000000000) (mn ((sat8 q - z) * n) 1000000000)
theorem mul_bd {a n : Int} (h0 : -255 ≤ a) (h1 : a ≤ 255) (n0 : 1 ≤ n) (n1 : n ≤ 1000000000) : -255000000000 ≤ a * n ∧ a * n ≤ 255000000000 := by
  have h2 : (-255) * n ≤ a * n := Int.mul_le_mul_of_nonneg_right h0 (by omega)
  have h3 : a * n ≤ 255 * n := Int.mul_le_mul_of_nonneg_right h1 (by omega)
  omega
theorem spec_from8 (k : Nat) (hk : 1 ≤ k) (q n z : Int) : spec_FromInt8.f k q n z = some (if sOk n z = true then from8 q n z else 0) := by
  unfold spec_FromInt8.f
  simp only [spec_scaleOk, Option.bind_some, spec_sat8 k hk]
  cases h : sOk n z with
  | false => rfl
  | true =>
    obtain ⟨⟨h1, h2⟩, h3, h4⟩ := sOk_iff.1 h
    have hb := sat8_bd q
    have hm := mul_bd (a := sat8 q - z) (n := n) (by omega) (by omega) h1 h2
    simp only [if_true]
    rw [w64 (x := sat8 q - z) (by omega) (by omega), w64 (by omega) (by omega), spec_clamp k hk _ _ _ (by omega)]
    rfl
theorem impl_from8_ (q n z : Int) (h : sOk n z = true) : impl_Scale_fromInt8.f n z q = some (from8 q n z) := by
  obtain ⟨⟨h1, h2⟩, h3, h4⟩ := sOk_iff.1 h
  have hb := sat8_bd q
  have hm := mul_bd (a := sat8 q - z) (n := n) (by omega) (by omega) h1 h2
  unfold impl_Scale_fromInt8.f
  simp only [impl_sat8, Option.bind_some]
  rw [w64 (x := sat8 q - z) (by omega) (by omega), w64 (by omega) (by omega)]
  rfl

theorem impl_from8 (q n z : Int) : impl_FromInt8.f q n z = some (if sOk n z = true then from8 q n z else 0) := by
  unfold impl_FromInt8.f
  simp only [impl_scaleOk, Option.bind_some]
  cases h : sOk n z with
  | false => rfl
  | true => simp only [if_true, impl_from8_ q n z h, Option.bind_some]


theorem FnExactFromInt8 : laws_FnExactFromInt8.Pure := by
  intro q n z _ _ _
  refine ⟨1, ?_⟩
  simp only [laws_FnExactFromInt8.f, laws_toScale.f, Option.bind_some, spec_from8 1 (Nat.le_refl _), impl_from8, if_true]

end Go.Proofs.Ytneeplpooamffaa.Pure
