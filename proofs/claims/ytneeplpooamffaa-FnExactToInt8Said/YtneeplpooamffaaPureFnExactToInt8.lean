/- What is left of the statement FnExactToInt8 once the Go functions are Lean functions: the program's ToInt8 and the reference's answer alike. No condition. -/
import Derived.Test.YtneeplpooamffaaQFnExactToInt8x2
set_option linter.unusedVariables false
set_option linter.unusedSimpArgs false
namespace Go.Proofs.Ytneeplpooamffaa.Pure
open Go.RowKit Go.Proofs.Ytneeplpooamffaa.QFnExactToInt8 Go.Proofs.YtneeplpooamffaaW.PrintWords Go.Proofs.YtneeplpooamffaaW.PrintLast Go.Proofs.YtneeplpooamffaaW.PrintMore


theorem spec_in (x lo hi : Int) : spec_l01In.f x lo hi = some (decide (lo ≤ x ∧ x ≤ hi)) := by
  unfold spec_l01In.f
  split
  · simp_all
  · simp; omega
theorem impl_in_ (x lo hi : Int) : impl_in.f x lo hi = some (decide (lo ≤ x ∧ x ≤ hi)) := by
  unfold impl_in.f
  split
  · simp_all
  · simp; omega
theorem w64 {x : Int} (h0 : -9223372036854775808 ≤ x) (h1 : x ≤ 9223372036854775807) : wrap64 x = x := by
  unfold wrap64; omega

def sOk (n z : Int) : Bool := decide ((1 ≤ n ∧ n ≤ 1000000000) ∧ (-128 ≤ z ∧ z ≤ 127))
theorem sOk_iff {n z : Int} : sOk n z = true ↔ ((1 ≤ n ∧ n ≤ 1000000000) ∧ (-128 ≤ z ∧ z ≤ 127)) := by simp [sOk]
theorem spec_scaleOk (n z : Int) : spec_ScaleOk.f n z = some (sOk n z) := by
  unfold spec_ScaleOk.f spec_l02Int8.f
  simp only [spec_in, Option.bind_some]
  by_cases h : 1 ≤ n ∧ n ≤ 1000000000 <;> simp [sOk, h]
theorem impl_scaleOk (n z : Int) : impl_ScaleOk.f n z = some (sOk n z) := by
  unfold impl_ScaleOk.f
  simp only [impl_in_, Option.bind_some]
  by_cases h : 1 ≤ n ∧ n ≤ 1000000000 <;> simp [sOk, h]

def sat8 (x : Int) : Int := mx (-128) (mn x 127)
theorem sat8_bd (x : Int) : -128 ≤ sat8 x ∧ sat8 x ≤ 127 := by unfold sat8 mx mn; repeat' split <;> omega
theorem spec_clamp (k : Nat) (hk : 1 ≤ k) (x lo hi : Int) (h : lo ≤ hi) : spec_ClampTo.f k x lo hi = some (mx lo (mn x hi)) := by
  obtain ⟨k, rfl⟩ : ∃ m, k = m + 1 := ⟨k - 1, by omega⟩
  unfold spec_ClampTo.f
  simp only [spec_ClampTo.j0]
  unfold mx mn
  repeat' split
  all_goals simp_all
  all_goals omega
theorem spec_sat8 (k : Nat) (hk : 1 ≤ k) (x : Int) : spec_Sat8.f k x = some (sat8 x) := by
  unfold spec_Sat8.f
  rw [spec_clamp k hk x _ _ (by omega)]; rfl
theorem impl_sat8 (x : Int) : impl_Sat8.f x = some (sat8 x) := rfl

def isR (x : Int) : Bool := decide (-1000000000 ≤ x ∧ x ≤ 1000000000)
theorem isR_iff {x : Int} : isR x = true ↔ (-1000000000 ≤ x ∧ x ≤ 1000000000) := by simp [isR]
theorem spec_real (x : Int) : spec_l11Real.f x = some (isR x) := by unfold spec_l11Real.f; rw [spec_in]; rfl
theorem impl_real (x : Int) : impl_isReal.f x = some (isR x) := by unfold impl_isReal.f; rw [impl_in_]; rfl
def nearN (x n : Int) : Int := (2 * x + n) / (2 * n)
def near (x n : Int) : Int := if x < 0 then -nearN (-x) n else nearN x n
theorem nearN_bd {x n : Int} (x0 : 0 ≤ x) (x1 : x ≤ 1000000000) (n0 : 1 ≤ n) (n1 : n ≤ 1000000000) : 0 ≤ nearN x n ∧ nearN x n ≤ 1000000000 := by
  unfold nearN
  refine ⟨Int.ediv_nonneg (by omega) (by omega), ?_⟩
  have : (2 * x + n) / (2 * n) < 1000000001 := Int.ediv_lt_of_lt_mul (by omega) (by omega)
  omega
theorem tdivN {a b : Int} (ha : 0 ≤ a) : Int.tdiv a b = a / b := Int.tdiv_eq_ediv_of_nonneg ha
theorem near_bd {x n : Int} (h : isR x = true) (n0 : 1 ≤ n) (n1 : n ≤ 1000000000) : -1000000000 ≤ near x n ∧ near x n ≤ 1000000000 := by
  have hx := isR_iff.1 h
  unfold near
  split
  · have := nearN_bd (x := -x) (n := n) (by omega) (by omega) n0 n1
    omega
  · have := nearN_bd (x := x) (n := n) (by omega) (by omega) n0 n1
    omega
theorem spec_near (x n : Int) (h : isR x = true) (n0 : 1 ≤ n) (n1 : n ≤ 1000000000) : spec_l11Near.f x n = some (near x n) := by
  have hx := isR_iff.1 h
  unfold spec_l11Near.f near
  have hz : (2 * n = 0) = False := eq_false (by omega)
  simp only [w64 (x := 2 * n) (by omega) (by omega), hz, if_false]
  split
  · have hb := nearN_bd (x := -x) (n := n) (by omega) (by omega) n0 n1
    have e : -2 * x + n = 2 * -x + n := by omega
    rw [w64 (x := -2 * x) (by omega) (by omega), w64 (x := -2 * x + n) (by omega) (by omega), tdivN (by omega), e]
    unfold nearN at *
    rw [w64 (x := (2 * -x + n) / (2 * n)) (by omega) (by omega), w64 (by omega) (by omega)]
  · have hb := nearN_bd (x := x) (n := n) (by omega) (by omega) n0 n1
    rw [w64 (x := 2 * x) (by omega) (by omega), w64 (x := 2 * x + n) (by omega) (by omega), tdivN (by omega)]
    unfold nearN at *
    rw [w64 (by omega) (by omega)]
theorem impl_rounded_ (k : Nat) (hk : 2 ≤ k) (x n : Int) (h : isR x = true) (n0 : 1 ≤ n) (n1 : n ≤ 1000000000) : impl_rounded.f k x n = some (near x n) := by
  obtain ⟨k, rfl⟩ : ∃ m, k = m + 2 := ⟨k - 2, by omega⟩
  have hx := isR_iff.1 h
  have pos : ∀ (y : Int) (j : Nat), 0 ≤ y → y ≤ 1000000000 → impl_rounded.f (j + 1) y n = some (nearN y n) := by
    intro y j y0 y1
    have hb := nearN_bd y0 y1 n0 n1
    simp only [impl_rounded.f]
    rw [if_neg (by omega), w64 (x := 2 * n) (by omega) (by omega), if_neg (show ¬ 2 * n = 0 by omega), w64 (x := 2 * y) (by omega) (by omega), w64 (x := 2 * y + n) (by omega) (by omega), tdivN (by omega)]
    unfold nearN at *
    rw [w64 (by omega) (by omega)]
  unfold near
  split
  · have hb := nearN_bd (x := -x) (n := n) (by omega) (by omega) n0 n1
    rw [impl_rounded.f, if_pos (by assumption), w64 (x := -x) (by omega) (by omega), pos _ _ (by omega) (by omega)]
    simp only [Option.bind_some]
    rw [w64 (by omega) (by omega)]
  · exact pos x _ (by omega) (by omega)
def to8 (x n z : Int) : Int := sat8 (near x n + z)
theorem spec_to8 (k : Nat) (hk : 2 ≤ k) (x n z : Int) : spec_ToInt8.f k x n z = some (if isR x = true ∧ sOk n z = true then to8 x n z else 0) := by
  obtain ⟨k, rfl⟩ : ∃ m, k = m + 1 := ⟨k - 1, by omega⟩
  unfold spec_ToInt8.f
  simp only [spec_real, spec_scaleOk, Option.bind_some, spec_ToInt8.j0]
  cases h : isR x with
  | false => simp
  | true =>
    cases h2 : sOk n z with
    | false => simp
    | true =>
      obtain ⟨⟨h1, h2⟩, h3, h4⟩ := sOk_iff.1 h2
      have hb := near_bd h h1 h2
      simp only [if_true, Bool.not_true, Bool.false_eq_true, if_false, spec_near x n h h1 h2, Option.bind_some]
      rw [w64 (by omega) (by omega), spec_sat8 k (by omega)]
      rfl
theorem impl_to8_ (k : Nat) (hk : 2 ≤ k) (x n z : Int) (hx : isR x = true) (hs : sOk n z = true) : impl_Scale_toInt8.f k n z x = some (to8 x n z) := by
  obtain ⟨⟨h1, h2⟩, h3, h4⟩ := sOk_iff.1 hs
  have hb := near_bd hx h1 h2
  unfold impl_Scale_toInt8.f
  simp only [impl_rounded_ k hk x n hx h1 h2, Option.bind_some]
  rw [w64 (by omega) (by omega), impl_sat8]
  rfl

theorem impl_to8 (k : Nat) (hk : 2 ≤ k) (x n z : Int) : impl_ToInt8.f k x n z = some (if isR x = true ∧ sOk n z = true then to8 x n z else 0) := by
  unfold impl_ToInt8.f
  simp only [impl_real, impl_scaleOk, Option.bind_some]
  cases h : isR x with
  | false => simp
  | true =>
    cases h2 : sOk n z with
    | false => simp
    | true => simp [impl_to8_ k hk x n z h h2]


theorem FnExactToInt8 : laws_FnExactToInt8.Pure := by
  intro x n z _ _ _
  refine ⟨2, ?_⟩
  simp only [laws_FnExactToInt8.f, laws_toScale.f, Option.bind_some, spec_to8 2 (Nat.le_refl _), impl_to8 2 (Nat.le_refl _), if_true]

end Go.Proofs.Ytneeplpooamffaa.Pure
