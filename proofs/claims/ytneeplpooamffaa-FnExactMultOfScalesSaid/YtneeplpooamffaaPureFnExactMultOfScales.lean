/- What is left of the statement FnExactMultOfScales once the Go functions are Lean functions: the program's MultOfScales and the reference's answer alike. No condition. -/
import Derived.Test.YtneeplpooamffaaQFnExactMultOfScalesx3
import Derived.Test.YtneeplpooamffaaAid
set_option linter.unusedVariables false
set_option linter.unusedSimpArgs false
namespace Go.Proofs.Ytneeplpooamffaa.Pure
open Go.RowKit Go.Proofs.Ytneeplpooamffaa.QFnExactMultOfScales Go.Proofs.YtneeplpooamffaaW.PrintWords Go.Proofs.YtneeplpooamffaaW.PrintLast Go.Proofs.YtneeplpooamffaaW.PrintMore Go.Proofs.YtneeplpooamffaaW.Aid


theorem spec_in (x lo hi : Int) : spec_l01In.f x lo hi = some (decide (lo ≤ x ∧ x ≤ hi)) := by
  unfold spec_l01In.f
  split
  · simp_all
  · simp; omega
theorem impl_in_ (x lo hi : Int) : impl_in.f x lo hi = some (decide (lo ≤ x ∧ x ≤ hi)) := by
  unfold impl_in.f
  split
  · simp_all
  · simp; omega

def sOk (n z : Int) : Bool := decide ((1 ≤ n ∧ n ≤ 1000000000) ∧ (-128 ≤ z ∧ z ≤ 127))
theorem sOk_iff {n z : Int} : sOk n z = true ↔ ((1 ≤ n ∧ n ≤ 1000000000) ∧ (-128 ≤ z ∧ z ≤ 127)) := by simp [sOk]

theorem spec_scaleOk (n z : Int) : spec_ScaleOk.f n z = some (sOk n z) := by
  unfold spec_ScaleOk.f spec_l02Int8.f
  simp only [spec_in, Option.bind_some]
  by_cases h : 1 ≤ n ∧ n ≤ 1000000000 <;> simp [sOk, h]
theorem impl_scaleOk (n z : Int) : impl_ScaleOk.f n z = some (sOk n z) := by
  unfold impl_ScaleOk.f
  simp only [impl_in_, Option.bind_some]
  by_cases h : 1 ≤ n ∧ n ≤ 1000000000 <;> simp [sOk, h]

theorem gcd_eq (k : Nat) (a b : Int) : spec_l11Gcd.l0 k a b = impl_gcd.l0 k a b := by
  induction k generalizing a b with
  | zero => rfl
  | succ k ih => simp only [spec_l11Gcd.l0, impl_gcd.l0, ih]
theorem gcd_some (k : Nat) (a b : Int) (ha : 0 < a) (hb : 0 ≤ b) (hk : b < k) : ∃ g, impl_gcd.l0 k a b = some g ∧ 0 < g := by
  induction k generalizing a b with
  | zero => omega
  | succ k ih =>
    unfold impl_gcd.l0
    by_cases h : b = 0
    · rw [if_pos h]; exact ⟨a, rfl, ha⟩
    · rw [if_neg h, tmod_pos (by omega)]
      have h1 := Int.emod_nonneg a h
      have h2 := Int.emod_lt_of_pos a (show 0 < b by omega)
      exact ih b (a % b) (by omega) h1 (by omega)
theorem u64w {x : Int} (h0 : 0 ≤ x) (h1 : x ≤ 32) : IntKind.u64.wrap x = x := by
  have : x = 0 ∨ x = 1 ∨ x = 2 ∨ x = 3 ∨ x = 4 ∨ x = 5 ∨ x = 6 ∨ x = 7 ∨ x = 8 ∨ x = 9 ∨ x = 10 ∨ x = 11 ∨ x = 12 ∨ x = 13 ∨ x = 14 ∨ x = 15 ∨ x = 16 ∨ x = 17 ∨ x = 18 ∨ x = 19 ∨ x = 20 ∨ x = 21 ∨ x = 22 ∨ x = 23 ∨ x = 24 ∨ x = 25 ∨ x = 26 ∨ x = 27 ∨ x = 28 ∨ x = 29 ∨ x = 30 ∨ x = 31 ∨ x = 32 := by omega
  rcases this with h | h | h | h | h | h | h | h | h | h | h | h | h | h | h | h | h | h | h | h | h | h | h | h | h | h | h | h | h | h | h | h | h <;> subst h <;> rfl
theorem mf_l0 (k : Nat) (a b i : Int) (h0 : 0 ≤ i) (h1 : i ≤ 31) : spec_MultFor.l0 k a b i = impl_MultFor.l0 k a b i := by
  induction k generalizing i with
  | zero => simp only [spec_MultFor.l0, impl_MultFor.l0]
  | succ k ih =>
    have hw : wrap64 (i + 1) = i + 1 := w64 (by omega) (by omega)
    simp only [spec_MultFor.l0, impl_MultFor.l0, hw, u64w h0 (by omega : i ≤ 32), u64w (by omega : 0 ≤ i + 1) (by omega : i + 1 ≤ 32)]
    by_cases h : i < 31
    · simp only [if_pos h, ih (i + 1) (by omega) (by omega)]
    · simp only [if_neg h]
theorem mf_some (d k : Nat) (a b i : Int) (hb : b ≠ 0) (h0 : 0 ≤ i) (h1 : i ≤ 31) (hd : 31 - i ≤ d) (hk : d < k) : ∃ r, impl_MultFor.l0 k a b i = some r := by
  induction d generalizing k i with
  | zero =>
    obtain ⟨k, rfl⟩ : ∃ m, k = m + 1 := ⟨k - 1, by omega⟩
    simp only [impl_MultFor.l0, if_neg (show ¬ i < 31 by omega), if_pos h0, if_neg hb]
    exact ⟨_, rfl⟩
  | succ d ih =>
    obtain ⟨k, rfl⟩ : ∃ m, k = m + 1 := ⟨k - 1, by omega⟩
    have hw : wrap64 (i + 1) = i + 1 := w64 (by omega) (by omega)
    simp only [impl_MultFor.l0, if_pos h0, if_neg hb, hw, if_pos (show 0 ≤ i + 1 by omega)]
    by_cases h : i < 31
    · rw [if_pos h]
      by_cases h2 : shl .i64 a (i + 1) < b
      · rw [if_pos h2]; exact ih k (i + 1) (by omega) (by omega) (by omega) (by omega)
      · rw [if_neg h2]; exact ⟨_, rfl⟩
    · rw [if_neg h]; exact ⟨_, rfl⟩
theorem mf (k : Nat) (a b : Int) (hk : 34 ≤ k) : ∃ r, spec_MultFor.f k a b = some r ∧ impl_MultFor.f k a b = some r := by
  obtain ⟨k, rfl⟩ : ∃ m, k = m + 1 := ⟨k - 1, by omega⟩
  unfold spec_MultFor.f impl_MultFor.f
  simp only [spec_l01In.f, spec_MultFor.j0, impl_MultFor.j0]
  by_cases h1 : 1 ≤ b
  · by_cases h2 : b ≤ 1000000
    · have hw : wrap64 (b - 1) = b - 1 := w64 (by omega) (by omega)
      simp only [if_pos h1, Option.bind_some, h2, decide_true, if_true, hw]
      by_cases h3 : 1 ≤ a
      · by_cases h4 : a ≤ b - 1
        · obtain ⟨r, hr⟩ := mf_some 31 k a b 0 (by omega) (by omega) (by omega) (by omega) (by omega)
          refine ⟨r, ?_, ?_⟩
          · simp [h3, h4, mf_l0 k a b 0 (by omega) (by omega), hr]
          · rw [if_neg (by omega), if_neg (by omega), if_neg (by simp; omega), hr]
        · exact ⟨(0, 0, false), by simp [h3, h4], by rw [if_neg (by omega), if_pos (by omega)]⟩
      · exact ⟨(0, 0, false), by simp [h3], by rw [if_pos (by omega)]⟩
    · refine ⟨(0, 0, false), by simp [h1, h2], ?_⟩
      split
      · simp
      · split
        · simp
        · rw [if_pos (by simp; omega)]
  · refine ⟨(0, 0, false), by simp [h1], ?_⟩
    split
    · simp
    · split
      · simp
      · omega
theorem mos_j (k : Nat) (b : Bool) (x x' y y' z z' : Int) (hk : 10 ^ 13 ≤ k) (h : b = false → 1 ≤ x ∧ x ≤ 1000000000 ∧ 1 ≤ y ∧ y ≤ 1000000000 ∧ 1 ≤ z ∧ z ≤ 1000000000) :
    ∃ r, spec_MultOfScales.j0 k b x x' y y' z z' = some r ∧ impl_MultOfScales.j0 k b x x' y y' z z' = some r := by
  obtain ⟨k, rfl⟩ : ∃ m, k = m + 1 := ⟨k - 1, by omega⟩
  simp only [spec_MultOfScales.j0, impl_MultOfScales.j0]
  cases b with
  | true => exact ⟨_, rfl, rfl⟩
  | false =>
    obtain ⟨hx, hx1, hy, hy1, hz, hz1⟩ := h rfl
    have hxy : x * y ≤ 1000000000 * 1000000000 := Int.mul_le_mul hx1 hy1 (by omega) (by omega)
    have hxy0 : 0 < x * y := Int.mul_pos (by omega) (by omega)
    have hw : wrap64 (x * y) = x * y := w64 (by omega) (by omega)
    have hw2 : wrap64 (z * 1000) = z * 1000 := w64 (by omega) (by omega)
    obtain ⟨g, hg, hg0⟩ := gcd_some k (x * y) (z * 1000) hxy0 (by omega) (by omega)
    obtain ⟨r, hr1, hr2⟩ := mf k (wrap64 (Int.tdiv (x * y) g)) (wrap64 (Int.tdiv (z * 1000) g)) (by omega)
    refine ⟨r, ?_, ?_⟩
    · simp only [hw, hw2, spec_l11Gcd.f, gcd_eq, hg, Option.bind_some, hr1, if_neg (show ¬ g = 0 by omega)]
      simp
    · simp only [hw, hw2, impl_gcd.f, hg, Option.bind_some, hr2, if_neg (show ¬ g = 0 by omega)]
      simp
theorem mos (k : Nat) (x x' y y' z z' : Int) (hk : 10 ^ 13 ≤ k) :
    ∃ r, spec_MultOfScales.f k x x' y y' z z' = some r ∧ impl_MultOfScales.f k x x' y y' z z' = some r := by
  unfold spec_MultOfScales.f impl_MultOfScales.f
  simp only [spec_scaleOk, impl_scaleOk, Option.bind_some]
  obtain ⟨t, ht1, ht2⟩ := mos_j k true x x' y y' z z' hk (by simp)
  by_cases hx : sOk x x' = true
  · by_cases hy : sOk y y' = true
    · obtain ⟨r, h1, h2⟩ := mos_j k (!sOk z z') x x' y y' z z' hk (fun h => by
        simp [sOk] at hx hy h; omega)
      exact ⟨r, by simp [hx, hy, h1], by simp [hx, hy, h2]⟩
    · exact ⟨t, by simp [hx, hy, ht1], by simp [hx, hy, ht2]⟩
  · exact ⟨t, by simp [hx, ht1], by simp [hx, ht2]⟩


theorem FnExactMultOfScales : laws_FnExactMultOfScales.Pure := by
  intro x x' y y' z z' _ _ _ _ _ _
  obtain ⟨k, hk⟩ : ∃ k : Nat, 10 ^ 13 ≤ k := ⟨_, Nat.le_refl _⟩
  obtain ⟨r, h1, h2⟩ := mos k x x' y y' z z' hk
  refine ⟨k, ?_⟩
  simp only [laws_FnExactMultOfScales.f, laws_toScale.f, Option.bind_some, h1, h2, if_true]
  simp

end Go.Proofs.Ytneeplpooamffaa.Pure
