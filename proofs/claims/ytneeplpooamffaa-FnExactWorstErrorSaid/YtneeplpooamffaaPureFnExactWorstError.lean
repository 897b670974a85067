/- What is left of the statement FnExactWorstError once the Go functions are Lean functions: the program's WorstError and the reference's answer alike. No condition. -/
import Derived.Test.YtneeplpooamffaaQFnExactWorstErrorx5
import Derived.Test.YtneeplpooamffaaAid
set_option linter.unusedVariables false
set_option linter.unusedSimpArgs false
namespace Go.Proofs.Ytneeplpooamffaa.Pure
open Go.RowKit Go.Proofs.Ytneeplpooamffaa.QFnExactWorstError Go.Proofs.YtneeplpooamffaaW.PrintWords Go.Proofs.YtneeplpooamffaaW.PrintLast Go.Proofs.YtneeplpooamffaaW.PrintMore Go.Proofs.YtneeplpooamffaaW.Aid


theorem spec_in (x lo hi : Int) : spec_l01In.f x lo hi = some (decide (lo ≤ x ∧ x ≤ hi)) := by
  unfold spec_l01In.f
  split
  · simp_all
  · simp; omega
theorem impl_in_ (x lo hi : Int) : impl_in.f x lo hi = some (decide (lo ≤ x ∧ x ≤ hi)) := by
  unfold impl_in.f
  split
  · simp_all
  · simp; omega

def sOk (n z : Int) : Bool := decide ((1 ≤ n ∧ n ≤ 1000000000) ∧ (-128 ≤ z ∧ z ≤ 127))
theorem sOk_iff {n z : Int} : sOk n z = true ↔ ((1 ≤ n ∧ n ≤ 1000000000) ∧ (-128 ≤ z ∧ z ≤ 127)) := by simp [sOk]
theorem spec_scaleOk (n z : Int) : spec_ScaleOk.f n z = some (sOk n z) := by
  unfold spec_ScaleOk.f spec_l02Int8.f
  simp only [spec_in, Option.bind_some]
  by_cases h : 1 ≤ n ∧ n ≤ 1000000000 <;> simp [sOk, h]
theorem impl_scaleOk (n z : Int) : impl_ScaleOk.f n z = some (sOk n z) := by
  unfold impl_ScaleOk.f
  simp only [impl_in_, Option.bind_some]
  by_cases h : 1 ≤ n ∧ n ≤ 1000000000 <;> simp [sOk, h]

def sat8 (x : Int) : Int := mx (-128) (mn x 127)
theorem sat8_bd (x : Int) : -128 ≤ sat8 x ∧ sat8 x ≤ 127 := by unfold sat8 mx mn; repeat' split <;> omega
theorem spec_clamp (k : Nat) (hk : 1 ≤ k) (x lo hi : Int) (h : lo ≤ hi) : spec_ClampTo.f k x lo hi = some (mx lo (mn x hi)) := by
  obtain ⟨k, rfl⟩ : ∃ m, k = m + 1 := ⟨k - 1, by omega⟩
  unfold spec_ClampTo.f
  simp only [spec_ClampTo.j0]
  unfold mx mn
  repeat' split
  all_goals simp_all
  all_goals omega
theorem spec_sat8 (k : Nat) (hk : 1 ≤ k) (x : Int) : spec_Sat8.f k x = some (sat8 x) := by
  unfold spec_Sat8.f
  rw [spec_clamp k hk x _ _ (by omega)]; rfl
theorem impl_sat8 (x : Int) : impl_Sat8.f x = some (sat8 x) := rfl

def from8 (q n z : Int) : Int := mx (-1000000000) (mn ((sat8 q - z) * n) 1000000000)
theorem mul_bd {a n : Int} (h0 : -255 ≤ a) (h1 : a ≤ 255) (n0 : 1 ≤ n) (n1 : n ≤ 1000000000) : -255000000000 ≤ a * n ∧ a * n ≤ 255000000000 := by
  have h2 : (-255) * n ≤ a * n := Int.mul_le_mul_of_nonneg_right h0 (by omega)
  have h3 : a * n ≤ 255 * n := Int.mul_le_mul_of_nonneg_right h1 (by omega)
  omega
theorem spec_from8 (k : Nat) (hk : 1 ≤ k) (q n z : Int) : spec_FromInt8.f k q n z = some (if sOk n z = true then from8 q n z else 0) := by
  unfold spec_FromInt8.f
  simp only [spec_scaleOk, Option.bind_some, spec_sat8 k hk]
  cases h : sOk n z with
  | false => rfl
  | true =>
    obtain ⟨⟨h1, h2⟩, h3, h4⟩ := sOk_iff.1 h
    have hb := sat8_bd q
    have hm := mul_bd (a := sat8 q - z) (n := n) (by omega) (by omega) h1 h2
    simp only [if_true]
    rw [w64 (x := sat8 q - z) (by omega) (by omega), w64 (by omega) (by omega), spec_clamp k hk _ _ _ (by omega)]
    rfl
theorem impl_from8_ (q n z : Int) (h : sOk n z = true) : impl_Scale_fromInt8.f n z q = some (from8 q n z) := by
  obtain ⟨⟨h1, h2⟩, h3, h4⟩ := sOk_iff.1 h
  have hb := sat8_bd q
  have hm := mul_bd (a := sat8 q - z) (n := n) (by omega) (by omega) h1 h2
  unfold impl_Scale_fromInt8.f
  simp only [impl_sat8, Option.bind_some]
  rw [w64 (x := sat8 q - z) (by omega) (by omega), w64 (by omega) (by omega)]
  rfl

def isR (x : Int) : Bool := decide (-1000000000 ≤ x ∧ x ≤ 1000000000)
theorem isR_iff {x : Int} : isR x = true ↔ (-1000000000 ≤ x ∧ x ≤ 1000000000) := by simp [isR]
theorem spec_real (x : Int) : spec_l11Real.f x = some (isR x) := by unfold spec_l11Real.f; rw [spec_in]; rfl
theorem impl_real (x : Int) : impl_isReal.f x = some (isR x) := by unfold impl_isReal.f; rw [impl_in_]; rfl

def nearN (x n : Int) : Int := (2 * x + n) / (2 * n)
def near (x n : Int) : Int := if x < 0 then -nearN (-x) n else nearN x n
theorem nearN_bd {x n : Int} (x0 : 0 ≤ x) (x1 : x ≤ 1000000000) (n0 : 1 ≤ n) (n1 : n ≤ 1000000000) : 0 ≤ nearN x n ∧ nearN x n ≤ 1000000000 := by
  unfold nearN
  refine ⟨Int.ediv_nonneg (by omega) (by omega), ?_⟩
  have : (2 * x + n) / (2 * n) < 1000000001 := Int.ediv_lt_of_lt_mul (by omega) (by omega)
  omega
theorem near_bd {x n : Int} (h : isR x = true) (n0 : 1 ≤ n) (n1 : n ≤ 1000000000) : -1000000000 ≤ near x n ∧ near x n ≤ 1000000000 := by
  have hx := isR_iff.1 h
  unfold near
  split
  · have := nearN_bd (x := -x) (n := n) (by omega) (by omega) n0 n1
    omega
  · have := nearN_bd (x := x) (n := n) (by omega) (by omega) n0 n1
    omega
theorem spec_near (x n : Int) (h : isR x = true) (n0 : 1 ≤ n) (n1 : n ≤ 1000000000) : spec_l11Near.f x n = some (near x n) := by
  have hx := isR_iff.1 h
  unfold spec_l11Near.f near
  have hz : (2 * n = 0) = False := eq_false (by omega)
  simp only [w64 (x := 2 * n) (by omega) (by omega), hz, if_false]
  split
  · have hb := nearN_bd (x := -x) (n := n) (by omega) (by omega) n0 n1
    have e : -2 * x + n = 2 * -x + n := by omega
    rw [w64 (x := -2 * x) (by omega) (by omega), w64 (x := -2 * x + n) (by omega) (by omega), tdiv_pos (by omega), e]
    unfold nearN at *
    rw [w64 (x := (2 * -x + n) / (2 * n)) (by omega) (by omega), w64 (by omega) (by omega)]
  · have hb := nearN_bd (x := x) (n := n) (by omega) (by omega) n0 n1
    rw [w64 (x := 2 * x) (by omega) (by omega), w64 (x := 2 * x + n) (by omega) (by omega), tdiv_pos (by omega)]
    unfold nearN at *
    rw [w64 (by omega) (by omega)]
theorem impl_rounded_ (k : Nat) (hk : 2 ≤ k) (x n : Int) (h : isR x = true) (n0 : 1 ≤ n) (n1 : n ≤ 1000000000) : impl_rounded.f k x n = some (near x n) := by
  obtain ⟨k, rfl⟩ : ∃ m, k = m + 2 := ⟨k - 2, by omega⟩
  have hx := isR_iff.1 h
  have pos : ∀ (y : Int) (j : Nat), 0 ≤ y → y ≤ 1000000000 → impl_rounded.f (j + 1) y n = some (nearN y n) := by
    intro y j y0 y1
    have hb := nearN_bd y0 y1 n0 n1
    simp only [impl_rounded.f]
    rw [if_neg (by omega), w64 (x := 2 * n) (by omega) (by omega), if_neg (show ¬ 2 * n = 0 by omega), w64 (x := 2 * y) (by omega) (by omega), w64 (x := 2 * y + n) (by omega) (by omega), tdiv_pos (by omega)]
    unfold nearN at *
    rw [w64 (by omega) (by omega)]
  unfold near
  split
  · have hb := nearN_bd (x := -x) (n := n) (by omega) (by omega) n0 n1
    rw [impl_rounded.f, if_pos (by assumption), w64 (x := -x) (by omega) (by omega), pos _ _ (by omega) (by omega)]
    simp only [Option.bind_some]
    rw [w64 (by omega) (by omega)]
  · exact pos x _ (by omega) (by omega)
def to8 (x n z : Int) : Int := sat8 (near x n + z)
theorem spec_to8 (k : Nat) (hk : 2 ≤ k) (x n z : Int) : spec_ToInt8.f k x n z = some (if isR x = true ∧ sOk n z = true then to8 x n z else 0) := by
  obtain ⟨k, rfl⟩ : ∃ m, k = m + 1 := ⟨k - 1, by omega⟩
  unfold spec_ToInt8.f
  simp only [spec_real, spec_scaleOk, Option.bind_some, spec_ToInt8.j0]
  cases h : isR x with
  | false => simp
  | true =>
    cases h2 : sOk n z with
    | false => simp
    | true =>
      obtain ⟨⟨h1, h2⟩, h3, h4⟩ := sOk_iff.1 h2
      have hb := near_bd h h1 h2
      simp only [if_true, Bool.not_true, Bool.false_eq_true, if_false, spec_near x n h h1 h2, Option.bind_some]
      rw [w64 (by omega) (by omega), spec_sat8 k (by omega)]
      rfl
theorem impl_to8_ (k : Nat) (hk : 2 ≤ k) (x n z : Int) (hx : isR x = true) (hs : sOk n z = true) : impl_Scale_toInt8.f k n z x = some (to8 x n z) := by
  obtain ⟨⟨h1, h2⟩, h3, h4⟩ := sOk_iff.1 hs
  have hb := near_bd hx h1 h2
  unfold impl_Scale_toInt8.f
  simp only [impl_rounded_ k hk x n hx h1 h2, Option.bind_some]
  rw [w64 (by omega) (by omega), impl_sat8]
  rfl

def lst (l : List Int) (a : Int) : Int := l.foldl min a
def grt (l : List Int) (a : Int) : Int := l.foldl max a
theorem lst_le (l : List Int) (a : Int) : lst l a ≤ a ∧ ∀ x ∈ l, lst l a ≤ x := by
  induction l generalizing a with
  | nil => simp [lst]
  | cons y l ih =>
    have h := ih (min a y)
    simp only [lst, List.foldl_cons] at *
    refine ⟨by omega, fun x hx => ?_⟩
    rcases List.mem_cons.1 hx with rfl | hx
    · omega
    · exact h.2 x hx
theorem grt_ge (l : List Int) (a : Int) : a ≤ grt l a ∧ ∀ x ∈ l, x ≤ grt l a := by
  induction l generalizing a with
  | nil => simp [grt]
  | cons y l ih =>
    have h := ih (max a y)
    simp only [grt, List.foldl_cons] at *
    refine ⟨by omega, fun x hx => ?_⟩
    rcases List.mem_cons.1 hx with rfl | hx
    · omega
    · exact h.2 x hx
theorem lst_min (l : List Int) (a b : Int) : lst l (min a b) = min a (lst l b) := by
  induction l generalizing b with
  | nil => rfl
  | cons y l ih => simp only [lst, List.foldl_cons] at *; rw [← ih]; congr 1; omega
theorem grt_max (l : List Int) (a b : Int) : grt l (max a b) = max a (grt l b) := by
  induction l generalizing b with
  | nil => rfl
  | cons y l ih => simp only [grt, List.foldl_cons] at *; rw [← ih]; congr 1; omega
theorem lst_ge (l : List Int) (a c : Int) (h : c ≤ a) (hl : ∀ x ∈ l, c ≤ x) : c ≤ lst l a := by
  induction l generalizing a with
  | nil => exact h
  | cons y l ih =>
    have := hl y (by simp)
    exact ih (min a y) (by omega) (fun x hx => hl x (by simp [hx]))
theorem grt_le (l : List Int) (a c : Int) (h : a ≤ c) (hl : ∀ x ∈ l, x ≤ c) : grt l a ≤ c := by
  induction l generalizing a with
  | nil => exact h
  | cons y l ih =>
    have := hl y (by simp)
    exact ih (max a y) (by omega) (fun x hx => hl x (by simp [hx]))
def rng (l : List Int) : Int × Int × Bool := if (1 ≤ (l.length : Int) ∧ (l.length : Int) ≤ 300) ∧ l.all isR = true then (lst l 0, grt l 0, true) else (0, 0, false)
theorem all_drop (l : List Int) (i : Nat) (h : i < l.length) : (l.drop i).all isR = (isR (l.getD i 0) && (l.drop (i + 1)).all isR) := by
  rw [drop_getD l 0 i h]; rfl
theorem spec_range_l0 (l : List Int) (hm : l.length ≤ 300) : ∀ (d k i : Nat) (a b : Int), i + d = l.length → d < k →
    spec_RangeOfReals.l0 k l a b (i : Int) = some (if (l.drop i).all isR = true then (lst (l.drop i) a, grt (l.drop i) b, true) else (0, 0, false)) := by
  intro d
  induction d with
  | zero =>
    intro k i a b hi hk
    obtain ⟨k, rfl⟩ : ∃ m, k = m + 1 := ⟨k - 1, by omega⟩
    simp only [spec_RangeOfReals.l0]
    rw [if_neg (by omega), List.drop_of_length_le (by omega)]
    rfl
  | succ d ih =>
    intro k i a b hi hk
    obtain ⟨k, rfl⟩ : ∃ m, k = m + 1 := ⟨k - 1, by omega⟩
    simp only [spec_RangeOfReals.l0]
    rw [if_pos (by omega), if_pos (by omega), all_drop l i (by omega)]
    simp only [spec_real, Option.bind_some, rd_natD, w64_succ i (show i < 9223372036854775807 by omega)]
    cases hr : isR (l.getD i 0) with
    | false => simp
    | true =>
      simp only [if_true, Bool.true_and]
      have e1 : lst (l.drop i) a = lst (l.drop (i + 1)) (min a (l.getD i 0)) := by rw [drop_getD l 0 i (by omega)]; rfl
      have e2 : grt (l.drop i) b = grt (l.drop (i + 1)) (max b (l.getD i 0)) := by rw [drop_getD l 0 i (by omega)]; rfl
      rw [e1, e2]
      split <;> split <;> rw [ih k (i + 1) _ _ (by omega) (by omega)]
      · rw [show min a (l.getD i 0) = l.getD i 0 by omega, show max b (l.getD i 0) = l.getD i 0 by omega]
      · rw [show min a (l.getD i 0) = l.getD i 0 by omega, show max b (l.getD i 0) = b by omega]
      · rw [show min a (l.getD i 0) = a by omega, show max b (l.getD i 0) = l.getD i 0 by omega]
      · rw [show min a (l.getD i 0) = a by omega, show max b (l.getD i 0) = b by omega]
theorem spec_range (k : Nat) (l : List Int) (hk : l.length < k) : spec_RangeOfReals.f k l = some (rng l) := by
  unfold spec_RangeOfReals.f rng
  simp only [spec_in, Option.bind_some, decide_eq_true_eq]
  by_cases h : 1 ≤ (l.length : Int) ∧ (l.length : Int) ≤ 300
  · rw [if_pos h, show spec_RangeOfReals.l0 k l 0 0 0 = _ from spec_range_l0 l (by omega) l.length k 0 0 0 (by omega) hk]
    simp only [List.drop_zero, h, true_and]
  · rw [if_neg h, if_neg (fun z => h z.1)]
theorem min_l0 (l : List Int) (hm : l.length ≤ 9223372036854775806) : ∀ (d k i : Nat) (a : Int), i + d = l.length → d < k → slices_Min_int_int.l0 k l a (i : Int) = some (lst (l.drop i) a) := by
  intro d
  induction d with
  | zero =>
    intro k i a hi hk
    obtain ⟨k, rfl⟩ : ∃ m, k = m + 1 := ⟨k - 1, by omega⟩
    simp only [slices_Min_int_int.l0]
    rw [if_neg (by omega), List.drop_of_length_le (by omega)]
    rfl
  | succ d ih =>
    intro k i a hi hk
    obtain ⟨k, rfl⟩ : ∃ m, k = m + 1 := ⟨k - 1, by omega⟩
    simp only [slices_Min_int_int.l0]
    rw [if_pos (by omega), if_pos (by omega), w64_succ i (by omega), ih k (i + 1) _ (by omega) (by omega), rd_natD, drop_getD l 0 i (by omega), mn_eq]
    rfl
theorem max_l0 (l : List Int) (hm : l.length ≤ 9223372036854775806) : ∀ (d k i : Nat) (a : Int), i + d = l.length → d < k → slices_Max_int_int.l0 k l a (i : Int) = some (grt (l.drop i) a) := by
  intro d
  induction d with
  | zero =>
    intro k i a hi hk
    obtain ⟨k, rfl⟩ : ∃ m, k = m + 1 := ⟨k - 1, by omega⟩
    simp only [slices_Max_int_int.l0]
    rw [if_neg (by omega), List.drop_of_length_le (by omega)]
    rfl
  | succ d ih =>
    intro k i a hi hk
    obtain ⟨k, rfl⟩ : ∃ m, k = m + 1 := ⟨k - 1, by omega⟩
    simp only [slices_Max_int_int.l0]
    rw [if_pos (by omega), if_pos (by omega), w64_succ i (by omega), ih k (i + 1) _ (by omega) (by omega), rd_natD, drop_getD l 0 i (by omega), mx_eq]
    rfl
theorem idx_l0 (l : List Int) (hm : l.length ≤ 300) : ∀ (d k i : Nat), i + d = l.length → d < k →
    ∃ r, slices_IndexFunc_int_int_at_63.l0 k l (l.length : Int) (i : Int) = some r ∧ (0 ≤ r ↔ (l.drop i).all isR = false) := by
  intro d
  induction d with
  | zero =>
    intro k i hi hk
    obtain ⟨k, rfl⟩ : ∃ m, k = m + 1 := ⟨k - 1, by omega⟩
    simp only [slices_IndexFunc_int_int_at_63.l0]
    rw [if_neg (by omega), List.drop_of_length_le (by omega)]
    exact ⟨-1, rfl, by simp⟩
  | succ d ih =>
    intro k i hi hk
    obtain ⟨k, rfl⟩ : ∃ m, k = m + 1 := ⟨k - 1, by omega⟩
    simp only [slices_IndexFunc_int_int_at_63.l0]
    rw [if_pos (by omega), if_pos (by omega), if_pos (by omega), all_drop l i (by omega)]
    unfold impl_RangeOfReals_1.f
    simp only [impl_real, Option.bind_some, rd_natD]
    cases hr : isR (l.getD i 0) with
    | false => exact ⟨i, by simp, by simp⟩
    | true =>
      obtain ⟨r, h1, h2⟩ := ih k (i + 1) (by omega) (by omega)
      refine ⟨r, ?_, by simpa using h2⟩
      rw [w64_succ i (by omega)]
      simpa using h1
theorem impl_range (k : Nat) (l : List Int) (hk : l.length + 1 < k) : impl_RangeOfReals.f k l = some (rng l) := by
  obtain ⟨k, rfl⟩ : ∃ m, k = m + 1 := ⟨k - 1, by omega⟩
  unfold impl_RangeOfReals.f rng
  simp only [impl_in_, Option.bind_some, decide_eq_true_eq, impl_RangeOfReals.j0, if_true]
  by_cases h : 1 ≤ (l.length : Int) ∧ (l.length : Int) ≤ 300
  · obtain ⟨r, h1, h2⟩ := idx_l0 l (by omega) l.length (k + 1) 0 (by omega) (by omega)
    have h1' : slices_IndexFunc_int_int_at_63.f (k + 1) l = some r := h1
    have hc : slices_ContainsFunc_int_int_at_63.f (k + 1) l = some (decide (r ≥ 0)) := by
      unfold slices_ContainsFunc_int_int_at_63.f
      rw [h1']; rfl
    rw [if_pos h, hc]
    simp only [Option.bind_some, decide_eq_true_eq]
    rw [List.drop_zero] at h2
    cases ha : l.all isR with
    | false =>
      rw [ha] at h2
      rw [if_pos (h2.2 rfl), if_neg (by simp)]
    | true =>
      rw [ha] at h2
      rw [if_neg (by intro z; exact absurd (h2.1 z) (by simp)), if_pos ⟨h, rfl⟩]
      cases l with
      | nil => simp at h
      | cons y l =>
        have e1 : slices_Min_int_int.f k (y :: l) = some (lst l y) := by
          unfold slices_Min_int_int.f
          simp only [List.length_cons] at h hk ⊢
          rw [if_neg (by omega), if_pos (by omega)]
          have := min_l0 (y :: l) (by simp only [List.length_cons]; omega) l.length k 1 y (by simp only [List.length_cons]; omega) (by omega)
          simpa [rd] using this
        have e2 : slices_Max_int_int.f k (y :: l) = some (grt l y) := by
          unfold slices_Max_int_int.f
          simp only [List.length_cons] at h hk ⊢
          rw [if_neg (by omega), if_pos (by omega)]
          have := max_l0 (y :: l) (by simp only [List.length_cons]; omega) l.length k 1 y (by simp only [List.length_cons]; omega) (by omega)
          simpa [rd] using this
        rw [e1, e2]
        simp only [Option.bind_some]
        rw [mn_eq, mx_eq, ← lst_min, ← grt_max]
        rfl
  · rw [if_neg h, if_neg (fun z => h z.1)]

theorem toIntS_l0 (l : List Int) (hm : l.length ≤ 9223372036854775806) : ∀ (d k i : Nat) (x : List Int), i + d = l.length → d < k → x.length = l.length → x.take i = l.take i → laws_toIntS.l0 k l x (i : Int) = some l := by
  intro d
  induction d with
  | zero =>
    intro k i x hi hk hx ht
    obtain ⟨k, rfl⟩ : ∃ m, k = m + 1 := ⟨k - 1, by omega⟩
    simp only [laws_toIntS.l0]
    rw [if_neg (by omega), take_full hx rfl (by rw [show l.length = i by omega]; exact ht)]
  | succ d ih =>
    intro k i x hi hk hx ht
    obtain ⟨k, rfl⟩ : ∃ m, k = m + 1 := ⟨k - 1, by omega⟩
    simp only [laws_toIntS.l0]
    rw [if_pos (by omega), if_pos (by omega), if_pos (by omega), w64_succ i (by omega)]
    refine ih k (i + 1) _ (by omega) (by omega) (by simpa using hx) ?_
    rw [Int.toNat_natCast, take_set_succ _ _ _ (by omega), ht, rd_natD, ← take_succ_getD _ _ _ (by omega)]
theorem toIntS_ (k : Nat) (l : List Int) (hk : l.length < k) (hm : l.length ≤ 35184372088832) : laws_toIntS.f k l = some l := by
  unfold laws_toIntS.f
  rw [if_pos (by omega), if_pos (by simpa using hm)]
  exact toIntS_l0 l (by omega) l.length k 0 _ (by omega) hk (by simp) (by simp)
theorem eqIntS_l0 (a b : List Int) (hm : a.length ≤ 9223372036854775806) (hl : a.length = b.length) : ∀ (d k i : Nat), i + d = a.length → d < k → a.take i = b.take i → laws_eqIntS.l0 k a b (i : Int) = some (decide (a = b)) := by
  intro d
  induction d with
  | zero =>
    intro k i hi hk ht
    obtain ⟨k, rfl⟩ : ∃ m, k = m + 1 := ⟨k - 1, by omega⟩
    simp only [laws_eqIntS.l0]
    rw [if_neg (by omega)]
    simp [eq_of_drop hl (by omega) ht]
  | succ d ih =>
    intro k i hi hk ht
    obtain ⟨k, rfl⟩ : ∃ m, k = m + 1 := ⟨k - 1, by omega⟩
    simp only [laws_eqIntS.l0]
    rw [if_pos (by omega), if_pos (by omega), if_pos (by omega), rd_natD, rd_natD]
    by_cases e : a.getD i 0 = b.getD i 0
    · rw [if_pos e, w64_succ i (by omega)]
      exact ih k (i + 1) (by omega) (by omega) (by rw [take_succ_getD _ 0 _ (by omega), take_succ_getD _ 0 _ (by omega), ht, e])
    · rw [if_neg e]
      have : ¬ a = b := by rintro rfl; exact e rfl
      simp [this]
theorem eqIntS_ (k : Nat) (a b : List Int) (hk : a.length < k) (hm : a.length ≤ 9223372036854775806) : laws_eqIntS.f k a b = some (decide (a = b)) := by
  unfold laws_eqIntS.f
  by_cases h : (a.length : Int) = (b.length : Int)
  · rw [if_pos h]
    exact eqIntS_l0 a b hm (by omega) a.length k 0 (by omega) hk (by simp)
  · rw [if_neg h]
    have : ¬ a = b := by rintro rfl; exact h rfl
    simp [this]

def errAt (n z x : Int) : Int := x - from8 (to8 x n z) n z
theorem from8_bd (q n z : Int) : -1000000000 ≤ from8 q n z ∧ from8 q n z ≤ 1000000000 := by
  unfold from8; rw [mx_eq, mn_eq]; omega
theorem errAt_bd {n z x : Int} (h : isR x = true) : -2000000000 ≤ errAt n z x ∧ errAt n z x ≤ 2000000000 := by
  have h1 := from8_bd (to8 x n z) n z
  have h2 := isR_iff.1 h
  unfold errAt; omega
def worst (n z : Int) (l : List Int) (m : Int) : Int := l.foldl (fun m x => max m (max (errAt n z x) (-errAt n z x))) m
def worstE (n z : Int) (l : List Int) : Int := if ((1 ≤ (l.length : Int) ∧ (l.length : Int) ≤ 300) ∧ l.all isR = true) ∧ sOk n z = true then worst n z l 0 else -1
theorem spec_worst_l0 (n z : Int) (l : List Int) (hm : l.length ≤ 300) (hs : sOk n z = true) (ha : l.all isR = true) : ∀ (d k i : Nat) (m : Int), i + d = l.length → d + 3 < k →
    spec_WorstError.l0 k l m (i : Int) n z = some (worst n z (l.drop i) m) := by
  intro d
  induction d with
  | zero =>
    intro k i m hi hk
    obtain ⟨k, rfl⟩ : ∃ m, k = m + 1 := ⟨k - 1, by omega⟩
    simp only [spec_WorstError.l0]
    rw [if_neg (by omega), List.drop_of_length_le (by omega)]
    rfl
  | succ d ih =>
    intro k i m hi hk
    obtain ⟨k, rfl⟩ : ∃ m, k = m + 1 := ⟨k - 1, by omega⟩
    have hx : isR (l.getD i 0) = true := List.all_eq_true.1 ha _ (mem_getD l 0 i (by omega))
    have he := errAt_bd (n := n) (z := z) hx
    simp only [spec_WorstError.l0]
    rw [if_pos (by omega), if_pos (by omega), drop_getD l 0 i (by omega)]
    simp only [rd_natD, spec_to8 k (by omega), spec_from8 k (by omega), hx, hs, and_self, if_true, Option.bind_some]
    have e : l.getD i 0 - from8 (to8 (l.getD i 0) n z) n z = errAt n z (l.getD i 0) := rfl
    have ew : worst n z (l.getD i 0 :: l.drop (i + 1)) m = worst n z (l.drop (i + 1)) (max m (max (errAt n z (l.getD i 0)) (-errAt n z (l.getD i 0)))) := rfl
    rw [e, ew, w64 (x := errAt n z (l.getD i 0)) (by omega) (by omega), w64 (x := -errAt n z (l.getD i 0)) (by omega) (by omega), w64_succ i (by omega)]
    repeat' split
    all_goals rw [ih k (i + 1) _ (by omega) (by omega)]
    all_goals congr 2
    all_goals omega
theorem spec_worst (k : Nat) (l : List Int) (n z : Int) (hk : l.length + 5 < k) : spec_WorstError.f k l n z = some (worstE n z l) := by
  obtain ⟨k, rfl⟩ : ∃ m, k = m + 1 := ⟨k - 1, by omega⟩
  unfold spec_WorstError.f worstE
  simp only [spec_range (k + 1) l (by omega), spec_scaleOk, Option.bind_some, rng, spec_WorstError.j0]
  by_cases h : (1 ≤ (l.length : Int) ∧ (l.length : Int) ≤ 300) ∧ l.all isR = true
  · simp only [if_pos h, if_true]
    cases hs : sOk n z with
    | false => simp
    | true =>
      have := spec_worst_l0 n z l (by omega) hs h.2 l.length k 0 0 (by omega) (by omega)
      simpa [h.1.1, h.1.2, h.2] using this
  · simp only [if_neg h, Bool.false_eq_true, if_false, if_true]
    rw [if_neg (fun w => h w.1)]
theorem impl_worst_l0 (n z : Int) (l : List Int) (hm : l.length ≤ 300) (hs : sOk n z = true) (ha : l.all isR = true) : ∀ (d k i : Nat) (m : Int), i + d = l.length → d + 3 < k →
    impl_WorstError.l0 k m l (l.length : Int) (i : Int) n z = some (worst n z (l.drop i) m) := by
  intro d
  induction d with
  | zero =>
    intro k i m hi hk
    obtain ⟨k, rfl⟩ : ∃ m, k = m + 1 := ⟨k - 1, by omega⟩
    simp only [impl_WorstError.l0]
    rw [if_neg (by omega), List.drop_of_length_le (by omega)]
    rfl
  | succ d ih =>
    intro k i m hi hk
    obtain ⟨k, rfl⟩ : ∃ m, k = m + 1 := ⟨k - 1, by omega⟩
    have hx : isR (l.getD i 0) = true := List.all_eq_true.1 ha _ (mem_getD l 0 i (by omega))
    have he := errAt_bd (n := n) (z := z) hx
    simp only [impl_WorstError.l0]
    rw [if_pos (by omega), if_pos (by omega), if_pos (by omega), drop_getD l 0 i (by omega)]
    simp only [rd_natD, impl_to8_ k (by omega) _ n z hx hs, impl_from8_ _ n z hs, Option.bind_some]
    have e : l.getD i 0 - from8 (to8 (l.getD i 0) n z) n z = errAt n z (l.getD i 0) := rfl
    have ew : worst n z (l.getD i 0 :: l.drop (i + 1)) m = worst n z (l.drop (i + 1)) (max m (max (errAt n z (l.getD i 0)) (-errAt n z (l.getD i 0)))) := rfl
    rw [e, ew, w64 (x := errAt n z (l.getD i 0)) (by omega) (by omega), w64 (x := -errAt n z (l.getD i 0)) (by omega) (by omega), w64_succ i (by omega)]
    rw [ih k (i + 1) _ (by omega) (by omega), mx_eq, mx_eq]
    congr 2
    omega
theorem impl_worst (k : Nat) (l : List Int) (n z : Int) (hk : l.length + 5 < k) : impl_WorstError.f k l n z = some (worstE n z l) := by
  obtain ⟨k, rfl⟩ : ∃ m, k = m + 1 := ⟨k - 1, by omega⟩
  unfold impl_WorstError.f worstE
  simp only [impl_range (k + 1) l (by omega), impl_scaleOk, Option.bind_some, rng, impl_WorstError.j0]
  by_cases h : (1 ≤ (l.length : Int) ∧ (l.length : Int) ≤ 300) ∧ l.all isR = true
  · simp only [if_pos h, if_true]
    cases hs : sOk n z with
    | false => simp
    | true =>
      have := impl_worst_l0 n z l (by omega) hs h.2 l.length k 0 0 (by omega) (by omega)
      simpa [h.1.1, h.1.2, h.2] using this
  · simp only [if_neg h, Bool.false_eq_true, if_false, if_true]
    rw [if_neg (fun w => h w.1)]


theorem FnExactWorstError : laws_FnExactWorstError.Pure := by
  intro l n z hl _ _
  obtain ⟨k, hk⟩ : ∃ k : Nat, 2 * l.length + 2000000 ≤ k := ⟨_, Nat.le_refl _⟩
  refine ⟨k, ?_⟩
  unfold laws_FnExactWorstError.f
  by_cases h : (l.length : Int) > 1048576
  · rw [if_pos h]
  · rw [if_neg h]

    simp only [toIntS_ k l (by omega) (by omega), laws_toScale.f, spec_worst k l n z (by omega), impl_worst k l n z (by omega), eqIntS_ k l l (by omega) (by omega), Option.bind_some]
    simp

end Go.Proofs.Ytneeplpooamffaa.Pure
