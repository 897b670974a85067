/- What is left of the statement FnQuantized once the Go functions are Lean functions: a drawn tensor of reals is quantised alike by both, is right, and its reals come back alike; the multiplier lies within its bounds. No condition. -/
import Derived.Test.YtdniejjhkkepcaaQFnQuantizedx14
import Derived.Test.YtdniejjhkkepcaaAid
set_option linter.unusedVariables false
set_option linter.unusedSimpArgs false
namespace Go.Proofs.Ytdniejjhkkepcaa.Pure
open Go.RowKit Go.Proofs.Ytdniejjhkkepcaa.QFnQuantized Go.Proofs.YtdniejjhkkepcaaW.PrintWords Go.Proofs.YtdniejjhkkepcaaW.PrintLast Go.Proofs.YtdniejjhkkepcaaW.PrintMore Go.Proofs.YtdniejjhkkepcaaW.Aid


theorem spec_in (x lo hi : Int) : spec_l01In.f x lo hi = some (decide (lo ≤ x ∧ x ≤ hi)) := by
  unfold spec_l01In.f
  split
  · simp_all
  · simp; omega
theorem impl_in_ (x lo hi : Int) : impl_in.f x lo hi = some (decide (lo ≤ x ∧ x ≤ hi)) := by
  unfold impl_in.f
  split
  · simp_all
  · simp; omega

def sOk (n z : Int) : Bool := decide ((1 ≤ n ∧ n ≤ 1000000000) ∧ (-128 ≤ z ∧ z ≤ 127))
theorem sOk_iff {n z : Int} : sOk n z = true ↔ ((1 ≤ n ∧ n ≤ 1000000000) ∧ (-128 ≤ z ∧ z ≤ 127)) := by simp [sOk]

theorem spec_scaleOk (n z : Int) : spec_ScaleOk.f n z = some (sOk n z) := by
  unfold spec_ScaleOk.f spec_l02Int8.f
  simp only [spec_in, Option.bind_some]
  by_cases h : 1 ≤ n ∧ n ≤ 1000000000 <;> simp [sOk, h]
theorem impl_scaleOk (n z : Int) : impl_ScaleOk.f n z = some (sOk n z) := by
  unfold impl_ScaleOk.f
  simp only [impl_in_, Option.bind_some]
  by_cases h : 1 ≤ n ∧ n ≤ 1000000000 <;> simp [sOk, h]

def sat8 (x : Int) : Int := mx (-128) (mn x 127)
theorem sat8_bd (x : Int) : -128 ≤ sat8 x ∧ sat8 x ≤ 127 := by unfold sat8 mx mn; repeat' split <;> omega
theorem spec_clamp (k : Nat) (hk : 1 ≤ k) (x lo hi : Int) (h : lo ≤ hi) : spec_ClampTo.f k x lo hi = some (mx lo (mn x hi)) := by
  obtain ⟨k, rfl⟩ : ∃ m, k = m + 1 := ⟨k - 1, by omega⟩
  unfold spec_ClampTo.f
  simp only [spec_ClampTo.j0]
  unfold mx mn
  repeat' split
  all_goals simp_all
  all_goals omega
theorem spec_sat8 (k : Nat) (hk : 1 ≤ k) (x : Int) : spec_Sat8.f k x = some (sat8 x) := by
  unfold spec_Sat8.f
  rw [spec_clamp k hk x _ _ (by omega)]; rfl
theorem impl_sat8 (x : Int) : impl_Sat8.f x = some (sat8 x) := rfl

def from8 (q n z : Int) : Int := mx (-1000000000) (mn ((sat8 q - z) * n) 1000000000)
theorem mul_bd {a n : Int} (h0 : -255 ≤ a) (h1 : a ≤ 255) (n0 : 1 ≤ n) (n1 : n ≤ 1000000000) : -255000000000 ≤ a * n ∧ a * n ≤ 255000000000 := by
  have h2 : (-255) * n ≤ a * n := Int.mul_le_mul_of_nonneg_right h0 (by omega)
  have h3 : a * n ≤ 255 * n := Int.mul_le_mul_of_nonneg_right h1 (by omega)
  omega
theorem spec_from8 (k : Nat) (hk : 1 ≤ k) (q n z : Int) : spec_FromInt8.f k q n z = some (if sOk n z = true then from8 q n z else 0) := by
  unfold spec_FromInt8.f
  simp only [spec_scaleOk, Option.bind_some, spec_sat8 k hk]
  cases h : sOk n z with
  | false => rfl
  | true =>
    obtain ⟨⟨h1, h2⟩, h3, h4⟩ := sOk_iff.1 h
    have hb := sat8_bd q
    have hm := mul_bd (a := sat8 q - z) (n := n) (by omega) (by omega) h1 h2
    simp only [if_true]
    rw [w64 (x := sat8 q - z) (by omega) (by omega), w64 (by omega) (by omega), spec_clamp k hk _ _ _ (by omega)]
    rfl
theorem impl_from8_ (q n z : Int) (h : sOk n z = true) : impl_Scale_fromInt8.f n z q = some (from8 q n z) := by
  obtain ⟨⟨h1, h2⟩, h3, h4⟩ := sOk_iff.1 h
  have hb := sat8_bd q
  have hm := mul_bd (a := sat8 q - z) (n := n) (by omega) (by omega) h1 h2
  unfold impl_Scale_fromInt8.f
  simp only [impl_sat8, Option.bind_some]
  rw [w64 (x := sat8 q - z) (by omega) (by omega), w64 (by omega) (by omega)]
  rfl

def isR (x : Int) : Bool := decide (-1000000000 ≤ x ∧ x ≤ 1000000000)
theorem isR_iff {x : Int} : isR x = true ↔ (-1000000000 ≤ x ∧ x ≤ 1000000000) := by simp [isR]
theorem spec_real (x : Int) : spec_l11Real.f x = some (isR x) := by unfold spec_l11Real.f; rw [spec_in]; rfl
theorem impl_real (x : Int) : impl_isReal.f x = some (isR x) := by unfold impl_isReal.f; rw [impl_in_]; rfl

def nearN (x n : Int) : Int := (2 * x + n) / (2 * n)
def near (x n : Int) : Int := if x < 0 then -nearN (-x) n else nearN x n
theorem nearN_bd {x n : Int} (x0 : 0 ≤ x) (x1 : x ≤ 1000000000) (n0 : 1 ≤ n) (n1 : n ≤ 1000000000) : 0 ≤ nearN x n ∧ nearN x n ≤ 1000000000 := by
  unfold nearN
  refine ⟨Int.ediv_nonneg (by omega) (by omega), ?_⟩
  have : (2 * x + n) / (2 * n) < 1000000001 := Int.ediv_lt_of_lt_mul (by omega) (by omega)
  omega
theorem near_bd {x n : Int} (h : isR x = true) (n0 : 1 ≤ n) (n1 : n ≤ 1000000000) : -1000000000 ≤ near x n ∧ near x n ≤ 1000000000 := by
  have hx := isR_iff.1 h
  unfold near
  split
  · have := nearN_bd (x := -x) (n := n) (by omega) (by omega) n0 n1
    omega
  · have := nearN_bd (x := x) (n := n) (by omega) (by omega) n0 n1
    omega
theorem spec_near (x n : Int) (h : isR x = true) (n0 : 1 ≤ n) (n1 : n ≤ 1000000000) : spec_l11Near.f x n = some (near x n) := by
  have hx := isR_iff.1 h
  unfold spec_l11Near.f near
  have hz : (2 * n = 0) = False := eq_false (by omega)
  simp only [w64 (x := 2 * n) (by omega) (by omega), hz, if_false]
  split
  · have hb := nearN_bd (x := -x) (n := n) (by omega) (by omega) n0 n1
    have e : -2 * x + n = 2 * -x + n := by omega
    rw [w64 (x := -2 * x) (by omega) (by omega), w64 (x := -2 * x + n) (by omega) (by omega), tdiv_pos (by omega), e]
    unfold nearN at *
    rw [w64 (x := (2 * -x + n) / (2 * n)) (by omega) (by omega), w64 (by omega) (by omega)]
  · have hb := nearN_bd (x := x) (n := n) (by omega) (by omega) n0 n1
    rw [w64 (x := 2 * x) (by omega) (by omega), w64 (x := 2 * x + n) (by omega) (by omega), tdiv_pos (by omega)]
    unfold nearN at *
    rw [w64 (by omega) (by omega)]
theorem impl_rounded_ (k : Nat) (hk : 2 ≤ k) (x n : Int) (h : isR x = true) (n0 : 1 ≤ n) (n1 : n ≤ 1000000000) : impl_rounded.f k x n = some (near x n) := by
  obtain ⟨k, rfl⟩ : ∃ m, k = m + 2 := ⟨k - 2, by omega⟩
  have hx := isR_iff.1 h
  have pos : ∀ (y : Int) (j : Nat), 0 ≤ y → y ≤ 1000000000 → impl_rounded.f (j + 1) y n = some (nearN y n) := by
    intro y j y0 y1
    have hb := nearN_bd y0 y1 n0 n1
    simp only [impl_rounded.f]
    rw [if_neg (by omega), w64 (x := 2 * n) (by omega) (by omega), if_neg (show ¬ 2 * n = 0 by omega), w64 (x := 2 * y) (by omega) (by omega), w64 (x := 2 * y + n) (by omega) (by omega), tdiv_pos (by omega)]
    unfold nearN at *
    rw [w64 (by omega) (by omega)]
  unfold near
  split
  · have hb := nearN_bd (x := -x) (n := n) (by omega) (by omega) n0 n1
    rw [impl_rounded.f, if_pos (by assumption), w64 (x := -x) (by omega) (by omega), pos _ _ (by omega) (by omega)]
    simp only [Option.bind_some]
    rw [w64 (by omega) (by omega)]
  · exact pos x _ (by omega) (by omega)
def to8 (x n z : Int) : Int := sat8 (near x n + z)
theorem spec_to8 (k : Nat) (hk : 2 ≤ k) (x n z : Int) : spec_ToInt8.f k x n z = some (if isR x = true ∧ sOk n z = true then to8 x n z else 0) := by
  obtain ⟨k, rfl⟩ : ∃ m, k = m + 1 := ⟨k - 1, by omega⟩
  unfold spec_ToInt8.f
  simp only [spec_real, spec_scaleOk, Option.bind_some, spec_ToInt8.j0]
  cases h : isR x with
  | false => simp
  | true =>
    cases h2 : sOk n z with
    | false => simp
    | true =>
      obtain ⟨⟨h1, h2⟩, h3, h4⟩ := sOk_iff.1 h2
      have hb := near_bd h h1 h2
      simp only [if_true, Bool.not_true, Bool.false_eq_true, if_false, spec_near x n h h1 h2, Option.bind_some]
      rw [w64 (by omega) (by omega), spec_sat8 k (by omega)]
      rfl
theorem impl_to8_ (k : Nat) (hk : 2 ≤ k) (x n z : Int) (hx : isR x = true) (hs : sOk n z = true) : impl_Scale_toInt8.f k n z x = some (to8 x n z) := by
  obtain ⟨⟨h1, h2⟩, h3, h4⟩ := sOk_iff.1 hs
  have hb := near_bd hx h1 h2
  unfold impl_Scale_toInt8.f
  simp only [impl_rounded_ k hk x n hx h1 h2, Option.bind_some]
  rw [w64 (by omega) (by omega), impl_sat8]
  rfl

def lst (l : List Int) (a : Int) : Int := l.foldl min a
def grt (l : List Int) (a : Int) : Int := l.foldl max a
theorem lst_le (l : List Int) (a : Int) : lst l a ≤ a ∧ ∀ x ∈ l, lst l a ≤ x := by
  induction l generalizing a with
  | nil => simp [lst]
  | cons y l ih =>
    have h := ih (min a y)
    simp only [lst, List.foldl_cons] at *
    refine ⟨by omega, fun x hx => ?_⟩
    rcases List.mem_cons.1 hx with rfl | hx
    · omega
    · exact h.2 x hx
theorem grt_ge (l : List Int) (a : Int) : a ≤ grt l a ∧ ∀ x ∈ l, x ≤ grt l a := by
  induction l generalizing a with
  | nil => simp [grt]
  | cons y l ih =>
    have h := ih (max a y)
    simp only [grt, List.foldl_cons] at *
    refine ⟨by omega, fun x hx => ?_⟩
    rcases List.mem_cons.1 hx with rfl | hx
    · omega
    · exact h.2 x hx
theorem lst_min (l : List Int) (a b : Int) : lst l (min a b) = min a (lst l b) := by
  induction l generalizing b with
  | nil => rfl
  | cons y l ih => simp only [lst, List.foldl_cons] at *; rw [← ih]; congr 1; omega
theorem grt_max (l : List Int) (a b : Int) : grt l (max a b) = max a (grt l b) := by
  induction l generalizing b with
  | nil => rfl
  | cons y l ih => simp only [grt, List.foldl_cons] at *; rw [← ih]; congr 1; omega
theorem lst_ge (l : List Int) (a c : Int) (h : c ≤ a) (hl : ∀ x ∈ l, c ≤ x) : c ≤ lst l a := by
  induction l generalizing a with
  | nil => exact h
  | cons y l ih =>
    have := hl y (by simp)
    exact ih (min a y) (by omega) (fun x hx => hl x (by simp [hx]))
theorem grt_le (l : List Int) (a c : Int) (h : a ≤ c) (hl : ∀ x ∈ l, x ≤ c) : grt l a ≤ c := by
  induction l generalizing a with
  | nil => exact h
  | cons y l ih =>
    have := hl y (by simp)
    exact ih (max a y) (by omega) (fun x hx => hl x (by simp [hx]))
def rng (l : List Int) : Int × Int × Bool := if (1 ≤ (l.length : Int) ∧ (l.length : Int) ≤ 300) ∧ l.all isR = true then (lst l 0, grt l 0, true) else (0, 0, false)
theorem all_drop (l : List Int) (i : Nat) (h : i < l.length) : (l.drop i).all isR = (isR (l.getD i 0) && (l.drop (i + 1)).all isR) := by
  rw [drop_getD l 0 i h]; rfl
theorem min_l0 (l : List Int) (hm : l.length ≤ 9223372036854775806) : ∀ (d k i : Nat) (a : Int), i + d = l.length → d < k → slices_Min_int_int.l0 k l a (i : Int) = some (lst (l.drop i) a) := by
  intro d
  induction d with
  | zero =>
    intro k i a hi hk
    obtain ⟨k, rfl⟩ : ∃ m, k = m + 1 := ⟨k - 1, by omega⟩
    simp only [slices_Min_int_int.l0]
    rw [if_neg (by omega), List.drop_of_length_le (by omega)]
    rfl
  | succ d ih =>
    intro k i a hi hk
    obtain ⟨k, rfl⟩ : ∃ m, k = m + 1 := ⟨k - 1, by omega⟩
    simp only [slices_Min_int_int.l0]
    rw [if_pos (by omega), if_pos (by omega), w64_succ i (by omega), ih k (i + 1) _ (by omega) (by omega), rd_natD, drop_getD l 0 i (by omega), mn_eq]
    rfl
theorem max_l0 (l : List Int) (hm : l.length ≤ 9223372036854775806) : ∀ (d k i : Nat) (a : Int), i + d = l.length → d < k → slices_Max_int_int.l0 k l a (i : Int) = some (grt (l.drop i) a) := by
  intro d
  induction d with
  | zero =>
    intro k i a hi hk
    obtain ⟨k, rfl⟩ : ∃ m, k = m + 1 := ⟨k - 1, by omega⟩
    simp only [slices_Max_int_int.l0]
    rw [if_neg (by omega), List.drop_of_length_le (by omega)]
    rfl
  | succ d ih =>
    intro k i a hi hk
    obtain ⟨k, rfl⟩ : ∃ m, k = m + 1 := ⟨k - 1, by omega⟩
    simp only [slices_Max_int_int.l0]
    rw [if_pos (by omega), if_pos (by omega), w64_succ i (by omega), ih k (i + 1) _ (by omega) (by omega), rd_natD, drop_getD l 0 i (by omega), mx_eq]
    rfl
theorem idx_l0 (l : List Int) (hm : l.length ≤ 300) : ∀ (d k i : Nat), i + d = l.length → d < k →
    ∃ r, slices_IndexFunc_int_int_at_63.l0 k l (l.length : Int) (i : Int) = some r ∧ (0 ≤ r ↔ (l.drop i).all isR = false) := by
  intro d
  induction d with
  | zero =>
    intro k i hi hk
    obtain ⟨k, rfl⟩ : ∃ m, k = m + 1 := ⟨k - 1, by omega⟩
    simp only [slices_IndexFunc_int_int_at_63.l0]
    rw [if_neg (by omega), List.drop_of_length_le (by omega)]
    exact ⟨-1, rfl, by simp⟩
  | succ d ih =>
    intro k i hi hk
    obtain ⟨k, rfl⟩ : ∃ m, k = m + 1 := ⟨k - 1, by omega⟩
    simp only [slices_IndexFunc_int_int_at_63.l0]
    rw [if_pos (by omega), if_pos (by omega), if_pos (by omega), all_drop l i (by omega)]
    unfold impl_RangeOfReals_1.f
    simp only [impl_real, Option.bind_some, rd_natD]
    cases hr : isR (l.getD i 0) with
    | false => exact ⟨i, by simp, by simp⟩
    | true =>
      obtain ⟨r, h1, h2⟩ := ih k (i + 1) (by omega) (by omega)
      refine ⟨r, ?_, by simpa using h2⟩
      rw [w64_succ i (by omega)]
      simpa using h1
theorem impl_range (k : Nat) (l : List Int) (hk : l.length + 1 < k) : impl_RangeOfReals.f k l = some (rng l) := by
  obtain ⟨k, rfl⟩ : ∃ m, k = m + 1 := ⟨k - 1, by omega⟩
  unfold impl_RangeOfReals.f rng
  simp only [impl_in_, Option.bind_some, decide_eq_true_eq, impl_RangeOfReals.j0, if_true]
  by_cases h : 1 ≤ (l.length : Int) ∧ (l.length : Int) ≤ 300
  · obtain ⟨r, h1, h2⟩ := idx_l0 l (by omega) l.length (k + 1) 0 (by omega) (by omega)
    have h1' : slices_IndexFunc_int_int_at_63.f (k + 1) l = some r := h1
    have hc : slices_ContainsFunc_int_int_at_63.f (k + 1) l = some (decide (r ≥ 0)) := by
      unfold slices_ContainsFunc_int_int_at_63.f
      rw [h1']; rfl
    rw [if_pos h, hc]
    simp only [Option.bind_some, decide_eq_true_eq]
    rw [List.drop_zero] at h2
    cases ha : l.all isR with
    | false =>
      rw [ha] at h2
      rw [if_pos (h2.2 rfl), if_neg (by simp)]
    | true =>
      rw [ha] at h2
      rw [if_neg (by intro z; exact absurd (h2.1 z) (by simp)), if_pos ⟨h, rfl⟩]
      cases l with
      | nil => simp at h
      | cons y l =>
        have e1 : slices_Min_int_int.f k (y :: l) = some (lst l y) := by
          unfold slices_Min_int_int.f
          simp only [List.length_cons] at h hk ⊢
          rw [if_neg (by omega), if_pos (by omega)]
          have := min_l0 (y :: l) (by simp only [List.length_cons]; omega) l.length k 1 y (by simp only [List.length_cons]; omega) (by omega)
          simpa [rd] using this
        have e2 : slices_Max_int_int.f k (y :: l) = some (grt l y) := by
          unfold slices_Max_int_int.f
          simp only [List.length_cons] at h hk ⊢
          rw [if_neg (by omega), if_pos (by omega)]
          have := max_l0 (y :: l) (by simp only [List.length_cons]; omega) l.length k 1 y (by simp only [List.length_cons]; omega) (by omega)
          simpa [rd] using this
        rw [e1, e2]
        simp only [Option.bind_some]
        rw [mn_eq, mx_eq, ← lst_min, ← grt_max]
        rfl
  · rw [if_neg h, if_neg (fun z => h z.1)]

theorem down_eq (a b : Int) (hb : 0 < b) : (if Int.tmod a b < 0 then Int.tdiv a b - 1 else Int.tdiv a b) = a / b := by
  have e1 := Int.tdiv_eq_ediv (a := a) (b := b)
  have e2 := Int.mul_tdiv_add_tmod a b
  have e3 := Int.mul_ediv_add_emod a b
  have e4 := Int.emod_nonneg a (show b ≠ 0 by omega)
  have e5 := Int.emod_lt_of_pos a hb
  have hs : b.sign = 1 := Int.sign_eq_one_of_pos hb
  rw [hs] at e1
  by_cases h : 0 ≤ a ∨ b ∣ a
  · rw [if_pos h, Int.add_zero] at e1
    rw [e1] at e2 ⊢
    rw [if_neg (by omega)]
  · rw [if_neg h] at e1
    rw [e1, Int.mul_add, Int.mul_one] at e2
    have : ¬ a % b = 0 := fun z => h (.inr (Int.dvd_of_emod_eq_zero z))
    rw [if_pos (by omega), e1]
    omega
theorem ediv_bd {a b m : Int} (hb : 0 < b) (h0 : -m ≤ a) (h1 : a ≤ m) (hm : 0 ≤ m) : -m ≤ a / b ∧ a / b ≤ m := by
  constructor
  · refine (Int.le_ediv_iff_mul_le hb).2 ?_
    have : (-m) * b ≤ (-m) * 1 := Int.mul_le_mul_of_nonpos_left (by omega) (by omega)
    omega
  · have h2 : a / b ≤ a / b * b ∨ a / b ≤ 0 := by
      rcases Int.lt_or_le 0 (a / b) with h | h
      · left
        have : a / b * 1 ≤ a / b * b := Int.mul_le_mul_of_nonneg_left (by omega) (by omega)
        omega
      · exact .inr h
    have := Int.ediv_mul_le a (show b ≠ 0 by omega)
    omega
theorem impl_down_ (a b : Int) (hb : 0 < b) (h0 : -4000000000 ≤ a) (h1 : a ≤ 4000000000) : impl_down.f a b = some (a / b) := by
  have hd := ediv_bd hb h0 h1 (by omega)
  have he := down_eq a b hb
  unfold impl_down.f
  rw [if_neg (by omega)]
  split at he
  · rename_i h
    rw [if_pos h, w64 (x := Int.tdiv a b) (by omega) (by omega), he, w64 (by omega) (by omega)]
  · rename_i h
    rw [if_neg h, he, w64 (by omega) (by omega)]
def upN (a b : Int) : Int := max 1 (-(-a / b))
theorem impl_up_ (a b : Int) (hb : 0 < b) (h0 : -4000000000 ≤ a) (h1 : a ≤ 4000000000) : impl_up.f a b = some (-(-a / b)) := by
  have hd := ediv_bd (a := -a) (m := 4000000000) hb (by omega) (by omega) (by omega)
  unfold impl_up.f
  rw [w64 (x := -a) (by omega) (by omega), impl_down_ _ b hb (by omega) (by omega)]
  simp only [Option.bind_some]
  rw [w64 (x := -(-a / b)) (by omega) (by omega)]
theorem mx_upN (a b : Int) : mx 1 (-(-a / b)) = upN a b := by unfold upN; rw [mx_eq]
theorem rng_bd {l : List Int} (h : l.all isR = true) : -1000000000 ≤ lst l 0 ∧ lst l 0 ≤ 0 ∧ 0 ≤ grt l 0 ∧ grt l 0 ≤ 1000000000 := by
  have hr : ∀ x ∈ l, -1000000000 ≤ x ∧ x ≤ 1000000000 := fun x hx => isR_iff.1 (List.all_eq_true.1 h x hx)
  exact ⟨lst_ge l 0 _ (by omega) (fun x hx => (hr x hx).1), (lst_le l 0).1, (grt_ge l 0).1, grt_le l 0 _ (by omega) (fun x hx => (hr x hx).2)⟩

def sNum (l : List Int) : Int := upN (grt l 0 - lst l 0) 255
def sZero (l : List Int) : Int := sat8 (-128 - lst l 0 / sNum l)
def okL (l : List Int) : Prop := (1 ≤ (l.length : Int) ∧ (l.length : Int) ≤ 300) ∧ l.all isR = true
instance (l : List Int) : Decidable (okL l) := by unfold okL; infer_instance
def sfor (l : List Int) : Int × Int × Bool := if okL l then (sNum l, sZero l, true) else (0, 0, false)
theorem rng_ok (l : List Int) : rng l = if okL l then (lst l 0, grt l 0, true) else (0, 0, false) := rfl
theorem sNum_bd {l : List Int} (h : okL l) : 1 ≤ sNum l ∧ sNum l ≤ 7843138 := by
  have hb := rng_bd h.2
  unfold sNum upN
  omega
theorem sZero_bd (l : List Int) : -128 ≤ sZero l ∧ sZero l ≤ 127 := sat8_bd _
theorem sOk_for {l : List Int} (h : okL l) : sOk (sNum l) (sZero l) = true := by
  have h1 := sNum_bd h
  have h2 := sZero_bd l
  exact sOk_iff.2 ⟨⟨by omega, by omega⟩, by omega, by omega⟩
theorem impl_sfor (k : Nat) (l : List Int) (hk : l.length + 1 < k) : impl_ScaleFor.f k l = some (sfor l) := by
  unfold impl_ScaleFor.f sfor
  simp only [impl_range k l hk, Option.bind_some, rng_ok]
  by_cases h : okL l
  · have hb := rng_bd h.2
    have hn := sNum_bd h
    have e : upN (grt l 0 - lst l 0) 255 = sNum l := rfl
    have hd := ediv_bd (a := lst l 0) (b := sNum l) (m := 1000000000) (by omega) (by omega) (by omega) (by omega)
    simp only [if_pos h, if_true]
    rw [w64 (x := grt l 0 - lst l 0) (by omega) (by omega), impl_up_ _ _ (by omega) (by omega) (by omega)]
    simp only [Option.bind_some, mx_upN, e]
    rw [impl_down_ _ _ (by omega) (by omega) (by omega)]
    simp only [Option.bind_some]
    rw [w64 (by omega) (by omega), impl_sat8]
    rfl
  · simp only [if_neg h]; rfl

theorem spec_range_l0 (l : List Int) (hm : l.length ≤ 300) : ∀ (d k i : Nat) (a b : Int), i + d = l.length → 2 * d < k →
    spec_RangeOfReals.l0 k l a b (i : Int) = some (if (l.drop i).all isR = true then (lst (l.drop i) a, grt (l.drop i) b, true) else (0, 0, false)) := by
  intro d
  induction d with
  | zero =>
    intro k i a b hi hk
    obtain ⟨k, rfl⟩ : ∃ m, k = m + 1 := ⟨k - 1, by omega⟩
    simp only [spec_RangeOfReals.l0]
    rw [if_neg (by omega), List.drop_of_length_le (by omega)]
    rfl
  | succ d ih =>
    intro k i a b hi hk
    obtain ⟨k, rfl⟩ : ∃ m, k = m + 1 + 1 := ⟨k - 2, by omega⟩
    rw [all_drop l i (by omega), spec_RangeOfReals.l0, rd_natD]
    have e1 : lst (l.drop i) a = lst (l.drop (i + 1)) (min a (l.getD i 0)) := by rw [drop_getD l 0 i (by omega)]; rfl
    have e2 : grt (l.drop i) b = grt (l.drop (i + 1)) (max b (l.getD i 0)) := by rw [drop_getD l 0 i (by omega)]; rfl
    have tail : ∀ a' : Int, a' = min a (l.getD i 0) → spec_RangeOfReals.j1 (k + 1) l a' b (i : Int) = some (if (l.drop (i + 1)).all isR = true then (lst (l.drop i) a, grt (l.drop i) b, true) else (0, 0, false)) := by
      intro a' ha
      rw [e1, e2, ← ha, spec_RangeOfReals.j1, rd_natD, w64_succ i (by omega)]
      by_cases c : l.getD i 0 > b
      · have g := ih k (i + 1) a' (l.getD i 0) (by omega) (by omega)
        rw [show max b (l.getD i 0) = l.getD i 0 by omega]
        exact ifp (by omega) (ifp (by omega) (ifp c g))
      · have g := ih k (i + 1) a' b (by omega) (by omega)
        rw [show max b (l.getD i 0) = b by omega]
        exact ifp (by omega) (ifp (by omega) (ifn c g))
    refine ifp (by omega) (ifp (by omega) (st (spec_real _) ?_))
    cases hr : isR (l.getD i 0) with
    | false => simp
    | true =>
      rw [Bool.true_and]
      refine ifp rfl ?_
      by_cases c : l.getD i 0 < a
      · exact ifp c (tail _ (by omega))
      · exact ifn c (tail _ (by omega))
theorem spec_range (k : Nat) (l : List Int) (hk : 1000 ≤ k) : spec_RangeOfReals.f k l = some (rng l) := by
  unfold spec_RangeOfReals.f rng
  simp only [spec_in, Option.bind_some, decide_eq_true_eq]
  by_cases h : 1 ≤ (l.length : Int) ∧ (l.length : Int) ≤ 300
  · rw [if_pos h, show spec_RangeOfReals.l0 k l 0 0 0 = _ from spec_range_l0 l (by omega) l.length k 0 0 0 (by omega) (by omega)]
    simp only [List.drop_zero, h, true_and]
  · rw [if_neg h, if_neg (fun z => h z.1)]
theorem spec_down (a b : Int) (hb : 0 < b) (h0 : -4000000000 ≤ a) (h1 : a ≤ 4000000000) : spec_l01Down.f a b = some (a / b) := by
  have hd := ediv_bd hb h0 h1 (by omega)
  have he := down_eq a b hb
  unfold spec_l01Down.f
  rw [if_neg (by omega)]
  split at he
  · rename_i h
    rw [if_pos h, w64 (x := Int.tdiv a b) (by omega) (by omega), he, w64 (by omega) (by omega)]
  · rename_i h
    rw [if_neg h, he, w64 (by omega) (by omega)]
theorem spec_up (a b : Int) (hb : 0 < b) (h0 : -4000000000 ≤ a) (h1 : a ≤ 4000000000) : spec_l11Up.f a b = some (upN a b) := by
  have hd := ediv_bd (a := -a) (m := 4000000000) hb (by omega) (by omega) (by omega)
  unfold spec_l11Up.f upN
  rw [w64 (x := -a) (by omega) (by omega), spec_down _ b hb (by omega) (by omega)]
  simp only [Option.bind_some]
  rw [w64 (x := -(-a / b)) (by omega) (by omega)]
  split <;> congr 1 <;> omega
theorem spec_sfor (k : Nat) (l : List Int) (hk : 1000 ≤ k) : spec_ScaleFor.f k l = some (sfor l) := by
  unfold spec_ScaleFor.f sfor
  simp only [spec_range k l (by omega), Option.bind_some, rng_ok]
  by_cases h : okL l
  · have hb := rng_bd h.2
    have hn := sNum_bd h
    have e : upN (grt l 0 - lst l 0) 255 = sNum l := rfl
    have hd := ediv_bd (a := lst l 0) (b := sNum l) (m := 1000000000) (by omega) (by omega) (by omega) (by omega)
    simp only [if_pos h, if_true]
    rw [w64 (x := grt l 0 - lst l 0) (by omega) (by omega), spec_up _ _ (by omega) (by omega) (by omega)]
    simp only [Option.bind_some, e]
    rw [spec_down _ _ (by omega) (by omega) (by omega)]
    simp only [Option.bind_some]
    rw [w64 (by omega) (by omega), spec_sat8 k (by omega)]
    rfl
  · simp only [if_neg h]; rfl

def shOk (h w c : Int) : Bool := decide ((1 ≤ h ∧ h ≤ 8) ∧ (1 ≤ w ∧ w ≤ 8) ∧ (1 ≤ c ∧ c ≤ 8))
theorem shOk_iff {h w c : Int} : shOk h w c = true ↔ ((1 ≤ h ∧ h ≤ 8) ∧ (1 ≤ w ∧ w ≤ 8) ∧ (1 ≤ c ∧ c ≤ 8)) := by simp [shOk]
theorem spec_shapeOk (h w c : Int) : spec_ShapeOk.f h w c = some (shOk h w c) := by
  unfold spec_ShapeOk.f
  simp only [spec_in, Option.bind_some]
  by_cases h1 : 1 ≤ h ∧ h ≤ 8 <;> by_cases h2 : 1 ≤ w ∧ w ≤ 8 <;> simp [shOk, h1, h2]
theorem impl_shapeOk (h w c : Int) : impl_ShapeOk.f h w c = some (shOk h w c) := by
  unfold impl_ShapeOk.f
  simp only [impl_in_, Option.bind_some]
  by_cases h1 : 1 ≤ h ∧ h ≤ 8 <;> by_cases h2 : 1 ≤ w ∧ w ≤ 8 <;> simp [shOk, h1, h2]
def szN (h w c : Int) : Int := if shOk h w c = true then h * w * c else 0
theorem prod_bd {h w c : Int} (hs : shOk h w c = true) : (1 ≤ h * w ∧ h * w ≤ 64) ∧ 1 ≤ h * w * c ∧ h * w * c ≤ 512 := by
  obtain ⟨⟨a, b⟩, ⟨d, e⟩, f, g⟩ := shOk_iff.1 hs
  have h1 : 1 * w ≤ h * w := Int.mul_le_mul_of_nonneg_right a (by omega)
  have h2 : h * w ≤ 8 * w := Int.mul_le_mul_of_nonneg_right b (by omega)
  have h3 : h * w * 1 ≤ h * w * c := Int.mul_le_mul_of_nonneg_left f (by omega)
  have h4 : h * w * c ≤ h * w * 8 := Int.mul_le_mul_of_nonneg_left g (by omega)
  omega
theorem spec_sizeOf_ (h w c : Int) : spec_SizeOf.f h w c = some (szN h w c) := by
  unfold spec_SizeOf.f szN
  simp only [spec_shapeOk, Option.bind_some]
  split
  · rename_i hs
    have := prod_bd hs
    rw [w64 (x := h * w) (by omega) (by omega), w64 (by omega) (by omega)]
  · rfl
theorem impl_sizeOf_ (h w c : Int) : impl_SizeOf.f h w c = some (szN h w c) := by
  unfold impl_SizeOf.f szN
  simp only [impl_shapeOk, Option.bind_some]
  split
  · rename_i hs
    have := prod_bd hs
    rw [w64 (x := h * w) (by omega) (by omega), w64 (by omega) (by omega)]
  · rfl
def is8 (x : Int) : Bool := decide (-128 ≤ x ∧ x ≤ 127)
def tOk (h w c : Int) (l : List Int) : Bool := shOk h w c && (decide ((l.length : Int) = szN h w c) && l.all is8)
theorem spec_int8 (x : Int) : spec_l02Int8.f x = some (is8 x) := by unfold spec_l02Int8.f; rw [spec_in]; rfl
theorem all_drop8 (l : List Int) (i : Nat) (h : i < l.length) : (l.drop i).all is8 = (is8 (l.getD i 0) && (l.drop (i + 1)).all is8) := by
  rw [drop_getD l 0 i h]; rfl
theorem spec_tOk_l0 (h w c : Int) (l : List Int) (hm : l.length ≤ 9223372036854775806) : ∀ (d k i : Nat), i + d = l.length → d < k → spec_TensorOk.l0 k (i : Int) h w c l = some ((l.drop i).all is8) := by
  intro d
  induction d with
  | zero =>
    intro k i hi hk
    obtain ⟨k, rfl⟩ : ∃ m, k = m + 1 := ⟨k - 1, by omega⟩
    simp only [spec_TensorOk.l0]
    rw [if_neg (by omega), List.drop_of_length_le (by omega)]
    rfl
  | succ d ih =>
    intro k i hi hk
    obtain ⟨k, rfl⟩ : ∃ m, k = m + 1 := ⟨k - 1, by omega⟩
    simp only [spec_TensorOk.l0]
    rw [if_pos (by omega), if_pos (by omega), all_drop8 l i (by omega), w64_succ i (by omega), ih k (i + 1) (by omega) (by omega)]
    simp only [spec_int8, Option.bind_some, rd_natD]
    cases is8 (l.getD i 0) <;> simp
theorem spec_tOk (k : Nat) (h w c : Int) (l : List Int) (hm : l.length ≤ 9223372036854775806) (hk : l.length + 1 < k) : spec_TensorOk.f k h w c l = some (tOk h w c l) := by
  obtain ⟨k, rfl⟩ : ∃ m, k = m + 1 := ⟨k - 1, by omega⟩
  unfold spec_TensorOk.f tOk
  simp only [spec_shapeOk, spec_sizeOf_, Option.bind_some, spec_TensorOk.j0]
  cases shOk h w c with
  | false => simp
  | true =>
    have := spec_tOk_l0 h w c l hm l.length k 0 (by omega) (by omega)
    simp only [if_true, Bool.true_and]
    by_cases e : (l.length : Int) = szN h w c
    · rw [if_neg (by simp [e])]
      simpa [e] using this
    · rw [if_pos (by simp [e])]
      simp [e]
theorem area_l0 (l : List Int) (hm : l.length ≤ 9223372036854775806) : ∀ (d k i : Nat), i + d = l.length → d < k →
    ∃ r, slices_IndexFunc_int_int_at_67.l0 k l (l.length : Int) (i : Int) = some r ∧ (0 ≤ r ↔ (l.drop i).all is8 = false) := by
  intro d
  induction d with
  | zero =>
    intro k i hi hk
    obtain ⟨k, rfl⟩ : ∃ m, k = m + 1 := ⟨k - 1, by omega⟩
    simp only [slices_IndexFunc_int_int_at_67.l0]
    rw [if_neg (by omega), List.drop_of_length_le (by omega)]
    exact ⟨-1, rfl, by simp⟩
  | succ d ih =>
    intro k i hi hk
    obtain ⟨k, rfl⟩ : ∃ m, k = m + 1 := ⟨k - 1, by omega⟩
    simp only [slices_IndexFunc_int_int_at_67.l0]
    rw [if_pos (by omega), if_pos (by omega), if_pos (by omega), all_drop8 l i (by omega)]
    unfold impl_areItems_1.f
    simp only [impl_in_, Option.bind_some, rd_natD]
    cases hr : is8 (l.getD i 0) with
    | false =>
      have : ¬ (-128 ≤ l.getD i 0 ∧ l.getD i 0 ≤ 127) := by simpa [is8] using hr
      exact ⟨i, by simp only [this]; simp, by simp⟩
    | true =>
      have : (-128 ≤ l.getD i 0 ∧ l.getD i 0 ≤ 127) := by simpa [is8] using hr
      obtain ⟨r, h1, h2⟩ := ih k (i + 1) (by omega) (by omega)
      refine ⟨r, ?_, by simpa using h2⟩
      rw [w64_succ i (by omega)]
      simp only [this, and_self]
      simpa using h1
theorem impl_area (k : Nat) (l : List Int) (hm : l.length ≤ 9223372036854775806) (hk : l.length < k) : impl_areItems.f k l = some (l.all is8) := by
  obtain ⟨r, h1, h2⟩ := area_l0 l hm l.length k 0 (by omega) hk
  have h1' : slices_IndexFunc_int_int_at_67.f k l = some r := h1
  unfold impl_areItems.f slices_ContainsFunc_int_int_at_67.f
  rw [h1']
  rw [List.drop_zero] at h2
  simp only [Option.bind_some]
  cases ha : l.all is8 with
  | false => rw [ha] at h2; have := h2.2 rfl; simp [this]
  | true => rw [ha] at h2; have : ¬ 0 ≤ r := fun z => absurd (h2.1 z) (by simp); simp; omega
theorem impl_tOk (k : Nat) (h w c : Int) (l : List Int) (hm : l.length ≤ 9223372036854775806) (hk : l.length < k) : impl_TensorOk.f k h w c l = some (tOk h w c l) := by
  unfold impl_TensorOk.f tOk
  simp only [impl_shapeOk, impl_sizeOf_, Option.bind_some, impl_area k l hm hk]
  cases shOk h w c with
  | false => simp
  | true =>
    simp only [if_true, Bool.true_and]
    by_cases e : (l.length : Int) = szN h w c
    · rw [if_pos e]; simp [e]
    · rw [if_neg e]; simp [e]
theorem tOk_len {h w c : Int} {l : List Int} (ht : tOk h w c l = true) : l.length ≤ 512 := by
  simp only [tOk, Bool.and_eq_true, decide_eq_true_eq] at ht
  have := prod_bd ht.1
  have e : szN h w c = h * w * c := by unfold szN; rw [if_pos ht.1]
  omega

def reals (n z : Int) (l : List Int) : List Int := l.map (fun q => from8 q n z)
def realsE (h w c : Int) (l : List Int) (n z : Int) : List Int := if tOk h w c l = true ∧ sOk n z = true then reals n z l else []
theorem reals_take (n z : Int) (l : List Int) (i : Nat) (h : i < l.length) : reals n z (l.take (i + 1)) = reals n z (l.take i) ++ [from8 (l.getD i 0) n z] := by
  rw [take_succ_getD l 0 i h]; simp [reals]
theorem spec_reals_l0 (h w c : Int) (l : List Int) (n z : Int) (hm : l.length ≤ 512) (hs : sOk n z = true) : ∀ (d k i : Nat), i + d = l.length → d + 1 < k →
    spec_RealsOf.l0 k (reals n z (l.take i)) (i : Int) h w c l n z = some (reals n z l) := by
  intro d
  induction d with
  | zero =>
    intro k i hi hk
    obtain ⟨k, rfl⟩ : ∃ m, k = m + 1 := ⟨k - 1, by omega⟩
    simp only [spec_RealsOf.l0]
    rw [if_neg (by omega), List.take_of_length_le (by omega)]
  | succ d ih =>
    intro k i hi hk
    obtain ⟨k, rfl⟩ : ∃ m, k = m + 1 := ⟨k - 1, by omega⟩
    simp only [spec_RealsOf.l0]
    rw [if_pos (by omega), if_pos (by omega)]
    simp only [rd_natD, spec_from8 k (by omega), hs, if_true, Option.bind_some]
    rw [if_pos (by simp [reals]; omega), w64_succ i (by omega), ← reals_take n z l i (by omega)]
    exact ih k (i + 1) (by omega) (by omega)
theorem spec_reals (k : Nat) (h w c : Int) (l : List Int) (n z : Int) (hm : l.length ≤ 9223372036854775806) (hk : l.length + 3 < k) : spec_RealsOf.f k h w c l n z = some (realsE h w c l n z) := by
  obtain ⟨k, rfl⟩ : ∃ m, k = m + 1 := ⟨k - 1, by omega⟩
  unfold spec_RealsOf.f realsE
  simp only [spec_tOk (k + 1) h w c l hm (by omega), spec_scaleOk, Option.bind_some, spec_RealsOf.j0]
  cases ht : tOk h w c l with
  | false => simp
  | true =>
    cases hs : sOk n z with
    | false => simp
    | true =>
      have := spec_reals_l0 h w c l n z (tOk_len ht) hs l.length k 0 (by omega) (by omega)
      simpa [reals] using this
theorem impl_reals_l0 (l : List Int) (n z : Int) (hm : l.length ≤ 512) (hs : sOk n z = true) : ∀ (d k i : Nat), i + d = l.length → d + 1 < k →
    impl_RealsOf.l0 k (reals n z (l.take i)) l (l.length : Int) (i : Int) n z = some (reals n z l) := by
  intro d
  induction d with
  | zero =>
    intro k i hi hk
    obtain ⟨k, rfl⟩ : ∃ m, k = m + 1 := ⟨k - 1, by omega⟩
    simp only [impl_RealsOf.l0]
    rw [if_neg (by omega), List.take_of_length_le (by omega)]
  | succ d ih =>
    intro k i hi hk
    obtain ⟨k, rfl⟩ : ∃ m, k = m + 1 := ⟨k - 1, by omega⟩
    simp only [impl_RealsOf.l0]
    rw [if_pos (by omega), if_pos (by omega), if_pos (by omega)]
    simp only [rd_natD, impl_from8_ _ n z hs, Option.bind_some]
    rw [if_pos (by simp [reals]; omega), w64_succ i (by omega), ← reals_take n z l i (by omega)]
    exact ih k (i + 1) (by omega) (by omega)
theorem impl_reals (k : Nat) (h w c : Int) (l : List Int) (n z : Int) (hm : l.length ≤ 9223372036854775806) (hk : l.length + 3 < k) : impl_RealsOf.f k h w c l n z = some (realsE h w c l n z) := by
  obtain ⟨k, rfl⟩ : ∃ m, k = m + 1 := ⟨k - 1, by omega⟩
  unfold impl_RealsOf.f realsE
  simp only [impl_tOk (k + 1) h w c l hm (by omega), impl_scaleOk, Option.bind_some, impl_RealsOf.j0]
  cases ht : tOk h w c l with
  | false => simp
  | true =>
    cases hs : sOk n z with
    | false => simp
    | true =>
      have := impl_reals_l0 l n z (tOk_len ht) hs l.length k 0 (by omega) (by omega)
      simpa [reals] using this
theorem realsE_len (h w c : Int) (l : List Int) (n z : Int) : (realsE h w c l n z).length ≤ 512 := by
  unfold realsE
  split
  · rename_i hh
    have := tOk_len hh.1
    simpa [reals] using this
  · simp

theorem gcd_eq (k : Nat) (a b : Int) : spec_l11Gcd.l0 k a b = impl_gcd.l0 k a b := by
  induction k generalizing a b with
  | zero => rfl
  | succ k ih => simp only [spec_l11Gcd.l0, impl_gcd.l0, ih]
theorem gcd_some (k : Nat) (a b : Int) (ha : 0 < a) (hb : 0 ≤ b) (hk : b < k) : ∃ g, impl_gcd.l0 k a b = some g ∧ 0 < g := by
  induction k generalizing a b with
  | zero => omega
  | succ k ih =>
    unfold impl_gcd.l0
    by_cases h : b = 0
    · rw [if_pos h]; exact ⟨a, rfl, ha⟩
    · rw [if_neg h, tmod_pos (by omega)]
      have h1 := Int.emod_nonneg a h
      have h2 := Int.emod_lt_of_pos a (show 0 < b by omega)
      exact ih b (a % b) (by omega) h1 (by omega)
theorem u64w {x : Int} (h0 : 0 ≤ x) (h1 : x ≤ 32) : IntKind.u64.wrap x = x := by
  have : x = 0 ∨ x = 1 ∨ x = 2 ∨ x = 3 ∨ x = 4 ∨ x = 5 ∨ x = 6 ∨ x = 7 ∨ x = 8 ∨ x = 9 ∨ x = 10 ∨ x = 11 ∨ x = 12 ∨ x = 13 ∨ x = 14 ∨ x = 15 ∨ x = 16 ∨ x = 17 ∨ x = 18 ∨ x = 19 ∨ x = 20 ∨ x = 21 ∨ x = 22 ∨ x = 23 ∨ x = 24 ∨ x = 25 ∨ x = 26 ∨ x = 27 ∨ x = 28 ∨ x = 29 ∨ x = 30 ∨ x = 31 ∨ x = 32 := by omega
  rcases this with h | h | h | h | h | h | h | h | h | h | h | h | h | h | h | h | h | h | h | h | h | h | h | h | h | h | h | h | h | h | h | h | h <;> subst h <;> rfl
theorem mf_l0 (k : Nat) (a b i : Int) (h0 : 0 ≤ i) (h1 : i ≤ 31) : spec_MultFor.l0 k a b i = impl_MultFor.l0 k a b i := by
  induction k generalizing i with
  | zero => simp only [spec_MultFor.l0, impl_MultFor.l0]
  | succ k ih =>
    have hw : wrap64 (i + 1) = i + 1 := w64 (by omega) (by omega)
    simp only [spec_MultFor.l0, impl_MultFor.l0, hw, u64w h0 (by omega : i ≤ 32), u64w (by omega : 0 ≤ i + 1) (by omega : i + 1 ≤ 32)]
    by_cases h : i < 31
    · simp only [if_pos h, ih (i + 1) (by omega) (by omega)]
    · simp only [if_neg h]
theorem mf_some (d k : Nat) (a b i : Int) (hb : b ≠ 0) (h0 : 0 ≤ i) (h1 : i ≤ 31) (hd : 31 - i ≤ d) (hk : d < k) : ∃ r, impl_MultFor.l0 k a b i = some r := by
  induction d generalizing k i with
  | zero =>
    obtain ⟨k, rfl⟩ : ∃ m, k = m + 1 := ⟨k - 1, by omega⟩
    simp only [impl_MultFor.l0, if_neg (show ¬ i < 31 by omega), if_pos h0, if_neg hb]
    exact ⟨_, rfl⟩
  | succ d ih =>
    obtain ⟨k, rfl⟩ : ∃ m, k = m + 1 := ⟨k - 1, by omega⟩
    have hw : wrap64 (i + 1) = i + 1 := w64 (by omega) (by omega)
    simp only [impl_MultFor.l0, if_pos h0, if_neg hb, hw, if_pos (show 0 ≤ i + 1 by omega)]
    by_cases h : i < 31
    · rw [if_pos h]
      by_cases h2 : shl .i64 a (i + 1) < b
      · rw [if_pos h2]; exact ih k (i + 1) (by omega) (by omega) (by omega) (by omega)
      · rw [if_neg h2]; exact ⟨_, rfl⟩
    · rw [if_neg h]; exact ⟨_, rfl⟩
theorem mf (k : Nat) (a b : Int) (hk : 34 ≤ k) : ∃ r, spec_MultFor.f k a b = some r ∧ impl_MultFor.f k a b = some r := by
  obtain ⟨k, rfl⟩ : ∃ m, k = m + 1 := ⟨k - 1, by omega⟩
  unfold spec_MultFor.f impl_MultFor.f
  simp only [spec_l01In.f, spec_MultFor.j0, impl_MultFor.j0]
  by_cases h1 : 1 ≤ b
  · by_cases h2 : b ≤ 1000000
    · have hw : wrap64 (b - 1) = b - 1 := w64 (by omega) (by omega)
      simp only [if_pos h1, Option.bind_some, h2, decide_true, if_true, hw]
      by_cases h3 : 1 ≤ a
      · by_cases h4 : a ≤ b - 1
        · obtain ⟨r, hr⟩ := mf_some 31 k a b 0 (by omega) (by omega) (by omega) (by omega) (by omega)
          refine ⟨r, ?_, ?_⟩
          · simp [h3, h4, mf_l0 k a b 0 (by omega) (by omega), hr]
          · rw [if_neg (by omega), if_neg (by omega), if_neg (by simp; omega), hr]
        · exact ⟨(0, 0, false), by simp [h3, h4], by rw [if_neg (by omega), if_pos (by omega)]⟩
      · exact ⟨(0, 0, false), by simp [h3], by rw [if_pos (by omega)]⟩
    · refine ⟨(0, 0, false), by simp [h1, h2], ?_⟩
      split
      · simp
      · split
        · simp
        · rw [if_pos (by simp; omega)]
  · refine ⟨(0, 0, false), by simp [h1], ?_⟩
    split
    · simp
    · split
      · simp
      · omega
theorem mos_j (k : Nat) (b : Bool) (x x' y y' z z' : Int) (hk : 10 ^ 13 ≤ k) (h : b = false → 1 ≤ x ∧ x ≤ 1000000000 ∧ 1 ≤ y ∧ y ≤ 1000000000 ∧ 1 ≤ z ∧ z ≤ 1000000000) :
    ∃ r, spec_MultOfScales.j0 k b x x' y y' z z' = some r ∧ impl_MultOfScales.j0 k b x x' y y' z z' = some r := by
  obtain ⟨k, rfl⟩ : ∃ m, k = m + 1 := ⟨k - 1, by omega⟩
  simp only [spec_MultOfScales.j0, impl_MultOfScales.j0]
  cases b with
  | true => exact ⟨_, rfl, rfl⟩
  | false =>
    obtain ⟨hx, hx1, hy, hy1, hz, hz1⟩ := h rfl
    have hxy : x * y ≤ 1000000000 * 1000000000 := Int.mul_le_mul hx1 hy1 (by omega) (by omega)
    have hxy0 : 0 < x * y := Int.mul_pos (by omega) (by omega)
    have hw : wrap64 (x * y) = x * y := w64 (by omega) (by omega)
    have hw2 : wrap64 (z * 1000) = z * 1000 := w64 (by omega) (by omega)
    obtain ⟨g, hg, hg0⟩ := gcd_some k (x * y) (z * 1000) hxy0 (by omega) (by omega)
    obtain ⟨r, hr1, hr2⟩ := mf k (wrap64 (Int.tdiv (x * y) g)) (wrap64 (Int.tdiv (z * 1000) g)) (by omega)
    refine ⟨r, ?_, ?_⟩
    · simp only [hw, hw2, spec_l11Gcd.f, gcd_eq, hg, Option.bind_some, hr1, if_neg (show ¬ g = 0 by omega)]
      simp
    · simp only [hw, hw2, impl_gcd.f, hg, Option.bind_some, hr2, if_neg (show ¬ g = 0 by omega)]
      simp
theorem mos (k : Nat) (x x' y y' z z' : Int) (hk : 10 ^ 13 ≤ k) :
    ∃ r, spec_MultOfScales.f k x x' y y' z z' = some r ∧ impl_MultOfScales.f k x x' y y' z z' = some r := by
  unfold spec_MultOfScales.f impl_MultOfScales.f
  simp only [spec_scaleOk, impl_scaleOk, Option.bind_some]
  obtain ⟨t, ht1, ht2⟩ := mos_j k true x x' y y' z z' hk (by simp)
  by_cases hx : sOk x x' = true
  · by_cases hy : sOk y y' = true
    · obtain ⟨r, h1, h2⟩ := mos_j k (!sOk z z') x x' y y' z z' hk (fun h => by
        simp [sOk] at hx hy h; omega)
      exact ⟨r, by simp [hx, hy, h1], by simp [hx, hy, h2]⟩
    · exact ⟨t, by simp [hx, hy, ht1], by simp [hx, hy, ht2]⟩
  · exact ⟨t, by simp [hx, ht1], by simp [hx, ht2]⟩

def quL (n z : Int) (l : List Int) : List Int := l.map (fun x => to8 x n z)
def quOk (l : List Int) (h w c : Int) : Prop := okL l ∧ shOk h w c = true ∧ (l.length : Int) = szN h w c
instance (l : List Int) (h w c : Int) : Decidable (quOk l h w c) := by unfold quOk; infer_instance
def quT (l : List Int) (h w c : Int) : Int × Int × Int × List Int × Int × Int × Bool := if quOk l h w c then (h, w, c, quL (sNum l) (sZero l) l, sNum l, sZero l, true) else (0, 0, 0, [], 0, 0, false)
theorem quL_len (n z : Int) (l : List Int) : (quL n z l).length = l.length := by simp [quL]
theorem quL_take (n z : Int) (l : List Int) (i : Nat) (h : i < l.length) : quL n z (l.take (i + 1)) = quL n z (l.take i) ++ [to8 (l.getD i 0) n z] := by
  rw [take_succ_getD l 0 i h]; simp [quL]
theorem all_getD {l : List Int} {p : Int → Bool} (h : l.all p = true) (i : Nat) (hi : i < l.length) : p (l.getD i 0) = true := List.all_eq_true.1 h _ (mem_getD l 0 i hi)
theorem impl_qu_l0 (l : List Int) (n z h w c : Int) (hm : l.length ≤ 300) (hs : sOk n z = true) (ha : l.all isR = true) : ∀ (d k i : Nat), i + d = l.length → d + 3 < k →
    impl_QuantTensor.l0 k l (l.length : Int) (i : Int) n z h w c (quL n z (l.take i)) = some (h, w, c, quL n z l, n, z, true) := by
  intro d
  induction d with
  | zero =>
    intro k i hi hk
    obtain ⟨k, rfl⟩ : ∃ m, k = m + 1 := ⟨k - 1, by omega⟩
    rw [impl_QuantTensor.l0, List.take_of_length_le (by omega)]
    exact ifn (by omega) rfl
  | succ d ih =>
    intro k i hi hk
    obtain ⟨k, rfl⟩ : ∃ m, k = m + 1 := ⟨k - 1, by omega⟩
    rw [impl_QuantTensor.l0, rd_natD, w64_succ i (by omega)]
    have g := ih k (i + 1) (by omega) (by omega)
    rw [quL_take n z l i (by omega)] at g
    exact ifp (by omega) (ifp (by omega) (ifp (by omega) (st (impl_to8_ k (by omega) _ n z (all_getD ha i (by omega)) hs) (ifp (by rw [quL_len]; simp; omega) g))))
theorem spec_qu_l0 (l : List Int) (n z h w c : Int) (hm : l.length ≤ 300) (hs : sOk n z = true) (ha : l.all isR = true) : ∀ (d k i : Nat), i + d = l.length → d + 3 < k →
    spec_QuantTensor.l0 k l (i : Int) n z h w c (quL n z (l.take i)) = some (h, w, c, quL n z l, n, z, true) := by
  intro d
  induction d with
  | zero =>
    intro k i hi hk
    obtain ⟨k, rfl⟩ : ∃ m, k = m + 1 := ⟨k - 1, by omega⟩
    rw [spec_QuantTensor.l0, List.take_of_length_le (by omega)]
    exact ifn (by omega) rfl
  | succ d ih =>
    intro k i hi hk
    obtain ⟨k, rfl⟩ : ∃ m, k = m + 1 := ⟨k - 1, by omega⟩
    rw [spec_QuantTensor.l0, rd_natD, w64_succ i (by omega)]
    have g := ih k (i + 1) (by omega) (by omega)
    rw [quL_take n z l i (by omega)] at g
    have e := spec_to8 k (by omega) (l.getD i 0) n z
    rw [if_pos ⟨all_getD ha i (by omega), hs⟩] at e
    exact ifp (by omega) (ifp (by omega) (st e (ifp (by rw [quL_len]; simp; omega) g)))
theorem impl_qu (k : Nat) (l : List Int) (h w c : Int) (hk : l.length + 10 < k) : impl_QuantTensor.f k l h w c = some (quT l h w c) := by
  obtain ⟨k, rfl⟩ : ∃ m, k = m + 1 := ⟨k - 1, by omega⟩
  have e := impl_sfor (k + 1) l (by omega)
  unfold impl_QuantTensor.f
  unfold sfor at e
  by_cases h1 : okL l
  · rw [if_pos h1] at e
    refine st e (ifp rfl (st (impl_shapeOk h w c) ?_))
    by_cases h2 : shOk h w c = true
    · refine ifp h2 (st (impl_sizeOf_ h w c) ?_)
      rw [impl_QuantTensor.j0]
      by_cases h3 : (l.length : Int) = szN h w c
      · have g := impl_qu_l0 l (sNum l) (sZero l) h w c (by have := h1.1; omega) (sOk_for h1) h1.2 l.length k 0 (by omega) (by omega)
        have hv : quT l h w c = (h, w, c, quL (sNum l) (sZero l) l, sNum l, sZero l, true) := if_pos ⟨h1, h2, h3⟩
        rw [hv]
        exact ifn (by simp [h3]) g
      · have hv : quT l h w c = (0, 0, 0, [], 0, 0, false) := if_neg (fun z => h3 z.2.2)
        rw [hv]
        exact ifp (by simp [h3]) rfl
    · rw [impl_QuantTensor.j0]
      have hv : quT l h w c = (0, 0, 0, [], 0, 0, false) := if_neg (fun z => h2 z.2.1)
      rw [hv]
      exact ifn h2 (ifp rfl rfl)
  · rw [if_neg h1] at e
    have hv : quT l h w c = (0, 0, 0, [], 0, 0, false) := if_neg (fun z => h1 z.1)
    rw [hv]
    refine st e ?_
    rw [impl_QuantTensor.j0]
    exact ifn (by simp) (ifp rfl rfl)
theorem spec_qu (k : Nat) (l : List Int) (h w c : Int) (hk : l.length + 1000 < k) : spec_QuantTensor.f k l h w c = some (quT l h w c) := by
  obtain ⟨k, rfl⟩ : ∃ m, k = m + 1 := ⟨k - 1, by omega⟩
  have e := spec_sfor (k + 1) l (by omega)
  unfold spec_QuantTensor.f
  unfold sfor at e
  by_cases h1 : okL l
  · rw [if_pos h1] at e
    refine st e (ifp rfl (st (spec_shapeOk h w c) ?_))
    by_cases h2 : shOk h w c = true
    · refine ifp h2 (st (spec_sizeOf_ h w c) ?_)
      rw [spec_QuantTensor.j0]
      by_cases h3 : (l.length : Int) = szN h w c
      · have g := spec_qu_l0 l (sNum l) (sZero l) h w c (by have := h1.1; omega) (sOk_for h1) h1.2 l.length k 0 (by omega) (by omega)
        have hv : quT l h w c = (h, w, c, quL (sNum l) (sZero l) l, sNum l, sZero l, true) := if_pos ⟨h1, h2, h3⟩
        rw [hv]
        exact ifn (by simp [h3]) g
      · have hv : quT l h w c = (0, 0, 0, [], 0, 0, false) := if_neg (fun z => h3 z.2.2)
        rw [hv]
        exact ifp (by simp [h3]) rfl
    · rw [spec_QuantTensor.j0]
      have hv : quT l h w c = (0, 0, 0, [], 0, 0, false) := if_neg (fun z => h2 z.2.1)
      rw [hv]
      exact ifn h2 (ifp rfl rfl)
  · rw [if_neg h1] at e
    have hv : quT l h w c = (0, 0, 0, [], 0, 0, false) := if_neg (fun z => h1 z.1)
    rw [hv]
    refine st e ?_
    rw [spec_QuantTensor.j0]
    exact ifn (by simp) (ifp rfl rfl)
theorem quL_tOk {l : List Int} {h w c : Int} (q : quOk l h w c) : tOk h w c (quL (sNum l) (sZero l) l) = true := by
  unfold tOk
  rw [q.2.1, quL_len, decide_eq_true q.2.2]
  simp only [Bool.true_and]
  refine List.all_eq_true.2 (fun x hx => ?_)
  obtain ⟨y, _, rfl⟩ := List.mem_map.1 hx
  have := sat8_bd (near y (sNum l) + sZero l)
  unfold is8 to8
  exact decide_eq_true this

theorem and_bd (x m : Int) (h0 : 0 ≤ m) (h1 : m ≤ 1073741823) : 0 ≤ Go.bits .and .i64 x m ∧ Go.bits .and .i64 x m ≤ m := by
  obtain ⟨b, rfl⟩ := Int.eq_ofNat_of_zero_le h0
  have hb : b % 2 ^ Go.IntKind.i64.bits = b := Nat.mod_eq_of_lt (by simp [Go.IntKind.bits]; omega)
  have hn : (BitVec.ofInt Go.IntKind.i64.bits x).toNat &&& b ≤ b := Nat.and_le_right
  simp only [Go.bits, BitVec.ofInt_natCast, BitVec.toNat_and, BitVec.toNat_ofNat, hb]
  generalize (BitVec.ofInt Go.IntKind.i64.bits x).toNat &&& b = n at hn ⊢
  rw [Go.IntKind.wrap_i64]
  omega
theorem byte_ (l : List Int) (i h : Int) (h0 : 0 ≤ i) (hl : l.length ≤ 1048576) : ∃ x i' h', spec_l01Byte.f l i h = some (x, i', h') ∧ 0 ≤ x ∧ x ≤ 255 ∧ 0 ≤ i' := by
  unfold spec_l01Byte.f
  by_cases c : i < (l.length : Int)
  · rw [if_pos c, if_pos h0]
    exact ⟨_, _, _, rfl, (and_bd _ 255 (by omega) (by omega)).1, (and_bd _ 255 (by omega) (by omega)).2, by rw [w64 (by omega) (by omega)]; omega⟩
  · rw [if_neg c]
    exact ⟨_, _, _, rfl, (and_bd _ 255 (by omega) (by omega)).1, (and_bd _ 255 (by omega) (by omega)).2, h0⟩
theorem below_ (l : List Int) (i h a : Int) (h0 : 0 ≤ i) (hl : l.length ≤ 1048576) : ∃ x i' h', spec_l01Below.f l i h a = some (x, i', h') ∧ 0 ≤ x ∧ (x < a ∨ (a ≤ 0 ∧ x = 0)) ∧ 0 ≤ i' := by
  unfold spec_l01Below.f
  by_cases c : a ≤ 0
  · rw [if_pos c]; exact ⟨0, i, h, rfl, by omega, .inr ⟨c, rfl⟩, h0⟩
  rw [if_neg c]
  obtain ⟨x, i1, h1, e1, g0, g1, g2⟩ := byte_ l i h h0 hl
  rw [e1]
  simp only [Option.bind_some]
  by_cases c2 : a ≤ 256
  · rw [if_pos c2, if_neg (by omega)]
    exact ⟨_, _, _, rfl, by rw [tmod_pos g0]; exact Int.emod_nonneg _ (by omega), .inl (by rw [tmod_pos g0]; exact Int.emod_lt_of_pos _ (by omega)), g2⟩
  · rw [if_neg c2]
    obtain ⟨y, i2, h2, e2, y0, y1, y2⟩ := byte_ l i1 h1 g2 hl
    rw [e2]
    simp only [Option.bind_some]
    obtain ⟨z, i3, h3, e3, z0, z1, z2⟩ := byte_ l i2 h2 y2 hl
    rw [e3]
    simp only [Option.bind_some]
    rw [if_neg (by omega)]
    have q : 0 ≤ wrap64 ((wrap64 ((wrap64 (x * 65536)) + (wrap64 (y * 256)))) + z) := by unfold wrap64; omega
    exact ⟨_, _, _, rfl, by rw [tmod_pos q]; exact Int.emod_nonneg _ (by omega), .inl (by rw [tmod_pos q]; exact Int.emod_lt_of_pos _ (by omega)), z2⟩
theorem once_ (l : List Int) (i h a : Int) (h0 : 0 ≤ i) (hl : l.length ≤ 1048576) : ∃ b i' h', spec_l01Once.f l i h a = some (b, i', h') ∧ 0 ≤ i' := by
  unfold spec_l01Once.f
  obtain ⟨x, i1, h1, e1, _, _, g2⟩ := below_ l i h a h0 hl
  rw [e1]
  exact ⟨_, _, _, rfl, g2⟩
theorem pick_ (l : List Int) (i h : Int) (xs : List Int) (hx : 0 < xs.length) (h0 : 0 ≤ i) (hl : l.length ≤ 1048576) : ∃ x i' h', spec_l01PickInt.f l i h xs = some (x, i', h') ∧ x ∈ xs ∧ 0 ≤ i' := by
  unfold spec_l01PickInt.f
  obtain ⟨x, i1, h1, e1, g0, g1, g2⟩ := below_ l i h (xs.length : Int) h0 hl
  rw [e1]
  simp only [Option.bind_some]
  have g : x < (xs.length : Int) := by omega
  rw [if_pos g0, if_pos g]
  exact ⟨_, _, _, rfl, mem_getD xs 0 _ (by omega), g2⟩
theorem new_l0 (l : List Int) : ∀ (d k i : Nat) (h : Int), i + d = 4000 → d < k → ∃ h', spec_l01New.l0 k l h (i : Int) = some (l, 0, h') := by
  intro d
  induction d with
  | zero =>
    intro k i h hi hk
    obtain ⟨k, rfl⟩ : ∃ m, k = m + 1 := ⟨k - 1, by omega⟩
    simp only [spec_l01New.l0]
    by_cases c : (i : Int) < (l.length : Int)
    · exact ⟨h, ifp c (ifn (by omega) rfl)⟩
    · exact ⟨h, ifn c rfl⟩
  | succ d ih =>
    intro k i h hi hk
    obtain ⟨k, rfl⟩ : ∃ m, k = m + 1 := ⟨k - 1, by omega⟩
    simp only [spec_l01New.l0, w64_succ i (by omega)]
    by_cases c : (i : Int) < (l.length : Int)
    · obtain ⟨h', g⟩ := ih k (i + 1) (Go.bits .and .i64 (wrap64 ((wrap64 ((wrap64 (h * 149)) + (wrap64 (rd l i)))) + 11)) 1073741823) (by omega) (by omega)
      exact ⟨h', ifp c (ifp (by omega) (ifp (by omega) g))⟩
    · exact ⟨h, ifn c rfl⟩
theorem new_ (k : Nat) (l : List Int) (hk : 4100 ≤ k) : ∃ h', spec_l01New.f k l = some (l, 0, h') := by
  unfold spec_l01New.f
  exact new_l0 l 4000 k 0 _ (by omega) (by omega)

theorem dreals_l0 (l : List Int) (hl : l.length ≤ 1048576) (n : Nat) (hn : n ≤ 302) : ∀ (d k j : Nat) (acc : List Int) (i h : Int), j + d = n → d < k → acc.length = j → (∀ x ∈ acc, -1000000001 ≤ x ∧ x ≤ 1000000001) → 0 ≤ i →
    ∃ r i' h', spec_l11DrawReals.l0 k acc (n : Int) (j : Int) l i h = some (r, i', h') ∧ r.length ≤ 302 ∧ (∀ x ∈ r, -1000000001 ≤ x ∧ x ≤ 1000000001) ∧ 0 ≤ i' := by
  intro d
  induction d with
  | zero =>
    intro k j acc i h hj hk ha hv h0
    obtain ⟨k, rfl⟩ : ∃ m, k = m + 1 := ⟨k - 1, by omega⟩
    rw [spec_l11DrawReals.l0, if_neg (by omega)]
    obtain ⟨b, i1, h1, e1, g1⟩ := once_ l i h 15 h0 hl
    rw [e1]
    simp only [Option.bind_some]
    try dsimp only
    cases b with
    | false => exact ⟨acc, i1, h1, ifn (by simp) rfl, by omega, hv, g1⟩
    | true =>
      by_cases c : (n : Int) > 0
      · obtain ⟨x, i2, h2, e2, hx, g2⟩ := pick_ l i1 h1 [1000000000, (-1000000000), 1000000001, (-1000000001)] (by simp) g1 hl
        refine ⟨acc.set (0 : Int).toNat x, i2, h2, ifp rfl (ifp c (st e2 (ifp (by omega) rfl))), by simp; omega, ?_, g2⟩
        intro y hy
        rcases List.mem_or_eq_of_mem_set hy with hy | rfl
        · exact hv y hy
        · simp at hx; omega
      · exact ⟨acc, i1, h1, ifp rfl (ifn c rfl), by omega, hv, g1⟩
  | succ d ih =>
    intro k j acc i h hj hk ha hv h0
    obtain ⟨k, rfl⟩ : ∃ m, k = m + 1 := ⟨k - 1, by omega⟩
    rw [spec_l11DrawReals.l0]
    obtain ⟨x1, i1, h1, e1, a1, b1, g1⟩ := below_ l i h 20000 h0 hl
    obtain ⟨x2, i2, h2, e2, a2, b2, g2⟩ := below_ l i1 h1 200 g1 hl
    obtain ⟨x3, i3, h3, e3, a3, b3, g3⟩ := below_ l i2 h2 300 g2 hl
    have w1 : wrap64 (x1 - 8000) = x1 - 8000 := w64 (by omega) (by omega)
    have w3 : wrap64 (-x3) = -x3 := w64 (by omega) (by omega)
    obtain ⟨x, i4, h4, e4, hx, g4⟩ := pick_ l i3 h3 [wrap64 (x1 - 8000), x2, 0, wrap64 (-x3)] (by simp) g3 hl
    obtain ⟨r, i', h', e5, f1, f2, f3⟩ := ih k (j + 1) (acc ++ [x]) i4 h4 (by omega) (by omega) (by simp; omega) (fun y hy => by
      rcases List.mem_append.1 hy with hy | hy
      · exact hv y hy
      · rw [w1, w3] at hx; simp at hx hy; omega) g4
    refine ⟨r, i', h', ?_, f1, f2, f3⟩
    rw [w64_succ j (by omega)]
    exact ifp (by omega) (st e1 (st e2 (st e3 (st e4 (ifp (by omega) e5)))))

theorem size16_ (code : List Int) : ∃ t : Int, t ≤ 16 ∧ spec_l01Size.f code 16 = some t := by
  unfold spec_l01Size.f
  by_cases c : (wrap64 (2 + (wrap64 ((code.length : Int) / 16)))) > 16
  · exact ⟨16, by omega, ifp c rfl⟩
  · exact ⟨_, by omega, ifn c rfl⟩
theorem dreals_j0 (l : List Int) (hl : l.length ≤ 1048576) (k : Nat) (hk : 400 ≤ k) (n : Int) (hn : n ≤ 302) (i h : Int) (h0 : 0 ≤ i) (hn0 : 0 ≤ n) :
    ∃ r i' h', spec_l11DrawReals.j0 k [] n l i h = some (r, i', h') ∧ r.length ≤ 302 ∧ (∀ x ∈ r, -1000000001 ≤ x ∧ x ≤ 1000000001) ∧ 0 ≤ i' := by
  obtain ⟨k, rfl⟩ : ∃ m, k = m + 1 := ⟨k - 1, by omega⟩
  obtain ⟨m, rfl⟩ := Int.eq_ofNat_of_zero_le hn0
  rw [spec_l11DrawReals.j0]
  exact dreals_l0 l hl m (by omega) m k 0 [] i h (by omega) (by omega) rfl (by simp) h0
theorem dreals (k : Nat) (l : List Int) (hl : l.length ≤ 1048576) (i h : Int) (code : List Int) (hk : 400 ≤ k) (h0 : 0 ≤ i) :
    ∃ r i' h', spec_l11DrawReals.f k l i h code = some (r, i', h') ∧ r.length ≤ 302 ∧ (∀ x ∈ r, -1000000001 ≤ x ∧ x ≤ 1000000001) ∧ 0 ≤ i' := by
  obtain ⟨t, ht, e⟩ := size16_ code
  obtain ⟨n, i1, h1, e1, g0, g1, g2⟩ := below_ l i h t h0 hl
  obtain ⟨b, i2, h2, e2, g3⟩ := once_ l i1 h1 40 g2 hl
  cases b with
  | false =>
    obtain ⟨r, i', h', e4, f1, f2, f3⟩ := dreals_j0 l hl k hk n (by omega) i2 h2 g3 g0
    refine ⟨r, i', h', ?_, f1, f2, f3⟩
    unfold spec_l11DrawReals.f
    exact st rfl (st e (st e1 (st e2 (ifn (by simp) e4))))
  | true =>
    obtain ⟨m, i3, h3, e3, y0, y1, y2⟩ := below_ l i2 h2 2 g3 hl
    obtain ⟨r, i', h', e4, f1, f2, f3⟩ := dreals_j0 l hl k hk (wrap64 (300 + m)) (by rw [w64 (by omega) (by omega)]; omega) i3 h3 y2 (by rw [w64 (by omega) (by omega)]; omega)
    refine ⟨r, i', h', ?_, f1, f2, f3⟩
    unfold spec_l11DrawReals.f
    exact st rfl (st e (st e1 (st e2 (ifp rfl (st e3 e4)))))

theorem shl_n {a : Int} {n : Nat} (hn : n ≤ 64) (h0 : 0 ≤ a * 2 ^ n) (h1 : a * 2 ^ n ≤ 9223372036854775807) : shl .i64 a (n : Int) = a * 2 ^ n := by
  unfold shl
  rw [Int.toNat_natCast, Nat.min_eq_left (show n ≤ IntKind.i64.bits from hn)]
  generalize a * 2 ^ n = x at *
  rw [Go.IntKind.wrap_i64]
  omega
def MB (r : Int × Int × Bool) : Prop := r.2.2 = true → (0 < r.1 ∧ r.1 ≤ 2147483647) ∧ 0 ≤ r.2.1 ∧ r.2.1 ≤ 31
theorem mf_end {a b : Int} {n : Nat} (hn : n ≤ 31) (h0 : 0 < a * 2 ^ n) (h1 : a * 2 ^ n < b) (hb : b ≤ 1000000) {r : Int × Int × Bool}
    (h : (if 0 ≤ (n : Int) then (if b = 0 then none else some (wrap64 (Int.tdiv (wrap64 ((shl .i64 a (n : Int)) * 2147483648)) b), (n : Int), true)) else none) = some r) : MB r := by
  rw [if_pos (by omega), if_neg (by omega), shl_n (by omega) (by omega) (by omega)] at h
  obtain rfl := Option.some.inj h
  intro _
  generalize a * 2 ^ n = x at *
  have hw : wrap64 (x * 2147483648) = x * 2147483648 := w64 (by omega) (by omega)
  dsimp only
  rw [hw, tdiv_pos (by omega)]
  have q0 : 0 < x * 2147483648 / b := by
    have := Int.ediv_le_ediv (show 0 < b by omega) (show b ≤ x * 2147483648 by omega)
    rw [Int.ediv_self (by omega)] at this
    omega
  have q1 : x * 2147483648 / b < 2147483648 := Int.ediv_lt_of_lt_mul (by omega) (by rw [Int.mul_comm]; exact Int.mul_lt_mul_of_pos_left h1 (by omega))
  rw [w64 (by omega) (by omega)]
  omega
theorem mf_bd (a b : Int) (hb : b ≤ 1000000) : ∀ (k n : Nat), n ≤ 31 → 0 < a * 2 ^ n → a * 2 ^ n < b → ∀ r, impl_MultFor.l0 k a b (n : Int) = some r → MB r := by
  intro k
  induction k with
  | zero => intro n _ _ _ r h; simp [impl_MultFor.l0] at h
  | succ k ih =>
    intro n hn h0 h1 r h
    rw [impl_MultFor.l0] at h
    by_cases c : (n : Int) < 31
    · have e : a * 2 ^ (n + 1) = a * 2 ^ n * 2 := by rw [Int.pow_succ, Int.mul_assoc]
      rw [if_pos c, w64_succ n (by omega), if_pos (by omega), shl_n (n := n + 1) (by omega) (by omega) (by omega)] at h
      by_cases c2 : a * 2 ^ (n + 1) < b
      · rw [if_pos c2] at h
        exact ih (n + 1) (by omega) (by omega) c2 r h
      · rw [if_neg c2] at h
        exact mf_end hn h0 h1 hb h
    · rw [if_neg c] at h
      exact mf_end hn h0 h1 hb h
theorem mff_bd (k : Nat) (a b : Int) (r : Int × Int × Bool) (h : impl_MultFor.f k a b = some r) : MB r := by
  have hf : ∀ {r : Int × Int × Bool}, impl_MultFor.j0 k a b true = some r → MB r := by
    intro r h
    cases k with
    | zero => simp [impl_MultFor.j0] at h
    | succ k =>
      rw [impl_MultFor.j0, if_pos rfl] at h
      obtain rfl := Option.some.inj h
      intro z; exact absurd z (by simp)
  unfold impl_MultFor.f at h
  by_cases c1 : a ≤ 0
  · rw [if_pos c1] at h; exact hf h
  · rw [if_neg c1] at h
    by_cases c2 : a ≥ b
    · rw [if_pos c2] at h; exact hf h
    · rw [if_neg c2] at h
      by_cases c3 : b > 1000000
      · rw [decide_eq_true c3] at h; exact hf h
      · rw [decide_eq_false c3] at h
        cases k with
        | zero => simp [impl_MultFor.j0] at h
        | succ k =>
          rw [impl_MultFor.j0, if_neg (by simp)] at h
          exact mf_bd a b (by omega) k 0 (by omega) (by simp; omega) (by simp; omega) r h
theorem mosj_bd (k : Nat) (b : Bool) (x x' y y' z z' : Int) (r : Int × Int × Bool) (h : impl_MultOfScales.j0 k b x x' y y' z z' = some r) : MB r := by
  cases k with
  | zero => simp [impl_MultOfScales.j0] at h
  | succ k =>
    rw [impl_MultOfScales.j0] at h
    cases b with
    | true =>
      rw [if_pos rfl] at h
      obtain rfl := Option.some.inj h
      intro z; exact absurd z (by simp)
    | false =>
      rw [if_neg (by simp)] at h
      obtain ⟨g, _, h⟩ := Option.bind_eq_some_iff.1 h
      by_cases c : g = 0
      · rw [if_pos c] at h; exact absurd h (by simp)
      · rw [if_neg c] at h
        obtain ⟨q, hq, h⟩ := Option.bind_eq_some_iff.1 h
        obtain rfl := Option.some.inj h
        exact mff_bd _ _ _ _ hq
theorem mos_bd (k : Nat) (x x' y y' z z' : Int) (r : Int × Int × Bool) (h : impl_MultOfScales.f k x x' y y' z z' = some r) : MB r := by
  unfold impl_MultOfScales.f at h
  simp only [impl_scaleOk, Option.bind_some] at h
  repeat' split at h
  all_goals exact mosj_bd _ _ _ _ _ _ _ _ _ h
theorem alt_l0 (l : List Int) (hl : l.length ≤ 1048576) : ∀ (d k i : Nat) (acc : List Int), i + d = 3000 → d < k → acc.length = i + 1 → ∃ r, laws_alt.l0 k l acc (i : Int) = some r ∧ r.length ≤ 3001 := by
  intro d
  induction d with
  | zero =>
    intro k i acc hi hk ha
    obtain ⟨k, rfl⟩ : ∃ m, k = m + 1 := ⟨k - 1, by omega⟩
    rw [laws_alt.l0]
    by_cases c : (i : Int) < (l.length : Int)
    · exact ⟨acc, ifp c (ifn (by omega) rfl), by omega⟩
    · exact ⟨acc, ifn c rfl, by omega⟩
  | succ d ih =>
    intro k i acc hi hk ha
    obtain ⟨k, rfl⟩ : ∃ m, k = m + 1 := ⟨k - 1, by omega⟩
    rw [laws_alt.l0, w64_succ i (by omega)]
    by_cases c : (i : Int) < (l.length : Int)
    · obtain ⟨r, g, hr⟩ := ih k (i + 1) (acc ++ [rd l (i : Int)]) (by omega) (by omega) (by simp; omega)
      exact ⟨r, ifp c (ifp (by omega) (ifp (by omega) (ifp (by omega) g))), hr⟩
    · exact ⟨acc, ifn c rfl, by omega⟩
theorem alt_ (k : Nat) (l : List Int) (hl : l.length ≤ 1048576) (hk : 3100 ≤ k) (a : Int) : ∃ r, laws_alt.f k l a = some r ∧ r.length ≤ 3001 := by
  unfold laws_alt.f
  exact alt_l0 l hl 3000 k 0 _ (by omega) (by omega) (by simp)
theorem dsc_j (k : Nat) (l : List Int) (hl : l.length ≤ 1048576) (i h n z : Int) (h0 : 0 ≤ i) (hk : 2 ≤ k) : ∃ a b i' h', spec_l11DrawScale.j0 k l i h n z = some (a, b, i', h') ∧ 0 ≤ i' := by
  obtain ⟨k, rfl⟩ : ∃ m, k = m + 1 := ⟨k - 1, by omega⟩
  rw [spec_l11DrawScale.j0]
  obtain ⟨b, i1, h1, e1, g1⟩ := once_ l i h 15 h0 hl
  cases b with
  | false => exact ⟨n, z, i1, h1, st e1 (ifn (by simp) rfl), g1⟩
  | true =>
    obtain ⟨x, i2, h2, e2, _, g2⟩ := pick_ l i1 h1 [(-129), 128] (by simp) g1 hl
    exact ⟨n, x, i2, h2, st e1 (ifp rfl (st e2 rfl)), g2⟩
theorem dsc (k : Nat) (l : List Int) (hl : l.length ≤ 1048576) (i h : Int) (h0 : 0 ≤ i) (hk : 2 ≤ k) : ∃ a b i' h', spec_l11DrawScale.f k l i h = some (a, b, i', h') ∧ 0 ≤ i' := by
  unfold spec_l11DrawScale.f
  obtain ⟨x, i1, h1, e1, _, _, g1⟩ := below_ l i h 200 h0 hl
  obtain ⟨y, i2, h2, e2, _, _, g2⟩ := below_ l i1 h1 256 g1 hl
  obtain ⟨b, i3, h3, e3, g3⟩ := once_ l i2 h2 10 g2 hl
  cases b with
  | false =>
    obtain ⟨a, b, i', h', e, g⟩ := dsc_j k l hl i3 h3 (wrap64 (1 + x)) (wrap64 (y - 128)) g3 hk
    exact ⟨a, b, i', h', st e1 (st e2 (st e3 (ifn (by simp) e))), g⟩
  | true =>
    obtain ⟨v, i4, h4, e4, _, g4⟩ := pick_ l i3 h3 [0, 1, 1000000000, 1000000001] (by simp) g3 hl
    obtain ⟨a, b, i', h', e, g⟩ := dsc_j k l hl i4 h4 v (wrap64 (y - 128)) g4 hk
    exact ⟨a, b, i', h', st e1 (st e2 (st e3 (ifp rfl (st e4 e)))), g⟩
theorem dmos (k : Nat) (l : List Int) (hl : l.length ≤ 1048576) (hk : 5000 ≤ k) : ∃ a b c d e f, spec_DrawMultOfScales.f k l = some (a, b, c, d, e, f) := by
  unfold spec_DrawMultOfScales.f
  obtain ⟨h, e0⟩ := new_ k l (by omega)
  obtain ⟨a1, b1, i1, h1, e1, g1⟩ := dsc k l hl 0 h (by omega) (by omega)
  obtain ⟨a2, b2, i2, h2, e2, g2⟩ := dsc k l hl i1 h1 g1 (by omega)
  obtain ⟨a3, b3, i3, h3, e3, g3⟩ := dsc k l hl i2 h2 g2 (by omega)
  exact ⟨a1, b1, a2, b2, a3, b3, st e0 (st e1 (st e2 (st e3 rfl)))⟩
theorem dqu_l0 (l : List Int) (hl : l.length ≤ 1048576) (h w c : Int) (s : Nat) (hs : szN h w c = (s : Int)) (hs2 : s ≤ 512) : ∀ (d k j : Nat) (acc : List Int) (i hh : Int), j + d = s → d + 500 < k → acc.length = j → 0 ≤ i →
    ∃ r, spec_DrawQuantTensor.l0 k l acc (j : Int) l i hh h w c = some (r, h, w, c) ∧ r.length ≤ 512 := by
  intro d
  induction d with
  | zero =>
    intro k j acc i hh hj hk ha h0
    obtain ⟨k, rfl⟩ : ∃ m, k = m + 1 := ⟨k - 1, by omega⟩
    rw [spec_DrawQuantTensor.l0]
    obtain ⟨b, i1, h1, e1, g1⟩ := once_ l i hh 6 h0 hl
    cases b with
    | false => exact ⟨acc, st (spec_sizeOf_ h w c) (ifn (by omega) (st e1 (ifn (by simp) rfl))), by omega⟩
    | true =>
      obtain ⟨r, i', h', e2, f1, _, _⟩ := dreals k l hl i1 h1 l (by omega) g1
      exact ⟨r, st (spec_sizeOf_ h w c) (ifn (by omega) (st e1 (ifp rfl (st e2 rfl)))), by omega⟩
  | succ d ih =>
    intro k j acc i hh hj hk ha h0
    obtain ⟨k, rfl⟩ : ∃ m, k = m + 1 := ⟨k - 1, by omega⟩
    rw [spec_DrawQuantTensor.l0, w64_succ j (by omega)]
    obtain ⟨x, i1, h1, e1, _, _, g1⟩ := below_ l i hh 9000 h0 hl
    obtain ⟨r, e2, hr⟩ := ih k (j + 1) (acc ++ [wrap64 (x - 4000)]) i1 h1 (by omega) (by omega) (by simp; omega) g1
    exact ⟨r, st (spec_sizeOf_ h w c) (ifp (by omega) (st e1 (ifp (by omega) e2))), hr⟩
theorem szN_bd (h w c : Int) : 0 ≤ szN h w c ∧ szN h w c ≤ 512 := by
  unfold szN
  by_cases s : shOk h w c = true
  · rw [if_pos s]; have := prod_bd s; omega
  · rw [if_neg s]; omega
theorem dqu (k : Nat) (l : List Int) (hl : l.length ≤ 1048576) (hk : 5000 ≤ k) : ∃ r h w c, spec_DrawQuantTensor.f k l = some (r, h, w, c) ∧ r.length ≤ 512 := by
  unfold spec_DrawQuantTensor.f spec_l02DrawShape.f
  obtain ⟨h, e0⟩ := new_ k l (by omega)
  obtain ⟨x, i1, h1, e1, _, _, g1⟩ := below_ l 0 h 3 (by omega) hl
  obtain ⟨y, i2, h2, e2, _, _, g2⟩ := below_ l i1 h1 3 g1 hl
  obtain ⟨z, i3, h3, e3, _, _, g3⟩ := below_ l i2 h2 3 g2 hl
  have hb := szN_bd (wrap64 (1 + x)) (wrap64 (1 + y)) (wrap64 (1 + z))
  obtain ⟨s, hs⟩ := Int.eq_ofNat_of_zero_le hb.1
  obtain ⟨r, e4, hr⟩ := dqu_l0 l hl (wrap64 (1 + x)) (wrap64 (1 + y)) (wrap64 (1 + z)) s hs (by omega) s k 0 [] i3 h3 (by omega) (by omega) rfl g3
  exact ⟨r, _, _, _, st e0 (st (st e1 (st e2 (st e3 rfl))) e4), hr⟩
theorem same_l (a : List Int) (hm : a.length ≤ 1000000) : ∀ (d k i : Nat), i + d = a.length → d < k → laws_same.l0 k a a (i : Int) = some true := by
  intro d
  induction d with
  | zero =>
    intro k i hi hk
    obtain ⟨k, rfl⟩ : ∃ m, k = m + 1 := ⟨k - 1, by omega⟩
    rw [laws_same.l0]
    exact ifn (by omega) rfl
  | succ d ih =>
    intro k i hi hk
    obtain ⟨k, rfl⟩ : ∃ m, k = m + 1 := ⟨k - 1, by omega⟩
    rw [laws_same.l0, w64_succ i (by omega)]
    exact ifp (by omega) (ifp (by omega) (ifp (by omega) (ifp rfl (ih k (i + 1) (by omega) (by omega)))))
theorem same_ (k : Nat) (a : List Int) (hm : a.length ≤ 1000000) (hk : 1000100 ≤ k) : laws_same.f k a a = some true := by
  unfold laws_same.f
  exact ifp rfl (same_l a hm a.length k 0 (by omega) (by omega))
theorem equal_l (a : List Int) (hm : a.length ≤ 1000000) : ∀ (d k i : Nat), i + d = a.length → d < k → slices_Equal_int_int.l0 k a a (a.length : Int) (i : Int) = some true := by
  intro d
  induction d with
  | zero =>
    intro k i hi hk
    obtain ⟨k, rfl⟩ : ∃ m, k = m + 1 := ⟨k - 1, by omega⟩
    rw [slices_Equal_int_int.l0]
    exact ifn (by omega) rfl
  | succ d ih =>
    intro k i hi hk
    obtain ⟨k, rfl⟩ : ∃ m, k = m + 1 := ⟨k - 1, by omega⟩
    rw [slices_Equal_int_int.l0, w64_succ i (by omega)]
    exact ifp (by omega) (ifp (by omega) (ifp (by omega) (ifp (by omega) (ifp rfl (ih k (i + 1) (by omega) (by omega))))))
theorem sameT_ (k : Nat) (h w c : Int) (l : List Int) (ht : tOk h w c l = true) (hk : 2000 ≤ k) : impl_SameTensor.f k h w c l h w c l = some true := by
  have hl := tOk_len ht
  have e : slices_Equal_int_int.f k l l = some true := ifp rfl (equal_l l (by omega) l.length k 0 (by omega) (by omega))
  unfold impl_SameTensor.f impl_Tensor_same.f
  exact st (impl_tOk k h w c l (by omega) (by omega)) (ifp ht (st (ifp (by simp) (st e rfl)) rfl))
theorem fq_tail (k : Nat) (l : List Int) (hl : l.length ≤ 1048576) (hk : 10000000000001 ≤ k) : laws_FnQuantized.j2 k l = some true := by
  obtain ⟨k, rfl⟩ : ∃ m, k = m + 1 := ⟨k - 1, by omega⟩
  rw [laws_FnQuantized.j2]
  obtain ⟨q, e1, hq⟩ := alt_ k l hl (by omega) 1
  obtain ⟨a, b, c, d, e, f, e2⟩ := dmos k q (by omega) (by omega)
  obtain ⟨r, h1, h2⟩ := mos k a b c d e f (by omega)
  have hb := mos_bd k a b c d e f r h2
  refine st e1 (st e2 (st h2 (st h1 (ifp (by simp) (ifp rfl (ifp rfl ?_))))))
  by_cases c : r.2.2 = true
  · obtain ⟨⟨b1, b2⟩, b3, b4⟩ := hb c
    exact ifp c (ifp b1 (ifp b2 (ifp b3 (by rw [decide_eq_true b4]))))
  · exact ifn c rfl


theorem FnQuantized : laws_FnQuantized.Pure := by
  intro l hl
  obtain ⟨k, hk⟩ : ∃ k : Nat, 10000000000100 ≤ k := ⟨_, Nat.le_refl _⟩
  refine ⟨k + 1 + 1, ?_⟩
  unfold laws_FnQuantized.f laws_big.f
  by_cases hb : (l.length : Int) > 1048576
  · rw [decide_eq_true hb]; exact st rfl (ifp rfl rfl)
  rw [decide_eq_false hb]
  obtain ⟨r, h, w, c, e, hr⟩ := dqu (k + 1 + 1) l (by omega) (by omega)
  have e1 := impl_qu (k + 1 + 1) r h w c (by omega)
  have e2 := spec_qu (k + 1 + 1) r h w c (by omega)
  unfold quT at e1 e2
  refine st rfl (ifn (by simp) (st e ?_))
  by_cases q : quOk r h w c
  · rw [if_pos q] at e1 e2
    have ht := quL_tOk q
    have hs := sOk_for q.1
    have hlen := quL_len (sNum r) (sZero r) r
    have f1 := impl_reals (k + 1) h w c (quL (sNum r) (sZero r) r) (sNum r) (sZero r) (by omega) (by omega)
    have f2 := spec_reals (k + 1) h w c (quL (sNum r) (sZero r) r) (sNum r) (sZero r) (by omega) (by omega)
    have f3 := sameT_ (k + 1) h w c (quL (sNum r) (sZero r) r) ht (by omega)
    have f4 := spec_tOk (k + 1) h w c (quL (sNum r) (sZero r) r) (by omega) (by omega)
    have f5 := realsE_len h w c (quL (sNum r) (sZero r) r) (sNum r) (sZero r)
    have f6 : (realsE h w c (quL (sNum r) (sZero r) r) (sNum r) (sZero r)).length = r.length := by
      unfold realsE; rw [if_pos ⟨ht, hs⟩]; unfold reals; rw [List.length_map, hlen]
    rw [ht] at f4
    refine st e1 (st e2 ?_)
    dsimp only
    refine ifn (by simp) ?_
    rw [laws_FnQuantized.j0]
    refine ifn (by simp) (ifp rfl (st f1 (st f3 (ifp rfl (st f4 (ifp rfl (ifn (by simp) (st f2 (st (same_ (k + 1) _ (by omega) (by omega)) (ifp rfl ?_))))))))))
    rw [laws_FnQuantized.j1]
    exact ifn (by rw [f6]; simp) (fq_tail k l (by omega) (by omega))
  · rw [if_neg q] at e1 e2
    refine st e1 (st e2 ?_)
    dsimp only
    refine ifn (by simp) ?_
    rw [laws_FnQuantized.j0]
    exact ifn (by simp) (ifn (by simp) (fq_tail (k + 1) l (by omega) (by omega)))

end Go.Proofs.Ytdniejjhkkepcaa.Pure
