/- What is left of the statement FnScales once the Go functions are Lean functions: the program's s and the reference's answer alike. No condition. -/
import Derived.Test.YtneeplpooamffaaQFnScalesx6
import Derived.Test.YtneeplpooamffaaAid
set_option linter.unusedVariables false
set_option linter.unusedSimpArgs false
namespace Go.Proofs.Ytneeplpooamffaa.Pure
open Go.RowKit Go.Proofs.Ytneeplpooamffaa.QFnScales Go.Proofs.YtneeplpooamffaaW.PrintWords Go.Proofs.YtneeplpooamffaaW.PrintLast Go.Proofs.YtneeplpooamffaaW.PrintMore Go.Proofs.YtneeplpooamffaaW.Aid


theorem impl_in_ (x lo hi : Int) : impl_in.f x lo hi = some (decide (lo ≤ x ∧ x ≤ hi)) := by
  unfold impl_in.f
  split
  · simp_all
  · simp; omega

def sOk (n z : Int) : Bool := decide ((1 ≤ n ∧ n ≤ 1000000000) ∧ (-128 ≤ z ∧ z ≤ 127))
theorem sOk_iff {n z : Int} : sOk n z = true ↔ ((1 ≤ n ∧ n ≤ 1000000000) ∧ (-128 ≤ z ∧ z ≤ 127)) := by simp [sOk]

theorem impl_scaleOk (n z : Int) : impl_ScaleOk.f n z = some (sOk n z) := by
  unfold impl_ScaleOk.f
  simp only [impl_in_, Option.bind_some]
  by_cases h : 1 ≤ n ∧ n ≤ 1000000000 <;> simp [sOk, h]

def sat8 (x : Int) : Int := mx (-128) (mn x 127)
theorem sat8_bd (x : Int) : -128 ≤ sat8 x ∧ sat8 x ≤ 127 := by unfold sat8 mx mn; repeat' split <;> omega
theorem impl_sat8 (x : Int) : impl_Sat8.f x = some (sat8 x) := rfl

def from8 (q n z : Int) : Int := mx (-1000000000) (mn ((sat8 q - z) * n) 1000000000)
theorem mul_bd {a n : Int} (h0 : -255 ≤ a) (h1 : a ≤ 255) (n0 : 1 ≤ n) (n1 : n ≤ 1000000000) : -255000000000 ≤ a * n ∧ a * n ≤ 255000000000 := by
  have h2 : (-255) * n ≤ a * n := Int.mul_le_mul_of_nonneg_right h0 (by omega)
  have h3 : a * n ≤ 255 * n := Int.mul_le_mul_of_nonneg_right h1 (by omega)
  omega
theorem impl_from8_ (q n z : Int) (h : sOk n z = true) : impl_Scale_fromInt8.f n z q = some (from8 q n z) := by
  obtain ⟨⟨h1, h2⟩, h3, h4⟩ := sOk_iff.1 h
  have hb := sat8_bd q
  have hm := mul_bd (a := sat8 q - z) (n := n) (by omega) (by omega) h1 h2
  unfold impl_Scale_fromInt8.f
  simp only [impl_sat8, Option.bind_some]
  rw [w64 (x := sat8 q - z) (by omega) (by omega), w64 (by omega) (by omega)]
  rfl

theorem impl_from8 (q n z : Int) : impl_FromInt8.f q n z = some (if sOk n z = true then from8 q n z else 0) := by
  unfold impl_FromInt8.f
  simp only [impl_scaleOk, Option.bind_some]
  cases h : sOk n z with
  | false => rfl
  | true => simp only [if_true, impl_from8_ q n z h, Option.bind_some]

def isR (x : Int) : Bool := decide (-1000000000 ≤ x ∧ x ≤ 1000000000)
theorem isR_iff {x : Int} : isR x = true ↔ (-1000000000 ≤ x ∧ x ≤ 1000000000) := by simp [isR]
theorem impl_real (x : Int) : impl_isReal.f x = some (isR x) := by unfold impl_isReal.f; rw [impl_in_]; rfl

def nearN (x n : Int) : Int := (2 * x + n) / (2 * n)
def near (x n : Int) : Int := if x < 0 then -nearN (-x) n else nearN x n
theorem nearN_bd {x n : Int} (x0 : 0 ≤ x) (x1 : x ≤ 1000000000) (n0 : 1 ≤ n) (n1 : n ≤ 1000000000) : 0 ≤ nearN x n ∧ nearN x n ≤ 1000000000 := by
  unfold nearN
  refine ⟨Int.ediv_nonneg (by omega) (by omega), ?_⟩
  have : (2 * x + n) / (2 * n) < 1000000001 := Int.ediv_lt_of_lt_mul (by omega) (by omega)
  omega
theorem near_bd {x n : Int} (h : isR x = true) (n0 : 1 ≤ n) (n1 : n ≤ 1000000000) : -1000000000 ≤ near x n ∧ near x n ≤ 1000000000 := by
  have hx := isR_iff.1 h
  unfold near
  split
  · have := nearN_bd (x := -x) (n := n) (by omega) (by omega) n0 n1
    omega
  · have := nearN_bd (x := x) (n := n) (by omega) (by omega) n0 n1
    omega
theorem impl_rounded_ (k : Nat) (hk : 2 ≤ k) (x n : Int) (h : isR x = true) (n0 : 1 ≤ n) (n1 : n ≤ 1000000000) : impl_rounded.f k x n = some (near x n) := by
  obtain ⟨k, rfl⟩ : ∃ m, k = m + 2 := ⟨k - 2, by omega⟩
  have hx := isR_iff.1 h
  have pos : ∀ (y : Int) (j : Nat), 0 ≤ y → y ≤ 1000000000 → impl_rounded.f (j + 1) y n = some (nearN y n) := by
    intro y j y0 y1
    have hb := nearN_bd y0 y1 n0 n1
    simp only [impl_rounded.f]
    rw [if_neg (by omega), w64 (x := 2 * n) (by omega) (by omega), if_neg (show ¬ 2 * n = 0 by omega), w64 (x := 2 * y) (by omega) (by omega), w64 (x := 2 * y + n) (by omega) (by omega), tdiv_pos (by omega)]
    unfold nearN at *
    rw [w64 (by omega) (by omega)]
  unfold near
  split
  · have hb := nearN_bd (x := -x) (n := n) (by omega) (by omega) n0 n1
    rw [impl_rounded.f, if_pos (by assumption), w64 (x := -x) (by omega) (by omega), pos _ _ (by omega) (by omega)]
    simp only [Option.bind_some]
    rw [w64 (by omega) (by omega)]
  · exact pos x _ (by omega) (by omega)
def to8 (x n z : Int) : Int := sat8 (near x n + z)
theorem impl_to8_ (k : Nat) (hk : 2 ≤ k) (x n z : Int) (hx : isR x = true) (hs : sOk n z = true) : impl_Scale_toInt8.f k n z x = some (to8 x n z) := by
  obtain ⟨⟨h1, h2⟩, h3, h4⟩ := sOk_iff.1 hs
  have hb := near_bd hx h1 h2
  unfold impl_Scale_toInt8.f
  simp only [impl_rounded_ k hk x n hx h1 h2, Option.bind_some]
  rw [w64 (by omega) (by omega), impl_sat8]
  rfl

theorem impl_to8 (k : Nat) (hk : 2 ≤ k) (x n z : Int) : impl_ToInt8.f k x n z = some (if isR x = true ∧ sOk n z = true then to8 x n z else 0) := by
  unfold impl_ToInt8.f
  simp only [impl_real, impl_scaleOk, Option.bind_some]
  cases h : isR x with
  | false => simp
  | true =>
    cases h2 : sOk n z with
    | false => simp
    | true => simp [impl_to8_ k hk x n z h h2]

def lst (l : List Int) (a : Int) : Int := l.foldl min a
def grt (l : List Int) (a : Int) : Int := l.foldl max a
theorem lst_le (l : List Int) (a : Int) : lst l a ≤ a ∧ ∀ x ∈ l, lst l a ≤ x := by
  induction l generalizing a with
  | nil => simp [lst]
  | cons y l ih =>
    have h := ih (min a y)
    simp only [lst, List.foldl_cons] at *
    refine ⟨by omega, fun x hx => ?_⟩
    rcases List.mem_cons.1 hx with rfl | hx
    · omega
    · exact h.2 x hx
theorem grt_ge (l : List Int) (a : Int) : a ≤ grt l a ∧ ∀ x ∈ l, x ≤ grt l a := by
  induction l generalizing a with
  | nil => simp [grt]
  | cons y l ih =>
    have h := ih (max a y)
    simp only [grt, List.foldl_cons] at *
    refine ⟨by omega, fun x hx => ?_⟩
    rcases List.mem_cons.1 hx with rfl | hx
    · omega
    · exact h.2 x hx
theorem lst_min (l : List Int) (a b : Int) : lst l (min a b) = min a (lst l b) := by
  induction l generalizing b with
  | nil => rfl
  | cons y l ih => simp only [lst, List.foldl_cons] at *; rw [← ih]; congr 1; omega
theorem grt_max (l : List Int) (a b : Int) : grt l (max a b) = max a (grt l b) := by
  induction l generalizing b with
  | nil => rfl
  | cons y l ih => simp only [grt, List.foldl_cons] at *; rw [← ih]; congr 1; omega
theorem lst_ge (l : List Int) (a c : Int) (h : c ≤ a) (hl : ∀ x ∈ l, c ≤ x) : c ≤ lst l a := by
  induction l generalizing a with
  | nil => exact h
  | cons y l ih =>
    have := hl y (by simp)
    exact ih (min a y) (by omega) (fun x hx => hl x (by simp [hx]))
theorem grt_le (l : List Int) (a c : Int) (h : a ≤ c) (hl : ∀ x ∈ l, x ≤ c) : grt l a ≤ c := by
  induction l generalizing a with
  | nil => exact h
  | cons y l ih =>
    have := hl y (by simp)
    exact ih (max a y) (by omega) (fun x hx => hl x (by simp [hx]))
def rng (l : List Int) : Int × Int × Bool := if (1 ≤ (l.length : Int) ∧ (l.length : Int) ≤ 300) ∧ l.all isR = true then (lst l 0, grt l 0, true) else (0, 0, false)
theorem all_drop (l : List Int) (i : Nat) (h : i < l.length) : (l.drop i).all isR = (isR (l.getD i 0) && (l.drop (i + 1)).all isR) := by
  rw [drop_getD l 0 i h]; rfl
theorem min_l0 (l : List Int) (hm : l.length ≤ 9223372036854775806) : ∀ (d k i : Nat) (a : Int), i + d = l.length → d < k → slices_Min_int_int.l0 k l a (i : Int) = some (lst (l.drop i) a) := by
  intro d
  induction d with
  | zero =>
    intro k i a hi hk
    obtain ⟨k, rfl⟩ : ∃ m, k = m + 1 := ⟨k - 1, by omega⟩
    simp only [slices_Min_int_int.l0]
    rw [if_neg (by omega), List.drop_of_length_le (by omega)]
    rfl
  | succ d ih =>
    intro k i a hi hk
    obtain ⟨k, rfl⟩ : ∃ m, k = m + 1 := ⟨k - 1, by omega⟩
    simp only [slices_Min_int_int.l0]
    rw [if_pos (by omega), if_pos (by omega), w64_succ i (by omega), ih k (i + 1) _ (by omega) (by omega), rd_natD, drop_getD l 0 i (by omega), mn_eq]
    rfl
theorem max_l0 (l : List Int) (hm : l.length ≤ 9223372036854775806) : ∀ (d k i : Nat) (a : Int), i + d = l.length → d < k → slices_Max_int_int.l0 k l a (i : Int) = some (grt (l.drop i) a) := by
  intro d
  induction d with
  | zero =>
    intro k i a hi hk
    obtain ⟨k, rfl⟩ : ∃ m, k = m + 1 := ⟨k - 1, by omega⟩
    simp only [slices_Max_int_int.l0]
    rw [if_neg (by omega), List.drop_of_length_le (by omega)]
    rfl
  | succ d ih =>
    intro k i a hi hk
    obtain ⟨k, rfl⟩ : ∃ m, k = m + 1 := ⟨k - 1, by omega⟩
    simp only [slices_Max_int_int.l0]
    rw [if_pos (by omega), if_pos (by omega), w64_succ i (by omega), ih k (i + 1) _ (by omega) (by omega), rd_natD, drop_getD l 0 i (by omega), mx_eq]
    rfl
theorem idx_l0 (l : List Int) (hm : l.length ≤ 300) : ∀ (d k i : Nat), i + d = l.length → d < k →
    ∃ r, slices_IndexFunc_int_int_at_63.l0 k l (l.length : Int) (i : Int) = some r ∧ (0 ≤ r ↔ (l.drop i).all isR = false) := by
  intro d
  induction d with
  | zero =>
    intro k i hi hk
    obtain ⟨k, rfl⟩ : ∃ m, k = m + 1 := ⟨k - 1, by omega⟩
    simp only [slices_IndexFunc_int_int_at_63.l0]
    rw [if_neg (by omega), List.drop_of_length_le (by omega)]
    exact ⟨-1, rfl, by simp⟩
  | succ d ih =>
    intro k i hi hk
    obtain ⟨k, rfl⟩ : ∃ m, k = m + 1 := ⟨k - 1, by omega⟩
    simp only [slices_IndexFunc_int_int_at_63.l0]
    rw [if_pos (by omega), if_pos (by omega), if_pos (by omega), all_drop l i (by omega)]
    unfold impl_RangeOfReals_1.f
    simp only [impl_real, Option.bind_some, rd_natD]
    cases hr : isR (l.getD i 0) with
    | false => exact ⟨i, by simp, by simp⟩
    | true =>
      obtain ⟨r, h1, h2⟩ := ih k (i + 1) (by omega) (by omega)
      refine ⟨r, ?_, by simpa using h2⟩
      rw [w64_succ i (by omega)]
      simpa using h1
theorem impl_range (k : Nat) (l : List Int) (hk : l.length + 1 < k) : impl_RangeOfReals.f k l = some (rng l) := by
  obtain ⟨k, rfl⟩ : ∃ m, k = m + 1 := ⟨k - 1, by omega⟩
  unfold impl_RangeOfReals.f rng
  simp only [impl_in_, Option.bind_some, decide_eq_true_eq, impl_RangeOfReals.j0, if_true]
  by_cases h : 1 ≤ (l.length : Int) ∧ (l.length : Int) ≤ 300
  · obtain ⟨r, h1, h2⟩ := idx_l0 l (by omega) l.length (k + 1) 0 (by omega) (by omega)
    have h1' : slices_IndexFunc_int_int_at_63.f (k + 1) l = some r := h1
    have hc : slices_ContainsFunc_int_int_at_63.f (k + 1) l = some (decide (r ≥ 0)) := by
      unfold slices_ContainsFunc_int_int_at_63.f
      rw [h1']; rfl
    rw [if_pos h, hc]
    simp only [Option.bind_some, decide_eq_true_eq]
    rw [List.drop_zero] at h2
    cases ha : l.all isR with
    | false =>
      rw [ha] at h2
      rw [if_pos (h2.2 rfl), if_neg (by simp)]
    | true =>
      rw [ha] at h2
      rw [if_neg (by intro z; exact absurd (h2.1 z) (by simp)), if_pos ⟨h, rfl⟩]
      cases l with
      | nil => simp at h
      | cons y l =>
        have e1 : slices_Min_int_int.f k (y :: l) = some (lst l y) := by
          unfold slices_Min_int_int.f
          simp only [List.length_cons] at h hk ⊢
          rw [if_neg (by omega), if_pos (by omega)]
          have := min_l0 (y :: l) (by simp only [List.length_cons]; omega) l.length k 1 y (by simp only [List.length_cons]; omega) (by omega)
          simpa [rd] using this
        have e2 : slices_Max_int_int.f k (y :: l) = some (grt l y) := by
          unfold slices_Max_int_int.f
          simp only [List.length_cons] at h hk ⊢
          rw [if_neg (by omega), if_pos (by omega)]
          have := max_l0 (y :: l) (by simp only [List.length_cons]; omega) l.length k 1 y (by simp only [List.length_cons]; omega) (by omega)
          simpa [rd] using this
        rw [e1, e2]
        simp only [Option.bind_some]
        rw [mn_eq, mx_eq, ← lst_min, ← grt_max]
        rfl
  · rw [if_neg h, if_neg (fun z => h z.1)]

def errAt (n z x : Int) : Int := x - from8 (to8 x n z) n z
theorem from8_bd (q n z : Int) : -1000000000 ≤ from8 q n z ∧ from8 q n z ≤ 1000000000 := by
  unfold from8; rw [mx_eq, mn_eq]; omega
theorem errAt_bd {n z x : Int} (h : isR x = true) : -2000000000 ≤ errAt n z x ∧ errAt n z x ≤ 2000000000 := by
  have h1 := from8_bd (to8 x n z) n z
  have h2 := isR_iff.1 h
  unfold errAt; omega
def worst (n z : Int) (l : List Int) (m : Int) : Int := l.foldl (fun m x => max m (max (errAt n z x) (-errAt n z x))) m
def worstE (n z : Int) (l : List Int) : Int := if ((1 ≤ (l.length : Int) ∧ (l.length : Int) ≤ 300) ∧ l.all isR = true) ∧ sOk n z = true then worst n z l 0 else -1
theorem impl_worst_l0 (n z : Int) (l : List Int) (hm : l.length ≤ 300) (hs : sOk n z = true) (ha : l.all isR = true) : ∀ (d k i : Nat) (m : Int), i + d = l.length → d + 3 < k →
    impl_WorstError.l0 k m l (l.length : Int) (i : Int) n z = some (worst n z (l.drop i) m) := by
  intro d
  induction d with
  | zero =>
    intro k i m hi hk
    obtain ⟨k, rfl⟩ : ∃ m, k = m + 1 := ⟨k - 1, by omega⟩
    simp only [impl_WorstError.l0]
    rw [if_neg (by omega), List.drop_of_length_le (by omega)]
    rfl
  | succ d ih =>
    intro k i m hi hk
    obtain ⟨k, rfl⟩ : ∃ m, k = m + 1 := ⟨k - 1, by omega⟩
    have hx : isR (l.getD i 0) = true := List.all_eq_true.1 ha _ (mem_getD l 0 i (by omega))
    have he := errAt_bd (n := n) (z := z) hx
    simp only [impl_WorstError.l0]
    rw [if_pos (by omega), if_pos (by omega), if_pos (by omega), drop_getD l 0 i (by omega)]
    simp only [rd_natD, impl_to8_ k (by omega) _ n z hx hs, impl_from8_ _ n z hs, Option.bind_some]
    have e : l.getD i 0 - from8 (to8 (l.getD i 0) n z) n z = errAt n z (l.getD i 0) := rfl
    have ew : worst n z (l.getD i 0 :: l.drop (i + 1)) m = worst n z (l.drop (i + 1)) (max m (max (errAt n z (l.getD i 0)) (-errAt n z (l.getD i 0)))) := rfl
    rw [e, ew, w64 (x := errAt n z (l.getD i 0)) (by omega) (by omega), w64 (x := -errAt n z (l.getD i 0)) (by omega) (by omega), w64_succ i (by omega)]
    rw [ih k (i + 1) _ (by omega) (by omega), mx_eq, mx_eq]
    congr 2
    omega
theorem impl_worst (k : Nat) (l : List Int) (n z : Int) (hk : l.length + 5 < k) : impl_WorstError.f k l n z = some (worstE n z l) := by
  obtain ⟨k, rfl⟩ : ∃ m, k = m + 1 := ⟨k - 1, by omega⟩
  unfold impl_WorstError.f worstE
  simp only [impl_range (k + 1) l (by omega), impl_scaleOk, Option.bind_some, rng, impl_WorstError.j0]
  by_cases h : (1 ≤ (l.length : Int) ∧ (l.length : Int) ≤ 300) ∧ l.all isR = true
  · simp only [if_pos h, if_true]
    cases hs : sOk n z with
    | false => simp
    | true =>
      have := impl_worst_l0 n z l (by omega) hs h.2 l.length k 0 0 (by omega) (by omega)
      simpa [h.1.1, h.1.2, h.2] using this
  · simp only [if_neg h, Bool.false_eq_true, if_false, if_true]
    rw [if_neg (fun w => h w.1)]

theorem down_eq (a b : Int) (hb : 0 < b) : (if Int.tmod a b < 0 then Int.tdiv a b - 1 else Int.tdiv a b) = a / b := by
  have e1 := Int.tdiv_eq_ediv (a := a) (b := b)
  have e2 := Int.mul_tdiv_add_tmod a b
  have e3 := Int.mul_ediv_add_emod a b
  have e4 := Int.emod_nonneg a (show b ≠ 0 by omega)
  have e5 := Int.emod_lt_of_pos a hb
  have hs : b.sign = 1 := Int.sign_eq_one_of_pos hb
  rw [hs] at e1
  by_cases h : 0 ≤ a ∨ b ∣ a
  · rw [if_pos h, Int.add_zero] at e1
    rw [e1] at e2 ⊢
    rw [if_neg (by omega)]
  · rw [if_neg h] at e1
    rw [e1, Int.mul_add, Int.mul_one] at e2
    have : ¬ a % b = 0 := fun z => h (.inr (Int.dvd_of_emod_eq_zero z))
    rw [if_pos (by omega), e1]
    omega
theorem ediv_bd {a b m : Int} (hb : 0 < b) (h0 : -m ≤ a) (h1 : a ≤ m) (hm : 0 ≤ m) : -m ≤ a / b ∧ a / b ≤ m := by
  constructor
  · refine (Int.le_ediv_iff_mul_le hb).2 ?_
    have : (-m) * b ≤ (-m) * 1 := Int.mul_le_mul_of_nonpos_left (by omega) (by omega)
    omega
  · have h2 : a / b ≤ a / b * b ∨ a / b ≤ 0 := by
      rcases Int.lt_or_le 0 (a / b) with h | h
      · left
        have : a / b * 1 ≤ a / b * b := Int.mul_le_mul_of_nonneg_left (by omega) (by omega)
        omega
      · exact .inr h
    have := Int.ediv_mul_le a (show b ≠ 0 by omega)
    omega
theorem impl_down_ (a b : Int) (hb : 0 < b) (h0 : -4000000000 ≤ a) (h1 : a ≤ 4000000000) : impl_down.f a b = some (a / b) := by
  have hd := ediv_bd hb h0 h1 (by omega)
  have he := down_eq a b hb
  unfold impl_down.f
  rw [if_neg (by omega)]
  split at he
  · rename_i h
    rw [if_pos h, w64 (x := Int.tdiv a b) (by omega) (by omega), he, w64 (by omega) (by omega)]
  · rename_i h
    rw [if_neg h, he, w64 (by omega) (by omega)]
def upN (a b : Int) : Int := max 1 (-(-a / b))
theorem impl_up_ (a b : Int) (hb : 0 < b) (h0 : -4000000000 ≤ a) (h1 : a ≤ 4000000000) : impl_up.f a b = some (-(-a / b)) := by
  have hd := ediv_bd (a := -a) (m := 4000000000) hb (by omega) (by omega) (by omega)
  unfold impl_up.f
  rw [w64 (x := -a) (by omega) (by omega), impl_down_ _ b hb (by omega) (by omega)]
  simp only [Option.bind_some]
  rw [w64 (x := -(-a / b)) (by omega) (by omega)]
theorem upN_bd (a b : Int) (hb : 0 < b) (h1 : a ≤ 4000000000) (h0 : 0 ≤ a) : 1 ≤ upN a b ∧ upN a b ≤ 4000000000 := by
  have hd := ediv_bd (a := -a) (m := 4000000000) hb (by omega) (by omega) (by omega)
  unfold upN
  omega
theorem mx_upN (a b : Int) : mx 1 (-(-a / b)) = upN a b := by unfold upN; rw [mx_eq]
theorem rng_bd {l : List Int} (h : l.all isR = true) : -1000000000 ≤ lst l 0 ∧ lst l 0 ≤ 0 ∧ 0 ≤ grt l 0 ∧ grt l 0 ≤ 1000000000 := by
  have hr : ∀ x ∈ l, -1000000000 ≤ x ∧ x ≤ 1000000000 := fun x hx => isR_iff.1 (List.all_eq_true.1 h x hx)
  exact ⟨lst_ge l 0 _ (by omega) (fun x hx => (hr x hx).1), (lst_le l 0).1, (grt_ge l 0).1, grt_le l 0 _ (by omega) (fun x hx => (hr x hx).2)⟩

def symm (l : List Int) : Int × Int × Bool := if (1 ≤ (l.length : Int) ∧ (l.length : Int) ≤ 300) ∧ l.all isR = true then (upN (max (grt l 0) (-lst l 0)) 127, 0, true) else (0, 0, false)
theorem impl_symm (k : Nat) (l : List Int) (hk : l.length + 1 < k) : impl_SymmetricScale.f k l = some (symm l) := by
  unfold impl_SymmetricScale.f symm
  simp only [impl_range k l hk, Option.bind_some, rng]
  by_cases h : (1 ≤ (l.length : Int) ∧ (l.length : Int) ≤ 300) ∧ l.all isR = true
  · have hb := rng_bd h.2
    simp only [if_pos h, if_true]
    rw [w64 (x := -lst l 0) (by omega) (by omega), mx_eq, impl_up_ _ _ (by omega) (by omega) (by omega)]
    simp only [Option.bind_some, mx_upN]
  · simp only [if_neg h]; rfl

def sNum (l : List Int) : Int := upN (grt l 0 - lst l 0) 255
def sZero (l : List Int) : Int := sat8 (-128 - lst l 0 / sNum l)
def okL (l : List Int) : Prop := (1 ≤ (l.length : Int) ∧ (l.length : Int) ≤ 300) ∧ l.all isR = true
instance (l : List Int) : Decidable (okL l) := by unfold okL; infer_instance
def sfor (l : List Int) : Int × Int × Bool := if okL l then (sNum l, sZero l, true) else (0, 0, false)
theorem rng_ok (l : List Int) : rng l = if okL l then (lst l 0, grt l 0, true) else (0, 0, false) := rfl
theorem sNum_bd {l : List Int} (h : okL l) : 1 ≤ sNum l ∧ sNum l ≤ 7843138 := by
  have hb := rng_bd h.2
  unfold sNum upN
  omega
theorem sZero_bd (l : List Int) : -128 ≤ sZero l ∧ sZero l ≤ 127 := sat8_bd _
theorem sOk_for {l : List Int} (h : okL l) : sOk (sNum l) (sZero l) = true := by
  have h1 := sNum_bd h
  have h2 := sZero_bd l
  exact sOk_iff.2 ⟨⟨by omega, by omega⟩, by omega, by omega⟩
theorem impl_sfor (k : Nat) (l : List Int) (hk : l.length + 1 < k) : impl_ScaleFor.f k l = some (sfor l) := by
  unfold impl_ScaleFor.f sfor
  simp only [impl_range k l hk, Option.bind_some, rng_ok]
  by_cases h : okL l
  · have hb := rng_bd h.2
    have hn := sNum_bd h
    have e : upN (grt l 0 - lst l 0) 255 = sNum l := rfl
    have hd := ediv_bd (a := lst l 0) (b := sNum l) (m := 1000000000) (by omega) (by omega) (by omega) (by omega)
    simp only [if_pos h, if_true]
    rw [w64 (x := grt l 0 - lst l 0) (by omega) (by omega), impl_up_ _ _ (by omega) (by omega) (by omega)]
    simp only [Option.bind_some, mx_upN, e]
    rw [impl_down_ _ _ (by omega) (by omega) (by omega)]
    simp only [Option.bind_some]
    rw [w64 (by omega) (by omega), impl_sat8]
    rfl
  · simp only [if_neg h]; rfl

theorem nearN_err {x n : Int} (n0 : 1 ≤ n) : -n ≤ 2 * (x - nearN x n * n) ∧ 2 * (x - nearN x n * n) ≤ n := by
  unfold nearN
  have h1 := Int.mul_ediv_add_emod (2 * x + n) (2 * n)
  have h2 := Int.emod_nonneg (2 * x + n) (show (2 * n) ≠ 0 by omega)
  have h3 := Int.emod_lt_of_pos (2 * x + n) (show 0 < 2 * n by omega)
  have h4 : 2 * n * ((2 * x + n) / (2 * n)) = 2 * ((2 * x + n) / (2 * n) * n) := by rw [Int.mul_assoc, Int.mul_comm n]
  omega
theorem near_err {x n : Int} (n0 : 1 ≤ n) : -n ≤ 2 * (x - near x n * n) ∧ 2 * (x - near x n * n) ≤ n := by
  unfold near
  by_cases c : x < 0
  · rw [if_pos c, Int.neg_mul]
    have := nearN_err (x := -x) n0
    omega
  · rw [if_neg c]
    exact nearN_err n0
theorem clip_near (x y : Int) (h0 : -1000000000 ≤ x) (h1 : x ≤ 1000000000) (n : Int) (h2 : -n ≤ x - y) (h3 : x - y ≤ n) (hn : 0 ≤ n) : -n ≤ x - mx (-1000000000) (mn y 1000000000) ∧ x - mx (-1000000000) (mn y 1000000000) ≤ n := by
  unfold mx mn
  repeat' split <;> omega
theorem sat8_id {x : Int} (h0 : -128 ≤ x) (h1 : x ≤ 127) : sat8 x = x := by unfold sat8 mx mn; repeat' split <;> omega
/-- Within the range the error is at most the step. -/
theorem err_le {x n z c : Int} (hx : isR x = true) (n0 : 1 ≤ n) (hz : z = c - 128) (hc : 0 ≤ c) (hc2 : c ≤ 255) (hlo : -(c * n) ≤ x) (hhi : x < (256 - c) * n) : -n ≤ errAt n z x ∧ errAt n z x ≤ n := by
  obtain ⟨r0, r1⟩ := isR_iff.1 hx
  obtain ⟨e0, e1⟩ := near_err (x := x) n0
  unfold errAt from8 to8
  generalize near x n = q at e0 e1
  have q0 : -c ≤ q := by
    apply Classical.byContradiction
    intro h
    have := Int.mul_le_mul_of_nonneg_right (show q ≤ -c - 1 by omega) (show 0 ≤ n by omega)
    rw [Int.sub_mul, Int.neg_mul, Int.one_mul] at this
    omega
  have q1 : q ≤ 256 - c := by
    apply Classical.byContradiction
    intro h
    have := Int.mul_le_mul_of_nonneg_right (show 257 - c ≤ q by omega) (show 0 ≤ n by omega)
    rw [Int.sub_mul] at this hhi
    omega
  have s1 := sat8_bd (q + z)
  rw [sat8_id s1.1 s1.2]
  by_cases c1 : q + z ≤ 127
  · rw [sat8_id (by omega) c1]
    have e : (q + z - z) * n = q * n := by rw [Int.add_sub_cancel]
    rw [e]
    exact clip_near x (q * n) r0 r1 n (by omega) (by omega) (by omega)
  · have hs : sat8 (q + z) = 127 := by unfold sat8 mx mn; repeat' split <;> omega
    have e : (127 - z) * n = q * n - n := by
      have : (127 - z : Int) = q - 1 := by omega
      rw [this, Int.sub_mul, Int.one_mul]
    have hq : q = 256 - c := by omega
    rw [hs, e]
    rw [← hq] at hhi
    exact clip_near x (q * n - n) r0 r1 n (by omega) (by omega) (by omega)
theorem worst_le (n z : Int) (b : Int) (l : List Int) (h : ∀ x ∈ l, -b ≤ errAt n z x ∧ errAt n z x ≤ b) : ∀ m, m ≤ b → worst n z l m ≤ b ∧ m ≤ worst n z l m := by
  induction l with
  | nil => intro m hm; exact ⟨hm, Int.le_refl _⟩
  | cons x r ih =>
    intro m hm
    have hx := h x (by simp)
    have := ih (fun y hy => h y (by simp [hy])) (max m (max (errAt n z x) (-errAt n z x))) (by omega)
    unfold worst at this ⊢
    rw [List.foldl_cons]
    omega
theorem upN_ge {a b : Int} (hb : 0 < b) : a ≤ upN a b * b := by
  unfold upN
  have h1 := Int.mul_ediv_add_emod (-a) b
  have h2 := Int.emod_nonneg (-a) (show b ≠ 0 by omega)
  have h3 : -(-a / b) ≤ max 1 (-(-a / b)) := by omega
  have h4 := Int.mul_le_mul_of_nonneg_right h3 (show 0 ≤ b by omega)
  rw [Int.neg_mul, Int.mul_comm (-a / b) b] at h4
  omega

theorem spec_in (x lo hi : Int) : spec_l01In.f x lo hi = some (decide (lo ≤ x ∧ x ≤ hi)) := by
  unfold spec_l01In.f
  split
  · simp_all
  · simp; omega
theorem spec_real (x : Int) : spec_l11Real.f x = some (isR x) := by unfold spec_l11Real.f; rw [spec_in]; rfl
theorem spec_range_l0 (l : List Int) (hm : l.length ≤ 300) : ∀ (d k i : Nat) (a b : Int), i + d = l.length → 2 * d < k →
    spec_RangeOfReals.l0 k l a b (i : Int) = some (if (l.drop i).all isR = true then (lst (l.drop i) a, grt (l.drop i) b, true) else (0, 0, false)) := by
  intro d
  induction d with
  | zero =>
    intro k i a b hi hk
    obtain ⟨k, rfl⟩ : ∃ m, k = m + 1 := ⟨k - 1, by omega⟩
    simp only [spec_RangeOfReals.l0]
    rw [if_neg (by omega), List.drop_of_length_le (by omega)]
    rfl
  | succ d ih =>
    intro k i a b hi hk
    obtain ⟨k, rfl⟩ : ∃ m, k = m + 1 + 1 := ⟨k - 2, by omega⟩
    rw [all_drop l i (by omega), spec_RangeOfReals.l0, rd_natD]
    have e1 : lst (l.drop i) a = lst (l.drop (i + 1)) (min a (l.getD i 0)) := by rw [drop_getD l 0 i (by omega)]; rfl
    have e2 : grt (l.drop i) b = grt (l.drop (i + 1)) (max b (l.getD i 0)) := by rw [drop_getD l 0 i (by omega)]; rfl
    have tail : ∀ a' : Int, a' = min a (l.getD i 0) → spec_RangeOfReals.j1 (k + 1) l a' b (i : Int) = some (if (l.drop (i + 1)).all isR = true then (lst (l.drop i) a, grt (l.drop i) b, true) else (0, 0, false)) := by
      intro a' ha
      rw [e1, e2, ← ha, spec_RangeOfReals.j1, rd_natD, w64_succ i (by omega)]
      by_cases c : l.getD i 0 > b
      · have g := ih k (i + 1) a' (l.getD i 0) (by omega) (by omega)
        rw [show max b (l.getD i 0) = l.getD i 0 by omega]
        exact ifp (by omega) (ifp (by omega) (ifp c g))
      · have g := ih k (i + 1) a' b (by omega) (by omega)
        rw [show max b (l.getD i 0) = b by omega]
        exact ifp (by omega) (ifp (by omega) (ifn c g))
    refine ifp (by omega) (ifp (by omega) (st (spec_real _) ?_))
    cases hr : isR (l.getD i 0) with
    | false => simp
    | true =>
      rw [Bool.true_and]
      refine ifp rfl ?_
      by_cases c : l.getD i 0 < a
      · exact ifp c (tail _ (by omega))
      · exact ifn c (tail _ (by omega))
theorem spec_range (k : Nat) (l : List Int) (hk : 1000 ≤ k) : spec_RangeOfReals.f k l = some (rng l) := by
  unfold spec_RangeOfReals.f rng
  simp only [spec_in, Option.bind_some, decide_eq_true_eq]
  by_cases h : 1 ≤ (l.length : Int) ∧ (l.length : Int) ≤ 300
  · rw [if_pos h, show spec_RangeOfReals.l0 k l 0 0 0 = _ from spec_range_l0 l (by omega) l.length k 0 0 0 (by omega) (by omega)]
    simp only [List.drop_zero, h, true_and]
  · rw [if_neg h, if_neg (fun z => h z.1)]
theorem spec_down (a b : Int) (hb : 0 < b) (h0 : -4000000000 ≤ a) (h1 : a ≤ 4000000000) : spec_l01Down.f a b = some (a / b) := by
  have hd := ediv_bd hb h0 h1 (by omega)
  have he := down_eq a b hb
  unfold spec_l01Down.f
  rw [if_neg (by omega)]
  split at he
  · rename_i h
    rw [if_pos h, w64 (x := Int.tdiv a b) (by omega) (by omega), he, w64 (by omega) (by omega)]
  · rename_i h
    rw [if_neg h, he, w64 (by omega) (by omega)]
theorem spec_up (a b : Int) (hb : 0 < b) (h0 : -4000000000 ≤ a) (h1 : a ≤ 4000000000) : spec_l11Up.f a b = some (upN a b) := by
  have hd := ediv_bd (a := -a) (m := 4000000000) hb (by omega) (by omega) (by omega)
  unfold spec_l11Up.f upN
  rw [w64 (x := -a) (by omega) (by omega), spec_down _ b hb (by omega) (by omega)]
  simp only [Option.bind_some]
  rw [w64 (x := -(-a / b)) (by omega) (by omega)]
  split <;> congr 1 <;> omega
theorem spec_clamp (k : Nat) (hk : 1 ≤ k) (x lo hi : Int) (h : lo ≤ hi) : spec_ClampTo.f k x lo hi = some (mx lo (mn x hi)) := by
  obtain ⟨k, rfl⟩ : ∃ m, k = m + 1 := ⟨k - 1, by omega⟩
  unfold spec_ClampTo.f
  simp only [spec_ClampTo.j0]
  unfold mx mn
  repeat' split
  all_goals simp_all
  all_goals omega
theorem spec_sat8 (k : Nat) (hk : 1 ≤ k) (x : Int) : spec_Sat8.f k x = some (sat8 x) := by
  unfold spec_Sat8.f
  rw [spec_clamp k hk x _ _ (by omega)]; rfl
theorem spec_sfor (k : Nat) (l : List Int) (hk : 1000 ≤ k) : spec_ScaleFor.f k l = some (sfor l) := by
  unfold spec_ScaleFor.f sfor
  simp only [spec_range k l (by omega), Option.bind_some, rng_ok]
  by_cases h : okL l
  · have hb := rng_bd h.2
    have hn := sNum_bd h
    have e : upN (grt l 0 - lst l 0) 255 = sNum l := rfl
    have hd := ediv_bd (a := lst l 0) (b := sNum l) (m := 1000000000) (by omega) (by omega) (by omega) (by omega)
    simp only [if_pos h, if_true]
    rw [w64 (x := grt l 0 - lst l 0) (by omega) (by omega), spec_up _ _ (by omega) (by omega) (by omega)]
    simp only [Option.bind_some, e]
    rw [spec_down _ _ (by omega) (by omega) (by omega)]
    simp only [Option.bind_some]
    rw [w64 (by omega) (by omega), spec_sat8 k (by omega)]
    rfl
  · simp only [if_neg h]; rfl

theorem and_bd (x m : Int) (h0 : 0 ≤ m) (h1 : m ≤ 1073741823) : 0 ≤ Go.bits .and .i64 x m ∧ Go.bits .and .i64 x m ≤ m := by
  obtain ⟨b, rfl⟩ := Int.eq_ofNat_of_zero_le h0
  have hb : b % 2 ^ Go.IntKind.i64.bits = b := Nat.mod_eq_of_lt (by simp [Go.IntKind.bits]; omega)
  have hn : (BitVec.ofInt Go.IntKind.i64.bits x).toNat &&& b ≤ b := Nat.and_le_right
  simp only [Go.bits, BitVec.ofInt_natCast, BitVec.toNat_and, BitVec.toNat_ofNat, hb]
  generalize (BitVec.ofInt Go.IntKind.i64.bits x).toNat &&& b = n at hn ⊢
  rw [Go.IntKind.wrap_i64]
  omega
theorem byte_ (l : List Int) (i h : Int) (h0 : 0 ≤ i) (hl : l.length ≤ 1048576) : ∃ x i' h', spec_l01Byte.f l i h = some (x, i', h') ∧ 0 ≤ x ∧ x ≤ 255 ∧ 0 ≤ i' := by
  unfold spec_l01Byte.f
  by_cases c : i < (l.length : Int)
  · rw [if_pos c, if_pos h0]
    exact ⟨_, _, _, rfl, (and_bd _ 255 (by omega) (by omega)).1, (and_bd _ 255 (by omega) (by omega)).2, by rw [w64 (by omega) (by omega)]; omega⟩
  · rw [if_neg c]
    exact ⟨_, _, _, rfl, (and_bd _ 255 (by omega) (by omega)).1, (and_bd _ 255 (by omega) (by omega)).2, h0⟩
theorem below_ (l : List Int) (i h a : Int) (h0 : 0 ≤ i) (hl : l.length ≤ 1048576) : ∃ x i' h', spec_l01Below.f l i h a = some (x, i', h') ∧ 0 ≤ x ∧ (x < a ∨ (a ≤ 0 ∧ x = 0)) ∧ 0 ≤ i' := by
  unfold spec_l01Below.f
  by_cases c : a ≤ 0
  · rw [if_pos c]; exact ⟨0, i, h, rfl, by omega, .inr ⟨c, rfl⟩, h0⟩
  rw [if_neg c]
  obtain ⟨x, i1, h1, e1, g0, g1, g2⟩ := byte_ l i h h0 hl
  rw [e1]
  simp only [Option.bind_some]
  by_cases c2 : a ≤ 256
  · rw [if_pos c2, if_neg (by omega)]
    exact ⟨_, _, _, rfl, by rw [tmod_pos g0]; exact Int.emod_nonneg _ (by omega), .inl (by rw [tmod_pos g0]; exact Int.emod_lt_of_pos _ (by omega)), g2⟩
  · rw [if_neg c2]
    obtain ⟨y, i2, h2, e2, y0, y1, y2⟩ := byte_ l i1 h1 g2 hl
    rw [e2]
    simp only [Option.bind_some]
    obtain ⟨z, i3, h3, e3, z0, z1, z2⟩ := byte_ l i2 h2 y2 hl
    rw [e3]
    simp only [Option.bind_some]
    rw [if_neg (by omega)]
    have q : 0 ≤ wrap64 ((wrap64 ((wrap64 (x * 65536)) + (wrap64 (y * 256)))) + z) := by unfold wrap64; omega
    exact ⟨_, _, _, rfl, by rw [tmod_pos q]; exact Int.emod_nonneg _ (by omega), .inl (by rw [tmod_pos q]; exact Int.emod_lt_of_pos _ (by omega)), z2⟩
theorem once_ (l : List Int) (i h a : Int) (h0 : 0 ≤ i) (hl : l.length ≤ 1048576) : ∃ b i' h', spec_l01Once.f l i h a = some (b, i', h') ∧ 0 ≤ i' := by
  unfold spec_l01Once.f
  obtain ⟨x, i1, h1, e1, _, _, g2⟩ := below_ l i h a h0 hl
  rw [e1]
  exact ⟨_, _, _, rfl, g2⟩
theorem pick_ (l : List Int) (i h : Int) (xs : List Int) (hx : 0 < xs.length) (h0 : 0 ≤ i) (hl : l.length ≤ 1048576) : ∃ x i' h', spec_l01PickInt.f l i h xs = some (x, i', h') ∧ x ∈ xs ∧ 0 ≤ i' := by
  unfold spec_l01PickInt.f
  obtain ⟨x, i1, h1, e1, g0, g1, g2⟩ := below_ l i h (xs.length : Int) h0 hl
  rw [e1]
  simp only [Option.bind_some]
  have g : x < (xs.length : Int) := by omega
  rw [if_pos g0, if_pos g]
  exact ⟨_, _, _, rfl, mem_getD xs 0 _ (by omega), g2⟩
theorem new_l0 (l : List Int) : ∀ (d k i : Nat) (h : Int), i + d = 4000 → d < k → ∃ h', spec_l01New.l0 k l h (i : Int) = some (l, 0, h') := by
  intro d
  induction d with
  | zero =>
    intro k i h hi hk
    obtain ⟨k, rfl⟩ : ∃ m, k = m + 1 := ⟨k - 1, by omega⟩
    simp only [spec_l01New.l0]
    by_cases c : (i : Int) < (l.length : Int)
    · exact ⟨h, ifp c (ifn (by omega) rfl)⟩
    · exact ⟨h, ifn c rfl⟩
  | succ d ih =>
    intro k i h hi hk
    obtain ⟨k, rfl⟩ : ∃ m, k = m + 1 := ⟨k - 1, by omega⟩
    simp only [spec_l01New.l0, w64_succ i (by omega)]
    by_cases c : (i : Int) < (l.length : Int)
    · obtain ⟨h', g⟩ := ih k (i + 1) (Go.bits .and .i64 (wrap64 ((wrap64 ((wrap64 (h * 149)) + (wrap64 (rd l i)))) + 11)) 1073741823) (by omega) (by omega)
      exact ⟨h', ifp c (ifp (by omega) (ifp (by omega) g))⟩
    · exact ⟨h, ifn c rfl⟩
theorem new_ (k : Nat) (l : List Int) (hk : 4100 ≤ k) : ∃ h', spec_l01New.f k l = some (l, 0, h') := by
  unfold spec_l01New.f
  exact new_l0 l 4000 k 0 _ (by omega) (by omega)

theorem dreals_l0 (l : List Int) (hl : l.length ≤ 1048576) (n : Nat) (hn : n ≤ 302) : ∀ (d k j : Nat) (acc : List Int) (i h : Int), j + d = n → d < k → acc.length = j → (∀ x ∈ acc, -1000000001 ≤ x ∧ x ≤ 1000000001) → 0 ≤ i →
    ∃ r i' h', spec_l11DrawReals.l0 k acc (n : Int) (j : Int) l i h = some (r, i', h') ∧ r.length ≤ 302 ∧ (∀ x ∈ r, -1000000001 ≤ x ∧ x ≤ 1000000001) ∧ 0 ≤ i' := by
  intro d
  induction d with
  | zero =>
    intro k j acc i h hj hk ha hv h0
    obtain ⟨k, rfl⟩ : ∃ m, k = m + 1 := ⟨k - 1, by omega⟩
    rw [spec_l11DrawReals.l0, if_neg (by omega)]
    obtain ⟨b, i1, h1, e1, g1⟩ := once_ l i h 15 h0 hl
    rw [e1]
    simp only [Option.bind_some]
    try dsimp only
    cases b with
    | false => exact ⟨acc, i1, h1, ifn (by simp) rfl, by omega, hv, g1⟩
    | true =>
      by_cases c : (n : Int) > 0
      · obtain ⟨x, i2, h2, e2, hx, g2⟩ := pick_ l i1 h1 [1000000000, (-1000000000), 1000000001, (-1000000001)] (by simp) g1 hl
        refine ⟨acc.set (0 : Int).toNat x, i2, h2, ifp rfl (ifp c (st e2 (ifp (by omega) rfl))), by simp; omega, ?_, g2⟩
        intro y hy
        rcases List.mem_or_eq_of_mem_set hy with hy | rfl
        · exact hv y hy
        · simp at hx; omega
      · exact ⟨acc, i1, h1, ifp rfl (ifn c rfl), by omega, hv, g1⟩
  | succ d ih =>
    intro k j acc i h hj hk ha hv h0
    obtain ⟨k, rfl⟩ : ∃ m, k = m + 1 := ⟨k - 1, by omega⟩
    rw [spec_l11DrawReals.l0]
    obtain ⟨x1, i1, h1, e1, a1, b1, g1⟩ := below_ l i h 20000 h0 hl
    obtain ⟨x2, i2, h2, e2, a2, b2, g2⟩ := below_ l i1 h1 200 g1 hl
    obtain ⟨x3, i3, h3, e3, a3, b3, g3⟩ := below_ l i2 h2 300 g2 hl
    have w1 : wrap64 (x1 - 8000) = x1 - 8000 := w64 (by omega) (by omega)
    have w3 : wrap64 (-x3) = -x3 := w64 (by omega) (by omega)
    obtain ⟨x, i4, h4, e4, hx, g4⟩ := pick_ l i3 h3 [wrap64 (x1 - 8000), x2, 0, wrap64 (-x3)] (by simp) g3 hl
    obtain ⟨r, i', h', e5, f1, f2, f3⟩ := ih k (j + 1) (acc ++ [x]) i4 h4 (by omega) (by omega) (by simp; omega) (fun y hy => by
      rcases List.mem_append.1 hy with hy | hy
      · exact hv y hy
      · rw [w1, w3] at hx; simp at hx hy; omega) g4
    refine ⟨r, i', h', ?_, f1, f2, f3⟩
    rw [w64_succ j (by omega)]
    exact ifp (by omega) (st e1 (st e2 (st e3 (st e4 (ifp (by omega) e5)))))

theorem size16_ (code : List Int) : ∃ t : Int, t ≤ 16 ∧ spec_l01Size.f code 16 = some t := by
  unfold spec_l01Size.f
  by_cases c : (wrap64 (2 + (wrap64 ((code.length : Int) / 16)))) > 16
  · exact ⟨16, by omega, ifp c rfl⟩
  · exact ⟨_, by omega, ifn c rfl⟩
theorem dreals_j0 (l : List Int) (hl : l.length ≤ 1048576) (k : Nat) (hk : 400 ≤ k) (n : Int) (hn : n ≤ 302) (i h : Int) (h0 : 0 ≤ i) (hn0 : 0 ≤ n) :
    ∃ r i' h', spec_l11DrawReals.j0 k [] n l i h = some (r, i', h') ∧ r.length ≤ 302 ∧ (∀ x ∈ r, -1000000001 ≤ x ∧ x ≤ 1000000001) ∧ 0 ≤ i' := by
  obtain ⟨k, rfl⟩ : ∃ m, k = m + 1 := ⟨k - 1, by omega⟩
  obtain ⟨m, rfl⟩ := Int.eq_ofNat_of_zero_le hn0
  rw [spec_l11DrawReals.j0]
  exact dreals_l0 l hl m (by omega) m k 0 [] i h (by omega) (by omega) rfl (by simp) h0
theorem dreals (k : Nat) (l : List Int) (hl : l.length ≤ 1048576) (i h : Int) (code : List Int) (hk : 400 ≤ k) (h0 : 0 ≤ i) :
    ∃ r i' h', spec_l11DrawReals.f k l i h code = some (r, i', h') ∧ r.length ≤ 302 ∧ (∀ x ∈ r, -1000000001 ≤ x ∧ x ≤ 1000000001) ∧ 0 ≤ i' := by
  obtain ⟨t, ht, e⟩ := size16_ code
  obtain ⟨n, i1, h1, e1, g0, g1, g2⟩ := below_ l i h t h0 hl
  obtain ⟨b, i2, h2, e2, g3⟩ := once_ l i1 h1 40 g2 hl
  cases b with
  | false =>
    obtain ⟨r, i', h', e4, f1, f2, f3⟩ := dreals_j0 l hl k hk n (by omega) i2 h2 g3 g0
    refine ⟨r, i', h', ?_, f1, f2, f3⟩
    unfold spec_l11DrawReals.f
    exact st rfl (st e (st e1 (st e2 (ifn (by simp) e4))))
  | true =>
    obtain ⟨m, i3, h3, e3, y0, y1, y2⟩ := below_ l i2 h2 2 g3 hl
    obtain ⟨r, i', h', e4, f1, f2, f3⟩ := dreals_j0 l hl k hk (wrap64 (300 + m)) (by rw [w64 (by omega) (by omega)]; omega) i3 h3 y2 (by rw [w64 (by omega) (by omega)]; omega)
    refine ⟨r, i', h', ?_, f1, f2, f3⟩
    unfold spec_l11DrawReals.f
    exact st rfl (st e (st e1 (st e2 (ifp rfl (st e3 e4)))))
theorem dscale (k : Nat) (l : List Int) (hl : l.length ≤ 1048576) (hk : 5000 ≤ k) : ∃ r, spec_DrawScaleFor.f k l = some r ∧ r.length ≤ 302 := by
  obtain ⟨h, e⟩ := new_ k l (by omega)
  obtain ⟨r, i', h', e1, f1, _, _⟩ := dreals k l hl 0 h l (by omega) (by omega)
  refine ⟨r, ?_, f1⟩
  unfold spec_DrawScaleFor.f spec_DrawRangeOfReals.f
  exact st (st e (st e1 rfl)) rfl
theorem isR_mem {l : List Int} (h : l.all isR = true) {x : Int} (hx : x ∈ l) : isR x = true := List.all_eq_true.1 h x hx
theorem sfor_err {l : List Int} (h : okL l) : ∀ x ∈ l, -(sNum l) ≤ errAt (sNum l) (sZero l) x ∧ errAt (sNum l) (sZero l) x ≤ sNum l := by
  intro x hx
  have hb := rng_bd h.2
  have hn := sNum_bd h
  have hg : grt l 0 - lst l 0 ≤ sNum l * 255 := upN_ge (by omega)
  have hl := (lst_le l 0).2 x hx
  have hu := (grt_ge l 0).2 x hx
  have h1 := Int.mul_ediv_add_emod (lst l 0) (sNum l)
  have h2 := Int.emod_nonneg (lst l 0) (show sNum l ≠ 0 by omega)
  have h3 := Int.emod_lt_of_pos (lst l 0) (show 0 < sNum l by omega)
  have hz : sZero l = sat8 (-128 - lst l 0 / sNum l) := rfl
  generalize lst l 0 / sNum l = f at h1 hz
  generalize sNum l = n at *
  have hfn : n * f = f * n := Int.mul_comm n f
  have f0 : f ≤ 0 := by
    apply Classical.byContradiction
    intro c
    have := Int.mul_le_mul_of_nonneg_right (show 1 ≤ f by omega) (show 0 ≤ n by omega)
    omega
  have f1 : -255 ≤ f := by
    apply Classical.byContradiction
    intro c
    have := Int.mul_le_mul_of_nonneg_right (show f ≤ -256 by omega) (show 0 ≤ n by omega)
    omega
  rw [sat8_id (by omega) (by omega)] at hz
  refine err_le (c := -f) (isR_mem h.2 hx) (by omega) (by omega) (by omega) (by omega) ?_ ?_
  · rw [Int.neg_mul]; omega
  · rw [Int.sub_mul, Int.neg_mul]; omega
def sy (l : List Int) : Int := upN (max (grt l 0) (-lst l 0)) 127
theorem sy_bd {l : List Int} (h : okL l) : 1 ≤ sy l ∧ sy l ≤ 1000000000 := by
  have hb := rng_bd h.2
  unfold sy upN
  have hd := ediv_bd (a := -(max (grt l 0) (-lst l 0))) (b := 127) (m := 1000000000) (by omega) (by omega) (by omega) (by omega)
  omega
theorem symm_err {l : List Int} (h : okL l) : ∀ x ∈ l, -(sy l) ≤ errAt (sy l) 0 x ∧ errAt (sy l) 0 x ≤ sy l := by
  intro x hx
  have hb := rng_bd h.2
  have hn := sy_bd h
  have hg : max (grt l 0) (-lst l 0) ≤ sy l * 127 := upN_ge (by omega)
  have hl := (lst_le l 0).2 x hx
  have hu := (grt_ge l 0).2 x hx
  exact err_le (c := 128) (isR_mem h.2 hx) hn.1 (by omega) (by omega) (by omega) (by omega) (by omega)
theorem worst_in {n z : Int} {l : List Int} (h : ∀ x ∈ l, -n ≤ errAt n z x ∧ errAt n z x ≤ n) (hn : 0 ≤ n) : 0 ≤ worst n z l 0 ∧ worst n z l 0 ≤ n := by
  have := worst_le n z n l h 0 hn
  exact ⟨this.2, this.1⟩
theorem near0 {n : Int} (hn : 1 ≤ n) : near 0 n = 0 := by
  have := near_err (x := 0) hn
  generalize near 0 n = q at this
  have h1 : ¬ 1 ≤ q := fun c => by
    have := Int.mul_le_mul_of_nonneg_right c (show 0 ≤ n by omega)
    omega
  have h2 : ¬ q ≤ -1 := fun c => by
    have := Int.mul_le_mul_of_nonneg_right c (show 0 ≤ n by omega)
    omega
  omega
theorem to8_0 {n z : Int} (hn : 1 ≤ n) (h0 : -128 ≤ z) (h1 : z ≤ 127) : to8 0 n z = z := by
  unfold to8; rw [near0 hn, Int.zero_add, sat8_id h0 h1]
theorem from8_z {n z : Int} (h0 : -128 ≤ z) (h1 : z ≤ 127) : from8 z n z = 0 := by
  unfold from8; rw [sat8_id h0 h1, Int.sub_self, Int.zero_mul]; decide
theorem symm_ok (l : List Int) : symm l = if okL l then (sy l, 0, true) else (0, 0, false) := rfl


theorem FnScales : laws_FnScales.Pure := by
  intro l hl
  obtain ⟨k, hk⟩ : ∃ k : Nat, 1000000000 ≤ k := ⟨_, Nat.le_refl _⟩
  refine ⟨k, ?_⟩
  unfold laws_FnScales.f laws_big.f
  simp only [Option.bind_some]
  by_cases hb : (l.length : Int) > 1048576
  · rw [decide_eq_true hb]; exact ifp rfl rfl
  rw [decide_eq_false hb]
  refine ifn (by simp) ?_
  obtain ⟨r, e, hr⟩ := dscale k l (by omega) (by omega)
  have e1 := spec_sfor k r (by omega)
  have e2 := impl_sfor k r (by omega)
  have e3 := impl_symm k r (by omega)
  have e4 := impl_range k r (by omega)
  unfold sfor at e1 e2
  rw [symm_ok] at e3
  rw [rng_ok] at e4
  refine st e ?_
  by_cases h : okL r
  · rw [if_pos h] at e1 e2 e3 e4
    have hn := sNum_bd h
    have hz := sZero_bd r
    have hy := sy_bd h
    have hg := rng_bd h.2
    have hs := sOk_for h
    have hs2 : sOk (sy r) 0 = true := sOk_iff.2 ⟨⟨hy.1, hy.2⟩, by omega, by omega⟩
    have w1 : worstE (sNum r) (sZero r) r = worst (sNum r) (sZero r) r 0 := by unfold worstE; rw [if_pos ⟨h, hs⟩]
    have w2 : worstE (sy r) 0 r = worst (sy r) 0 r 0 := by unfold worstE; rw [if_pos ⟨h, hs2⟩]
    have b1 := worst_in (sfor_err h) (by omega)
    have b2 := worst_in (symm_err h) (by omega)
    have e5 := impl_worst k r (sNum r) (sZero r) (by omega)
    have e6 := impl_worst k r (sy r) 0 (by omega)
    have e7 := impl_to8 k (by omega) 0 (sNum r) (sZero r)
    have e8 := impl_from8 (sZero r) (sNum r) (sZero r)
    have e9 := impl_scaleOk (sNum r) (sZero r)
    have e10 := impl_scaleOk (sy r) 0
    rw [hs] at e9
    rw [hs2] at e10
    rw [w1] at e5
    rw [w2] at e6
    rw [if_pos ⟨by decide, hs⟩, to8_0 (by omega) hz.1 hz.2] at e7
    rw [if_pos hs, from8_z hz.1 hz.2] at e8
    refine st e1 (st e2 (st e3 ?_))
    dsimp only
    refine ifn (by simp) (ifn (by simp) (ifn (by simp) (ifp rfl (st e4 (st e5 (ifp rfl (ifp hg.2.1 (ifp hg.2.2.1 (st e9 (ifp rfl (st e10 (ifp rfl (ifp rfl (ifp b1.1 (ifp b1.2 (st e6 (ifp b2.2 (st e7 (ifp rfl (st e8 rfl))))))))))))))))))))
  · rw [if_neg h] at e1 e2 e3
    have e5 := impl_worst k r 1 0 (by omega)
    have w1 : worstE 1 0 r = -1 := by unfold worstE; rw [if_neg (fun z => h z.1)]
    rw [w1] at e5
    refine st e1 (st e2 (st e3 ?_))
    dsimp only
    exact ifn (by simp) (ifn (by simp) (ifn (by simp) (ifn (by simp) (st e5 rfl))))

end Go.Proofs.Ytneeplpooamffaa.Pure
