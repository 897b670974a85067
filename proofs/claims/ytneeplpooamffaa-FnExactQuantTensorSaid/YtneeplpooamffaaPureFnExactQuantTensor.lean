/- What is left of the statement FnExactQuantTensor once the Go functions are Lean functions: the program's QuantTensor and the reference's answer alike. No condition. -/
import Derived.Test.YtneeplpooamffaaQFnExactQuantTensorx4
import Derived.Test.YtneeplpooamffaaAid
set_option linter.unusedVariables false
set_option linter.unusedSimpArgs false
namespace Go.Proofs.Ytneeplpooamffaa.Pure
open Go.RowKit Go.Proofs.Ytneeplpooamffaa.QFnExactQuantTensor Go.Proofs.YtneeplpooamffaaW.PrintWords Go.Proofs.YtneeplpooamffaaW.PrintLast Go.Proofs.YtneeplpooamffaaW.PrintMore Go.Proofs.YtneeplpooamffaaW.Aid


theorem spec_in (x lo hi : Int) : spec_l01In.f x lo hi = some (decide (lo ≤ x ∧ x ≤ hi)) := by
  unfold spec_l01In.f
  split
  · simp_all
  · simp; omega
theorem impl_in_ (x lo hi : Int) : impl_in.f x lo hi = some (decide (lo ≤ x ∧ x ≤ hi)) := by
  unfold impl_in.f
  split
  · simp_all
  · simp; omega

def sOk (n z : Int) : Bool := decide ((1 ≤ n ∧ n ≤ 1000000000) ∧ (-128 ≤ z ∧ z ≤ 127))
theorem sOk_iff {n z : Int} : sOk n z = true ↔ ((1 ≤ n ∧ n ≤ 1000000000) ∧ (-128 ≤ z ∧ z ≤ 127)) := by simp [sOk]

theorem spec_scaleOk (n z : Int) : spec_ScaleOk.f n z = some (sOk n z) := by
  unfold spec_ScaleOk.f spec_l02Int8.f
  simp only [spec_in, Option.bind_some]
  by_cases h : 1 ≤ n ∧ n ≤ 1000000000 <;> simp [sOk, h]

def sat8 (x : Int) : Int := mx (-128) (mn x 127)
theorem sat8_bd (x : Int) : -128 ≤ sat8 x ∧ sat8 x ≤ 127 := by unfold sat8 mx mn; repeat' split <;> omega
theorem spec_clamp (k : Nat) (hk : 1 ≤ k) (x lo hi : Int) (h : lo ≤ hi) : spec_ClampTo.f k x lo hi = some (mx lo (mn x hi)) := by
  obtain ⟨k, rfl⟩ : ∃ m, k = m + 1 := ⟨k - 1, by omega⟩
  unfold spec_ClampTo.f
  simp only [spec_ClampTo.j0]
  unfold mx mn
  repeat' split
  all_goals simp_all
  all_goals omega
theorem spec_sat8 (k : Nat) (hk : 1 ≤ k) (x : Int) : spec_Sat8.f k x = some (sat8 x) := by
  unfold spec_Sat8.f
  rw [spec_clamp k hk x _ _ (by omega)]; rfl
theorem impl_sat8 (x : Int) : impl_Sat8.f x = some (sat8 x) := rfl

def isR (x : Int) : Bool := decide (-1000000000 ≤ x ∧ x ≤ 1000000000)
theorem isR_iff {x : Int} : isR x = true ↔ (-1000000000 ≤ x ∧ x ≤ 1000000000) := by simp [isR]
theorem spec_real (x : Int) : spec_l11Real.f x = some (isR x) := by unfold spec_l11Real.f; rw [spec_in]; rfl
theorem impl_real (x : Int) : impl_isReal.f x = some (isR x) := by unfold impl_isReal.f; rw [impl_in_]; rfl

def nearN (x n : Int) : Int := (2 * x + n) / (2 * n)
def near (x n : Int) : Int := if x < 0 then -nearN (-x) n else nearN x n
theorem nearN_bd {x n : Int} (x0 : 0 ≤ x) (x1 : x ≤ 1000000000) (n0 : 1 ≤ n) (n1 : n ≤ 1000000000) : 0 ≤ nearN x n ∧ nearN x n ≤ 1000000000 := by
  unfold nearN
  refine ⟨Int.ediv_nonneg (by omega) (by omega), ?_⟩
  have : (2 * x + n) / (2 * n) < 1000000001 := Int.ediv_lt_of_lt_mul (by omega) (by omega)
  omega
theorem near_bd {x n : Int} (h : isR x = true) (n0 : 1 ≤ n) (n1 : n ≤ 1000000000) : -1000000000 ≤ near x n ∧ near x n ≤ 1000000000 := by
  have hx := isR_iff.1 h
  unfold near
  split
  · have := nearN_bd (x := -x) (n := n) (by omega) (by omega) n0 n1
    omega
  · have := nearN_bd (x := x) (n := n) (by omega) (by omega) n0 n1
    omega
theorem spec_near (x n : Int) (h : isR x = true) (n0 : 1 ≤ n) (n1 : n ≤ 1000000000) : spec_l11Near.f x n = some (near x n) := by
  have hx := isR_iff.1 h
  unfold spec_l11Near.f near
  have hz : (2 * n = 0) = False := eq_false (by omega)
  simp only [w64 (x := 2 * n) (by omega) (by omega), hz, if_false]
  split
  · have hb := nearN_bd (x := -x) (n := n) (by omega) (by omega) n0 n1
    have e : -2 * x + n = 2 * -x + n := by omega
    rw [w64 (x := -2 * x) (by omega) (by omega), w64 (x := -2 * x + n) (by omega) (by omega), tdiv_pos (by omega), e]
    unfold nearN at *
    rw [w64 (x := (2 * -x + n) / (2 * n)) (by omega) (by omega), w64 (by omega) (by omega)]
  · have hb := nearN_bd (x := x) (n := n) (by omega) (by omega) n0 n1
    rw [w64 (x := 2 * x) (by omega) (by omega), w64 (x := 2 * x + n) (by omega) (by omega), tdiv_pos (by omega)]
    unfold nearN at *
    rw [w64 (by omega) (by omega)]
theorem impl_rounded_ (k : Nat) (hk : 2 ≤ k) (x n : Int) (h : isR x = true) (n0 : 1 ≤ n) (n1 : n ≤ 1000000000) : impl_rounded.f k x n = some (near x n) := by
  obtain ⟨k, rfl⟩ : ∃ m, k = m + 2 := ⟨k - 2, by omega⟩
  have hx := isR_iff.1 h
  have pos : ∀ (y : Int) (j : Nat), 0 ≤ y → y ≤ 1000000000 → impl_rounded.f (j + 1) y n = some (nearN y n) := by
    intro y j y0 y1
    have hb := nearN_bd y0 y1 n0 n1
    simp only [impl_rounded.f]
    rw [if_neg (by omega), w64 (x := 2 * n) (by omega) (by omega), if_neg (show ¬ 2 * n = 0 by omega), w64 (x := 2 * y) (by omega) (by omega), w64 (x := 2 * y + n) (by omega) (by omega), tdiv_pos (by omega)]
    unfold nearN at *
    rw [w64 (by omega) (by omega)]
  unfold near
  split
  · have hb := nearN_bd (x := -x) (n := n) (by omega) (by omega) n0 n1
    rw [impl_rounded.f, if_pos (by assumption), w64 (x := -x) (by omega) (by omega), pos _ _ (by omega) (by omega)]
    simp only [Option.bind_some]
    rw [w64 (by omega) (by omega)]
  · exact pos x _ (by omega) (by omega)
def to8 (x n z : Int) : Int := sat8 (near x n + z)
theorem spec_to8 (k : Nat) (hk : 2 ≤ k) (x n z : Int) : spec_ToInt8.f k x n z = some (if isR x = true ∧ sOk n z = true then to8 x n z else 0) := by
  obtain ⟨k, rfl⟩ : ∃ m, k = m + 1 := ⟨k - 1, by omega⟩
  unfold spec_ToInt8.f
  simp only [spec_real, spec_scaleOk, Option.bind_some, spec_ToInt8.j0]
  cases h : isR x with
  | false => simp
  | true =>
    cases h2 : sOk n z with
    | false => simp
    | true =>
      obtain ⟨⟨h1, h2⟩, h3, h4⟩ := sOk_iff.1 h2
      have hb := near_bd h h1 h2
      simp only [if_true, Bool.not_true, Bool.false_eq_true, if_false, spec_near x n h h1 h2, Option.bind_some]
      rw [w64 (by omega) (by omega), spec_sat8 k (by omega)]
      rfl
theorem impl_to8_ (k : Nat) (hk : 2 ≤ k) (x n z : Int) (hx : isR x = true) (hs : sOk n z = true) : impl_Scale_toInt8.f k n z x = some (to8 x n z) := by
  obtain ⟨⟨h1, h2⟩, h3, h4⟩ := sOk_iff.1 hs
  have hb := near_bd hx h1 h2
  unfold impl_Scale_toInt8.f
  simp only [impl_rounded_ k hk x n hx h1 h2, Option.bind_some]
  rw [w64 (by omega) (by omega), impl_sat8]
  rfl

def lst (l : List Int) (a : Int) : Int := l.foldl min a
def grt (l : List Int) (a : Int) : Int := l.foldl max a
theorem lst_le (l : List Int) (a : Int) : lst l a ≤ a ∧ ∀ x ∈ l, lst l a ≤ x := by
  induction l generalizing a with
  | nil => simp [lst]
  | cons y l ih =>
    have h := ih (min a y)
    simp only [lst, List.foldl_cons] at *
    refine ⟨by omega, fun x hx => ?_⟩
    rcases List.mem_cons.1 hx with rfl | hx
    · omega
    · exact h.2 x hx
theorem grt_ge (l : List Int) (a : Int) : a ≤ grt l a ∧ ∀ x ∈ l, x ≤ grt l a := by
  induction l generalizing a with
  | nil => simp [grt]
  | cons y l ih =>
    have h := ih (max a y)
    simp only [grt, List.foldl_cons] at *
    refine ⟨by omega, fun x hx => ?_⟩
    rcases List.mem_cons.1 hx with rfl | hx
    · omega
    · exact h.2 x hx
theorem lst_min (l : List Int) (a b : Int) : lst l (min a b) = min a (lst l b) := by
  induction l generalizing b with
  | nil => rfl
  | cons y l ih => simp only [lst, List.foldl_cons] at *; rw [← ih]; congr 1; omega
theorem grt_max (l : List Int) (a b : Int) : grt l (max a b) = max a (grt l b) := by
  induction l generalizing b with
  | nil => rfl
  | cons y l ih => simp only [grt, List.foldl_cons] at *; rw [← ih]; congr 1; omega
theorem lst_ge (l : List Int) (a c : Int) (h : c ≤ a) (hl : ∀ x ∈ l, c ≤ x) : c ≤ lst l a := by
  induction l generalizing a with
  | nil => exact h
  | cons y l ih =>
    have := hl y (by simp)
    exact ih (min a y) (by omega) (fun x hx => hl x (by simp [hx]))
theorem grt_le (l : List Int) (a c : Int) (h : a ≤ c) (hl : ∀ x ∈ l, x ≤ c) : grt l a ≤ c := by
  induction l generalizing a with
  | nil => exact h
  | cons y l ih =>
    have := hl y (by simp)
    exact ih (max a y) (by omega) (fun x hx => hl x (by simp [hx]))
def rng (l : List Int) : Int × Int × Bool := if (1 ≤ (l.length : Int) ∧ (l.length : Int) ≤ 300) ∧ l.all isR = true then (lst l 0, grt l 0, true) else (0, 0, false)
theorem all_drop (l : List Int) (i : Nat) (h : i < l.length) : (l.drop i).all isR = (isR (l.getD i 0) && (l.drop (i + 1)).all isR) := by
  rw [drop_getD l 0 i h]; rfl
theorem min_l0 (l : List Int) (hm : l.length ≤ 9223372036854775806) : ∀ (d k i : Nat) (a : Int), i + d = l.length → d < k → slices_Min_int_int.l0 k l a (i : Int) = some (lst (l.drop i) a) := by
  intro d
  induction d with
  | zero =>
    intro k i a hi hk
    obtain ⟨k, rfl⟩ : ∃ m, k = m + 1 := ⟨k - 1, by omega⟩
    simp only [slices_Min_int_int.l0]
    rw [if_neg (by omega), List.drop_of_length_le (by omega)]
    rfl
  | succ d ih =>
    intro k i a hi hk
    obtain ⟨k, rfl⟩ : ∃ m, k = m + 1 := ⟨k - 1, by omega⟩
    simp only [slices_Min_int_int.l0]
    rw [if_pos (by omega), if_pos (by omega), w64_succ i (by omega), ih k (i + 1) _ (by omega) (by omega), rd_natD, drop_getD l 0 i (by omega), mn_eq]
    rfl
theorem max_l0 (l : List Int) (hm : l.length ≤ 9223372036854775806) : ∀ (d k i : Nat) (a : Int), i + d = l.length → d < k → slices_Max_int_int.l0 k l a (i : Int) = some (grt (l.drop i) a) := by
  intro d
  induction d with
  | zero =>
    intro k i a hi hk
    obtain ⟨k, rfl⟩ : ∃ m, k = m + 1 := ⟨k - 1, by omega⟩
    simp only [slices_Max_int_int.l0]
    rw [if_neg (by omega), List.drop_of_length_le (by omega)]
    rfl
  | succ d ih =>
    intro k i a hi hk
    obtain ⟨k, rfl⟩ : ∃ m, k = m + 1 := ⟨k - 1, by omega⟩
    simp only [slices_Max_int_int.l0]
    rw [if_pos (by omega), if_pos (by omega), w64_succ i (by omega), ih k (i + 1) _ (by omega) (by omega), rd_natD, drop_getD l 0 i (by omega), mx_eq]
    rfl
theorem idx_l0 (l : List Int) (hm : l.length ≤ 300) : ∀ (d k i : Nat), i + d = l.length → d < k →
    ∃ r, slices_IndexFunc_int_int_at_63.l0 k l (l.length : Int) (i : Int) = some r ∧ (0 ≤ r ↔ (l.drop i).all isR = false) := by
  intro d
  induction d with
  | zero =>
    intro k i hi hk
    obtain ⟨k, rfl⟩ : ∃ m, k = m + 1 := ⟨k - 1, by omega⟩
    simp only [slices_IndexFunc_int_int_at_63.l0]
    rw [if_neg (by omega), List.drop_of_length_le (by omega)]
    exact ⟨-1, rfl, by simp⟩
  | succ d ih =>
    intro k i hi hk
    obtain ⟨k, rfl⟩ : ∃ m, k = m + 1 := ⟨k - 1, by omega⟩
    simp only [slices_IndexFunc_int_int_at_63.l0]
    rw [if_pos (by omega), if_pos (by omega), if_pos (by omega), all_drop l i (by omega)]
    unfold impl_RangeOfReals_1.f
    simp only [impl_real, Option.bind_some, rd_natD]
    cases hr : isR (l.getD i 0) with
    | false => exact ⟨i, by simp, by simp⟩
    | true =>
      obtain ⟨r, h1, h2⟩ := ih k (i + 1) (by omega) (by omega)
      refine ⟨r, ?_, by simpa using h2⟩
      rw [w64_succ i (by omega)]
      simpa using h1
theorem impl_range (k : Nat) (l : List Int) (hk : l.length + 1 < k) : impl_RangeOfReals.f k l = some (rng l) := by
  obtain ⟨k, rfl⟩ : ∃ m, k = m + 1 := ⟨k - 1, by omega⟩
  unfold impl_RangeOfReals.f rng
  simp only [impl_in_, Option.bind_some, decide_eq_true_eq, impl_RangeOfReals.j0, if_true]
  by_cases h : 1 ≤ (l.length : Int) ∧ (l.length : Int) ≤ 300
  · obtain ⟨r, h1, h2⟩ := idx_l0 l (by omega) l.length (k + 1) 0 (by omega) (by omega)
    have h1' : slices_IndexFunc_int_int_at_63.f (k + 1) l = some r := h1
    have hc : slices_ContainsFunc_int_int_at_63.f (k + 1) l = some (decide (r ≥ 0)) := by
      unfold slices_ContainsFunc_int_int_at_63.f
      rw [h1']; rfl
    rw [if_pos h, hc]
    simp only [Option.bind_some, decide_eq_true_eq]
    rw [List.drop_zero] at h2
    cases ha : l.all isR with
    | false =>
      rw [ha] at h2
      rw [if_pos (h2.2 rfl), if_neg (by simp)]
    | true =>
      rw [ha] at h2
      rw [if_neg (by intro z; exact absurd (h2.1 z) (by simp)), if_pos ⟨h, rfl⟩]
      cases l with
      | nil => simp at h
      | cons y l =>
        have e1 : slices_Min_int_int.f k (y :: l) = some (lst l y) := by
          unfold slices_Min_int_int.f
          simp only [List.length_cons] at h hk ⊢
          rw [if_neg (by omega), if_pos (by omega)]
          have := min_l0 (y :: l) (by simp only [List.length_cons]; omega) l.length k 1 y (by simp only [List.length_cons]; omega) (by omega)
          simpa [rd] using this
        have e2 : slices_Max_int_int.f k (y :: l) = some (grt l y) := by
          unfold slices_Max_int_int.f
          simp only [List.length_cons] at h hk ⊢
          rw [if_neg (by omega), if_pos (by omega)]
          have := max_l0 (y :: l) (by simp only [List.length_cons]; omega) l.length k 1 y (by simp only [List.length_cons]; omega) (by omega)
          simpa [rd] using this
        rw [e1, e2]
        simp only [Option.bind_some]
        rw [mn_eq, mx_eq, ← lst_min, ← grt_max]
        rfl
  · rw [if_neg h, if_neg (fun z => h z.1)]

theorem down_eq (a b : Int) (hb : 0 < b) : (if Int.tmod a b < 0 then Int.tdiv a b - 1 else Int.tdiv a b) = a / b := by
  have e1 := Int.tdiv_eq_ediv (a := a) (b := b)
  have e2 := Int.mul_tdiv_add_tmod a b
  have e3 := Int.mul_ediv_add_emod a b
  have e4 := Int.emod_nonneg a (show b ≠ 0 by omega)
  have e5 := Int.emod_lt_of_pos a hb
  have hs : b.sign = 1 := Int.sign_eq_one_of_pos hb
  rw [hs] at e1
  by_cases h : 0 ≤ a ∨ b ∣ a
  · rw [if_pos h, Int.add_zero] at e1
    rw [e1] at e2 ⊢
    rw [if_neg (by omega)]
  · rw [if_neg h] at e1
    rw [e1, Int.mul_add, Int.mul_one] at e2
    have : ¬ a % b = 0 := fun z => h (.inr (Int.dvd_of_emod_eq_zero z))
    rw [if_pos (by omega), e1]
    omega
theorem ediv_bd {a b m : Int} (hb : 0 < b) (h0 : -m ≤ a) (h1 : a ≤ m) (hm : 0 ≤ m) : -m ≤ a / b ∧ a / b ≤ m := by
  constructor
  · refine (Int.le_ediv_iff_mul_le hb).2 ?_
    have : (-m) * b ≤ (-m) * 1 := Int.mul_le_mul_of_nonpos_left (by omega) (by omega)
    omega
  · have h2 : a / b ≤ a / b * b ∨ a / b ≤ 0 := by
      rcases Int.lt_or_le 0 (a / b) with h | h
      · left
        have : a / b * 1 ≤ a / b * b := Int.mul_le_mul_of_nonneg_left (by omega) (by omega)
        omega
      · exact .inr h
    have := Int.ediv_mul_le a (show b ≠ 0 by omega)
    omega
theorem impl_down_ (a b : Int) (hb : 0 < b) (h0 : -4000000000 ≤ a) (h1 : a ≤ 4000000000) : impl_down.f a b = some (a / b) := by
  have hd := ediv_bd hb h0 h1 (by omega)
  have he := down_eq a b hb
  unfold impl_down.f
  rw [if_neg (by omega)]
  split at he
  · rename_i h
    rw [if_pos h, w64 (x := Int.tdiv a b) (by omega) (by omega), he, w64 (by omega) (by omega)]
  · rename_i h
    rw [if_neg h, he, w64 (by omega) (by omega)]
def upN (a b : Int) : Int := max 1 (-(-a / b))
theorem impl_up_ (a b : Int) (hb : 0 < b) (h0 : -4000000000 ≤ a) (h1 : a ≤ 4000000000) : impl_up.f a b = some (-(-a / b)) := by
  have hd := ediv_bd (a := -a) (m := 4000000000) hb (by omega) (by omega) (by omega)
  unfold impl_up.f
  rw [w64 (x := -a) (by omega) (by omega), impl_down_ _ b hb (by omega) (by omega)]
  simp only [Option.bind_some]
  rw [w64 (x := -(-a / b)) (by omega) (by omega)]
theorem upN_bd (a b : Int) (hb : 0 < b) (h1 : a ≤ 4000000000) (h0 : 0 ≤ a) : 1 ≤ upN a b ∧ upN a b ≤ 4000000000 := by
  have hd := ediv_bd (a := -a) (m := 4000000000) hb (by omega) (by omega) (by omega)
  unfold upN
  omega
theorem mx_upN (a b : Int) : mx 1 (-(-a / b)) = upN a b := by unfold upN; rw [mx_eq]
theorem rng_bd {l : List Int} (h : l.all isR = true) : -1000000000 ≤ lst l 0 ∧ lst l 0 ≤ 0 ∧ 0 ≤ grt l 0 ∧ grt l 0 ≤ 1000000000 := by
  have hr : ∀ x ∈ l, -1000000000 ≤ x ∧ x ≤ 1000000000 := fun x hx => isR_iff.1 (List.all_eq_true.1 h x hx)
  exact ⟨lst_ge l 0 _ (by omega) (fun x hx => (hr x hx).1), (lst_le l 0).1, (grt_ge l 0).1, grt_le l 0 _ (by omega) (fun x hx => (hr x hx).2)⟩

def sNum (l : List Int) : Int := upN (grt l 0 - lst l 0) 255
def sZero (l : List Int) : Int := sat8 (-128 - lst l 0 / sNum l)
def okL (l : List Int) : Prop := (1 ≤ (l.length : Int) ∧ (l.length : Int) ≤ 300) ∧ l.all isR = true
instance (l : List Int) : Decidable (okL l) := by unfold okL; infer_instance
def sfor (l : List Int) : Int × Int × Bool := if okL l then (sNum l, sZero l, true) else (0, 0, false)
theorem rng_ok (l : List Int) : rng l = if okL l then (lst l 0, grt l 0, true) else (0, 0, false) := rfl
theorem sNum_bd {l : List Int} (h : okL l) : 1 ≤ sNum l ∧ sNum l ≤ 7843138 := by
  have hb := rng_bd h.2
  unfold sNum upN
  omega
theorem sZero_bd (l : List Int) : -128 ≤ sZero l ∧ sZero l ≤ 127 := sat8_bd _
theorem sOk_for {l : List Int} (h : okL l) : sOk (sNum l) (sZero l) = true := by
  have h1 := sNum_bd h
  have h2 := sZero_bd l
  exact sOk_iff.2 ⟨⟨by omega, by omega⟩, by omega, by omega⟩
theorem impl_sfor (k : Nat) (l : List Int) (hk : l.length + 1 < k) : impl_ScaleFor.f k l = some (sfor l) := by
  unfold impl_ScaleFor.f sfor
  simp only [impl_range k l hk, Option.bind_some, rng_ok]
  by_cases h : okL l
  · have hb := rng_bd h.2
    have hn := sNum_bd h
    have e : upN (grt l 0 - lst l 0) 255 = sNum l := rfl
    have hd := ediv_bd (a := lst l 0) (b := sNum l) (m := 1000000000) (by omega) (by omega) (by omega) (by omega)
    simp only [if_pos h, if_true]
    rw [w64 (x := grt l 0 - lst l 0) (by omega) (by omega), impl_up_ _ _ (by omega) (by omega) (by omega)]
    simp only [Option.bind_some, mx_upN, e]
    rw [impl_down_ _ _ (by omega) (by omega) (by omega)]
    simp only [Option.bind_some]
    rw [w64 (by omega) (by omega), impl_sat8]
    rfl
  · simp only [if_neg h]; rfl

theorem spec_range_l0 (l : List Int) (hm : l.length ≤ 300) : ∀ (d k i : Nat) (a b : Int), i + d = l.length → 2 * d < k →
    spec_RangeOfReals.l0 k l a b (i : Int) = some (if (l.drop i).all isR = true then (lst (l.drop i) a, grt (l.drop i) b, true) else (0, 0, false)) := by
  intro d
  induction d with
  | zero =>
    intro k i a b hi hk
    obtain ⟨k, rfl⟩ : ∃ m, k = m + 1 := ⟨k - 1, by omega⟩
    simp only [spec_RangeOfReals.l0]
    rw [if_neg (by omega), List.drop_of_length_le (by omega)]
    rfl
  | succ d ih =>
    intro k i a b hi hk
    obtain ⟨k, rfl⟩ : ∃ m, k = m + 1 + 1 := ⟨k - 2, by omega⟩
    rw [all_drop l i (by omega), spec_RangeOfReals.l0, rd_natD]
    have e1 : lst (l.drop i) a = lst (l.drop (i + 1)) (min a (l.getD i 0)) := by rw [drop_getD l 0 i (by omega)]; rfl
    have e2 : grt (l.drop i) b = grt (l.drop (i + 1)) (max b (l.getD i 0)) := by rw [drop_getD l 0 i (by omega)]; rfl
    have tail : ∀ a' : Int, a' = min a (l.getD i 0) → spec_RangeOfReals.j1 (k + 1) l a' b (i : Int) = some (if (l.drop (i + 1)).all isR = true then (lst (l.drop i) a, grt (l.drop i) b, true) else (0, 0, false)) := by
      intro a' ha
      rw [e1, e2, ← ha, spec_RangeOfReals.j1, rd_natD, w64_succ i (by omega)]
      by_cases c : l.getD i 0 > b
      · have g := ih k (i + 1) a' (l.getD i 0) (by omega) (by omega)
        rw [show max b (l.getD i 0) = l.getD i 0 by omega]
        exact ifp (by omega) (ifp (by omega) (ifp c g))
      · have g := ih k (i + 1) a' b (by omega) (by omega)
        rw [show max b (l.getD i 0) = b by omega]
        exact ifp (by omega) (ifp (by omega) (ifn c g))
    refine ifp (by omega) (ifp (by omega) (st (spec_real _) ?_))
    cases hr : isR (l.getD i 0) with
    | false => simp
    | true =>
      rw [Bool.true_and]
      refine ifp rfl ?_
      by_cases c : l.getD i 0 < a
      · exact ifp c (tail _ (by omega))
      · exact ifn c (tail _ (by omega))
theorem spec_range (k : Nat) (l : List Int) (hk : 1000 ≤ k) : spec_RangeOfReals.f k l = some (rng l) := by
  unfold spec_RangeOfReals.f rng
  simp only [spec_in, Option.bind_some, decide_eq_true_eq]
  by_cases h : 1 ≤ (l.length : Int) ∧ (l.length : Int) ≤ 300
  · rw [if_pos h, show spec_RangeOfReals.l0 k l 0 0 0 = _ from spec_range_l0 l (by omega) l.length k 0 0 0 (by omega) (by omega)]
    simp only [List.drop_zero, h, true_and]
  · rw [if_neg h, if_neg (fun z => h z.1)]
theorem spec_down (a b : Int) (hb : 0 < b) (h0 : -4000000000 ≤ a) (h1 : a ≤ 4000000000) : spec_l01Down.f a b = some (a / b) := by
  have hd := ediv_bd hb h0 h1 (by omega)
  have he := down_eq a b hb
  unfold spec_l01Down.f
  rw [if_neg (by omega)]
  split at he
  · rename_i h
    rw [if_pos h, w64 (x := Int.tdiv a b) (by omega) (by omega), he, w64 (by omega) (by omega)]
  · rename_i h
    rw [if_neg h, he, w64 (by omega) (by omega)]
theorem spec_up (a b : Int) (hb : 0 < b) (h0 : -4000000000 ≤ a) (h1 : a ≤ 4000000000) : spec_l11Up.f a b = some (upN a b) := by
  have hd := ediv_bd (a := -a) (m := 4000000000) hb (by omega) (by omega) (by omega)
  unfold spec_l11Up.f upN
  rw [w64 (x := -a) (by omega) (by omega), spec_down _ b hb (by omega) (by omega)]
  simp only [Option.bind_some]
  rw [w64 (x := -(-a / b)) (by omega) (by omega)]
  split <;> congr 1 <;> omega
theorem spec_sfor (k : Nat) (l : List Int) (hk : 1000 ≤ k) : spec_ScaleFor.f k l = some (sfor l) := by
  unfold spec_ScaleFor.f sfor
  simp only [spec_range k l (by omega), Option.bind_some, rng_ok]
  by_cases h : okL l
  · have hb := rng_bd h.2
    have hn := sNum_bd h
    have e : upN (grt l 0 - lst l 0) 255 = sNum l := rfl
    have hd := ediv_bd (a := lst l 0) (b := sNum l) (m := 1000000000) (by omega) (by omega) (by omega) (by omega)
    simp only [if_pos h, if_true]
    rw [w64 (x := grt l 0 - lst l 0) (by omega) (by omega), spec_up _ _ (by omega) (by omega) (by omega)]
    simp only [Option.bind_some, e]
    rw [spec_down _ _ (by omega) (by omega) (by omega)]
    simp only [Option.bind_some]
    rw [w64 (by omega) (by omega), spec_sat8 k (by omega)]
    rfl
  · simp only [if_neg h]; rfl

def shOk (h w c : Int) : Bool := decide ((1 ≤ h ∧ h ≤ 8) ∧ (1 ≤ w ∧ w ≤ 8) ∧ (1 ≤ c ∧ c ≤ 8))
theorem shOk_iff {h w c : Int} : shOk h w c = true ↔ ((1 ≤ h ∧ h ≤ 8) ∧ (1 ≤ w ∧ w ≤ 8) ∧ (1 ≤ c ∧ c ≤ 8)) := by simp [shOk]
theorem spec_shapeOk (h w c : Int) : spec_ShapeOk.f h w c = some (shOk h w c) := by
  unfold spec_ShapeOk.f
  simp only [spec_in, Option.bind_some]
  by_cases h1 : 1 ≤ h ∧ h ≤ 8 <;> by_cases h2 : 1 ≤ w ∧ w ≤ 8 <;> simp [shOk, h1, h2]
theorem impl_shapeOk (h w c : Int) : impl_ShapeOk.f h w c = some (shOk h w c) := by
  unfold impl_ShapeOk.f
  simp only [impl_in_, Option.bind_some]
  by_cases h1 : 1 ≤ h ∧ h ≤ 8 <;> by_cases h2 : 1 ≤ w ∧ w ≤ 8 <;> simp [shOk, h1, h2]
def szN (h w c : Int) : Int := if shOk h w c = true then h * w * c else 0
theorem prod_bd {h w c : Int} (hs : shOk h w c = true) : (1 ≤ h * w ∧ h * w ≤ 64) ∧ 1 ≤ h * w * c ∧ h * w * c ≤ 512 := by
  obtain ⟨⟨a, b⟩, ⟨d, e⟩, f, g⟩ := shOk_iff.1 hs
  have h1 : 1 * w ≤ h * w := Int.mul_le_mul_of_nonneg_right a (by omega)
  have h2 : h * w ≤ 8 * w := Int.mul_le_mul_of_nonneg_right b (by omega)
  have h3 : h * w * 1 ≤ h * w * c := Int.mul_le_mul_of_nonneg_left f (by omega)
  have h4 : h * w * c ≤ h * w * 8 := Int.mul_le_mul_of_nonneg_left g (by omega)
  omega
theorem spec_sizeOf_ (h w c : Int) : spec_SizeOf.f h w c = some (szN h w c) := by
  unfold spec_SizeOf.f szN
  simp only [spec_shapeOk, Option.bind_some]
  split
  · rename_i hs
    have := prod_bd hs
    rw [w64 (x := h * w) (by omega) (by omega), w64 (by omega) (by omega)]
  · rfl
theorem impl_sizeOf_ (h w c : Int) : impl_SizeOf.f h w c = some (szN h w c) := by
  unfold impl_SizeOf.f szN
  simp only [impl_shapeOk, Option.bind_some]
  split
  · rename_i hs
    have := prod_bd hs
    rw [w64 (x := h * w) (by omega) (by omega), w64 (by omega) (by omega)]
  · rfl
def is8 (x : Int) : Bool := decide (-128 ≤ x ∧ x ≤ 127)
def tOk (h w c : Int) (l : List Int) : Bool := shOk h w c && (decide ((l.length : Int) = szN h w c) && l.all is8)
theorem spec_int8 (x : Int) : spec_l02Int8.f x = some (is8 x) := by unfold spec_l02Int8.f; rw [spec_in]; rfl
theorem all_drop8 (l : List Int) (i : Nat) (h : i < l.length) : (l.drop i).all is8 = (is8 (l.getD i 0) && (l.drop (i + 1)).all is8) := by
  rw [drop_getD l 0 i h]; rfl
theorem tOk_len {h w c : Int} {l : List Int} (ht : tOk h w c l = true) : l.length ≤ 512 := by
  simp only [tOk, Bool.and_eq_true, decide_eq_true_eq] at ht
  have := prod_bd ht.1
  have e : szN h w c = h * w * c := by unfold szN; rw [if_pos ht.1]
  omega

def quL (n z : Int) (l : List Int) : List Int := l.map (fun x => to8 x n z)
def quOk (l : List Int) (h w c : Int) : Prop := okL l ∧ shOk h w c = true ∧ (l.length : Int) = szN h w c
instance (l : List Int) (h w c : Int) : Decidable (quOk l h w c) := by unfold quOk; infer_instance
def quT (l : List Int) (h w c : Int) : Int × Int × Int × List Int × Int × Int × Bool := if quOk l h w c then (h, w, c, quL (sNum l) (sZero l) l, sNum l, sZero l, true) else (0, 0, 0, [], 0, 0, false)
theorem quL_len (n z : Int) (l : List Int) : (quL n z l).length = l.length := by simp [quL]
theorem quL_take (n z : Int) (l : List Int) (i : Nat) (h : i < l.length) : quL n z (l.take (i + 1)) = quL n z (l.take i) ++ [to8 (l.getD i 0) n z] := by
  rw [take_succ_getD l 0 i h]; simp [quL]
theorem all_getD {l : List Int} {p : Int → Bool} (h : l.all p = true) (i : Nat) (hi : i < l.length) : p (l.getD i 0) = true := List.all_eq_true.1 h _ (mem_getD l 0 i hi)
theorem impl_qu_l0 (l : List Int) (n z h w c : Int) (hm : l.length ≤ 300) (hs : sOk n z = true) (ha : l.all isR = true) : ∀ (d k i : Nat), i + d = l.length → d + 3 < k →
    impl_QuantTensor.l0 k l (l.length : Int) (i : Int) n z h w c (quL n z (l.take i)) = some (h, w, c, quL n z l, n, z, true) := by
  intro d
  induction d with
  | zero =>
    intro k i hi hk
    obtain ⟨k, rfl⟩ : ∃ m, k = m + 1 := ⟨k - 1, by omega⟩
    rw [impl_QuantTensor.l0, List.take_of_length_le (by omega)]
    exact ifn (by omega) rfl
  | succ d ih =>
    intro k i hi hk
    obtain ⟨k, rfl⟩ : ∃ m, k = m + 1 := ⟨k - 1, by omega⟩
    rw [impl_QuantTensor.l0, rd_natD, w64_succ i (by omega)]
    have g := ih k (i + 1) (by omega) (by omega)
    rw [quL_take n z l i (by omega)] at g
    exact ifp (by omega) (ifp (by omega) (ifp (by omega) (st (impl_to8_ k (by omega) _ n z (all_getD ha i (by omega)) hs) (ifp (by rw [quL_len]; simp; omega) g))))
theorem spec_qu_l0 (l : List Int) (n z h w c : Int) (hm : l.length ≤ 300) (hs : sOk n z = true) (ha : l.all isR = true) : ∀ (d k i : Nat), i + d = l.length → d + 3 < k →
    spec_QuantTensor.l0 k l (i : Int) n z h w c (quL n z (l.take i)) = some (h, w, c, quL n z l, n, z, true) := by
  intro d
  induction d with
  | zero =>
    intro k i hi hk
    obtain ⟨k, rfl⟩ : ∃ m, k = m + 1 := ⟨k - 1, by omega⟩
    rw [spec_QuantTensor.l0, List.take_of_length_le (by omega)]
    exact ifn (by omega) rfl
  | succ d ih =>
    intro k i hi hk
    obtain ⟨k, rfl⟩ : ∃ m, k = m + 1 := ⟨k - 1, by omega⟩
    rw [spec_QuantTensor.l0, rd_natD, w64_succ i (by omega)]
    have g := ih k (i + 1) (by omega) (by omega)
    rw [quL_take n z l i (by omega)] at g
    have e := spec_to8 k (by omega) (l.getD i 0) n z
    rw [if_pos ⟨all_getD ha i (by omega), hs⟩] at e
    exact ifp (by omega) (ifp (by omega) (st e (ifp (by rw [quL_len]; simp; omega) g)))
theorem impl_qu (k : Nat) (l : List Int) (h w c : Int) (hk : l.length + 10 < k) : impl_QuantTensor.f k l h w c = some (quT l h w c) := by
  obtain ⟨k, rfl⟩ : ∃ m, k = m + 1 := ⟨k - 1, by omega⟩
  have e := impl_sfor (k + 1) l (by omega)
  unfold impl_QuantTensor.f
  unfold sfor at e
  by_cases h1 : okL l
  · rw [if_pos h1] at e
    refine st e (ifp rfl (st (impl_shapeOk h w c) ?_))
    by_cases h2 : shOk h w c = true
    · refine ifp h2 (st (impl_sizeOf_ h w c) ?_)
      rw [impl_QuantTensor.j0]
      by_cases h3 : (l.length : Int) = szN h w c
      · have g := impl_qu_l0 l (sNum l) (sZero l) h w c (by have := h1.1; omega) (sOk_for h1) h1.2 l.length k 0 (by omega) (by omega)
        have hv : quT l h w c = (h, w, c, quL (sNum l) (sZero l) l, sNum l, sZero l, true) := if_pos ⟨h1, h2, h3⟩
        rw [hv]
        exact ifn (by simp [h3]) g
      · have hv : quT l h w c = (0, 0, 0, [], 0, 0, false) := if_neg (fun z => h3 z.2.2)
        rw [hv]
        exact ifp (by simp [h3]) rfl
    · rw [impl_QuantTensor.j0]
      have hv : quT l h w c = (0, 0, 0, [], 0, 0, false) := if_neg (fun z => h2 z.2.1)
      rw [hv]
      exact ifn h2 (ifp rfl rfl)
  · rw [if_neg h1] at e
    have hv : quT l h w c = (0, 0, 0, [], 0, 0, false) := if_neg (fun z => h1 z.1)
    rw [hv]
    refine st e ?_
    rw [impl_QuantTensor.j0]
    exact ifn (by simp) (ifp rfl rfl)
theorem spec_qu (k : Nat) (l : List Int) (h w c : Int) (hk : l.length + 1000 < k) : spec_QuantTensor.f k l h w c = some (quT l h w c) := by
  obtain ⟨k, rfl⟩ : ∃ m, k = m + 1 := ⟨k - 1, by omega⟩
  have e := spec_sfor (k + 1) l (by omega)
  unfold spec_QuantTensor.f
  unfold sfor at e
  by_cases h1 : okL l
  · rw [if_pos h1] at e
    refine st e (ifp rfl (st (spec_shapeOk h w c) ?_))
    by_cases h2 : shOk h w c = true
    · refine ifp h2 (st (spec_sizeOf_ h w c) ?_)
      rw [spec_QuantTensor.j0]
      by_cases h3 : (l.length : Int) = szN h w c
      · have g := spec_qu_l0 l (sNum l) (sZero l) h w c (by have := h1.1; omega) (sOk_for h1) h1.2 l.length k 0 (by omega) (by omega)
        have hv : quT l h w c = (h, w, c, quL (sNum l) (sZero l) l, sNum l, sZero l, true) := if_pos ⟨h1, h2, h3⟩
        rw [hv]
        exact ifn (by simp [h3]) g
      · have hv : quT l h w c = (0, 0, 0, [], 0, 0, false) := if_neg (fun z => h3 z.2.2)
        rw [hv]
        exact ifp (by simp [h3]) rfl
    · rw [spec_QuantTensor.j0]
      have hv : quT l h w c = (0, 0, 0, [], 0, 0, false) := if_neg (fun z => h2 z.2.1)
      rw [hv]
      exact ifn h2 (ifp rfl rfl)
  · rw [if_neg h1] at e
    have hv : quT l h w c = (0, 0, 0, [], 0, 0, false) := if_neg (fun z => h1 z.1)
    rw [hv]
    refine st e ?_
    rw [spec_QuantTensor.j0]
    exact ifn (by simp) (ifp rfl rfl)
theorem quL_tOk {l : List Int} {h w c : Int} (q : quOk l h w c) : tOk h w c (quL (sNum l) (sZero l) l) = true := by
  unfold tOk
  rw [q.2.1, quL_len, decide_eq_true q.2.2]
  simp only [Bool.true_and]
  refine List.all_eq_true.2 (fun x hx => ?_)
  obtain ⟨y, _, rfl⟩ := List.mem_map.1 hx
  have := sat8_bd (near y (sNum l) + sZero l)
  unfold is8 to8
  exact decide_eq_true this

theorem toIntS_l0 (l : List Int) (hm : l.length ≤ 9223372036854775806) : ∀ (d k i : Nat) (x : List Int), i + d = l.length → d < k → x.length = l.length → x.take i = l.take i → laws_toIntS.l0 k l x (i : Int) = some l := by
  intro d
  induction d with
  | zero =>
    intro k i x hi hk hx ht
    obtain ⟨k, rfl⟩ : ∃ m, k = m + 1 := ⟨k - 1, by omega⟩
    simp only [laws_toIntS.l0]
    rw [if_neg (by omega), take_full hx rfl (by rw [show l.length = i by omega]; exact ht)]
  | succ d ih =>
    intro k i x hi hk hx ht
    obtain ⟨k, rfl⟩ : ∃ m, k = m + 1 := ⟨k - 1, by omega⟩
    simp only [laws_toIntS.l0]
    rw [if_pos (by omega), if_pos (by omega), if_pos (by omega), w64_succ i (by omega)]
    refine ih k (i + 1) _ (by omega) (by omega) (by simpa using hx) ?_
    rw [Int.toNat_natCast, take_set_succ _ _ _ (by omega), ht, rd_natD, ← take_succ_getD _ _ _ (by omega)]
theorem toIntS_ (k : Nat) (l : List Int) (hk : l.length < k) (hm : l.length ≤ 35184372088832) : laws_toIntS.f k l = some l := by
  unfold laws_toIntS.f
  rw [if_pos (by omega), if_pos (by simpa using hm)]
  exact toIntS_l0 l (by omega) l.length k 0 _ (by omega) hk (by simp) (by simp)
theorem eqIntS_l0 (a b : List Int) (hm : a.length ≤ 9223372036854775806) (hl : a.length = b.length) : ∀ (d k i : Nat), i + d = a.length → d < k → a.take i = b.take i → laws_eqIntS.l0 k a b (i : Int) = some (decide (a = b)) := by
  intro d
  induction d with
  | zero =>
    intro k i hi hk ht
    obtain ⟨k, rfl⟩ : ∃ m, k = m + 1 := ⟨k - 1, by omega⟩
    simp only [laws_eqIntS.l0]
    rw [if_neg (by omega)]
    simp [eq_of_drop hl (by omega) ht]
  | succ d ih =>
    intro k i hi hk ht
    obtain ⟨k, rfl⟩ : ∃ m, k = m + 1 := ⟨k - 1, by omega⟩
    simp only [laws_eqIntS.l0]
    rw [if_pos (by omega), if_pos (by omega), if_pos (by omega), rd_natD, rd_natD]
    by_cases e : a.getD i 0 = b.getD i 0
    · rw [if_pos e, w64_succ i (by omega)]
      exact ih k (i + 1) (by omega) (by omega) (by rw [take_succ_getD _ 0 _ (by omega), take_succ_getD _ 0 _ (by omega), ht, e])
    · rw [if_neg e]
      have : ¬ a = b := by rintro rfl; exact e rfl
      simp [this]
theorem eqIntS_ (k : Nat) (a b : List Int) (hk : a.length < k) (hm : a.length ≤ 9223372036854775806) : laws_eqIntS.f k a b = some (decide (a = b)) := by
  unfold laws_eqIntS.f
  by_cases h : (a.length : Int) = (b.length : Int)
  · rw [if_pos h]
    exact eqIntS_l0 a b hm (by omega) a.length k 0 (by omega) hk (by simp)
  · rw [if_neg h]
    have : ¬ a = b := by rintro rfl; exact h rfl
    simp [this]
theorem eqIntS_s (k : Nat) (a : List Int) (hk : a.length < k) (hm : a.length ≤ 9223372036854775806) : laws_eqIntS.f k a a = some true := by
  rw [eqIntS_ k a a hk hm]; simp

theorem markIntS_l0 (n : Nat) (m0 : Int) (h0 : 0 ≤ m0) (h1 : m0 + n ≤ 9223372036854775806) : ∀ (d k i : Nat) (x : List Int), i + d = n → d < k → x.length = n → x.take i = marks m0 i → laws_markIntS.l0 k x (m0 + i) (i : Int) = some (m0 + n, marks m0 n) := by
  intro d
  induction d with
  | zero =>
    intro k i x hi hk hx ht
    obtain ⟨k, rfl⟩ : ∃ m, k = m + 1 := ⟨k - 1, by omega⟩
    simp only [laws_markIntS.l0]
    rw [if_neg (by omega), show i = n by omega]
    rw [show i = n by omega, List.take_of_length_le (by omega)] at ht
    rw [ht]
  | succ d ih =>
    intro k i x hi hk hx ht
    obtain ⟨k, rfl⟩ : ∃ m, k = m + 1 := ⟨k - 1, by omega⟩
    simp only [laws_markIntS.l0]
    rw [if_pos (by omega), if_pos (by omega), w64_succ i (by omega), w64 (x := m0 + i + 1) (by omega) (by omega)]
    have := ih k (i + 1) (x.set i (m0 + i)) (by omega) (by omega) (by simpa using hx) (by rw [take_set_succ _ _ _ (by omega), ht, marks_snoc])
    rw [show m0 + ((i + 1 : Nat) : Int) = m0 + i + 1 by omega] at this
    simpa using this
theorem markIntS_ (k : Nat) (l : List Int) (m : Int) (hk : l.length < k) (h0 : 0 ≤ m) (h1 : m + l.length ≤ 9223372036854775806) : laws_markIntS.f k l m = some (m + l.length, marks m l.length) := by
  unfold laws_markIntS.f
  have := markIntS_l0 l.length m h0 h1 l.length k 0 l (by omega) hk rfl (by simp [marks])
  simpa using this
theorem heldIntS_l0 (n : Nat) (m0 : Int) (h0 : 0 ≤ m0) (h1 : m0 + n ≤ 9223372036854775806) : ∀ (d k i : Nat), i + d = n → d < k → laws_heldIntS.l0 k (marks m0 n) (m0 + i) (i : Int) = some (m0 + n) := by
  intro d
  induction d with
  | zero =>
    intro k i hi hk
    obtain ⟨k, rfl⟩ : ∃ m, k = m + 1 := ⟨k - 1, by omega⟩
    simp only [laws_heldIntS.l0]
    rw [if_neg (by rw [marks_length]; omega), show i = n by omega]
  | succ d ih =>
    intro k i hi hk
    obtain ⟨k, rfl⟩ : ∃ m, k = m + 1 := ⟨k - 1, by omega⟩
    simp only [laws_heldIntS.l0]
    rw [if_pos (by rw [marks_length]; omega), if_pos (by omega), rd_natD, marks_getD _ _ _ (by omega), if_pos rfl, w64_succ i (by omega), w64 (x := m0 + i + 1) (by omega) (by omega)]
    have := ih k (i + 1) (by omega) (by omega)
    rwa [show m0 + ((i + 1 : Nat) : Int) = m0 + i + 1 by omega] at this
theorem heldIntS_ (k : Nat) (n : Nat) (m : Int) (hk : n < k) (h0 : 0 ≤ m) (h1 : m + n ≤ 9223372036854775806) : laws_heldIntS.f k (marks m n) m = some (m + n) := by
  unfold laws_heldIntS.f
  have := heldIntS_l0 n m h0 h1 n k 0 (by omega) hk
  simpa using this

theorem eqShape_ (a b c d e f : Int) : laws_eqShape.f a b c d e f = some (decide (a = d ∧ b = e ∧ c = f)) := by
  unfold laws_eqShape.f
  by_cases h1 : a = d <;> by_cases h2 : b = e <;> by_cases h3 : c = f <;> simp [h1, h2, h3]
theorem eqTensor_ (k : Nat) (a b c : Int) (l : List Int) (d e f : Int) (m : List Int) (hk : l.length < k) (hm : l.length ≤ 9223372036854775806) : laws_eqTensor.f k a b c l d e f m = some (decide ((a = d ∧ b = e ∧ c = f) ∧ l = m)) := by
  unfold laws_eqTensor.f
  simp only [eqShape_, eqIntS_ k l m hk hm, Option.bind_some]
  by_cases h1 : (a = d ∧ b = e ∧ c = f) <;> by_cases h2 : l = m <;> simp [h1, h2]
theorem eqTensor_s (k : Nat) (a b c : Int) (l : List Int) (hk : l.length < k) (hm : l.length ≤ 9223372036854775806) : laws_eqTensor.f k a b c l a b c l = some true := by
  rw [eqTensor_ k a b c l a b c l hk hm]; simp

theorem markTensor_ (k : Nat) (h w c : Int) (l : List Int) (m : Int) (hk : l.length < k) (h0 : 0 ≤ m) (h1 : m + l.length ≤ 9223372036854775806) : laws_markTensor.f k h w c l m = some (m + l.length, marks m l.length) := by
  unfold laws_markTensor.f
  simp only [markIntS_ k l m hk h0 h1, Option.bind_some]


theorem FnExactQuantTensor : laws_FnExactQuantTensor.Pure := by
  intro l h w c hl _ _ _
  have hm : l.length ≤ 9223372036854775807 := hl.1
  obtain ⟨k, hk⟩ : ∃ k : Nat, l.length + 2000000 ≤ k := ⟨_, Nat.le_refl _⟩
  refine ⟨k + 1 + 1 + 1, ?_⟩
  unfold laws_FnExactQuantTensor.f
  by_cases hb : (l.length : Int) > 1048576
  · exact ifp hb rfl
  refine ifn hb ?_
  have e1 := spec_qu (k + 1 + 1 + 1) l h w c (by omega)
  have e2 := impl_qu (k + 1 + 1 + 1) l h w c (by omega)
  have e3 := impl_qu (k + 1) l h w c (by omega)
  have t1 := toIntS_ (k + 1 + 1 + 1) l (by omega) (by omega)
  have t2 := toIntS_ (k + 1 + 1) l (by omega) (by omega)
  have t3 := toIntS_ (k + 1) l (by omega) (by omega)
  have hq : (quT l h w c).2.2.2.1.length ≤ l.length := by
    unfold quT
    split
    · rw [quL_len]; exact Nat.le_refl _
    · simp
  generalize quT l h w c = qv at e1 e2 e3 hq
  obtain ⟨a, b, d, t, n, z, o⟩ := qv
  have hq : t.length ≤ l.length := hq
  have s1 : ∀ x y : Int, laws_eqScale.f x y x y = some true := fun x y => by unfold laws_eqScale.f; rw [if_pos rfl, if_pos rfl]
  have sh : ∀ x y u : Int, laws_toShape.f x y u = some (x, y, u) := fun _ _ _ => rfl
  have he : ∀ k : Nat, t.length < k → laws_heldTensor.f k a b d (marks 1 t.length) 1 = some (1 + t.length) := fun k hk => by
    unfold laws_heldTensor.f
    exact st (heldIntS_ k t.length 1 hk (by omega) (by omega)) (ifn (by omega) rfl)
  refine st t1 (st (sh h w c) (st e1 (st t1 (st (sh h w c) (st e2 (st (eqTensor_s _ _ _ _ t (by omega) (by omega)) (ifp rfl (st (s1 n z) (ifp rfl ?_)))))))))
  rw [laws_FnExactQuantTensor.j0]
  refine ifn (by simp) (st t2 (st (eqIntS_s _ l (by omega) (by omega)) (ifp rfl (st (markIntS_ _ l 1 (by omega) (by omega) (by omega)) (ifn (by dsimp only; omega) (st (eqTensor_s _ _ _ _ t (by omega) (by omega)) (ifp rfl (st (s1 n z) (ifp rfl ?_)))))))))
  rw [laws_FnExactQuantTensor.j1]
  refine ifn (by simp) (st (markTensor_ _ a b d t 1 (by omega) (by omega) (by omega)) (st (he _ (by omega)) (ifn (by omega) (ifp rfl (st t3 (st (sh h w c) (st e3 (st (eqTensor_s _ _ _ _ t (by omega) (by omega)) (ifp rfl (st (s1 n z) (ifp rfl ?_)))))))))))
  rw [laws_FnExactQuantTensor.j2]
  exact ifn (by simp) (st (he _ (by omega)) (ifn (by omega) (ifp rfl rfl)))

end Go.Proofs.Ytneeplpooamffaa.Pure
