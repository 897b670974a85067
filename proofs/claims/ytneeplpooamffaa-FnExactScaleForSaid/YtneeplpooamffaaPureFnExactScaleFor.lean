/- What is left of the statement FnExactScaleFor once the Go functions are Lean functions: the program's ScaleFor and the reference's answer alike. No condition. -/
import Derived.Test.YtneeplpooamffaaQFnExactScaleForx2
import Derived.Test.YtneeplpooamffaaAid
set_option linter.unusedVariables false
set_option linter.unusedSimpArgs false
namespace Go.Proofs.Ytneeplpooamffaa.Pure
open Go.RowKit Go.Proofs.Ytneeplpooamffaa.QFnExactScaleFor Go.Proofs.YtneeplpooamffaaW.PrintWords Go.Proofs.YtneeplpooamffaaW.PrintLast Go.Proofs.YtneeplpooamffaaW.PrintMore Go.Proofs.YtneeplpooamffaaW.Aid


theorem spec_in (x lo hi : Int) : spec_l01In.f x lo hi = some (decide (lo ≤ x ∧ x ≤ hi)) := by
  unfold spec_l01In.f
  split
  · simp_all
  · simp; omega
theorem impl_in_ (x lo hi : Int) : impl_in.f x lo hi = some (decide (lo ≤ x ∧ x ≤ hi)) := by
  unfold impl_in.f
  split
  · simp_all
  · simp; omega

def sOk (n z : Int) : Bool := decide ((1 ≤ n ∧ n ≤ 1000000000) ∧ (-128 ≤ z ∧ z ≤ 127))
theorem sOk_iff {n z : Int} : sOk n z = true ↔ ((1 ≤ n ∧ n ≤ 1000000000) ∧ (-128 ≤ z ∧ z ≤ 127)) := by simp [sOk]

def sat8 (x : Int) : Int := mx (-128) (mn x 127)
theorem sat8_bd (x : Int) : -128 ≤ sat8 x ∧ sat8 x ≤ 127 := by unfold sat8 mx mn; repeat' split <;> omega
theorem spec_clamp (k : Nat) (hk : 1 ≤ k) (x lo hi : Int) (h : lo ≤ hi) : spec_ClampTo.f k x lo hi = some (mx lo (mn x hi)) := by
  obtain ⟨k, rfl⟩ : ∃ m, k = m + 1 := ⟨k - 1, by omega⟩
  unfold spec_ClampTo.f
  simp only [spec_ClampTo.j0]
  unfold mx mn
  repeat' split
  all_goals simp_all
  all_goals omega
theorem spec_sat8 (k : Nat) (hk : 1 ≤ k) (x : Int) : spec_Sat8.f k x = some (sat8 x) := by
  unfold spec_Sat8.f
  rw [spec_clamp k hk x _ _ (by omega)]; rfl
theorem impl_sat8 (x : Int) : impl_Sat8.f x = some (sat8 x) := rfl

def isR (x : Int) : Bool := decide (-1000000000 ≤ x ∧ x ≤ 1000000000)
theorem isR_iff {x : Int} : isR x = true ↔ (-1000000000 ≤ x ∧ x ≤ 1000000000) := by simp [isR]
theorem spec_real (x : Int) : spec_l11Real.f x = some (isR x) := by unfold spec_l11Real.f; rw [spec_in]; rfl
theorem impl_real (x : Int) : impl_isReal.f x = some (isR x) := by unfold impl_isReal.f; rw [impl_in_]; rfl

def lst (l : List Int) (a : Int) : Int := l.foldl min a
def grt (l : List Int) (a : Int) : Int := l.foldl max a
theorem lst_le (l : List Int) (a : Int) : lst l a ≤ a ∧ ∀ x ∈ l, lst l a ≤ x := by
  induction l generalizing a with
  | nil => simp [lst]
  | cons y l ih =>
    have h := ih (min a y)
    simp only [lst, List.foldl_cons] at *
    refine ⟨by omega, fun x hx => ?_⟩
    rcases List.mem_cons.1 hx with rfl | hx
    · omega
    · exact h.2 x hx
theorem grt_ge (l : List Int) (a : Int) : a ≤ grt l a ∧ ∀ x ∈ l, x ≤ grt l a := by
  induction l generalizing a with
  | nil => simp [grt]
  | cons y l ih =>
    have h := ih (max a y)
    simp only [grt, List.foldl_cons] at *
    refine ⟨by omega, fun x hx => ?_⟩
    rcases List.mem_cons.1 hx with rfl | hx
    · omega
    · exact h.2 x hx
theorem lst_min (l : List Int) (a b : Int) : lst l (min a b) = min a (lst l b) := by
  induction l generalizing b with
  | nil => rfl
  | cons y l ih => simp only [lst, List.foldl_cons] at *; rw [← ih]; congr 1; omega
theorem grt_max (l : List Int) (a b : Int) : grt l (max a b) = max a (grt l b) := by
  induction l generalizing b with
  | nil => rfl
  | cons y l ih => simp only [grt, List.foldl_cons] at *; rw [← ih]; congr 1; omega
theorem lst_ge (l : List Int) (a c : Int) (h : c ≤ a) (hl : ∀ x ∈ l, c ≤ x) : c ≤ lst l a := by
  induction l generalizing a with
  | nil => exact h
  | cons y l ih =>
    have := hl y (by simp)
    exact ih (min a y) (by omega) (fun x hx => hl x (by simp [hx]))
theorem grt_le (l : List Int) (a c : Int) (h : a ≤ c) (hl : ∀ x ∈ l, x ≤ c) : grt l a ≤ c := by
  induction l generalizing a with
  | nil => exact h
  | cons y l ih =>
    have := hl y (by simp)
    exact ih (max a y) (by omega) (fun x hx => hl x (by simp [hx]))
def rng (l : List Int) : Int × Int × Bool := if (1 ≤ (l.length : Int) ∧ (l.length : Int) ≤ 300) ∧ l.all isR = true then (lst l 0, grt l 0, true) else (0, 0, false)
theorem all_drop (l : List Int) (i : Nat) (h : i < l.length) : (l.drop i).all isR = (isR (l.getD i 0) && (l.drop (i + 1)).all isR) := by
  rw [drop_getD l 0 i h]; rfl
theorem spec_range_l0 (l : List Int) (hm : l.length ≤ 300) : ∀ (d k i : Nat) (a b : Int), i + d = l.length → d < k →
    spec_RangeOfReals.l0 k l a b (i : Int) = some (if (l.drop i).all isR = true then (lst (l.drop i) a, grt (l.drop i) b, true) else (0, 0, false)) := by
  intro d
  induction d with
  | zero =>
    intro k i a b hi hk
    obtain ⟨k, rfl⟩ : ∃ m, k = m + 1 := ⟨k - 1, by omega⟩
    simp only [spec_RangeOfReals.l0]
    rw [if_neg (by omega), List.drop_of_length_le (by omega)]
    rfl
  | succ d ih =>
    intro k i a b hi hk
    obtain ⟨k, rfl⟩ : ∃ m, k = m + 1 := ⟨k - 1, by omega⟩
    simp only [spec_RangeOfReals.l0]
    rw [if_pos (by omega), if_pos (by omega), all_drop l i (by omega)]
    simp only [spec_real, Option.bind_some, rd_natD, w64_succ i (show i < 9223372036854775807 by omega)]
    cases hr : isR (l.getD i 0) with
    | false => simp
    | true =>
      simp only [if_true, Bool.true_and]
      have e1 : lst (l.drop i) a = lst (l.drop (i + 1)) (min a (l.getD i 0)) := by rw [drop_getD l 0 i (by omega)]; rfl
      have e2 : grt (l.drop i) b = grt (l.drop (i + 1)) (max b (l.getD i 0)) := by rw [drop_getD l 0 i (by omega)]; rfl
      rw [e1, e2]
      split <;> split <;> rw [ih k (i + 1) _ _ (by omega) (by omega)]
      · rw [show min a (l.getD i 0) = l.getD i 0 by omega, show max b (l.getD i 0) = l.getD i 0 by omega]
      · rw [show min a (l.getD i 0) = l.getD i 0 by omega, show max b (l.getD i 0) = b by omega]
      · rw [show min a (l.getD i 0) = a by omega, show max b (l.getD i 0) = l.getD i 0 by omega]
      · rw [show min a (l.getD i 0) = a by omega, show max b (l.getD i 0) = b by omega]
theorem spec_range (k : Nat) (l : List Int) (hk : l.length < k) : spec_RangeOfReals.f k l = some (rng l) := by
  unfold spec_RangeOfReals.f rng
  simp only [spec_in, Option.bind_some, decide_eq_true_eq]
  by_cases h : 1 ≤ (l.length : Int) ∧ (l.length : Int) ≤ 300
  · rw [if_pos h, show spec_RangeOfReals.l0 k l 0 0 0 = _ from spec_range_l0 l (by omega) l.length k 0 0 0 (by omega) hk]
    simp only [List.drop_zero, h, true_and]
  · rw [if_neg h, if_neg (fun z => h z.1)]
theorem min_l0 (l : List Int) (hm : l.length ≤ 9223372036854775806) : ∀ (d k i : Nat) (a : Int), i + d = l.length → d < k → slices_Min_int_int.l0 k l a (i : Int) = some (lst (l.drop i) a) := by
  intro d
  induction d with
  | zero =>
    intro k i a hi hk
    obtain ⟨k, rfl⟩ : ∃ m, k = m + 1 := ⟨k - 1, by omega⟩
    simp only [slices_Min_int_int.l0]
    rw [if_neg (by omega), List.drop_of_length_le (by omega)]
    rfl
  | succ d ih =>
    intro k i a hi hk
    obtain ⟨k, rfl⟩ : ∃ m, k = m + 1 := ⟨k - 1, by omega⟩
    simp only [slices_Min_int_int.l0]
    rw [if_pos (by omega), if_pos (by omega), w64_succ i (by omega), ih k (i + 1) _ (by omega) (by omega), rd_natD, drop_getD l 0 i (by omega), mn_eq]
    rfl
theorem max_l0 (l : List Int) (hm : l.length ≤ 9223372036854775806) : ∀ (d k i : Nat) (a : Int), i + d = l.length → d < k → slices_Max_int_int.l0 k l a (i : Int) = some (grt (l.drop i) a) := by
  intro d
  induction d with
  | zero =>
    intro k i a hi hk
    obtain ⟨k, rfl⟩ : ∃ m, k = m + 1 := ⟨k - 1, by omega⟩
    simp only [slices_Max_int_int.l0]
    rw [if_neg (by omega), List.drop_of_length_le (by omega)]
    rfl
  | succ d ih =>
    intro k i a hi hk
    obtain ⟨k, rfl⟩ : ∃ m, k = m + 1 := ⟨k - 1, by omega⟩
    simp only [slices_Max_int_int.l0]
    rw [if_pos (by omega), if_pos (by omega), w64_succ i (by omega), ih k (i + 1) _ (by omega) (by omega), rd_natD, drop_getD l 0 i (by omega), mx_eq]
    rfl
theorem idx_l0 (l : List Int) (hm : l.length ≤ 300) : ∀ (d k i : Nat), i + d = l.length → d < k →
    ∃ r, slices_IndexFunc_int_int_at_63.l0 k l (l.length : Int) (i : Int) = some r ∧ (0 ≤ r ↔ (l.drop i).all isR = false) := by
  intro d
  induction d with
  | zero =>
    intro k i hi hk
    obtain ⟨k, rfl⟩ : ∃ m, k = m + 1 := ⟨k - 1, by omega⟩
    simp only [slices_IndexFunc_int_int_at_63.l0]
    rw [if_neg (by omega), List.drop_of_length_le (by omega)]
    exact ⟨-1, rfl, by simp⟩
  | succ d ih =>
    intro k i hi hk
    obtain ⟨k, rfl⟩ : ∃ m, k = m + 1 := ⟨k - 1, by omega⟩
    simp only [slices_IndexFunc_int_int_at_63.l0]
    rw [if_pos (by omega), if_pos (by omega), if_pos (by omega), all_drop l i (by omega)]
    unfold impl_RangeOfReals_1.f
    simp only [impl_real, Option.bind_some, rd_natD]
    cases hr : isR (l.getD i 0) with
    | false => exact ⟨i, by simp, by simp⟩
    | true =>
      obtain ⟨r, h1, h2⟩ := ih k (i + 1) (by omega) (by omega)
      refine ⟨r, ?_, by simpa using h2⟩
      rw [w64_succ i (by omega)]
      simpa using h1
theorem impl_range (k : Nat) (l : List Int) (hk : l.length + 1 < k) : impl_RangeOfReals.f k l = some (rng l) := by
  obtain ⟨k, rfl⟩ : ∃ m, k = m + 1 := ⟨k - 1, by omega⟩
  unfold impl_RangeOfReals.f rng
  simp only [impl_in_, Option.bind_some, decide_eq_true_eq, impl_RangeOfReals.j0, if_true]
  by_cases h : 1 ≤ (l.length : Int) ∧ (l.length : Int) ≤ 300
  · obtain ⟨r, h1, h2⟩ := idx_l0 l (by omega) l.length (k + 1) 0 (by omega) (by omega)
    have h1' : slices_IndexFunc_int_int_at_63.f (k + 1) l = some r := h1
    have hc : slices_ContainsFunc_int_int_at_63.f (k + 1) l = some (decide (r ≥ 0)) := by
      unfold slices_ContainsFunc_int_int_at_63.f
      rw [h1']; rfl
    rw [if_pos h, hc]
    simp only [Option.bind_some, decide_eq_true_eq]
    rw [List.drop_zero] at h2
    cases ha : l.all isR with
    | false =>
      rw [ha] at h2
      rw [if_pos (h2.2 rfl), if_neg (by simp)]
    | true =>
      rw [ha] at h2
      rw [if_neg (by intro z; exact absurd (h2.1 z) (by simp)), if_pos ⟨h, rfl⟩]
      cases l with
      | nil => simp at h
      | cons y l =>
        have e1 : slices_Min_int_int.f k (y :: l) = some (lst l y) := by
          unfold slices_Min_int_int.f
          simp only [List.length_cons] at h hk ⊢
          rw [if_neg (by omega), if_pos (by omega)]
          have := min_l0 (y :: l) (by simp only [List.length_cons]; omega) l.length k 1 y (by simp only [List.length_cons]; omega) (by omega)
          simpa [rd] using this
        have e2 : slices_Max_int_int.f k (y :: l) = some (grt l y) := by
          unfold slices_Max_int_int.f
          simp only [List.length_cons] at h hk ⊢
          rw [if_neg (by omega), if_pos (by omega)]
          have := max_l0 (y :: l) (by simp only [List.length_cons]; omega) l.length k 1 y (by simp only [List.length_cons]; omega) (by omega)
          simpa [rd] using this
        rw [e1, e2]
        simp only [Option.bind_some]
        rw [mn_eq, mx_eq, ← lst_min, ← grt_max]
        rfl
  · rw [if_neg h, if_neg (fun z => h z.1)]

theorem toIntS_l0 (l : List Int) (hm : l.length ≤ 9223372036854775806) : ∀ (d k i : Nat) (x : List Int), i + d = l.length → d < k → x.length = l.length → x.take i = l.take i → laws_toIntS.l0 k l x (i : Int) = some l := by
  intro d
  induction d with
  | zero =>
    intro k i x hi hk hx ht
    obtain ⟨k, rfl⟩ : ∃ m, k = m + 1 := ⟨k - 1, by omega⟩
    simp only [laws_toIntS.l0]
    rw [if_neg (by omega), take_full hx rfl (by rw [show l.length = i by omega]; exact ht)]
  | succ d ih =>
    intro k i x hi hk hx ht
    obtain ⟨k, rfl⟩ : ∃ m, k = m + 1 := ⟨k - 1, by omega⟩
    simp only [laws_toIntS.l0]
    rw [if_pos (by omega), if_pos (by omega), if_pos (by omega), w64_succ i (by omega)]
    refine ih k (i + 1) _ (by omega) (by omega) (by simpa using hx) ?_
    rw [Int.toNat_natCast, take_set_succ _ _ _ (by omega), ht, rd_natD, ← take_succ_getD _ _ _ (by omega)]
theorem toIntS_ (k : Nat) (l : List Int) (hk : l.length < k) (hm : l.length ≤ 35184372088832) : laws_toIntS.f k l = some l := by
  unfold laws_toIntS.f
  rw [if_pos (by omega), if_pos (by simpa using hm)]
  exact toIntS_l0 l (by omega) l.length k 0 _ (by omega) hk (by simp) (by simp)
theorem eqIntS_l0 (a b : List Int) (hm : a.length ≤ 9223372036854775806) (hl : a.length = b.length) : ∀ (d k i : Nat), i + d = a.length → d < k → a.take i = b.take i → laws_eqIntS.l0 k a b (i : Int) = some (decide (a = b)) := by
  intro d
  induction d with
  | zero =>
    intro k i hi hk ht
    obtain ⟨k, rfl⟩ : ∃ m, k = m + 1 := ⟨k - 1, by omega⟩
    simp only [laws_eqIntS.l0]
    rw [if_neg (by omega)]
    simp [eq_of_drop hl (by omega) ht]
  | succ d ih =>
    intro k i hi hk ht
    obtain ⟨k, rfl⟩ : ∃ m, k = m + 1 := ⟨k - 1, by omega⟩
    simp only [laws_eqIntS.l0]
    rw [if_pos (by omega), if_pos (by omega), if_pos (by omega), rd_natD, rd_natD]
    by_cases e : a.getD i 0 = b.getD i 0
    · rw [if_pos e, w64_succ i (by omega)]
      exact ih k (i + 1) (by omega) (by omega) (by rw [take_succ_getD _ 0 _ (by omega), take_succ_getD _ 0 _ (by omega), ht, e])
    · rw [if_neg e]
      have : ¬ a = b := by rintro rfl; exact e rfl
      simp [this]
theorem eqIntS_ (k : Nat) (a b : List Int) (hk : a.length < k) (hm : a.length ≤ 9223372036854775806) : laws_eqIntS.f k a b = some (decide (a = b)) := by
  unfold laws_eqIntS.f
  by_cases h : (a.length : Int) = (b.length : Int)
  · rw [if_pos h]
    exact eqIntS_l0 a b hm (by omega) a.length k 0 (by omega) hk (by simp)
  · rw [if_neg h]
    have : ¬ a = b := by rintro rfl; exact h rfl
    simp [this]

theorem down_eq (a b : Int) (hb : 0 < b) : (if Int.tmod a b < 0 then Int.tdiv a b - 1 else Int.tdiv a b) = a / b := by
  have e1 := Int.tdiv_eq_ediv (a := a) (b := b)
  have e2 := Int.mul_tdiv_add_tmod a b
  have e3 := Int.mul_ediv_add_emod a b
  have e4 := Int.emod_nonneg a (show b ≠ 0 by omega)
  have e5 := Int.emod_lt_of_pos a hb
  have hs : b.sign = 1 := Int.sign_eq_one_of_pos hb
  rw [hs] at e1
  by_cases h : 0 ≤ a ∨ b ∣ a
  · rw [if_pos h, Int.add_zero] at e1
    rw [e1] at e2 ⊢
    rw [if_neg (by omega)]
  · rw [if_neg h] at e1
    rw [e1, Int.mul_add, Int.mul_one] at e2
    have : ¬ a % b = 0 := fun z => h (.inr (Int.dvd_of_emod_eq_zero z))
    rw [if_pos (by omega), e1]
    omega
theorem ediv_bd {a b m : Int} (hb : 0 < b) (h0 : -m ≤ a) (h1 : a ≤ m) (hm : 0 ≤ m) : -m ≤ a / b ∧ a / b ≤ m := by
  constructor
  · refine (Int.le_ediv_iff_mul_le hb).2 ?_
    have : (-m) * b ≤ (-m) * 1 := Int.mul_le_mul_of_nonpos_left (by omega) (by omega)
    omega
  · have h2 : a / b ≤ a / b * b ∨ a / b ≤ 0 := by
      rcases Int.lt_or_le 0 (a / b) with h | h
      · left
        have : a / b * 1 ≤ a / b * b := Int.mul_le_mul_of_nonneg_left (by omega) (by omega)
        omega
      · exact .inr h
    have := Int.ediv_mul_le a (show b ≠ 0 by omega)
    omega
theorem spec_down (a b : Int) (hb : 0 < b) (h0 : -4000000000 ≤ a) (h1 : a ≤ 4000000000) : spec_l01Down.f a b = some (a / b) := by
  have hd := ediv_bd hb h0 h1 (by omega)
  have he := down_eq a b hb
  unfold spec_l01Down.f
  rw [if_neg (by omega)]
  split at he
  · rename_i h
    rw [if_pos h, w64 (x := Int.tdiv a b) (by omega) (by omega), he, w64 (by omega) (by omega)]
  · rename_i h
    rw [if_neg h, he, w64 (by omega) (by omega)]
theorem impl_down_ (a b : Int) (hb : 0 < b) (h0 : -4000000000 ≤ a) (h1 : a ≤ 4000000000) : impl_down.f a b = some (a / b) := by
  have hd := ediv_bd hb h0 h1 (by omega)
  have he := down_eq a b hb
  unfold impl_down.f
  rw [if_neg (by omega)]
  split at he
  · rename_i h
    rw [if_pos h, w64 (x := Int.tdiv a b) (by omega) (by omega), he, w64 (by omega) (by omega)]
  · rename_i h
    rw [if_neg h, he, w64 (by omega) (by omega)]
def upN (a b : Int) : Int := max 1 (-(-a / b))
theorem spec_up (a b : Int) (hb : 0 < b) (h0 : -4000000000 ≤ a) (h1 : a ≤ 4000000000) : spec_l11Up.f a b = some (upN a b) := by
  have hd := ediv_bd (a := -a) (m := 4000000000) hb (by omega) (by omega) (by omega)
  unfold spec_l11Up.f upN
  rw [w64 (x := -a) (by omega) (by omega), spec_down _ b hb (by omega) (by omega)]
  simp only [Option.bind_some]
  rw [w64 (x := -(-a / b)) (by omega) (by omega)]
  split <;> congr 1 <;> omega
theorem impl_up_ (a b : Int) (hb : 0 < b) (h0 : -4000000000 ≤ a) (h1 : a ≤ 4000000000) : impl_up.f a b = some (-(-a / b)) := by
  have hd := ediv_bd (a := -a) (m := 4000000000) hb (by omega) (by omega) (by omega)
  unfold impl_up.f
  rw [w64 (x := -a) (by omega) (by omega), impl_down_ _ b hb (by omega) (by omega)]
  simp only [Option.bind_some]
  rw [w64 (x := -(-a / b)) (by omega) (by omega)]
theorem upN_bd (a b : Int) (hb : 0 < b) (h1 : a ≤ 4000000000) (h0 : 0 ≤ a) : 1 ≤ upN a b ∧ upN a b ≤ 4000000000 := by
  have hd := ediv_bd (a := -a) (m := 4000000000) hb (by omega) (by omega) (by omega)
  unfold upN
  omega
theorem mx_upN (a b : Int) : mx 1 (-(-a / b)) = upN a b := by unfold upN; rw [mx_eq]
theorem rng_bd {l : List Int} (h : l.all isR = true) : -1000000000 ≤ lst l 0 ∧ lst l 0 ≤ 0 ∧ 0 ≤ grt l 0 ∧ grt l 0 ≤ 1000000000 := by
  have hr : ∀ x ∈ l, -1000000000 ≤ x ∧ x ≤ 1000000000 := fun x hx => isR_iff.1 (List.all_eq_true.1 h x hx)
  exact ⟨lst_ge l 0 _ (by omega) (fun x hx => (hr x hx).1), (lst_le l 0).1, (grt_ge l 0).1, grt_le l 0 _ (by omega) (fun x hx => (hr x hx).2)⟩
theorem eqScale_ (a b c d : Int) : laws_eqScale.f a b c d = some (decide (a = c ∧ b = d)) := by
  unfold laws_eqScale.f
  split
  · split <;> simp_all
  · simp_all

def sNum (l : List Int) : Int := upN (grt l 0 - lst l 0) 255
def sZero (l : List Int) : Int := sat8 (-128 - lst l 0 / sNum l)
def okL (l : List Int) : Prop := (1 ≤ (l.length : Int) ∧ (l.length : Int) ≤ 300) ∧ l.all isR = true
instance (l : List Int) : Decidable (okL l) := by unfold okL; infer_instance
def sfor (l : List Int) : Int × Int × Bool := if okL l then (sNum l, sZero l, true) else (0, 0, false)
theorem rng_ok (l : List Int) : rng l = if okL l then (lst l 0, grt l 0, true) else (0, 0, false) := rfl
theorem sNum_bd {l : List Int} (h : okL l) : 1 ≤ sNum l ∧ sNum l ≤ 7843138 := by
  have hb := rng_bd h.2
  unfold sNum upN
  omega
theorem sZero_bd (l : List Int) : -128 ≤ sZero l ∧ sZero l ≤ 127 := sat8_bd _
theorem sOk_for {l : List Int} (h : okL l) : sOk (sNum l) (sZero l) = true := by
  have h1 := sNum_bd h
  have h2 := sZero_bd l
  exact sOk_iff.2 ⟨⟨by omega, by omega⟩, by omega, by omega⟩
theorem spec_sfor (k : Nat) (l : List Int) (hk : l.length + 1 < k) : spec_ScaleFor.f k l = some (sfor l) := by
  unfold spec_ScaleFor.f sfor
  simp only [spec_range k l (by omega), Option.bind_some, rng_ok]
  by_cases h : okL l
  · have hb := rng_bd h.2
    have hn := sNum_bd h
    have e : upN (grt l 0 - lst l 0) 255 = sNum l := rfl
    have hd := ediv_bd (a := lst l 0) (b := sNum l) (m := 1000000000) (by omega) (by omega) (by omega) (by omega)
    simp only [if_pos h, if_true]
    rw [w64 (x := grt l 0 - lst l 0) (by omega) (by omega), spec_up _ _ (by omega) (by omega) (by omega)]
    simp only [Option.bind_some, e]
    rw [spec_down _ _ (by omega) (by omega) (by omega)]
    simp only [Option.bind_some]
    rw [w64 (by omega) (by omega), spec_sat8 k (by omega)]
    rfl
  · simp only [if_neg h]; rfl
theorem impl_sfor (k : Nat) (l : List Int) (hk : l.length + 1 < k) : impl_ScaleFor.f k l = some (sfor l) := by
  unfold impl_ScaleFor.f sfor
  simp only [impl_range k l hk, Option.bind_some, rng_ok]
  by_cases h : okL l
  · have hb := rng_bd h.2
    have hn := sNum_bd h
    have e : upN (grt l 0 - lst l 0) 255 = sNum l := rfl
    have hd := ediv_bd (a := lst l 0) (b := sNum l) (m := 1000000000) (by omega) (by omega) (by omega) (by omega)
    simp only [if_pos h, if_true]
    rw [w64 (x := grt l 0 - lst l 0) (by omega) (by omega), impl_up_ _ _ (by omega) (by omega) (by omega)]
    simp only [Option.bind_some, mx_upN, e]
    rw [impl_down_ _ _ (by omega) (by omega) (by omega)]
    simp only [Option.bind_some]
    rw [w64 (by omega) (by omega), impl_sat8]
    rfl
  · simp only [if_neg h]; rfl


theorem FnExactScaleFor : laws_FnExactScaleFor.Pure := by
  intro l hl
  obtain ⟨k, hk⟩ : ∃ k : Nat, 2 * l.length + 2000000 ≤ k := ⟨_, Nat.le_refl _⟩
  refine ⟨k, ?_⟩
  unfold laws_FnExactScaleFor.f
  by_cases h : (l.length : Int) > 1048576
  · rw [if_pos h]
  · rw [if_neg h]

    simp only [toIntS_ k l (by omega) (by omega), spec_sfor k l (by omega), impl_sfor k l (by omega), eqIntS_ k l l (by omega) (by omega), eqScale_, Option.bind_some]
    simp

end Go.Proofs.Ytneeplpooamffaa.Pure
