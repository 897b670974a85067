/- What is left of the statement FnExactRealsOf once the Go functions are Lean functions: the program's RealsOf and the reference's answer alike. No condition. -/
import Derived.Test.YtneeplpooamffaaQFnExactRealsOfx7
import Derived.Test.YtneeplpooamffaaAid
set_option linter.unusedVariables false
set_option linter.unusedSimpArgs false
namespace Go.Proofs.Ytneeplpooamffaa.Pure
open Go.RowKit Go.Proofs.Ytneeplpooamffaa.QFnExactRealsOf Go.Proofs.YtneeplpooamffaaW.PrintWords Go.Proofs.YtneeplpooamffaaW.PrintLast Go.Proofs.YtneeplpooamffaaW.PrintMore Go.Proofs.YtneeplpooamffaaW.Aid


theorem spec_in (x lo hi : Int) : spec_l01In.f x lo hi = some (decide (lo ≤ x ∧ x ≤ hi)) := by
  unfold spec_l01In.f
  split
  · simp_all
  · simp; omega
theorem impl_in_ (x lo hi : Int) : impl_in.f x lo hi = some (decide (lo ≤ x ∧ x ≤ hi)) := by
  unfold impl_in.f
  split
  · simp_all
  · simp; omega

def sOk (n z : Int) : Bool := decide ((1 ≤ n ∧ n ≤ 1000000000) ∧ (-128 ≤ z ∧ z ≤ 127))
theorem sOk_iff {n z : Int} : sOk n z = true ↔ ((1 ≤ n ∧ n ≤ 1000000000) ∧ (-128 ≤ z ∧ z ≤ 127)) := by simp [sOk]

theorem spec_scaleOk (n z : Int) : spec_ScaleOk.f n z = some (sOk n z) := by
  unfold spec_ScaleOk.f spec_l02Int8.f
  simp only [spec_in, Option.bind_some]
  by_cases h : 1 ≤ n ∧ n ≤ 1000000000 <;> simp [sOk, h]
theorem impl_scaleOk (n z : Int) : impl_ScaleOk.f n z = some (sOk n z) := by
  unfold impl_ScaleOk.f
  simp only [impl_in_, Option.bind_some]
  by_cases h : 1 ≤ n ∧ n ≤ 1000000000 <;> simp [sOk, h]

def sat8 (x : Int) : Int := mx (-128) (mn x 127)
theorem sat8_bd (x : Int) : -128 ≤ sat8 x ∧ sat8 x ≤ 127 := by unfold sat8 mx mn; repeat' split <;> omega
theorem spec_clamp (k : Nat) (hk : 1 ≤ k) (x lo hi : Int) (h : lo ≤ hi) : spec_ClampTo.f k x lo hi = some (mx lo (mn x hi)) := by
  obtain ⟨k, rfl⟩ : ∃ m, k = m + 1 := ⟨k - 1, by omega⟩
  unfold spec_ClampTo.f
  simp only [spec_ClampTo.j0]
  unfold mx mn
  repeat' split
  all_goals simp_all
  all_goals omega
theorem spec_sat8 (k : Nat) (hk : 1 ≤ k) (x : Int) : spec_Sat8.f k x = some (sat8 x) := by
  unfold spec_Sat8.f
  rw [spec_clamp k hk x _ _ (by omega)]; rfl
theorem impl_sat8 (x : Int) : impl_Sat8.f x = some (sat8 x) := rfl

def from8 (q n z : Int) : Int := mx (-1000000000) (mn ((sat8 q - z) * n) 1000000000)
theorem mul_bd {a n : Int} (h0 : -255 ≤ a) (h1 : a ≤ 255) (n0 : 1 ≤ n) (n1 : n ≤ 1000000000) : -255000000000 ≤ a * n ∧ a * n ≤ 255000000000 := by
  have h2 : (-255) * n ≤ a * n := Int.mul_le_mul_of_nonneg_right h0 (by omega)
  have h3 : a * n ≤ 255 * n := Int.mul_le_mul_of_nonneg_right h1 (by omega)
  omega
theorem spec_from8 (k : Nat) (hk : 1 ≤ k) (q n z : Int) : spec_FromInt8.f k q n z = some (if sOk n z = true then from8 q n z else 0) := by
  unfold spec_FromInt8.f
  simp only [spec_scaleOk, Option.bind_some, spec_sat8 k hk]
  cases h : sOk n z with
  | false => rfl
  | true =>
    obtain ⟨⟨h1, h2⟩, h3, h4⟩ := sOk_iff.1 h
    have hb := sat8_bd q
    have hm := mul_bd (a := sat8 q - z) (n := n) (by omega) (by omega) h1 h2
    simp only [if_true]
    rw [w64 (x := sat8 q - z) (by omega) (by omega), w64 (by omega) (by omega), spec_clamp k hk _ _ _ (by omega)]
    rfl
theorem impl_from8_ (q n z : Int) (h : sOk n z = true) : impl_Scale_fromInt8.f n z q = some (from8 q n z) := by
  obtain ⟨⟨h1, h2⟩, h3, h4⟩ := sOk_iff.1 h
  have hb := sat8_bd q
  have hm := mul_bd (a := sat8 q - z) (n := n) (by omega) (by omega) h1 h2
  unfold impl_Scale_fromInt8.f
  simp only [impl_sat8, Option.bind_some]
  rw [w64 (x := sat8 q - z) (by omega) (by omega), w64 (by omega) (by omega)]
  rfl

theorem toIntS_l0 (l : List Int) (hm : l.length ≤ 9223372036854775806) : ∀ (d k i : Nat) (x : List Int), i + d = l.length → d < k → x.length = l.length → x.take i = l.take i → laws_toIntS.l0 k l x (i : Int) = some l := by
  intro d
  induction d with
  | zero =>
    intro k i x hi hk hx ht
    obtain ⟨k, rfl⟩ : ∃ m, k = m + 1 := ⟨k - 1, by omega⟩
    simp only [laws_toIntS.l0]
    rw [if_neg (by omega), take_full hx rfl (by rw [show l.length = i by omega]; exact ht)]
  | succ d ih =>
    intro k i x hi hk hx ht
    obtain ⟨k, rfl⟩ : ∃ m, k = m + 1 := ⟨k - 1, by omega⟩
    simp only [laws_toIntS.l0]
    rw [if_pos (by omega), if_pos (by omega), if_pos (by omega), w64_succ i (by omega)]
    refine ih k (i + 1) _ (by omega) (by omega) (by simpa using hx) ?_
    rw [Int.toNat_natCast, take_set_succ _ _ _ (by omega), ht, rd_natD, ← take_succ_getD _ _ _ (by omega)]
theorem toIntS_ (k : Nat) (l : List Int) (hk : l.length < k) (hm : l.length ≤ 35184372088832) : laws_toIntS.f k l = some l := by
  unfold laws_toIntS.f
  rw [if_pos (by omega), if_pos (by simpa using hm)]
  exact toIntS_l0 l (by omega) l.length k 0 _ (by omega) hk (by simp) (by simp)
theorem eqIntS_l0 (a b : List Int) (hm : a.length ≤ 9223372036854775806) (hl : a.length = b.length) : ∀ (d k i : Nat), i + d = a.length → d < k → a.take i = b.take i → laws_eqIntS.l0 k a b (i : Int) = some (decide (a = b)) := by
  intro d
  induction d with
  | zero =>
    intro k i hi hk ht
    obtain ⟨k, rfl⟩ : ∃ m, k = m + 1 := ⟨k - 1, by omega⟩
    simp only [laws_eqIntS.l0]
    rw [if_neg (by omega)]
    simp [eq_of_drop hl (by omega) ht]
  | succ d ih =>
    intro k i hi hk ht
    obtain ⟨k, rfl⟩ : ∃ m, k = m + 1 := ⟨k - 1, by omega⟩
    simp only [laws_eqIntS.l0]
    rw [if_pos (by omega), if_pos (by omega), if_pos (by omega), rd_natD, rd_natD]
    by_cases e : a.getD i 0 = b.getD i 0
    · rw [if_pos e, w64_succ i (by omega)]
      exact ih k (i + 1) (by omega) (by omega) (by rw [take_succ_getD _ 0 _ (by omega), take_succ_getD _ 0 _ (by omega), ht, e])
    · rw [if_neg e]
      have : ¬ a = b := by rintro rfl; exact e rfl
      simp [this]
theorem eqIntS_ (k : Nat) (a b : List Int) (hk : a.length < k) (hm : a.length ≤ 9223372036854775806) : laws_eqIntS.f k a b = some (decide (a = b)) := by
  unfold laws_eqIntS.f
  by_cases h : (a.length : Int) = (b.length : Int)
  · rw [if_pos h]
    exact eqIntS_l0 a b hm (by omega) a.length k 0 (by omega) hk (by simp)
  · rw [if_neg h]
    have : ¬ a = b := by rintro rfl; exact h rfl
    simp [this]
theorem eqIntS_s (k : Nat) (a : List Int) (hk : a.length < k) (hm : a.length ≤ 9223372036854775806) : laws_eqIntS.f k a a = some true := by
  rw [eqIntS_ k a a hk hm]; simp

theorem markIntS_l0 (n : Nat) (m0 : Int) (h0 : 0 ≤ m0) (h1 : m0 + n ≤ 9223372036854775806) : ∀ (d k i : Nat) (x : List Int), i + d = n → d < k → x.length = n → x.take i = marks m0 i → laws_markIntS.l0 k x (m0 + i) (i : Int) = some (m0 + n, marks m0 n) := by
  intro d
  induction d with
  | zero =>
    intro k i x hi hk hx ht
    obtain ⟨k, rfl⟩ : ∃ m, k = m + 1 := ⟨k - 1, by omega⟩
    simp only [laws_markIntS.l0]
    rw [if_neg (by omega), show i = n by omega]
    rw [show i = n by omega, List.take_of_length_le (by omega)] at ht
    rw [ht]
  | succ d ih =>
    intro k i x hi hk hx ht
    obtain ⟨k, rfl⟩ : ∃ m, k = m + 1 := ⟨k - 1, by omega⟩
    simp only [laws_markIntS.l0]
    rw [if_pos (by omega), if_pos (by omega), w64_succ i (by omega), w64 (x := m0 + i + 1) (by omega) (by omega)]
    have := ih k (i + 1) (x.set i (m0 + i)) (by omega) (by omega) (by simpa using hx) (by rw [take_set_succ _ _ _ (by omega), ht, marks_snoc])
    rw [show m0 + ((i + 1 : Nat) : Int) = m0 + i + 1 by omega] at this
    simpa using this
theorem markIntS_ (k : Nat) (l : List Int) (m : Int) (hk : l.length < k) (h0 : 0 ≤ m) (h1 : m + l.length ≤ 9223372036854775806) : laws_markIntS.f k l m = some (m + l.length, marks m l.length) := by
  unfold laws_markIntS.f
  have := markIntS_l0 l.length m h0 h1 l.length k 0 l (by omega) hk rfl (by simp [marks])
  simpa using this
theorem heldIntS_l0 (n : Nat) (m0 : Int) (h0 : 0 ≤ m0) (h1 : m0 + n ≤ 9223372036854775806) : ∀ (d k i : Nat), i + d = n → d < k → laws_heldIntS.l0 k (marks m0 n) (m0 + i) (i : Int) = some (m0 + n) := by
  intro d
  induction d with
  | zero =>
    intro k i hi hk
    obtain ⟨k, rfl⟩ : ∃ m, k = m + 1 := ⟨k - 1, by omega⟩
    simp only [laws_heldIntS.l0]
    rw [if_neg (by rw [marks_length]; omega), show i = n by omega]
  | succ d ih =>
    intro k i hi hk
    obtain ⟨k, rfl⟩ : ∃ m, k = m + 1 := ⟨k - 1, by omega⟩
    simp only [laws_heldIntS.l0]
    rw [if_pos (by rw [marks_length]; omega), if_pos (by omega), rd_natD, marks_getD _ _ _ (by omega), if_pos rfl, w64_succ i (by omega), w64 (x := m0 + i + 1) (by omega) (by omega)]
    have := ih k (i + 1) (by omega) (by omega)
    rwa [show m0 + ((i + 1 : Nat) : Int) = m0 + i + 1 by omega] at this
theorem heldIntS_ (k : Nat) (n : Nat) (m : Int) (hk : n < k) (h0 : 0 ≤ m) (h1 : m + n ≤ 9223372036854775806) : laws_heldIntS.f k (marks m n) m = some (m + n) := by
  unfold laws_heldIntS.f
  have := heldIntS_l0 n m h0 h1 n k 0 (by omega) hk
  simpa using this

def shOk (h w c : Int) : Bool := decide ((1 ≤ h ∧ h ≤ 8) ∧ (1 ≤ w ∧ w ≤ 8) ∧ (1 ≤ c ∧ c ≤ 8))
theorem shOk_iff {h w c : Int} : shOk h w c = true ↔ ((1 ≤ h ∧ h ≤ 8) ∧ (1 ≤ w ∧ w ≤ 8) ∧ (1 ≤ c ∧ c ≤ 8)) := by simp [shOk]
theorem spec_shapeOk (h w c : Int) : spec_ShapeOk.f h w c = some (shOk h w c) := by
  unfold spec_ShapeOk.f
  simp only [spec_in, Option.bind_some]
  by_cases h1 : 1 ≤ h ∧ h ≤ 8 <;> by_cases h2 : 1 ≤ w ∧ w ≤ 8 <;> simp [shOk, h1, h2]
theorem impl_shapeOk (h w c : Int) : impl_ShapeOk.f h w c = some (shOk h w c) := by
  unfold impl_ShapeOk.f
  simp only [impl_in_, Option.bind_some]
  by_cases h1 : 1 ≤ h ∧ h ≤ 8 <;> by_cases h2 : 1 ≤ w ∧ w ≤ 8 <;> simp [shOk, h1, h2]
def szN (h w c : Int) : Int := if shOk h w c = true then h * w * c else 0
theorem prod_bd {h w c : Int} (hs : shOk h w c = true) : (1 ≤ h * w ∧ h * w ≤ 64) ∧ 1 ≤ h * w * c ∧ h * w * c ≤ 512 := by
  obtain ⟨⟨a, b⟩, ⟨d, e⟩, f, g⟩ := shOk_iff.1 hs
  have h1 : 1 * w ≤ h * w := Int.mul_le_mul_of_nonneg_right a (by omega)
  have h2 : h * w ≤ 8 * w := Int.mul_le_mul_of_nonneg_right b (by omega)
  have h3 : h * w * 1 ≤ h * w * c := Int.mul_le_mul_of_nonneg_left f (by omega)
  have h4 : h * w * c ≤ h * w * 8 := Int.mul_le_mul_of_nonneg_left g (by omega)
  omega
theorem spec_sizeOf_ (h w c : Int) : spec_SizeOf.f h w c = some (szN h w c) := by
  unfold spec_SizeOf.f szN
  simp only [spec_shapeOk, Option.bind_some]
  split
  · rename_i hs
    have := prod_bd hs
    rw [w64 (x := h * w) (by omega) (by omega), w64 (by omega) (by omega)]
  · rfl
theorem impl_sizeOf_ (h w c : Int) : impl_SizeOf.f h w c = some (szN h w c) := by
  unfold impl_SizeOf.f szN
  simp only [impl_shapeOk, Option.bind_some]
  split
  · rename_i hs
    have := prod_bd hs
    rw [w64 (x := h * w) (by omega) (by omega), w64 (by omega) (by omega)]
  · rfl
def is8 (x : Int) : Bool := decide (-128 ≤ x ∧ x ≤ 127)
def tOk (h w c : Int) (l : List Int) : Bool := shOk h w c && (decide ((l.length : Int) = szN h w c) && l.all is8)
theorem spec_int8 (x : Int) : spec_l02Int8.f x = some (is8 x) := by unfold spec_l02Int8.f; rw [spec_in]; rfl
theorem all_drop8 (l : List Int) (i : Nat) (h : i < l.length) : (l.drop i).all is8 = (is8 (l.getD i 0) && (l.drop (i + 1)).all is8) := by
  rw [drop_getD l 0 i h]; rfl
theorem spec_tOk_l0 (h w c : Int) (l : List Int) (hm : l.length ≤ 9223372036854775806) : ∀ (d k i : Nat), i + d = l.length → d < k → spec_TensorOk.l0 k (i : Int) h w c l = some ((l.drop i).all is8) := by
  intro d
  induction d with
  | zero =>
    intro k i hi hk
    obtain ⟨k, rfl⟩ : ∃ m, k = m + 1 := ⟨k - 1, by omega⟩
    simp only [spec_TensorOk.l0]
    rw [if_neg (by omega), List.drop_of_length_le (by omega)]
    rfl
  | succ d ih =>
    intro k i hi hk
    obtain ⟨k, rfl⟩ : ∃ m, k = m + 1 := ⟨k - 1, by omega⟩
    simp only [spec_TensorOk.l0]
    rw [if_pos (by omega), if_pos (by omega), all_drop8 l i (by omega), w64_succ i (by omega), ih k (i + 1) (by omega) (by omega)]
    simp only [spec_int8, Option.bind_some, rd_natD]
    cases is8 (l.getD i 0) <;> simp
theorem spec_tOk (k : Nat) (h w c : Int) (l : List Int) (hm : l.length ≤ 9223372036854775806) (hk : l.length + 1 < k) : spec_TensorOk.f k h w c l = some (tOk h w c l) := by
  obtain ⟨k, rfl⟩ : ∃ m, k = m + 1 := ⟨k - 1, by omega⟩
  unfold spec_TensorOk.f tOk
  simp only [spec_shapeOk, spec_sizeOf_, Option.bind_some, spec_TensorOk.j0]
  cases shOk h w c with
  | false => simp
  | true =>
    have := spec_tOk_l0 h w c l hm l.length k 0 (by omega) (by omega)
    simp only [if_true, Bool.true_and]
    by_cases e : (l.length : Int) = szN h w c
    · rw [if_neg (by simp [e])]
      simpa [e] using this
    · rw [if_pos (by simp [e])]
      simp [e]
theorem area_l0 (l : List Int) (hm : l.length ≤ 9223372036854775806) : ∀ (d k i : Nat), i + d = l.length → d < k →
    ∃ r, slices_IndexFunc_int_int_at_86.l0 k l (l.length : Int) (i : Int) = some r ∧ (0 ≤ r ↔ (l.drop i).all is8 = false) := by
  intro d
  induction d with
  | zero =>
    intro k i hi hk
    obtain ⟨k, rfl⟩ : ∃ m, k = m + 1 := ⟨k - 1, by omega⟩
    simp only [slices_IndexFunc_int_int_at_86.l0]
    rw [if_neg (by omega), List.drop_of_length_le (by omega)]
    exact ⟨-1, rfl, by simp⟩
  | succ d ih =>
    intro k i hi hk
    obtain ⟨k, rfl⟩ : ∃ m, k = m + 1 := ⟨k - 1, by omega⟩
    simp only [slices_IndexFunc_int_int_at_86.l0]
    rw [if_pos (by omega), if_pos (by omega), if_pos (by omega), all_drop8 l i (by omega)]
    unfold impl_areItems_1.f
    simp only [impl_in_, Option.bind_some, rd_natD]
    cases hr : is8 (l.getD i 0) with
    | false =>
      have : ¬ (-128 ≤ l.getD i 0 ∧ l.getD i 0 ≤ 127) := by simpa [is8] using hr
      exact ⟨i, by simp only [this]; simp, by simp⟩
    | true =>
      have : (-128 ≤ l.getD i 0 ∧ l.getD i 0 ≤ 127) := by simpa [is8] using hr
      obtain ⟨r, h1, h2⟩ := ih k (i + 1) (by omega) (by omega)
      refine ⟨r, ?_, by simpa using h2⟩
      rw [w64_succ i (by omega)]
      simp only [this, and_self]
      simpa using h1
theorem impl_area (k : Nat) (l : List Int) (hm : l.length ≤ 9223372036854775806) (hk : l.length < k) : impl_areItems.f k l = some (l.all is8) := by
  obtain ⟨r, h1, h2⟩ := area_l0 l hm l.length k 0 (by omega) hk
  have h1' : slices_IndexFunc_int_int_at_86.f k l = some r := h1
  unfold impl_areItems.f slices_ContainsFunc_int_int_at_86.f
  rw [h1']
  rw [List.drop_zero] at h2
  simp only [Option.bind_some]
  cases ha : l.all is8 with
  | false => rw [ha] at h2; have := h2.2 rfl; simp [this]
  | true => rw [ha] at h2; have : ¬ 0 ≤ r := fun z => absurd (h2.1 z) (by simp); simp; omega
theorem impl_tOk (k : Nat) (h w c : Int) (l : List Int) (hm : l.length ≤ 9223372036854775806) (hk : l.length < k) : impl_TensorOk.f k h w c l = some (tOk h w c l) := by
  unfold impl_TensorOk.f tOk
  simp only [impl_shapeOk, impl_sizeOf_, Option.bind_some, impl_area k l hm hk]
  cases shOk h w c with
  | false => simp
  | true =>
    simp only [if_true, Bool.true_and]
    by_cases e : (l.length : Int) = szN h w c
    · rw [if_pos e]; simp [e]
    · rw [if_neg e]; simp [e]
theorem tOk_len {h w c : Int} {l : List Int} (ht : tOk h w c l = true) : l.length ≤ 512 := by
  simp only [tOk, Bool.and_eq_true, decide_eq_true_eq] at ht
  have := prod_bd ht.1
  have e : szN h w c = h * w * c := by unfold szN; rw [if_pos ht.1]
  omega

theorem szIntS_ (l : List Int) (a : Int) (h0 : -1 ≤ a) (h1 : a ≤ 1048576) (hm : l.length ≤ 9223372036854775807) : laws_szIntS.f l a = some (if a - l.length < 0 then -1 else a - l.length) := by
  unfold laws_szIntS.f
  rw [w64 (x := a - l.length) (by omega) (by omega)]
  split <;> rfl
theorem szTensor_ (h w c : Int) (l : List Int) (a : Int) (h0 : -1 ≤ a) (h1 : a ≤ 1048576) (hm : l.length ≤ 9223372036854775807) : laws_szTensor.f h w c l a = some (if a - l.length < 0 then -1 else a - l.length) := by
  unfold laws_szTensor.f
  rw [szIntS_ l a h0 h1 hm]
  simp only [Option.bind_some]
  split <;> (try split) <;> (try rfl) <;> omega
theorem toTensor_ (k : Nat) (h w c : Int) (l : List Int) (hk : l.length < k) (hm : l.length ≤ 35184372088832) : laws_toTensor.f k h w c l = some (h, w, c, l) := by
  unfold laws_toTensor.f laws_toShape.f
  simp only [toIntS_ k l hk hm, Option.bind_some]
theorem eqShape_ (a b c d e f : Int) : laws_eqShape.f a b c d e f = some (decide (a = d ∧ b = e ∧ c = f)) := by
  unfold laws_eqShape.f
  by_cases h1 : a = d <;> by_cases h2 : b = e <;> by_cases h3 : c = f <;> simp [h1, h2, h3]
theorem eqTensor_ (k : Nat) (a b c : Int) (l : List Int) (d e f : Int) (m : List Int) (hk : l.length < k) (hm : l.length ≤ 9223372036854775806) : laws_eqTensor.f k a b c l d e f m = some (decide ((a = d ∧ b = e ∧ c = f) ∧ l = m)) := by
  unfold laws_eqTensor.f
  simp only [eqShape_, eqIntS_ k l m hk hm, Option.bind_some]
  by_cases h1 : (a = d ∧ b = e ∧ c = f) <;> by_cases h2 : l = m <;> simp [h1, h2]
theorem eqTensor_s (k : Nat) (a b c : Int) (l : List Int) (hk : l.length < k) (hm : l.length ≤ 9223372036854775806) : laws_eqTensor.f k a b c l a b c l = some true := by
  rw [eqTensor_ k a b c l a b c l hk hm]; simp
theorem toScale_ (n z : Int) : laws_toScale.f n z = some (n, z) := rfl

theorem markTensor_ (k : Nat) (h w c : Int) (l : List Int) (m : Int) (hk : l.length < k) (h0 : 0 ≤ m) (h1 : m + l.length ≤ 9223372036854775806) : laws_markTensor.f k h w c l m = some (m + l.length, marks m l.length) := by
  unfold laws_markTensor.f
  simp only [markIntS_ k l m hk h0 h1, Option.bind_some]

def reals (n z : Int) (l : List Int) : List Int := l.map (fun q => from8 q n z)
def realsE (h w c : Int) (l : List Int) (n z : Int) : List Int := if tOk h w c l = true ∧ sOk n z = true then reals n z l else []
theorem reals_take (n z : Int) (l : List Int) (i : Nat) (h : i < l.length) : reals n z (l.take (i + 1)) = reals n z (l.take i) ++ [from8 (l.getD i 0) n z] := by
  rw [take_succ_getD l 0 i h]; simp [reals]
theorem spec_reals_l0 (h w c : Int) (l : List Int) (n z : Int) (hm : l.length ≤ 512) (hs : sOk n z = true) : ∀ (d k i : Nat), i + d = l.length → d + 1 < k →
    spec_RealsOf.l0 k (reals n z (l.take i)) (i : Int) h w c l n z = some (reals n z l) := by
  intro d
  induction d with
  | zero =>
    intro k i hi hk
    obtain ⟨k, rfl⟩ : ∃ m, k = m + 1 := ⟨k - 1, by omega⟩
    simp only [spec_RealsOf.l0]
    rw [if_neg (by omega), List.take_of_length_le (by omega)]
  | succ d ih =>
    intro k i hi hk
    obtain ⟨k, rfl⟩ : ∃ m, k = m + 1 := ⟨k - 1, by omega⟩
    simp only [spec_RealsOf.l0]
    rw [if_pos (by omega), if_pos (by omega)]
    simp only [rd_natD, spec_from8 k (by omega), hs, if_true, Option.bind_some]
    rw [if_pos (by simp [reals]; omega), w64_succ i (by omega), ← reals_take n z l i (by omega)]
    exact ih k (i + 1) (by omega) (by omega)
theorem spec_reals (k : Nat) (h w c : Int) (l : List Int) (n z : Int) (hm : l.length ≤ 9223372036854775806) (hk : l.length + 3 < k) : spec_RealsOf.f k h w c l n z = some (realsE h w c l n z) := by
  obtain ⟨k, rfl⟩ : ∃ m, k = m + 1 := ⟨k - 1, by omega⟩
  unfold spec_RealsOf.f realsE
  simp only [spec_tOk (k + 1) h w c l hm (by omega), spec_scaleOk, Option.bind_some, spec_RealsOf.j0]
  cases ht : tOk h w c l with
  | false => simp
  | true =>
    cases hs : sOk n z with
    | false => simp
    | true =>
      have := spec_reals_l0 h w c l n z (tOk_len ht) hs l.length k 0 (by omega) (by omega)
      simpa [reals] using this
theorem impl_reals_l0 (l : List Int) (n z : Int) (hm : l.length ≤ 512) (hs : sOk n z = true) : ∀ (d k i : Nat), i + d = l.length → d + 1 < k →
    impl_RealsOf.l0 k (reals n z (l.take i)) l (l.length : Int) (i : Int) n z = some (reals n z l) := by
  intro d
  induction d with
  | zero =>
    intro k i hi hk
    obtain ⟨k, rfl⟩ : ∃ m, k = m + 1 := ⟨k - 1, by omega⟩
    simp only [impl_RealsOf.l0]
    rw [if_neg (by omega), List.take_of_length_le (by omega)]
  | succ d ih =>
    intro k i hi hk
    obtain ⟨k, rfl⟩ : ∃ m, k = m + 1 := ⟨k - 1, by omega⟩
    simp only [impl_RealsOf.l0]
    rw [if_pos (by omega), if_pos (by omega), if_pos (by omega)]
    simp only [rd_natD, impl_from8_ _ n z hs, Option.bind_some]
    rw [if_pos (by simp [reals]; omega), w64_succ i (by omega), ← reals_take n z l i (by omega)]
    exact ih k (i + 1) (by omega) (by omega)
theorem impl_reals (k : Nat) (h w c : Int) (l : List Int) (n z : Int) (hm : l.length ≤ 9223372036854775806) (hk : l.length + 3 < k) : impl_RealsOf.f k h w c l n z = some (realsE h w c l n z) := by
  obtain ⟨k, rfl⟩ : ∃ m, k = m + 1 := ⟨k - 1, by omega⟩
  unfold impl_RealsOf.f realsE
  simp only [impl_tOk (k + 1) h w c l hm (by omega), impl_scaleOk, Option.bind_some, impl_RealsOf.j0]
  cases ht : tOk h w c l with
  | false => simp
  | true =>
    cases hs : sOk n z with
    | false => simp
    | true =>
      have := impl_reals_l0 l n z (tOk_len ht) hs l.length k 0 (by omega) (by omega)
      simpa [reals] using this
theorem realsE_len (h w c : Int) (l : List Int) (n z : Int) : (realsE h w c l n z).length ≤ 512 := by
  unfold realsE
  split
  · rename_i hh
    have := tOk_len hh.1
    simpa [reals] using this
  · simp


theorem FnExactRealsOf : laws_FnExactRealsOf.Pure := by
  intro h w c l n z _ _ _ hl _ _
  have hm : l.length ≤ 9223372036854775807 := hl.1
  obtain ⟨k, hk⟩ : ∃ k : Nat, l.length + 2000000 ≤ k := ⟨_, Nat.le_refl _⟩
  refine ⟨k + 1, ?_⟩
  unfold laws_FnExactRealsOf.f
  rw [szTensor_ h w c l _ (by omega) (by omega) hm]
  simp only [Option.bind_some]
  by_cases hs : (1048576 : Int) - l.length < 0
  · rw [if_pos hs]; rfl
  · rw [if_neg hs, if_neg hs]
    have hr := realsE_len h w c l n z
    repeat (first
      | (refine st (toTensor_ _ _ _ _ _ (by omega) (by omega)) ?_; (try dsimp only))
      | (refine st (toScale_ _ _) ?_; (try dsimp only))
      | (refine st (spec_reals _ _ _ _ _ _ _ (by omega) (by omega)) ?_; (try dsimp only))
      | (refine st (impl_reals _ _ _ _ _ _ _ (by omega) (by omega)) ?_; (try dsimp only))
      | (refine st (eqIntS_s _ _ (by omega) (by omega)) ?_; (try dsimp only))
      | (refine st (eqTensor_s _ _ _ _ _ (by omega) (by omega)) ?_; (try dsimp only))
      | (refine st (markTensor_ _ _ _ _ _ _ (by omega) (by omega) (by omega)) ?_; (try dsimp only))
      | (refine st (markIntS_ _ _ _ (by omega) (by omega) (by omega)) ?_; (try dsimp only))
      | (refine st (heldIntS_ _ _ _ (by omega) (by omega) (by omega)) ?_; (try dsimp only))
      | rw [laws_FnExactRealsOf.j0]
      | refine ifp rfl ?_
      | refine ifn (by omega) ?_
      | refine ifp (by omega) ?_
      | refine ifn (by simp) ?_
      | refine ifp (by simp) ?_
      | rfl)

end Go.Proofs.Ytneeplpooamffaa.Pure
