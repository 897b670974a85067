/- What is left of the statement FnExactSameOutputs once the Go functions are Lean functions: the program's SameOutputs and the reference's answer alike. No condition. -/
import Derived.Test.YtoggdgahfagegaaQFnExactSameOutputsx7
import Derived.Test.YtoggdgahfagegaaAid
set_option linter.unusedVariables false
set_option linter.unusedSimpArgs false
namespace Go.Proofs.Ytoggdgahfagegaa.Pure
open Go.RowKit Go.Proofs.Ytoggdgahfagegaa.QFnExactSameOutputs Go.Proofs.YtoggdgahfagegaaW.PrintWords Go.Proofs.YtoggdgahfagegaaW.PrintLast Go.Proofs.YtoggdgahfagegaaW.PrintMore Go.Proofs.YtoggdgahfagegaaW.Aid


theorem spec_in (x lo hi : Int) : spec_l01In.f x lo hi = some (decide (lo ≤ x ∧ x ≤ hi)) := by
  unfold spec_l01In.f
  split
  · simp_all
  · simp; omega
theorem impl_in_ (x lo hi : Int) : impl_in.f x lo hi = some (decide (lo ≤ x ∧ x ≤ hi)) := by
  unfold impl_in.f
  split
  · simp_all
  · simp; omega

def LB {α : Type} (P : α → Prop) (l : List α) : Prop := l.length ≤ 1048576 ∧ ∀ x ∈ l, P x
theorem LB.map {α β : Type} {P : α → Prop} {Q : β → Prop} {f : α → β} {l : List α} (hf : ∀ x, P x → Q (f x)) (h : LB P l) : LB Q (l.map f) := ⟨by simpa using h.1, fun y hy => by obtain ⟨x, hx, rfl⟩ := List.mem_map.1 hy; exact hf x (h.2 x hx)⟩
theorem map_getD {α β : Type} (f : α → β) (l : List α) (i : Nat) (h : i < l.length) (d : α) (d' : β) : (l.map f).getD i d' = f (l.getD i d) := by simp [h]
theorem szIntS_ {W : Int → Prop} (l : List (Int)) (a : Int) (hw : WL W l) (h0 : 0 ≤ a) (h1 : a ≤ 1048576) : ∃ r, laws_szIntS.f l a = some r ∧ (r < 0 ∨ (0 ≤ r ∧ r ≤ a ∧ LB (fun _ => True) l)) := by
  have hm : l.length ≤ 9223372036854775807 := hw.1
  have he : wrap64 (a - (l.length : Int)) = a - l.length := w64 (by omega) (by omega)
  unfold laws_szIntS.f
  rw [he]
  by_cases h : a - (l.length : Int) < 0
  · exact ⟨-1, if_pos h, Or.inl (by omega)⟩
  · rw [if_neg h]
    exact ⟨_, rfl, Or.inr ⟨by omega, by omega, by omega, fun _ _ => trivial⟩⟩
theorem szTensor_ {Wl0_3 : Int → Prop} (a0_0 : Int) (a0_1 : Int) (a0_2 : Int) (l0_3 : List (Int)) (a1 : Int) (wl0_3 : WL Wl0_3 l0_3) (h0 : 0 ≤ a1) (h1 : a1 ≤ 1048576) : ∃ r, laws_szTensor.f a0_0 a0_1 a0_2 l0_3 a1 = some r ∧ (r < 0 ∨ (0 ≤ r ∧ r ≤ a1 ∧ LB (fun _ => True) l0_3)) := by
  unfold laws_szTensor.f
  obtain ⟨r1, e1, g1⟩ := szIntS_ l0_3 a1 wl0_3 (by omega) (by omega)
  rw [e1]
  simp only [Option.bind_some]
  rcases g1 with g1 | ⟨p1, u1, g1⟩
  · exact ⟨-1, if_pos g1, Or.inl (by omega)⟩
  rw [if_neg (by omega)]
  exact ⟨r1, rfl, Or.inr ⟨by omega, by omega, g1⟩⟩
def Ok72 (x : S72) : Prop := (LB (fun _ => True)) x.f1
theorem szTensorS_l0 (l : List (S72)) (hw : WL Wt72 l) (hm : l.length ≤ 1048576) : ∀ (d k i : Nat) (a : Int), i + d = l.length → d + 1048580 < k → 0 ≤ a → a ≤ 1048576 → ∃ r, laws_szTensorS.l0 k l a (i : Int) = some r ∧ (r < 0 ∨ (0 ≤ r ∧ r ≤ a ∧ ∀ x ∈ l.drop i, Ok72 x)) := by
  intro d
  induction d with
  | zero =>
    intro k i a hi hk h0 h1
    obtain ⟨k, rfl⟩ : ∃ m, k = m + 1 := ⟨k - 1, by omega⟩
    simp only [laws_szTensorS.l0]
    rw [if_neg (by omega), List.drop_of_length_le (by omega)]
    exact ⟨a, rfl, Or.inr ⟨h0, Int.le_refl _, fun x hx => absurd hx (by simp)⟩⟩
  | succ d ih =>
    intro k i a hi hk h0 h1
    obtain ⟨k, rfl⟩ : ∃ m, k = m + 1 := ⟨k - 1, by omega⟩
    have hx := hw.2 _ (mem_getD l z72 i (by omega))
    have hw0 : (WL (WI .i64)) (l.getD i z72).f1 := hx.2
    simp only [laws_szTensorS.l0, rd_L2, rd_L6, rd_T70, rd_T72, rd_T75, rd_T77, Int.toNat_natCast]
    rw [if_pos (by omega), if_pos (by omega)]
    obtain ⟨r, e, h⟩ := szTensor_ (l.getD i z72).f0.f0 (l.getD i z72).f0.f1 (l.getD i z72).f0.f2 (l.getD i z72).f1 a hw0 h0 h1
    rw [e]
    simp only [Option.bind_some]
    rcases h with h | ⟨h1, h2, h3⟩
    · exact ⟨-1, if_pos h, Or.inl (by omega)⟩
    · rw [if_neg (by omega), w64_succ i (by omega)]
      obtain ⟨r', e', h'⟩ := ih k (i + 1) r (by omega) (by omega) h1 (by omega)
      refine ⟨r', e', ?_⟩
      rcases h' with h' | ⟨a1, a2, a3⟩
      · exact Or.inl h'
      · refine Or.inr ⟨a1, by omega, ?_⟩
        rw [drop_getD l z72 i (by omega)]
        intro x hx
        rcases List.mem_cons.1 hx with rfl | hx
        · exact h3
        · exact a3 x hx
theorem szTensorS_ (k : Nat) (l : List (S72)) (a : Int) (hw : WL Wt72 l) (h0 : 0 ≤ a) (h1 : a ≤ 1048576) (hk : 2097160 ≤ k) : ∃ r, laws_szTensorS.f k l a = some r ∧ (r < 0 ∨ (0 ≤ r ∧ r ≤ a ∧ LB Ok72 l)) := by
  have hm : l.length ≤ 9223372036854775807 := hw.1
  have he : wrap64 (a - (l.length : Int)) = a - l.length := w64 (by omega) (by omega)
  unfold laws_szTensorS.f
  rw [he]
  by_cases h : a - (l.length : Int) < 0
  · exact ⟨-1, if_pos h, Or.inl (by omega)⟩
  · rw [if_neg h]
    obtain ⟨r, e, h2⟩ := szTensorS_l0 l hw (by omega) l.length k 0 (a - l.length) (by omega) (by omega) (by omega) (by omega)
    refine ⟨r, e, ?_⟩
    rcases h2 with h2 | ⟨a1, a2, a3⟩
    · exact Or.inl h2
    · exact Or.inr ⟨a1, by omega, by omega, by simpa using a3⟩
theorem toIntS_l0 (l : List (Int)) (ho : LB (fun _ => True) l) : ∀ (d k i : Nat) (y : List (Int)), i + d = l.length → d + 0 < k → y.length = l.length → y.take i = l.take i → laws_toIntS.l0 k l y (i : Int) = some l := by
  have hm := ho.1
  have hc : l.length = l.length := by rfl
  intro d
  induction d with
  | zero =>
    intro k i y hi hk hy ht
    obtain ⟨k, rfl⟩ : ∃ m, k = m + 1 := ⟨k - 1, by omega⟩
    simp only [laws_toIntS.l0]
    rw [if_neg (by omega), take_full hy hc (by rw [show l.length = i by omega]; exact ht)]
  | succ d ih =>
    intro k i y hi hk hy ht
    obtain ⟨k, rfl⟩ : ∃ m, k = m + 1 := ⟨k - 1, by omega⟩
    have hx := ho.2 _ (mem_getD l 0 i (by omega))
    simp only [laws_toIntS.l0, rd_L2, rd_L6, rd_T70, rd_T72, rd_T75, rd_T77, rd_natD, Int.toNat_natCast]
    repeat (first | refine ifp rfl ?_ | refine ifp (by omega) ?_ | refine ifp (by simp) ?_ | refine ifn (by simp) ?_)
    rw [w64_succ i (by omega)]
    refine ih k (i + 1) _ (by omega) (by omega) (by simpa using hy) ?_
    rw [take_set_succ _ _ _ (by omega), ht, take_succ_getD l 0 i (by omega)]
theorem toIntS_ (k : Nat) (l : List (Int)) (ho : LB (fun _ => True) l) (hk : 1048580 ≤ k) : laws_toIntS.f k l = some l := by
  have hm := ho.1
  unfold laws_toIntS.f
  rw [if_pos (by omega), if_pos (by simp; omega)]
  exact toIntS_l0 l ho l.length k 0 _ (by omega) (by omega) (by simp) (by simp)
theorem toShape_ (a0_0 : Int) (a0_1 : Int) (a0_2 : Int) : laws_toShape.f a0_0 a0_1 a0_2 = some (a0_0, a0_1, a0_2) := by
  unfold laws_toShape.f
  repeat (first | refine ifp rfl ?_ | refine ifp (by omega) ?_ | refine ifp (by simp) ?_ | refine ifn (by simp) ?_ | rfl)
theorem toTensor_ (k : Nat) (a0_0 : Int) (a0_1 : Int) (a0_2 : Int) (l0_3 : List (Int)) (hl0_3 : LB (fun _ => True) l0_3) (hk : 1048580 ≤ k) : laws_toTensor.f k a0_0 a0_1 a0_2 l0_3 = some (a0_0, a0_1, a0_2, l0_3) := by
  unfold laws_toTensor.f
  repeat (first | (refine st (toShape_ _ _ _) ?_; (try dsimp only)) | (refine st (toIntS_ _ _ (by assumption) (by omega)) ?_; (try dsimp only)) | refine ifp rfl ?_ | refine ifp (by omega) ?_ | refine ifp (by simp) ?_ | refine ifn (by simp) ?_ | rfl)
def cv70_75 (x : S70) : S75 := ⟨x.f0, x.f1, x.f2⟩
def Ok70 (x : S70) : Prop := True
def Ok75 (x : S75) : Prop := True
theorem ok_cv70_75 (x : S70) (h : Ok70 x) : Ok75 (cv70_75 x) := trivial
def cv72_77 (x : S72) : S77 := ⟨(cv70_75 x.f0), x.f1⟩
def Ok77 (x : S77) : Prop := (LB (fun _ => True)) x.f1
theorem ok_cv72_77 (x : S72) (h : Ok72 x) : Ok77 (cv72_77 x) := h
theorem toTensorS_l0 (l : List (S72)) (ho : LB Ok72 l) : ∀ (d k i : Nat) (y : List (S77)), i + d = l.length → d + 1048580 < k → y.length = l.length → y.take i = (l.map cv72_77).take i → laws_toTensorS.l0 k l y (i : Int) = some (l.map cv72_77) := by
  have hm := ho.1
  have hc : (l.map cv72_77).length = l.length := by simp
  intro d
  induction d with
  | zero =>
    intro k i y hi hk hy ht
    obtain ⟨k, rfl⟩ : ∃ m, k = m + 1 := ⟨k - 1, by omega⟩
    simp only [laws_toTensorS.l0]
    rw [if_neg (by omega), take_full hy hc (by rw [show l.length = i by omega]; exact ht)]
  | succ d ih =>
    intro k i y hi hk hy ht
    obtain ⟨k, rfl⟩ : ∃ m, k = m + 1 := ⟨k - 1, by omega⟩
    have hx := ho.2 _ (mem_getD l z72 i (by omega))
    have hx0 : (LB (fun _ => True)) (l.getD i z72).f1 := hx
    simp only [laws_toTensorS.l0, rd_L2, rd_L6, rd_T70, rd_T72, rd_T75, rd_T77, rd_natD, Int.toNat_natCast]
    repeat (first | (refine st (toTensor_ _ _ _ _ _ (by assumption) (by omega)) ?_; (try dsimp only)) | refine ifp rfl ?_ | refine ifp (by omega) ?_ | refine ifp (by simp) ?_ | refine ifn (by simp) ?_)
    rw [w64_succ i (by omega)]
    refine ih k (i + 1) _ (by omega) (by omega) (by simpa using hy) ?_
    rw [take_set_succ _ _ _ (by omega), ht, take_succ_getD (l.map cv72_77) z77 i (by omega), map_getD _ _ _ (by omega) z72]
    rfl
theorem toTensorS_ (k : Nat) (l : List (S72)) (ho : LB Ok72 l) (hk : 2097160 ≤ k) : laws_toTensorS.f k l = some (l.map cv72_77) := by
  have hm := ho.1
  unfold laws_toTensorS.f
  rw [if_pos (by omega), if_pos (by simp; omega)]
  exact toTensorS_l0 l ho l.length k 0 _ (by omega) (by omega) (by simp) (by simp)
theorem eqIntS_l0 (l : List (Int)) (ho : LB (fun _ => True) l) : ∀ (d k i : Nat), i + d = l.length → d + 0 < k → laws_eqIntS.l0 k l l (i : Int) = some true := by
  have hm := ho.1
  intro d
  induction d with
  | zero =>
    intro k i hi hk
    obtain ⟨k, rfl⟩ : ∃ m, k = m + 1 := ⟨k - 1, by omega⟩
    simp only [laws_eqIntS.l0]
    rw [if_neg (by omega)]
  | succ d ih =>
    intro k i hi hk
    obtain ⟨k, rfl⟩ : ∃ m, k = m + 1 := ⟨k - 1, by omega⟩
    have hx := ho.2 _ (mem_getD l 0 i (by omega))
    simp only [laws_eqIntS.l0, rd_L2, rd_L6, rd_T70, rd_T72, rd_T75, rd_T77, rd_natD, Int.toNat_natCast]
    repeat (first | refine ifp rfl ?_ | refine ifp (by omega) ?_ | refine ifp (by simp) ?_ | refine ifn (by simp) ?_)
    rw [w64_succ i (by omega)]
    exact ih k (i + 1) (by omega) (by omega)
theorem eqIntS_ (k : Nat) (l : List (Int)) (ho : LB (fun _ => True) l) (hk : 1048580 ≤ k) : laws_eqIntS.f k l l = some true := by
  have hm := ho.1
  unfold laws_eqIntS.f
  rw [if_pos rfl]
  exact eqIntS_l0 l ho l.length k 0 (by omega) (by omega)
theorem eqShape_ (a0_0 : Int) (a0_1 : Int) (a0_2 : Int) : laws_eqShape.f a0_0 a0_1 a0_2 a0_0 a0_1 a0_2 = some true := by
  unfold laws_eqShape.f
  repeat (first | refine ifp rfl ?_ | refine ifp (by omega) ?_ | refine ifp (by simp) ?_ | refine ifn (by simp) ?_ | rfl)
theorem eqTensor_ (k : Nat) (a0_0 : Int) (a0_1 : Int) (a0_2 : Int) (l0_3 : List (Int)) (hl0_3 : LB (fun _ => True) l0_3) (hk : 1048580 ≤ k) : laws_eqTensor.f k a0_0 a0_1 a0_2 l0_3 a0_0 a0_1 a0_2 l0_3 = some true := by
  unfold laws_eqTensor.f
  repeat (first | (refine st (eqShape_ _ _ _) ?_; (try dsimp only)) | (refine st (eqIntS_ _ _ (by assumption) (by omega)) ?_; (try dsimp only)) | refine ifp rfl ?_ | refine ifp (by omega) ?_ | refine ifp (by simp) ?_ | refine ifn (by simp) ?_ | rfl)
theorem eqTensorS_l0 (l : List (S77)) (ho : LB Ok77 l) : ∀ (d k i : Nat), i + d = l.length → d + 1048580 < k → laws_eqTensorS.l0 k l l (i : Int) = some true := by
  have hm := ho.1
  intro d
  induction d with
  | zero =>
    intro k i hi hk
    obtain ⟨k, rfl⟩ : ∃ m, k = m + 1 := ⟨k - 1, by omega⟩
    simp only [laws_eqTensorS.l0]
    rw [if_neg (by omega)]
  | succ d ih =>
    intro k i hi hk
    obtain ⟨k, rfl⟩ : ∃ m, k = m + 1 := ⟨k - 1, by omega⟩
    have hx := ho.2 _ (mem_getD l z77 i (by omega))
    have hx0 : (LB (fun _ => True)) (l.getD i z77).f1 := hx
    simp only [laws_eqTensorS.l0, rd_L2, rd_L6, rd_T70, rd_T72, rd_T75, rd_T77, rd_natD, Int.toNat_natCast]
    repeat (first | (refine st (eqTensor_ _ _ _ _ _ (by assumption) (by omega)) ?_; (try dsimp only)) | refine ifp rfl ?_ | refine ifp (by omega) ?_ | refine ifp (by simp) ?_ | refine ifn (by simp) ?_)
    rw [w64_succ i (by omega)]
    exact ih k (i + 1) (by omega) (by omega)
theorem eqTensorS_ (k : Nat) (l : List (S77)) (ho : LB Ok77 l) (hk : 2097160 ≤ k) : laws_eqTensorS.f k l l = some true := by
  have hm := ho.1
  unfold laws_eqTensorS.f
  rw [if_pos rfl]
  exact eqTensorS_l0 l ho l.length k 0 (by omega) (by omega)

def shOk (h w c : Int) : Bool := decide ((1 ≤ h ∧ h ≤ 8) ∧ (1 ≤ w ∧ w ≤ 8) ∧ (1 ≤ c ∧ c ≤ 8))
theorem shOk_iff {h w c : Int} : shOk h w c = true ↔ ((1 ≤ h ∧ h ≤ 8) ∧ (1 ≤ w ∧ w ≤ 8) ∧ (1 ≤ c ∧ c ≤ 8)) := by simp [shOk]
theorem spec_shapeOk (h w c : Int) : spec_ShapeOk.f h w c = some (shOk h w c) := by
  unfold spec_ShapeOk.f
  simp only [spec_in, Option.bind_some]
  by_cases h1 : 1 ≤ h ∧ h ≤ 8 <;> by_cases h2 : 1 ≤ w ∧ w ≤ 8 <;> simp [shOk, h1, h2]
theorem impl_shapeOk (h w c : Int) : impl_ShapeOk.f h w c = some (shOk h w c) := by
  unfold impl_ShapeOk.f
  simp only [impl_in_, Option.bind_some]
  by_cases h1 : 1 ≤ h ∧ h ≤ 8 <;> by_cases h2 : 1 ≤ w ∧ w ≤ 8 <;> simp [shOk, h1, h2]
def szN (h w c : Int) : Int := if shOk h w c = true then h * w * c else 0
theorem prod_bd {h w c : Int} (hs : shOk h w c = true) : (1 ≤ h * w ∧ h * w ≤ 64) ∧ 1 ≤ h * w * c ∧ h * w * c ≤ 512 := by
  obtain ⟨⟨a, b⟩, ⟨d, e⟩, f, g⟩ := shOk_iff.1 hs
  have h1 : 1 * w ≤ h * w := Int.mul_le_mul_of_nonneg_right a (by omega)
  have h2 : h * w ≤ 8 * w := Int.mul_le_mul_of_nonneg_right b (by omega)
  have h3 : h * w * 1 ≤ h * w * c := Int.mul_le_mul_of_nonneg_left f (by omega)
  have h4 : h * w * c ≤ h * w * 8 := Int.mul_le_mul_of_nonneg_left g (by omega)
  omega
theorem spec_sizeOf_ (h w c : Int) : spec_SizeOf.f h w c = some (szN h w c) := by
  unfold spec_SizeOf.f szN
  simp only [spec_shapeOk, Option.bind_some]
  split
  · rename_i hs
    have := prod_bd hs
    rw [w64 (x := h * w) (by omega) (by omega), w64 (by omega) (by omega)]
  · rfl
theorem impl_sizeOf_ (h w c : Int) : impl_SizeOf.f h w c = some (szN h w c) := by
  unfold impl_SizeOf.f szN
  simp only [impl_shapeOk, Option.bind_some]
  split
  · rename_i hs
    have := prod_bd hs
    rw [w64 (x := h * w) (by omega) (by omega), w64 (by omega) (by omega)]
  · rfl
def is8 (x : Int) : Bool := decide (-128 ≤ x ∧ x ≤ 127)
def tOk (h w c : Int) (l : List Int) : Bool := shOk h w c && (decide ((l.length : Int) = szN h w c) && l.all is8)
theorem spec_int8 (x : Int) : spec_l02Int8.f x = some (is8 x) := by unfold spec_l02Int8.f; rw [spec_in]; rfl
theorem all_drop8 (l : List Int) (i : Nat) (h : i < l.length) : (l.drop i).all is8 = (is8 (l.getD i 0) && (l.drop (i + 1)).all is8) := by
  rw [drop_getD l 0 i h]; rfl
theorem spec_tOk_l0 (h w c : Int) (l : List Int) (hm : l.length ≤ 9223372036854775806) : ∀ (d k i : Nat), i + d = l.length → d < k → spec_TensorOk.l0 k (i : Int) h w c l = some ((l.drop i).all is8) := by
  intro d
  induction d with
  | zero =>
    intro k i hi hk
    obtain ⟨k, rfl⟩ : ∃ m, k = m + 1 := ⟨k - 1, by omega⟩
    simp only [spec_TensorOk.l0]
    rw [if_neg (by omega), List.drop_of_length_le (by omega)]
    rfl
  | succ d ih =>
    intro k i hi hk
    obtain ⟨k, rfl⟩ : ∃ m, k = m + 1 := ⟨k - 1, by omega⟩
    simp only [spec_TensorOk.l0]
    rw [if_pos (by omega), if_pos (by omega), all_drop8 l i (by omega), w64_succ i (by omega), ih k (i + 1) (by omega) (by omega)]
    simp only [spec_int8, Option.bind_some, rd_natD]
    cases is8 (l.getD i 0) <;> simp
theorem spec_tOk (k : Nat) (h w c : Int) (l : List Int) (hm : l.length ≤ 9223372036854775806) (hk : l.length + 1 < k) : spec_TensorOk.f k h w c l = some (tOk h w c l) := by
  obtain ⟨k, rfl⟩ : ∃ m, k = m + 1 := ⟨k - 1, by omega⟩
  unfold spec_TensorOk.f tOk
  simp only [spec_shapeOk, spec_sizeOf_, Option.bind_some, spec_TensorOk.j0]
  cases shOk h w c with
  | false => simp
  | true =>
    have := spec_tOk_l0 h w c l hm l.length k 0 (by omega) (by omega)
    simp only [if_true, Bool.true_and]
    by_cases e : (l.length : Int) = szN h w c
    · rw [if_neg (by simp [e])]
      simpa [e] using this
    · rw [if_pos (by simp [e])]
      simp [e]
theorem area_l0 (l : List Int) (hm : l.length ≤ 9223372036854775806) : ∀ (d k i : Nat), i + d = l.length → d < k →
    ∃ r, slices_IndexFunc_int_int_at_84.l0 k l (l.length : Int) (i : Int) = some r ∧ (0 ≤ r ↔ (l.drop i).all is8 = false) := by
  intro d
  induction d with
  | zero =>
    intro k i hi hk
    obtain ⟨k, rfl⟩ : ∃ m, k = m + 1 := ⟨k - 1, by omega⟩
    simp only [slices_IndexFunc_int_int_at_84.l0]
    rw [if_neg (by omega), List.drop_of_length_le (by omega)]
    exact ⟨-1, rfl, by simp⟩
  | succ d ih =>
    intro k i hi hk
    obtain ⟨k, rfl⟩ : ∃ m, k = m + 1 := ⟨k - 1, by omega⟩
    simp only [slices_IndexFunc_int_int_at_84.l0]
    rw [if_pos (by omega), if_pos (by omega), if_pos (by omega), all_drop8 l i (by omega)]
    unfold impl_areItems_1.f
    simp only [impl_in_, Option.bind_some, rd_natD]
    cases hr : is8 (l.getD i 0) with
    | false =>
      have : ¬ (-128 ≤ l.getD i 0 ∧ l.getD i 0 ≤ 127) := by simpa [is8] using hr
      exact ⟨i, by simp only [this]; simp, by simp⟩
    | true =>
      have : (-128 ≤ l.getD i 0 ∧ l.getD i 0 ≤ 127) := by simpa [is8] using hr
      obtain ⟨r, h1, h2⟩ := ih k (i + 1) (by omega) (by omega)
      refine ⟨r, ?_, by simpa using h2⟩
      rw [w64_succ i (by omega)]
      simp only [this, and_self]
      simpa using h1
theorem impl_area (k : Nat) (l : List Int) (hm : l.length ≤ 9223372036854775806) (hk : l.length < k) : impl_areItems.f k l = some (l.all is8) := by
  obtain ⟨r, h1, h2⟩ := area_l0 l hm l.length k 0 (by omega) hk
  have h1' : slices_IndexFunc_int_int_at_84.f k l = some r := h1
  unfold impl_areItems.f slices_ContainsFunc_int_int_at_84.f
  rw [h1']
  rw [List.drop_zero] at h2
  simp only [Option.bind_some]
  cases ha : l.all is8 with
  | false => rw [ha] at h2; have := h2.2 rfl; simp [this]
  | true => rw [ha] at h2; have : ¬ 0 ≤ r := fun z => absurd (h2.1 z) (by simp); simp; omega
theorem impl_tOk (k : Nat) (h w c : Int) (l : List Int) (hm : l.length ≤ 9223372036854775806) (hk : l.length < k) : impl_TensorOk.f k h w c l = some (tOk h w c l) := by
  unfold impl_TensorOk.f tOk
  simp only [impl_shapeOk, impl_sizeOf_, Option.bind_some, impl_area k l hm hk]
  cases shOk h w c with
  | false => simp
  | true =>
    simp only [if_true, Bool.true_and]
    by_cases e : (l.length : Int) = szN h w c
    · rw [if_pos e]; simp [e]
    · rw [if_neg e]; simp [e]
theorem tOk_len {h w c : Int} {l : List Int} (ht : tOk h w c l = true) : l.length ≤ 512 := by
  simp only [tOk, Bool.and_eq_true, decide_eq_true_eq] at ht
  have := prod_bd ht.1
  have e : szN h w c = h * w * c := by unfold szN; rw [if_pos ht.1]
  omega

theorem spec_same_l0 (h w c : Int) (l : List Int) (h' w' c' : Int) (m : List Int) (hm : l.length ≤ 9223372036854775806) (hl : l.length = m.length) : ∀ (d k i : Nat), i + d = l.length → d < k → l.take i = m.take i → spec_SameTensor.l0 k (i : Int) h w c l h' w' c' m = some (decide (l = m)) := by
  intro d
  induction d with
  | zero =>
    intro k i hi hk ht
    obtain ⟨k, rfl⟩ : ∃ m, k = m + 1 := ⟨k - 1, by omega⟩
    simp only [spec_SameTensor.l0]
    rw [if_neg (by omega)]
    simp [eq_of_drop hl (by omega) ht]
  | succ d ih =>
    intro k i hi hk ht
    obtain ⟨k, rfl⟩ : ∃ m, k = m + 1 := ⟨k - 1, by omega⟩
    simp only [spec_SameTensor.l0]
    rw [if_pos (by omega), if_pos (by omega), if_pos (by omega), rd_natD, rd_natD]
    by_cases e : l.getD i 0 = m.getD i 0
    · rw [if_pos e, w64_succ i (by omega)]
      exact ih k (i + 1) (by omega) (by omega) (by rw [take_succ_getD _ 0 _ (by omega), take_succ_getD _ 0 _ (by omega), ht, e])
    · rw [if_neg e]
      have : ¬ l = m := by rintro rfl; exact e rfl
      simp [this]
theorem equal_l0 (l m : List Int) (hm : l.length ≤ 9223372036854775806) (hl : l.length = m.length) : ∀ (d k i : Nat), i + d = l.length → d < k → l.take i = m.take i → slices_Equal_int_int.l0 k l m (l.length : Int) (i : Int) = some (decide (l = m)) := by
  intro d
  induction d with
  | zero =>
    intro k i hi hk ht
    obtain ⟨k, rfl⟩ : ∃ m, k = m + 1 := ⟨k - 1, by omega⟩
    simp only [slices_Equal_int_int.l0]
    rw [if_neg (by omega)]
    simp [eq_of_drop hl (by omega) ht]
  | succ d ih =>
    intro k i hi hk ht
    obtain ⟨k, rfl⟩ : ∃ m, k = m + 1 := ⟨k - 1, by omega⟩
    simp only [slices_Equal_int_int.l0]
    refine ifp (by omega) (ifp (by omega) (ifp (by omega) (ifp (by omega) ?_)))
    rw [rd_natD, rd_natD]
    by_cases e : l.getD i 0 = m.getD i 0
    · rw [if_pos e, w64_succ i (by omega)]
      exact ih k (i + 1) (by omega) (by omega) (by rw [take_succ_getD _ 0 _ (by omega), take_succ_getD _ 0 _ (by omega), ht, e])
    · rw [if_neg e]
      have : ¬ l = m := by rintro rfl; exact e rfl
      simp [this]
theorem equal_ (k : Nat) (l m : List Int) (hm : l.length ≤ 9223372036854775806) (hk : l.length < k) : slices_Equal_int_int.f k l m = some (decide (l = m)) := by
  unfold slices_Equal_int_int.f
  by_cases h : (l.length : Int) = (m.length : Int)
  · rw [if_pos h]
    exact equal_l0 l m hm (by omega) l.length k 0 (by omega) hk (by simp)
  · rw [if_neg h]
    have : ¬ l = m := by rintro rfl; exact h rfl
    simp [this]
def sameT (h w c : Int) (l : List Int) (h' w' c' : Int) (m : List Int) : Bool := tOk h w c l && decide (((h = h' ∧ w = w') ∧ c = c') ∧ l = m)
theorem tOk_sz {h w c : Int} {l : List Int} (ht : tOk h w c l = true) : (l.length : Int) = szN h w c := by
  simp only [tOk, Bool.and_eq_true, decide_eq_true_eq] at ht
  exact ht.2.1
theorem spec_same (k : Nat) (h w c : Int) (l : List Int) (h' w' c' : Int) (m : List Int) (hl : l.length ≤ 1048576) (hm : m.length ≤ 1048576) (hk : 1048590 ≤ k) : spec_SameTensor.f k h w c l h' w' c' m = some (sameT h w c l h' w' c' m) := by
  obtain ⟨k, rfl⟩ : ∃ m, k = m + 1 := ⟨k - 1, by omega⟩
  unfold spec_SameTensor.f sameT
  rw [spec_tOk _ h w c l (by omega) (by omega), spec_tOk _ h' w' c' m (by omega) (by omega)]
  simp only [Option.bind_some, spec_SameTensor.j0]
  cases h1 : tOk h w c l with
  | false => simp
  | true =>
    cases h2 : tOk h' w' c' m with
    | false =>
      have : ¬ (((h = h' ∧ w = w') ∧ c = c') ∧ l = m) := by rintro ⟨⟨⟨rfl, rfl⟩, rfl⟩, rfl⟩; rw [h1] at h2; exact absurd h2 (by simp)
      simp [this]
    | true =>
      by_cases he : (h = h' ∧ w = w') ∧ c = c'
      · have hlen : l.length = m.length := by
          obtain ⟨⟨rfl, rfl⟩, rfl⟩ := he
          have a := tOk_sz h1; have b := tOk_sz h2
          omega
        have hs := spec_same_l0 h w c l h' w' c' m (by omega) hlen l.length k 0 (by omega) (by omega) (by simp)
        obtain ⟨⟨rfl, rfl⟩, rfl⟩ := he
        simp at hs ⊢
        exact hs
      · have : ¬ (((h = h' ∧ w = w') ∧ c = c') ∧ l = m) := fun z => he z.1
        simp only [if_true, this, decide_false, Bool.and_false]
        refine ifp ?_ rfl
        by_cases a : h = h' <;> by_cases b : w = w' <;> by_cases d : c = c' <;> simp_all
theorem impl_same (k : Nat) (h w c : Int) (l : List Int) (h' w' c' : Int) (m : List Int) (hl : l.length ≤ 1048576) (hk : 1048590 ≤ k) : impl_SameTensor.f k h w c l h' w' c' m = some (sameT h w c l h' w' c' m) := by
  unfold impl_SameTensor.f impl_Tensor_same.f sameT
  rw [impl_tOk _ h w c l (by omega) (by omega), equal_ k l m (by omega) (by omega)]
  simp only [Option.bind_some]
  cases h1 : tOk h w c l with
  | false => simp
  | true =>
    by_cases a : h = h' <;> by_cases b : w = w' <;> by_cases d : c = c' <;> simp [a, b, d]
theorem outs_l0 (x y : List S77) (hx : LB Ok77 x) (hy : LB Ok77 y) (hl : x.length = y.length) : ∀ (d k i : Nat), i + d = x.length → d + 1048590 < k →
    ∃ r, spec_SameOutputs.l0 k x y (i : Int) = some r ∧ impl_Tensor_at_65.l0 k y x (x.length : Int) (i : Int) = some r := by
  intro d
  induction d with
  | zero =>
    intro k i hi hk
    obtain ⟨k, rfl⟩ : ∃ m, k = m + 1 := ⟨k - 1, by omega⟩
    exact ⟨true, by simp only [spec_SameOutputs.l0]; rw [if_neg (by omega)], by simp only [impl_Tensor_at_65.l0]; rw [if_neg (by omega)]⟩
  | succ d ih =>
    intro k i hi hk
    obtain ⟨k, rfl⟩ : ∃ m, k = m + 1 := ⟨k - 1, by omega⟩
    have hm := hx.1
    have h1 : LB (fun _ => True) (x.getD i z77).f1 := hx.2 _ (mem_getD x z77 i (by omega))
    have h2 : LB (fun _ => True) (y.getD i z77).f1 := hy.2 _ (mem_getD y z77 i (by omega))
    have hs := spec_same k (x.getD i z77).f0.f0 (x.getD i z77).f0.f1 (x.getD i z77).f0.f2 (x.getD i z77).f1 (y.getD i z77).f0.f0 (y.getD i z77).f0.f1 (y.getD i z77).f0.f2 (y.getD i z77).f1 h1.1 h2.1 (by omega)
    have ht := impl_same k (x.getD i z77).f0.f0 (x.getD i z77).f0.f1 (x.getD i z77).f0.f2 (x.getD i z77).f1 (y.getD i z77).f0.f0 (y.getD i z77).f0.f1 (y.getD i z77).f0.f2 (y.getD i z77).f1 h1.1 (by omega)
    obtain ⟨r, e1, e2⟩ := ih k (i + 1) (by omega) (by omega)
    simp only [spec_SameOutputs.l0, impl_Tensor_at_65.l0, rd_T77, Int.toNat_natCast]
    cases hc : sameT (x.getD i z77).f0.f0 (x.getD i z77).f0.f1 (x.getD i z77).f0.f2 (x.getD i z77).f1 (y.getD i z77).f0.f0 (y.getD i z77).f0.f1 (y.getD i z77).f0.f2 (y.getD i z77).f1 with
    | false =>
      rw [hc] at hs ht
      exact ⟨false, ifp (by omega) (ifp (by omega) (ifp (by omega) (st hs (by simp)))), ifp (by omega) (ifp (by omega) (ifp (by omega) (ifp (by omega) (st ht (by simp)))))⟩
    | true =>
      rw [hc] at hs ht
      refine ⟨r, ifp (by omega) (ifp (by omega) (ifp (by omega) (st hs ?_))), ifp (by omega) (ifp (by omega) (ifp (by omega) (ifp (by omega) (st ht ?_))))⟩
      · rw [if_pos rfl, w64_succ i (by omega)]; exact e1
      · rw [if_pos rfl, w64_succ i (by omega)]; exact e2
theorem outs (k : Nat) (x y : List S77) (hx : LB Ok77 x) (hy : LB Ok77 y) (hk : 3000000 ≤ k) : ∃ r, spec_SameOutputs.f k x y = some r ∧ impl_SameOutputs.f k x y = some r := by
  have hm := hx.1
  unfold spec_SameOutputs.f impl_SameOutputs.f impl_Tensor_at_65.f
  by_cases h : (x.length : Int) = (y.length : Int)
  · rw [if_pos h, if_pos h]
    obtain ⟨r, e1, e2⟩ := outs_l0 x y hx hy (by omega) x.length k 0 (by omega) (by omega)
    exact ⟨r, e1, st e2 rfl⟩
  · rw [if_neg h, if_neg h]; exact ⟨false, rfl, rfl⟩


theorem FnExactSameOutputs : laws_FnExactSameOutputs.Pure := by
  intro a b ha hb
  obtain ⟨k, hk⟩ : ∃ k : Nat, 1000000000 ≤ k := ⟨_, Nat.le_refl _⟩
  refine ⟨k, ?_⟩
  unfold laws_FnExactSameOutputs.f

  obtain ⟨q, e, h⟩ := szTensorS_ k a 1048576 ha (by omega) (by omega) (by omega)
  rw [e]; simp only [Option.bind_some]; clear e
  rcases h with h | ⟨q0, q1, oa⟩
  · rw [if_pos h]
  rw [if_neg (by omega)]
  obtain ⟨r, e, h⟩ := szTensorS_ k b q hb (by omega) (by omega) (by omega)
  rw [e]; simp only [Option.bind_some]; clear e
  rcases h with h | ⟨h0, h1, ob⟩
  · rw [if_pos h]
  rw [if_neg (by omega)]
  have oa2 : LB Ok77 (a.map cv72_77) := oa.map ok_cv72_77
  have ob2 : LB Ok77 (b.map cv72_77) := ob.map ok_cv72_77
  obtain ⟨v, e1, e2⟩ := outs k _ _ oa2 ob2 (by omega)
  repeat (first
    | (refine st e1 ?_; (try dsimp only))
    | (refine st e2 ?_; (try dsimp only))
    | (refine st (toTensorS_ _ _ (by assumption) (by omega)) ?_; (try dsimp only))
    | (refine st (eqTensorS_ _ _ (by assumption) (by omega)) ?_; (try dsimp only))
    | refine ifp rfl ?_
    | refine ifn (by omega) ?_
    | refine ifp (by omega) ?_
    | refine ifn (by simp) ?_
    | refine ifp (by simp) ?_
    | rfl)

end Go.Proofs.Ytoggdgahfagegaa.Pure
