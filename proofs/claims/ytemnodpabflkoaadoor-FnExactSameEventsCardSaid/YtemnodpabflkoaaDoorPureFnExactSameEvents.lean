/- What is left of the statement FnExactSameEvents once the Go functions are Lean functions: the program's SameEvents and the reference's answer alike. No condition. -/
import Derived.Test.YtemnodpabflkoaaDoorQFnExactSameEventsx8
import Derived.Test.YtemnodpabflkoaaDoorAid
set_option linter.unusedVariables false
set_option linter.unusedSimpArgs false
namespace Go.Proofs.YtemnodpabflkoaaDoor.Pure
open Go.RowKit Go.Proofs.YtemnodpabflkoaaDoor.QFnExactSameEvents Go.Proofs.YtemnodpabflkoaaDoorW.PrintWords Go.Proofs.YtemnodpabflkoaaDoorW.PrintLast Go.Proofs.YtemnodpabflkoaaDoorW.PrintMore Go.Proofs.YtemnodpabflkoaaDoorW.Aid


theorem spec_in (x lo hi : Int) : spec_l01In.f x lo hi = some (decide (lo ≤ x ∧ x ≤ hi)) := by
  unfold spec_l01In.f
  split
  · simp_all
  · simp; omega
theorem impl_in_ (x lo hi : Int) : impl_in.f x lo hi = some (decide (lo ≤ x ∧ x ≤ hi)) := by
  unfold impl_in.f
  split
  · simp_all
  · simp; omega

def LB {α : Type} (P : α → Prop) (l : List α) : Prop := l.length ≤ 1048576 ∧ ∀ x ∈ l, P x
theorem LB.map {α β : Type} {P : α → Prop} {Q : β → Prop} {f : α → β} {l : List α} (hf : ∀ x, P x → Q (f x)) (h : LB P l) : LB Q (l.map f) := ⟨by simpa using h.1, fun y hy => by obtain ⟨x, hx, rfl⟩ := List.mem_map.1 hy; exact hf x (h.2 x hx)⟩
theorem map_getD {α β : Type} (f : α → β) (l : List α) (i : Nat) (h : i < l.length) (d : α) (d' : β) : (l.map f).getD i d' = f (l.getD i d) := by simp [h]
theorem szIntS_ {W : Int → Prop} (l : List (Int)) (a : Int) (hw : WL W l) (h0 : 0 ≤ a) (h1 : a ≤ 1048576) : ∃ r, laws_szIntS.f l a = some r ∧ (r < 0 ∨ (0 ≤ r ∧ r ≤ a ∧ LB (fun _ => True) l)) := by
  have hm : l.length ≤ 9223372036854775807 := hw.1
  have he : wrap64 (a - (l.length : Int)) = a - l.length := w64 (by omega) (by omega)
  unfold laws_szIntS.f
  rw [he]
  by_cases h : a - (l.length : Int) < 0
  · exact ⟨-1, if_pos h, Or.inl (by omega)⟩
  · rw [if_neg h]
    exact ⟨_, rfl, Or.inr ⟨by omega, by omega, by omega, fun _ _ => trivial⟩⟩
theorem szTensor_ {Wl0_3 : Int → Prop} (a0_0 : Int) (a0_1 : Int) (a0_2 : Int) (l0_3 : List (Int)) (a1 : Int) (wl0_3 : WL Wl0_3 l0_3) (h0 : 0 ≤ a1) (h1 : a1 ≤ 1048576) : ∃ r, laws_szTensor.f a0_0 a0_1 a0_2 l0_3 a1 = some r ∧ (r < 0 ∨ (0 ≤ r ∧ r ≤ a1 ∧ LB (fun _ => True) l0_3)) := by
  unfold laws_szTensor.f
  obtain ⟨r1, e1, g1⟩ := szIntS_ l0_3 a1 wl0_3 (by omega) (by omega)
  rw [e1]
  simp only [Option.bind_some]
  rcases g1 with g1 | ⟨p1, u1, g1⟩
  · exact ⟨-1, if_pos g1, Or.inl (by omega)⟩
  rw [if_neg (by omega)]
  exact ⟨r1, rfl, Or.inr ⟨by omega, by omega, g1⟩⟩
theorem szEvent_ {Wl0_6 : Int → Prop} (a0_0 : Int) (a0_1 : Int) (a0_2 : Int) (a0_3 : Int) (a0_4 : Int) (a0_5 : Int) (l0_6 : List (Int)) (a1 : Int) (wl0_6 : WL Wl0_6 l0_6) (h0 : 0 ≤ a1) (h1 : a1 ≤ 1048576) : ∃ r, laws_szEvent.f a0_0 a0_1 a0_2 a0_3 a0_4 a0_5 l0_6 a1 = some r ∧ (r < 0 ∨ (0 ≤ r ∧ r ≤ a1 ∧ LB (fun _ => True) l0_6)) := by
  unfold laws_szEvent.f
  obtain ⟨r1, e1, g1⟩ := szTensor_ a0_3 a0_4 a0_5 l0_6 a1 wl0_6 (by omega) (by omega)
  rw [e1]
  simp only [Option.bind_some]
  rcases g1 with g1 | ⟨p1, u1, g1⟩
  · exact ⟨-1, if_pos g1, Or.inl (by omega)⟩
  rw [if_neg (by omega)]
  exact ⟨r1, rfl, Or.inr ⟨by omega, by omega, g1⟩⟩
def Ok28 (x : S28) : Prop := (LB (fun _ => True)) x.f3.f1
theorem szEventS_l0 (l : List (S28)) (hw : WL Wt28 l) (hm : l.length ≤ 1048576) : ∀ (d k i : Nat) (a : Int), i + d = l.length → d + 1048580 < k → 0 ≤ a → a ≤ 1048576 → ∃ r, laws_szEventS.l0 k l a (i : Int) = some r ∧ (r < 0 ∨ (0 ≤ r ∧ r ≤ a ∧ ∀ x ∈ l.drop i, Ok28 x)) := by
  intro d
  induction d with
  | zero =>
    intro k i a hi hk h0 h1
    obtain ⟨k, rfl⟩ : ∃ m, k = m + 1 := ⟨k - 1, by omega⟩
    simp only [laws_szEventS.l0]
    rw [if_neg (by omega), List.drop_of_length_le (by omega)]
    exact ⟨a, rfl, Or.inr ⟨h0, Int.le_refl _, fun x hx => absurd hx (by simp)⟩⟩
  | succ d ih =>
    intro k i a hi hk h0 h1
    obtain ⟨k, rfl⟩ : ∃ m, k = m + 1 := ⟨k - 1, by omega⟩
    have hx := hw.2 _ (mem_getD l z28 i (by omega))
    have hw0 : (WL (WI .i64)) (l.getD i z28).f3.f1 := hx.2.2.2.2
    simp only [laws_szEventS.l0, rd_L2, rd_L9, rd_T23, rd_T26, rd_T28, rd_T31, rd_T33, rd_T35, Int.toNat_natCast]
    rw [if_pos (by omega), if_pos (by omega)]
    obtain ⟨r, e, h⟩ := szEvent_ (l.getD i z28).f0 (l.getD i z28).f1 (l.getD i z28).f2 (l.getD i z28).f3.f0.f0 (l.getD i z28).f3.f0.f1 (l.getD i z28).f3.f0.f2 (l.getD i z28).f3.f1 a hw0 h0 h1
    rw [e]
    simp only [Option.bind_some]
    rcases h with h | ⟨h1, h2, h3⟩
    · exact ⟨-1, if_pos h, Or.inl (by omega)⟩
    · rw [if_neg (by omega), w64_succ i (by omega)]
      obtain ⟨r', e', h'⟩ := ih k (i + 1) r (by omega) (by omega) h1 (by omega)
      refine ⟨r', e', ?_⟩
      rcases h' with h' | ⟨a1, a2, a3⟩
      · exact Or.inl h'
      · refine Or.inr ⟨a1, by omega, ?_⟩
        rw [drop_getD l z28 i (by omega)]
        intro x hx
        rcases List.mem_cons.1 hx with rfl | hx
        · exact h3
        · exact a3 x hx
theorem szEventS_ (k : Nat) (l : List (S28)) (a : Int) (hw : WL Wt28 l) (h0 : 0 ≤ a) (h1 : a ≤ 1048576) (hk : 2097160 ≤ k) : ∃ r, laws_szEventS.f k l a = some r ∧ (r < 0 ∨ (0 ≤ r ∧ r ≤ a ∧ LB Ok28 l)) := by
  have hm : l.length ≤ 9223372036854775807 := hw.1
  have he : wrap64 (a - (l.length : Int)) = a - l.length := w64 (by omega) (by omega)
  unfold laws_szEventS.f
  rw [he]
  by_cases h : a - (l.length : Int) < 0
  · exact ⟨-1, if_pos h, Or.inl (by omega)⟩
  · rw [if_neg h]
    obtain ⟨r, e, h2⟩ := szEventS_l0 l hw (by omega) l.length k 0 (a - l.length) (by omega) (by omega) (by omega) (by omega)
    refine ⟨r, e, ?_⟩
    rcases h2 with h2 | ⟨a1, a2, a3⟩
    · exact Or.inl h2
    · exact Or.inr ⟨a1, by omega, by omega, by simpa using a3⟩
theorem toShape_ (a0_0 : Int) (a0_1 : Int) (a0_2 : Int) : laws_toShape.f a0_0 a0_1 a0_2 = some (a0_0, a0_1, a0_2) := by
  unfold laws_toShape.f
  repeat (first | refine ifp rfl ?_ | refine ifp (by omega) ?_ | refine ifp (by simp) ?_ | refine ifn (by simp) ?_ | rfl)
theorem toIntS_l0 (l : List (Int)) (ho : LB (fun _ => True) l) : ∀ (d k i : Nat) (y : List (Int)), i + d = l.length → d + 0 < k → y.length = l.length → y.take i = l.take i → laws_toIntS.l0 k l y (i : Int) = some l := by
  have hm := ho.1
  have hc : l.length = l.length := by rfl
  intro d
  induction d with
  | zero =>
    intro k i y hi hk hy ht
    obtain ⟨k, rfl⟩ : ∃ m, k = m + 1 := ⟨k - 1, by omega⟩
    simp only [laws_toIntS.l0]
    rw [if_neg (by omega), take_full hy hc (by rw [show l.length = i by omega]; exact ht)]
  | succ d ih =>
    intro k i y hi hk hy ht
    obtain ⟨k, rfl⟩ : ∃ m, k = m + 1 := ⟨k - 1, by omega⟩
    have hx := ho.2 _ (mem_getD l 0 i (by omega))
    simp only [laws_toIntS.l0, rd_L2, rd_L9, rd_T23, rd_T26, rd_T28, rd_T31, rd_T33, rd_T35, rd_natD, Int.toNat_natCast]
    repeat (first | refine ifp rfl ?_ | refine ifp (by omega) ?_ | refine ifp (by simp) ?_ | refine ifn (by simp) ?_)
    rw [w64_succ i (by omega)]
    refine ih k (i + 1) _ (by omega) (by omega) (by simpa using hy) ?_
    rw [take_set_succ _ _ _ (by omega), ht, take_succ_getD l 0 i (by omega)]
theorem toIntS_ (k : Nat) (l : List (Int)) (ho : LB (fun _ => True) l) (hk : 1048580 ≤ k) : laws_toIntS.f k l = some l := by
  have hm := ho.1
  unfold laws_toIntS.f
  rw [if_pos (by omega), if_pos (by simp; omega)]
  exact toIntS_l0 l ho l.length k 0 _ (by omega) (by omega) (by simp) (by simp)
theorem toTensor_ (k : Nat) (a0_0 : Int) (a0_1 : Int) (a0_2 : Int) (l0_3 : List (Int)) (hl0_3 : LB (fun _ => True) l0_3) (hk : 1048580 ≤ k) : laws_toTensor.f k a0_0 a0_1 a0_2 l0_3 = some (a0_0, a0_1, a0_2, l0_3) := by
  unfold laws_toTensor.f
  repeat (first | (refine st (toShape_ _ _ _) ?_; (try dsimp only)) | (refine st (toIntS_ _ _ (by assumption) (by omega)) ?_; (try dsimp only)) | refine ifp rfl ?_ | refine ifp (by omega) ?_ | refine ifp (by simp) ?_ | refine ifn (by simp) ?_ | rfl)
theorem toEvent_ (k : Nat) (a0_0 : Int) (a0_1 : Int) (a0_2 : Int) (a0_3 : Int) (a0_4 : Int) (a0_5 : Int) (l0_6 : List (Int)) (hl0_6 : LB (fun _ => True) l0_6) (hk : 1048580 ≤ k) : laws_toEvent.f k a0_0 a0_1 a0_2 a0_3 a0_4 a0_5 l0_6 = some (a0_0, a0_1, a0_2, a0_3, a0_4, a0_5, l0_6) := by
  unfold laws_toEvent.f
  repeat (first | (refine st (toTensor_ _ _ _ _ _ (by assumption) (by omega)) ?_; (try dsimp only)) | refine ifp rfl ?_ | refine ifp (by omega) ?_ | refine ifp (by simp) ?_ | refine ifn (by simp) ?_ | rfl)
def cv23_31 (x : S23) : S31 := ⟨x.f0, x.f1, x.f2⟩
def Ok23 (x : S23) : Prop := True
def Ok31 (x : S31) : Prop := True
theorem ok_cv23_31 (x : S23) (h : Ok23 x) : Ok31 (cv23_31 x) := trivial
def cv26_33 (x : S26) : S33 := ⟨(cv23_31 x.f0), x.f1⟩
def Ok26 (x : S26) : Prop := (LB (fun _ => True)) x.f1
def Ok33 (x : S33) : Prop := (LB (fun _ => True)) x.f1
theorem ok_cv26_33 (x : S26) (h : Ok26 x) : Ok33 (cv26_33 x) := h
def cv28_35 (x : S28) : S35 := ⟨x.f0, x.f1, x.f2, (cv26_33 x.f3)⟩
def Ok35 (x : S35) : Prop := (LB (fun _ => True)) x.f3.f1
theorem ok_cv28_35 (x : S28) (h : Ok28 x) : Ok35 (cv28_35 x) := h
theorem toEventS_l0 (l : List (S28)) (ho : LB Ok28 l) : ∀ (d k i : Nat) (y : List (S35)), i + d = l.length → d + 1048580 < k → y.length = l.length → y.take i = (l.map cv28_35).take i → laws_toEventS.l0 k l y (i : Int) = some (l.map cv28_35) := by
  have hm := ho.1
  have hc : (l.map cv28_35).length = l.length := by simp
  intro d
  induction d with
  | zero =>
    intro k i y hi hk hy ht
    obtain ⟨k, rfl⟩ : ∃ m, k = m + 1 := ⟨k - 1, by omega⟩
    simp only [laws_toEventS.l0]
    rw [if_neg (by omega), take_full hy hc (by rw [show l.length = i by omega]; exact ht)]
  | succ d ih =>
    intro k i y hi hk hy ht
    obtain ⟨k, rfl⟩ : ∃ m, k = m + 1 := ⟨k - 1, by omega⟩
    have hx := ho.2 _ (mem_getD l z28 i (by omega))
    have hx0 : (LB (fun _ => True)) (l.getD i z28).f3.f1 := hx
    simp only [laws_toEventS.l0, rd_L2, rd_L9, rd_T23, rd_T26, rd_T28, rd_T31, rd_T33, rd_T35, rd_natD, Int.toNat_natCast]
    repeat (first | (refine st (toEvent_ _ _ _ _ _ _ _ _ (by assumption) (by omega)) ?_; (try dsimp only)) | refine ifp rfl ?_ | refine ifp (by omega) ?_ | refine ifp (by simp) ?_ | refine ifn (by simp) ?_)
    rw [w64_succ i (by omega)]
    refine ih k (i + 1) _ (by omega) (by omega) (by simpa using hy) ?_
    rw [take_set_succ _ _ _ (by omega), ht, take_succ_getD (l.map cv28_35) z35 i (by omega), map_getD _ _ _ (by omega) z28]
    rfl
theorem toEventS_ (k : Nat) (l : List (S28)) (ho : LB Ok28 l) (hk : 2097160 ≤ k) : laws_toEventS.f k l = some (l.map cv28_35) := by
  have hm := ho.1
  unfold laws_toEventS.f
  rw [if_pos (by omega), if_pos (by simp; omega)]
  exact toEventS_l0 l ho l.length k 0 _ (by omega) (by omega) (by simp) (by simp)
theorem eqShape_ (a0_0 : Int) (a0_1 : Int) (a0_2 : Int) : laws_eqShape.f a0_0 a0_1 a0_2 a0_0 a0_1 a0_2 = some true := by
  unfold laws_eqShape.f
  repeat (first | refine ifp rfl ?_ | refine ifp (by omega) ?_ | refine ifp (by simp) ?_ | refine ifn (by simp) ?_ | rfl)
theorem eqIntS_l0 (l : List (Int)) (ho : LB (fun _ => True) l) : ∀ (d k i : Nat), i + d = l.length → d + 0 < k → laws_eqIntS.l0 k l l (i : Int) = some true := by
  have hm := ho.1
  intro d
  induction d with
  | zero =>
    intro k i hi hk
    obtain ⟨k, rfl⟩ : ∃ m, k = m + 1 := ⟨k - 1, by omega⟩
    simp only [laws_eqIntS.l0]
    rw [if_neg (by omega)]
  | succ d ih =>
    intro k i hi hk
    obtain ⟨k, rfl⟩ : ∃ m, k = m + 1 := ⟨k - 1, by omega⟩
    have hx := ho.2 _ (mem_getD l 0 i (by omega))
    simp only [laws_eqIntS.l0, rd_L2, rd_L9, rd_T23, rd_T26, rd_T28, rd_T31, rd_T33, rd_T35, rd_natD, Int.toNat_natCast]
    repeat (first | refine ifp rfl ?_ | refine ifp (by omega) ?_ | refine ifp (by simp) ?_ | refine ifn (by simp) ?_)
    rw [w64_succ i (by omega)]
    exact ih k (i + 1) (by omega) (by omega)
theorem eqIntS_ (k : Nat) (l : List (Int)) (ho : LB (fun _ => True) l) (hk : 1048580 ≤ k) : laws_eqIntS.f k l l = some true := by
  have hm := ho.1
  unfold laws_eqIntS.f
  rw [if_pos rfl]
  exact eqIntS_l0 l ho l.length k 0 (by omega) (by omega)
theorem eqTensor_ (k : Nat) (a0_0 : Int) (a0_1 : Int) (a0_2 : Int) (l0_3 : List (Int)) (hl0_3 : LB (fun _ => True) l0_3) (hk : 1048580 ≤ k) : laws_eqTensor.f k a0_0 a0_1 a0_2 l0_3 a0_0 a0_1 a0_2 l0_3 = some true := by
  unfold laws_eqTensor.f
  repeat (first | (refine st (eqShape_ _ _ _) ?_; (try dsimp only)) | (refine st (eqIntS_ _ _ (by assumption) (by omega)) ?_; (try dsimp only)) | refine ifp rfl ?_ | refine ifp (by omega) ?_ | refine ifp (by simp) ?_ | refine ifn (by simp) ?_ | rfl)
theorem eqEvent_ (k : Nat) (a0_0 : Int) (a0_1 : Int) (a0_2 : Int) (a0_3 : Int) (a0_4 : Int) (a0_5 : Int) (l0_6 : List (Int)) (hl0_6 : LB (fun _ => True) l0_6) (hk : 1048580 ≤ k) : laws_eqEvent.f k a0_0 a0_1 a0_2 a0_3 a0_4 a0_5 l0_6 a0_0 a0_1 a0_2 a0_3 a0_4 a0_5 l0_6 = some true := by
  unfold laws_eqEvent.f
  repeat (first | (refine st (eqTensor_ _ _ _ _ _ (by assumption) (by omega)) ?_; (try dsimp only)) | refine ifp rfl ?_ | refine ifp (by omega) ?_ | refine ifp (by simp) ?_ | refine ifn (by simp) ?_ | rfl)
theorem eqEventS_l0 (l : List (S35)) (ho : LB Ok35 l) : ∀ (d k i : Nat), i + d = l.length → d + 1048580 < k → laws_eqEventS.l0 k l l (i : Int) = some true := by
  have hm := ho.1
  intro d
  induction d with
  | zero =>
    intro k i hi hk
    obtain ⟨k, rfl⟩ : ∃ m, k = m + 1 := ⟨k - 1, by omega⟩
    simp only [laws_eqEventS.l0]
    rw [if_neg (by omega)]
  | succ d ih =>
    intro k i hi hk
    obtain ⟨k, rfl⟩ : ∃ m, k = m + 1 := ⟨k - 1, by omega⟩
    have hx := ho.2 _ (mem_getD l z35 i (by omega))
    have hx0 : (LB (fun _ => True)) (l.getD i z35).f3.f1 := hx
    simp only [laws_eqEventS.l0, rd_L2, rd_L9, rd_T23, rd_T26, rd_T28, rd_T31, rd_T33, rd_T35, rd_natD, Int.toNat_natCast]
    repeat (first | (refine st (eqEvent_ _ _ _ _ _ _ _ _ (by assumption) (by omega)) ?_; (try dsimp only)) | refine ifp rfl ?_ | refine ifp (by omega) ?_ | refine ifp (by simp) ?_ | refine ifn (by simp) ?_)
    rw [w64_succ i (by omega)]
    exact ih k (i + 1) (by omega) (by omega)
theorem eqEventS_ (k : Nat) (l : List (S35)) (ho : LB Ok35 l) (hk : 2097160 ≤ k) : laws_eqEventS.f k l l = some true := by
  have hm := ho.1
  unfold laws_eqEventS.f
  rw [if_pos rfl]
  exact eqEventS_l0 l ho l.length k 0 (by omega) (by omega)

def shOk (h w c : Int) : Bool := decide ((1 ≤ h ∧ h ≤ 8) ∧ (1 ≤ w ∧ w ≤ 8) ∧ (1 ≤ c ∧ c ≤ 8))
theorem shOk_iff {h w c : Int} : shOk h w c = true ↔ ((1 ≤ h ∧ h ≤ 8) ∧ (1 ≤ w ∧ w ≤ 8) ∧ (1 ≤ c ∧ c ≤ 8)) := by simp [shOk]
theorem spec_shapeOk (h w c : Int) : spec_ShapeOk.f h w c = some (shOk h w c) := by
  unfold spec_ShapeOk.f
  simp only [spec_in, Option.bind_some]
  by_cases h1 : 1 ≤ h ∧ h ≤ 8 <;> by_cases h2 : 1 ≤ w ∧ w ≤ 8 <;> simp [shOk, h1, h2]
theorem impl_shapeOk (h w c : Int) : impl_ShapeOk.f h w c = some (shOk h w c) := by
  unfold impl_ShapeOk.f
  simp only [impl_in_, Option.bind_some]
  by_cases h1 : 1 ≤ h ∧ h ≤ 8 <;> by_cases h2 : 1 ≤ w ∧ w ≤ 8 <;> simp [shOk, h1, h2]
def szN (h w c : Int) : Int := if shOk h w c = true then h * w * c else 0
theorem prod_bd {h w c : Int} (hs : shOk h w c = true) : (1 ≤ h * w ∧ h * w ≤ 64) ∧ 1 ≤ h * w * c ∧ h * w * c ≤ 512 := by
  obtain ⟨⟨a, b⟩, ⟨d, e⟩, f, g⟩ := shOk_iff.1 hs
  have h1 : 1 * w ≤ h * w := Int.mul_le_mul_of_nonneg_right a (by omega)
  have h2 : h * w ≤ 8 * w := Int.mul_le_mul_of_nonneg_right b (by omega)
  have h3 : h * w * 1 ≤ h * w * c := Int.mul_le_mul_of_nonneg_left f (by omega)
  have h4 : h * w * c ≤ h * w * 8 := Int.mul_le_mul_of_nonneg_left g (by omega)
  omega
theorem spec_sizeOf_ (h w c : Int) : spec_SizeOf.f h w c = some (szN h w c) := by
  unfold spec_SizeOf.f szN
  simp only [spec_shapeOk, Option.bind_some]
  split
  · rename_i hs
    have := prod_bd hs
    rw [w64 (x := h * w) (by omega) (by omega), w64 (by omega) (by omega)]
  · rfl
theorem impl_sizeOf_ (h w c : Int) : impl_SizeOf.f h w c = some (szN h w c) := by
  unfold impl_SizeOf.f szN
  simp only [impl_shapeOk, Option.bind_some]
  split
  · rename_i hs
    have := prod_bd hs
    rw [w64 (x := h * w) (by omega) (by omega), w64 (by omega) (by omega)]
  · rfl
def is8 (x : Int) : Bool := decide (-128 ≤ x ∧ x ≤ 127)
def tOk (h w c : Int) (l : List Int) : Bool := shOk h w c && (decide ((l.length : Int) = szN h w c) && l.all is8)
theorem spec_int8 (x : Int) : spec_l02Int8.f x = some (is8 x) := by unfold spec_l02Int8.f; rw [spec_in]; rfl
theorem all_drop8 (l : List Int) (i : Nat) (h : i < l.length) : (l.drop i).all is8 = (is8 (l.getD i 0) && (l.drop (i + 1)).all is8) := by
  rw [drop_getD l 0 i h]; rfl
theorem spec_tOk_l0 (h w c : Int) (l : List Int) (hm : l.length ≤ 9223372036854775806) : ∀ (d k i : Nat), i + d = l.length → d < k → spec_TensorOk.l0 k (i : Int) h w c l = some ((l.drop i).all is8) := by
  intro d
  induction d with
  | zero =>
    intro k i hi hk
    obtain ⟨k, rfl⟩ : ∃ m, k = m + 1 := ⟨k - 1, by omega⟩
    simp only [spec_TensorOk.l0]
    rw [if_neg (by omega), List.drop_of_length_le (by omega)]
    rfl
  | succ d ih =>
    intro k i hi hk
    obtain ⟨k, rfl⟩ : ∃ m, k = m + 1 := ⟨k - 1, by omega⟩
    simp only [spec_TensorOk.l0]
    rw [if_pos (by omega), if_pos (by omega), all_drop8 l i (by omega), w64_succ i (by omega), ih k (i + 1) (by omega) (by omega)]
    simp only [spec_int8, Option.bind_some, rd_natD]
    cases is8 (l.getD i 0) <;> simp
theorem spec_tOk (k : Nat) (h w c : Int) (l : List Int) (hm : l.length ≤ 9223372036854775806) (hk : l.length + 1 < k) : spec_TensorOk.f k h w c l = some (tOk h w c l) := by
  obtain ⟨k, rfl⟩ : ∃ m, k = m + 1 := ⟨k - 1, by omega⟩
  unfold spec_TensorOk.f tOk
  simp only [spec_shapeOk, spec_sizeOf_, Option.bind_some, spec_TensorOk.j0]
  cases shOk h w c with
  | false => simp
  | true =>
    have := spec_tOk_l0 h w c l hm l.length k 0 (by omega) (by omega)
    simp only [if_true, Bool.true_and]
    by_cases e : (l.length : Int) = szN h w c
    · rw [if_neg (by simp [e])]
      simpa [e] using this
    · rw [if_pos (by simp [e])]
      simp [e]
theorem area_l0 (l : List Int) (hm : l.length ≤ 9223372036854775806) : ∀ (d k i : Nat), i + d = l.length → d < k →
    ∃ r, slices_IndexFunc_int_int_at_75.l0 k l (l.length : Int) (i : Int) = some r ∧ (0 ≤ r ↔ (l.drop i).all is8 = false) := by
  intro d
  induction d with
  | zero =>
    intro k i hi hk
    obtain ⟨k, rfl⟩ : ∃ m, k = m + 1 := ⟨k - 1, by omega⟩
    simp only [slices_IndexFunc_int_int_at_75.l0]
    rw [if_neg (by omega), List.drop_of_length_le (by omega)]
    exact ⟨-1, rfl, by simp⟩
  | succ d ih =>
    intro k i hi hk
    obtain ⟨k, rfl⟩ : ∃ m, k = m + 1 := ⟨k - 1, by omega⟩
    simp only [slices_IndexFunc_int_int_at_75.l0]
    rw [if_pos (by omega), if_pos (by omega), if_pos (by omega), all_drop8 l i (by omega)]
    unfold impl_areItems_1.f
    simp only [impl_in_, Option.bind_some, rd_natD]
    cases hr : is8 (l.getD i 0) with
    | false =>
      have : ¬ (-128 ≤ l.getD i 0 ∧ l.getD i 0 ≤ 127) := by simpa [is8] using hr
      exact ⟨i, by simp only [this]; simp, by simp⟩
    | true =>
      have : (-128 ≤ l.getD i 0 ∧ l.getD i 0 ≤ 127) := by simpa [is8] using hr
      obtain ⟨r, h1, h2⟩ := ih k (i + 1) (by omega) (by omega)
      refine ⟨r, ?_, by simpa using h2⟩
      rw [w64_succ i (by omega)]
      simp only [this, and_self]
      simpa using h1
theorem impl_area (k : Nat) (l : List Int) (hm : l.length ≤ 9223372036854775806) (hk : l.length < k) : impl_areItems.f k l = some (l.all is8) := by
  obtain ⟨r, h1, h2⟩ := area_l0 l hm l.length k 0 (by omega) hk
  have h1' : slices_IndexFunc_int_int_at_75.f k l = some r := h1
  unfold impl_areItems.f slices_ContainsFunc_int_int_at_75.f
  rw [h1']
  rw [List.drop_zero] at h2
  simp only [Option.bind_some]
  cases ha : l.all is8 with
  | false => rw [ha] at h2; have := h2.2 rfl; simp [this]
  | true => rw [ha] at h2; have : ¬ 0 ≤ r := fun z => absurd (h2.1 z) (by simp); simp; omega
theorem impl_tOk (k : Nat) (h w c : Int) (l : List Int) (hm : l.length ≤ 9223372036854775806) (hk : l.length < k) : impl_TensorOk.f k h w c l = some (tOk h w c l) := by
  unfold impl_TensorOk.f tOk
  simp only [impl_shapeOk, impl_sizeOf_, Option.bind_some, impl_area k l hm hk]
  cases shOk h w c with
  | false => simp
  | true =>
    simp only [if_true, Bool.true_and]
    by_cases e : (l.length : Int) = szN h w c
    · rw [if_pos e]; simp [e]
    · rw [if_neg e]; simp [e]
theorem tOk_len {h w c : Int} {l : List Int} (ht : tOk h w c l = true) : l.length ≤ 512 := by
  simp only [tOk, Bool.and_eq_true, decide_eq_true_eq] at ht
  have := prod_bd ht.1
  have e : szN h w c = h * w * c := by unfold szN; rw [if_pos ht.1]
  omega

/-- A text of bytes. -/
def tx (l : List UInt8) : ByteArray := ⟨l.toArray⟩
theorem tx_append (a b : List UInt8) : tx a ++ tx b = tx (a ++ b) := by
  apply ByteArray.ext
  simp [tx, ByteArray.data_append]
theorem tx_size (a : List UInt8) : (tx a).size = a.length := by simp [tx, ByteArray.size]
/-- The digits of a number above 0; none of 0. -/
def digs (u : Nat) : List UInt8 := if u = 0 then [] else Go.Lib.decDigits u
theorem digs_step {u : Nat} (h : u ≠ 0) : digs u = digs (u / 10) ++ [UInt8.ofNat (48 + u % 10)] := by
  unfold digs
  rw [if_neg h]
  by_cases c : u < 10
  · rw [if_pos (by omega), Go.Lib.decDigits, dif_pos c, Nat.mod_eq_of_lt c]
    rfl
  · rw [if_neg (by omega), Go.Lib.decDigits, dif_neg c]
theorem one_digit (d : Int) (h0 : 0 ≤ d) (h1 : d ≤ 9) : strOfNums [(wrap64 (48 + d)) % 256] = tx [UInt8.ofNat (48 + d.toNat)] := by
  rw [w64 (by omega) (by omega), Int.emod_eq_of_lt (by omega) (by omega)]
  have : (48 + d).toNat = 48 + d.toNat := by omega
  simp [strOfNums, tx, this]
theorem num_l0 (neg : Bool) : ∀ (n k u : Nat) (x : Int) (s : List UInt8), n < k → u < 10 ^ n → u ≤ 9223372036854775808 → x.natAbs = u → n + s.length ≤ 1000 →
    spec_l01Num.l0 k x (tx s) neg = some (tx ((if neg = true then [45] else []) ++ (digs u ++ s))) := by
  intro n
  induction n with
  | zero =>
    intro k u x s hk hu hu2 hx hs
    obtain ⟨k, rfl⟩ : ∃ m, k = m + 1 := ⟨k - 1, by omega⟩
    have hu0 : u = 0 := by omega
    subst hu0
    rw [spec_l01Num.l0]
    refine ifp (by omega) ?_
    cases neg with
    | true =>
      refine ifp rfl (ifp (by rw [tx_size]; omega) ?_)
      rw [show (⟨#[45]⟩ : ByteArray) = tx [45] from rfl, tx_append]
      rfl
    | false => exact ifn (by simp) rfl
  | succ n ih =>
    intro k u x s hk hu hu2 hx hs
    obtain ⟨k, rfl⟩ : ∃ m, k = m + 1 := ⟨k - 1, by omega⟩
    by_cases h0 : u = 0
    · subst h0
      rw [spec_l01Num.l0]
      refine ifp (by omega) ?_
      cases neg with
      | true =>
        refine ifp rfl (ifp (by rw [tx_size]; omega) ?_)
        rw [show (⟨#[45]⟩ : ByteArray) = tx [45] from rfl, tx_append]
        rfl
      | false => exact ifn (by simp) rfl
    · have hp : u < 10 ^ n * 10 := by rw [← Nat.pow_succ]; exact hu
      have hq : u / 10 < 10 ^ n := Nat.div_lt_of_lt_mul (by rw [Nat.mul_comm]; exact hp)
      have e : (if neg = true then [45] else []) ++ (digs u ++ s) = (if neg = true then [45] else []) ++ (digs (u / 10) ++ (UInt8.ofNat (48 + u % 10) :: s)) := by
        rw [digs_step h0]; simp
      have hx0 : ¬ x = 0 := by omega
      have ht : (Int.tdiv x 10).natAbs = x.natAbs / 10 := Int.natAbs_tdiv x 10
      have hm : (Int.tmod x 10).natAbs = x.natAbs % 10 := Int.natAbs_tmod x 10
      have g := ih k (u / 10) (Int.tdiv x 10) (UInt8.ofNat (48 + u % 10) :: s) (by omega) hq (by omega) (by omega) (by simp; omega)
      have hw : wrap64 (Int.tdiv x 10) = Int.tdiv x 10 := w64 (by omega) (by omega)
      rw [spec_l01Num.l0, e, hw]
      refine ifn hx0 ?_
      by_cases c : Int.tmod x 10 < 0
      · have hd : -(Int.tmod x 10) = ((u % 10 : Nat) : Int) := by omega
        refine ifp c (st rfl ?_)
        rw [w64 (x := -(Int.tmod x 10)) (by omega) (by omega), hd, one_digit _ (by omega) (by omega)]
        refine ifp (by rw [tx_size, tx_size]; simp; omega) ?_
        rw [tx_append]
        exact g
      · have hd : Int.tmod x 10 = ((u % 10 : Nat) : Int) := by omega
        refine ifn c (st rfl ?_)
        rw [hd, one_digit _ (by omega) (by omega)]
        refine ifp (by rw [tx_size, tx_size]; simp; omega) ?_
        rw [tx_append]
        exact g
theorem spec_num (k : Nat) (x : Int) (h0 : -9223372036854775808 ≤ x) (h1 : x ≤ 9223372036854775807) (hk : 100 ≤ k) : spec_l01Num.f k x = some (itoaS x) := by
  unfold spec_l01Num.f itoaS Go.Lib.itoa
  by_cases c : x = 0
  · subst c
    refine ifp rfl ?_
    rw [if_neg (by omega), Go.Lib.decDigits, dif_pos (by decide)]
    rfl
  · refine ifn c ?_
    have g := num_l0 (decide (x < 0)) 20 k x.natAbs x [] (by omega) (by omega) (by omega) rfl (by simp)
    refine (show spec_l01Num.l0 k x (tx []) _ = _ from g).trans ?_
    have hd : digs x.natAbs = Go.Lib.decDigits x.natAbs := by unfold digs; rw [if_neg (by omega)]
    rw [hd, List.append_nil]
    by_cases c2 : x < 0
    · rw [decide_eq_true c2, if_pos rfl, if_pos c2]
      rfl
    · rw [decide_eq_false c2, if_neg (by simp), if_neg c2, show x.natAbs = x.toNat by omega]
      rfl
theorem impl_num (x : Int) (h0 : -9223372036854775808 ≤ x) (h1 : x ≤ 9223372036854775807) : strconv_Itoa.f x = some (itoaS x) := ifp h0 (ifp h1 rfl)
theorem itoaS_size (x : Int) (h0 : -9223372036854775808 ≤ x) (h1 : x ≤ 9223372036854775807) : (itoaS x).size ≤ 21 := by
  have := Go.Lib.itoa_length_le x h0 h1
  simpa [itoaS, ByteArray.size] using this

def In64 (x : Int) : Prop := -9223372036854775808 ≤ x ∧ x ≤ 9223372036854775807
theorem it_tx (x : Int) : itoaS x = tx (Go.Lib.itoa x) := rfl
theorem b58_ : (⟨#[58]⟩ : ByteArray) = tx [58] := rfl
theorem b120_ : (⟨#[120]⟩ : ByteArray) = tx [120] := rfl
theorem b32_ : (⟨#[32]⟩ : ByteArray) = tx [32] := rfl
theorem itoa_len (x : Int) (h : In64 x) : (Go.Lib.itoa x).length ≤ 21 := by have := Go.Lib.itoa_length_le x h.1 h.2; omega
/-- A tensor's text. -/
def tenB (h w c : Int) (l : List Int) : List UInt8 := Go.Lib.itoa h ++ [120] ++ Go.Lib.itoa w ++ [120] ++ Go.Lib.itoa c ++ [58] ++ spacedB l
def tenT (h w c : Int) (l : List Int) : List UInt8 := if tOk h w c l = true then tenB h w c l else []
theorem sp_drop (l : List Int) (i : Nat) (h : i < l.length) : spacedB (l.drop i) = [32] ++ Go.Lib.itoa (l.getD i 0) ++ spacedB (l.drop (i + 1)) := by
  have e : l.drop i = l.getD i 0 :: l.drop (i + 1) := by
    rw [List.drop_eq_getElem_cons h, List.getD_eq_getElem?_getD, List.getElem?_eq_getElem h]
    rfl
  rw [e]
  simp only [spacedB, List.map_cons, List.flatten_cons]
  rfl
theorem spec_ten_l0 (h w c : Int) (l : List Int) (hl : l.length ≤ 1000000) (ho : ∀ x ∈ l, In64 x) : ∀ (d k i : Nat) (s : List UInt8), i + d = l.length → d + 200 < k → s.length ≤ 1000 + 22 * i →
    spec_TensorText.l0 k (tx s) (i : Int) h w c l = some (tx (s ++ spacedB (l.drop i))) := by
  intro d
  induction d with
  | zero =>
    intro k i s hi hk hs
    obtain ⟨k, rfl⟩ : ∃ m, k = m + 1 := ⟨k - 1, by omega⟩
    rw [spec_TensorText.l0, List.drop_eq_nil_of_le (by omega)]
    refine ifn (by omega) ?_
    simp [spacedB]
  | succ d ih =>
    intro k i s hi hk hs
    obtain ⟨k, rfl⟩ : ∃ m, k = m + 1 := ⟨k - 1, by omega⟩
    have hx := ho _ (mem_getD l 0 i (by omega))
    have h2 := itoa_len _ hx
    rw [spec_TensorText.l0, sp_drop l i (by omega)]
    have hrd : rd l (i : Int) = l.getD i 0 := by first | rfl | simp [rd]
    rw [hrd]
    refine ifp (by omega) (ifp (by rw [tx_size]; omega) (ifp (by omega) (st (spec_num k _ hx.1 hx.2 (by omega)) ?_)))
    simp only [it_tx, b32_, tx_append, tx_size]
    refine ifp (by simp only [List.length_append, List.length_cons, List.length_nil]; omega) ?_
    rw [w64_succ i (by omega), ih k (i + 1) _ (by omega) (by omega) (by simp only [List.length_append, List.length_cons, List.length_nil]; omega)]
    simp only [List.append_assoc]
theorem ten_text (k : Nat) (h w c : Int) (l : List Int) (hm : l.length ≤ 1048576) (hk : 2000000 ≤ k) :
    spec_TensorText.f k h w c l = some (tx (tenT h w c l)) ∧ impl_TensorText.f k h w c l = some (tx (tenT h w c l)) := by
  have s1 := spec_tOk k h w c l (by omega) (by omega)
  have s2 := impl_tOk k h w c l (by omega) (by omega)
  by_cases t : tOk h w c l = true
  · have hv : tenT h w c l = tenB h w c l := if_pos t
    rw [hv]
    have hl := tOk_len t
    have ht := t
    unfold tOk at ht
    simp only [Bool.and_eq_true, List.all_eq_true] at ht
    obtain ⟨hsh, _, h8⟩ := ht
    obtain ⟨⟨a0, a1⟩, ⟨b0, b1⟩, c0, c1⟩ := shOk_iff.1 hsh
    have ho : ∀ x ∈ l, In64 x := fun x hx => by have := of_decide_eq_true (h8 x hx); exact ⟨by omega, by omega⟩
    have l0 := itoa_len h ⟨by omega, by omega⟩
    have l1 := itoa_len w ⟨by omega, by omega⟩
    have l2 := itoa_len c ⟨by omega, by omega⟩
    have ls := spaced_len l ho
    constructor
    · unfold spec_TensorText.f
      refine st s1 (ifp t (st (spec_num k h (by omega) (by omega) (by omega)) ?_))
      simp only [it_tx, b58_, b120_, tx_append, tx_size]
      refine ifp (by omega) (st (spec_num k w (by omega) (by omega) (by omega)) ?_)
      simp only [it_tx, b58_, b120_, tx_append, tx_size]
      refine ifp (by simp only [List.length_append, List.length_cons, List.length_nil]; omega) (ifp (by simp only [List.length_append, List.length_cons, List.length_nil]; omega) (st (spec_num k c (by omega) (by omega) (by omega)) ?_))
      simp only [it_tx, b58_, b120_, tx_append, tx_size]
      refine ifp (by simp only [List.length_append, List.length_cons, List.length_nil]; omega) (ifp (by simp only [List.length_append, List.length_cons, List.length_nil]; omega) ?_)
      have g := spec_ten_l0 h w c l (by omega) ho l.length k 0 (Go.Lib.itoa h ++ [120] ++ Go.Lib.itoa w ++ [120] ++ Go.Lib.itoa c ++ [58]) (by omega) (by omega) (by simp only [List.length_append, List.length_cons, List.length_nil]; omega)
      exact g
    · have e1 : impl_Shape_sides.f h w c = some (tx (Go.Lib.itoa h ++ [120] ++ Go.Lib.itoa w ++ [120] ++ Go.Lib.itoa c)) := by
        unfold impl_Shape_sides.f
        refine st (impl_num h (by omega) (by omega)) ?_
        simp only [it_tx, b58_, b120_, tx_append, tx_size]
        refine ifp (by omega) (st (impl_num w (by omega) (by omega)) ?_)
        simp only [it_tx, b58_, b120_, tx_append, tx_size]
        refine ifp (by simp only [List.length_append, List.length_cons, List.length_nil]; omega) (ifp (by simp only [List.length_append, List.length_cons, List.length_nil]; omega) (st (impl_num c (by omega) (by omega)) ?_))
        simp only [it_tx, b58_, b120_, tx_append, tx_size]
        exact ifp (by simp only [List.length_append, List.length_cons, List.length_nil]; omega) rfl
      have e2 : impl_spaced.f l = some (tx (spacedB l)) := by
        unfold impl_spaced.f
        refine ifp ?_ rfl
        simp only [Bool.and_eq_true, decide_eq_true_eq, List.all_eq_true]
        exact ⟨by omega, ho⟩
      unfold impl_TensorText.f
      refine st s2 (ifp t (st e1 ?_))
      simp only [it_tx, b58_, b120_, tx_append, tx_size]
      refine ifp (by simp only [List.length_append, List.length_cons, List.length_nil]; omega) (st e2 ?_)
      simp only [it_tx, b58_, b120_, tx_append, tx_size]
      exact ifp (by simp only [List.length_append, List.length_cons, List.length_nil]; omega) rfl
  · have hv : tenT h w c l = [] := if_neg t
    rw [hv]
    exact ⟨st s1 (ifn t rfl), st s2 (ifn t rfl)⟩
theorem tenT_len (h w c : Int) (l : List Int) : (tenT h w c l).length ≤ 20000 := by
  unfold tenT
  split
  · rename_i t
    have hl := tOk_len t
    have ht := t
    unfold tOk at ht
    simp only [Bool.and_eq_true, List.all_eq_true] at ht
    obtain ⟨hsh, _, h8⟩ := ht
    obtain ⟨⟨a0, a1⟩, ⟨b0, b1⟩, c0, c1⟩ := shOk_iff.1 hsh
    have ho : ∀ x ∈ l, In64 x := fun x hx => by have := of_decide_eq_true (h8 x hx); exact ⟨by omega, by omega⟩
    have l0 := itoa_len h ⟨by omega, by omega⟩
    have l1 := itoa_len w ⟨by omega, by omega⟩
    have l2 := itoa_len c ⟨by omega, by omega⟩
    have ls := spaced_len l ho
    simp only [tenB, List.length_append, List.length_cons, List.length_nil]
    omega
  · simp

theorem event_text2 (n a b h w c : Int) (l : List Int) (ha : In64 a) (hb : In64 b) (hm : l.length ≤ 1048576) :
    ∃ v, ∀ k, 2000000 ≤ k → spec_EventText.f k n a b h w c l = some v ∧ impl_EventText.f k n a b h w c l = some v := by
  have tt := fun k hk => ten_text k h w c l hm hk
  have t3 := tenT_len h w c l
  rw [← tx_size] at t3
  generalize tx (tenT h w c l) = T at tt t3
  have sa := itoaS_size a ha.1 ha.2
  have sb := itoaS_size b hb.1 hb.2
  have z1 : (⟨#[108, 111, 97, 100, 32]⟩ : ByteArray).size = 5 := rfl
  have z2 : (⟨#[32, 99, 111, 115, 116, 32]⟩ : ByteArray).size = 6 := rfl
  have z3 : (⟨#[100, 114, 111, 112, 32]⟩ : ByteArray).size = 5 := rfl
  have z4 : (⟨#[97, 100, 109, 105, 116, 32]⟩ : ByteArray).size = 6 := rfl
  have z5 : (⟨#[32, 100, 117, 101, 32]⟩ : ByteArray).size = 5 := rfl
  have z6 : (⟨#[100, 111, 110, 101, 32]⟩ : ByteArray).size = 5 := rfl
  have z7 : (⟨#[32, 97, 116, 32]⟩ : ByteArray).size = 4 := rfl
  have z8 : (⟨#[58, 32]⟩ : ByteArray).size = 2 := rfl
  have z9 : (⟨#[99, 97, 110, 99, 101, 108, 32]⟩ : ByteArray).size = 7 := rfl
  have z10 : (⟨#[114, 101, 102, 117, 115, 101, 32]⟩ : ByteArray).size = 7 := rfl
  have z11 : (⟨#[32, 99, 111, 100, 101, 32]⟩ : ByteArray).size = 6 := rfl
  have na := fun (k : Nat) (hk : 2000000 ≤ k) => spec_num k a ha.1 ha.2 (by omega)
  have nb := fun (k : Nat) (hk : 2000000 ≤ k) => spec_num k b hb.1 hb.2 (by omega)
  have ia := impl_num a ha.1 ha.2
  have ib := impl_num b hb.1 hb.2
  generalize itoaS a = x at sa na ia
  generalize itoaS b = y at sb nb ib
  unfold spec_EventText.f impl_EventText.f
  by_cases c0 : n = 0
  · refine ⟨_, fun k hk => ⟨st (na k hk) (st (nb k hk) (ifp c0 (ifp (by omega) (ifp ?_ (ifp ?_ rfl))))), st ia (st ib (ifp c0 (ifp (by omega) (ifp ?_ (ifp ?_ rfl)))))⟩⟩ <;> (simp only [ByteArray.size_append]; omega)
  by_cases c1 : n = 1
  · exact ⟨_, fun k hk => ⟨st (na k hk) (st (nb k hk) (ifn c0 (ifp c1 (ifp (by omega) rfl)))), st ia (st ib (ifn c0 (ifp c1 (ifp (by omega) rfl))))⟩⟩
  by_cases c2 : n = 2
  · refine ⟨_, fun k hk => ⟨st (na k hk) (st (nb k hk) (ifn c0 (ifn c1 (ifp c2 (ifp (by omega) (ifp ?_ (ifp ?_ rfl))))))), st ia (st ib (ifn c0 (ifn c1 (ifp c2 (ifp (by omega) (ifp ?_ (ifp ?_ rfl)))))))⟩⟩ <;> (simp only [ByteArray.size_append]; omega)
  by_cases c3 : n = 3
  · refine ⟨_, fun k hk => ⟨st (na k hk) (st (nb k hk) (ifn c0 (ifn c1 (ifn c2 (ifp c3 (ifp (by omega) (ifp ?_ (ifp ?_ (ifp ?_ (st (tt k hk).1 (ifp ?_ rfl))))))))))), st ia (st ib (ifn c0 (ifn c1 (ifn c2 (ifp c3 (ifp (by omega) (ifp ?_ (ifp ?_ (ifp ?_ (st (tt k hk).2 (ifp ?_ rfl)))))))))))⟩⟩ <;> (simp only [ByteArray.size_append]; omega)
  by_cases c4 : n = 4
  · exact ⟨_, fun k hk => ⟨st (na k hk) (st (nb k hk) (ifn c0 (ifn c1 (ifn c2 (ifn c3 (ifp c4 (ifp (by omega) rfl))))))), st ia (st ib (ifn c0 (ifn c1 (ifn c2 (ifn c3 (ifp c4 (ifp (by omega) rfl)))))))⟩⟩
  by_cases c5 : n = 5
  · refine ⟨_, fun k hk => ⟨st (na k hk) (st (nb k hk) (ifn c0 (ifn c1 (ifn c2 (ifn c3 (ifn c4 (ifp c5 (ifp (by omega) (ifp ?_ (ifp ?_ rfl)))))))))), st ia (st ib (ifn c0 (ifn c1 (ifn c2 (ifn c3 (ifn c4 (ifp c5 (ifp (by omega) (ifp ?_ (ifp ?_ rfl))))))))))⟩⟩ <;> (simp only [ByteArray.size_append]; omega)
  exact ⟨_, fun k hk => ⟨st (na k hk) (st (nb k hk) (ifn c0 (ifn c1 (ifn c2 (ifn c3 (ifn c4 (ifn c5 rfl))))))), st ia (st ib (ifn c0 (ifn c1 (ifn c2 (ifn c3 (ifn c4 (ifn c5 rfl)))))))⟩⟩
theorem event_text (k : Nat) (n a b h w c : Int) (l : List Int) (ha : In64 a) (hb : In64 b) (hm : l.length ≤ 1048576) (hk : 2000000 ≤ k) :
    ∃ v, spec_EventText.f k n a b h w c l = some v ∧ impl_EventText.f k n a b h w c l = some v := by
  obtain ⟨v, hv⟩ := event_text2 n a b h w c l ha hb hm
  exact ⟨v, hv k hk⟩

def EvP (x : S35) : Prop := In64 x.f1 ∧ In64 x.f2 ∧ x.f3.f1.length ≤ 1048576
def EvV (V : S35 → ByteArray) : Prop := ∀ x : S35, EvP x → ∀ k, 2000000 ≤ k → spec_EventText.f k x.f0 x.f1 x.f2 x.f3.f0.f0 x.f3.f0.f1 x.f3.f0.f2 x.f3.f1 = some (V x) ∧ impl_EventText.f k x.f0 x.f1 x.f2 x.f3.f0.f0 x.f3.f0.f1 x.f3.f0.f2 x.f3.f1 = some (V x)
theorem evV_ex : ∃ V, EvV V := by
  have h : ∀ x : S35, ∃ v : ByteArray, EvP x → ∀ k, 2000000 ≤ k → spec_EventText.f k x.f0 x.f1 x.f2 x.f3.f0.f0 x.f3.f0.f1 x.f3.f0.f2 x.f3.f1 = some v ∧ impl_EventText.f k x.f0 x.f1 x.f2 x.f3.f0.f0 x.f3.f0.f1 x.f3.f0.f2 x.f3.f1 = some v := by
    intro x
    by_cases c : EvP x
    · obtain ⟨v, hv⟩ := event_text2 x.f0 x.f1 x.f2 x.f3.f0.f0 x.f3.f0.f1 x.f3.f0.f2 x.f3.f1 c.1 c.2.1 c.2.2
      exact ⟨v, fun _ => hv⟩
    · exact ⟨⟨#[]⟩, fun h => absurd h c⟩
  obtain ⟨V, hV⟩ := Classical.axiomOfChoice h
  exact ⟨V, hV⟩
def zipB (V : S35 → ByteArray) (x y : List S35) (i : Nat) : Bool := ((x.drop i).zip (y.drop i)).all fun p => decide ((V p.1).toList = (V p.2).toList)
theorem drop35 (l : List S35) (i : Nat) (h : i < l.length) : l.drop i = l.getD i z35 :: l.drop (i + 1) := by
  rw [List.drop_eq_getElem_cons h, List.getD_eq_getElem?_getD, List.getElem?_eq_getElem h]
  rfl
theorem zipB_step (V : S35 → ByteArray) (x y : List S35) (i : Nat) (h : i < x.length) (g : i < y.length) : zipB V x y i = (decide ((V (x.getD i z35)).toList = (V (y.getD i z35)).toList) && zipB V x y (i + 1)) := by
  unfold zipB
  rw [drop35 x i h, drop35 y i g]
  rfl
theorem zipB_end (V : S35 → ByteArray) (x y : List S35) (i : Nat) (h : x.length ≤ i ∨ y.length ≤ i) : zipB V x y i = true := by
  unfold zipB
  rcases h with h | h
  · rw [List.drop_eq_nil_of_le h]; rfl
  · rw [List.drop_eq_nil_of_le h, List.zip_nil_right]; rfl
theorem spec_same_ev (V : S35 → ByteArray) (hV : EvV V) (x y : List S35) (hx : ∀ e ∈ x, EvP e) (hy : ∀ e ∈ y, EvP e) (hl : x.length = y.length) (hm : x.length ≤ 1048576) : ∀ (d k i : Nat), i + d = x.length → d + 2000000 < k →
    spec_SameEvents.l0 k x y (i : Int) = some (zipB V x y i) := by
  intro d
  induction d with
  | zero =>
    intro k i hi hk
    obtain ⟨k, rfl⟩ : ∃ m, k = m + 1 := ⟨k - 1, by omega⟩
    rw [spec_SameEvents.l0, zipB_end V x y i (Or.inl (by omega))]
    exact ifn (by omega) rfl
  | succ d ih =>
    intro k i hi hk
    obtain ⟨k, rfl⟩ : ∃ m, k = m + 1 := ⟨k - 1, by omega⟩
    have e1 := (hV _ (hx _ (mem_getD x z35 i (by omega))) k (by omega)).1
    have e2 := (hV _ (hy _ (mem_getD y z35 i (by omega))) k (by omega)).1
    rw [zipB_step V x y i (by omega) (by omega)]
    simp only [spec_SameEvents.l0, rd_T35, Int.toNat_natCast]
    refine ifp (by omega) (ifp (by omega) (st e1 (ifp (by omega) (st e2 ?_))))
    by_cases c : (V (x.getD i z35)).toList = (V (y.getD i z35)).toList
    · refine ifp c ?_
      rw [w64_succ i (by omega), ih k (i + 1) (by omega) (by omega), decide_eq_true c, Bool.true_and]
    · refine ifn c ?_
      rw [decide_eq_false c, Bool.false_and]
theorem impl_same_ev (V : S35 → ByteArray) (hV : EvV V) (x y : List S35) (hx : ∀ e ∈ x, EvP e) (hy : ∀ e ∈ y, EvP e) (hm : x.length ≤ 1048576) (hn : y.length ≤ 1048576) (n : Nat) (h1 : n ≤ x.length) (h2 : n ≤ y.length) (h3 : x.length ≤ n ∨ y.length ≤ n) : ∀ (d k i : Nat), i + d = n → d + 2000000 < k →
    impl_SameEvents.l0 k x y (n : Int) (i : Int) = some (zipB V x y i && ((x.length : Int) == (y.length : Int))) := by
  intro d
  induction d with
  | zero =>
    intro k i hi hk
    obtain ⟨k, rfl⟩ : ∃ m, k = m + 1 := ⟨k - 1, by omega⟩
    rw [impl_SameEvents.l0, zipB_end V x y i (by omega), Bool.true_and]
    exact ifn (by omega) rfl
  | succ d ih =>
    intro k i hi hk
    obtain ⟨k, rfl⟩ : ∃ m, k = m + 1 := ⟨k - 1, by omega⟩
    have e1 := (hV _ (hx _ (mem_getD x z35 i (by omega))) k (by omega)).2
    have e2 := (hV _ (hy _ (mem_getD y z35 i (by omega))) k (by omega)).2
    rw [zipB_step V x y i (by omega) (by omega)]
    simp only [impl_SameEvents.l0, rd_T35, Int.toNat_natCast]
    refine ifp (by omega) (ifp (by omega) (ifp (by omega) (st e1 (ifp (by omega) (st e2 ?_)))))
    by_cases c : (V (x.getD i z35)).toList = (V (y.getD i z35)).toList
    · refine ifp c ?_
      rw [w64_succ i (by omega), ih k (i + 1) (by omega) (by omega), decide_eq_true c, Bool.true_and]
    · refine ifn c ?_
      rw [decide_eq_false c, Bool.false_and, Bool.false_and]
theorem same_ev (k : Nat) (x y : List S35) (hx : ∀ e ∈ x, EvP e) (hy : ∀ e ∈ y, EvP e) (hm : x.length ≤ 1048576) (hn : y.length ≤ 1048576) (hk : 4000000 ≤ k) : ∃ v, spec_SameEvents.f k x y = some v ∧ impl_SameEvents.f k x y = some v := by
  obtain ⟨V, hV⟩ := evV_ex
  have hi : impl_SameEvents.f k x y = some (zipB V x y 0 && ((x.length : Int) == (y.length : Int))) := by
    unfold impl_SameEvents.f
    by_cases c : y.length < x.length
    · have e : mn (x.length : Int) (y.length : Int) = ((y.length : Nat) : Int) := by unfold mn; rw [if_pos (by omega)]
      rw [e]
      exact impl_same_ev V hV x y hx hy hm hn y.length (by omega) (Nat.le_refl _) (Or.inr (Nat.le_refl _)) y.length k 0 (by omega) (by omega)
    · have e : mn (x.length : Int) (y.length : Int) = ((x.length : Nat) : Int) := by unfold mn; rw [if_neg (by omega)]
      rw [e]
      exact impl_same_ev V hV x y hx hy hm hn x.length (Nat.le_refl _) (by omega) (Or.inl (Nat.le_refl _)) x.length k 0 (by omega) (by omega)
  refine ⟨_, ?_, hi⟩
  unfold spec_SameEvents.f
  by_cases c : x.length = y.length
  · refine ifp (by omega) ?_
    have e : ((x.length : Int) == (y.length : Int)) = true := beq_iff_eq.2 (by omega)
    rw [e, Bool.and_true]
    exact spec_same_ev V hV x y hx hy c hm x.length k 0 (by omega) (by omega)
  · refine ifn (by omega) ?_
    have e : ((x.length : Int) == (y.length : Int)) = false := beq_eq_false_iff_ne.2 (by omega)
    rw [e, Bool.and_false]


theorem FnExactSameEvents : laws_FnExactSameEvents.Pure := by
  intro x y hx hy
  obtain ⟨k, hk⟩ : ∃ k : Nat, 1000000000 ≤ k := ⟨_, Nat.le_refl _⟩
  refine ⟨k, ?_⟩
  unfold laws_FnExactSameEvents.f
  obtain ⟨r, e, h⟩ := szEventS_ k x 1048576 hx (by omega) (by omega) (by omega)
  rw [e]; simp only [Option.bind_some]; clear e
  rcases h with h | ⟨h0, h1, ho⟩
  · rw [if_pos h]
  rw [if_neg (by omega)]
  have ox := ho
  obtain ⟨r2, e, h⟩ := szEventS_ k y r hy (by omega) (by omega) (by omega)
  rw [e]; simp only [Option.bind_some]; clear e
  rcases h with h | ⟨h0, h1, ho⟩
  · rw [if_pos h]
  rw [if_neg (by omega)]

  have oy := ho
  have ox2 : LB Ok35 (x.map cv28_35) := ox.map ok_cv28_35
  have oy2 : LB Ok35 (y.map cv28_35) := oy.map ok_cv28_35
  have px : ∀ (l : List S28), WL Wt28 l → LB Ok28 l → ∀ e ∈ l.map cv28_35, EvP e := fun l hl ol e he => by
    obtain ⟨a, ha, rfl⟩ := List.mem_map.1 he
    obtain ⟨h0, h1, h2, h3⟩ := hl.2 a ha
    exact ⟨WI.i64 h1, WI.i64 h2, (ol.2 a ha).1⟩
  obtain ⟨v, e1, e2⟩ := same_ev k (x.map cv28_35) (y.map cv28_35) (px x hx ox) (px y hy oy) ox2.1 oy2.1 (by omega)
  repeat (first
    | (refine st e1 ?_; (try dsimp only))
    | (refine st e2 ?_; (try dsimp only))
    | (refine st (toEventS_ _ _ (by assumption) (by omega)) ?_; (try dsimp only))
    | (refine st (eqEventS_ _ _ (by assumption) (by omega)) ?_; (try dsimp only))
    | refine ifp rfl ?_
    | refine ifn (by omega) ?_
    | refine ifp (by omega) ?_
    | refine ifn (by simp) ?_
    | refine ifp (by simp) ?_
    | rfl)

end Go.Proofs.YtemnodpabflkoaaDoor.Pure
