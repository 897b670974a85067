/- What is left of the statement FnExactStalledBetween once the Go functions are Lean functions: the program's StalledBetween and the reference's answer alike. No condition. -/
import Derived.Test.YtoggdgahfagegaaQFnExactStalledBetweenx4
import Derived.Test.YtoggdgahfagegaaAid
set_option linter.unusedVariables false
set_option linter.unusedSimpArgs false
namespace Go.Proofs.Ytoggdgahfagegaa.Pure
open Go.RowKit Go.Proofs.Ytoggdgahfagegaa.QFnExactStalledBetween Go.Proofs.YtoggdgahfagegaaW.PrintWords Go.Proofs.YtoggdgahfagegaaW.PrintLast Go.Proofs.YtoggdgahfagegaaW.PrintMore Go.Proofs.YtoggdgahfagegaaW.Aid


theorem spec_in (x lo hi : Int) : spec_l01In.f x lo hi = some (decide (lo ≤ x ∧ x ≤ hi)) := by
  unfold spec_l01In.f
  split
  · simp_all
  · simp; omega
theorem impl_in_ (x lo hi : Int) : impl_in.f x lo hi = some (decide (lo ≤ x ∧ x ≤ hi)) := by
  unfold impl_in.f
  split
  · simp_all
  · simp; omega

def LB {α : Type} (P : α → Prop) (l : List α) : Prop := l.length ≤ 1048576 ∧ ∀ x ∈ l, P x
theorem LB.map {α β : Type} {P : α → Prop} {Q : β → Prop} {f : α → β} {l : List α} (hf : ∀ x, P x → Q (f x)) (h : LB P l) : LB Q (l.map f) := ⟨by simpa using h.1, fun y hy => by obtain ⟨x, hx, rfl⟩ := List.mem_map.1 hy; exact hf x (h.2 x hx)⟩
theorem map_getD {α β : Type} (f : α → β) (l : List α) (i : Nat) (h : i < l.length) (d : α) (d' : β) : (l.map f).getD i d' = f (l.getD i d) := by simp [h]
theorem szIntS_ {W : Int → Prop} (l : List (Int)) (a : Int) (hw : WL W l) (h0 : 0 ≤ a) (h1 : a ≤ 1048576) : ∃ r, laws_szIntS.f l a = some r ∧ (r < 0 ∨ (0 ≤ r ∧ r ≤ a ∧ LB (fun _ => True) l)) := by
  have hm : l.length ≤ 9223372036854775807 := hw.1
  have he : wrap64 (a - (l.length : Int)) = a - l.length := w64 (by omega) (by omega)
  unfold laws_szIntS.f
  rw [he]
  by_cases h : a - (l.length : Int) < 0
  · exact ⟨-1, if_pos h, Or.inl (by omega)⟩
  · rw [if_neg h]
    exact ⟨_, rfl, Or.inr ⟨by omega, by omega, by omega, fun _ _ => trivial⟩⟩
theorem szTensor_ {Wl0_3 : Int → Prop} (a0_0 : Int) (a0_1 : Int) (a0_2 : Int) (l0_3 : List (Int)) (a1 : Int) (wl0_3 : WL Wl0_3 l0_3) (h0 : 0 ≤ a1) (h1 : a1 ≤ 1048576) : ∃ r, laws_szTensor.f a0_0 a0_1 a0_2 l0_3 a1 = some r ∧ (r < 0 ∨ (0 ≤ r ∧ r ≤ a1 ∧ LB (fun _ => True) l0_3)) := by
  unfold laws_szTensor.f
  obtain ⟨r1, e1, g1⟩ := szIntS_ l0_3 a1 wl0_3 (by omega) (by omega)
  rw [e1]
  simp only [Option.bind_some]
  rcases g1 with g1 | ⟨p1, u1, g1⟩
  · exact ⟨-1, if_pos g1, Or.inl (by omega)⟩
  rw [if_neg (by omega)]
  exact ⟨r1, rfl, Or.inr ⟨by omega, by omega, g1⟩⟩
theorem szByteS_ {W : Int → Prop} (l : List (Int)) (a : Int) (hw : WL W l) (h0 : 0 ≤ a) (h1 : a ≤ 1048576) : ∃ r, laws_szByteS.f l a = some r ∧ (r < 0 ∨ (0 ≤ r ∧ r ≤ a ∧ LB (fun _ => True) l)) := by
  have hm : l.length ≤ 9223372036854775807 := hw.1
  have he : wrap64 (a - (l.length : Int)) = a - l.length := w64 (by omega) (by omega)
  unfold laws_szByteS.f
  rw [he]
  by_cases h : a - (l.length : Int) < 0
  · exact ⟨-1, if_pos h, Or.inl (by omega)⟩
  · rw [if_neg h]
    exact ⟨_, rfl, Or.inr ⟨by omega, by omega, by omega, fun _ _ => trivial⟩⟩
theorem szStep_ {Wl0_3 : Int → Prop} {Wl0_7 : Int → Prop} (a0_0 : Int) (a0_1 : Int) (a0_2 : Int) (l0_3 : List (Int)) (a0_4 : Int) (a0_5 : Int) (a0_6 : Int) (l0_7 : List (Int)) (a1 : Int) (wl0_3 : WL Wl0_3 l0_3) (wl0_7 : WL Wl0_7 l0_7) (h0 : 0 ≤ a1) (h1 : a1 ≤ 1048576) : ∃ r, laws_szStep.f a0_0 a0_1 a0_2 l0_3 a0_4 a0_5 a0_6 l0_7 a1 = some r ∧ (r < 0 ∨ (0 ≤ r ∧ r ≤ a1 ∧ LB (fun _ => True) l0_3 ∧ LB (fun _ => True) l0_7)) := by
  unfold laws_szStep.f
  obtain ⟨r1, e1, g1⟩ := szByteS_ l0_3 a1 wl0_3 (by omega) (by omega)
  rw [e1]
  simp only [Option.bind_some]
  rcases g1 with g1 | ⟨p1, u1, g1⟩
  · exact ⟨-1, if_pos g1, Or.inl (by omega)⟩
  rw [if_neg (by omega)]
  obtain ⟨r2, e2, g2⟩ := szTensor_ a0_4 a0_5 a0_6 l0_7 r1 wl0_7 (by omega) (by omega)
  rw [e2]
  simp only [Option.bind_some]
  rcases g2 with g2 | ⟨p2, u2, g2⟩
  · exact ⟨-1, if_pos g2, Or.inl (by omega)⟩
  rw [if_neg (by omega)]
  exact ⟨r2, rfl, Or.inr ⟨by omega, by omega, g1, g2⟩⟩
def Ok86 (x : S86) : Prop := (LB (fun _ => True)) x.f3 ∧ (LB (fun _ => True)) x.f4.f1
theorem szStepS_l0 (l : List (S86)) (hw : WL Wt86 l) (hm : l.length ≤ 1048576) : ∀ (d k i : Nat) (a : Int), i + d = l.length → d + 1048580 < k → 0 ≤ a → a ≤ 1048576 → ∃ r, laws_szStepS.l0 k l a (i : Int) = some r ∧ (r < 0 ∨ (0 ≤ r ∧ r ≤ a ∧ ∀ x ∈ l.drop i, Ok86 x)) := by
  intro d
  induction d with
  | zero =>
    intro k i a hi hk h0 h1
    obtain ⟨k, rfl⟩ : ∃ m, k = m + 1 := ⟨k - 1, by omega⟩
    simp only [laws_szStepS.l0]
    rw [if_neg (by omega), List.drop_of_length_le (by omega)]
    exact ⟨a, rfl, Or.inr ⟨h0, Int.le_refl _, fun x hx => absurd hx (by simp)⟩⟩
  | succ d ih =>
    intro k i a hi hk h0 h1
    obtain ⟨k, rfl⟩ : ∃ m, k = m + 1 := ⟨k - 1, by omega⟩
    have hx := hw.2 _ (mem_getD l z86 i (by omega))
    have hw0 : (WL (WI .u8)) (l.getD i z86).f3 := hx.2.2.2.1
    have hw1 : (WL (WI .i64)) (l.getD i z86).f4.f1 := hx.2.2.2.2.2
    simp only [laws_szStepS.l0, rd_L10, rd_L2, rd_L4, rd_T70, rd_T72, rd_T75, rd_T77, rd_T86, rd_T89, Int.toNat_natCast]
    rw [if_pos (by omega), if_pos (by omega)]
    obtain ⟨r, e, h⟩ := szStep_ (l.getD i z86).f0 (l.getD i z86).f1 (l.getD i z86).f2 (l.getD i z86).f3 (l.getD i z86).f4.f0.f0 (l.getD i z86).f4.f0.f1 (l.getD i z86).f4.f0.f2 (l.getD i z86).f4.f1 a hw0 hw1 h0 h1
    rw [e]
    simp only [Option.bind_some]
    rcases h with h | ⟨h1, h2, h3⟩
    · exact ⟨-1, if_pos h, Or.inl (by omega)⟩
    · rw [if_neg (by omega), w64_succ i (by omega)]
      obtain ⟨r', e', h'⟩ := ih k (i + 1) r (by omega) (by omega) h1 (by omega)
      refine ⟨r', e', ?_⟩
      rcases h' with h' | ⟨a1, a2, a3⟩
      · exact Or.inl h'
      · refine Or.inr ⟨a1, by omega, ?_⟩
        rw [drop_getD l z86 i (by omega)]
        intro x hx
        rcases List.mem_cons.1 hx with rfl | hx
        · exact h3
        · exact a3 x hx
theorem szStepS_ (k : Nat) (l : List (S86)) (a : Int) (hw : WL Wt86 l) (h0 : 0 ≤ a) (h1 : a ≤ 1048576) (hk : 2097160 ≤ k) : ∃ r, laws_szStepS.f k l a = some r ∧ (r < 0 ∨ (0 ≤ r ∧ r ≤ a ∧ LB Ok86 l)) := by
  have hm : l.length ≤ 9223372036854775807 := hw.1
  have he : wrap64 (a - (l.length : Int)) = a - l.length := w64 (by omega) (by omega)
  unfold laws_szStepS.f
  rw [he]
  by_cases h : a - (l.length : Int) < 0
  · exact ⟨-1, if_pos h, Or.inl (by omega)⟩
  · rw [if_neg h]
    obtain ⟨r, e, h2⟩ := szStepS_l0 l hw (by omega) l.length k 0 (a - l.length) (by omega) (by omega) (by omega) (by omega)
    refine ⟨r, e, ?_⟩
    rcases h2 with h2 | ⟨a1, a2, a3⟩
    · exact Or.inl h2
    · exact Or.inr ⟨a1, by omega, by omega, by simpa using a3⟩
theorem toIntS_l0 (l : List (Int)) (ho : LB (fun _ => True) l) : ∀ (d k i : Nat) (y : List (Int)), i + d = l.length → d + 0 < k → y.length = l.length → y.take i = l.take i → laws_toIntS.l0 k l y (i : Int) = some l := by
  have hm := ho.1
  have hc : l.length = l.length := by rfl
  intro d
  induction d with
  | zero =>
    intro k i y hi hk hy ht
    obtain ⟨k, rfl⟩ : ∃ m, k = m + 1 := ⟨k - 1, by omega⟩
    simp only [laws_toIntS.l0]
    rw [if_neg (by omega), take_full hy hc (by rw [show l.length = i by omega]; exact ht)]
  | succ d ih =>
    intro k i y hi hk hy ht
    obtain ⟨k, rfl⟩ : ∃ m, k = m + 1 := ⟨k - 1, by omega⟩
    have hx := ho.2 _ (mem_getD l 0 i (by omega))
    simp only [laws_toIntS.l0, rd_L10, rd_L2, rd_L4, rd_T70, rd_T72, rd_T75, rd_T77, rd_T86, rd_T89, rd_natD, Int.toNat_natCast]
    repeat (first | refine ifp rfl ?_ | refine ifp (by omega) ?_ | refine ifp (by simp) ?_ | refine ifn (by simp) ?_)
    rw [w64_succ i (by omega)]
    refine ih k (i + 1) _ (by omega) (by omega) (by simpa using hy) ?_
    rw [take_set_succ _ _ _ (by omega), ht, take_succ_getD l 0 i (by omega)]
theorem toIntS_ (k : Nat) (l : List (Int)) (ho : LB (fun _ => True) l) (hk : 1048580 ≤ k) : laws_toIntS.f k l = some l := by
  have hm := ho.1
  unfold laws_toIntS.f
  rw [if_pos (by omega), if_pos (by simp; omega)]
  exact toIntS_l0 l ho l.length k 0 _ (by omega) (by omega) (by simp) (by simp)
theorem toShape_ (a0_0 : Int) (a0_1 : Int) (a0_2 : Int) : laws_toShape.f a0_0 a0_1 a0_2 = some (a0_0, a0_1, a0_2) := by
  unfold laws_toShape.f
  repeat (first | refine ifp rfl ?_ | refine ifp (by omega) ?_ | refine ifp (by simp) ?_ | refine ifn (by simp) ?_ | rfl)
theorem toTensor_ (k : Nat) (a0_0 : Int) (a0_1 : Int) (a0_2 : Int) (l0_3 : List (Int)) (hl0_3 : LB (fun _ => True) l0_3) (hk : 1048580 ≤ k) : laws_toTensor.f k a0_0 a0_1 a0_2 l0_3 = some (a0_0, a0_1, a0_2, l0_3) := by
  unfold laws_toTensor.f
  repeat (first | (refine st (toShape_ _ _ _) ?_; (try dsimp only)) | (refine st (toIntS_ _ _ (by assumption) (by omega)) ?_; (try dsimp only)) | refine ifp rfl ?_ | refine ifp (by omega) ?_ | refine ifp (by simp) ?_ | refine ifn (by simp) ?_ | rfl)
theorem toByteS_l0 (l : List (Int)) (ho : LB (fun _ => True) l) : ∀ (d k i : Nat) (y : List (Int)), i + d = l.length → d + 0 < k → y.length = l.length → y.take i = l.take i → laws_toByteS.l0 k l y (i : Int) = some l := by
  have hm := ho.1
  have hc : l.length = l.length := by rfl
  intro d
  induction d with
  | zero =>
    intro k i y hi hk hy ht
    obtain ⟨k, rfl⟩ : ∃ m, k = m + 1 := ⟨k - 1, by omega⟩
    simp only [laws_toByteS.l0]
    rw [if_neg (by omega), take_full hy hc (by rw [show l.length = i by omega]; exact ht)]
  | succ d ih =>
    intro k i y hi hk hy ht
    obtain ⟨k, rfl⟩ : ∃ m, k = m + 1 := ⟨k - 1, by omega⟩
    have hx := ho.2 _ (mem_getD l 0 i (by omega))
    simp only [laws_toByteS.l0, rd_L10, rd_L2, rd_L4, rd_T70, rd_T72, rd_T75, rd_T77, rd_T86, rd_T89, rd_natD, Int.toNat_natCast]
    repeat (first | refine ifp rfl ?_ | refine ifp (by omega) ?_ | refine ifp (by simp) ?_ | refine ifn (by simp) ?_)
    rw [w64_succ i (by omega)]
    refine ih k (i + 1) _ (by omega) (by omega) (by simpa using hy) ?_
    rw [take_set_succ _ _ _ (by omega), ht, take_succ_getD l 0 i (by omega)]
theorem toByteS_ (k : Nat) (l : List (Int)) (ho : LB (fun _ => True) l) (hk : 1048580 ≤ k) : laws_toByteS.f k l = some l := by
  have hm := ho.1
  unfold laws_toByteS.f
  rw [if_pos (by omega), if_pos (by simp; omega)]
  exact toByteS_l0 l ho l.length k 0 _ (by omega) (by omega) (by simp) (by simp)
theorem toStep_ (k : Nat) (a0_0 : Int) (a0_1 : Int) (a0_2 : Int) (l0_3 : List (Int)) (a0_4 : Int) (a0_5 : Int) (a0_6 : Int) (l0_7 : List (Int)) (hl0_3 : LB (fun _ => True) l0_3) (hl0_7 : LB (fun _ => True) l0_7) (hk : 1048580 ≤ k) : laws_toStep.f k a0_0 a0_1 a0_2 l0_3 a0_4 a0_5 a0_6 l0_7 = some (a0_0, a0_1, a0_2, l0_3, a0_4, a0_5, a0_6, l0_7) := by
  unfold laws_toStep.f
  repeat (first | (refine st (toByteS_ _ _ (by assumption) (by omega)) ?_; (try dsimp only)) | (refine st (toTensor_ _ _ _ _ _ (by assumption) (by omega)) ?_; (try dsimp only)) | refine ifp rfl ?_ | refine ifp (by omega) ?_ | refine ifp (by simp) ?_ | refine ifn (by simp) ?_ | rfl)
def cv70_75 (x : S70) : S75 := ⟨x.f0, x.f1, x.f2⟩
def Ok70 (x : S70) : Prop := True
def Ok75 (x : S75) : Prop := True
theorem ok_cv70_75 (x : S70) (h : Ok70 x) : Ok75 (cv70_75 x) := trivial
def cv72_77 (x : S72) : S77 := ⟨(cv70_75 x.f0), x.f1⟩
def Ok72 (x : S72) : Prop := (LB (fun _ => True)) x.f1
def Ok77 (x : S77) : Prop := (LB (fun _ => True)) x.f1
theorem ok_cv72_77 (x : S72) (h : Ok72 x) : Ok77 (cv72_77 x) := h
def cv86_89 (x : S86) : S89 := ⟨x.f0, x.f1, x.f2, x.f3, (cv72_77 x.f4)⟩
def Ok89 (x : S89) : Prop := (LB (fun _ => True)) x.f3 ∧ (LB (fun _ => True)) x.f4.f1
theorem ok_cv86_89 (x : S86) (h : Ok86 x) : Ok89 (cv86_89 x) := ⟨h.1, h.2⟩
theorem toStepS_l0 (l : List (S86)) (ho : LB Ok86 l) : ∀ (d k i : Nat) (y : List (S89)), i + d = l.length → d + 1048580 < k → y.length = l.length → y.take i = (l.map cv86_89).take i → laws_toStepS.l0 k l y (i : Int) = some (l.map cv86_89) := by
  have hm := ho.1
  have hc : (l.map cv86_89).length = l.length := by simp
  intro d
  induction d with
  | zero =>
    intro k i y hi hk hy ht
    obtain ⟨k, rfl⟩ : ∃ m, k = m + 1 := ⟨k - 1, by omega⟩
    simp only [laws_toStepS.l0]
    rw [if_neg (by omega), take_full hy hc (by rw [show l.length = i by omega]; exact ht)]
  | succ d ih =>
    intro k i y hi hk hy ht
    obtain ⟨k, rfl⟩ : ∃ m, k = m + 1 := ⟨k - 1, by omega⟩
    have hx := ho.2 _ (mem_getD l z86 i (by omega))
    have hx0 : (LB (fun _ => True)) (l.getD i z86).f3 := hx.1
    have hx1 : (LB (fun _ => True)) (l.getD i z86).f4.f1 := hx.2
    simp only [laws_toStepS.l0, rd_L10, rd_L2, rd_L4, rd_T70, rd_T72, rd_T75, rd_T77, rd_T86, rd_T89, rd_natD, Int.toNat_natCast]
    repeat (first | (refine st (toStep_ _ _ _ _ _ _ _ _ _ (by assumption) (by assumption) (by omega)) ?_; (try dsimp only)) | refine ifp rfl ?_ | refine ifp (by omega) ?_ | refine ifp (by simp) ?_ | refine ifn (by simp) ?_)
    rw [w64_succ i (by omega)]
    refine ih k (i + 1) _ (by omega) (by omega) (by simpa using hy) ?_
    rw [take_set_succ _ _ _ (by omega), ht, take_succ_getD (l.map cv86_89) z89 i (by omega), map_getD _ _ _ (by omega) z86]
    rfl
theorem toStepS_ (k : Nat) (l : List (S86)) (ho : LB Ok86 l) (hk : 2097160 ≤ k) : laws_toStepS.f k l = some (l.map cv86_89) := by
  have hm := ho.1
  unfold laws_toStepS.f
  rw [if_pos (by omega), if_pos (by simp; omega)]
  exact toStepS_l0 l ho l.length k 0 _ (by omega) (by omega) (by simp) (by simp)
theorem eqIntS_l0 (l : List (Int)) (ho : LB (fun _ => True) l) : ∀ (d k i : Nat), i + d = l.length → d + 0 < k → laws_eqIntS.l0 k l l (i : Int) = some true := by
  have hm := ho.1
  intro d
  induction d with
  | zero =>
    intro k i hi hk
    obtain ⟨k, rfl⟩ : ∃ m, k = m + 1 := ⟨k - 1, by omega⟩
    simp only [laws_eqIntS.l0]
    rw [if_neg (by omega)]
  | succ d ih =>
    intro k i hi hk
    obtain ⟨k, rfl⟩ : ∃ m, k = m + 1 := ⟨k - 1, by omega⟩
    have hx := ho.2 _ (mem_getD l 0 i (by omega))
    simp only [laws_eqIntS.l0, rd_L10, rd_L2, rd_L4, rd_T70, rd_T72, rd_T75, rd_T77, rd_T86, rd_T89, rd_natD, Int.toNat_natCast]
    repeat (first | refine ifp rfl ?_ | refine ifp (by omega) ?_ | refine ifp (by simp) ?_ | refine ifn (by simp) ?_)
    rw [w64_succ i (by omega)]
    exact ih k (i + 1) (by omega) (by omega)
theorem eqIntS_ (k : Nat) (l : List (Int)) (ho : LB (fun _ => True) l) (hk : 1048580 ≤ k) : laws_eqIntS.f k l l = some true := by
  have hm := ho.1
  unfold laws_eqIntS.f
  rw [if_pos rfl]
  exact eqIntS_l0 l ho l.length k 0 (by omega) (by omega)
theorem eqShape_ (a0_0 : Int) (a0_1 : Int) (a0_2 : Int) : laws_eqShape.f a0_0 a0_1 a0_2 a0_0 a0_1 a0_2 = some true := by
  unfold laws_eqShape.f
  repeat (first | refine ifp rfl ?_ | refine ifp (by omega) ?_ | refine ifp (by simp) ?_ | refine ifn (by simp) ?_ | rfl)
theorem eqTensor_ (k : Nat) (a0_0 : Int) (a0_1 : Int) (a0_2 : Int) (l0_3 : List (Int)) (hl0_3 : LB (fun _ => True) l0_3) (hk : 1048580 ≤ k) : laws_eqTensor.f k a0_0 a0_1 a0_2 l0_3 a0_0 a0_1 a0_2 l0_3 = some true := by
  unfold laws_eqTensor.f
  repeat (first | (refine st (eqShape_ _ _ _) ?_; (try dsimp only)) | (refine st (eqIntS_ _ _ (by assumption) (by omega)) ?_; (try dsimp only)) | refine ifp rfl ?_ | refine ifp (by omega) ?_ | refine ifp (by simp) ?_ | refine ifn (by simp) ?_ | rfl)
theorem eqByteS_l0 (l : List (Int)) (ho : LB (fun _ => True) l) : ∀ (d k i : Nat), i + d = l.length → d + 0 < k → laws_eqByteS.l0 k l l (i : Int) = some true := by
  have hm := ho.1
  intro d
  induction d with
  | zero =>
    intro k i hi hk
    obtain ⟨k, rfl⟩ : ∃ m, k = m + 1 := ⟨k - 1, by omega⟩
    simp only [laws_eqByteS.l0]
    rw [if_neg (by omega)]
  | succ d ih =>
    intro k i hi hk
    obtain ⟨k, rfl⟩ : ∃ m, k = m + 1 := ⟨k - 1, by omega⟩
    have hx := ho.2 _ (mem_getD l 0 i (by omega))
    simp only [laws_eqByteS.l0, rd_L10, rd_L2, rd_L4, rd_T70, rd_T72, rd_T75, rd_T77, rd_T86, rd_T89, rd_natD, Int.toNat_natCast]
    repeat (first | refine ifp rfl ?_ | refine ifp (by omega) ?_ | refine ifp (by simp) ?_ | refine ifn (by simp) ?_)
    rw [w64_succ i (by omega)]
    exact ih k (i + 1) (by omega) (by omega)
theorem eqByteS_ (k : Nat) (l : List (Int)) (ho : LB (fun _ => True) l) (hk : 1048580 ≤ k) : laws_eqByteS.f k l l = some true := by
  have hm := ho.1
  unfold laws_eqByteS.f
  rw [if_pos rfl]
  exact eqByteS_l0 l ho l.length k 0 (by omega) (by omega)
theorem eqStep_ (k : Nat) (a0_0 : Int) (a0_1 : Int) (a0_2 : Int) (l0_3 : List (Int)) (a0_4 : Int) (a0_5 : Int) (a0_6 : Int) (l0_7 : List (Int)) (hl0_3 : LB (fun _ => True) l0_3) (hl0_7 : LB (fun _ => True) l0_7) (hk : 1048580 ≤ k) : laws_eqStep.f k a0_0 a0_1 a0_2 l0_3 a0_4 a0_5 a0_6 l0_7 a0_0 a0_1 a0_2 l0_3 a0_4 a0_5 a0_6 l0_7 = some true := by
  unfold laws_eqStep.f
  repeat (first | (refine st (eqByteS_ _ _ (by assumption) (by omega)) ?_; (try dsimp only)) | (refine st (eqTensor_ _ _ _ _ _ (by assumption) (by omega)) ?_; (try dsimp only)) | refine ifp rfl ?_ | refine ifp (by omega) ?_ | refine ifp (by simp) ?_ | refine ifn (by simp) ?_ | rfl)
theorem eqStepS_l0 (l : List (S89)) (ho : LB Ok89 l) : ∀ (d k i : Nat), i + d = l.length → d + 1048580 < k → laws_eqStepS.l0 k l l (i : Int) = some true := by
  have hm := ho.1
  intro d
  induction d with
  | zero =>
    intro k i hi hk
    obtain ⟨k, rfl⟩ : ∃ m, k = m + 1 := ⟨k - 1, by omega⟩
    simp only [laws_eqStepS.l0]
    rw [if_neg (by omega)]
  | succ d ih =>
    intro k i hi hk
    obtain ⟨k, rfl⟩ : ∃ m, k = m + 1 := ⟨k - 1, by omega⟩
    have hx := ho.2 _ (mem_getD l z89 i (by omega))
    have hx0 : (LB (fun _ => True)) (l.getD i z89).f3 := hx.1
    have hx1 : (LB (fun _ => True)) (l.getD i z89).f4.f1 := hx.2
    simp only [laws_eqStepS.l0, rd_L10, rd_L2, rd_L4, rd_T70, rd_T72, rd_T75, rd_T77, rd_T86, rd_T89, rd_natD, Int.toNat_natCast]
    repeat (first | (refine st (eqStep_ _ _ _ _ _ _ _ _ _ (by assumption) (by assumption) (by omega)) ?_; (try dsimp only)) | refine ifp rfl ?_ | refine ifp (by omega) ?_ | refine ifp (by simp) ?_ | refine ifn (by simp) ?_)
    rw [w64_succ i (by omega)]
    exact ih k (i + 1) (by omega) (by omega)
theorem eqStepS_ (k : Nat) (l : List (S89)) (ho : LB Ok89 l) (hk : 2097160 ≤ k) : laws_eqStepS.f k l l = some true := by
  have hm := ho.1
  unfold laws_eqStepS.f
  rw [if_pos rfl]
  exact eqStepS_l0 l ho l.length k 0 (by omega) (by omega)

def takes (kind a : Int) : Int := if (4 ≤ kind ∧ kind ≤ 5) ∧ (0 ≤ a ∧ a ≤ 200) then a else 0
theorem takes_bd (kind a : Int) : 0 ≤ takes kind a ∧ takes kind a ≤ 200 := by unfold takes; split <;> omega
theorem spec_takes (x0 x1 x2 : Int) (x3 : List Int) (x4 x5 x6 : Int) (x7 : List Int) : spec_l09Takes.f x0 x1 x2 x3 x4 x5 x6 x7 = some (takes x0 x1) := by
  unfold spec_l09Takes.f takes
  simp only [spec_in, Option.bind_some]
  by_cases h1 : 4 ≤ x0 ∧ x0 ≤ 5 <;> by_cases h2 : 0 ≤ x1 ∧ x1 ≤ 200 <;> simp [h1, h2]
def isT (kind a : Int) : Bool := decide ((4 ≤ kind ∧ kind ≤ 5) ∧ (0 ≤ a ∧ a ≤ 200))
theorem impl_isTime (x0 x1 x2 : Int) (x3 : List Int) (x4 x5 x6 : Int) (x7 : List Int) : impl_Step_isTime.f x0 x1 x2 x3 x4 x5 x6 x7 = some (isT x0 x1) := by
  unfold impl_Step_isTime.f isT
  simp only [impl_in_, Option.bind_some]
  by_cases h1 : x0 = 4
  · rw [if_pos h1]; simp [h1]
  · rw [if_neg h1]
    by_cases h2 : x0 = 5
    · rw [if_pos h2]; simp [h2]
    · rw [if_neg h2]
      have : ¬ (4 ≤ x0 ∧ x0 ≤ 5) := by omega
      simp [this]

/-- How many of the ticks now+1 .. now+m lie in (a, b]. -/
def inn (a b now : Int) (m : Nat) : Int := max 0 (min (now + m) b - max now a)
theorem inn_zero (a b now : Int) : inn a b now 0 = 0 := by unfold inn; omega
theorem inn_succ (a b now : Int) (m : Nat) : inn a b now (m + 1) = (if now + 1 > a ∧ now + 1 ≤ b then 1 else 0) + inn a b (now + 1) m := by
  unfold inn
  split <;> omega
theorem inn_bd (a b now : Int) (m : Nat) : 0 ≤ inn a b now m ∧ inn a b now m ≤ m := by unfold inn; omega
theorem spec_between_l1 (l : List S89) (a b : Int) (i : Nat) (hi : i < l.length) : ∀ (m k : Nat) (n now j : Int), j + m = takes (l.getD i z89).f0 (l.getD i z89).f1 → 0 ≤ j → 0 ≤ n → n + m ≤ 4000000000 → 0 ≤ now → now + m ≤ 4000000000 →
    spec_StalledBetween.l1 (k + m + 1) l a b n now (i : Int) j = spec_StalledBetween.l0 k l a b (n + if (l.getD i z89).f0 = 5 then inn a b now m else 0) (now + m) (wrap64 ((i : Int) + 1)) := by
  intro m
  induction m with
  | zero =>
    intro k n now j hj h0 hn hn2 hw hw2
    simp only [spec_StalledBetween.l1, spec_takes, Option.bind_some, rd_T89, Int.toNat_natCast]
    rw [if_pos (by omega), if_pos (by omega), if_neg (by omega), inn_zero]
    simp
  | succ m ih =>
    intro k n now j hj h0 hn hn2 hw hw2
    have hb := takes_bd (l.getD i z89).f0 (l.getD i z89).f1
    have hs := inn_succ a b now m
    have e1 : wrap64 (now + 1) = now + 1 := w64 (by omega) (by omega)
    have e2 : wrap64 (j + 1) = j + 1 := w64 (by omega) (by omega)
    have e3 : wrap64 (n + 1) = n + 1 := w64 (by omega) (by omega)
    rw [show k + (m + 1) + 1 = (k + m + 1) + 1 from by omega]
    unfold spec_StalledBetween.l1
    simp only [spec_takes, Option.bind_some, rd_T89, Int.toNat_natCast, e1, e2, e3]
    rw [if_pos (by omega), if_pos (by omega), if_pos (by omega)]
    have q : (now + ((m + 1 : Nat) : Int)) = (now + 1) + m := by omega
    by_cases c5 : (l.getD i z89).f0 = 5
    · simp only [if_pos c5] at ih ⊢
      by_cases ca : now + 1 > a
      · rw [if_pos ca]
        by_cases cb : now + 1 ≤ b
        · rw [if_pos cb, ih k (n + 1) (now + 1) (j + 1) (by omega) (by omega) (by omega) (by omega) (by omega) (by omega), hs, if_pos ⟨ca, cb⟩, q, show n + 1 + inn a b (now + 1) m = n + (1 + inn a b (now + 1) m) from by omega]
        · rw [if_neg cb, ih k n (now + 1) (j + 1) (by omega) (by omega) (by omega) (by omega) (by omega) (by omega), hs, if_neg (fun h => cb h.2), q, Int.zero_add]
      · rw [if_neg ca, ih k n (now + 1) (j + 1) (by omega) (by omega) (by omega) (by omega) (by omega) (by omega), hs, if_neg (fun h => ca h.1), q, Int.zero_add]
    · simp only [if_neg c5] at ih ⊢
      rw [ih k n (now + 1) (j + 1) (by omega) (by omega) (by omega) (by omega) (by omega) (by omega), q]
theorem between_l0 (l : List S89) (a b : Int) (ha : -9223372036854775808 ≤ a) (ha2 : a ≤ 9223372036854775807) (hb : -9223372036854775808 ≤ b) (hb2 : b ≤ 9223372036854775807) (hm : l.length ≤ 1048576) :
    ∀ (d k k' i : Nat) (n now : Int), i + d = l.length → 300 * d < k → d < k' → 0 ≤ n → n ≤ 200 * i → 0 ≤ now → now ≤ 200 * i →
      ∃ r, spec_StalledBetween.l0 k l a b n now (i : Int) = some r ∧ impl_StalledBetween.l0 k' a b n now l (l.length : Int) (i : Int) = some r := by
  intro d
  induction d with
  | zero =>
    intro k k' i n now hi hk hk' _ _ _ _
    obtain ⟨k, rfl⟩ : ∃ m, k = m + 1 := ⟨k - 1, by omega⟩
    obtain ⟨k', rfl⟩ : ∃ m, k' = m + 1 := ⟨k' - 1, by omega⟩
    exact ⟨n, by simp only [spec_StalledBetween.l0]; rw [if_neg (by omega)], by simp only [impl_StalledBetween.l0]; rw [if_neg (by omega)]⟩
  | succ d ih =>
    intro k k' i n now hi hk hk' hn hn2 hw hw2
    have hb' := takes_bd (l.getD i z89).f0 (l.getD i z89).f1
    obtain ⟨m, hm'⟩ : ∃ m : Nat, (m : Int) = takes (l.getD i z89).f0 (l.getD i z89).f1 := ⟨(takes (l.getD i z89).f0 (l.getD i z89).f1).toNat, by omega⟩
    obtain ⟨k, rfl⟩ : ∃ q, k = (q + m + 1) + 1 := ⟨k - m - 2, by omega⟩
    obtain ⟨k', rfl⟩ : ∃ m, k' = m + 1 := ⟨k' - 1, by omega⟩
    have hin := inn_bd a b now m
    have hs : spec_StalledBetween.l0 ((k + m + 1) + 1) l a b n now (i : Int) = spec_StalledBetween.l0 k l a b (n + if (l.getD i z89).f0 = 5 then inn a b now m else 0) (now + m) (wrap64 ((i : Int) + 1)) := by
      rw [← spec_between_l1 l a b i (by omega) m k n now 0 (by omega) (by omega) (by omega) (by omega) (by omega) (by omega)]
      conv => lhs; unfold spec_StalledBetween.l0
      rw [if_pos (by omega)]
    have hadd : 0 ≤ (if (l.getD i z89).f0 = 5 then inn a b now m else 0) ∧ (if (l.getD i z89).f0 = 5 then inn a b now m else 0) ≤ m := by split <;> omega
    have hbm : (m : Int) ≤ 200 := by omega
    rw [hs, w64_succ i (by omega)]
    obtain ⟨r, e1, e2⟩ := ih k k' (i + 1) (n + if (l.getD i z89).f0 = 5 then inn a b now m else 0) (now + m) (by omega) (by omega) (by omega) (by omega) (by omega) (by omega) (by omega)
    refine ⟨r, e1, ?_⟩
    unfold impl_StalledBetween.l0
    simp only [impl_isTime, Option.bind_some, rd_T89, Int.toNat_natCast]
    rw [if_pos (by omega), if_pos (by omega), if_pos (by omega), w64_succ i (by omega)]
    unfold isT
    by_cases c : (4 ≤ (l.getD i z89).f0 ∧ (l.getD i z89).f0 ≤ 5) ∧ (0 ≤ (l.getD i z89).f1 ∧ (l.getD i z89).f1 ≤ 200)
    · rw [if_pos (by simpa using c)]
      have ht : (m : Int) = (l.getD i z89).f1 := by rw [hm']; unfold takes; rw [if_pos c]
      simp only [← ht, w64 (x := now + (m : Int)) (by omega) (by omega), mn_eq, mx_eq]
      by_cases c5 : (l.getD i z89).f0 = 5
      · simp only [if_pos c5] at e2 hadd ⊢
        by_cases cg : min (now + (m : Int)) b > max now a
        · rw [if_pos cg]
          have hv : inn a b now m = min (now + (m : Int)) b - max now a := by unfold inn; omega
          rw [w64 (x := min (now + (m : Int)) b - max now a) (by omega) (by omega), w64 (by omega) (by omega), ← hv]
          exact e2
        · rw [if_neg cg]
          have hv : inn a b now m = 0 := by unfold inn; omega
          rw [hv, Int.add_zero] at e2
          exact e2
      · simp only [if_neg c5, Int.add_zero] at e2 ⊢
        exact e2
    · rw [if_neg (by simpa using c)]
      have ht : (m : Int) = 0 := by rw [hm']; unfold takes; rw [if_neg c]
      have ht' : m = 0 := by omega
      subst ht'
      rw [inn_zero] at e2
      simpa using e2
theorem between (k : Nat) (l : List S89) (a b : Int) (ha : -9223372036854775808 ≤ a) (ha2 : a ≤ 9223372036854775807) (hb : -9223372036854775808 ≤ b) (hb2 : b ≤ 9223372036854775807) (hm : l.length ≤ 1048576) (hk : 400000000 ≤ k) :
    ∃ r, spec_StalledBetween.f k l a b = some r ∧ impl_StalledBetween.f k l a b = some r := between_l0 l a b ha ha2 hb hb2 hm l.length k k 0 0 0 (by omega) (by omega) (by omega) (by omega) (by omega) (by omega) (by omega)


theorem FnExactStalledBetween : laws_FnExactStalledBetween.Pure := by
  intro l a b hl ha hb
  obtain ⟨k, hk⟩ : ∃ k : Nat, 1000000000 ≤ k := ⟨_, Nat.le_refl _⟩
  refine ⟨k, ?_⟩
  unfold laws_FnExactStalledBetween.f
  obtain ⟨r, e, h⟩ := szStepS_ k l 1048576 hl (by omega) (by omega) (by omega)
  rw [e]; simp only [Option.bind_some]; clear e
  rcases h with h | ⟨h0, h1, ho⟩
  · rw [if_pos h]
  rw [if_neg (by omega)]

  have ho2 : LB Ok89 (l.map cv86_89) := ho.map ok_cv86_89
  have ha' := WI.i64 ha
  have hb' := WI.i64 hb
  obtain ⟨v, e1, e2⟩ := between k (l.map cv86_89) a b (by omega) (by omega) (by omega) (by omega) ho2.1 (by omega)
  repeat (first
    | (refine st e1 ?_; (try dsimp only))
    | (refine st e2 ?_; (try dsimp only))
    | (refine st (toStepS_ _ _ (by assumption) (by omega)) ?_; (try dsimp only))
    | (refine st (eqStepS_ _ _ (by assumption) (by omega)) ?_; (try dsimp only))
    | refine ifp rfl ?_
    | refine ifn (by omega) ?_
    | refine ifp (by omega) ?_
    | refine ifn (by simp) ?_
    | refine ifp (by simp) ?_
    | rfl)

end Go.Proofs.Ytoggdgahfagegaa.Pure
