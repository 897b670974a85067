/- What is left of the statement FnExactRefusedBy once the Go functions are Lean functions: the program's RefusedBy and the reference's answer alike. No condition. -/
import Derived.Test.YtoggdgahfagegaaQFnExactRefusedByx4
import Derived.Test.YtoggdgahfagegaaAid
set_option linter.unusedVariables false
set_option linter.unusedSimpArgs false
namespace Go.Proofs.Ytoggdgahfagegaa.Pure
open Go.RowKit Go.Proofs.Ytoggdgahfagegaa.QFnExactRefusedBy Go.Proofs.YtoggdgahfagegaaW.PrintWords Go.Proofs.YtoggdgahfagegaaW.PrintLast Go.Proofs.YtoggdgahfagegaaW.PrintMore Go.Proofs.YtoggdgahfagegaaW.Aid


theorem spec_in (x lo hi : Int) : spec_l01In.f x lo hi = some (decide (lo ≤ x ∧ x ≤ hi)) := by
  unfold spec_l01In.f
  split
  · simp_all
  · simp; omega
theorem impl_in_ (x lo hi : Int) : impl_in.f x lo hi = some (decide (lo ≤ x ∧ x ≤ hi)) := by
  unfold impl_in.f
  split
  · simp_all
  · simp; omega

def LB {α : Type} (P : α → Prop) (l : List α) : Prop := l.length ≤ 1048576 ∧ ∀ x ∈ l, P x
theorem LB.map {α β : Type} {P : α → Prop} {Q : β → Prop} {f : α → β} {l : List α} (hf : ∀ x, P x → Q (f x)) (h : LB P l) : LB Q (l.map f) := ⟨by simpa using h.1, fun y hy => by obtain ⟨x, hx, rfl⟩ := List.mem_map.1 hy; exact hf x (h.2 x hx)⟩
theorem map_getD {α β : Type} (f : α → β) (l : List α) (i : Nat) (h : i < l.length) (d : α) (d' : β) : (l.map f).getD i d' = f (l.getD i d) := by simp [h]
theorem szIntS_ {W : Int → Prop} (l : List (Int)) (a : Int) (hw : WL W l) (h0 : 0 ≤ a) (h1 : a ≤ 1048576) : ∃ r, laws_szIntS.f l a = some r ∧ (r < 0 ∨ (0 ≤ r ∧ r ≤ a ∧ LB (fun _ => True) l)) := by
  have hm : l.length ≤ 9223372036854775807 := hw.1
  have he : wrap64 (a - (l.length : Int)) = a - l.length := w64 (by omega) (by omega)
  unfold laws_szIntS.f
  rw [he]
  by_cases h : a - (l.length : Int) < 0
  · exact ⟨-1, if_pos h, Or.inl (by omega)⟩
  · rw [if_neg h]
    exact ⟨_, rfl, Or.inr ⟨by omega, by omega, by omega, fun _ _ => trivial⟩⟩
theorem szTensor_ {Wl0_3 : Int → Prop} (a0_0 : Int) (a0_1 : Int) (a0_2 : Int) (l0_3 : List (Int)) (a1 : Int) (wl0_3 : WL Wl0_3 l0_3) (h0 : 0 ≤ a1) (h1 : a1 ≤ 1048576) : ∃ r, laws_szTensor.f a0_0 a0_1 a0_2 l0_3 a1 = some r ∧ (r < 0 ∨ (0 ≤ r ∧ r ≤ a1 ∧ LB (fun _ => True) l0_3)) := by
  unfold laws_szTensor.f
  obtain ⟨r1, e1, g1⟩ := szIntS_ l0_3 a1 wl0_3 (by omega) (by omega)
  rw [e1]
  simp only [Option.bind_some]
  rcases g1 with g1 | ⟨p1, u1, g1⟩
  · exact ⟨-1, if_pos g1, Or.inl (by omega)⟩
  rw [if_neg (by omega)]
  exact ⟨r1, rfl, Or.inr ⟨by omega, by omega, g1⟩⟩
theorem szEvent_ {Wl0_6 : Int → Prop} (a0_0 : Int) (a0_1 : Int) (a0_2 : Int) (a0_3 : Int) (a0_4 : Int) (a0_5 : Int) (l0_6 : List (Int)) (a1 : Int) (wl0_6 : WL Wl0_6 l0_6) (h0 : 0 ≤ a1) (h1 : a1 ≤ 1048576) : ∃ r, laws_szEvent.f a0_0 a0_1 a0_2 a0_3 a0_4 a0_5 l0_6 a1 = some r ∧ (r < 0 ∨ (0 ≤ r ∧ r ≤ a1 ∧ LB (fun _ => True) l0_6)) := by
  unfold laws_szEvent.f
  obtain ⟨r1, e1, g1⟩ := szTensor_ a0_3 a0_4 a0_5 l0_6 a1 wl0_6 (by omega) (by omega)
  rw [e1]
  simp only [Option.bind_some]
  rcases g1 with g1 | ⟨p1, u1, g1⟩
  · exact ⟨-1, if_pos g1, Or.inl (by omega)⟩
  rw [if_neg (by omega)]
  exact ⟨r1, rfl, Or.inr ⟨by omega, by omega, g1⟩⟩
def Ok74 (x : S74) : Prop := (LB (fun _ => True)) x.f3.f1
theorem szEventS_l0 (l : List (S74)) (hw : WL Wt74 l) (hm : l.length ≤ 1048576) : ∀ (d k i : Nat) (a : Int), i + d = l.length → d + 1048580 < k → 0 ≤ a → a ≤ 1048576 → ∃ r, laws_szEventS.l0 k l a (i : Int) = some r ∧ (r < 0 ∨ (0 ≤ r ∧ r ≤ a ∧ ∀ x ∈ l.drop i, Ok74 x)) := by
  intro d
  induction d with
  | zero =>
    intro k i a hi hk h0 h1
    obtain ⟨k, rfl⟩ : ∃ m, k = m + 1 := ⟨k - 1, by omega⟩
    simp only [laws_szEventS.l0]
    rw [if_neg (by omega), List.drop_of_length_le (by omega)]
    exact ⟨a, rfl, Or.inr ⟨h0, Int.le_refl _, fun x hx => absurd hx (by simp)⟩⟩
  | succ d ih =>
    intro k i a hi hk h0 h1
    obtain ⟨k, rfl⟩ : ∃ m, k = m + 1 := ⟨k - 1, by omega⟩
    have hx := hw.2 _ (mem_getD l z74 i (by omega))
    have hw0 : (WL (WI .i64)) (l.getD i z74).f3.f1 := hx.2.2.2.2
    simp only [laws_szEventS.l0, rd_L2, rd_L8, rd_T70, rd_T72, rd_T74, rd_T75, rd_T77, rd_T79, Int.toNat_natCast]
    rw [if_pos (by omega), if_pos (by omega)]
    obtain ⟨r, e, h⟩ := szEvent_ (l.getD i z74).f0 (l.getD i z74).f1 (l.getD i z74).f2 (l.getD i z74).f3.f0.f0 (l.getD i z74).f3.f0.f1 (l.getD i z74).f3.f0.f2 (l.getD i z74).f3.f1 a hw0 h0 h1
    rw [e]
    simp only [Option.bind_some]
    rcases h with h | ⟨h1, h2, h3⟩
    · exact ⟨-1, if_pos h, Or.inl (by omega)⟩
    · rw [if_neg (by omega), w64_succ i (by omega)]
      obtain ⟨r', e', h'⟩ := ih k (i + 1) r (by omega) (by omega) h1 (by omega)
      refine ⟨r', e', ?_⟩
      rcases h' with h' | ⟨a1, a2, a3⟩
      · exact Or.inl h'
      · refine Or.inr ⟨a1, by omega, ?_⟩
        rw [drop_getD l z74 i (by omega)]
        intro x hx
        rcases List.mem_cons.1 hx with rfl | hx
        · exact h3
        · exact a3 x hx
theorem szEventS_ (k : Nat) (l : List (S74)) (a : Int) (hw : WL Wt74 l) (h0 : 0 ≤ a) (h1 : a ≤ 1048576) (hk : 2097160 ≤ k) : ∃ r, laws_szEventS.f k l a = some r ∧ (r < 0 ∨ (0 ≤ r ∧ r ≤ a ∧ LB Ok74 l)) := by
  have hm : l.length ≤ 9223372036854775807 := hw.1
  have he : wrap64 (a - (l.length : Int)) = a - l.length := w64 (by omega) (by omega)
  unfold laws_szEventS.f
  rw [he]
  by_cases h : a - (l.length : Int) < 0
  · exact ⟨-1, if_pos h, Or.inl (by omega)⟩
  · rw [if_neg h]
    obtain ⟨r, e, h2⟩ := szEventS_l0 l hw (by omega) l.length k 0 (a - l.length) (by omega) (by omega) (by omega) (by omega)
    refine ⟨r, e, ?_⟩
    rcases h2 with h2 | ⟨a1, a2, a3⟩
    · exact Or.inl h2
    · exact Or.inr ⟨a1, by omega, by omega, by simpa using a3⟩
theorem toIntS_l0 (l : List (Int)) (ho : LB (fun _ => True) l) : ∀ (d k i : Nat) (y : List (Int)), i + d = l.length → d + 0 < k → y.length = l.length → y.take i = l.take i → laws_toIntS.l0 k l y (i : Int) = some l := by
  have hm := ho.1
  have hc : l.length = l.length := by rfl
  intro d
  induction d with
  | zero =>
    intro k i y hi hk hy ht
    obtain ⟨k, rfl⟩ : ∃ m, k = m + 1 := ⟨k - 1, by omega⟩
    simp only [laws_toIntS.l0]
    rw [if_neg (by omega), take_full hy hc (by rw [show l.length = i by omega]; exact ht)]
  | succ d ih =>
    intro k i y hi hk hy ht
    obtain ⟨k, rfl⟩ : ∃ m, k = m + 1 := ⟨k - 1, by omega⟩
    have hx := ho.2 _ (mem_getD l 0 i (by omega))
    simp only [laws_toIntS.l0, rd_L2, rd_L8, rd_T70, rd_T72, rd_T74, rd_T75, rd_T77, rd_T79, rd_natD, Int.toNat_natCast]
    repeat (first | refine ifp rfl ?_ | refine ifp (by omega) ?_ | refine ifp (by simp) ?_ | refine ifn (by simp) ?_)
    rw [w64_succ i (by omega)]
    refine ih k (i + 1) _ (by omega) (by omega) (by simpa using hy) ?_
    rw [take_set_succ _ _ _ (by omega), ht, take_succ_getD l 0 i (by omega)]
theorem toIntS_ (k : Nat) (l : List (Int)) (ho : LB (fun _ => True) l) (hk : 1048580 ≤ k) : laws_toIntS.f k l = some l := by
  have hm := ho.1
  unfold laws_toIntS.f
  rw [if_pos (by omega), if_pos (by simp; omega)]
  exact toIntS_l0 l ho l.length k 0 _ (by omega) (by omega) (by simp) (by simp)
theorem toShape_ (a0_0 : Int) (a0_1 : Int) (a0_2 : Int) : laws_toShape.f a0_0 a0_1 a0_2 = some (a0_0, a0_1, a0_2) := by
  unfold laws_toShape.f
  repeat (first | refine ifp rfl ?_ | refine ifp (by omega) ?_ | refine ifp (by simp) ?_ | refine ifn (by simp) ?_ | rfl)
theorem toTensor_ (k : Nat) (a0_0 : Int) (a0_1 : Int) (a0_2 : Int) (l0_3 : List (Int)) (hl0_3 : LB (fun _ => True) l0_3) (hk : 1048580 ≤ k) : laws_toTensor.f k a0_0 a0_1 a0_2 l0_3 = some (a0_0, a0_1, a0_2, l0_3) := by
  unfold laws_toTensor.f
  repeat (first | (refine st (toShape_ _ _ _) ?_; (try dsimp only)) | (refine st (toIntS_ _ _ (by assumption) (by omega)) ?_; (try dsimp only)) | refine ifp rfl ?_ | refine ifp (by omega) ?_ | refine ifp (by simp) ?_ | refine ifn (by simp) ?_ | rfl)
theorem toEvent_ (k : Nat) (a0_0 : Int) (a0_1 : Int) (a0_2 : Int) (a0_3 : Int) (a0_4 : Int) (a0_5 : Int) (l0_6 : List (Int)) (hl0_6 : LB (fun _ => True) l0_6) (hk : 1048580 ≤ k) : laws_toEvent.f k a0_0 a0_1 a0_2 a0_3 a0_4 a0_5 l0_6 = some (a0_0, a0_1, a0_2, a0_3, a0_4, a0_5, l0_6) := by
  unfold laws_toEvent.f
  repeat (first | (refine st (toTensor_ _ _ _ _ _ (by assumption) (by omega)) ?_; (try dsimp only)) | refine ifp rfl ?_ | refine ifp (by omega) ?_ | refine ifp (by simp) ?_ | refine ifn (by simp) ?_ | rfl)
def cv70_75 (x : S70) : S75 := ⟨x.f0, x.f1, x.f2⟩
def Ok70 (x : S70) : Prop := True
def Ok75 (x : S75) : Prop := True
theorem ok_cv70_75 (x : S70) (h : Ok70 x) : Ok75 (cv70_75 x) := trivial
def cv72_77 (x : S72) : S77 := ⟨(cv70_75 x.f0), x.f1⟩
def Ok72 (x : S72) : Prop := (LB (fun _ => True)) x.f1
def Ok77 (x : S77) : Prop := (LB (fun _ => True)) x.f1
theorem ok_cv72_77 (x : S72) (h : Ok72 x) : Ok77 (cv72_77 x) := h
def cv74_79 (x : S74) : S79 := ⟨x.f0, x.f1, x.f2, (cv72_77 x.f3)⟩
def Ok79 (x : S79) : Prop := (LB (fun _ => True)) x.f3.f1
theorem ok_cv74_79 (x : S74) (h : Ok74 x) : Ok79 (cv74_79 x) := h
theorem toEventS_l0 (l : List (S74)) (ho : LB Ok74 l) : ∀ (d k i : Nat) (y : List (S79)), i + d = l.length → d + 1048580 < k → y.length = l.length → y.take i = (l.map cv74_79).take i → laws_toEventS.l0 k l y (i : Int) = some (l.map cv74_79) := by
  have hm := ho.1
  have hc : (l.map cv74_79).length = l.length := by simp
  intro d
  induction d with
  | zero =>
    intro k i y hi hk hy ht
    obtain ⟨k, rfl⟩ : ∃ m, k = m + 1 := ⟨k - 1, by omega⟩
    simp only [laws_toEventS.l0]
    rw [if_neg (by omega), take_full hy hc (by rw [show l.length = i by omega]; exact ht)]
  | succ d ih =>
    intro k i y hi hk hy ht
    obtain ⟨k, rfl⟩ : ∃ m, k = m + 1 := ⟨k - 1, by omega⟩
    have hx := ho.2 _ (mem_getD l z74 i (by omega))
    have hx0 : (LB (fun _ => True)) (l.getD i z74).f3.f1 := hx
    simp only [laws_toEventS.l0, rd_L2, rd_L8, rd_T70, rd_T72, rd_T74, rd_T75, rd_T77, rd_T79, rd_natD, Int.toNat_natCast]
    repeat (first | (refine st (toEvent_ _ _ _ _ _ _ _ _ (by assumption) (by omega)) ?_; (try dsimp only)) | refine ifp rfl ?_ | refine ifp (by omega) ?_ | refine ifp (by simp) ?_ | refine ifn (by simp) ?_)
    rw [w64_succ i (by omega)]
    refine ih k (i + 1) _ (by omega) (by omega) (by simpa using hy) ?_
    rw [take_set_succ _ _ _ (by omega), ht, take_succ_getD (l.map cv74_79) z79 i (by omega), map_getD _ _ _ (by omega) z74]
    rfl
theorem toEventS_ (k : Nat) (l : List (S74)) (ho : LB Ok74 l) (hk : 2097160 ≤ k) : laws_toEventS.f k l = some (l.map cv74_79) := by
  have hm := ho.1
  unfold laws_toEventS.f
  rw [if_pos (by omega), if_pos (by simp; omega)]
  exact toEventS_l0 l ho l.length k 0 _ (by omega) (by omega) (by simp) (by simp)
theorem eqIntS_l0 (l : List (Int)) (ho : LB (fun _ => True) l) : ∀ (d k i : Nat), i + d = l.length → d + 0 < k → laws_eqIntS.l0 k l l (i : Int) = some true := by
  have hm := ho.1
  intro d
  induction d with
  | zero =>
    intro k i hi hk
    obtain ⟨k, rfl⟩ : ∃ m, k = m + 1 := ⟨k - 1, by omega⟩
    simp only [laws_eqIntS.l0]
    rw [if_neg (by omega)]
  | succ d ih =>
    intro k i hi hk
    obtain ⟨k, rfl⟩ : ∃ m, k = m + 1 := ⟨k - 1, by omega⟩
    have hx := ho.2 _ (mem_getD l 0 i (by omega))
    simp only [laws_eqIntS.l0, rd_L2, rd_L8, rd_T70, rd_T72, rd_T74, rd_T75, rd_T77, rd_T79, rd_natD, Int.toNat_natCast]
    repeat (first | refine ifp rfl ?_ | refine ifp (by omega) ?_ | refine ifp (by simp) ?_ | refine ifn (by simp) ?_)
    rw [w64_succ i (by omega)]
    exact ih k (i + 1) (by omega) (by omega)
theorem eqIntS_ (k : Nat) (l : List (Int)) (ho : LB (fun _ => True) l) (hk : 1048580 ≤ k) : laws_eqIntS.f k l l = some true := by
  have hm := ho.1
  unfold laws_eqIntS.f
  rw [if_pos rfl]
  exact eqIntS_l0 l ho l.length k 0 (by omega) (by omega)
theorem eqShape_ (a0_0 : Int) (a0_1 : Int) (a0_2 : Int) : laws_eqShape.f a0_0 a0_1 a0_2 a0_0 a0_1 a0_2 = some true := by
  unfold laws_eqShape.f
  repeat (first | refine ifp rfl ?_ | refine ifp (by omega) ?_ | refine ifp (by simp) ?_ | refine ifn (by simp) ?_ | rfl)
theorem eqTensor_ (k : Nat) (a0_0 : Int) (a0_1 : Int) (a0_2 : Int) (l0_3 : List (Int)) (hl0_3 : LB (fun _ => True) l0_3) (hk : 1048580 ≤ k) : laws_eqTensor.f k a0_0 a0_1 a0_2 l0_3 a0_0 a0_1 a0_2 l0_3 = some true := by
  unfold laws_eqTensor.f
  repeat (first | (refine st (eqShape_ _ _ _) ?_; (try dsimp only)) | (refine st (eqIntS_ _ _ (by assumption) (by omega)) ?_; (try dsimp only)) | refine ifp rfl ?_ | refine ifp (by omega) ?_ | refine ifp (by simp) ?_ | refine ifn (by simp) ?_ | rfl)
theorem eqEvent_ (k : Nat) (a0_0 : Int) (a0_1 : Int) (a0_2 : Int) (a0_3 : Int) (a0_4 : Int) (a0_5 : Int) (l0_6 : List (Int)) (hl0_6 : LB (fun _ => True) l0_6) (hk : 1048580 ≤ k) : laws_eqEvent.f k a0_0 a0_1 a0_2 a0_3 a0_4 a0_5 l0_6 a0_0 a0_1 a0_2 a0_3 a0_4 a0_5 l0_6 = some true := by
  unfold laws_eqEvent.f
  repeat (first | (refine st (eqTensor_ _ _ _ _ _ (by assumption) (by omega)) ?_; (try dsimp only)) | refine ifp rfl ?_ | refine ifp (by omega) ?_ | refine ifp (by simp) ?_ | refine ifn (by simp) ?_ | rfl)
theorem eqEventS_l0 (l : List (S79)) (ho : LB Ok79 l) : ∀ (d k i : Nat), i + d = l.length → d + 1048580 < k → laws_eqEventS.l0 k l l (i : Int) = some true := by
  have hm := ho.1
  intro d
  induction d with
  | zero =>
    intro k i hi hk
    obtain ⟨k, rfl⟩ : ∃ m, k = m + 1 := ⟨k - 1, by omega⟩
    simp only [laws_eqEventS.l0]
    rw [if_neg (by omega)]
  | succ d ih =>
    intro k i hi hk
    obtain ⟨k, rfl⟩ : ∃ m, k = m + 1 := ⟨k - 1, by omega⟩
    have hx := ho.2 _ (mem_getD l z79 i (by omega))
    have hx0 : (LB (fun _ => True)) (l.getD i z79).f3.f1 := hx
    simp only [laws_eqEventS.l0, rd_L2, rd_L8, rd_T70, rd_T72, rd_T74, rd_T75, rd_T77, rd_T79, rd_natD, Int.toNat_natCast]
    repeat (first | (refine st (eqEvent_ _ _ _ _ _ _ _ _ (by assumption) (by omega)) ?_; (try dsimp only)) | refine ifp rfl ?_ | refine ifp (by omega) ?_ | refine ifp (by simp) ?_ | refine ifn (by simp) ?_)
    rw [w64_succ i (by omega)]
    exact ih k (i + 1) (by omega) (by omega)
theorem eqEventS_ (k : Nat) (l : List (S79)) (ho : LB Ok79 l) (hk : 2097160 ≤ k) : laws_eqEventS.f k l l = some true := by
  have hm := ho.1
  unfold laws_eqEventS.f
  rw [if_pos rfl]
  exact eqEventS_l0 l ho l.length k 0 (by omega) (by omega)

theorem markIntS_l0 (n : Nat) (m0 : Int) (h0 : 0 ≤ m0) (h1 : m0 + n ≤ 9223372036854775806) : ∀ (d k i : Nat) (x : List Int), i + d = n → d < k → x.length = n → x.take i = marks m0 i → laws_markIntS.l0 k x (m0 + i) (i : Int) = some (m0 + n, marks m0 n) := by
  intro d
  induction d with
  | zero =>
    intro k i x hi hk hx ht
    obtain ⟨k, rfl⟩ : ∃ m, k = m + 1 := ⟨k - 1, by omega⟩
    simp only [laws_markIntS.l0]
    rw [if_neg (by omega), show i = n by omega]
    rw [show i = n by omega, List.take_of_length_le (by omega)] at ht
    rw [ht]
  | succ d ih =>
    intro k i x hi hk hx ht
    obtain ⟨k, rfl⟩ : ∃ m, k = m + 1 := ⟨k - 1, by omega⟩
    simp only [laws_markIntS.l0]
    rw [if_pos (by omega), if_pos (by omega), w64_succ i (by omega), w64 (x := m0 + i + 1) (by omega) (by omega)]
    have := ih k (i + 1) (x.set i (m0 + i)) (by omega) (by omega) (by simpa using hx) (by rw [take_set_succ _ _ _ (by omega), ht, marks_snoc])
    rw [show m0 + ((i + 1 : Nat) : Int) = m0 + i + 1 by omega] at this
    simpa using this
theorem markIntS_ (k : Nat) (l : List Int) (m : Int) (hk : l.length < k) (h0 : 0 ≤ m) (h1 : m + l.length ≤ 9223372036854775806) : laws_markIntS.f k l m = some (m + l.length, marks m l.length) := by
  unfold laws_markIntS.f
  have := markIntS_l0 l.length m h0 h1 l.length k 0 l (by omega) hk rfl (by simp [marks])
  simpa using this
theorem heldIntS_l0 (n : Nat) (m0 : Int) (h0 : 0 ≤ m0) (h1 : m0 + n ≤ 9223372036854775806) : ∀ (d k i : Nat), i + d = n → d < k → laws_heldIntS.l0 k (marks m0 n) (m0 + i) (i : Int) = some (m0 + n) := by
  intro d
  induction d with
  | zero =>
    intro k i hi hk
    obtain ⟨k, rfl⟩ : ∃ m, k = m + 1 := ⟨k - 1, by omega⟩
    simp only [laws_heldIntS.l0]
    rw [if_neg (by rw [marks_length]; omega), show i = n by omega]
  | succ d ih =>
    intro k i hi hk
    obtain ⟨k, rfl⟩ : ∃ m, k = m + 1 := ⟨k - 1, by omega⟩
    simp only [laws_heldIntS.l0]
    rw [if_pos (by rw [marks_length]; omega), if_pos (by omega), rd_natD, marks_getD _ _ _ (by omega), if_pos rfl, w64_succ i (by omega), w64 (x := m0 + i + 1) (by omega) (by omega)]
    have := ih k (i + 1) (by omega) (by omega)
    rwa [show m0 + ((i + 1 : Nat) : Int) = m0 + i + 1 by omega] at this
theorem heldIntS_ (k : Nat) (n : Nat) (m : Int) (hk : n < k) (h0 : 0 ≤ m) (h1 : m + n ≤ 9223372036854775806) : laws_heldIntS.f k (marks m n) m = some (m + n) := by
  unfold laws_heldIntS.f
  have := heldIntS_l0 n m h0 h1 n k 0 (by omega) hk
  simpa using this

theorem eqIntS_vl (a : List Int) (hm : a.length ≤ 100000000) : ∀ (d k i : Nat), i + d = a.length → d < k → laws_eqIntS.l0 k a a (i : Int) = some true := by
  intro d
  induction d with
  | zero =>
    intro k i hi hk
    obtain ⟨k, rfl⟩ : ∃ m, k = m + 1 := ⟨k - 1, by omega⟩
    simp only [laws_eqIntS.l0]
    rw [if_neg (by omega)]
  | succ d ih =>
    intro k i hi hk
    obtain ⟨k, rfl⟩ : ∃ m, k = m + 1 := ⟨k - 1, by omega⟩
    simp only [laws_eqIntS.l0, w64_succ i (by omega)]
    exact ifp (by omega) (ifp (by omega) (ifp (by omega) (ifp trivial (ih k (i + 1) (by omega) (by omega)))))
theorem eqIntS_v (k : Nat) (a : List Int) (hm : a.length ≤ 100000000) (hk : a.length < k) : laws_eqIntS.f k a a = some true := by
  unfold laws_eqIntS.f
  exact ifp rfl (eqIntS_vl a hm a.length k 0 (by omega) hk)

theorem mkI_eq (n : Nat) : ∀ (a : Int), 0 ≤ a → a + n ≤ 9000000000000000000 → mkI n a = a + n := by
  induction n with
  | zero => intro a _ _; simp [mkI]
  | succ n ih =>
    intro a h0 h1
    rw [mkI, w64 (by omega) (by omega), ih (a + 1) (by omega) (by omega)]
    omega

theorem mkEv (l : List S79) : ∀ (a : Int), LB Ok79 l → 0 ≤ a → a + (l.length : Int) * 1048600 ≤ 9000000000000000000 → 0 ≤ mk_laws_markEventS l a := by
  induction l with
  | nil => intro a _ h _; exact h
  | cons t r ih =>
    intro a ho h0 h1
    have ht : t.f3.f1.length ≤ 1048576 := (ho.2 t (by simp)).1
    have hl : ((t :: r).length : Int) = r.length + 1 := by simp
    rw [hl, Int.add_mul] at h1
    rw [mk_laws_markEventS, w64 (x := a + 1) (by omega) (by omega), w64 (x := a + 1 + 1) (by omega) (by omega), w64 (x := a + 1 + 1 + 1) (by omega) (by omega), w64 (x := a + 1 + 1 + 1 + 1) (by omega) (by omega), w64 (x := a + 1 + 1 + 1 + 1 + 1) (by omega) (by omega), w64 (x := a + 1 + 1 + 1 + 1 + 1 + 1) (by omega) (by omega), mkI_eq _ _ (by omega) (by omega)]
    exact ih _ ⟨by have := ho.1; simp at this; omega, fun x hx => ho.2 x (by simp [hx])⟩ (by omega) (by omega)
theorem markEv_ (l : List S79) (ho : LB Ok79 l) : ∃ r, laws_markEventS.f l 1 = some r ∧ 0 ≤ r :=
  ⟨_, rfl, mkEv l 1 ho (by omega) (by have := ho.1; omega)⟩

def refd : List S79 → List Int → List Int
  | [], o => o
  | x :: r, o => if x.f0 = 5 ∧ 0 ≤ x.f2 ∧ x.f2 ≤ 8 then refd r (o.set x.f2.toNat (wrap64 (rd o x.f2 + 1))) else refd r o
theorem refd_len (l : List S79) : ∀ o, (refd l o).length = o.length := by
  induction l with
  | nil => intro o; rfl
  | cons x r ih =>
    intro o
    simp only [refd]
    split
    · rw [ih]; simp
    · rw [ih]
theorem refd_l0 (l : List S79) (hm : l.length ≤ 1048576) : ∀ (d k i : Nat) (o : List Int), i + d = l.length → d < k → o.length = 9 →
    spec_RefusedBy.l0 k l o (i : Int) = some (refd (l.drop i) o) ∧ impl_RefusedBy.l0 k o l (l.length : Int) (i : Int) = some (refd (l.drop i) o) := by
  intro d
  induction d with
  | zero =>
    intro k i o hi hk ha
    obtain ⟨k, rfl⟩ : ∃ m, k = m + 1 := ⟨k - 1, by omega⟩
    rw [List.drop_of_length_le (by omega)]
    simp only [spec_RefusedBy.l0, impl_RefusedBy.l0, refd]
    exact ⟨ifn (by omega) rfl, ifn (by omega) rfl⟩
  | succ d ih =>
    intro k i o hi hk ha
    obtain ⟨k, rfl⟩ : ∃ m, k = m + 1 := ⟨k - 1, by omega⟩
    simp only [spec_RefusedBy.l0, impl_RefusedBy.l0, spec_in, impl_in_, Option.bind_some, rd_T79, Int.toNat_natCast, w64_succ i (by omega)]
    by_cases c : (l.getD i z79).f0 = 5
    · by_cases c2 : 0 ≤ (l.getD i z79).f2 ∧ (l.getD i z79).f2 ≤ 8
      · obtain ⟨g1, g2⟩ := ih k (i + 1) (o.set (l.getD i z79).f2.toNat (wrap64 (rd o (l.getD i z79).f2 + 1))) (by omega) (by omega) (by simpa using ha)
        have hv : refd (l.drop i) o = refd (l.drop (i + 1)) (o.set (l.getD i z79).f2.toNat (wrap64 (rd o (l.getD i z79).f2 + 1))) := by rw [drop_getD l z79 i (by omega)]; simp only [refd]; rw [if_pos ⟨c, c2⟩]
        rw [hv]
        exact ⟨ifp (by omega) (ifp (by omega) (ifp c (ifp (by simpa using c2) (ifp c2.1 (ifp (by omega) g1))))), ifp (by omega) (ifp (by omega) (ifp (by omega) (ifp c (ifp (by simpa using c2) (ifp c2.1 (ifp (by omega) g2))))))⟩
      · obtain ⟨g1, g2⟩ := ih k (i + 1) o (by omega) (by omega) ha
        have hv : refd (l.drop i) o = refd (l.drop (i + 1)) o := by rw [drop_getD l z79 i (by omega)]; simp only [refd]; rw [if_neg (fun h => c2 h.2)]
        rw [hv]
        exact ⟨ifp (by omega) (ifp (by omega) (ifp c (ifn (by simpa using c2) g1))), ifp (by omega) (ifp (by omega) (ifp (by omega) (ifp c (ifn (by simpa using c2) g2))))⟩
    · obtain ⟨g1, g2⟩ := ih k (i + 1) o (by omega) (by omega) ha
      have hv : refd (l.drop i) o = refd (l.drop (i + 1)) o := by rw [drop_getD l z79 i (by omega)]; simp only [refd]; rw [if_neg (fun h => c h.1)]
      rw [hv]
      exact ⟨ifp (by omega) (ifp (by omega) (ifn c g1)), ifp (by omega) (ifp (by omega) (ifp (by omega) (ifn c g2)))⟩
theorem refusedby (k : Nat) (l : List S79) (hm : l.length ≤ 1048576) (hk : 1048580 ≤ k) : spec_RefusedBy.f k l = some (refd l (List.replicate 9 0)) ∧ impl_RefusedBy.f k l = some (refd l (List.replicate 9 0)) := by
  unfold spec_RefusedBy.f impl_RefusedBy.f
  have := refd_l0 l hm l.length k 0 (List.replicate 9 0) (by omega) (by omega) (by simp)
  simpa using this


theorem FnExactRefusedBy : laws_FnExactRefusedBy.Pure := by
  intro l hl
  obtain ⟨k, hk⟩ : ∃ k : Nat, 1000000000 ≤ k := ⟨_, Nat.le_refl _⟩
  refine ⟨k + 1, ?_⟩
  unfold laws_FnExactRefusedBy.f
  obtain ⟨r, e, h⟩ := szEventS_ (k + 1) l 1048576 hl (by omega) (by omega) (by omega)
  rw [e]; simp only [Option.bind_some]; clear e
  rcases h with h | ⟨h0, h1, ho⟩
  · rw [if_pos h]
  rw [if_neg (by omega)]

  have ho2 : LB Ok79 (l.map cv74_79) := ho.map ok_cv74_79
  obtain ⟨e1, e2⟩ := refusedby (k + 1) (l.map cv74_79) ho2.1 (by omega)
  obtain ⟨e3, e4⟩ := refusedby k (l.map cv74_79) ho2.1 (by omega)
  have hl2 := (refd_len (l.map cv74_79) (List.replicate 9 0)).trans List.length_replicate
  generalize refd (l.map cv74_79) (List.replicate 9 0) = v at e1 e2 e3 e4 hl2
  have hv : v.length ≤ 6291456 := by have := ho2.1; omega
  obtain ⟨rm, em, hm⟩ := markEv_ (l.map cv74_79) ho2
  repeat (first
    | (refine st e1 ?_; (try dsimp only))
    | (refine st e2 ?_; (try dsimp only))
    | (refine st e4 ?_; (try dsimp only))
    | (refine st (toEventS_ _ _ (by assumption) (by omega)) ?_; (try dsimp only))
    | (refine st (eqEventS_ _ _ (by assumption) (by omega)) ?_; (try dsimp only))
    | (refine st (markIntS_ _ _ _ (by omega) (by omega) (by omega)) ?_; (try dsimp only))
    | (refine st (heldIntS_ _ _ _ (by omega) (by omega) (by omega)) ?_; (try dsimp only))
    | (refine st em ?_; (try dsimp only))
    | (refine st (eqIntS_v _ _ (by omega) (by omega)) ?_; (try dsimp only))
    | rw [laws_FnExactRefusedBy.j0]
    | refine ifp rfl ?_
    | refine ifn (by omega) ?_
    | refine ifp (by omega) ?_
    | refine ifn (by simp) ?_
    | refine ifp (by simp) ?_
    | rfl)

end Go.Proofs.Ytoggdgahfagegaa.Pure
