/- What is left of the statement FnExactQueueText once the Go functions are Lean functions: the program's QueueText and the reference's answer alike. No condition. -/
import Derived.Test.YtemnodpabflkoaaGreatDoorQFnExactQueueTextx7
import Derived.Test.YtemnodpabflkoaaGreatDoorAid
set_option linter.unusedVariables false
set_option linter.unusedSimpArgs false
namespace Go.Proofs.YtemnodpabflkoaaGreatDoor.Pure
open Go.RowKit Go.Proofs.YtemnodpabflkoaaGreatDoor.QFnExactQueueText Go.Proofs.YtemnodpabflkoaaGreatDoorW.PrintWords Go.Proofs.YtemnodpabflkoaaGreatDoorW.PrintLast Go.Proofs.YtemnodpabflkoaaGreatDoorW.PrintMore Go.Proofs.YtemnodpabflkoaaGreatDoorW.Aid


theorem spec_in (x lo hi : Int) : spec_l01In.f x lo hi = some (decide (lo ≤ x ∧ x ≤ hi)) := by
  unfold spec_l01In.f
  split
  · simp_all
  · simp; omega
theorem impl_in_ (x lo hi : Int) : impl_in.f x lo hi = some (decide (lo ≤ x ∧ x ≤ hi)) := by
  unfold impl_in.f
  split
  · simp_all
  · simp; omega

def LB {α : Type} (P : α → Prop) (l : List α) : Prop := l.length ≤ 1048576 ∧ ∀ x ∈ l, P x
theorem LB.map {α β : Type} {P : α → Prop} {Q : β → Prop} {f : α → β} {l : List α} (hf : ∀ x, P x → Q (f x)) (h : LB P l) : LB Q (l.map f) := ⟨by simpa using h.1, fun y hy => by obtain ⟨x, hx, rfl⟩ := List.mem_map.1 hy; exact hf x (h.2 x hx)⟩
theorem map_getD {α β : Type} (f : α → β) (l : List α) (i : Nat) (h : i < l.length) (d : α) (d' : β) : (l.map f).getD i d' = f (l.getD i d) := by simp [h]
theorem szIntS_ {W : Int → Prop} (l : List (Int)) (a : Int) (hw : WL W l) (h0 : 0 ≤ a) (h1 : a ≤ 1048576) : ∃ r, laws_szIntS.f l a = some r ∧ (r < 0 ∨ (0 ≤ r ∧ r ≤ a ∧ LB (fun _ => True) l)) := by
  have hm : l.length ≤ 9223372036854775807 := hw.1
  have he : wrap64 (a - (l.length : Int)) = a - l.length := w64 (by omega) (by omega)
  unfold laws_szIntS.f
  rw [he]
  by_cases h : a - (l.length : Int) < 0
  · exact ⟨-1, if_pos h, Or.inl (by omega)⟩
  · rw [if_neg h]
    exact ⟨_, rfl, Or.inr ⟨by omega, by omega, by omega, fun _ _ => trivial⟩⟩
theorem szTask_ {Wl0_1 : Int → Prop} (a0_0 : Int) (l0_1 : List (Int)) (a0_2 : Int) (a0_3 : Int) (a0_4 : Int) (a1 : Int) (wl0_1 : WL Wl0_1 l0_1) (h0 : 0 ≤ a1) (h1 : a1 ≤ 1048576) : ∃ r, laws_szTask.f a0_0 l0_1 a0_2 a0_3 a0_4 a1 = some r ∧ (r < 0 ∨ (0 ≤ r ∧ r ≤ a1 ∧ LB (fun _ => True) l0_1)) := by
  unfold laws_szTask.f
  obtain ⟨r1, e1, g1⟩ := szIntS_ l0_1 a1 wl0_1 (by omega) (by omega)
  rw [e1]
  simp only [Option.bind_some]
  rcases g1 with g1 | ⟨p1, u1, g1⟩
  · exact ⟨-1, if_pos g1, Or.inl (by omega)⟩
  rw [if_neg (by omega)]
  exact ⟨r1, rfl, Or.inr ⟨by omega, by omega, g1⟩⟩
def Ok102 (x : S102) : Prop := (LB (fun _ => True)) x.f1
theorem szTaskS_l0 (l : List (S102)) (hw : WL Wt102 l) (hm : l.length ≤ 1048576) : ∀ (d k i : Nat) (a : Int), i + d = l.length → d + 1048580 < k → 0 ≤ a → a ≤ 1048576 → ∃ r, laws_szTaskS.l0 k l a (i : Int) = some r ∧ (r < 0 ∨ (0 ≤ r ∧ r ≤ a ∧ ∀ x ∈ l.drop i, Ok102 x)) := by
  intro d
  induction d with
  | zero =>
    intro k i a hi hk h0 h1
    obtain ⟨k, rfl⟩ : ∃ m, k = m + 1 := ⟨k - 1, by omega⟩
    simp only [laws_szTaskS.l0]
    rw [if_neg (by omega), List.drop_of_length_le (by omega)]
    exact ⟨a, rfl, Or.inr ⟨h0, Int.le_refl _, fun x hx => absurd hx (by simp)⟩⟩
  | succ d ih =>
    intro k i a hi hk h0 h1
    obtain ⟨k, rfl⟩ : ∃ m, k = m + 1 := ⟨k - 1, by omega⟩
    have hx := hw.2 _ (mem_getD l z102 i (by omega))
    have hw0 : (WL (WI .i64)) (l.getD i z102).f1 := hx.2.1
    simp only [laws_szTaskS.l0, rd_L1, rd_L14, rd_L21, rd_L23, rd_L24, rd_L25, rd_L5, rd_T102, rd_T111, rd_T128, rd_T133, rd_T24, rd_T29, rd_T47, rd_T50, rd_T53, rd_T55, rd_T57, rd_T72, rd_T75, rd_T78, rd_T80, rd_T82, rdOf, Int.toNat_natCast]
    rw [if_pos (by omega), if_pos (by omega)]
    obtain ⟨r, e, h⟩ := szTask_ (l.getD i z102).f0 (l.getD i z102).f1 (l.getD i z102).f2 (l.getD i z102).f3 (l.getD i z102).f4 a hw0 h0 h1
    rw [e]
    simp only [Option.bind_some]
    rcases h with h | ⟨h1, h2, h3⟩
    · exact ⟨-1, if_pos h, Or.inl (by omega)⟩
    · rw [if_neg (by omega), w64_succ i (by omega)]
      obtain ⟨r', e', h'⟩ := ih k (i + 1) r (by omega) (by omega) h1 (by omega)
      refine ⟨r', e', ?_⟩
      rcases h' with h' | ⟨a1, a2, a3⟩
      · exact Or.inl h'
      · refine Or.inr ⟨a1, by omega, ?_⟩
        rw [drop_getD l z102 i (by omega)]
        intro x hx
        rcases List.mem_cons.1 hx with rfl | hx
        · exact h3
        · exact a3 x hx
theorem szTaskS_ (k : Nat) (l : List (S102)) (a : Int) (hw : WL Wt102 l) (h0 : 0 ≤ a) (h1 : a ≤ 1048576) (hk : 2097160 ≤ k) : ∃ r, laws_szTaskS.f k l a = some r ∧ (r < 0 ∨ (0 ≤ r ∧ r ≤ a ∧ LB Ok102 l)) := by
  have hm : l.length ≤ 9223372036854775807 := hw.1
  have he : wrap64 (a - (l.length : Int)) = a - l.length := w64 (by omega) (by omega)
  unfold laws_szTaskS.f
  rw [he]
  by_cases h : a - (l.length : Int) < 0
  · exact ⟨-1, if_pos h, Or.inl (by omega)⟩
  · rw [if_neg h]
    obtain ⟨r, e, h2⟩ := szTaskS_l0 l hw (by omega) l.length k 0 (a - l.length) (by omega) (by omega) (by omega) (by omega)
    refine ⟨r, e, ?_⟩
    rcases h2 with h2 | ⟨a1, a2, a3⟩
    · exact Or.inl h2
    · exact Or.inr ⟨a1, by omega, by omega, by simpa using a3⟩
theorem szSched_ (k : Nat) (a0_0 : Int) (a0_1 : Int) (a0_2 : Int) (l0_3 : List (S102)) (a0_4 : Int) (a0_5 : Int) (a0_6 : Int) (a0_7 : Int) (a1 : Int) (wl0_3 : WL Wt102 l0_3) (h0 : 0 ≤ a1) (h1 : a1 ≤ 1048576) (hk : 2097160 ≤ k) : ∃ r, laws_szSched.f k a0_0 a0_1 a0_2 l0_3 a0_4 a0_5 a0_6 a0_7 a1 = some r ∧ (r < 0 ∨ (0 ≤ r ∧ r ≤ a1 ∧ LB Ok102 l0_3)) := by
  unfold laws_szSched.f
  obtain ⟨r1, e1, g1⟩ := szTaskS_ k l0_3 a1 wl0_3 (by omega) (by omega) (by omega)
  rw [e1]
  simp only [Option.bind_some]
  rcases g1 with g1 | ⟨p1, u1, g1⟩
  · exact ⟨-1, if_pos g1, Or.inl (by omega)⟩
  rw [if_neg (by omega)]
  exact ⟨r1, rfl, Or.inr ⟨by omega, by omega, g1⟩⟩
theorem szLayer_ {Wl0_7 : Int → Prop} {Wl0_8 : Int → Prop} (a0_0 : Int) (a0_1 : Int) (a0_2 : Int) (a0_3 : Int) (a0_4 : Int) (a0_5 : Int) (a0_6 : Int) (l0_7 : List (Int)) (l0_8 : List (Int)) (a1 : Int) (wl0_7 : WL Wl0_7 l0_7) (wl0_8 : WL Wl0_8 l0_8) (h0 : 0 ≤ a1) (h1 : a1 ≤ 1048576) : ∃ r, laws_szLayer.f a0_0 a0_1 a0_2 a0_3 a0_4 a0_5 a0_6 l0_7 l0_8 a1 = some r ∧ (r < 0 ∨ (0 ≤ r ∧ r ≤ a1 ∧ LB (fun _ => True) l0_7 ∧ LB (fun _ => True) l0_8)) := by
  unfold laws_szLayer.f
  obtain ⟨r1, e1, g1⟩ := szIntS_ l0_7 a1 wl0_7 (by omega) (by omega)
  rw [e1]
  simp only [Option.bind_some]
  rcases g1 with g1 | ⟨p1, u1, g1⟩
  · exact ⟨-1, if_pos g1, Or.inl (by omega)⟩
  rw [if_neg (by omega)]
  obtain ⟨r2, e2, g2⟩ := szIntS_ l0_8 r1 wl0_8 (by omega) (by omega)
  rw [e2]
  simp only [Option.bind_some]
  rcases g2 with g2 | ⟨p2, u2, g2⟩
  · exact ⟨-1, if_pos g2, Or.inl (by omega)⟩
  rw [if_neg (by omega)]
  exact ⟨r2, rfl, Or.inr ⟨by omega, by omega, g1, g2⟩⟩
def Ok128 (x : S128) : Prop := (LB (fun _ => True)) x.f7 ∧ (LB (fun _ => True)) x.f8
theorem szLayerS_l0 (l : List (S128)) (hw : WL Wt128 l) (hm : l.length ≤ 1048576) : ∀ (d k i : Nat) (a : Int), i + d = l.length → d + 1048580 < k → 0 ≤ a → a ≤ 1048576 → ∃ r, laws_szLayerS.l0 k l a (i : Int) = some r ∧ (r < 0 ∨ (0 ≤ r ∧ r ≤ a ∧ ∀ x ∈ l.drop i, Ok128 x)) := by
  intro d
  induction d with
  | zero =>
    intro k i a hi hk h0 h1
    obtain ⟨k, rfl⟩ : ∃ m, k = m + 1 := ⟨k - 1, by omega⟩
    simp only [laws_szLayerS.l0]
    rw [if_neg (by omega), List.drop_of_length_le (by omega)]
    exact ⟨a, rfl, Or.inr ⟨h0, Int.le_refl _, fun x hx => absurd hx (by simp)⟩⟩
  | succ d ih =>
    intro k i a hi hk h0 h1
    obtain ⟨k, rfl⟩ : ∃ m, k = m + 1 := ⟨k - 1, by omega⟩
    have hx := hw.2 _ (mem_getD l z128 i (by omega))
    have hw0 : (WL (WI .i64)) (l.getD i z128).f7 := hx.2.2.2.2.2.2.2.1
    have hw1 : (WL (WI .i64)) (l.getD i z128).f8 := hx.2.2.2.2.2.2.2.2
    simp only [laws_szLayerS.l0, rd_L1, rd_L14, rd_L21, rd_L23, rd_L24, rd_L25, rd_L5, rd_T102, rd_T111, rd_T128, rd_T133, rd_T24, rd_T29, rd_T47, rd_T50, rd_T53, rd_T55, rd_T57, rd_T72, rd_T75, rd_T78, rd_T80, rd_T82, rdOf, Int.toNat_natCast]
    rw [if_pos (by omega), if_pos (by omega)]
    obtain ⟨r, e, h⟩ := szLayer_ (l.getD i z128).f0 (l.getD i z128).f1 (l.getD i z128).f2 (l.getD i z128).f3 (l.getD i z128).f4 (l.getD i z128).f5 (l.getD i z128).f6 (l.getD i z128).f7 (l.getD i z128).f8 a hw0 hw1 h0 h1
    rw [e]
    simp only [Option.bind_some]
    rcases h with h | ⟨h1, h2, h3⟩
    · exact ⟨-1, if_pos h, Or.inl (by omega)⟩
    · rw [if_neg (by omega), w64_succ i (by omega)]
      obtain ⟨r', e', h'⟩ := ih k (i + 1) r (by omega) (by omega) h1 (by omega)
      refine ⟨r', e', ?_⟩
      rcases h' with h' | ⟨a1, a2, a3⟩
      · exact Or.inl h'
      · refine Or.inr ⟨a1, by omega, ?_⟩
        rw [drop_getD l z128 i (by omega)]
        intro x hx
        rcases List.mem_cons.1 hx with rfl | hx
        · exact h3
        · exact a3 x hx
theorem szLayerS_ (k : Nat) (l : List (S128)) (a : Int) (hw : WL Wt128 l) (h0 : 0 ≤ a) (h1 : a ≤ 1048576) (hk : 2097160 ≤ k) : ∃ r, laws_szLayerS.f k l a = some r ∧ (r < 0 ∨ (0 ≤ r ∧ r ≤ a ∧ LB Ok128 l)) := by
  have hm : l.length ≤ 9223372036854775807 := hw.1
  have he : wrap64 (a - (l.length : Int)) = a - l.length := w64 (by omega) (by omega)
  unfold laws_szLayerS.f
  rw [he]
  by_cases h : a - (l.length : Int) < 0
  · exact ⟨-1, if_pos h, Or.inl (by omega)⟩
  · rw [if_neg h]
    obtain ⟨r, e, h2⟩ := szLayerS_l0 l hw (by omega) l.length k 0 (a - l.length) (by omega) (by omega) (by omega) (by omega)
    refine ⟨r, e, ?_⟩
    rcases h2 with h2 | ⟨a1, a2, a3⟩
    · exact Or.inl h2
    · exact Or.inr ⟨a1, by omega, by omega, by simpa using a3⟩
theorem szModel_ (k : Nat) (a0_0 : Int) (a0_1 : Int) (a0_2 : Int) (l0_3 : List (S128)) (a1 : Int) (wl0_3 : WL Wt128 l0_3) (h0 : 0 ≤ a1) (h1 : a1 ≤ 1048576) (hk : 2097160 ≤ k) : ∃ r, laws_szModel.f k a0_0 a0_1 a0_2 l0_3 a1 = some r ∧ (r < 0 ∨ (0 ≤ r ∧ r ≤ a1 ∧ LB Ok128 l0_3)) := by
  unfold laws_szModel.f
  obtain ⟨r1, e1, g1⟩ := szLayerS_ k l0_3 a1 wl0_3 (by omega) (by omega) (by omega)
  rw [e1]
  simp only [Option.bind_some]
  rcases g1 with g1 | ⟨p1, u1, g1⟩
  · exact ⟨-1, if_pos g1, Or.inl (by omega)⟩
  rw [if_neg (by omega)]
  exact ⟨r1, rfl, Or.inr ⟨by omega, by omega, g1⟩⟩
def Ok75 (x : S75) : Prop := (LB Ok128) x.f1
theorem szModelS_l0 (l : List (S75)) (hw : WL Wt75 l) (hm : l.length ≤ 1048576) : ∀ (d k i : Nat) (a : Int), i + d = l.length → d + 2097160 < k → 0 ≤ a → a ≤ 1048576 → ∃ r, laws_szModelS.l0 k l a (i : Int) = some r ∧ (r < 0 ∨ (0 ≤ r ∧ r ≤ a ∧ ∀ x ∈ l.drop i, Ok75 x)) := by
  intro d
  induction d with
  | zero =>
    intro k i a hi hk h0 h1
    obtain ⟨k, rfl⟩ : ∃ m, k = m + 1 := ⟨k - 1, by omega⟩
    simp only [laws_szModelS.l0]
    rw [if_neg (by omega), List.drop_of_length_le (by omega)]
    exact ⟨a, rfl, Or.inr ⟨h0, Int.le_refl _, fun x hx => absurd hx (by simp)⟩⟩
  | succ d ih =>
    intro k i a hi hk h0 h1
    obtain ⟨k, rfl⟩ : ∃ m, k = m + 1 := ⟨k - 1, by omega⟩
    have hx := hw.2 _ (mem_getD l z75 i (by omega))
    have hw0 : (WL Wt128) (l.getD i z75).f1 := hx.2
    simp only [laws_szModelS.l0, rd_L1, rd_L14, rd_L21, rd_L23, rd_L24, rd_L25, rd_L5, rd_T102, rd_T111, rd_T128, rd_T133, rd_T24, rd_T29, rd_T47, rd_T50, rd_T53, rd_T55, rd_T57, rd_T72, rd_T75, rd_T78, rd_T80, rd_T82, rdOf, Int.toNat_natCast]
    rw [if_pos (by omega), if_pos (by omega)]
    obtain ⟨r, e, h⟩ := szModel_ k (l.getD i z75).f0.f0 (l.getD i z75).f0.f1 (l.getD i z75).f0.f2 (l.getD i z75).f1 a hw0 h0 h1 (by omega)
    rw [e]
    simp only [Option.bind_some]
    rcases h with h | ⟨h1, h2, h3⟩
    · exact ⟨-1, if_pos h, Or.inl (by omega)⟩
    · rw [if_neg (by omega), w64_succ i (by omega)]
      obtain ⟨r', e', h'⟩ := ih k (i + 1) r (by omega) (by omega) h1 (by omega)
      refine ⟨r', e', ?_⟩
      rcases h' with h' | ⟨a1, a2, a3⟩
      · exact Or.inl h'
      · refine Or.inr ⟨a1, by omega, ?_⟩
        rw [drop_getD l z75 i (by omega)]
        intro x hx
        rcases List.mem_cons.1 hx with rfl | hx
        · exact h3
        · exact a3 x hx
theorem szModelS_ (k : Nat) (l : List (S75)) (a : Int) (hw : WL Wt75 l) (h0 : 0 ≤ a) (h1 : a ≤ 1048576) (hk : 3145740 ≤ k) : ∃ r, laws_szModelS.f k l a = some r ∧ (r < 0 ∨ (0 ≤ r ∧ r ≤ a ∧ LB Ok75 l)) := by
  have hm : l.length ≤ 9223372036854775807 := hw.1
  have he : wrap64 (a - (l.length : Int)) = a - l.length := w64 (by omega) (by omega)
  unfold laws_szModelS.f
  rw [he]
  by_cases h : a - (l.length : Int) < 0
  · exact ⟨-1, if_pos h, Or.inl (by omega)⟩
  · rw [if_neg h]
    obtain ⟨r, e, h2⟩ := szModelS_l0 l hw (by omega) l.length k 0 (a - l.length) (by omega) (by omega) (by omega) (by omega)
    refine ⟨r, e, ?_⟩
    rcases h2 with h2 | ⟨a1, a2, a3⟩
    · exact Or.inl h2
    · exact Or.inr ⟨a1, by omega, by omega, by simpa using a3⟩
theorem szBoolS_ {W : Bool → Prop} (l : List (Bool)) (a : Int) (hw : WL W l) (h0 : 0 ≤ a) (h1 : a ≤ 1048576) : ∃ r, laws_szBoolS.f l a = some r ∧ (r < 0 ∨ (0 ≤ r ∧ r ≤ a ∧ LB (fun _ => True) l)) := by
  have hm : l.length ≤ 9223372036854775807 := hw.1
  have he : wrap64 (a - (l.length : Int)) = a - l.length := w64 (by omega) (by omega)
  unfold laws_szBoolS.f
  rw [he]
  by_cases h : a - (l.length : Int) < 0
  · exact ⟨-1, if_pos h, Or.inl (by omega)⟩
  · rw [if_neg h]
    exact ⟨_, rfl, Or.inr ⟨by omega, by omega, by omega, fun _ _ => trivial⟩⟩
theorem szTensor_ {Wl0_3 : Int → Prop} (a0_0 : Int) (a0_1 : Int) (a0_2 : Int) (l0_3 : List (Int)) (a1 : Int) (wl0_3 : WL Wl0_3 l0_3) (h0 : 0 ≤ a1) (h1 : a1 ≤ 1048576) : ∃ r, laws_szTensor.f a0_0 a0_1 a0_2 l0_3 a1 = some r ∧ (r < 0 ∨ (0 ≤ r ∧ r ≤ a1 ∧ LB (fun _ => True) l0_3)) := by
  unfold laws_szTensor.f
  obtain ⟨r1, e1, g1⟩ := szIntS_ l0_3 a1 wl0_3 (by omega) (by omega)
  rw [e1]
  simp only [Option.bind_some]
  rcases g1 with g1 | ⟨p1, u1, g1⟩
  · exact ⟨-1, if_pos g1, Or.inl (by omega)⟩
  rw [if_neg (by omega)]
  exact ⟨r1, rfl, Or.inr ⟨by omega, by omega, g1⟩⟩
theorem szJob_ {Wl0_8 : Int → Prop} (k : Nat) (a0_0 : Int) (a0_1 : Int) (a0_2 : Int) (l0_3 : List (S128)) (a0_4 : Int) (a0_5 : Int) (a0_6 : Int) (a0_7 : Int) (l0_8 : List (Int)) (a0_9 : Int) (a1 : Int) (wl0_3 : WL Wt128 l0_3) (wl0_8 : WL Wl0_8 l0_8) (h0 : 0 ≤ a1) (h1 : a1 ≤ 1048576) (hk : 2097160 ≤ k) : ∃ r, laws_szJob.f k a0_0 a0_1 a0_2 l0_3 a0_4 a0_5 a0_6 a0_7 l0_8 a0_9 a1 = some r ∧ (r < 0 ∨ (0 ≤ r ∧ r ≤ a1 ∧ LB Ok128 l0_3 ∧ LB (fun _ => True) l0_8)) := by
  unfold laws_szJob.f
  obtain ⟨r1, e1, g1⟩ := szModel_ k a0_0 a0_1 a0_2 l0_3 a1 wl0_3 (by omega) (by omega) (by omega)
  rw [e1]
  simp only [Option.bind_some]
  rcases g1 with g1 | ⟨p1, u1, g1⟩
  · exact ⟨-1, if_pos g1, Or.inl (by omega)⟩
  rw [if_neg (by omega)]
  obtain ⟨r2, e2, g2⟩ := szTensor_ a0_5 a0_6 a0_7 l0_8 r1 wl0_8 (by omega) (by omega)
  rw [e2]
  simp only [Option.bind_some]
  rcases g2 with g2 | ⟨p2, u2, g2⟩
  · exact ⟨-1, if_pos g2, Or.inl (by omega)⟩
  rw [if_neg (by omega)]
  exact ⟨r2, rfl, Or.inr ⟨by omega, by omega, g1, g2⟩⟩
theorem szRequest_ {Wl0_10 : Int → Prop} (k : Nat) (a0_0 : Int) (a0_1 : Int) (a0_2 : Int) (a0_3 : Int) (a0_4 : Int) (l0_5 : List (S128)) (a0_6 : Int) (a0_7 : Int) (a0_8 : Int) (a0_9 : Int) (l0_10 : List (Int)) (a0_11 : Int) (a0_12 : Int) (a1 : Int) (wl0_5 : WL Wt128 l0_5) (wl0_10 : WL Wl0_10 l0_10) (h0 : 0 ≤ a1) (h1 : a1 ≤ 1048576) (hk : 2097160 ≤ k) : ∃ r, laws_szRequest.f k a0_0 a0_1 a0_2 a0_3 a0_4 l0_5 a0_6 a0_7 a0_8 a0_9 l0_10 a0_11 a0_12 a1 = some r ∧ (r < 0 ∨ (0 ≤ r ∧ r ≤ a1 ∧ LB Ok128 l0_5 ∧ LB (fun _ => True) l0_10)) := by
  unfold laws_szRequest.f
  obtain ⟨r1, e1, g1⟩ := szJob_ k a0_2 a0_3 a0_4 l0_5 a0_6 a0_7 a0_8 a0_9 l0_10 a0_11 a1 wl0_5 wl0_10 (by omega) (by omega) (by omega)
  rw [e1]
  simp only [Option.bind_some]
  rcases g1 with g1 | ⟨p1, u1, g1⟩
  · exact ⟨-1, if_pos g1, Or.inl (by omega)⟩
  rw [if_neg (by omega)]
  exact ⟨r1, rfl, Or.inr ⟨by omega, by omega, g1.1, g1.2⟩⟩
def Ok82 (x : S82) : Prop := (LB Ok128) x.f2.f0.f1 ∧ (LB (fun _ => True)) x.f2.f2.f1
theorem szRequestS_l0 (l : List (S82)) (hw : WL Wt82 l) (hm : l.length ≤ 1048576) : ∀ (d k i : Nat) (a : Int), i + d = l.length → d + 2097160 < k → 0 ≤ a → a ≤ 1048576 → ∃ r, laws_szRequestS.l0 k l a (i : Int) = some r ∧ (r < 0 ∨ (0 ≤ r ∧ r ≤ a ∧ ∀ x ∈ l.drop i, Ok82 x)) := by
  intro d
  induction d with
  | zero =>
    intro k i a hi hk h0 h1
    obtain ⟨k, rfl⟩ : ∃ m, k = m + 1 := ⟨k - 1, by omega⟩
    simp only [laws_szRequestS.l0]
    rw [if_neg (by omega), List.drop_of_length_le (by omega)]
    exact ⟨a, rfl, Or.inr ⟨h0, Int.le_refl _, fun x hx => absurd hx (by simp)⟩⟩
  | succ d ih =>
    intro k i a hi hk h0 h1
    obtain ⟨k, rfl⟩ : ∃ m, k = m + 1 := ⟨k - 1, by omega⟩
    have hx := hw.2 _ (mem_getD l z82 i (by omega))
    have hw0 : (WL Wt128) (l.getD i z82).f2.f0.f1 := hx.2.2.1.1.2
    have hw1 : (WL (WI .i64)) (l.getD i z82).f2.f2.f1 := hx.2.2.1.2.2.1.2
    simp only [laws_szRequestS.l0, rd_L1, rd_L14, rd_L21, rd_L23, rd_L24, rd_L25, rd_L5, rd_T102, rd_T111, rd_T128, rd_T133, rd_T24, rd_T29, rd_T47, rd_T50, rd_T53, rd_T55, rd_T57, rd_T72, rd_T75, rd_T78, rd_T80, rd_T82, rdOf, Int.toNat_natCast]
    rw [if_pos (by omega), if_pos (by omega)]
    obtain ⟨r, e, h⟩ := szRequest_ k (l.getD i z82).f0 (l.getD i z82).f1 (l.getD i z82).f2.f0.f0.f0 (l.getD i z82).f2.f0.f0.f1 (l.getD i z82).f2.f0.f0.f2 (l.getD i z82).f2.f0.f1 (l.getD i z82).f2.f1 (l.getD i z82).f2.f2.f0.f0 (l.getD i z82).f2.f2.f0.f1 (l.getD i z82).f2.f2.f0.f2 (l.getD i z82).f2.f2.f1 (l.getD i z82).f2.f3 (l.getD i z82).f3 a hw0 hw1 h0 h1 (by omega)
    rw [e]
    simp only [Option.bind_some]
    rcases h with h | ⟨h1, h2, h3⟩
    · exact ⟨-1, if_pos h, Or.inl (by omega)⟩
    · rw [if_neg (by omega), w64_succ i (by omega)]
      obtain ⟨r', e', h'⟩ := ih k (i + 1) r (by omega) (by omega) h1 (by omega)
      refine ⟨r', e', ?_⟩
      rcases h' with h' | ⟨a1, a2, a3⟩
      · exact Or.inl h'
      · refine Or.inr ⟨a1, by omega, ?_⟩
        rw [drop_getD l z82 i (by omega)]
        intro x hx
        rcases List.mem_cons.1 hx with rfl | hx
        · exact h3
        · exact a3 x hx
theorem szRequestS_ (k : Nat) (l : List (S82)) (a : Int) (hw : WL Wt82 l) (h0 : 0 ≤ a) (h1 : a ≤ 1048576) (hk : 3145740 ≤ k) : ∃ r, laws_szRequestS.f k l a = some r ∧ (r < 0 ∨ (0 ≤ r ∧ r ≤ a ∧ LB Ok82 l)) := by
  have hm : l.length ≤ 9223372036854775807 := hw.1
  have he : wrap64 (a - (l.length : Int)) = a - l.length := w64 (by omega) (by omega)
  unfold laws_szRequestS.f
  rw [he]
  by_cases h : a - (l.length : Int) < 0
  · exact ⟨-1, if_pos h, Or.inl (by omega)⟩
  · rw [if_neg h]
    obtain ⟨r, e, h2⟩ := szRequestS_l0 l hw (by omega) l.length k 0 (a - l.length) (by omega) (by omega) (by omega) (by omega)
    refine ⟨r, e, ?_⟩
    rcases h2 with h2 | ⟨a1, a2, a3⟩
    · exact Or.inl h2
    · exact Or.inr ⟨a1, by omega, by omega, by simpa using a3⟩
theorem szRuntime_ {Wl0_9 : Bool → Prop} (k : Nat) (a0_0 : Int) (a0_1 : Int) (a0_2 : Int) (l0_3 : List (S102)) (a0_4 : Int) (a0_5 : Int) (a0_6 : Int) (a0_7 : Int) (l0_8 : List (S75)) (l0_9 : List (Bool)) (l0_10 : List (S82)) (a1 : Int) (wl0_3 : WL Wt102 l0_3) (wl0_8 : WL Wt75 l0_8) (wl0_9 : WL Wl0_9 l0_9) (wl0_10 : WL Wt82 l0_10) (h0 : 0 ≤ a1) (h1 : a1 ≤ 1048576) (hk : 3145740 ≤ k) : ∃ r, laws_szRuntime.f k a0_0 a0_1 a0_2 l0_3 a0_4 a0_5 a0_6 a0_7 l0_8 l0_9 l0_10 a1 = some r ∧ (r < 0 ∨ (0 ≤ r ∧ r ≤ a1 ∧ LB Ok102 l0_3 ∧ LB Ok75 l0_8 ∧ LB (fun _ => True) l0_9 ∧ LB Ok82 l0_10)) := by
  unfold laws_szRuntime.f
  obtain ⟨r1, e1, g1⟩ := szSched_ k a0_0 a0_1 a0_2 l0_3 a0_4 a0_5 a0_6 a0_7 a1 wl0_3 (by omega) (by omega) (by omega)
  rw [e1]
  simp only [Option.bind_some]
  rcases g1 with g1 | ⟨p1, u1, g1⟩
  · exact ⟨-1, if_pos g1, Or.inl (by omega)⟩
  rw [if_neg (by omega)]
  obtain ⟨r2, e2, g2⟩ := szModelS_ k l0_8 r1 wl0_8 (by omega) (by omega) (by omega)
  rw [e2]
  simp only [Option.bind_some]
  rcases g2 with g2 | ⟨p2, u2, g2⟩
  · exact ⟨-1, if_pos g2, Or.inl (by omega)⟩
  rw [if_neg (by omega)]
  obtain ⟨r3, e3, g3⟩ := szBoolS_ l0_9 r2 wl0_9 (by omega) (by omega)
  rw [e3]
  simp only [Option.bind_some]
  rcases g3 with g3 | ⟨p3, u3, g3⟩
  · exact ⟨-1, if_pos g3, Or.inl (by omega)⟩
  rw [if_neg (by omega)]
  obtain ⟨r4, e4, g4⟩ := szRequestS_ k l0_10 r3 wl0_10 (by omega) (by omega) (by omega)
  rw [e4]
  simp only [Option.bind_some]
  rcases g4 with g4 | ⟨p4, u4, g4⟩
  · exact ⟨-1, if_pos g4, Or.inl (by omega)⟩
  rw [if_neg (by omega)]
  exact ⟨r4, rfl, Or.inr ⟨by omega, by omega, g1, g2, g3, g4⟩⟩
theorem toIntS_l0 (l : List (Int)) (ho : LB (fun _ => True) l) : ∀ (d k i : Nat) (y : List (Int)), i + d = l.length → d + 0 < k → y.length = l.length → y.take i = l.take i → laws_toIntS.l0 k l y (i : Int) = some l := by
  have hm := ho.1
  have hc : l.length = l.length := by rfl
  intro d
  induction d with
  | zero =>
    intro k i y hi hk hy ht
    obtain ⟨k, rfl⟩ : ∃ m, k = m + 1 := ⟨k - 1, by omega⟩
    simp only [laws_toIntS.l0]
    rw [if_neg (by omega), take_full hy hc (by rw [show l.length = i by omega]; exact ht)]
  | succ d ih =>
    intro k i y hi hk hy ht
    obtain ⟨k, rfl⟩ : ∃ m, k = m + 1 := ⟨k - 1, by omega⟩
    have hx := ho.2 _ (mem_getD l 0 i (by omega))
    simp only [laws_toIntS.l0, rd_L1, rd_L14, rd_L21, rd_L23, rd_L24, rd_L25, rd_L5, rd_T102, rd_T111, rd_T128, rd_T133, rd_T24, rd_T29, rd_T47, rd_T50, rd_T53, rd_T55, rd_T57, rd_T72, rd_T75, rd_T78, rd_T80, rd_T82, rdOf, rd_natD, Int.toNat_natCast]
    repeat (first | refine ifp rfl ?_ | refine ifp (by omega) ?_ | refine ifn (by rw [bne_self_eq_false]; exact Bool.false_ne_true) ?_ | refine ifp (by simp) ?_ | refine ifn (by simp) ?_)
    rw [w64_succ i (by omega)]
    refine ih k (i + 1) _ (by omega) (by omega) (by simpa using hy) ?_
    rw [take_set_succ _ _ _ (by omega), ht, take_succ_getD l 0 i (by omega)]
theorem toIntS_ (k : Nat) (l : List (Int)) (ho : LB (fun _ => True) l) (hk : 1048580 ≤ k) : laws_toIntS.f k l = some l := by
  have hm := ho.1
  unfold laws_toIntS.f
  rw [if_pos (by omega), if_pos (by simp; omega)]
  exact toIntS_l0 l ho l.length k 0 _ (by omega) (by omega) (by simp) (by simp)
theorem toTask_ (k : Nat) (a0_0 : Int) (l0_1 : List (Int)) (a0_2 : Int) (a0_3 : Int) (a0_4 : Int) (hl0_1 : LB (fun _ => True) l0_1) (hk : 1048580 ≤ k) : laws_toTask.f k a0_0 l0_1 a0_2 a0_3 a0_4 = some (a0_0, l0_1, a0_2, a0_3, a0_4) := by
  unfold laws_toTask.f
  repeat (first | (refine st (toIntS_ _ _ (by assumption) (by omega)) ?_; (try dsimp only)) | refine ifp rfl ?_ | refine ifp (by omega) ?_ | refine ifn (by rw [bne_self_eq_false]; exact Bool.false_ne_true) ?_ | refine ifp (by simp) ?_ | refine ifn (by simp) ?_ | rfl)
def cv102_111 (x : S102) : S111 := ⟨x.f0, x.f1, x.f2, x.f3, x.f4⟩
def Ok111 (x : S111) : Prop := (LB (fun _ => True)) x.f1
theorem ok_cv102_111 (x : S102) (h : Ok102 x) : Ok111 (cv102_111 x) := h
theorem toTaskS_l0 (l : List (S102)) (ho : LB Ok102 l) : ∀ (d k i : Nat) (y : List (S111)), i + d = l.length → d + 1048580 < k → y.length = l.length → y.take i = (l.map cv102_111).take i → laws_toTaskS.l0 k l y (i : Int) = some (l.map cv102_111) := by
  have hm := ho.1
  have hc : (l.map cv102_111).length = l.length := by simp
  intro d
  induction d with
  | zero =>
    intro k i y hi hk hy ht
    obtain ⟨k, rfl⟩ : ∃ m, k = m + 1 := ⟨k - 1, by omega⟩
    simp only [laws_toTaskS.l0]
    rw [if_neg (by omega), take_full hy hc (by rw [show l.length = i by omega]; exact ht)]
  | succ d ih =>
    intro k i y hi hk hy ht
    obtain ⟨k, rfl⟩ : ∃ m, k = m + 1 := ⟨k - 1, by omega⟩
    have hx := ho.2 _ (mem_getD l z102 i (by omega))
    have hx0 : (LB (fun _ => True)) (l.getD i z102).f1 := hx
    simp only [laws_toTaskS.l0, rd_L1, rd_L14, rd_L21, rd_L23, rd_L24, rd_L25, rd_L5, rd_T102, rd_T111, rd_T128, rd_T133, rd_T24, rd_T29, rd_T47, rd_T50, rd_T53, rd_T55, rd_T57, rd_T72, rd_T75, rd_T78, rd_T80, rd_T82, rdOf, rd_natD, Int.toNat_natCast]
    repeat (first | (refine st (toTask_ _ _ _ _ _ _ (by assumption) (by omega)) ?_; (try dsimp only)) | refine ifp rfl ?_ | refine ifp (by omega) ?_ | refine ifn (by rw [bne_self_eq_false]; exact Bool.false_ne_true) ?_ | refine ifp (by simp) ?_ | refine ifn (by simp) ?_)
    rw [w64_succ i (by omega)]
    refine ih k (i + 1) _ (by omega) (by omega) (by simpa using hy) ?_
    rw [take_set_succ _ _ _ (by omega), ht, take_succ_getD (l.map cv102_111) z111 i (by omega), map_getD _ _ _ (by omega) z102]
    rfl
theorem toTaskS_ (k : Nat) (l : List (S102)) (ho : LB Ok102 l) (hk : 2097160 ≤ k) : laws_toTaskS.f k l = some (l.map cv102_111) := by
  have hm := ho.1
  unfold laws_toTaskS.f
  rw [if_pos (by omega), if_pos (by simp; omega)]
  exact toTaskS_l0 l ho l.length k 0 _ (by omega) (by omega) (by simp) (by simp)
theorem toSched_ (k : Nat) (a0_0 : Int) (a0_1 : Int) (a0_2 : Int) (l0_3 : List (S102)) (a0_4 : Int) (a0_5 : Int) (a0_6 : Int) (a0_7 : Int) (hl0_3 : LB Ok102 l0_3) (hk : 2097160 ≤ k) : laws_toSched.f k a0_0 a0_1 a0_2 l0_3 a0_4 a0_5 a0_6 a0_7 = some (a0_0, a0_1, a0_2, l0_3.map cv102_111, a0_4, a0_5, a0_6, a0_7) := by
  unfold laws_toSched.f
  repeat (first | (refine st (toTaskS_ _ _ (by assumption) (by omega)) ?_; (try dsimp only)) | refine ifp rfl ?_ | refine ifp (by omega) ?_ | refine ifn (by rw [bne_self_eq_false]; exact Bool.false_ne_true) ?_ | refine ifp (by simp) ?_ | refine ifn (by simp) ?_ | rfl)
theorem toShape_ (a0_0 : Int) (a0_1 : Int) (a0_2 : Int) : laws_toShape.f a0_0 a0_1 a0_2 = some (a0_0, a0_1, a0_2) := by
  unfold laws_toShape.f
  repeat (first | refine ifp rfl ?_ | refine ifp (by omega) ?_ | refine ifn (by rw [bne_self_eq_false]; exact Bool.false_ne_true) ?_ | refine ifp (by simp) ?_ | refine ifn (by simp) ?_ | rfl)
theorem toLayer_ (k : Nat) (a0_0 : Int) (a0_1 : Int) (a0_2 : Int) (a0_3 : Int) (a0_4 : Int) (a0_5 : Int) (a0_6 : Int) (l0_7 : List (Int)) (l0_8 : List (Int)) (hl0_7 : LB (fun _ => True) l0_7) (hl0_8 : LB (fun _ => True) l0_8) (hk : 1048580 ≤ k) : laws_toLayer.f k a0_0 a0_1 a0_2 a0_3 a0_4 a0_5 a0_6 l0_7 l0_8 = some (a0_0, a0_1, a0_2, a0_3, a0_4, a0_5, a0_6, l0_7, l0_8) := by
  unfold laws_toLayer.f
  repeat (first | (refine st (toIntS_ _ _ (by assumption) (by omega)) ?_; (try dsimp only)) | refine ifp rfl ?_ | refine ifp (by omega) ?_ | refine ifn (by rw [bne_self_eq_false]; exact Bool.false_ne_true) ?_ | refine ifp (by simp) ?_ | refine ifn (by simp) ?_ | rfl)
def cv128_133 (x : S128) : S133 := ⟨x.f0, x.f1, x.f2, x.f3, x.f4, x.f5, x.f6, x.f7, x.f8⟩
def Ok133 (x : S133) : Prop := (LB (fun _ => True)) x.f7 ∧ (LB (fun _ => True)) x.f8
theorem ok_cv128_133 (x : S128) (h : Ok128 x) : Ok133 (cv128_133 x) := ⟨h.1, h.2⟩
theorem toLayerS_l0 (l : List (S128)) (ho : LB Ok128 l) : ∀ (d k i : Nat) (y : List (S133)), i + d = l.length → d + 1048580 < k → y.length = l.length → y.take i = (l.map cv128_133).take i → laws_toLayerS.l0 k l y (i : Int) = some (l.map cv128_133) := by
  have hm := ho.1
  have hc : (l.map cv128_133).length = l.length := by simp
  intro d
  induction d with
  | zero =>
    intro k i y hi hk hy ht
    obtain ⟨k, rfl⟩ : ∃ m, k = m + 1 := ⟨k - 1, by omega⟩
    simp only [laws_toLayerS.l0]
    rw [if_neg (by omega), take_full hy hc (by rw [show l.length = i by omega]; exact ht)]
  | succ d ih =>
    intro k i y hi hk hy ht
    obtain ⟨k, rfl⟩ : ∃ m, k = m + 1 := ⟨k - 1, by omega⟩
    have hx := ho.2 _ (mem_getD l z128 i (by omega))
    have hx0 : (LB (fun _ => True)) (l.getD i z128).f7 := hx.1
    have hx1 : (LB (fun _ => True)) (l.getD i z128).f8 := hx.2
    simp only [laws_toLayerS.l0, rd_L1, rd_L14, rd_L21, rd_L23, rd_L24, rd_L25, rd_L5, rd_T102, rd_T111, rd_T128, rd_T133, rd_T24, rd_T29, rd_T47, rd_T50, rd_T53, rd_T55, rd_T57, rd_T72, rd_T75, rd_T78, rd_T80, rd_T82, rdOf, rd_natD, Int.toNat_natCast]
    repeat (first | (refine st (toLayer_ _ _ _ _ _ _ _ _ _ _ (by assumption) (by assumption) (by omega)) ?_; (try dsimp only)) | refine ifp rfl ?_ | refine ifp (by omega) ?_ | refine ifn (by rw [bne_self_eq_false]; exact Bool.false_ne_true) ?_ | refine ifp (by simp) ?_ | refine ifn (by simp) ?_)
    rw [w64_succ i (by omega)]
    refine ih k (i + 1) _ (by omega) (by omega) (by simpa using hy) ?_
    rw [take_set_succ _ _ _ (by omega), ht, take_succ_getD (l.map cv128_133) z133 i (by omega), map_getD _ _ _ (by omega) z128]
    rfl
theorem toLayerS_ (k : Nat) (l : List (S128)) (ho : LB Ok128 l) (hk : 2097160 ≤ k) : laws_toLayerS.f k l = some (l.map cv128_133) := by
  have hm := ho.1
  unfold laws_toLayerS.f
  rw [if_pos (by omega), if_pos (by simp; omega)]
  exact toLayerS_l0 l ho l.length k 0 _ (by omega) (by omega) (by simp) (by simp)
theorem toModel_ (k : Nat) (a0_0 : Int) (a0_1 : Int) (a0_2 : Int) (l0_3 : List (S128)) (hl0_3 : LB Ok128 l0_3) (hk : 2097160 ≤ k) : laws_toModel.f k a0_0 a0_1 a0_2 l0_3 = some (a0_0, a0_1, a0_2, l0_3.map cv128_133) := by
  unfold laws_toModel.f
  repeat (first | (refine st (toShape_ _ _ _) ?_; (try dsimp only)) | (refine st (toLayerS_ _ _ (by assumption) (by omega)) ?_; (try dsimp only)) | refine ifp rfl ?_ | refine ifp (by omega) ?_ | refine ifn (by rw [bne_self_eq_false]; exact Bool.false_ne_true) ?_ | refine ifp (by simp) ?_ | refine ifn (by simp) ?_ | rfl)
def cv72_47 (x : S72) : S47 := ⟨x.f0, x.f1, x.f2⟩
def Ok72 (x : S72) : Prop := True
def Ok47 (x : S47) : Prop := True
def cv75_50 (x : S75) : S50 := ⟨(cv72_47 x.f0), (x.f1.map cv128_133)⟩
def Ok50 (x : S50) : Prop := (LB Ok133) x.f1
theorem ok_cv75_50 (x : S75) (h : Ok75 x) : Ok50 (cv75_50 x) := LB.map (ok_cv128_133) h
theorem toModelS_l0 (l : List (S75)) (ho : LB Ok75 l) : ∀ (d k i : Nat) (y : List (S50)), i + d = l.length → d + 2097160 < k → y.length = l.length → y.take i = (l.map cv75_50).take i → laws_toModelS.l0 k l y (i : Int) = some (l.map cv75_50) := by
  have hm := ho.1
  have hc : (l.map cv75_50).length = l.length := by simp
  intro d
  induction d with
  | zero =>
    intro k i y hi hk hy ht
    obtain ⟨k, rfl⟩ : ∃ m, k = m + 1 := ⟨k - 1, by omega⟩
    simp only [laws_toModelS.l0]
    rw [if_neg (by omega), take_full hy hc (by rw [show l.length = i by omega]; exact ht)]
  | succ d ih =>
    intro k i y hi hk hy ht
    obtain ⟨k, rfl⟩ : ∃ m, k = m + 1 := ⟨k - 1, by omega⟩
    have hx := ho.2 _ (mem_getD l z75 i (by omega))
    have hx0 : (LB Ok128) (l.getD i z75).f1 := hx
    simp only [laws_toModelS.l0, rd_L1, rd_L14, rd_L21, rd_L23, rd_L24, rd_L25, rd_L5, rd_T102, rd_T111, rd_T128, rd_T133, rd_T24, rd_T29, rd_T47, rd_T50, rd_T53, rd_T55, rd_T57, rd_T72, rd_T75, rd_T78, rd_T80, rd_T82, rdOf, rd_natD, Int.toNat_natCast]
    repeat (first | (refine st (toModel_ _ _ _ _ _ (by assumption) (by omega)) ?_; (try dsimp only)) | refine ifp rfl ?_ | refine ifp (by omega) ?_ | refine ifn (by rw [bne_self_eq_false]; exact Bool.false_ne_true) ?_ | refine ifp (by simp) ?_ | refine ifn (by simp) ?_)
    rw [w64_succ i (by omega)]
    refine ih k (i + 1) _ (by omega) (by omega) (by simpa using hy) ?_
    rw [take_set_succ _ _ _ (by omega), ht, take_succ_getD (l.map cv75_50) z50 i (by omega), map_getD _ _ _ (by omega) z75]
    rfl
theorem toModelS_ (k : Nat) (l : List (S75)) (ho : LB Ok75 l) (hk : 3145740 ≤ k) : laws_toModelS.f k l = some (l.map cv75_50) := by
  have hm := ho.1
  unfold laws_toModelS.f
  rw [if_pos (by omega), if_pos (by simp; omega)]
  exact toModelS_l0 l ho l.length k 0 _ (by omega) (by omega) (by simp) (by simp)
theorem toBoolS_l0 (l : List (Bool)) (ho : LB (fun _ => True) l) : ∀ (d k i : Nat) (y : List (Bool)), i + d = l.length → d + 0 < k → y.length = l.length → y.take i = l.take i → laws_toBoolS.l0 k l y (i : Int) = some l := by
  have hm := ho.1
  have hc : l.length = l.length := by rfl
  intro d
  induction d with
  | zero =>
    intro k i y hi hk hy ht
    obtain ⟨k, rfl⟩ : ∃ m, k = m + 1 := ⟨k - 1, by omega⟩
    simp only [laws_toBoolS.l0]
    rw [if_neg (by omega), take_full hy hc (by rw [show l.length = i by omega]; exact ht)]
  | succ d ih =>
    intro k i y hi hk hy ht
    obtain ⟨k, rfl⟩ : ∃ m, k = m + 1 := ⟨k - 1, by omega⟩
    have hx := ho.2 _ (mem_getD l false i (by omega))
    simp only [laws_toBoolS.l0, rd_L1, rd_L14, rd_L21, rd_L23, rd_L24, rd_L25, rd_L5, rd_T102, rd_T111, rd_T128, rd_T133, rd_T24, rd_T29, rd_T47, rd_T50, rd_T53, rd_T55, rd_T57, rd_T72, rd_T75, rd_T78, rd_T80, rd_T82, rdOf, rd_natD, Int.toNat_natCast]
    repeat (first | refine ifp rfl ?_ | refine ifp (by omega) ?_ | refine ifn (by rw [bne_self_eq_false]; exact Bool.false_ne_true) ?_ | refine ifp (by simp) ?_ | refine ifn (by simp) ?_)
    rw [w64_succ i (by omega)]
    refine ih k (i + 1) _ (by omega) (by omega) (by simpa using hy) ?_
    rw [take_set_succ _ _ _ (by omega), ht, take_succ_getD l false i (by omega)]
theorem toBoolS_ (k : Nat) (l : List (Bool)) (ho : LB (fun _ => True) l) (hk : 1048580 ≤ k) : laws_toBoolS.f k l = some l := by
  have hm := ho.1
  unfold laws_toBoolS.f
  rw [if_pos (by omega), if_pos (by simp; omega)]
  exact toBoolS_l0 l ho l.length k 0 _ (by omega) (by omega) (by simp) (by simp)
theorem toTensor_ (k : Nat) (a0_0 : Int) (a0_1 : Int) (a0_2 : Int) (l0_3 : List (Int)) (hl0_3 : LB (fun _ => True) l0_3) (hk : 1048580 ≤ k) : laws_toTensor.f k a0_0 a0_1 a0_2 l0_3 = some (a0_0, a0_1, a0_2, l0_3) := by
  unfold laws_toTensor.f
  repeat (first | (refine st (toShape_ _ _ _) ?_; (try dsimp only)) | (refine st (toIntS_ _ _ (by assumption) (by omega)) ?_; (try dsimp only)) | refine ifp rfl ?_ | refine ifp (by omega) ?_ | refine ifn (by rw [bne_self_eq_false]; exact Bool.false_ne_true) ?_ | refine ifp (by simp) ?_ | refine ifn (by simp) ?_ | rfl)
theorem toJob_ (k : Nat) (a0_0 : Int) (a0_1 : Int) (a0_2 : Int) (l0_3 : List (S128)) (a0_4 : Int) (a0_5 : Int) (a0_6 : Int) (a0_7 : Int) (l0_8 : List (Int)) (a0_9 : Int) (hl0_3 : LB Ok128 l0_3) (hl0_8 : LB (fun _ => True) l0_8) (hk : 2097160 ≤ k) : laws_toJob.f k a0_0 a0_1 a0_2 l0_3 a0_4 a0_5 a0_6 a0_7 l0_8 a0_9 = some (a0_0, a0_1, a0_2, l0_3.map cv128_133, a0_4, a0_5, a0_6, a0_7, l0_8, a0_9) := by
  unfold laws_toJob.f
  repeat (first | (refine st (toModel_ _ _ _ _ _ (by assumption) (by omega)) ?_; (try dsimp only)) | (refine st (toTensor_ _ _ _ _ _ (by assumption) (by omega)) ?_; (try dsimp only)) | refine ifp rfl ?_ | refine ifp (by omega) ?_ | refine ifn (by rw [bne_self_eq_false]; exact Bool.false_ne_true) ?_ | refine ifp (by simp) ?_ | refine ifn (by simp) ?_ | rfl)
theorem toRequest_ (k : Nat) (a0_0 : Int) (a0_1 : Int) (a0_2 : Int) (a0_3 : Int) (a0_4 : Int) (l0_5 : List (S128)) (a0_6 : Int) (a0_7 : Int) (a0_8 : Int) (a0_9 : Int) (l0_10 : List (Int)) (a0_11 : Int) (a0_12 : Int) (hl0_5 : LB Ok128 l0_5) (hl0_10 : LB (fun _ => True) l0_10) (hk : 2097160 ≤ k) : laws_toRequest.f k a0_0 a0_1 a0_2 a0_3 a0_4 l0_5 a0_6 a0_7 a0_8 a0_9 l0_10 a0_11 a0_12 = some (a0_0, a0_1, a0_2, a0_3, a0_4, l0_5.map cv128_133, a0_6, a0_7, a0_8, a0_9, l0_10, a0_11, a0_12) := by
  unfold laws_toRequest.f
  repeat (first | (refine st (toJob_ _ _ _ _ _ _ _ _ _ _ _ (by assumption) (by assumption) (by omega)) ?_; (try dsimp only)) | refine ifp rfl ?_ | refine ifp (by omega) ?_ | refine ifn (by rw [bne_self_eq_false]; exact Bool.false_ne_true) ?_ | refine ifp (by simp) ?_ | refine ifn (by simp) ?_ | rfl)
def cv78_53 (x : S78) : S53 := ⟨(cv72_47 x.f0), x.f1⟩
def Ok78 (x : S78) : Prop := (LB (fun _ => True)) x.f1
def Ok53 (x : S53) : Prop := (LB (fun _ => True)) x.f1
def cv80_55 (x : S80) : S55 := ⟨(cv75_50 x.f0), x.f1, (cv78_53 x.f2), x.f3⟩
def Ok80 (x : S80) : Prop := (LB Ok128) x.f0.f1 ∧ (LB (fun _ => True)) x.f2.f1
def Ok55 (x : S55) : Prop := (LB Ok133) x.f0.f1 ∧ (LB (fun _ => True)) x.f2.f1
def cv82_57 (x : S82) : S57 := ⟨x.f0, x.f1, (cv80_55 x.f2), x.f3⟩
def Ok57 (x : S57) : Prop := (LB Ok133) x.f2.f0.f1 ∧ (LB (fun _ => True)) x.f2.f2.f1
theorem ok_cv82_57 (x : S82) (h : Ok82 x) : Ok57 (cv82_57 x) := ⟨LB.map (ok_cv128_133) h.1, h.2⟩
theorem toRequestS_l0 (l : List (S82)) (ho : LB Ok82 l) : ∀ (d k i : Nat) (y : List (S57)), i + d = l.length → d + 2097160 < k → y.length = l.length → y.take i = (l.map cv82_57).take i → laws_toRequestS.l0 k l y (i : Int) = some (l.map cv82_57) := by
  have hm := ho.1
  have hc : (l.map cv82_57).length = l.length := by simp
  intro d
  induction d with
  | zero =>
    intro k i y hi hk hy ht
    obtain ⟨k, rfl⟩ : ∃ m, k = m + 1 := ⟨k - 1, by omega⟩
    simp only [laws_toRequestS.l0]
    rw [if_neg (by omega), take_full hy hc (by rw [show l.length = i by omega]; exact ht)]
  | succ d ih =>
    intro k i y hi hk hy ht
    obtain ⟨k, rfl⟩ : ∃ m, k = m + 1 := ⟨k - 1, by omega⟩
    have hx := ho.2 _ (mem_getD l z82 i (by omega))
    have hx0 : (LB Ok128) (l.getD i z82).f2.f0.f1 := hx.1
    have hx1 : (LB (fun _ => True)) (l.getD i z82).f2.f2.f1 := hx.2
    simp only [laws_toRequestS.l0, rd_L1, rd_L14, rd_L21, rd_L23, rd_L24, rd_L25, rd_L5, rd_T102, rd_T111, rd_T128, rd_T133, rd_T24, rd_T29, rd_T47, rd_T50, rd_T53, rd_T55, rd_T57, rd_T72, rd_T75, rd_T78, rd_T80, rd_T82, rdOf, rd_natD, Int.toNat_natCast]
    repeat (first | (refine st (toRequest_ _ _ _ _ _ _ _ _ _ _ _ _ _ _ (by assumption) (by assumption) (by omega)) ?_; (try dsimp only)) | refine ifp rfl ?_ | refine ifp (by omega) ?_ | refine ifn (by rw [bne_self_eq_false]; exact Bool.false_ne_true) ?_ | refine ifp (by simp) ?_ | refine ifn (by simp) ?_)
    rw [w64_succ i (by omega)]
    refine ih k (i + 1) _ (by omega) (by omega) (by simpa using hy) ?_
    rw [take_set_succ _ _ _ (by omega), ht, take_succ_getD (l.map cv82_57) z57 i (by omega), map_getD _ _ _ (by omega) z82]
    rfl
theorem toRequestS_ (k : Nat) (l : List (S82)) (ho : LB Ok82 l) (hk : 3145740 ≤ k) : laws_toRequestS.f k l = some (l.map cv82_57) := by
  have hm := ho.1
  unfold laws_toRequestS.f
  rw [if_pos (by omega), if_pos (by simp; omega)]
  exact toRequestS_l0 l ho l.length k 0 _ (by omega) (by omega) (by simp) (by simp)
theorem toRuntime_ (k : Nat) (a0_0 : Int) (a0_1 : Int) (a0_2 : Int) (l0_3 : List (S102)) (a0_4 : Int) (a0_5 : Int) (a0_6 : Int) (a0_7 : Int) (l0_8 : List (S75)) (l0_9 : List (Bool)) (l0_10 : List (S82)) (hl0_3 : LB Ok102 l0_3) (hl0_8 : LB Ok75 l0_8) (hl0_9 : LB (fun _ => True) l0_9) (hl0_10 : LB Ok82 l0_10) (hk : 3145740 ≤ k) : laws_toRuntime.f k a0_0 a0_1 a0_2 l0_3 a0_4 a0_5 a0_6 a0_7 l0_8 l0_9 l0_10 = some (a0_0, a0_1, a0_2, l0_3.map cv102_111, a0_4, a0_5, a0_6, a0_7, l0_8.map cv75_50, l0_9, l0_10.map cv82_57) := by
  unfold laws_toRuntime.f
  repeat (first | (refine st (toSched_ _ _ _ _ _ _ _ _ _ (by assumption) (by omega)) ?_; (try dsimp only)) | (refine st (toModelS_ _ _ (by assumption) (by omega)) ?_; (try dsimp only)) | (refine st (toBoolS_ _ _ (by assumption) (by omega)) ?_; (try dsimp only)) | (refine st (toRequestS_ _ _ (by assumption) (by omega)) ?_; (try dsimp only)) | refine ifp rfl ?_ | refine ifp (by omega) ?_ | refine ifn (by rw [bne_self_eq_false]; exact Bool.false_ne_true) ?_ | refine ifp (by simp) ?_ | refine ifn (by simp) ?_ | rfl)
theorem eqIntS_l0 (l : List (Int)) (ho : LB (fun _ => True) l) : ∀ (d k i : Nat), i + d = l.length → d + 0 < k → laws_eqIntS.l0 k l l (i : Int) = some true := by
  have hm := ho.1
  intro d
  induction d with
  | zero =>
    intro k i hi hk
    obtain ⟨k, rfl⟩ : ∃ m, k = m + 1 := ⟨k - 1, by omega⟩
    simp only [laws_eqIntS.l0]
    rw [if_neg (by omega)]
  | succ d ih =>
    intro k i hi hk
    obtain ⟨k, rfl⟩ : ∃ m, k = m + 1 := ⟨k - 1, by omega⟩
    have hx := ho.2 _ (mem_getD l 0 i (by omega))
    simp only [laws_eqIntS.l0, rd_L1, rd_L14, rd_L21, rd_L23, rd_L24, rd_L25, rd_L5, rd_T102, rd_T111, rd_T128, rd_T133, rd_T24, rd_T29, rd_T47, rd_T50, rd_T53, rd_T55, rd_T57, rd_T72, rd_T75, rd_T78, rd_T80, rd_T82, rdOf, rd_natD, Int.toNat_natCast]
    repeat (first | refine ifp rfl ?_ | refine ifp (by omega) ?_ | refine ifn (by rw [bne_self_eq_false]; exact Bool.false_ne_true) ?_ | refine ifp (by simp) ?_ | refine ifn (by simp) ?_)
    rw [w64_succ i (by omega)]
    exact ih k (i + 1) (by omega) (by omega)
theorem eqIntS_ (k : Nat) (l : List (Int)) (ho : LB (fun _ => True) l) (hk : 1048580 ≤ k) : laws_eqIntS.f k l l = some true := by
  have hm := ho.1
  unfold laws_eqIntS.f
  rw [if_pos rfl]
  exact eqIntS_l0 l ho l.length k 0 (by omega) (by omega)
theorem eqTask_ (k : Nat) (a0_0 : Int) (l0_1 : List (Int)) (a0_2 : Int) (a0_3 : Int) (a0_4 : Int) (hl0_1 : LB (fun _ => True) l0_1) (hk : 1048580 ≤ k) : laws_eqTask.f k a0_0 l0_1 a0_2 a0_3 a0_4 a0_0 l0_1 a0_2 a0_3 a0_4 = some true := by
  unfold laws_eqTask.f
  repeat (first | (refine st (eqIntS_ _ _ (by assumption) (by omega)) ?_; (try dsimp only)) | refine ifp rfl ?_ | refine ifp (by omega) ?_ | refine ifn (by rw [bne_self_eq_false]; exact Bool.false_ne_true) ?_ | refine ifp (by simp) ?_ | refine ifn (by simp) ?_ | rfl)
theorem eqTaskS_l0 (l : List (S111)) (ho : LB Ok111 l) : ∀ (d k i : Nat), i + d = l.length → d + 1048580 < k → laws_eqTaskS.l0 k l l (i : Int) = some true := by
  have hm := ho.1
  intro d
  induction d with
  | zero =>
    intro k i hi hk
    obtain ⟨k, rfl⟩ : ∃ m, k = m + 1 := ⟨k - 1, by omega⟩
    simp only [laws_eqTaskS.l0]
    rw [if_neg (by omega)]
  | succ d ih =>
    intro k i hi hk
    obtain ⟨k, rfl⟩ : ∃ m, k = m + 1 := ⟨k - 1, by omega⟩
    have hx := ho.2 _ (mem_getD l z111 i (by omega))
    have hx0 : (LB (fun _ => True)) (l.getD i z111).f1 := hx
    simp only [laws_eqTaskS.l0, rd_L1, rd_L14, rd_L21, rd_L23, rd_L24, rd_L25, rd_L5, rd_T102, rd_T111, rd_T128, rd_T133, rd_T24, rd_T29, rd_T47, rd_T50, rd_T53, rd_T55, rd_T57, rd_T72, rd_T75, rd_T78, rd_T80, rd_T82, rdOf, rd_natD, Int.toNat_natCast]
    repeat (first | (refine st (eqTask_ _ _ _ _ _ _ (by assumption) (by omega)) ?_; (try dsimp only)) | refine ifp rfl ?_ | refine ifp (by omega) ?_ | refine ifn (by rw [bne_self_eq_false]; exact Bool.false_ne_true) ?_ | refine ifp (by simp) ?_ | refine ifn (by simp) ?_)
    rw [w64_succ i (by omega)]
    exact ih k (i + 1) (by omega) (by omega)
theorem eqTaskS_ (k : Nat) (l : List (S111)) (ho : LB Ok111 l) (hk : 2097160 ≤ k) : laws_eqTaskS.f k l l = some true := by
  have hm := ho.1
  unfold laws_eqTaskS.f
  rw [if_pos rfl]
  exact eqTaskS_l0 l ho l.length k 0 (by omega) (by omega)
theorem eqSched_ (k : Nat) (a0_0 : Int) (a0_1 : Int) (a0_2 : Int) (l0_3 : List (S111)) (a0_4 : Int) (a0_5 : Int) (a0_6 : Int) (a0_7 : Int) (hl0_3 : LB Ok111 l0_3) (hk : 2097160 ≤ k) : laws_eqSched.f k a0_0 a0_1 a0_2 l0_3 a0_4 a0_5 a0_6 a0_7 a0_0 a0_1 a0_2 l0_3 a0_4 a0_5 a0_6 a0_7 = some true := by
  unfold laws_eqSched.f
  repeat (first | (refine st (eqTaskS_ _ _ (by assumption) (by omega)) ?_; (try dsimp only)) | refine ifp rfl ?_ | refine ifp (by omega) ?_ | refine ifn (by rw [bne_self_eq_false]; exact Bool.false_ne_true) ?_ | refine ifp (by simp) ?_ | refine ifn (by simp) ?_ | rfl)
theorem eqShape_ (a0_0 : Int) (a0_1 : Int) (a0_2 : Int) : laws_eqShape.f a0_0 a0_1 a0_2 a0_0 a0_1 a0_2 = some true := by
  unfold laws_eqShape.f
  repeat (first | refine ifp rfl ?_ | refine ifp (by omega) ?_ | refine ifn (by rw [bne_self_eq_false]; exact Bool.false_ne_true) ?_ | refine ifp (by simp) ?_ | refine ifn (by simp) ?_ | rfl)
theorem eqLayer_ (k : Nat) (a0_0 : Int) (a0_1 : Int) (a0_2 : Int) (a0_3 : Int) (a0_4 : Int) (a0_5 : Int) (a0_6 : Int) (l0_7 : List (Int)) (l0_8 : List (Int)) (hl0_7 : LB (fun _ => True) l0_7) (hl0_8 : LB (fun _ => True) l0_8) (hk : 1048580 ≤ k) : laws_eqLayer.f k a0_0 a0_1 a0_2 a0_3 a0_4 a0_5 a0_6 l0_7 l0_8 a0_0 a0_1 a0_2 a0_3 a0_4 a0_5 a0_6 l0_7 l0_8 = some true := by
  unfold laws_eqLayer.f
  repeat (first | (refine st (eqIntS_ _ _ (by assumption) (by omega)) ?_; (try dsimp only)) | refine ifp rfl ?_ | refine ifp (by omega) ?_ | refine ifn (by rw [bne_self_eq_false]; exact Bool.false_ne_true) ?_ | refine ifp (by simp) ?_ | refine ifn (by simp) ?_ | rfl)
theorem eqLayerS_l0 (l : List (S133)) (ho : LB Ok133 l) : ∀ (d k i : Nat), i + d = l.length → d + 1048580 < k → laws_eqLayerS.l0 k l l (i : Int) = some true := by
  have hm := ho.1
  intro d
  induction d with
  | zero =>
    intro k i hi hk
    obtain ⟨k, rfl⟩ : ∃ m, k = m + 1 := ⟨k - 1, by omega⟩
    simp only [laws_eqLayerS.l0]
    rw [if_neg (by omega)]
  | succ d ih =>
    intro k i hi hk
    obtain ⟨k, rfl⟩ : ∃ m, k = m + 1 := ⟨k - 1, by omega⟩
    have hx := ho.2 _ (mem_getD l z133 i (by omega))
    have hx0 : (LB (fun _ => True)) (l.getD i z133).f7 := hx.1
    have hx1 : (LB (fun _ => True)) (l.getD i z133).f8 := hx.2
    simp only [laws_eqLayerS.l0, rd_L1, rd_L14, rd_L21, rd_L23, rd_L24, rd_L25, rd_L5, rd_T102, rd_T111, rd_T128, rd_T133, rd_T24, rd_T29, rd_T47, rd_T50, rd_T53, rd_T55, rd_T57, rd_T72, rd_T75, rd_T78, rd_T80, rd_T82, rdOf, rd_natD, Int.toNat_natCast]
    repeat (first | (refine st (eqLayer_ _ _ _ _ _ _ _ _ _ _ (by assumption) (by assumption) (by omega)) ?_; (try dsimp only)) | refine ifp rfl ?_ | refine ifp (by omega) ?_ | refine ifn (by rw [bne_self_eq_false]; exact Bool.false_ne_true) ?_ | refine ifp (by simp) ?_ | refine ifn (by simp) ?_)
    rw [w64_succ i (by omega)]
    exact ih k (i + 1) (by omega) (by omega)
theorem eqLayerS_ (k : Nat) (l : List (S133)) (ho : LB Ok133 l) (hk : 2097160 ≤ k) : laws_eqLayerS.f k l l = some true := by
  have hm := ho.1
  unfold laws_eqLayerS.f
  rw [if_pos rfl]
  exact eqLayerS_l0 l ho l.length k 0 (by omega) (by omega)
theorem eqModel_ (k : Nat) (a0_0 : Int) (a0_1 : Int) (a0_2 : Int) (l0_3 : List (S133)) (hl0_3 : LB Ok133 l0_3) (hk : 2097160 ≤ k) : laws_eqModel.f k a0_0 a0_1 a0_2 l0_3 a0_0 a0_1 a0_2 l0_3 = some true := by
  unfold laws_eqModel.f
  repeat (first | (refine st (eqShape_ _ _ _) ?_; (try dsimp only)) | (refine st (eqLayerS_ _ _ (by assumption) (by omega)) ?_; (try dsimp only)) | refine ifp rfl ?_ | refine ifp (by omega) ?_ | refine ifn (by rw [bne_self_eq_false]; exact Bool.false_ne_true) ?_ | refine ifp (by simp) ?_ | refine ifn (by simp) ?_ | rfl)
theorem eqModelS_l0 (l : List (S50)) (ho : LB Ok50 l) : ∀ (d k i : Nat), i + d = l.length → d + 2097160 < k → laws_eqModelS.l0 k l l (i : Int) = some true := by
  have hm := ho.1
  intro d
  induction d with
  | zero =>
    intro k i hi hk
    obtain ⟨k, rfl⟩ : ∃ m, k = m + 1 := ⟨k - 1, by omega⟩
    simp only [laws_eqModelS.l0]
    rw [if_neg (by omega)]
  | succ d ih =>
    intro k i hi hk
    obtain ⟨k, rfl⟩ : ∃ m, k = m + 1 := ⟨k - 1, by omega⟩
    have hx := ho.2 _ (mem_getD l z50 i (by omega))
    have hx0 : (LB Ok133) (l.getD i z50).f1 := hx
    simp only [laws_eqModelS.l0, rd_L1, rd_L14, rd_L21, rd_L23, rd_L24, rd_L25, rd_L5, rd_T102, rd_T111, rd_T128, rd_T133, rd_T24, rd_T29, rd_T47, rd_T50, rd_T53, rd_T55, rd_T57, rd_T72, rd_T75, rd_T78, rd_T80, rd_T82, rdOf, rd_natD, Int.toNat_natCast]
    repeat (first | (refine st (eqModel_ _ _ _ _ _ (by assumption) (by omega)) ?_; (try dsimp only)) | refine ifp rfl ?_ | refine ifp (by omega) ?_ | refine ifn (by rw [bne_self_eq_false]; exact Bool.false_ne_true) ?_ | refine ifp (by simp) ?_ | refine ifn (by simp) ?_)
    rw [w64_succ i (by omega)]
    exact ih k (i + 1) (by omega) (by omega)
theorem eqModelS_ (k : Nat) (l : List (S50)) (ho : LB Ok50 l) (hk : 3145740 ≤ k) : laws_eqModelS.f k l l = some true := by
  have hm := ho.1
  unfold laws_eqModelS.f
  rw [if_pos rfl]
  exact eqModelS_l0 l ho l.length k 0 (by omega) (by omega)
theorem eqBoolS_l0 (l : List (Bool)) (ho : LB (fun _ => True) l) : ∀ (d k i : Nat), i + d = l.length → d + 0 < k → laws_eqBoolS.l0 k l l (i : Int) = some true := by
  have hm := ho.1
  intro d
  induction d with
  | zero =>
    intro k i hi hk
    obtain ⟨k, rfl⟩ : ∃ m, k = m + 1 := ⟨k - 1, by omega⟩
    simp only [laws_eqBoolS.l0]
    rw [if_neg (by omega)]
  | succ d ih =>
    intro k i hi hk
    obtain ⟨k, rfl⟩ : ∃ m, k = m + 1 := ⟨k - 1, by omega⟩
    have hx := ho.2 _ (mem_getD l false i (by omega))
    simp only [laws_eqBoolS.l0, rd_L1, rd_L14, rd_L21, rd_L23, rd_L24, rd_L25, rd_L5, rd_T102, rd_T111, rd_T128, rd_T133, rd_T24, rd_T29, rd_T47, rd_T50, rd_T53, rd_T55, rd_T57, rd_T72, rd_T75, rd_T78, rd_T80, rd_T82, rdOf, rd_natD, Int.toNat_natCast]
    repeat (first | refine ifp rfl ?_ | refine ifp (by omega) ?_ | refine ifn (by rw [bne_self_eq_false]; exact Bool.false_ne_true) ?_ | refine ifp (by simp) ?_ | refine ifn (by simp) ?_)
    rw [w64_succ i (by omega)]
    exact ih k (i + 1) (by omega) (by omega)
theorem eqBoolS_ (k : Nat) (l : List (Bool)) (ho : LB (fun _ => True) l) (hk : 1048580 ≤ k) : laws_eqBoolS.f k l l = some true := by
  have hm := ho.1
  unfold laws_eqBoolS.f
  rw [if_pos rfl]
  exact eqBoolS_l0 l ho l.length k 0 (by omega) (by omega)
theorem eqTensor_ (k : Nat) (a0_0 : Int) (a0_1 : Int) (a0_2 : Int) (l0_3 : List (Int)) (hl0_3 : LB (fun _ => True) l0_3) (hk : 1048580 ≤ k) : laws_eqTensor.f k a0_0 a0_1 a0_2 l0_3 a0_0 a0_1 a0_2 l0_3 = some true := by
  unfold laws_eqTensor.f
  repeat (first | (refine st (eqShape_ _ _ _) ?_; (try dsimp only)) | (refine st (eqIntS_ _ _ (by assumption) (by omega)) ?_; (try dsimp only)) | refine ifp rfl ?_ | refine ifp (by omega) ?_ | refine ifn (by rw [bne_self_eq_false]; exact Bool.false_ne_true) ?_ | refine ifp (by simp) ?_ | refine ifn (by simp) ?_ | rfl)
theorem eqJob_ (k : Nat) (a0_0 : Int) (a0_1 : Int) (a0_2 : Int) (l0_3 : List (S133)) (a0_4 : Int) (a0_5 : Int) (a0_6 : Int) (a0_7 : Int) (l0_8 : List (Int)) (a0_9 : Int) (hl0_3 : LB Ok133 l0_3) (hl0_8 : LB (fun _ => True) l0_8) (hk : 2097160 ≤ k) : laws_eqJob.f k a0_0 a0_1 a0_2 l0_3 a0_4 a0_5 a0_6 a0_7 l0_8 a0_9 a0_0 a0_1 a0_2 l0_3 a0_4 a0_5 a0_6 a0_7 l0_8 a0_9 = some true := by
  unfold laws_eqJob.f
  repeat (first | (refine st (eqModel_ _ _ _ _ _ (by assumption) (by omega)) ?_; (try dsimp only)) | (refine st (eqTensor_ _ _ _ _ _ (by assumption) (by omega)) ?_; (try dsimp only)) | refine ifp rfl ?_ | refine ifp (by omega) ?_ | refine ifn (by rw [bne_self_eq_false]; exact Bool.false_ne_true) ?_ | refine ifp (by simp) ?_ | refine ifn (by simp) ?_ | rfl)
theorem eqRequest_ (k : Nat) (a0_0 : Int) (a0_1 : Int) (a0_2 : Int) (a0_3 : Int) (a0_4 : Int) (l0_5 : List (S133)) (a0_6 : Int) (a0_7 : Int) (a0_8 : Int) (a0_9 : Int) (l0_10 : List (Int)) (a0_11 : Int) (a0_12 : Int) (hl0_5 : LB Ok133 l0_5) (hl0_10 : LB (fun _ => True) l0_10) (hk : 2097160 ≤ k) : laws_eqRequest.f k a0_0 a0_1 a0_2 a0_3 a0_4 l0_5 a0_6 a0_7 a0_8 a0_9 l0_10 a0_11 a0_12 a0_0 a0_1 a0_2 a0_3 a0_4 l0_5 a0_6 a0_7 a0_8 a0_9 l0_10 a0_11 a0_12 = some true := by
  unfold laws_eqRequest.f
  repeat (first | (refine st (eqJob_ _ _ _ _ _ _ _ _ _ _ _ (by assumption) (by assumption) (by omega)) ?_; (try dsimp only)) | refine ifp rfl ?_ | refine ifp (by omega) ?_ | refine ifn (by rw [bne_self_eq_false]; exact Bool.false_ne_true) ?_ | refine ifp (by simp) ?_ | refine ifn (by simp) ?_ | rfl)
theorem eqRequestS_l0 (l : List (S57)) (ho : LB Ok57 l) : ∀ (d k i : Nat), i + d = l.length → d + 2097160 < k → laws_eqRequestS.l0 k l l (i : Int) = some true := by
  have hm := ho.1
  intro d
  induction d with
  | zero =>
    intro k i hi hk
    obtain ⟨k, rfl⟩ : ∃ m, k = m + 1 := ⟨k - 1, by omega⟩
    simp only [laws_eqRequestS.l0]
    rw [if_neg (by omega)]
  | succ d ih =>
    intro k i hi hk
    obtain ⟨k, rfl⟩ : ∃ m, k = m + 1 := ⟨k - 1, by omega⟩
    have hx := ho.2 _ (mem_getD l z57 i (by omega))
    have hx0 : (LB Ok133) (l.getD i z57).f2.f0.f1 := hx.1
    have hx1 : (LB (fun _ => True)) (l.getD i z57).f2.f2.f1 := hx.2
    simp only [laws_eqRequestS.l0, rd_L1, rd_L14, rd_L21, rd_L23, rd_L24, rd_L25, rd_L5, rd_T102, rd_T111, rd_T128, rd_T133, rd_T24, rd_T29, rd_T47, rd_T50, rd_T53, rd_T55, rd_T57, rd_T72, rd_T75, rd_T78, rd_T80, rd_T82, rdOf, rd_natD, Int.toNat_natCast]
    repeat (first | (refine st (eqRequest_ _ _ _ _ _ _ _ _ _ _ _ _ _ _ (by assumption) (by assumption) (by omega)) ?_; (try dsimp only)) | refine ifp rfl ?_ | refine ifp (by omega) ?_ | refine ifn (by rw [bne_self_eq_false]; exact Bool.false_ne_true) ?_ | refine ifp (by simp) ?_ | refine ifn (by simp) ?_)
    rw [w64_succ i (by omega)]
    exact ih k (i + 1) (by omega) (by omega)
theorem eqRequestS_ (k : Nat) (l : List (S57)) (ho : LB Ok57 l) (hk : 3145740 ≤ k) : laws_eqRequestS.f k l l = some true := by
  have hm := ho.1
  unfold laws_eqRequestS.f
  rw [if_pos rfl]
  exact eqRequestS_l0 l ho l.length k 0 (by omega) (by omega)
theorem eqRuntime_ (k : Nat) (a0_0 : Int) (a0_1 : Int) (a0_2 : Int) (l0_3 : List (S111)) (a0_4 : Int) (a0_5 : Int) (a0_6 : Int) (a0_7 : Int) (l0_8 : List (S50)) (l0_9 : List (Bool)) (l0_10 : List (S57)) (hl0_3 : LB Ok111 l0_3) (hl0_8 : LB Ok50 l0_8) (hl0_9 : LB (fun _ => True) l0_9) (hl0_10 : LB Ok57 l0_10) (hk : 3145740 ≤ k) : laws_eqRuntime.f k a0_0 a0_1 a0_2 l0_3 a0_4 a0_5 a0_6 a0_7 l0_8 l0_9 l0_10 a0_0 a0_1 a0_2 l0_3 a0_4 a0_5 a0_6 a0_7 l0_8 l0_9 l0_10 = some true := by
  unfold laws_eqRuntime.f
  repeat (first | (refine st (eqSched_ _ _ _ _ _ _ _ _ _ (by assumption) (by omega)) ?_; (try dsimp only)) | (refine st (eqModelS_ _ _ (by assumption) (by omega)) ?_; (try dsimp only)) | (refine st (eqBoolS_ _ _ (by assumption) (by omega)) ?_; (try dsimp only)) | (refine st (eqRequestS_ _ _ (by assumption) (by omega)) ?_; (try dsimp only)) | refine ifp rfl ?_ | refine ifp (by omega) ?_ | refine ifn (by rw [bne_self_eq_false]; exact Bool.false_ne_true) ?_ | refine ifp (by simp) ?_ | refine ifn (by simp) ?_ | rfl)

def shOk (h w c : Int) : Bool := decide ((1 ≤ h ∧ h ≤ 8) ∧ (1 ≤ w ∧ w ≤ 8) ∧ (1 ≤ c ∧ c ≤ 8))
theorem shOk_iff {h w c : Int} : shOk h w c = true ↔ ((1 ≤ h ∧ h ≤ 8) ∧ (1 ≤ w ∧ w ≤ 8) ∧ (1 ≤ c ∧ c ≤ 8)) := by simp [shOk]
theorem spec_shapeOk (h w c : Int) : spec_ShapeOk.f h w c = some (shOk h w c) := by
  unfold spec_ShapeOk.f
  simp only [spec_in, Option.bind_some]
  by_cases h1 : 1 ≤ h ∧ h ≤ 8 <;> by_cases h2 : 1 ≤ w ∧ w ≤ 8 <;> simp [shOk, h1, h2]
theorem impl_shapeOk (h w c : Int) : impl_ShapeOk.f h w c = some (shOk h w c) := by
  unfold impl_ShapeOk.f
  simp only [impl_in_, Option.bind_some]
  by_cases h1 : 1 ≤ h ∧ h ≤ 8 <;> by_cases h2 : 1 ≤ w ∧ w ≤ 8 <;> simp [shOk, h1, h2]
def szN (h w c : Int) : Int := if shOk h w c = true then h * w * c else 0
theorem prod_bd {h w c : Int} (hs : shOk h w c = true) : (1 ≤ h * w ∧ h * w ≤ 64) ∧ 1 ≤ h * w * c ∧ h * w * c ≤ 512 := by
  obtain ⟨⟨a, b⟩, ⟨d, e⟩, f, g⟩ := shOk_iff.1 hs
  have h1 : 1 * w ≤ h * w := Int.mul_le_mul_of_nonneg_right a (by omega)
  have h2 : h * w ≤ 8 * w := Int.mul_le_mul_of_nonneg_right b (by omega)
  have h3 : h * w * 1 ≤ h * w * c := Int.mul_le_mul_of_nonneg_left f (by omega)
  have h4 : h * w * c ≤ h * w * 8 := Int.mul_le_mul_of_nonneg_left g (by omega)
  omega
theorem spec_sizeOf_ (h w c : Int) : spec_SizeOf.f h w c = some (szN h w c) := by
  unfold spec_SizeOf.f szN
  simp only [spec_shapeOk, Option.bind_some]
  split
  · rename_i hs
    have := prod_bd hs
    rw [w64 (x := h * w) (by omega) (by omega), w64 (by omega) (by omega)]
  · rfl
theorem impl_sizeOf_ (h w c : Int) : impl_SizeOf.f h w c = some (szN h w c) := by
  unfold impl_SizeOf.f szN
  simp only [impl_shapeOk, Option.bind_some]
  split
  · rename_i hs
    have := prod_bd hs
    rw [w64 (x := h * w) (by omega) (by omega), w64 (by omega) (by omega)]
  · rfl
def is8 (x : Int) : Bool := decide (-128 ≤ x ∧ x ≤ 127)
def tOk (h w c : Int) (l : List Int) : Bool := shOk h w c && (decide ((l.length : Int) = szN h w c) && l.all is8)
theorem spec_int8 (x : Int) : spec_l02Int8.f x = some (is8 x) := by unfold spec_l02Int8.f; rw [spec_in]; rfl
theorem all_drop8 (l : List Int) (i : Nat) (h : i < l.length) : (l.drop i).all is8 = (is8 (l.getD i 0) && (l.drop (i + 1)).all is8) := by
  rw [drop_getD l 0 i h]; rfl
theorem spec_tOk_l0 (h w c : Int) (l : List Int) (hm : l.length ≤ 9223372036854775806) : ∀ (d k i : Nat), i + d = l.length → d < k → spec_TensorOk.l0 k (i : Int) h w c l = some ((l.drop i).all is8) := by
  intro d
  induction d with
  | zero =>
    intro k i hi hk
    obtain ⟨k, rfl⟩ : ∃ m, k = m + 1 := ⟨k - 1, by omega⟩
    simp only [spec_TensorOk.l0]
    rw [if_neg (by omega), List.drop_of_length_le (by omega)]
    rfl
  | succ d ih =>
    intro k i hi hk
    obtain ⟨k, rfl⟩ : ∃ m, k = m + 1 := ⟨k - 1, by omega⟩
    simp only [spec_TensorOk.l0]
    rw [if_pos (by omega), if_pos (by omega), all_drop8 l i (by omega), w64_succ i (by omega), ih k (i + 1) (by omega) (by omega)]
    simp only [spec_int8, Option.bind_some, rd_natD]
    cases is8 (l.getD i 0) <;> simp
theorem spec_tOk (k : Nat) (h w c : Int) (l : List Int) (hm : l.length ≤ 9223372036854775806) (hk : l.length + 1 < k) : spec_TensorOk.f k h w c l = some (tOk h w c l) := by
  obtain ⟨k, rfl⟩ : ∃ m, k = m + 1 := ⟨k - 1, by omega⟩
  unfold spec_TensorOk.f tOk
  simp only [spec_shapeOk, spec_sizeOf_, Option.bind_some, spec_TensorOk.j0]
  cases shOk h w c with
  | false => simp
  | true =>
    have := spec_tOk_l0 h w c l hm l.length k 0 (by omega) (by omega)
    simp only [if_true, Bool.true_and]
    by_cases e : (l.length : Int) = szN h w c
    · rw [if_neg (by simp [e])]
      simpa [e] using this
    · rw [if_pos (by simp [e])]
      simp [e]
theorem area_l0 (l : List Int) (hm : l.length ≤ 9223372036854775806) : ∀ (d k i : Nat), i + d = l.length → d < k →
    ∃ r, slices_IndexFunc_int_int_at_98.l0 k l (l.length : Int) (i : Int) = some r ∧ (0 ≤ r ↔ (l.drop i).all is8 = false) := by
  intro d
  induction d with
  | zero =>
    intro k i hi hk
    obtain ⟨k, rfl⟩ : ∃ m, k = m + 1 := ⟨k - 1, by omega⟩
    simp only [slices_IndexFunc_int_int_at_98.l0]
    rw [if_neg (by omega), List.drop_of_length_le (by omega)]
    exact ⟨-1, rfl, by simp⟩
  | succ d ih =>
    intro k i hi hk
    obtain ⟨k, rfl⟩ : ∃ m, k = m + 1 := ⟨k - 1, by omega⟩
    simp only [slices_IndexFunc_int_int_at_98.l0]
    rw [if_pos (by omega), if_pos (by omega), if_pos (by omega), all_drop8 l i (by omega)]
    unfold impl_areItems_1.f
    simp only [impl_in_, Option.bind_some, rd_natD]
    cases hr : is8 (l.getD i 0) with
    | false =>
      have : ¬ (-128 ≤ l.getD i 0 ∧ l.getD i 0 ≤ 127) := by simpa [is8] using hr
      exact ⟨i, by simp only [this]; simp, by simp⟩
    | true =>
      have : (-128 ≤ l.getD i 0 ∧ l.getD i 0 ≤ 127) := by simpa [is8] using hr
      obtain ⟨r, h1, h2⟩ := ih k (i + 1) (by omega) (by omega)
      refine ⟨r, ?_, by simpa using h2⟩
      rw [w64_succ i (by omega)]
      simp only [this, and_self]
      simpa using h1
theorem impl_area (k : Nat) (l : List Int) (hm : l.length ≤ 9223372036854775806) (hk : l.length < k) : impl_areItems.f k l = some (l.all is8) := by
  obtain ⟨r, h1, h2⟩ := area_l0 l hm l.length k 0 (by omega) hk
  have h1' : slices_IndexFunc_int_int_at_98.f k l = some r := h1
  unfold impl_areItems.f slices_ContainsFunc_int_int_at_98.f
  rw [h1']
  rw [List.drop_zero] at h2
  simp only [Option.bind_some]
  cases ha : l.all is8 with
  | false => rw [ha] at h2; have := h2.2 rfl; simp [this]
  | true => rw [ha] at h2; have : ¬ 0 ≤ r := fun z => absurd (h2.1 z) (by simp); simp; omega
theorem impl_tOk (k : Nat) (h w c : Int) (l : List Int) (hm : l.length ≤ 9223372036854775806) (hk : l.length < k) : impl_TensorOk.f k h w c l = some (tOk h w c l) := by
  unfold impl_TensorOk.f tOk
  simp only [impl_shapeOk, impl_sizeOf_, Option.bind_some, impl_area k l hm hk]
  cases shOk h w c with
  | false => simp
  | true =>
    simp only [if_true, Bool.true_and]
    by_cases e : (l.length : Int) = szN h w c
    · rw [if_pos e]; simp [e]
    · rw [if_neg e]; simp [e]
def isB (x : Int) : Bool := decide (-1000000 ≤ x ∧ x ≤ 1000000)
def scV (o mu sh z : Int) (ws bs : List Int) : Bool := decide (1 ≤ o ∧ o ≤ 8) && (decide (0 ≤ mu ∧ mu ≤ 2147483647) && (decide (0 ≤ sh ∧ sh ≤ 31) && (is8 z && (decide ((bs.length : Int) = o) && (bs.all isB && ws.all is8)))))
def brV (o mu sh : Int) (ws bs : List Int) : Bool := decide (o = 0) && (decide (mu = 0) && (decide (sh = 0) && (decide (ws.length = 0) && decide (bs.length = 0))))
theorem all_dropB (l : List Int) (i : Nat) (h : i < l.length) : (l.drop i).all isB = (isB (l.getD i 0) && (l.drop (i + 1)).all isB) := by
  rw [drop_getD l 0 i h]; rfl
theorem spec_plain_l1 (kd o s sp mu sh z : Int) (ws bs : List Int) (hm : ws.length ≤ 1048576) : ∀ (d k i : Nat), i + d = ws.length → d < k → spec_l03Plain.l1 k (i : Int) kd o s sp mu sh z ws bs = some ((ws.drop i).all is8) := by
  intro d
  induction d with
  | zero =>
    intro k i hi hk
    obtain ⟨k, rfl⟩ : ∃ m, k = m + 1 := ⟨k - 1, by omega⟩
    rw [spec_l03Plain.l1, List.drop_of_length_le (by omega)]
    exact ifn (by omega) rfl
  | succ d ih =>
    intro k i hi hk
    obtain ⟨k, rfl⟩ : ∃ m, k = m + 1 := ⟨k - 1, by omega⟩
    rw [spec_l03Plain.l1, all_drop8 ws i (by omega), w64_succ i (by omega), rd_natD, spec_int8]
    refine ifp (by omega) (ifp (by omega) (st rfl ?_))
    cases is8 (ws.getD i 0) with
    | true => rw [Bool.true_and]; exact ifp rfl (ih k (i + 1) (by omega) (by omega))
    | false => exact ifn (by simp) rfl
theorem spec_plain_l0 (kd o s sp mu sh z : Int) (ws bs : List Int) (hm : ws.length ≤ 1048576) (hb : bs.length ≤ 1048576) : ∀ (d k i : Nat), i + d = bs.length → d + ws.length + 2 < k → spec_l03Plain.l0 k (i : Int) kd o s sp mu sh z ws bs = some ((bs.drop i).all isB && ws.all is8) := by
  intro d
  induction d with
  | zero =>
    intro k i hi hk
    obtain ⟨k, rfl⟩ : ∃ m, k = m + 1 := ⟨k - 1, by omega⟩
    rw [spec_l03Plain.l0, List.drop_of_length_le (by omega)]
    exact ifn (by omega) (spec_plain_l1 kd o s sp mu sh z ws bs hm ws.length k 0 (by omega) (by omega))
  | succ d ih =>
    intro k i hi hk
    obtain ⟨k, rfl⟩ : ∃ m, k = m + 1 := ⟨k - 1, by omega⟩
    rw [spec_l03Plain.l0, all_dropB bs i (by omega), w64_succ i (by omega), rd_natD, spec_in]
    refine ifp (by omega) (ifp (by omega) (st rfl ?_))
    have e : isB (bs.getD i 0) = decide (-1000000 ≤ bs.getD i 0 ∧ bs.getD i 0 ≤ 1000000) := rfl
    rw [← e]
    cases isB (bs.getD i 0) with
    | true => rw [Bool.true_and]; exact ifp rfl (ih k (i + 1) (by omega) (by omega))
    | false => exact ifn (by simp) rfl
def plV (kd o s sp mu sh z : Int) (ws bs : List Int) (win wei : Bool) : Bool :=
  (if win = true then decide (1 ≤ s ∧ s ≤ 3) && decide (1 ≤ sp ∧ sp ≤ 2) else decide (s = 0) && decide (sp = 0)) && (if wei = true then scV o mu sh z ws bs else brV o mu sh ws bs && (if kd = 4 then is8 z else decide (z = 0)))
theorem spec_plain_j1 (k : Nat) (kd o s sp mu sh z : Int) (ws bs : List Int) (hm : ws.length ≤ 1048576) (hb : bs.length ≤ 1048576) (hk : bs.length + ws.length + 5 < k) (x : Bool) : spec_l03Plain.j1 k x kd o s sp mu sh z ws bs = some (!x && (bs.all isB && ws.all is8)) := by
  obtain ⟨k, rfl⟩ : ∃ m, k = m + 1 := ⟨k - 1, by omega⟩
  rw [spec_l03Plain.j1]
  cases x with
  | true => exact ifp rfl rfl
  | false =>
    refine ifn (by simp) ?_
    have h := spec_plain_l0 kd o s sp mu sh z ws bs hm hb bs.length k 0 (by omega) (by omega)
    rw [List.drop_zero] at h
    exact h
theorem spec_plain_j4 (k : Nat) (hk : 1 ≤ k) (kd o s sp mu sh z : Int) (ws bs : List Int) (x : Bool) : spec_l03Plain.j4 k x kd o s sp mu sh z ws bs = some (!x && (if kd = 4 then is8 z else decide (z = 0))) := by
  obtain ⟨k, rfl⟩ : ∃ m, k = m + 1 := ⟨k - 1, by omega⟩
  rw [spec_l03Plain.j4]
  cases x with
  | true => exact ifp rfl rfl
  | false =>
    refine ifn (by simp) ?_
    by_cases c : kd = 4
    · rw [if_pos c, if_pos c, spec_int8]; rfl
    · rw [if_neg c, if_neg c]
      by_cases e : z = 0
      · subst e; rfl
      · rw [decide_eq_false e]; simp [e]
theorem spec_plain_j0 (k : Nat) (kd o s sp mu sh z : Int) (ws bs : List Int) (hm : ws.length ≤ 1048576) (hb : bs.length ≤ 1048576) (hk : bs.length + ws.length + 10 < k) (x : Bool) : spec_l03Plain.j0 k x kd o s sp mu sh z ws bs = some (if x = true then scV o mu sh z ws bs else brV o mu sh ws bs && (if kd = 4 then is8 z else decide (z = 0))) := by
  obtain ⟨k, rfl⟩ : ∃ m, k = m + 1 := ⟨k - 1, by omega⟩
  have J1 := spec_plain_j1 k kd o s sp mu sh z ws bs hm hb (by omega)
  have J4 := spec_plain_j4 k (by omega) kd o s sp mu sh z ws bs
  rw [spec_l03Plain.j0]
  simp only [J1, J4, spec_in, spec_int8, Option.bind_some, scV, brV]
  cases x with
  | true =>
    rw [if_pos rfl, if_pos rfl]
    by_cases h1 : 1 ≤ o ∧ o ≤ 8
    · by_cases h2 : 0 ≤ mu ∧ mu ≤ 2147483647
      · by_cases h3 : 0 ≤ sh ∧ sh ≤ 31
        · cases h4 : is8 z with
          | true =>
            by_cases h5 : (bs.length : Int) = o
            · simp only [h1, h2, h3, h5, decide_true, and_self, if_true, Bool.true_and, bne_self_eq_false, Bool.not_false]
            · have e : ((bs.length : Int) != o) = true := by simp [h5]
              simp only [h1, h2, h3, h5, e, decide_true, decide_false, and_self, if_true, Bool.true_and, Bool.false_and, Bool.not_true]
          | false => simp only [h1, h2, h3, decide_true, and_self, if_true, Bool.true_and, Bool.false_and, Bool.not_true, Bool.false_eq_true, if_false]
        · simp only [h1, h2, h3, decide_true, decide_false, and_self, if_true, Bool.true_and, Bool.false_and, Bool.not_true, Bool.false_eq_true, if_false]
      · simp only [h1, h2, decide_true, decide_false, and_self, if_true, Bool.true_and, Bool.false_and, Bool.not_true, Bool.false_eq_true, if_false]
    · simp only [h1, decide_false, Bool.false_and, Bool.not_true, Bool.false_eq_true, if_false]
  | false =>
    simp only [Bool.false_eq_true, if_false]
    by_cases h1 : o = 0
    · by_cases h2 : mu = 0
      · by_cases h3 : sh = 0
        · by_cases h4 : ws.length = 0
          · have e4 : ¬ (ws.length : Int) > 0 := by omega
            by_cases h5 : bs.length = 0
            · have e5 : ¬ (bs.length : Int) > 0 := by omega
              simp only [h1, h2, h3, h4, h5, e4, e5, decide_true, decide_false, if_true, if_false, Bool.true_and, Bool.not_false]
              simp
            · have e5 : (bs.length : Int) > 0 := by omega
              simp only [h1, h2, h3, h4, h5, e4, e5, decide_true, decide_false, if_true, if_false, Bool.true_and, Bool.false_and, Bool.not_true]
              simp
          · have e4 : (ws.length : Int) > 0 := by omega
            simp only [h1, h2, h3, h4, e4, decide_true, decide_false, if_true, Bool.true_and, Bool.false_and, Bool.not_true]
        · simp only [h1, h2, h3, decide_true, decide_false, if_true, if_false, Bool.true_and, Bool.false_and, Bool.not_true]
      · simp only [h1, h2, decide_true, decide_false, if_true, if_false, Bool.true_and, Bool.false_and, Bool.not_true]
    · simp only [h1, decide_false, if_false, Bool.false_and, Bool.not_true]
theorem spec_plain (k : Nat) (kd o s sp mu sh z : Int) (ws bs : List Int) (hm : ws.length ≤ 1048576) (hb : bs.length ≤ 1048576) (hk : bs.length + ws.length + 10 < k) (win wei : Bool) : spec_l03Plain.f k kd o s sp mu sh z ws bs win wei = some (plV kd o s sp mu sh z ws bs win wei) := by
  have J0 := spec_plain_j0 k kd o s sp mu sh z ws bs hm hb hk wei
  unfold spec_l03Plain.f plV
  simp only [J0, spec_in, Option.bind_some]
  cases win with
  | true =>
    rw [if_pos rfl, if_pos rfl]
    by_cases h1 : 1 ≤ s ∧ s ≤ 3
    · by_cases h2 : 1 ≤ sp ∧ sp ≤ 2
      · simp only [h1, h2, decide_true, and_self, if_true, Bool.true_and]
      · simp only [h1, h2, decide_true, decide_false, and_self, if_true, Bool.true_and, Bool.false_and, Bool.false_eq_true, if_false]
    · simp only [h1, decide_false, Bool.false_and, Bool.false_eq_true, if_false]
  | false =>
    simp only [Bool.false_eq_true, if_false]
    by_cases h1 : s = 0
    · by_cases h2 : sp = 0
      · simp only [h1, h2, decide_true, if_true, Bool.true_and]
      · simp only [h1, h2, decide_true, decide_false, if_true, if_false, Bool.true_and, Bool.false_and]
    · simp only [h1, decide_false, if_false, Bool.false_and]
def wn (h s sp : Int) : Int := wrap64 (wrap64 (Int.tdiv (wrap64 (h - s)) sp) + 1)
def winV (h w s sp : Int) : Bool := decide (1 ≤ s ∧ s ≤ 3) && (decide (1 ≤ sp ∧ sp ≤ 2) && (decide (s ≤ h) && decide (s ≤ w)))
def outOk (h w c kd o s sp mu sh z : Int) (ws bs : List Int) : Bool :=
  shOk h w c && (if kd = 0 then (decide (s = 0) && decide (sp = 0)) && (scV o mu sh z ws bs && (decide (szN h w c ≤ 64) && decide ((ws.length : Int) = o * szN h w c)))
  else if kd = 1 then winV h w s sp && (scV o mu sh z ws bs && (decide ((ws.length : Int) = o * (s * s * c)) && decide ((ws.length : Int) ≤ 600)))
  else if kd = 2 ∨ kd = 3 then winV h w s sp && (brV o mu sh ws bs && decide (z = 0))
  else if kd = 4 then (decide (s = 0) && decide (sp = 0)) && (brV o mu sh ws bs && is8 z)
  else if kd = 5 then (decide (s = 0) && decide (sp = 0)) && (brV o mu sh ws bs && (decide (z = 0) && decide (szN h w c ≤ 8)))
  else false)
def outS (h w c kd o s sp : Int) : Int × Int × Int :=
  if kd = 0 then (1, 1, o) else if kd = 1 then (wn h s sp, wn w s sp, o) else if kd = 2 ∨ kd = 3 then (wn h s sp, wn w s sp, c) else if kd = 4 then (h, w, c) else (1, 1, szN h w c)
def outV (h w c kd o s sp mu sh z : Int) (ws bs : List Int) : Int × Int × Int × Bool :=
  if outOk h w c kd o s sp mu sh z ws bs = true then ((outS h w c kd o s sp).1, (outS h w c kd o s sp).2.1, (outS h w c kd o s sp).2.2, true) else (0, 0, 0, false)
theorem scV_o {o mu sh z : Int} {ws bs : List Int} (h : scV o mu sh z ws bs = true) : 1 ≤ o ∧ o ≤ 8 := by
  unfold scV at h
  simp only [Bool.and_eq_true, decide_eq_true_eq] at h
  exact h.1
theorem winV_iff {h w s sp : Int} : winV h w s sp = true ↔ ((1 ≤ s ∧ s ≤ 3) ∧ (1 ≤ sp ∧ sp ≤ 2) ∧ s ≤ h ∧ s ≤ w) := by
  unfold winV
  simp only [Bool.and_eq_true, decide_eq_true_eq]
theorem szN_pos {h w c : Int} (hs : shOk h w c = true) : szN h w c = h * w * c ∧ 1 ≤ szN h w c ∧ szN h w c ≤ 512 := by
  have := prod_bd hs
  have e : szN h w c = h * w * c := by unfold szN; rw [if_pos hs]
  omega
theorem spec_out_j1 (k : Nat) (hk : 1 ≤ k) (h w c kd o s sp mu sh z : Int) (ws bs : List Int) (a b d : Int) (x y e : Int) : spec_OutShape.j1 k h w c kd o s sp mu sh z ws bs a b d x y e =
    some (if kd = 0 then (if szN h w c ≤ 64 ∧ (ws.length : Int) = wrap64 (o * szN h w c) then (1, 1, o, true) else (a, b, d, false))
      else if kd = 1 then (if (ws.length : Int) = wrap64 (wrap64 (wrap64 (o * s) * s) * c) ∧ (ws.length : Int) ≤ 600 then (x, y, o, true) else (a, b, d, false))
      else if kd = 5 then (if szN h w c ≤ 8 then (1, 1, szN h w c, true) else (a, b, d, false)) else (x, y, e, true)) := by
  obtain ⟨k, rfl⟩ : ∃ m, k = m + 1 := ⟨k - 1, by omega⟩
  rw [spec_OutShape.j1]
  by_cases c0 : kd = 0
  · rw [if_pos c0, if_pos c0, spec_sizeOf_]
    simp only [Option.bind_some]
    by_cases h1 : szN h w c > 64
    · rw [if_pos h1, if_neg (fun q => by omega)]
    · rw [if_neg h1]
      by_cases h2 : (ws.length : Int) = wrap64 (o * szN h w c)
      · rw [if_pos h2, if_pos ⟨by omega, h2⟩]
      · rw [if_neg h2, if_neg (fun q => h2 q.2)]
  rw [if_neg c0, if_neg c0]
  by_cases c1 : kd = 1
  · rw [if_pos c1, if_pos c1]
    by_cases h2 : (ws.length : Int) = wrap64 (wrap64 (wrap64 (o * s) * s) * c)
    · rw [if_pos h2]
      by_cases h1 : (ws.length : Int) > 600
      · rw [if_pos h1, if_neg (fun q => by omega)]
      · rw [if_neg h1, if_pos ⟨h2, by omega⟩]
    · rw [if_neg h2, if_neg (fun q => h2 q.1)]
  rw [if_neg c1, if_neg c1]
  by_cases c5 : kd = 5
  · rw [if_pos c5, if_pos c5, spec_sizeOf_]
    simp only [Option.bind_some]
    by_cases h1 : szN h w c > 8
    · rw [if_pos h1, if_neg (by omega)]
    · rw [if_neg h1, if_pos (by omega)]
  · rw [if_neg c5, if_neg c5]
theorem mul_w {o n : Int} (h0 : 1 ≤ o ∧ o ≤ 8) (h1 : 0 ≤ n ∧ n ≤ 512) : wrap64 (o * n) = o * n := by
  have a : 0 ≤ o * n := Int.mul_nonneg (by omega) (by omega)
  have b : o * n ≤ 8 * n := Int.mul_le_mul_of_nonneg_right h0.2 (by omega)
  exact w64 (by omega) (by omega)
theorem ssc_bd {s c : Int} (h1 : 1 ≤ s ∧ s ≤ 3) (h2 : 1 ≤ c ∧ c ≤ 8) : (1 ≤ s * s * c ∧ s * s * c ≤ 72) ∧ wrap64 (wrap64 (s * s) * c) = s * s * c := by
  obtain rfl | rfl | rfl : s = 1 ∨ s = 2 ∨ s = 3 := by omega
  all_goals
    obtain rfl | rfl | rfl | rfl | rfl | rfl | rfl | rfl : c = 1 ∨ c = 2 ∨ c = 3 ∨ c = 4 ∨ c = 5 ∨ c = 6 ∨ c = 7 ∨ c = 8 := by omega
    all_goals (unfold wrap64; decide)
theorem mul3_w {o s c : Int} (h0 : 1 ≤ o ∧ o ≤ 8) (h1 : 1 ≤ s ∧ s ≤ 3) (h2 : 1 ≤ c ∧ c ≤ 8) : wrap64 (wrap64 (wrap64 (o * s) * s) * c) = o * (s * s * c) ∧ wrap64 (o * wrap64 (wrap64 (s * s) * c)) = o * (s * s * c) := by
  obtain ⟨b, e⟩ := ssc_bd h1 h2
  refine ⟨?_, by rw [e]; exact mul_w h0 (by omega)⟩
  clear b e
  have ea : wrap64 (wrap64 (o * s) * s) = o * s * s ∧ (1 ≤ o * s * s ∧ o * s * s ≤ 72) := by
    obtain rfl | rfl | rfl : s = 1 ∨ s = 2 ∨ s = 3 := by omega
    all_goals (unfold wrap64; omega)
  have a : 0 ≤ o * s * s * c := Int.mul_nonneg (by omega) (by omega)
  have b : o * s * s * c ≤ 72 * c := Int.mul_le_mul_of_nonneg_right ea.2.2 (by omega)
  rw [ea.1, w64 (by omega) (by omega), Int.mul_assoc, Int.mul_assoc, Int.mul_assoc]
theorem szN_bd (h w c : Int) : 0 ≤ szN h w c ∧ szN h w c ≤ 512 := by
  by_cases hs : shOk h w c = true
  · have := szN_pos hs; omega
  · unfold szN; rw [if_neg hs]; omega
theorem pool_ (h w c kd o s sp mu sh z : Int) (ws bs : List Int) (hkd : kd = 2 ∨ kd = 3) :
    (if ((if decide (1 ≤ kd ∧ kd ≤ 3) = true then decide (1 ≤ s ∧ s ≤ 3) && decide (1 ≤ sp ∧ sp ≤ 2) else decide (s = 0) && decide (sp = 0)) && (if decide (kd ≤ 1) = true then scV o mu sh z ws bs else brV o mu sh ws bs && (if kd = 4 then is8 z else decide (z = 0)))) = true then
      (if decide (1 ≤ kd ∧ kd ≤ 3) = true then (if s > h then some ((0 : Int), (0 : Int), (0 : Int), false) else if s > w then some (0, 0, 0, false) else if sp = 0 then none else
        some (if kd = 0 then (if szN h w c ≤ 64 ∧ (ws.length : Int) = wrap64 (o * szN h w c) then (1, 1, o, true) else (0, 0, 0, false))
          else if kd = 1 then (if (ws.length : Int) = wrap64 (wrap64 (wrap64 (o * s) * s) * c) ∧ (ws.length : Int) ≤ 600 then (wrap64 (wrap64 (Int.tdiv (wrap64 (h - s)) sp) + 1), wrap64 (wrap64 (Int.tdiv (wrap64 (w - s)) sp) + 1), o, true) else (0, 0, 0, false))
          else if kd = 5 then (if szN h w c ≤ 8 then (1, 1, szN h w c, true) else (0, 0, 0, false)) else (wrap64 (wrap64 (Int.tdiv (wrap64 (h - s)) sp) + 1), wrap64 (wrap64 (Int.tdiv (wrap64 (w - s)) sp) + 1), c, true)))
      else some (if kd = 0 then (if szN h w c ≤ 64 ∧ (ws.length : Int) = wrap64 (o * szN h w c) then (1, 1, o, true) else (0, 0, 0, false))
          else if kd = 1 then (if (ws.length : Int) = wrap64 (wrap64 (wrap64 (o * s) * s) * c) ∧ (ws.length : Int) ≤ 600 then (h, w, o, true) else (0, 0, 0, false))
          else if kd = 5 then (if szN h w c ≤ 8 then (1, 1, szN h w c, true) else (0, 0, 0, false)) else (h, w, c, true)))
    else some (0, 0, 0, false)) =
    some (if (if kd = 0 then (decide (s = 0) && decide (sp = 0)) && (scV o mu sh z ws bs && (decide (szN h w c ≤ 64) && decide ((ws.length : Int) = o * szN h w c)))
        else if kd = 1 then winV h w s sp && (scV o mu sh z ws bs && (decide ((ws.length : Int) = o * (s * s * c)) && decide ((ws.length : Int) ≤ 600)))
        else if kd = 2 ∨ kd = 3 then winV h w s sp && (brV o mu sh ws bs && decide (z = 0))
        else if kd = 4 then (decide (s = 0) && decide (sp = 0)) && (brV o mu sh ws bs && is8 z)
        else if kd = 5 then (decide (s = 0) && decide (sp = 0)) && (brV o mu sh ws bs && (decide (z = 0) && decide (szN h w c ≤ 8)))
        else false) = true then
      ((if kd = 0 then (1, 1, o) else if kd = 1 then (wn h s sp, wn w s sp, o) else if kd = 2 ∨ kd = 3 then (wn h s sp, wn w s sp, c) else if kd = 4 then (h, w, c) else (1, 1, szN h w c)).1,
       (if kd = 0 then (1, 1, o) else if kd = 1 then (wn h s sp, wn w s sp, o) else if kd = 2 ∨ kd = 3 then (wn h s sp, wn w s sp, c) else if kd = 4 then (h, w, c) else (1, 1, szN h w c)).2.1,
       (if kd = 0 then (1, 1, o) else if kd = 1 then (wn h s sp, wn w s sp, o) else if kd = 2 ∨ kd = 3 then (wn h s sp, wn w s sp, c) else if kd = 4 then (h, w, c) else (1, 1, szN h w c)).2.2, true) else (0, 0, 0, false)) := by
  have n0 : ¬ kd = 0 := by omega
  have n1 : ¬ kd = 1 := by omega
  have n4 : ¬ kd = 4 := by omega
  have n5 : ¬ kd = 5 := by omega
  rw [decide_eq_true (show 1 ≤ kd ∧ kd ≤ 3 by omega), decide_eq_false (show ¬ kd ≤ 1 by omega)]
  simp only [n0, n1, n4, n5, hkd, if_true, if_false, Bool.false_eq_true]
  cases h2 : (brV o mu sh ws bs && decide (z = 0)) with
  | false => simp
  | true =>
    by_cases a1 : 1 ≤ s ∧ s ≤ 3
    · by_cases a2 : 1 ≤ sp ∧ sp ≤ 2
      · simp only [winV, a1, a2, decide_true, and_self, Bool.true_and, if_true]
        by_cases a3 : s > h
        · rw [if_pos a3, decide_eq_false (show ¬ s ≤ h by omega)]; rfl
        rw [if_neg a3, decide_eq_true (show s ≤ h by omega)]
        by_cases a4 : s > w
        · rw [if_pos a4, decide_eq_false (show ¬ s ≤ w by omega)]; rfl
        rw [if_neg a4, decide_eq_true (show s ≤ w by omega), if_neg (show ¬ sp = 0 by omega)]
        rfl
      · simp [winV, a2]
    · simp [winV, a1]
theorem spec_out_j0 (k : Nat) (h w c kd o s sp mu sh z : Int) (ws bs : List Int) (hm : ws.length ≤ 1048576) (hb : bs.length ≤ 1048576) (hk : bs.length + ws.length + 12 < k) (hs : shOk h w c = true) (hkd : 0 ≤ kd ∧ kd ≤ 5) : spec_OutShape.j0 k false h w c kd o s sp mu sh z ws bs 0 0 0 = some (outV h w c kd o s sp mu sh z ws bs) := by
  obtain ⟨k, rfl⟩ : ∃ m, k = m + 1 := ⟨k - 1, by omega⟩
  have P := spec_plain k kd o s sp mu sh z ws bs hm hb (by omega)
  have J := spec_out_j1 k (by omega) h w c kd o s sp mu sh z ws bs 0 0 0
  have hb2 := szN_bd h w c
  have hs' := shOk_iff.1 hs
  rw [spec_OutShape.j0]
  simp only [spec_in, P, J, Option.bind_some, Bool.false_eq_true, if_false]
  unfold outV outOk outS plV
  rw [hs]
  simp only [Bool.true_and]
  obtain rfl | rfl | rfl | rfl | rfl | rfl : kd = 0 ∨ kd = 1 ∨ kd = 2 ∨ kd = 3 ∨ kd = 4 ∨ kd = 5 := by omega
  · rw [(by decide : decide ((1:Int) ≤ 0 ∧ (0:Int) ≤ 3) = false), (by decide : decide ((0:Int) ≤ 1) = true)]
    simp only [Bool.false_eq_true, if_false, if_true]
    cases h1 : (decide (s = 0) && decide (sp = 0)) with
    | false => simp
    | true =>
      cases h2 : scV o mu sh z ws bs with
      | false => simp
      | true =>
        have e := mul_w (scV_o h2) hb2
        simp only [Bool.true_and, if_true, e]
        by_cases q : szN h w c ≤ 64 ∧ (ws.length : Int) = o * szN h w c
        · rw [if_pos q, decide_eq_true q.1, decide_eq_true q.2]; rfl
        · rw [if_neg q]
          by_cases q1 : szN h w c ≤ 64
          · rw [decide_eq_true q1, decide_eq_false (fun z => q ⟨q1, z⟩)]; rfl
          · rw [decide_eq_false q1]; rfl
  · rw [(by decide : decide ((1:Int) ≤ 1 ∧ (1:Int) ≤ 3) = true), (by decide : decide ((1:Int) ≤ 1) = true)]
    simp only [if_true, (by decide : ((1 : Int) = 0) = False), if_false]
    cases h2 : scV o mu sh z ws bs with
    | false => simp
    | true =>
      by_cases a1 : 1 ≤ s ∧ s ≤ 3
      · by_cases a2 : 1 ≤ sp ∧ sp ≤ 2
        · have e := (mul3_w (scV_o h2) a1 hs'.2.2).1
          simp only [winV, a1, a2, decide_true, and_self, Bool.true_and, if_true, e]
          by_cases a3 : s > h
          · rw [if_pos a3, decide_eq_false (show ¬ s ≤ h by omega)]; rfl
          rw [if_neg a3, decide_eq_true (show s ≤ h by omega)]
          by_cases a4 : s > w
          · rw [if_pos a4, decide_eq_false (show ¬ s ≤ w by omega)]; rfl
          rw [if_neg a4, decide_eq_true (show s ≤ w by omega), if_neg (show ¬ sp = 0 by omega)]
          by_cases q : (ws.length : Int) = o * (s * s * c) ∧ (ws.length : Int) ≤ 600
          · rw [if_pos q, decide_eq_true q.1, decide_eq_true q.2]; rfl
          · rw [if_neg q]
            by_cases q1 : (ws.length : Int) = o * (s * s * c)
            · rw [decide_eq_true q1, decide_eq_false (fun z => q ⟨q1, z⟩)]; rfl
            · rw [decide_eq_false q1]; rfl
        · simp [winV, a2]
      · simp [winV, a1]
  · exact pool_ h w c 2 o s sp mu sh z ws bs (.inl rfl)
  · exact pool_ h w c 3 o s sp mu sh z ws bs (.inr rfl)
  · rw [(by decide : decide ((1:Int) ≤ 4 ∧ (4:Int) ≤ 3) = false), (by decide : decide ((4:Int) ≤ 1) = false)]
    simp only [if_true, (by decide : ((4 : Int) = 0) = False), (by decide : ((4 : Int) = 1) = False), (by decide : ((4 : Int) = 5) = False), (by decide : ((4 : Int) = 2 ∨ (4 : Int) = 3) = False), if_false, Bool.false_eq_true]
    cases h1 : ((decide (s = 0) && decide (sp = 0)) && (brV o mu sh ws bs && is8 z)) <;> simp
  · rw [(by decide : decide ((1:Int) ≤ 5 ∧ (5:Int) ≤ 3) = false), (by decide : decide ((5:Int) ≤ 1) = false)]
    simp only [if_true, (by decide : ((5 : Int) = 0) = False), (by decide : ((5 : Int) = 1) = False), (by decide : ((5 : Int) = 4) = False), (by decide : ((5 : Int) = 2 ∨ (5 : Int) = 3) = False), if_false, Bool.false_eq_true]
    cases h1 : (decide (s = 0) && decide (sp = 0)) with
    | false => simp
    | true =>
      cases h2 : brV o mu sh ws bs with
      | false => simp
      | true =>
        by_cases h3 : z = 0
        · by_cases q : szN h w c ≤ 8
          · simp [h3, q]
          · simp [h3, q]
        · simp [h3]
theorem spec_out (k : Nat) (h w c kd o s sp mu sh z : Int) (ws bs : List Int) (hm : ws.length ≤ 1048576) (hb : bs.length ≤ 1048576) (hk : bs.length + ws.length + 12 < k) : spec_OutShape.f k h w c kd o s sp mu sh z ws bs = some (outV h w c kd o s sp mu sh z ws bs) := by
  unfold spec_OutShape.f
  have no : ∀ (b : Bool), (shOk h w c = false ∨ b = true) → (b = true → outV h w c kd o s sp mu sh z ws bs = (0, 0, 0, false)) → b = true → spec_OutShape.j0 k b h w c kd o s sp mu sh z ws bs 0 0 0 = some (outV h w c kd o s sp mu sh z ws bs) := by
    intro b _ e hb
    obtain ⟨k, rfl⟩ : ∃ m, k = m + 1 := ⟨k - 1, by omega⟩
    rw [spec_OutShape.j0, if_pos hb, e hb]
  refine st (spec_shapeOk h w c) ?_
  by_cases hs : shOk h w c = true
  · refine ifp hs (st (spec_in kd 0 5) ?_)
    by_cases hkd : 0 ≤ kd ∧ kd ≤ 5
    · rw [decide_eq_true hkd]
      exact spec_out_j0 k h w c kd o s sp mu sh z ws bs hm hb hk hs hkd
    · rw [decide_eq_false hkd]
      refine no true (.inr rfl) (fun _ => ?_) rfl
      unfold outV outOk
      rw [if_neg (show ¬ kd = 0 by omega), if_neg (show ¬ kd = 1 by omega), if_neg (show ¬ (kd = 2 ∨ kd = 3) by omega), if_neg (show ¬ kd = 4 by omega), if_neg (show ¬ kd = 5 by omega), Bool.and_false]
      exact if_neg (by simp)
  · have hf : shOk h w c = false := by simpa using hs
    refine ifn hs (no true (.inl hf) (fun _ => ?_) rfl)
    unfold outV outOk
    rw [hf, Bool.false_and]
    exact if_neg (by simp)

theorem idxB_l0 (l : List Int) (hm : l.length ≤ 1048576) : ∀ (d k i : Nat), i + d = l.length → d < k →
    ∃ r, slices_IndexFunc_int_int_at_107.l0 k l (l.length : Int) (i : Int) = some r ∧ (0 ≤ r ↔ (l.drop i).all isB = false) := by
  intro d
  induction d with
  | zero =>
    intro k i hi hk
    obtain ⟨k, rfl⟩ : ∃ m, k = m + 1 := ⟨k - 1, by omega⟩
    simp only [slices_IndexFunc_int_int_at_107.l0]
    rw [if_neg (by omega), List.drop_of_length_le (by omega)]
    exact ⟨-1, rfl, by simp⟩
  | succ d ih =>
    intro k i hi hk
    obtain ⟨k, rfl⟩ : ∃ m, k = m + 1 := ⟨k - 1, by omega⟩
    simp only [slices_IndexFunc_int_int_at_107.l0]
    rw [if_pos (by omega), if_pos (by omega), if_pos (by omega), all_dropB l i (by omega)]
    unfold impl_Layer_isScaled_1.f
    simp only [impl_in_, Option.bind_some, rd_natD]
    cases hr : isB (l.getD i 0) with
    | false =>
      have : ¬ (-1000000 ≤ l.getD i 0 ∧ l.getD i 0 ≤ 1000000) := by simpa [isB] using hr
      exact ⟨i, by simp only [this]; simp, by simp⟩
    | true =>
      have : (-1000000 ≤ l.getD i 0 ∧ l.getD i 0 ≤ 1000000) := by simpa [isB] using hr
      obtain ⟨r, h1, h2⟩ := ih k (i + 1) (by omega) (by omega)
      refine ⟨r, ?_, by simpa using h2⟩
      rw [w64_succ i (by omega)]
      simp only [this, and_self]
      simpa using h1
theorem contB (k : Nat) (l : List Int) (hm : l.length ≤ 1048576) (hk : l.length < k) : slices_ContainsFunc_int_int_at_107.f k l = some (!(l.all isB)) := by
  obtain ⟨r, h1, h2⟩ := idxB_l0 l hm l.length k 0 (by omega) hk
  have h1' : slices_IndexFunc_int_int_at_107.f k l = some r := h1
  unfold slices_ContainsFunc_int_int_at_107.f
  rw [h1']
  rw [List.drop_zero] at h2
  simp only [Option.bind_some]
  cases ha : l.all isB with
  | false => rw [ha] at h2; have := h2.2 rfl; simp [this]
  | true => rw [ha] at h2; have : ¬ 0 ≤ r := fun z => absurd (h2.1 z) (by simp); simp; omega
theorem impl_scaled (k : Nat) (kd o s sp mu sh z : Int) (ws bs : List Int) (e : Int) (hm : ws.length ≤ 1048576) (hb : bs.length ≤ 1048576) (hk : bs.length + ws.length < k) : impl_Layer_isScaled.f k kd o s sp mu sh z ws bs e = some (scV o mu sh z ws bs && decide ((ws.length : Int) = wrap64 (o * e))) := by
  have A := impl_area k ws (by omega) (by omega)
  have B := contB k bs hb (by omega)
  unfold impl_Layer_isScaled.f scV
  have i8 : decide (-128 ≤ z ∧ z ≤ 127) = is8 z := rfl
  simp only [impl_in_, A, B, i8, Option.bind_some]
  by_cases h1 : 1 ≤ o ∧ o ≤ 8
  · by_cases h2 : 0 ≤ mu ∧ mu ≤ 2147483647
    · by_cases h3 : 0 ≤ sh ∧ sh ≤ 31
      · simp only [h1, h2, h3, decide_true, and_self, if_true, Bool.true_and]
        cases h4 : is8 z with
        | false => simp
        | true =>
          by_cases h5 : (ws.length : Int) = wrap64 (o * e)
          · by_cases h6 : (bs.length : Int) = o
            · cases h7 : ws.all is8 <;> cases h8 : bs.all isB <;> simp [h5, h6]
            · cases h7 : ws.all is8 <;> simp [h5, h6]
          · simp [h5]
      · simp [h1, h2, h3]
    · simp [h1, h2]
  · simp [h1]
theorem impl_none (kd o s sp mu sh z : Int) (ws bs : List Int) : impl_Layer_hasNone.f kd o s sp mu sh z ws bs = some (decide (s = 0) && decide (sp = 0)) := by
  unfold impl_Layer_hasNone.f
  by_cases h1 : s = 0 <;> by_cases h2 : sp = 0 <;> simp [h1, h2]
theorem impl_bare (kd o s sp mu sh z : Int) (ws bs : List Int) : impl_Layer_isBare.f kd o s sp mu sh z ws bs = some (brV o mu sh ws bs) := by
  unfold impl_Layer_isBare.f brV
  have e (l : List Int) : ((l.length : Int) = 0) = (l.length = 0) := by apply propext; omega
  by_cases h1 : o = 0
  · by_cases h2 : mu = 0
    · by_cases h3 : sh = 0
      · by_cases h4 : ws.length = 0
        · have h4' : (ws.length : Int) = 0 := by omega
          rw [if_pos h1, if_pos h2, if_pos h3, if_pos h4']
          by_cases h5 : bs.length = 0 <;> simp [h1, h2, h3, h4, h5]
        · have h4' : ¬ (ws.length : Int) = 0 := by omega
          rw [if_pos h1, if_pos h2, if_pos h3, if_neg h4', decide_eq_false h4]
          simp
      · simp [h1, h2, h3]
    · simp [h1, h2]
  · simp [h1]
theorem impl_window (kd o s sp mu sh z : Int) (ws bs : List Int) (h w c : Int) : impl_Layer_isWindow.f kd o s sp mu sh z ws bs h w c = some (winV h w s sp) := by
  unfold impl_Layer_isWindow.f winV
  simp only [impl_in_, Option.bind_some, mn_eq]
  by_cases h1 : 1 ≤ s ∧ s ≤ min (min 3 h) w
  · have a : 1 ≤ s ∧ s ≤ 3 := by omega
    have b : s ≤ h := by omega
    have d : s ≤ w := by omega
    rw [decide_eq_true h1, if_pos rfl, decide_eq_true a, decide_eq_true b, decide_eq_true d]
    simp
  · rw [decide_eq_false h1, if_neg (by simp)]
    by_cases a : 1 ≤ s ∧ s ≤ 3
    · by_cases b : s ≤ h
      · have d : ¬ s ≤ w := by omega
        rw [decide_eq_false d]; simp
      · rw [decide_eq_false b]; simp
    · rw [decide_eq_false a]; rfl
theorem impl_windows (kd o s sp mu sh z : Int) (ws bs : List Int) (h w c a : Int) (h0 : sp ≠ 0) : impl_Layer_windows.f kd o s sp mu sh z ws bs h w c a = some (wn h s sp, wn w s sp, a) := by
  unfold impl_Layer_windows.f
  exact ifn h0 rfl
theorem impl_out (k : Nat) (h w c kd o s sp mu sh z : Int) (ws bs : List Int) (hm : ws.length ≤ 1048576) (hb : bs.length ≤ 1048576) (hk : bs.length + ws.length + 12 < k) : impl_OutShape.f k h w c kd o s sp mu sh z ws bs = some (outV h w c kd o s sp mu sh z ws bs) := by
  obtain ⟨k, rfl⟩ : ∃ m, k = m + 1 + 1 := ⟨k - 2, by omega⟩
  have S := fun e => impl_scaled (k + 1 + 1) kd o s sp mu sh z ws bs e hm hb (by omega)
  unfold impl_OutShape.f
  refine st (impl_shapeOk h w c) ?_
  by_cases hs : shOk h w c = true
  · have hs' := shOk_iff.1 hs
    have hb2 := szN_bd h w c
    refine ifp hs (st (impl_sizeOf_ h w c) ?_)
    unfold outV outOk outS
    rw [hs, Bool.true_and]
    by_cases c0 : kd = 0
    · rw [if_pos c0, if_pos c0, if_pos c0]
      by_cases q : szN h w c ≤ 64
      · rw [if_pos q, impl_none]
        simp only [Option.bind_some, S]
        cases h1 : (decide (s = 0) && decide (sp = 0)) with
        | false => simp [impl_OutShape.j0]
        | true =>
          cases h2 : scV o mu sh z ws bs with
          | false => simp [impl_OutShape.j0]
          | true =>
            rw [mul_w (scV_o h2) hb2]
            by_cases q2 : (ws.length : Int) = o * szN h w c <;> simp [impl_OutShape.j0, q, q2]
      · rw [if_neg q]
        simp [impl_OutShape.j0, q]
    rw [if_neg c0, if_neg c0, if_neg c0]
    by_cases c1 : kd = 1
    · rw [if_pos c1, if_pos c1, if_pos c1, impl_window]
      simp only [Option.bind_some, S]
      cases h1 : winV h w s sp with
      | false => simp [impl_OutShape.j1]
      | true =>
        obtain ⟨a1, a2, _, _⟩ := winV_iff.1 h1
        by_cases q : (ws.length : Int) ≤ 600
        · cases h2 : scV o mu sh z ws bs with
          | false => simp [impl_OutShape.j1, q]
          | true =>
            have e := (mul3_w (scV_o h2) a1 hs'.2.2).2
            have W := impl_windows kd o s sp mu sh z ws bs h w c o (by omega)
            by_cases q2 : (ws.length : Int) = o * (s * s * c)
            · simp [impl_OutShape.j1, q, q2, e, W]
              rw [← q2, if_pos q, if_pos q]
            · simp [impl_OutShape.j1, q, q2, e]
        · simp [impl_OutShape.j1, q]
    rw [if_neg c1, if_neg c1, if_neg c1]
    have J2t : ∀ b : Bool, b = true → impl_OutShape.j2 (k + 1 + 1) (szN h w c) kd b h w c kd o s sp mu sh z ws bs = some (if (winV h w s sp && (brV o mu sh ws bs && decide (z = 0))) = true then (wn h s sp, wn w s sp, c, true) else (0, 0, 0, false)) := by
      intro b hb
      rw [impl_OutShape.j2, if_pos hb, impl_window]
      simp only [Option.bind_some, impl_bare]
      cases h1 : winV h w s sp with
      | false => simp [impl_OutShape.j3]
      | true =>
        obtain ⟨a1, a2, _, _⟩ := winV_iff.1 h1
        have W := impl_windows kd o s sp mu sh z ws bs h w c c (by omega)
        cases h2 : brV o mu sh ws bs with
        | false => simp [impl_OutShape.j3]
        | true =>
          by_cases h3 : z = 0
          · simp [impl_OutShape.j3, h3]
            rw [h3] at W
            rw [W]; rfl
          · simp [impl_OutShape.j3, h3]
    by_cases c2 : kd = 2
    · rw [if_pos c2, J2t _ (by simp [c2]), if_pos (Or.inl c2), if_pos (Or.inl c2)]
    rw [if_neg c2]
    by_cases c3 : kd = 3
    · rw [J2t _ (by simp [c3]), if_pos (Or.inr c3), if_pos (Or.inr c3)]
    rw [if_neg (show ¬ (kd = 2 ∨ kd = 3) by omega), if_neg (show ¬ (kd = 2 ∨ kd = 3) by omega), impl_OutShape.j2, if_neg (by simp [c3])]
    by_cases c4 : kd = 4
    · rw [if_pos c4, if_pos c4, if_pos c4, impl_none]
      simp only [Option.bind_some, impl_bare, impl_in_]
      have i8 : decide (-128 ≤ z ∧ z ≤ 127) = is8 z := rfl
      rw [i8]
      cases h1 : (decide (s = 0) && decide (sp = 0)) with
      | false => simp [impl_OutShape.j4]
      | true =>
        cases h2 : brV o mu sh ws bs with
        | false => simp [impl_OutShape.j4]
        | true => cases h3 : is8 z <;> simp [impl_OutShape.j4]
    rw [if_neg c4, if_neg c4, if_neg c4]
    by_cases c5 : kd = 5
    · rw [if_pos c5, if_pos c5, impl_none]
      simp only [Option.bind_some, impl_bare]
      cases h1 : (decide (s = 0) && decide (sp = 0)) with
      | false => simp [impl_OutShape.j5]
      | true =>
        cases h2 : brV o mu sh ws bs with
        | false => simp [impl_OutShape.j5]
        | true =>
          by_cases h3 : z = 0
          · by_cases h4 : szN h w c ≤ 8 <;> simp [impl_OutShape.j5, h3, h4]
          · simp [impl_OutShape.j5, h3]
    · rw [if_neg c5, if_neg c5, if_neg (by simp)]
  · have hf : shOk h w c = false := by simpa using hs
    refine ifn hs ?_
    unfold outV outOk
    rw [hf, Bool.false_and]
    rfl

def costV (h w c kd o s sp mu sh z : Int) (ws bs : List Int) : Int :=
  if outOk h w c kd o s sp mu sh z ws bs = true then
    wrap64 (1 + wrap64 (Int.tdiv (if kd = 0 then wrap64 (szN (outS h w c kd o s sp).1 (outS h w c kd o s sp).2.1 (outS h w c kd o s sp).2.2 * szN h w c)
      else if kd = 1 then wrap64 (wrap64 (wrap64 (szN (outS h w c kd o s sp).1 (outS h w c kd o s sp).2.1 (outS h w c kd o s sp).2.2 * s) * s) * c)
      else if kd = 2 ∨ kd = 3 then wrap64 (wrap64 (szN (outS h w c kd o s sp).1 (outS h w c kd o s sp).2.1 (outS h w c kd o s sp).2.2 * s) * s)
      else szN h w c) 16)) else 0
theorem spec_cost (k : Nat) (h w c kd o s sp mu sh z : Int) (ws bs : List Int) (hm : ws.length ≤ 1048576) (hb : bs.length ≤ 1048576) (hk : bs.length + ws.length + 12 < k) : spec_CostOf.f k h w c kd o s sp mu sh z ws bs = some (costV h w c kd o s sp mu sh z ws bs) := by
  obtain ⟨k, rfl⟩ : ∃ m, k = m + 1 := ⟨k - 1, by omega⟩
  have O := spec_out (k + 1) h w c kd o s sp mu sh z ws bs hm hb hk
  unfold spec_CostOf.f costV
  unfold outV at O
  by_cases q : outOk h w c kd o s sp mu sh z ws bs = true
  · rw [if_pos q] at O ⊢
    refine st O (ifp rfl (st (spec_sizeOf_ h w c) ?_))
    by_cases c0 : kd = 0
    · rw [if_pos c0, if_pos c0]
      exact st (spec_sizeOf_ _ _ _) (st (spec_sizeOf_ _ _ _) rfl)
    rw [if_neg c0, if_neg c0]
    by_cases c1 : kd = 1
    · rw [if_pos c1, if_pos c1]
      exact st (spec_sizeOf_ _ _ _) rfl
    rw [if_neg c1, if_neg c1]
    by_cases c2 : kd = 2
    · rw [if_pos c2, if_pos (Or.inl c2), spec_CostOf.j0]
      exact ifp (by simp [c2]) (st (spec_sizeOf_ _ _ _) rfl)
    rw [if_neg c2, spec_CostOf.j0]
    by_cases c3 : kd = 3
    · rw [if_pos (Or.inr c3)]
      exact ifp (by simp [c3]) (st (spec_sizeOf_ _ _ _) rfl)
    · rw [if_neg (show ¬ (kd = 2 ∨ kd = 3) by omega)]
      exact ifn (by simp [c3]) rfl
  · rw [if_neg q] at O ⊢
    exact st O (ifn (by simp) rfl)
theorem impl_cost (k : Nat) (h w c kd o s sp mu sh z : Int) (ws bs : List Int) (hm : ws.length ≤ 1048576) (hb : bs.length ≤ 1048576) (hk : bs.length + ws.length + 12 < k) : impl_CostOf.f k h w c kd o s sp mu sh z ws bs = some (costV h w c kd o s sp mu sh z ws bs) := by
  obtain ⟨k, rfl⟩ : ∃ m, k = m + 1 := ⟨k - 1, by omega⟩
  have O := impl_out (k + 1) h w c kd o s sp mu sh z ws bs hm hb hk
  unfold impl_CostOf.f costV
  unfold outV at O
  by_cases q : outOk h w c kd o s sp mu sh z ws bs = true
  · rw [if_pos q] at O ⊢
    refine st O (ifp rfl (st (impl_sizeOf_ h w c) ?_))
    by_cases c0 : kd = 0
    · rw [if_pos c0, if_pos c0]
      refine st (impl_sizeOf_ _ _ _) ?_
      rw [Int.mul_comm]
    rw [if_neg c0, if_neg c0]
    by_cases c1 : kd = 1
    · rw [if_pos c1, if_pos c1]
      exact st (impl_sizeOf_ _ _ _) rfl
    rw [if_neg c1, if_neg c1]
    by_cases c2 : kd = 2
    · rw [if_pos c2, if_pos (Or.inl c2), impl_CostOf.j0]
      exact ifp (by simp [c2]) (st (impl_sizeOf_ _ _ _) rfl)
    rw [if_neg c2, impl_CostOf.j0]
    by_cases c3 : kd = 3
    · rw [if_pos (Or.inr c3)]
      exact ifp (by simp [c3]) (st (impl_sizeOf_ _ _ _) rfl)
    · rw [if_neg (show ¬ (kd = 2 ∨ kd = 3) by omega)]
      exact ifn (by simp [c3]) rfl
  · rw [if_neg q] at O ⊢
    exact st O (ifn (by simp) rfl)
def okSL (s : S47) (x : S133) : Bool := outOk s.f0 s.f1 s.f2 x.f0 x.f1 x.f2 x.f3 x.f4 x.f5 x.f6 x.f7 x.f8
def stSL (s : S47) (x : S133) : S47 := ⟨(outS s.f0 s.f1 s.f2 x.f0 x.f1 x.f2 x.f3).1, (outS s.f0 s.f1 s.f2 x.f0 x.f1 x.f2 x.f3).2.1, (outS s.f0 s.f1 s.f2 x.f0 x.f1 x.f2 x.f3).2.2⟩
def coSL (s : S47) (x : S133) : Int := costV s.f0 s.f1 s.f2 x.f0 x.f1 x.f2 x.f3 x.f4 x.f5 x.f6 x.f7 x.f8
def okLs : S47 → List S133 → Bool
  | _, [] => true
  | s, x :: r => okSL s x && okLs (stSL s x) r
def shLs : S47 → List S133 → List S47
  | _, [] => []
  | s, x :: r => stSL s x :: shLs (stSL s x) r
def coLs : S47 → List S133 → List Int
  | _, [] => []
  | s, x :: r => coSL s x :: coLs (stSL s x) r
theorem shLs_len : ∀ (l : List S133) (s : S47), (shLs s l).length = l.length
  | [], _ => rfl
  | _ :: r, s => by simp [shLs, shLs_len r]
theorem coLs_len : ∀ (l : List S133) (s : S47), (coLs s l).length = l.length
  | [], _ => rfl
  | _ :: r, s => by simp [coLs, coLs_len r]
def SmL (x : S133) : Prop := x.f7.length ≤ 1048576 ∧ x.f8.length ≤ 1048576
theorem outV_ok {s : S47} {x : S133} (h : okSL s x = true) : outV s.f0 s.f1 s.f2 x.f0 x.f1 x.f2 x.f3 x.f4 x.f5 x.f6 x.f7 x.f8 = ((stSL s x).f0, (stSL s x).f1, (stSL s x).f2, true) := by
  unfold outV; exact if_pos h
theorem outV_no {s : S47} {x : S133} (h : ¬ okSL s x = true) : outV s.f0 s.f1 s.f2 x.f0 x.f1 x.f2 x.f3 x.f4 x.f5 x.f6 x.f7 x.f8 = (0, 0, 0, false) := by
  unfold outV; exact if_neg h
theorem impl_shapes_l0 (l : List S133) (hl : l.length ≤ 1048576) (hs : ∀ x ∈ l, SmL x) : ∀ (d k i : Nat) (acc : List S47) (s : S47), i + d = l.length → d + 2097200 ≤ k → acc.length ≤ i + 1 →
    impl_Model_shapes.l0 k acc l (l.length : Int) (i : Int) s.f0 s.f1 s.f2 = some (if okLs s (l.drop i) = true then (acc ++ shLs s (l.drop i), true) else ([], false)) := by
  intro d
  induction d with
  | zero =>
    intro k i acc s hi hk ha
    obtain ⟨k, rfl⟩ : ∃ m, k = m + 1 := ⟨k - 1, by omega⟩
    rw [impl_Model_shapes.l0, List.drop_of_length_le (by omega)]
    refine ifn (by omega) ?_
    rw [if_pos (show okLs s [] = true from rfl), shLs, List.append_nil]
  | succ d ih =>
    intro k i acc s hi hk ha
    obtain ⟨k, rfl⟩ : ∃ m, k = m + 1 := ⟨k - 1, by omega⟩
    rw [impl_Model_shapes.l0, drop_getD l z133 i (by omega), okLs, shLs, w64_succ i (by omega)]
    simp only [rd_T133, Int.toNat_natCast]
    have hx := hs _ (mem_getD l z133 i (by omega))
    generalize l.getD i z133 = x at hx ⊢
    have O := impl_out k s.f0 s.f1 s.f2 x.f0 x.f1 x.f2 x.f3 x.f4 x.f5 x.f6 x.f7 x.f8 hx.1 hx.2 (by have := hx.1; have := hx.2; omega)
    refine ifp (by omega) (ifp (by omega) (ifp (by omega) ?_))
    by_cases q : okSL s x = true
    · rw [outV_ok q] at O
      have g := ih k (i + 1) (acc ++ [stSL s x]) (stSL s x) (by omega) (by omega) (by simp; omega)
      rw [q, Bool.true_and, List.append_cons]
      exact st O (ifp rfl (ifp (by omega) g))
    · rw [outV_no q] at O
      have qf : okSL s x = false := by simpa using q
      rw [qf, Bool.false_and]
      exact st O (ifn (by simp) rfl)
theorem spec_shapes_l0 (a b c : Int) (l : List S133) (hl : l.length ≤ 1048576) (hs : ∀ x ∈ l, SmL x) : ∀ (d k i : Nat) (acc : List S47) (s : S47), i + d = l.length → d + 2097200 ≤ k → acc.length = i + 1 → acc.getD i z47 = s →
    spec_l04Shapes.l0 k acc (i : Int) a b c l = some (if okLs s (l.drop i) = true then (acc ++ shLs s (l.drop i), true) else ([], false)) := by
  intro d
  induction d with
  | zero =>
    intro k i acc s hi hk ha hs2
    obtain ⟨k, rfl⟩ : ∃ m, k = m + 1 := ⟨k - 1, by omega⟩
    rw [spec_l04Shapes.l0, List.drop_of_length_le (by omega)]
    refine ifn (by omega) ?_
    rw [if_pos (show okLs s [] = true from rfl), shLs, List.append_nil]
  | succ d ih =>
    intro k i acc s hi hk ha hs2
    obtain ⟨k, rfl⟩ : ∃ m, k = m + 1 := ⟨k - 1, by omega⟩
    rw [spec_l04Shapes.l0, drop_getD l z133 i (by omega), okLs, shLs, w64_succ i (by omega)]
    simp only [rd_T133, rd_T47, Int.toNat_natCast, hs2]
    have hx := hs _ (mem_getD l z133 i (by omega))
    generalize l.getD i z133 = x at hx ⊢
    have O := spec_out k s.f0 s.f1 s.f2 x.f0 x.f1 x.f2 x.f3 x.f4 x.f5 x.f6 x.f7 x.f8 hx.1 hx.2 (by have := hx.1; have := hx.2; omega)
    refine ifp (by omega) (ifp (by omega) (ifp (by omega) ?_))
    by_cases q : okSL s x = true
    · rw [outV_ok q] at O
      have g := ih k (i + 1) (acc ++ [stSL s x]) (stSL s x) (by omega) (by omega) (by simp; omega) (by
        rw [List.getD_eq_getElem?_getD, List.getElem?_append_right (by omega), ha]; simp)
      rw [q, Bool.true_and, List.append_cons]
      exact st O (ifp rfl (ifp (by omega) g))
    · rw [outV_no q] at O
      have qf : okSL s x = false := by simpa using q
      rw [qf, Bool.false_and]
      exact st O (ifn (by simp) rfl)
def mOk (s : S47) (l : List S133) : Bool := decide (1 ≤ (l.length : Int) ∧ (l.length : Int) ≤ 6) && okLs s l
theorem mOk_sh {s : S47} {l : List S133} (h : mOk s l = true) : shOk s.f0 s.f1 s.f2 = true := by
  unfold mOk at h
  rw [Bool.and_eq_true, decide_eq_true_eq] at h
  cases l with
  | nil => exact absurd h.1.1 (by simp)
  | cons x r =>
    have h2 := h.2
    rw [okLs, Bool.and_eq_true] at h2
    have h3 := h2.1
    unfold okSL outOk at h3
    rw [Bool.and_eq_true] at h3
    exact h3.1
theorem mOk_len {s : S47} {l : List S133} (h : mOk s l = true) : 1 ≤ l.length ∧ l.length ≤ 6 := by
  unfold mOk at h
  rw [Bool.and_eq_true, decide_eq_true_eq] at h
  omega
theorem spec_shapes (k : Nat) (s : S47) (l : List S133) (hl : l.length ≤ 1048576) (hs : ∀ x ∈ l, SmL x) (hk : 3200000 ≤ k) : spec_l04Shapes.f k s.f0 s.f1 s.f2 l = some (if mOk s l = true then (s :: shLs s l, true) else ([], false)) := by
  obtain ⟨k, rfl⟩ : ∃ m, k = m + 1 := ⟨k - 1, by omega⟩
  unfold spec_l04Shapes.f
  have no : ¬ mOk s l = true → spec_l04Shapes.j0 (k + 1) [⟨s.f0, s.f1, s.f2⟩] true s.f0 s.f1 s.f2 l = some (if mOk s l = true then (s :: shLs s l, true) else ([], false)) := by
    intro q
    rw [spec_l04Shapes.j0, if_neg q]
    exact ifp rfl rfl
  refine st rfl (st (spec_shapeOk _ _ _) ?_)
  by_cases h1 : shOk s.f0 s.f1 s.f2 = true
  · refine ifp h1 (st (spec_in _ _ _) ?_)
    by_cases h2 : 1 ≤ (l.length : Int) ∧ (l.length : Int) ≤ 6
    · rw [decide_eq_true h2, spec_l04Shapes.j0]
      have g := spec_shapes_l0 s.f0 s.f1 s.f2 l hl hs l.length k 0 [⟨s.f0, s.f1, s.f2⟩] s (by omega) (by omega) rfl rfl
      have e : mOk s l = okLs s l := by unfold mOk; rw [decide_eq_true h2, Bool.true_and]
      rw [e]
      exact ifn (by simp) g
    · rw [decide_eq_false h2]
      exact no (fun q => h2 (by unfold mOk at q; rw [decide_eq_false h2] at q; exact absurd q (by simp)))
  · exact ifn h1 (no (fun q => h1 (mOk_sh q)))
theorem impl_shapes (k : Nat) (s : S47) (l : List S133) (hl : l.length ≤ 1048576) (hs : ∀ x ∈ l, SmL x) (hk : 3200000 ≤ k) : impl_Model_shapes.f k s.f0 s.f1 s.f2 l = some (if okLs s l = true then (s :: shLs s l, true) else ([], false)) := by
  unfold impl_Model_shapes.f
  exact impl_shapes_l0 l hl hs l.length k 0 [⟨s.f0, s.f1, s.f2⟩] s (by omega) (by omega) (by simp)
theorem impl_mOk (k : Nat) (s : S47) (l : List S133) (hl : l.length ≤ 1048576) (hs : ∀ x ∈ l, SmL x) (hk : 3200000 ≤ k) : impl_ModelOk.f k s.f0 s.f1 s.f2 l = some (mOk s l) := by
  unfold impl_ModelOk.f mOk
  refine st (impl_in_ _ _ _) ?_
  by_cases h2 : 1 ≤ (l.length : Int) ∧ (l.length : Int) ≤ 6
  · rw [decide_eq_true h2, Bool.true_and]
    refine ifp rfl (st (impl_shapes k s l hl hs hk) ?_)
    cases okLs s l <;> rfl
  · rw [decide_eq_false h2, Bool.false_and]
    exact ifn (by simp) rfl
theorem impl_shapesOf (k : Nat) (s : S47) (l : List S133) (hl : l.length ≤ 1048576) (hs : ∀ x ∈ l, SmL x) (hk : 3200000 ≤ k) : impl_ShapesOf.f k s.f0 s.f1 s.f2 l = some (if mOk s l = true then s :: shLs s l else []) := by
  unfold impl_ShapesOf.f
  refine st (impl_mOk k s l hl hs hk) ?_
  by_cases q : mOk s l = true
  · have hv : (if mOk s l = true then s :: shLs s l else []) = s :: shLs s l := if_pos q
    rw [hv]
    have e : okLs s l = true := by unfold mOk at q; rw [Bool.and_eq_true] at q; exact q.2
    have g := impl_shapes k s l hl hs hk
    rw [if_pos e] at g
    exact ifp q (st g rfl)
  · have hv : (if mOk s l = true then s :: shLs s l else []) = [] := if_neg q
    rw [hv]
    exact ifn q rfl
theorem impl_costs_l0 (a b c : Int) (l : List S133) (hl : l.length ≤ 1048576) (hs : ∀ x ∈ l, SmL x) (shs : List S47) (hsh : shs.length = l.length + 1) : ∀ (d k i : Nat) (acc : List Int) (s : S47), i + d = l.length → d + 2097300 ≤ k → acc.length = i → shs.drop i = s :: shLs s (l.drop i) →
    impl_CostsOf.l0 k acc shs (shs.length : Int) (i : Int) a b c l = some (acc ++ coLs s (l.drop i)) := by
  intro d
  induction d with
  | zero =>
    intro k i acc s hi hk ha hd
    obtain ⟨k, rfl⟩ : ∃ m, k = m + 1 + 1 := ⟨k - 2, by omega⟩
    rw [impl_CostsOf.l0, List.drop_of_length_le (by omega), coLs, List.append_nil, w64_succ i (by omega)]
    refine ifp (by omega) (ifp (by omega) (ifp (by omega) (ifn (by omega) ?_)))
    rw [impl_CostsOf.l0]
    exact ifn (by omega) rfl
  | succ d ih =>
    intro k i acc s hi hk ha hd
    obtain ⟨k, rfl⟩ : ∃ m, k = m + 1 := ⟨k - 1, by omega⟩
    have e1 : shs.getD i z47 = s := by
      have h := drop_getD shs z47 i (by omega)
      rw [hd] at h
      exact (List.cons.inj h).1.symm
    have e2 : shs.drop (i + 1) = shLs s (l.drop i) := by
      have h := drop_getD shs z47 i (by omega)
      rw [hd] at h
      exact (List.cons.inj h).2.symm
    rw [drop_getD l z133 i (by omega), shLs] at e2
    rw [impl_CostsOf.l0, drop_getD l z133 i (by omega), coLs, w64_succ i (by omega)]
    simp only [rd_T133, rd_T47, Int.toNat_natCast, e1]
    have hx := hs _ (mem_getD l z133 i (by omega))
    generalize l.getD i z133 = x at hx e2 ⊢
    have O := impl_cost k s.f0 s.f1 s.f2 x.f0 x.f1 x.f2 x.f3 x.f4 x.f5 x.f6 x.f7 x.f8 hx.1 hx.2 (by have := hx.1; have := hx.2; omega)
    have g := ih k (i + 1) (acc ++ [coSL s x]) (stSL s x) (by omega) (by omega) (by simp; omega) e2
    rw [List.append_cons]
    exact ifp (by omega) (ifp (by omega) (ifp (by omega) (ifp (by omega) (st O (ifp (by omega) g)))))
theorem spec_costs_l0 (a b c : Int) (l : List S133) (hl : l.length ≤ 1048576) (hs : ∀ x ∈ l, SmL x) (shs : List S47) (hsh : shs.length = l.length + 1) : ∀ (d k i : Nat) (acc : List Int) (s : S47), i + d = l.length → d + 2097300 ≤ k → acc.length = i → shs.drop i = s :: shLs s (l.drop i) →
    spec_CostsOf.l0 k acc shs (i : Int) a b c l = some (acc ++ coLs s (l.drop i)) := by
  intro d
  induction d with
  | zero =>
    intro k i acc s hi hk ha hd
    obtain ⟨k, rfl⟩ : ∃ m, k = m + 1 := ⟨k - 1, by omega⟩
    rw [spec_CostsOf.l0, List.drop_of_length_le (by omega), coLs, List.append_nil]
    exact ifn (by omega) rfl
  | succ d ih =>
    intro k i acc s hi hk ha hd
    obtain ⟨k, rfl⟩ : ∃ m, k = m + 1 := ⟨k - 1, by omega⟩
    have e1 : shs.getD i z47 = s := by
      have h := drop_getD shs z47 i (by omega)
      rw [hd] at h
      exact (List.cons.inj h).1.symm
    have e2 : shs.drop (i + 1) = shLs s (l.drop i) := by
      have h := drop_getD shs z47 i (by omega)
      rw [hd] at h
      exact (List.cons.inj h).2.symm
    rw [drop_getD l z133 i (by omega), shLs] at e2
    rw [spec_CostsOf.l0, drop_getD l z133 i (by omega), coLs, w64_succ i (by omega)]
    simp only [rd_T133, rd_T47, Int.toNat_natCast, e1]
    have hx := hs _ (mem_getD l z133 i (by omega))
    generalize l.getD i z133 = x at hx e2 ⊢
    have O := spec_cost k s.f0 s.f1 s.f2 x.f0 x.f1 x.f2 x.f3 x.f4 x.f5 x.f6 x.f7 x.f8 hx.1 hx.2 (by have := hx.1; have := hx.2; omega)
    have g := ih k (i + 1) (acc ++ [coSL s x]) (stSL s x) (by omega) (by omega) (by simp; omega) e2
    rw [List.append_cons]
    exact ifp (by omega) (ifp (by omega) (ifp (by omega) (st O (ifp (by omega) g))))
def cosV (s : S47) (l : List S133) : List Int := if mOk s l = true then coLs s l else []
theorem impl_costs (k : Nat) (s : S47) (l : List S133) (hl : l.length ≤ 1048576) (hs : ∀ x ∈ l, SmL x) (hk : 3300000 ≤ k) : impl_CostsOf.f k s.f0 s.f1 s.f2 l = some (cosV s l) := by
  unfold impl_CostsOf.f cosV
  refine st (impl_shapesOf k s l hl hs (by omega)) ?_
  by_cases q : mOk s l = true
  · rw [if_pos q, if_pos q]
    have g := impl_costs_l0 s.f0 s.f1 s.f2 l hl hs (s :: shLs s l) (by simp [shLs_len]) l.length k 0 [] s (by omega) (by omega) rfl rfl
    exact g
  · rw [if_neg q, if_neg q]
    obtain ⟨k, rfl⟩ : ∃ m, k = m + 1 := ⟨k - 1, by omega⟩
    rw [impl_CostsOf.l0]
    exact ifn (by simp) rfl
theorem spec_costs (k : Nat) (s : S47) (l : List S133) (hl : l.length ≤ 1048576) (hs : ∀ x ∈ l, SmL x) (hk : 3300000 ≤ k) : spec_CostsOf.f k s.f0 s.f1 s.f2 l = some (cosV s l) := by
  unfold spec_CostsOf.f cosV
  have e := spec_shapes k s l hl hs (by omega)
  by_cases q : mOk s l = true
  · rw [if_pos q] at e ⊢
    have g := spec_costs_l0 s.f0 s.f1 s.f2 l hl hs (s :: shLs s l) (by simp [shLs_len]) l.length k 0 [] s (by omega) (by omega) rfl rfl
    exact st e (ifp rfl g)
  · rw [if_neg q] at e ⊢
    exact st e (ifn (by simp) rfl)

def wsumB : Int → List Int → Int
  | s, [] => s
  | s, x :: r => wsumB (wrap64 (s + x)) r
theorem sumB_l0 (l : List Int) (hm : l.length ≤ 1048576) : ∀ (d k i : Nat) (s : Int), i + d = l.length → d < k → impl_sum.l0 k s l (l.length : Int) (i : Int) = some (wsumB s (l.drop i)) := by
  intro d
  induction d with
  | zero =>
    intro k i s hi hk
    obtain ⟨k, rfl⟩ : ∃ m, k = m + 1 := ⟨k - 1, by omega⟩
    rw [List.drop_of_length_le (by omega)]
    simp only [impl_sum.l0, wsumB]
    exact ifn (by omega) rfl
  | succ d ih =>
    intro k i s hi hk
    obtain ⟨k, rfl⟩ : ∃ m, k = m + 1 := ⟨k - 1, by omega⟩
    simp only [impl_sum.l0, rd_natD, w64_succ i (by omega)]
    rw [drop_getD l 0 i (by omega), wsumB]
    exact ifp (by omega) (ifp (by omega) (ifp (by omega) (ih k (i + 1) (wrap64 (s + l.getD i 0)) (by omega) (by omega))))
theorem impl_sumB (k : Nat) (l : List Int) (hm : l.length ≤ 1048576) (hk : 1048600 ≤ k) : impl_sum.f k l = some (wsumB 0 l) := by
  have := sumB_l0 l hm l.length k 0 0 (by omega) (by omega)
  simpa [impl_sum.f] using this

def shEq (a b c : Int) (s : S47) : Bool := a == s.f0 && (b == s.f1 && c == s.f2)
def jobOk (s : S47) (l : List S133) (at_ a b c : Int) (d : List Int) (spent : Int) : Bool :=
  mOk s l && (decide (0 ≤ at_ ∧ at_ ≤ (l.length : Int)) && (tOk a b c d && (shEq a b c ((s :: shLs s l).getD at_.toNat z47) && (spent == wsumB 0 ((coLs s l).take at_.toNat)))))
theorem impl_job (k : Nat) (s : S47) (l : List S133) (at_ a b c : Int) (d : List Int) (spent : Int) (hl : l.length ≤ 1048576) (hs : ∀ x ∈ l, SmL x) (hd : d.length ≤ 1048576) (hk : 3300000 ≤ k) : impl_JobOk.f k s.f0 s.f1 s.f2 l at_ a b c d spent = some (jobOk s l at_ a b c d spent) := by
  unfold impl_JobOk.f jobOk
  refine st (impl_mOk k s l hl hs (by omega)) ?_
  by_cases h1 : mOk s l = true
  · have hlen := mOk_len h1
    rw [h1, Bool.true_and]
    refine ifp rfl (st (impl_in_ _ _ _) ?_)
    by_cases h2 : 0 ≤ at_ ∧ at_ ≤ (l.length : Int)
    · rw [decide_eq_true h2, Bool.true_and]
      refine ifp rfl (st (impl_tOk k a b c d (by omega) (by omega)) ?_)
      cases h3 : tOk a b c d with
      | false => exact ifn (by simp) rfl
      | true =>
        have e1 := impl_shapesOf k s l hl hs (by omega)
        have e2 := impl_costs k s l hl hs (by omega)
        rw [if_pos h1] at e1
        unfold cosV at e2
        rw [if_pos h1] at e2
        have hsl : (s :: shLs s l).length = l.length + 1 := by simp [shLs_len]
        have hcl := coLs_len l s
        refine ifp rfl (st e1 (ifp h2.1 (ifp (by omega) ?_)))
        rw [Bool.true_and]
        cases h4 : shEq a b c ((s :: shLs s l).getD at_.toNat z47) with
        | false => exact ifn (fun z => absurd (h4.symm.trans z) (by simp)) rfl
        | true => exact ifp h4 (st e2 (ifp (by omega) (st (impl_sumB k _ (by rw [List.length_take]; omega) (by omega)) rfl)))
    · rw [decide_eq_false h2, Bool.false_and]
      exact ifn (by simp) rfl
  · have hf : mOk s l = false := by simpa using h1
    rw [hf, Bool.false_and]
    exact ifn (by simp) rfl
theorem wsumB_snoc (y : Int) : ∀ (l : List Int) (s : Int), wsumB s (l ++ [y]) = wrap64 (wsumB s l + y)
  | [], s => rfl
  | x :: r, s => by simp only [List.cons_append, wsumB]; exact wsumB_snoc y r _
theorem spec_job_l0 (costs : List Int) (hc : costs.length ≤ 1000) (a b c : Int) (l : List S133) (n : Nat) (hn : n ≤ costs.length) (p q r : Int) (d : List Int) (spent : Int) : ∀ (m k i : Nat), i + m = n → m < k → spec_JobOk.l0 k costs (wsumB 0 (costs.take i)) (i : Int) a b c l (n : Int) p q r d spent = some (spent == wsumB 0 (costs.take n)) := by
  intro m
  induction m with
  | zero =>
    intro k i hi hk
    obtain ⟨k, rfl⟩ : ∃ m, k = m + 1 := ⟨k - 1, by omega⟩
    obtain rfl : i = n := by omega
    rw [spec_JobOk.l0]
    exact ifn (by omega) rfl
  | succ m ih =>
    intro k i hi hk
    obtain ⟨k, rfl⟩ : ∃ m, k = m + 1 := ⟨k - 1, by omega⟩
    have g := ih k (i + 1) (by omega) (by omega)
    rw [take_succ_getD costs 0 i (by omega), wsumB_snoc] at g
    rw [spec_JobOk.l0, rd_natD, w64_succ i (by omega)]
    exact ifp (by omega) (ifp (by omega) (ifp (by omega) g))
theorem spec_job (k : Nat) (s : S47) (l : List S133) (at_ a b c : Int) (d : List Int) (spent : Int) (hl : l.length ≤ 1048576) (hs : ∀ x ∈ l, SmL x) (hd : d.length ≤ 1048576) (hk : 3400000 ≤ k) : spec_JobOk.f k s.f0 s.f1 s.f2 l at_ a b c d spent = some (jobOk s l at_ a b c d spent) := by
  obtain ⟨k, rfl⟩ : ∃ m, k = m + 1 := ⟨k - 1, by omega⟩
  have e1 := spec_shapes (k + 1) s l hl hs (by omega)
  have no : spec_JobOk.j0 (k + 1) true s.f0 s.f1 s.f2 l at_ a b c d spent = some false := by
    rw [spec_JobOk.j0]; exact ifp rfl rfl
  unfold spec_JobOk.f jobOk
  by_cases h1 : mOk s l = true
  · have hlen := mOk_len h1
    rw [if_pos h1] at e1
    rw [h1, Bool.true_and]
    refine st e1 (ifp rfl (st (spec_in _ _ _) ?_))
    by_cases h2 : 0 ≤ at_ ∧ at_ ≤ (l.length : Int)
    · rw [decide_eq_true h2, Bool.true_and]
      refine ifp rfl (st (spec_tOk (k + 1) a b c d (by omega) (by omega)) ?_)
      cases h3 : tOk a b c d with
      | false => exact ifn (by simp) no
      | true =>
        have hsl : (s :: shLs s l).length = l.length + 1 := by simp [shLs_len]
        have hcl := coLs_len l s
        refine ifp rfl (ifp h2.1 (ifp (by dsimp only; omega) ?_))
        simp only [rd_T47, Bool.true_and]
        have hq : (!(a == ((s :: shLs s l).getD at_.toNat z47).f0) || (!(b == ((s :: shLs s l).getD at_.toNat z47).f1) || !(c == ((s :: shLs s l).getD at_.toNat z47).f2))) = !shEq a b c ((s :: shLs s l).getD at_.toNat z47) := by
          unfold shEq
          rw [Bool.not_and, Bool.not_and]
        rw [hq]
        cases h4 : shEq a b c ((s :: shLs s l).getD at_.toNat z47) with
        | false => exact no
        | true =>
          have e2 := spec_costs k s l hl hs (by omega)
          unfold cosV at e2
          rw [if_pos h1] at e2
          obtain ⟨n, rfl⟩ := Int.eq_ofNat_of_zero_le h2.1
          have g := spec_job_l0 (coLs s l) (by omega) s.f0 s.f1 s.f2 l n (by omega) a b c d spent n k 0 (by omega) (by omega)
          rw [spec_JobOk.j0]
          exact ifn (by simp) (st e2 g)
    · rw [decide_eq_false h2, Bool.false_and]
      exact ifn (by simp) no
  · have hf : mOk s l = false := by simpa using h1
    rw [if_neg h1] at e1
    rw [hf, Bool.false_and]
    exact st e1 (ifn (by simp) no)

def tx (l : List UInt8) : ByteArray := ⟨l.toArray⟩
theorem tx_append (a b : List UInt8) : tx a ++ tx b = tx (a ++ b) := by
  apply ByteArray.ext
  simp [tx, ByteArray.data_append]
theorem tx_size (a : List UInt8) : (tx a).size = a.length := by simp [tx, ByteArray.size]
def digs (u : Nat) : List UInt8 := if u = 0 then [] else Go.Lib.decDigits u
theorem digs_step {u : Nat} (h : u ≠ 0) : digs u = digs (u / 10) ++ [UInt8.ofNat (48 + u % 10)] := by
  unfold digs
  rw [if_neg h]
  by_cases c : u < 10
  · rw [if_pos (by omega), Go.Lib.decDigits, dif_pos c, Nat.mod_eq_of_lt c]
    rfl
  · rw [if_neg (by omega), Go.Lib.decDigits, dif_neg c]
theorem one_digit (d : Int) (h0 : 0 ≤ d) (h1 : d ≤ 9) : strOfNums [(wrap64 (48 + d)) % 256] = tx [UInt8.ofNat (48 + d.toNat)] := by
  rw [w64 (by omega) (by omega), Int.emod_eq_of_lt (by omega) (by omega)]
  have : (48 + d).toNat = 48 + d.toNat := by omega
  simp [strOfNums, tx, this]
theorem num_l0 (neg : Bool) : ∀ (n k u : Nat) (x : Int) (s : List UInt8), n < k → u < 10 ^ n → u ≤ 9223372036854775808 → x.natAbs = u → n + s.length ≤ 1000 →
    spec_l01Num.l0 k x (tx s) neg = some (tx ((if neg = true then [45] else []) ++ (digs u ++ s))) := by
  intro n
  induction n with
  | zero =>
    intro k u x s hk hu hu2 hx hs
    obtain ⟨k, rfl⟩ : ∃ m, k = m + 1 := ⟨k - 1, by omega⟩
    have hu0 : u = 0 := by omega
    subst hu0
    rw [spec_l01Num.l0]
    refine ifp (by omega) ?_
    cases neg with
    | true =>
      refine ifp rfl (ifp (by rw [tx_size]; omega) ?_)
      rw [show (⟨#[45]⟩ : ByteArray) = tx [45] from rfl, tx_append]
      rfl
    | false => exact ifn (by simp) rfl
  | succ n ih =>
    intro k u x s hk hu hu2 hx hs
    obtain ⟨k, rfl⟩ : ∃ m, k = m + 1 := ⟨k - 1, by omega⟩
    by_cases h0 : u = 0
    · subst h0
      rw [spec_l01Num.l0]
      refine ifp (by omega) ?_
      cases neg with
      | true =>
        refine ifp rfl (ifp (by rw [tx_size]; omega) ?_)
        rw [show (⟨#[45]⟩ : ByteArray) = tx [45] from rfl, tx_append]
        rfl
      | false => exact ifn (by simp) rfl
    · have hp : u < 10 ^ n * 10 := by rw [← Nat.pow_succ]; exact hu
      have hq : u / 10 < 10 ^ n := Nat.div_lt_of_lt_mul (by rw [Nat.mul_comm]; exact hp)
      have e : (if neg = true then [45] else []) ++ (digs u ++ s) = (if neg = true then [45] else []) ++ (digs (u / 10) ++ (UInt8.ofNat (48 + u % 10) :: s)) := by
        rw [digs_step h0]; simp
      have hx0 : ¬ x = 0 := by omega
      have ht : (Int.tdiv x 10).natAbs = x.natAbs / 10 := Int.natAbs_tdiv x 10
      have hm : (Int.tmod x 10).natAbs = x.natAbs % 10 := Int.natAbs_tmod x 10
      have g := ih k (u / 10) (Int.tdiv x 10) (UInt8.ofNat (48 + u % 10) :: s) (by omega) hq (by omega) (by omega) (by simp; omega)
      have hw : wrap64 (Int.tdiv x 10) = Int.tdiv x 10 := w64 (by omega) (by omega)
      rw [spec_l01Num.l0, e, hw]
      refine ifn hx0 ?_
      by_cases c : Int.tmod x 10 < 0
      · have hd : -(Int.tmod x 10) = ((u % 10 : Nat) : Int) := by omega
        refine ifp c (st rfl ?_)
        rw [w64 (x := -(Int.tmod x 10)) (by omega) (by omega), hd, one_digit _ (by omega) (by omega)]
        refine ifp (by rw [tx_size, tx_size]; simp; omega) ?_
        rw [tx_append]
        exact g
      · have hd : Int.tmod x 10 = ((u % 10 : Nat) : Int) := by omega
        refine ifn c (st rfl ?_)
        rw [hd, one_digit _ (by omega) (by omega)]
        refine ifp (by rw [tx_size, tx_size]; simp; omega) ?_
        rw [tx_append]
        exact g
theorem spec_num (k : Nat) (x : Int) (h0 : -9223372036854775808 ≤ x) (h1 : x ≤ 9223372036854775807) (hk : 100 ≤ k) : spec_l01Num.f k x = some (itoaS x) := by
  unfold spec_l01Num.f itoaS Go.Lib.itoa
  by_cases c : x = 0
  · subst c
    refine ifp rfl ?_
    rw [if_neg (by omega), Go.Lib.decDigits, dif_pos (by decide)]
    rfl
  · refine ifn c ?_
    have g := num_l0 (decide (x < 0)) 20 k x.natAbs x [] (by omega) (by omega) (by omega) rfl (by simp)
    refine (show spec_l01Num.l0 k x (tx []) _ = _ from g).trans ?_
    have hd : digs x.natAbs = Go.Lib.decDigits x.natAbs := by unfold digs; rw [if_neg (by omega)]
    rw [hd, List.append_nil]
    by_cases c2 : x < 0
    · rw [decide_eq_true c2, if_pos rfl, if_pos c2]
      rfl
    · rw [decide_eq_false c2, if_neg (by simp), if_neg c2, show x.natAbs = x.toNat by omega]
      rfl
theorem impl_num (x : Int) (h0 : -9223372036854775808 ≤ x) (h1 : x ≤ 9223372036854775807) : strconv_Itoa.f x = some (itoaS x) := ifp h0 (ifp h1 rfl)
def jobB (at_ n spent : Int) : List UInt8 := Go.Lib.itoa at_ ++ [47] ++ Go.Lib.itoa n ++ [32] ++ Go.Lib.itoa spent
def jobT (s : S47) (l : List S133) (at_ a b c : Int) (d : List Int) (spent : Int) : List UInt8 := if jobOk s l at_ a b c d spent = true then jobB at_ l.length spent else []
def In64 (x : Int) : Prop := -9223372036854775808 ≤ x ∧ x ≤ 9223372036854775807
theorem it_tx (x : Int) : itoaS x = tx (Go.Lib.itoa x) := rfl
theorem b47_ : (⟨#[47]⟩ : ByteArray) = tx [47] := rfl
theorem b32_ : (⟨#[32]⟩ : ByteArray) = tx [32] := rfl
theorem itoa_len (x : Int) (h : In64 x) : (Go.Lib.itoa x).length ≤ 21 := by have := Go.Lib.itoa_length_le x h.1 h.2; omega
theorem spec_jobtext (k : Nat) (s : S47) (l : List S133) (at_ a b c : Int) (d : List Int) (spent : Int) (hl : l.length ≤ 1048576) (hs : ∀ x ∈ l, SmL x) (hd : d.length ≤ 1048576) (h1 : In64 at_) (h2 : In64 spent) (hk : 3400000 ≤ k) : spec_JobText.f k s.f0 s.f1 s.f2 l at_ a b c d spent = some (tx (jobT s l at_ a b c d spent)) := by
  unfold spec_JobText.f jobT
  refine st (spec_job k s l at_ a b c d spent hl hs hd hk) ?_
  by_cases q : jobOk s l at_ a b c d spent = true
  · have hn : In64 (l.length : Int) := ⟨by omega, by omega⟩
    have n1 := spec_num k at_ h1.1 h1.2 (by omega)
    have n2 := spec_num k (l.length : Int) hn.1 hn.2 (by omega)
    have n3 := spec_num k spent h2.1 h2.2 (by omega)
    have l1 := itoa_len at_ h1
    have l2 := itoa_len (l.length : Int) hn
    have l3 := itoa_len spent h2
    have hv : (if jobOk s l at_ a b c d spent = true then jobB at_ l.length spent else []) = jobB at_ l.length spent := if_pos q
    rw [hv]
    unfold jobB
    refine ifp q (st n1 (ifp (by rw [it_tx, tx_size]; omega) (st n2 ?_)))
    rw [b47_, b32_]
    simp only [it_tx, tx_append, tx_size, List.length_append, List.length_cons, List.length_nil]
    exact ifp (by omega) (ifp (by omega) (st n3 (by simp only [it_tx, tx_append, tx_size, List.length_append, List.length_cons, List.length_nil]; exact ifp (by omega) rfl)))
  · have hv : (if jobOk s l at_ a b c d spent = true then jobB at_ l.length spent else []) = [] := if_neg q
    rw [hv]
    exact ifn q rfl
theorem impl_jobtext (k : Nat) (s : S47) (l : List S133) (at_ a b c : Int) (d : List Int) (spent : Int) (hl : l.length ≤ 1048576) (hs : ∀ x ∈ l, SmL x) (hd : d.length ≤ 1048576) (h1 : In64 at_) (h2 : In64 spent) (hk : 3400000 ≤ k) : impl_JobText.f k s.f0 s.f1 s.f2 l at_ a b c d spent = some (tx (jobT s l at_ a b c d spent)) := by
  unfold impl_JobText.f jobT
  refine st (impl_job k s l at_ a b c d spent hl hs hd (by omega)) ?_
  by_cases q : jobOk s l at_ a b c d spent = true
  · have hn : In64 (l.length : Int) := ⟨by omega, by omega⟩
    have n1 := impl_num at_ h1.1 h1.2
    have n2 := impl_num (l.length : Int) hn.1 hn.2
    have n3 := impl_num spent h2.1 h2.2
    have l1 := itoa_len at_ h1
    have l2 := itoa_len (l.length : Int) hn
    have l3 := itoa_len spent h2
    have hv : (if jobOk s l at_ a b c d spent = true then jobB at_ l.length spent else []) = jobB at_ l.length spent := if_pos q
    rw [hv]
    unfold jobB
    refine ifp q (st n1 (ifp (by rw [it_tx, tx_size]; omega) (st n2 ?_)))
    rw [b47_, b32_]
    simp only [it_tx, tx_append, tx_size, List.length_append, List.length_cons, List.length_nil]
    exact ifp (by omega) (ifp (by omega) (st n3 (by simp only [it_tx, tx_append, tx_size, List.length_append, List.length_cons, List.length_nil]; exact ifp (by omega) rfl)))
  · have hv : (if jobOk s l at_ a b c d spent = true then jobB at_ l.length spent else []) = [] := if_neg q
    rw [hv]
    exact ifn q rfl

def ReqP (x : S57) : Prop := In64 x.f0 ∧ In64 x.f3 ∧ In64 x.f2.f1 ∧ In64 x.f2.f3 ∧ x.f2.f0.f1.length ≤ 1048576 ∧ (∀ y ∈ x.f2.f0.f1, SmL y) ∧ x.f2.f2.f1.length ≤ 1048576
def rqT (x : S57) : List UInt8 := jobT x.f2.f0.f0 x.f2.f0.f1 x.f2.f1 x.f2.f2.f0.f0 x.f2.f2.f0.f1 x.f2.f2.f0.f2 x.f2.f2.f1 x.f2.f3
def rqB (x : S57) : List UInt8 := Go.Lib.itoa x.f0 ++ [58] ++ rqT x ++ [32, 100, 117, 101, 32] ++ Go.Lib.itoa x.f3
def restQ (l : List S57) : List UInt8 := (l.map fun s => (44 :: 32 :: rqB s)).flatten
def queB (l : List S57) : List UInt8 := match l with | [] => [45] | x :: r => rqB x ++ restQ r
theorem b58_ : (⟨#[58]⟩ : ByteArray) = tx [58] := rfl
theorem bdue_ : (⟨#[32, 100, 117, 101, 32]⟩ : ByteArray) = tx [32, 100, 117, 101, 32] := rfl
theorem bsep_ : (⟨#[44, 32]⟩ : ByteArray) = tx [44, 32] := rfl
theorem rqT_len (x : S57) (h : ReqP x) : (rqT x).length ≤ 66 := by
  unfold rqT jobT
  obtain ⟨_, _, a, b, c, _, _⟩ := h
  split
  · unfold jobB
    have l1 := itoa_len _ a
    have l2 := itoa_len (x.f2.f0.f1.length : Int) ⟨by omega, by omega⟩
    have l3 := itoa_len _ b
    simp only [List.length_append, List.length_cons, List.length_nil]
    omega
  · simp
theorem rqB_len (x : S57) (h : ReqP x) : (rqB x).length ≤ 120 := by
  have l0 := rqT_len x h
  obtain ⟨a, b, _⟩ := h
  have l1 := itoa_len _ a
  have l2 := itoa_len _ b
  unfold rqB
  simp only [List.length_append, List.length_cons, List.length_nil]
  omega
theorem restQ_len : ∀ (l : List S57), (∀ x ∈ l, ReqP x) → (restQ l).length ≤ 122 * l.length
  | [], _ => by simp [restQ]
  | x :: r, h => by
    have h1 := restQ_len r (fun y hy => h y (List.mem_cons_of_mem _ hy))
    have h2 := rqB_len x (h x List.mem_cons_self)
    have e : restQ (x :: r) = (44 :: 32 :: rqB x) ++ restQ r := by simp [restQ]
    rw [e]
    simp only [List.length_append, List.length_cons]
    omega
theorem queB_len (l : List S57) (h : ∀ x ∈ l, ReqP x) : (queB l).length ≤ 122 * l.length + 1 := by
  cases l with
  | nil => simp [queB]
  | cons x r =>
    have h1 := restQ_len r (fun y hy => h y (List.mem_cons_of_mem _ hy))
    have h2 := rqB_len x (h x List.mem_cons_self)
    unfold queB
    simp only [List.length_append, List.length_cons]
    omega
theorem drop_atQ (l : List S57) (i : Nat) (h : i < l.length) : l.drop i = l.getD i z57 :: l.drop (i + 1) := by
  rw [List.drop_eq_getElem_cons h, List.getD_eq_getElem?_getD, List.getElem?_eq_getElem h]
  rfl
theorem spec_que1 (k : Nat) (a b c : Int) (ts : List S111) (d e f g : Int) (ms : List S50) (bs : List Bool) (l : List S57) (i : Nat) (s : List UInt8) (hi : i < l.length) (ho : ReqP (l.getD i z57)) (hk : 3400000 ≤ k) (hs : s.length ≤ 1000000000) (hl : l.length ≤ 1048576) :
    spec_QueueText.j1 (k + 1) (tx s) (i : Int) a b c ts d e f g ms bs l = spec_QueueText.l0 k (tx (s ++ rqB (l.getD i z57))) ((i + 1 : Nat) : Int) a b c ts d e f g ms bs l := by
  simp only [spec_QueueText.j1, rd_T57, Int.toNat_natCast]
  generalize l.getD i z57 = x at ho ⊢
  have l3 := rqT_len x ho
  have hj := ho
  obtain ⟨h1, h2, h3, h4, h5, h6, h7⟩ := hj
  have l0 := itoa_len _ h1; have l1 := itoa_len _ h2
  have J : spec_JobText.f k x.f2.f0.f0.f0 x.f2.f0.f0.f1 x.f2.f0.f0.f2 x.f2.f0.f1 x.f2.f1 x.f2.f2.f0.f0 x.f2.f2.f0.f1 x.f2.f2.f0.f2 x.f2.f2.f1 x.f2.f3 = some (tx (rqT x)) := spec_jobtext k x.f2.f0.f0 x.f2.f0.f1 x.f2.f1 x.f2.f2.f0.f0 x.f2.f2.f0.f1 x.f2.f2.f0.f2 x.f2.f2.f1 x.f2.f3 h5 h6 h7 h3 h4 hk
  have N1 := spec_num k x.f0 h1.1 h1.2 (by omega)
  have N2 := spec_num k x.f3 h2.1 h2.2 (by omega)
  refine ifp (by omega) (ifp (by omega) (st N1 ?_))
  simp only [it_tx, b58_, bdue_, tx_append, tx_size]
  refine ifp (by omega) (ifp (by simp only [List.length_append]; omega) (st J ?_))
  simp only [tx_append, tx_size]
  refine ifp (by simp only [List.length_append, List.length_cons, List.length_nil]; omega) (ifp (by simp only [List.length_append, List.length_cons, List.length_nil]; omega) (st N2 ?_))
  simp only [it_tx, tx_append, tx_size]
  refine ifp (by simp only [List.length_append, List.length_cons, List.length_nil]; omega) ?_
  rw [w64_succ i (by omega)]
  simp only [rqB, List.append_assoc]
theorem spec_que_l0 (a b c : Int) (ts : List S111) (d e f g : Int) (ms : List S50) (bs : List Bool) (l : List S57) (hl : l.length ≤ 1048576) (ho : ∀ x ∈ l, ReqP x) : ∀ (n k i : Nat) (s : List UInt8), i + n = l.length → 2 * n + 3400010 < k → 1 ≤ i → s.length ≤ 130 * i →
    spec_QueueText.l0 k (tx s) (i : Int) a b c ts d e f g ms bs l = some (tx (s ++ restQ (l.drop i))) := by
  intro n
  induction n with
  | zero =>
    intro k i s hi hk h1 hs
    obtain ⟨k, rfl⟩ : ∃ m, k = m + 1 := ⟨k - 1, by omega⟩
    rw [spec_QueueText.l0, List.drop_eq_nil_of_le (by omega)]
    refine ifn (by omega) (ifn (by omega) ?_)
    simp [restQ]
  | succ n ih =>
    intro k i s hi hk h1 hs
    obtain ⟨k, rfl⟩ : ∃ m, k = m + 2 := ⟨k - 2, by omega⟩
    have hx := ho _ (mem_getD l z57 i (by omega))
    have h2 := rqB_len _ hx
    rw [spec_QueueText.l0]
    refine ifp (by omega) (ifp (by omega) (ifp (by rw [tx_size]; omega) ?_))
    rw [bsep_, tx_append, spec_que1 k a b c ts d e f g ms bs l i (s ++ [44, 32]) (by omega) hx (by omega) (by simp only [List.length_append, List.length_cons, List.length_nil]; omega) hl,
      ih k (i + 1) _ (by omega) (by omega) (by omega) (by simp only [List.length_append, List.length_cons, List.length_nil]; omega), drop_atQ l i (by omega)]
    simp [restQ]
theorem spec_que (k : Nat) (a b c : Int) (ts : List S111) (d e f g : Int) (ms : List S50) (bs : List Bool) (l : List S57) (hl : l.length ≤ 1048576) (ho : ∀ x ∈ l, ReqP x) (hk : 10000000 ≤ k) : spec_QueueText.f k a b c ts d e f g ms bs l = some (tx (queB l)) := by
  unfold spec_QueueText.f
  obtain ⟨k, rfl⟩ : ∃ m, k = m + 2 := ⟨k - 2, by omega⟩
  rw [spec_QueueText.l0]
  cases l with
  | nil => exact ifn (by simp) (ifp (by simp) rfl)
  | cons x r =>
    refine ifp (by simp only [List.length_cons]; omega) (ifn (by omega) ?_)
    have hx := ho x (by simp)
    have h2 := rqB_len _ hx
    have e1 := spec_que1 k a b c ts d e f g ms bs (x :: r) 0 [] (by simp) hx (by omega) (by simp) hl
    have e2 := spec_que_l0 a b c ts d e f g ms bs (x :: r) hl ho r.length k 1 (rqB x) (by simp only [List.length_cons]; omega) (by simp only [List.length_cons] at hl; omega) (by omega) (by omega)
    exact e1.trans (e2.trans rfl)
theorem impl_que_l0 (l : List S57) (hl : l.length ≤ 1048576) (ho : ∀ x ∈ l, ReqP x) : ∀ (d k i : Nat) (y : List ByteArray), i + d = l.length → d + 3400010 < k → y.length = i → 0 < l.length →
    impl_QueueText.l0 k y l (l.length : Int) (i : Int) = (strings_Join.f (y ++ (l.drop i).map fun s => tx (rqB s)) (⟨#[44, 32]⟩ : ByteArray)).bind fun t => some t := by
  intro d
  induction d with
  | zero =>
    intro k i y hi hk hy h0
    obtain ⟨k, rfl⟩ : ∃ m, k = m + 1 := ⟨k - 1, by omega⟩
    rw [impl_QueueText.l0, List.drop_eq_nil_of_le (by omega)]
    refine ifn (by omega) (ifn (by omega) ?_)
    simp
  | succ d ih =>
    intro k i y hi hk hy h0
    obtain ⟨k, rfl⟩ : ∃ m, k = m + 1 := ⟨k - 1, by omega⟩
    have hx := ho _ (mem_getD l z57 i (by omega))
    rw [drop_atQ l i (by omega)]
    simp only [impl_QueueText.l0, rd_T57, Int.toNat_natCast]
    have e : y ++ (l.getD i z57 :: l.drop (i + 1)).map (fun s => tx (rqB s)) = (y ++ [tx (rqB (l.getD i z57))]) ++ (l.drop (i + 1)).map (fun s => tx (rqB s)) := by simp
    rw [e]
    generalize l.getD i z57 = x at hx ⊢
    have l3 := rqT_len x hx
    obtain ⟨h1, h2, h3, h4, h5, h6, h7⟩ := hx
    have l0 := itoa_len _ h1; have l1 := itoa_len _ h2
    have J : impl_JobText.f k x.f2.f0.f0.f0 x.f2.f0.f0.f1 x.f2.f0.f0.f2 x.f2.f0.f1 x.f2.f1 x.f2.f2.f0.f0 x.f2.f2.f0.f1 x.f2.f2.f0.f2 x.f2.f2.f1 x.f2.f3 = some (tx (rqT x)) := impl_jobtext k x.f2.f0.f0 x.f2.f0.f1 x.f2.f1 x.f2.f2.f0.f0 x.f2.f2.f0.f1 x.f2.f2.f0.f2 x.f2.f2.f1 x.f2.f3 h5 h6 h7 h3 h4 (by omega)
    have N1 := impl_num x.f0 h1.1 h1.2
    have N2 := impl_num x.f3 h2.1 h2.2
    refine ifp (by omega) (ifp (by omega) (ifp (by omega) (st N1 ?_)))
    simp only [it_tx, b58_, bdue_, tx_append, tx_size]
    refine ifp (by omega) (st J ?_)
    simp only [tx_append, tx_size]
    refine ifp (by simp only [List.length_append, List.length_cons, List.length_nil]; omega) (ifp (by simp only [List.length_append, List.length_cons, List.length_nil]; omega) (st N2 ?_))
    simp only [it_tx, tx_append, tx_size]
    refine ifp (by simp only [List.length_append, List.length_cons, List.length_nil]; omega) (ifp (by omega) ?_)
    rw [w64_succ i (by omega)]
    refine (ih k (i + 1) _ (by omega) (by omega) (by simp [hy]) h0).trans ?_
    simp only [rqB, List.append_assoc]
theorem join_que (x : S57) (r : List S57) : joinS ((x :: r).map fun s => tx (rqB s)) (⟨#[44, 32]⟩ : ByteArray) = tx (queB (x :: r)) := by
  unfold joinS queB
  simp only [List.map_cons, Go.Lib.join_cons, Go.Lib.joinTail, List.map_map, restQ, tx]
  rfl
theorem impl_que (k : Nat) (a b c : Int) (ts : List S111) (d e f g : Int) (ms : List S50) (bs : List Bool) (l : List S57) (hl : l.length ≤ 1048576) (ho : ∀ x ∈ l, ReqP x) (hk : 10000000 ≤ k) : impl_QueueText.f k a b c ts d e f g ms bs l = some (tx (queB l)) := by
  unfold impl_QueueText.f
  cases l with
  | nil =>
    obtain ⟨k, rfl⟩ : ∃ m, k = m + 1 := ⟨k - 1, by omega⟩
    rw [impl_QueueText.l0]
    exact ifn (by simp) (ifp (by simp) rfl)
  | cons x r =>
    have h := impl_que_l0 (x :: r) hl ho (x :: r).length k 0 [] (by omega) (by omega) rfl (by simp)
    refine h.trans ?_
    have hb := queB_len (x :: r) ho
    rw [List.drop_zero, List.nil_append]
    unfold strings_Join.f
    rw [join_que, if_pos (by rw [List.length_map]; omega), if_pos (by rw [tx_size]; omega)]
    rfl


theorem FnExactQueueText : laws_FnExactQueueText.Pure := by
  intro a b c ts d e f g ms bs l _ _ _ hts _ _ _ _ hms hbs hl
  obtain ⟨k, hk⟩ : ∃ k : Nat, 1000000000 ≤ k := ⟨_, Nat.le_refl _⟩
  refine ⟨k, ?_⟩
  unfold laws_FnExactQueueText.f

  obtain ⟨z, e1, hz⟩ := szRuntime_ k a b c ts d e f g ms bs l 1048576 hts hms hbs hl (by omega) (by omega) (by omega)
  rw [e1]; simp only [Option.bind_some]; clear e1
  rcases hz with hz | ⟨z0, z1, ot, om, ob, ol⟩
  · rw [if_pos hz]
  rw [if_neg (by omega)]
  have ot2 : LB Ok111 (ts.map cv102_111) := ot.map ok_cv102_111
  have om2 : LB Ok50 (ms.map cv75_50) := om.map ok_cv75_50
  have ol2 : LB Ok57 (l.map cv82_57) := ol.map ok_cv82_57
  have hr : ∀ x ∈ l.map cv82_57, ReqP x := fun x hx => by
    obtain ⟨y, hy, rfl⟩ := List.mem_map.1 hx
    obtain ⟨w1, _, w3, w4⟩ := hl.2 y hy
    have o := ol2.2 _ hx
    exact ⟨WI.i64 w1, WI.i64 w4, WI.i64 w3.2.1, WI.i64 w3.2.2.2, o.1.1, fun q hq => ⟨(o.1.2 q hq).1.1, (o.1.2 q hq).2.1⟩, o.2.1⟩
  have e1 := spec_que k a b c (ts.map cv102_111) d e f g (ms.map cv75_50) bs (l.map cv82_57) ol2.1 hr (by omega)
  have e2 := impl_que k a b c (ts.map cv102_111) d e f g (ms.map cv75_50) bs (l.map cv82_57) ol2.1 hr (by omega)
  repeat (first
    | (refine st e1 ?_; (try dsimp only))
    | (refine st e2 ?_; (try dsimp only))
    | (refine st (toRuntime_ _ _ _ _ _ _ _ _ _ _ _ _ (by assumption) (by assumption) (by assumption) (by assumption) (by omega)) ?_; (try dsimp only))
    | (refine st (eqRuntime_ _ _ _ _ _ _ _ _ _ _ _ _ (by assumption) (by assumption) (by assumption) (by assumption) (by omega)) ?_; (try dsimp only))
    | refine ifp rfl ?_
    | refine ifn (by omega) ?_
    | refine ifp (by omega) ?_
    | refine ifn (by simp) ?_
    | refine ifp (by simp) ?_
    | rfl)

end Go.Proofs.YtemnodpabflkoaaGreatDoor.Pure
