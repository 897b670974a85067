/- What is left of the statement FnExactLoadsOf once the Go functions are Lean functions: the program's LoadsOf and the reference's answer alike. No condition. -/
import Derived.Test.YtecnioodkihceaaQFnExactLoadsOfx3
import Derived.Test.YtecnioodkihceaaAid
set_option linter.unusedVariables false
set_option linter.unusedSimpArgs false
namespace Go.Proofs.Ytecnioodkihceaa.Pure
open Go.RowKit Go.Proofs.Ytecnioodkihceaa.QFnExactLoadsOf Go.Proofs.YtecnioodkihceaaW.PrintWords Go.Proofs.YtecnioodkihceaaW.PrintLast Go.Proofs.YtecnioodkihceaaW.PrintMore Go.Proofs.YtecnioodkihceaaW.Aid


theorem spec_in (x lo hi : Int) : spec_l01In.f x lo hi = some (decide (lo ≤ x ∧ x ≤ hi)) := by
  unfold spec_l01In.f
  split
  · simp_all
  · simp; omega
theorem impl_in_ (x lo hi : Int) : impl_in.f x lo hi = some (decide (lo ≤ x ∧ x ≤ hi)) := by
  unfold impl_in.f
  split
  · simp_all
  · simp; omega

def LB {α : Type} (P : α → Prop) (l : List α) : Prop := l.length ≤ 1048576 ∧ ∀ x ∈ l, P x
theorem LB.map {α β : Type} {P : α → Prop} {Q : β → Prop} {f : α → β} {l : List α} (hf : ∀ x, P x → Q (f x)) (h : LB P l) : LB Q (l.map f) := ⟨by simpa using h.1, fun y hy => by obtain ⟨x, hx, rfl⟩ := List.mem_map.1 hy; exact hf x (h.2 x hx)⟩
theorem map_getD {α β : Type} (f : α → β) (l : List α) (i : Nat) (h : i < l.length) (d : α) (d' : β) : (l.map f).getD i d' = f (l.getD i d) := by simp [h]
def Ok55 (x : S55) : Prop := True
theorem szSlotS_ (l : List (S55)) (a : Int) (hw : WL Wt55 l) (h0 : 0 ≤ a) (h1 : a ≤ 1048576) : ∃ r, laws_szSlotS.f l a = some r ∧ (r < 0 ∨ (0 ≤ r ∧ r ≤ a ∧ LB Ok55 l)) := by
  have hm : l.length ≤ 9223372036854775807 := hw.1
  have he : wrap64 (a - (l.length : Int)) = a - l.length := w64 (by omega) (by omega)
  unfold laws_szSlotS.f
  rw [he]
  by_cases h : a - (l.length : Int) < 0
  · exact ⟨-1, if_pos h, Or.inl (by omega)⟩
  · rw [if_neg h]
    exact ⟨_, rfl, Or.inr ⟨by omega, by omega, by omega, fun _ _ => trivial⟩⟩
theorem toSlot_ (a0_0 : Int) (a0_1 : Int) (a0_2 : Int) (a0_3 : Int) : laws_toSlot.f a0_0 a0_1 a0_2 a0_3 = some (a0_0, a0_1, a0_2, a0_3) := by
  unfold laws_toSlot.f
  repeat (first | refine ifp rfl ?_ | refine ifp (by omega) ?_ | refine ifp (by simp) ?_ | refine ifn (by simp) ?_ | rfl)
def cv55_53 (x : S55) : S53 := ⟨x.f0, x.f1, x.f2, x.f3⟩
def Ok53 (x : S53) : Prop := True
theorem ok_cv55_53 (x : S55) (h : Ok55 x) : Ok53 (cv55_53 x) := trivial
theorem toSlotS_l0 (l : List (S55)) (ho : LB Ok55 l) : ∀ (d k i : Nat) (y : List (S53)), i + d = l.length → d + 0 < k → y.length = l.length → y.take i = (l.map cv55_53).take i → laws_toSlotS.l0 k l y (i : Int) = some (l.map cv55_53) := by
  have hm := ho.1
  have hc : (l.map cv55_53).length = l.length := by simp
  intro d
  induction d with
  | zero =>
    intro k i y hi hk hy ht
    obtain ⟨k, rfl⟩ : ∃ m, k = m + 1 := ⟨k - 1, by omega⟩
    simp only [laws_toSlotS.l0]
    rw [if_neg (by omega), take_full hy hc (by rw [show l.length = i by omega]; exact ht)]
  | succ d ih =>
    intro k i y hi hk hy ht
    obtain ⟨k, rfl⟩ : ∃ m, k = m + 1 := ⟨k - 1, by omega⟩
    have hx := ho.2 _ (mem_getD l z55 i (by omega))
    simp only [laws_toSlotS.l0, rd_L3, rd_T53, rd_T55, rd_natD, Int.toNat_natCast]
    repeat (first | (refine st (toSlot_ _ _ _ _) ?_; (try dsimp only)) | refine ifp rfl ?_ | refine ifp (by omega) ?_ | refine ifp (by simp) ?_ | refine ifn (by simp) ?_)
    rw [w64_succ i (by omega)]
    refine ih k (i + 1) _ (by omega) (by omega) (by simpa using hy) ?_
    rw [take_set_succ _ _ _ (by omega), ht, take_succ_getD (l.map cv55_53) z53 i (by omega), map_getD _ _ _ (by omega) z55]
    rfl
theorem toSlotS_ (k : Nat) (l : List (S55)) (ho : LB Ok55 l) (hk : 1048580 ≤ k) : laws_toSlotS.f k l = some (l.map cv55_53) := by
  have hm := ho.1
  unfold laws_toSlotS.f
  rw [if_pos (by omega), if_pos (by simp; omega)]
  exact toSlotS_l0 l ho l.length k 0 _ (by omega) (by omega) (by simp) (by simp)
theorem eqIntS_l0 (l : List (Int)) (ho : LB (fun _ => True) l) : ∀ (d k i : Nat), i + d = l.length → d + 0 < k → laws_eqIntS.l0 k l l (i : Int) = some true := by
  have hm := ho.1
  intro d
  induction d with
  | zero =>
    intro k i hi hk
    obtain ⟨k, rfl⟩ : ∃ m, k = m + 1 := ⟨k - 1, by omega⟩
    simp only [laws_eqIntS.l0]
    rw [if_neg (by omega)]
  | succ d ih =>
    intro k i hi hk
    obtain ⟨k, rfl⟩ : ∃ m, k = m + 1 := ⟨k - 1, by omega⟩
    have hx := ho.2 _ (mem_getD l 0 i (by omega))
    simp only [laws_eqIntS.l0, rd_L3, rd_T53, rd_T55, rd_natD, Int.toNat_natCast]
    repeat (first | refine ifp rfl ?_ | refine ifp (by omega) ?_ | refine ifp (by simp) ?_ | refine ifn (by simp) ?_)
    rw [w64_succ i (by omega)]
    exact ih k (i + 1) (by omega) (by omega)
theorem eqIntS_ (k : Nat) (l : List (Int)) (ho : LB (fun _ => True) l) (hk : 1048580 ≤ k) : laws_eqIntS.f k l l = some true := by
  have hm := ho.1
  unfold laws_eqIntS.f
  rw [if_pos rfl]
  exact eqIntS_l0 l ho l.length k 0 (by omega) (by omega)
theorem eqSlot_ (a0_0 : Int) (a0_1 : Int) (a0_2 : Int) (a0_3 : Int) : laws_eqSlot.f a0_0 a0_1 a0_2 a0_3 a0_0 a0_1 a0_2 a0_3 = some true := by
  unfold laws_eqSlot.f
  repeat (first | refine ifp rfl ?_ | refine ifp (by omega) ?_ | refine ifp (by simp) ?_ | refine ifn (by simp) ?_ | rfl)
theorem eqSlotS_l0 (l : List (S53)) (ho : LB Ok53 l) : ∀ (d k i : Nat), i + d = l.length → d + 0 < k → laws_eqSlotS.l0 k l l (i : Int) = some true := by
  have hm := ho.1
  intro d
  induction d with
  | zero =>
    intro k i hi hk
    obtain ⟨k, rfl⟩ : ∃ m, k = m + 1 := ⟨k - 1, by omega⟩
    simp only [laws_eqSlotS.l0]
    rw [if_neg (by omega)]
  | succ d ih =>
    intro k i hi hk
    obtain ⟨k, rfl⟩ : ∃ m, k = m + 1 := ⟨k - 1, by omega⟩
    have hx := ho.2 _ (mem_getD l z53 i (by omega))
    simp only [laws_eqSlotS.l0, rd_L3, rd_T53, rd_T55, rd_natD, Int.toNat_natCast]
    repeat (first | (refine st (eqSlot_ _ _ _ _) ?_; (try dsimp only)) | refine ifp rfl ?_ | refine ifp (by omega) ?_ | refine ifp (by simp) ?_ | refine ifn (by simp) ?_)
    rw [w64_succ i (by omega)]
    exact ih k (i + 1) (by omega) (by omega)
theorem eqSlotS_ (k : Nat) (l : List (S53)) (ho : LB Ok53 l) (hk : 1048580 ≤ k) : laws_eqSlotS.f k l l = some true := by
  have hm := ho.1
  unfold laws_eqSlotS.f
  rw [if_pos rfl]
  exact eqSlotS_l0 l ho l.length k 0 (by omega) (by omega)
theorem markSlotS_l0 : ∀ (d k i : Nat) (l : List (S53)) (m : Int), i + d = l.length → d < k → l.length ≤ 1048576 → 0 ≤ m → m + 4 * d ≤ 9000000000000000000 → ∃ r y, laws_markSlotS.l0 k l m (i : Int) = some (r, y) ∧ 0 ≤ r := by
  intro d
  induction d with
  | zero =>
    intro k i l m hi hk hl h0 h1
    obtain ⟨k, rfl⟩ : ∃ m, k = m + 1 := ⟨k - 1, by omega⟩
    exact ⟨m, l, by simp only [laws_markSlotS.l0]; rw [if_neg (by omega)], h0⟩
  | succ d ih =>
    intro k i l m hi hk hl h0 h1
    obtain ⟨k, rfl⟩ : ∃ m, k = m + 1 := ⟨k - 1, by omega⟩
    have q0 : wrap64 (m + 1) = m + 1 := w64 (by omega) (by omega)
    have q1 : wrap64 (m + 1 + 1) = m + 1 + 1 := w64 (by omega) (by omega)
    have q2 : wrap64 (m + 1 + 1 + 1) = m + 1 + 1 + 1 := w64 (by omega) (by omega)
    have q3 : wrap64 (m + 1 + 1 + 1 + 1) = m + 1 + 1 + 1 + 1 := w64 (by omega) (by omega)
    have c1 : (i : Int) < (l.length : Int) := by omega
    have c2 : (0 : Int) ≤ (i : Int) := by omega
    simp only [laws_markSlotS.l0, if_pos c1, if_pos c2, Option.bind_some, q0, q1, q2, q3, w64_succ i (by omega)]
    exact ih k (i + 1) _ _ (by simp; omega) (by omega) (by simp; omega) (by omega) (by omega)
theorem markSlotS_ (k : Nat) (l : List (S53)) (m : Int) (hl : l.length ≤ 1048576) (h0 : 0 ≤ m) (h1 : m ≤ 1000000000) (hk : 1048580 ≤ k) : ∃ r y, laws_markSlotS.f k l m = some (r, y) ∧ 0 ≤ r := markSlotS_l0 l.length k 0 l m (by omega) (by omega) hl h0 (by omega)

theorem markIntS_l0 (n : Nat) (m0 : Int) (h0 : 0 ≤ m0) (h1 : m0 + n ≤ 9223372036854775806) : ∀ (d k i : Nat) (x : List Int), i + d = n → d < k → x.length = n → x.take i = marks m0 i → laws_markIntS.l0 k x (m0 + i) (i : Int) = some (m0 + n, marks m0 n) := by
  intro d
  induction d with
  | zero =>
    intro k i x hi hk hx ht
    obtain ⟨k, rfl⟩ : ∃ m, k = m + 1 := ⟨k - 1, by omega⟩
    simp only [laws_markIntS.l0]
    rw [if_neg (by omega), show i = n by omega]
    rw [show i = n by omega, List.take_of_length_le (by omega)] at ht
    rw [ht]
  | succ d ih =>
    intro k i x hi hk hx ht
    obtain ⟨k, rfl⟩ : ∃ m, k = m + 1 := ⟨k - 1, by omega⟩
    simp only [laws_markIntS.l0]
    rw [if_pos (by omega), if_pos (by omega), w64_succ i (by omega), w64 (x := m0 + i + 1) (by omega) (by omega)]
    have := ih k (i + 1) (x.set i (m0 + i)) (by omega) (by omega) (by simpa using hx) (by rw [take_set_succ _ _ _ (by omega), ht, marks_snoc])
    rw [show m0 + ((i + 1 : Nat) : Int) = m0 + i + 1 by omega] at this
    simpa using this
theorem markIntS_ (k : Nat) (l : List Int) (m : Int) (hk : l.length < k) (h0 : 0 ≤ m) (h1 : m + l.length ≤ 9223372036854775806) : laws_markIntS.f k l m = some (m + l.length, marks m l.length) := by
  unfold laws_markIntS.f
  have := markIntS_l0 l.length m h0 h1 l.length k 0 l (by omega) hk rfl (by simp [marks])
  simpa using this
theorem heldIntS_l0 (n : Nat) (m0 : Int) (h0 : 0 ≤ m0) (h1 : m0 + n ≤ 9223372036854775806) : ∀ (d k i : Nat), i + d = n → d < k → laws_heldIntS.l0 k (marks m0 n) (m0 + i) (i : Int) = some (m0 + n) := by
  intro d
  induction d with
  | zero =>
    intro k i hi hk
    obtain ⟨k, rfl⟩ : ∃ m, k = m + 1 := ⟨k - 1, by omega⟩
    simp only [laws_heldIntS.l0]
    rw [if_neg (by rw [marks_length]; omega), show i = n by omega]
  | succ d ih =>
    intro k i hi hk
    obtain ⟨k, rfl⟩ : ∃ m, k = m + 1 := ⟨k - 1, by omega⟩
    simp only [laws_heldIntS.l0]
    rw [if_pos (by rw [marks_length]; omega), if_pos (by omega), rd_natD, marks_getD _ _ _ (by omega), if_pos rfl, w64_succ i (by omega), w64 (x := m0 + i + 1) (by omega) (by omega)]
    have := ih k (i + 1) (by omega) (by omega)
    rwa [show m0 + ((i + 1 : Nat) : Int) = m0 + i + 1 by omega] at this
theorem heldIntS_ (k : Nat) (n : Nat) (m : Int) (hk : n < k) (h0 : 0 ≤ m) (h1 : m + n ≤ 9223372036854775806) : laws_heldIntS.f k (marks m n) m = some (m + n) := by
  unfold laws_heldIntS.f
  have := heldIntS_l0 n m h0 h1 n k 0 (by omega) hk
  simpa using this

theorem eqIntS_vl (a : List Int) (hm : a.length ≤ 100000000) : ∀ (d k i : Nat), i + d = a.length → d < k → laws_eqIntS.l0 k a a (i : Int) = some true := by
  intro d
  induction d with
  | zero =>
    intro k i hi hk
    obtain ⟨k, rfl⟩ : ∃ m, k = m + 1 := ⟨k - 1, by omega⟩
    simp only [laws_eqIntS.l0]
    rw [if_neg (by omega)]
  | succ d ih =>
    intro k i hi hk
    obtain ⟨k, rfl⟩ : ∃ m, k = m + 1 := ⟨k - 1, by omega⟩
    simp only [laws_eqIntS.l0, w64_succ i (by omega)]
    exact ifp (by omega) (ifp (by omega) (ifp (by omega) (ifp trivial (ih k (i + 1) (by omega) (by omega)))))
theorem eqIntS_v (k : Nat) (a : List Int) (hm : a.length ≤ 100000000) (hk : a.length < k) : laws_eqIntS.f k a a = some true := by
  unfold laws_eqIntS.f
  exact ifp rfl (eqIntS_vl a hm a.length k 0 (by omega) hk)

theorem wrap_assoc (a b c : Int) : wrap64 (wrap64 (a + b) - c) = wrap64 (a + wrap64 (b - c)) := by unfold wrap64; omega
theorem loads_l0 (l : List S53) (w : Int) (hw : 1 ≤ w) (hw2 : w ≤ 6) (hm : l.length ≤ 1048576) : ∀ (d k i : Nat) (o : List Int), i + d = l.length → d < k → (o.length : Int) = w →
    ∃ r, spec_LoadsOf.l0 k l w o (i : Int) = some r ∧ impl_LoadsOf.l0 k w o l (l.length : Int) (i : Int) = some r ∧ (r.length : Int) = w := by
  intro d
  induction d with
  | zero =>
    intro k i o hi hk ho
    obtain ⟨k, rfl⟩ : ∃ m, k = m + 1 := ⟨k - 1, by omega⟩
    exact ⟨o, by simp only [spec_LoadsOf.l0]; rw [if_neg (by omega)], by simp only [impl_LoadsOf.l0]; rw [if_neg (by omega)], ho⟩
  | succ d ih =>
    intro k i o hi hk ho
    obtain ⟨k, rfl⟩ : ∃ m, k = m + 1 := ⟨k - 1, by omega⟩
    have hw1 : wrap64 (w - 1) = w - 1 := w64 (by omega) (by omega)
    simp only [spec_LoadsOf.l0, impl_LoadsOf.l0, spec_in, impl_in_, Option.bind_some, rd_T53, Int.toNat_natCast, hw1, w64_succ i (by omega)]
    by_cases c : 0 ≤ (l.getD i z53).f1 ∧ (l.getD i z53).f1 ≤ w - 1
    · obtain ⟨r, e1, e2, e3⟩ := ih k (i + 1) (o.set (l.getD i z53).f1.toNat (wrap64 (rd o (l.getD i z53).f1 + wrap64 ((l.getD i z53).f3 - (l.getD i z53).f2)))) (by omega) (by omega) (by simpa using ho)
      refine ⟨r, ifp (by omega) (ifp (by omega) (ifp (by simpa using c) (ifp c.1 (ifp (by omega) ?_)))), ifp (by omega) (ifp (by omega) (ifp (by omega) (ifp (by simpa using c) (ifp c.1 (ifp (by omega) ?_))))), e3⟩
      · rw [wrap_assoc]; exact e1
      · exact e2
    · obtain ⟨r, e1, e2, e3⟩ := ih k (i + 1) o (by omega) (by omega) ho
      exact ⟨r, ifp (by omega) (ifp (by omega) (ifn (by simpa using c) e1)), ifp (by omega) (ifp (by omega) (ifp (by omega) (ifn (by simpa using c) e2))), e3⟩
theorem loads (k : Nat) (l : List S53) (w : Int) (hm : l.length ≤ 1048576) (hk : 1048580 ≤ k) : ∃ r, spec_LoadsOf.f k l w = some r ∧ impl_LoadsOf.f k l w = some r ∧ r.length ≤ 6 := by
  unfold spec_LoadsOf.f impl_LoadsOf.f
  simp only [spec_in, impl_in_, Option.bind_some]
  by_cases c : 1 ≤ w ∧ w ≤ 6
  · obtain ⟨r, e1, e2, e3⟩ := loads_l0 l w c.1 c.2 hm l.length k 0 (List.replicate w.toNat 0) (by omega) (by omega) (by simp; omega)
    exact ⟨r, ifp (by simpa using c) (ifp (by omega) (ifp (by omega) e1)), ifp (by simpa using c) (ifp (by omega) (ifp (by omega) e2)), by omega⟩
  · exact ⟨[], ifn (by simpa using c) rfl, ifn (by simpa using c) rfl, by simp⟩


theorem FnExactLoadsOf : laws_FnExactLoadsOf.Pure := by
  intro l w hl _
  obtain ⟨k, hk⟩ : ∃ k : Nat, 1000000000 ≤ k := ⟨_, Nat.le_refl _⟩
  refine ⟨k + 1, ?_⟩
  unfold laws_FnExactLoadsOf.f
  obtain ⟨r, e, h⟩ := szSlotS_ l 1048576 hl (by omega) (by omega)
  rw [e]; simp only [Option.bind_some]; clear e
  rcases h with h | ⟨h0, h1, ho⟩
  · rw [if_pos h]
  rw [if_neg (by omega)]

  have ho2 : LB Ok53 (l.map cv55_53) := ho.map ok_cv55_53
  obtain ⟨v, e1, e2, hv⟩ := loads (k + 1) (l.map cv55_53) w ho2.1 (by omega)
  obtain ⟨v', e3, e4, hv'⟩ := loads k (l.map cv55_53) w ho2.1 (by omega)
  have hvv : v' = v := by
    have a := impl_LoadsOf.mono (l.map cv55_53) w k _ e4
    rw [e2] at a; exact (Option.some.inj a).symm
  subst hvv
  obtain ⟨rm, ym, em, hm⟩ := markSlotS_ (k + 1) (l.map cv55_53) 1 ho2.1 (by omega) (by omega) (by omega)
  repeat (first
    | (refine st e1 ?_; (try dsimp only))
    | (refine st e2 ?_; (try dsimp only))
    | (refine st e4 ?_; (try dsimp only))
    | (refine st (toSlotS_ _ _ (by assumption) (by omega)) ?_; (try dsimp only))
    | (refine st (eqSlotS_ _ _ (by assumption) (by omega)) ?_; (try dsimp only))
    | (refine st (markIntS_ _ _ _ (by omega) (by omega) (by omega)) ?_; (try dsimp only))
    | (refine st (heldIntS_ _ _ _ (by omega) (by omega) (by omega)) ?_; (try dsimp only))
    | (refine st em ?_; (try dsimp only))
    | (refine st (eqIntS_v _ _ (by omega) (by omega)) ?_; (try dsimp only))
    | rw [laws_FnExactLoadsOf.j0]
    | refine ifp rfl ?_
    | refine ifn (by omega) ?_
    | refine ifp (by omega) ?_
    | refine ifn (by simp) ?_
    | refine ifp (by simp) ?_
    | rfl)

end Go.Proofs.Ytecnioodkihceaa.Pure
