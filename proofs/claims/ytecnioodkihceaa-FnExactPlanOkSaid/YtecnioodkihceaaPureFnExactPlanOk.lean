/- What is left of the statement FnExactPlanOk once the Go functions are Lean functions: the program's PlanOk and the reference's answer alike. No condition. -/
import Derived.Test.YtecnioodkihceaaQFnExactPlanOkx6
import Derived.Test.YtecnioodkihceaaAid
set_option linter.unusedVariables false
set_option linter.unusedSimpArgs false
namespace Go.Proofs.Ytecnioodkihceaa.Pure
open Go.RowKit Go.Proofs.Ytecnioodkihceaa.QFnExactPlanOk Go.Proofs.YtecnioodkihceaaW.PrintWords Go.Proofs.YtecnioodkihceaaW.PrintLast Go.Proofs.YtecnioodkihceaaW.PrintMore Go.Proofs.YtecnioodkihceaaW.Aid


theorem spec_in (x lo hi : Int) : spec_l01In.f x lo hi = some (decide (lo ≤ x ∧ x ≤ hi)) := by
  unfold spec_l01In.f
  split
  · simp_all
  · simp; omega
theorem impl_in_ (x lo hi : Int) : impl_in.f x lo hi = some (decide (lo ≤ x ∧ x ≤ hi)) := by
  unfold impl_in.f
  split
  · simp_all
  · simp; omega

def LB {α : Type} (P : α → Prop) (l : List α) : Prop := l.length ≤ 1048576 ∧ ∀ x ∈ l, P x
theorem LB.map {α β : Type} {P : α → Prop} {Q : β → Prop} {f : α → β} {l : List α} (hf : ∀ x, P x → Q (f x)) (h : LB P l) : LB Q (l.map f) := ⟨by simpa using h.1, fun y hy => by obtain ⟨x, hx, rfl⟩ := List.mem_map.1 hy; exact hf x (h.2 x hx)⟩
theorem map_getD {α β : Type} (f : α → β) (l : List α) (i : Nat) (h : i < l.length) (d : α) (d' : β) : (l.map f).getD i d' = f (l.getD i d) := by simp [h]
def Ok55 (x : S55) : Prop := True
theorem szSlotS_ (l : List (S55)) (a : Int) (hw : WL Wt55 l) (h0 : 0 ≤ a) (h1 : a ≤ 1048576) : ∃ r, laws_szSlotS.f l a = some r ∧ (r < 0 ∨ (0 ≤ r ∧ r ≤ a ∧ LB Ok55 l)) := by
  have hm : l.length ≤ 9223372036854775807 := hw.1
  have he : wrap64 (a - (l.length : Int)) = a - l.length := w64 (by omega) (by omega)
  unfold laws_szSlotS.f
  rw [he]
  by_cases h : a - (l.length : Int) < 0
  · exact ⟨-1, if_pos h, Or.inl (by omega)⟩
  · rw [if_neg h]
    exact ⟨_, rfl, Or.inr ⟨by omega, by omega, by omega, fun _ _ => trivial⟩⟩
theorem toIntS_l0 (l : List (Int)) (ho : LB (fun _ => True) l) : ∀ (d k i : Nat) (y : List (Int)), i + d = l.length → d + 0 < k → y.length = l.length → y.take i = l.take i → laws_toIntS.l0 k l y (i : Int) = some l := by
  have hm := ho.1
  have hc : l.length = l.length := by rfl
  intro d
  induction d with
  | zero =>
    intro k i y hi hk hy ht
    obtain ⟨k, rfl⟩ : ∃ m, k = m + 1 := ⟨k - 1, by omega⟩
    simp only [laws_toIntS.l0]
    rw [if_neg (by omega), take_full hy hc (by rw [show l.length = i by omega]; exact ht)]
  | succ d ih =>
    intro k i y hi hk hy ht
    obtain ⟨k, rfl⟩ : ∃ m, k = m + 1 := ⟨k - 1, by omega⟩
    have hx := ho.2 _ (mem_getD l 0 i (by omega))
    simp only [laws_toIntS.l0, rd_L3, rd_L4, rd_T53, rd_T55, rd_natD, Int.toNat_natCast]
    repeat (first | refine ifp rfl ?_ | refine ifp (by omega) ?_ | refine ifp (by simp) ?_ | refine ifn (by simp) ?_)
    rw [w64_succ i (by omega)]
    refine ih k (i + 1) _ (by omega) (by omega) (by simpa using hy) ?_
    rw [take_set_succ _ _ _ (by omega), ht, take_succ_getD l 0 i (by omega)]
theorem toIntS_ (k : Nat) (l : List (Int)) (ho : LB (fun _ => True) l) (hk : 1048580 ≤ k) : laws_toIntS.f k l = some l := by
  have hm := ho.1
  unfold laws_toIntS.f
  rw [if_pos (by omega), if_pos (by simp; omega)]
  exact toIntS_l0 l ho l.length k 0 _ (by omega) (by omega) (by simp) (by simp)
theorem toSlot_ (a0_0 : Int) (a0_1 : Int) (a0_2 : Int) (a0_3 : Int) : laws_toSlot.f a0_0 a0_1 a0_2 a0_3 = some (a0_0, a0_1, a0_2, a0_3) := by
  unfold laws_toSlot.f
  repeat (first | refine ifp rfl ?_ | refine ifp (by omega) ?_ | refine ifp (by simp) ?_ | refine ifn (by simp) ?_ | rfl)
def cv55_53 (x : S55) : S53 := ⟨x.f0, x.f1, x.f2, x.f3⟩
def Ok53 (x : S53) : Prop := True
theorem ok_cv55_53 (x : S55) (h : Ok55 x) : Ok53 (cv55_53 x) := trivial
theorem toSlotS_l0 (l : List (S55)) (ho : LB Ok55 l) : ∀ (d k i : Nat) (y : List (S53)), i + d = l.length → d + 0 < k → y.length = l.length → y.take i = (l.map cv55_53).take i → laws_toSlotS.l0 k l y (i : Int) = some (l.map cv55_53) := by
  have hm := ho.1
  have hc : (l.map cv55_53).length = l.length := by simp
  intro d
  induction d with
  | zero =>
    intro k i y hi hk hy ht
    obtain ⟨k, rfl⟩ : ∃ m, k = m + 1 := ⟨k - 1, by omega⟩
    simp only [laws_toSlotS.l0]
    rw [if_neg (by omega), take_full hy hc (by rw [show l.length = i by omega]; exact ht)]
  | succ d ih =>
    intro k i y hi hk hy ht
    obtain ⟨k, rfl⟩ : ∃ m, k = m + 1 := ⟨k - 1, by omega⟩
    have hx := ho.2 _ (mem_getD l z55 i (by omega))
    simp only [laws_toSlotS.l0, rd_L3, rd_L4, rd_T53, rd_T55, rd_natD, Int.toNat_natCast]
    repeat (first | (refine st (toSlot_ _ _ _ _) ?_; (try dsimp only)) | refine ifp rfl ?_ | refine ifp (by omega) ?_ | refine ifp (by simp) ?_ | refine ifn (by simp) ?_)
    rw [w64_succ i (by omega)]
    refine ih k (i + 1) _ (by omega) (by omega) (by simpa using hy) ?_
    rw [take_set_succ _ _ _ (by omega), ht, take_succ_getD (l.map cv55_53) z53 i (by omega), map_getD _ _ _ (by omega) z55]
    rfl
theorem toSlotS_ (k : Nat) (l : List (S55)) (ho : LB Ok55 l) (hk : 1048580 ≤ k) : laws_toSlotS.f k l = some (l.map cv55_53) := by
  have hm := ho.1
  unfold laws_toSlotS.f
  rw [if_pos (by omega), if_pos (by simp; omega)]
  exact toSlotS_l0 l ho l.length k 0 _ (by omega) (by omega) (by simp) (by simp)
theorem eqIntS_l0 (l : List (Int)) (ho : LB (fun _ => True) l) : ∀ (d k i : Nat), i + d = l.length → d + 0 < k → laws_eqIntS.l0 k l l (i : Int) = some true := by
  have hm := ho.1
  intro d
  induction d with
  | zero =>
    intro k i hi hk
    obtain ⟨k, rfl⟩ : ∃ m, k = m + 1 := ⟨k - 1, by omega⟩
    simp only [laws_eqIntS.l0]
    rw [if_neg (by omega)]
  | succ d ih =>
    intro k i hi hk
    obtain ⟨k, rfl⟩ : ∃ m, k = m + 1 := ⟨k - 1, by omega⟩
    have hx := ho.2 _ (mem_getD l 0 i (by omega))
    simp only [laws_eqIntS.l0, rd_L3, rd_L4, rd_T53, rd_T55, rd_natD, Int.toNat_natCast]
    repeat (first | refine ifp rfl ?_ | refine ifp (by omega) ?_ | refine ifp (by simp) ?_ | refine ifn (by simp) ?_)
    rw [w64_succ i (by omega)]
    exact ih k (i + 1) (by omega) (by omega)
theorem eqIntS_ (k : Nat) (l : List (Int)) (ho : LB (fun _ => True) l) (hk : 1048580 ≤ k) : laws_eqIntS.f k l l = some true := by
  have hm := ho.1
  unfold laws_eqIntS.f
  rw [if_pos rfl]
  exact eqIntS_l0 l ho l.length k 0 (by omega) (by omega)
theorem eqSlot_ (a0_0 : Int) (a0_1 : Int) (a0_2 : Int) (a0_3 : Int) : laws_eqSlot.f a0_0 a0_1 a0_2 a0_3 a0_0 a0_1 a0_2 a0_3 = some true := by
  unfold laws_eqSlot.f
  repeat (first | refine ifp rfl ?_ | refine ifp (by omega) ?_ | refine ifp (by simp) ?_ | refine ifn (by simp) ?_ | rfl)
theorem eqSlotS_l0 (l : List (S53)) (ho : LB Ok53 l) : ∀ (d k i : Nat), i + d = l.length → d + 0 < k → laws_eqSlotS.l0 k l l (i : Int) = some true := by
  have hm := ho.1
  intro d
  induction d with
  | zero =>
    intro k i hi hk
    obtain ⟨k, rfl⟩ : ∃ m, k = m + 1 := ⟨k - 1, by omega⟩
    simp only [laws_eqSlotS.l0]
    rw [if_neg (by omega)]
  | succ d ih =>
    intro k i hi hk
    obtain ⟨k, rfl⟩ : ∃ m, k = m + 1 := ⟨k - 1, by omega⟩
    have hx := ho.2 _ (mem_getD l z53 i (by omega))
    simp only [laws_eqSlotS.l0, rd_L3, rd_L4, rd_T53, rd_T55, rd_natD, Int.toNat_natCast]
    repeat (first | (refine st (eqSlot_ _ _ _ _) ?_; (try dsimp only)) | refine ifp rfl ?_ | refine ifp (by omega) ?_ | refine ifp (by simp) ?_ | refine ifn (by simp) ?_)
    rw [w64_succ i (by omega)]
    exact ih k (i + 1) (by omega) (by omega)
theorem eqSlotS_ (k : Nat) (l : List (S53)) (ho : LB Ok53 l) (hk : 1048580 ≤ k) : laws_eqSlotS.f k l l = some true := by
  have hm := ho.1
  unfold laws_eqSlotS.f
  rw [if_pos rfl]
  exact eqSlotS_l0 l ho l.length k 0 (by omega) (by omega)

def isJ (x : Int) : Bool := decide (1 ≤ x ∧ x ≤ 1000)
def jOk (l : List Int) : Bool := decide (l.length ≤ 40) && l.all isJ
theorem all_dropJ (l : List Int) (i : Nat) (h : i < l.length) : (l.drop i).all isJ = (isJ (l.getD i 0) && (l.drop (i + 1)).all isJ) := by
  rw [drop_getD l 0 i h]; rfl
theorem spec_jOk_l0 (l : List Int) (hm : l.length ≤ 1048576) : ∀ (d k i : Nat), i + d = l.length → d < k → spec_JobsOk.l0 k l (i : Int) = some ((l.drop i).all isJ) := by
  intro d
  induction d with
  | zero =>
    intro k i hi hk
    obtain ⟨k, rfl⟩ : ∃ m, k = m + 1 := ⟨k - 1, by omega⟩
    simp only [spec_JobsOk.l0]
    rw [if_neg (by omega), List.drop_of_length_le (by omega)]
    rfl
  | succ d ih =>
    intro k i hi hk
    obtain ⟨k, rfl⟩ : ∃ m, k = m + 1 := ⟨k - 1, by omega⟩
    simp only [spec_JobsOk.l0]
    rw [if_pos (by omega), if_pos (by omega), all_dropJ l i (by omega), w64_succ i (by omega), ih k (i + 1) (by omega) (by omega), spec_in, rd_natD]
    simp only [Option.bind_some]
    cases h : isJ (l.getD i 0) with
    | false => rw [if_neg (by simpa [isJ] using h)]; rfl
    | true => rw [if_pos (by simpa [isJ] using h)]; rfl
theorem spec_jOk (k : Nat) (l : List Int) (hm : l.length ≤ 1048576) (hk : l.length < k) : spec_JobsOk.f k l = some (jOk l) := by
  unfold spec_JobsOk.f jOk
  by_cases h : (l.length : Int) > 40
  · rw [if_pos h]
    have : ¬ l.length ≤ 40 := by omega
    simp [this]
  · rw [if_neg h]
    have h' : l.length ≤ 40 := by omega
    have := spec_jOk_l0 l hm l.length k 0 (by omega) hk
    simpa [h'] using this
theorem jidx_l0 (l : List Int) (hm : l.length ≤ 1048576) : ∀ (d k i : Nat), i + d = l.length → d < k →
    ∃ r, slices_IndexFunc_int_int_at_49.l0 k l (l.length : Int) (i : Int) = some r ∧ (0 ≤ r ↔ (l.drop i).all isJ = false) := by
  intro d
  induction d with
  | zero =>
    intro k i hi hk
    obtain ⟨k, rfl⟩ : ∃ m, k = m + 1 := ⟨k - 1, by omega⟩
    simp only [slices_IndexFunc_int_int_at_49.l0]
    rw [if_neg (by omega), List.drop_of_length_le (by omega)]
    exact ⟨-1, rfl, by simp⟩
  | succ d ih =>
    intro k i hi hk
    obtain ⟨k, rfl⟩ : ∃ m, k = m + 1 := ⟨k - 1, by omega⟩
    simp only [slices_IndexFunc_int_int_at_49.l0]
    rw [if_pos (by omega), if_pos (by omega), if_pos (by omega), all_dropJ l i (by omega)]
    unfold impl_JobsOk_1.f
    simp only [impl_in_, Option.bind_some, rd_natD]
    cases hr : isJ (l.getD i 0) with
    | false =>
      have : ¬ (1 ≤ l.getD i 0 ∧ l.getD i 0 ≤ 1000) := by simpa [isJ] using hr
      exact ⟨i, by simp only [this]; simp, by simp⟩
    | true =>
      have : (1 ≤ l.getD i 0 ∧ l.getD i 0 ≤ 1000) := by simpa [isJ] using hr
      obtain ⟨r, h1, h2⟩ := ih k (i + 1) (by omega) (by omega)
      refine ⟨r, ?_, by simpa using h2⟩
      rw [w64_succ i (by omega)]
      simp only [this, and_self]
      simpa using h1
theorem impl_jOk (k : Nat) (l : List Int) (hm : l.length ≤ 1048576) (hk : l.length < k) : impl_JobsOk.f k l = some (jOk l) := by
  obtain ⟨r, h1, h2⟩ := jidx_l0 l hm l.length k 0 (by omega) hk
  have h1' : slices_IndexFunc_int_int_at_49.f k l = some r := h1
  unfold impl_JobsOk.f slices_ContainsFunc_int_int_at_49.f jOk
  rw [h1']
  rw [List.drop_zero] at h2
  simp only [Option.bind_some]
  by_cases h : (l.length : Int) ≤ 40
  · rw [if_pos h]
    have h' : l.length ≤ 40 := by omega
    cases ha : l.all isJ with
    | false => rw [ha] at h2; have := h2.2 rfl; simp [this]
    | true => rw [ha] at h2; have : ¬ 0 ≤ r := fun z => absurd (h2.1 z) (by simp); simp [h']; omega
  · rw [if_neg h]
    have h' : ¬ l.length ≤ 40 := by omega
    simp [h']

def badS (s : S53) (a b c d : Int) : Bool := decide (s.f0 = a ∨ (s.f1 = b ∧ s.f2 < d ∧ c < s.f3))
def anyB (l : List S53) (a b c d : Int) : Nat → Nat → Bool
  | _, 0 => false
  | j, n + 1 => badS (l.getD j z53) a b c d || anyB l a b c d (j + 1) n
theorem spec_inn (jobs : List Int) (w : Int) (l : List S53) (i : Nat) (hi : i < l.length) (hm : l.length ≤ 40) (a b c d : Int) (K : Nat) : ∀ (n k j : Nat), j + n = i → K + 2 * n + 2 ≤ k →
    ∃ k', K ≤ k' ∧ spec_PlanOk.l1 k jobs w l (i : Int) (j : Int) a b c d = if anyB l a b c d j n = true then some false else spec_PlanOk.l0 k' jobs w l ((i + 1 : Nat) : Int) := by
  intro n
  induction n with
  | zero =>
    intro k j hj hk
    obtain ⟨k, rfl⟩ : ∃ m, k = m + 1 := ⟨k - 1, by omega⟩
    refine ⟨k, by omega, ?_⟩
    rw [spec_PlanOk.l1, w64_succ i (by omega)]
    exact ifn (by omega) rfl
  | succ n ih =>
    intro k j hj hk
    obtain ⟨k, rfl⟩ : ∃ m, k = m + 1 + 1 := ⟨k - 2, by omega⟩
    have tail : ∀ x : Bool, x = badS (l.getD j z53) a b c d → ∃ k', K ≤ k' ∧ spec_PlanOk.j4 (k + 1) jobs w l (i : Int) (j : Int) x a b c d = if anyB l a b c d j (n + 1) = true then some false else spec_PlanOk.l0 k' jobs w l ((i + 1 : Nat) : Int) := by
      intro x hx
      rw [spec_PlanOk.j4, w64_succ j (by omega)]
      by_cases q : x = true
      · exact ⟨K, Nat.le_refl _, by rw [if_pos q, if_pos (by simp only [anyB, ← hx, q, Bool.true_or])]⟩
      · obtain ⟨k', h1, h2⟩ := ih k (j + 1) (by omega) (by omega)
        refine ⟨k', h1, ?_⟩
        have qf : x = false := by simpa using q
        rw [if_neg q, h2]
        simp only [anyB, ← hx, qf, Bool.false_or]
    rw [spec_PlanOk.l1]
    simp only [rd_T53, Int.toNat_natCast]
    by_cases c1 : (l.getD j z53).f0 = a
    · obtain ⟨k', h1, h2⟩ := tail true (by rw [badS, decide_eq_true (Or.inl c1)])
      exact ⟨k', h1, ifp (by omega) (ifp (by omega) (ifp (by omega) (ifp c1 h2)))⟩
    · by_cases c2 : (l.getD j z53).f1 = b
      · by_cases c3 : (l.getD j z53).f2 < d
        · obtain ⟨k', h1, h2⟩ := tail (decide (c < (l.getD j z53).f3)) (decide_eq_decide.2 ⟨fun h => .inr ⟨c2, c3, h⟩, fun h => (h.resolve_left c1).2.2⟩)
          exact ⟨k', h1, ifp (by omega) (ifp (by omega) (ifp (by omega) (ifn c1 (ifp c2 (ifp c3 h2)))))⟩
        · obtain ⟨k', h1, h2⟩ := tail false (by rw [badS, decide_eq_false (fun h => c3 (h.resolve_left c1).2.1)])
          exact ⟨k', h1, ifp (by omega) (ifp (by omega) (ifp (by omega) (ifn c1 (ifp c2 (ifn c3 h2)))))⟩
      · obtain ⟨k', h1, h2⟩ := tail false (by rw [badS, decide_eq_false (fun h => c2 (h.resolve_left c1).1)])
        exact ⟨k', h1, ifp (by omega) (ifp (by omega) (ifp (by omega) (ifn c1 (ifn c2 h2))))⟩
theorem impl_inn (jobs : List Int) (w : Int) (l : List S53) (i : Nat) (hi : i < l.length) (hm : l.length ≤ 40) (a b c d : Int) (K : Nat) : ∀ (n k j : Nat), j + n = i → K + 2 * n + 2 ≤ k →
    ∃ k', K ≤ k' ∧ impl_PlanOk.l1 k jobs w l l (l.length : Int) (i : Int) (l.take i) ((l.take i).length : Int) (j : Int) a b c d = if anyB l a b c d j n = true then some false else impl_PlanOk.l0 k' jobs w l l (l.length : Int) ((i + 1 : Nat) : Int) := by
  have hlt : (l.take i).length = i := by rw [List.length_take]; omega
  intro n
  induction n with
  | zero =>
    intro k j hj hk
    obtain ⟨k, rfl⟩ : ∃ m, k = m + 1 := ⟨k - 1, by omega⟩
    refine ⟨k, by omega, ?_⟩
    rw [impl_PlanOk.l1, w64_succ i (by omega)]
    exact ifn (by omega) rfl
  | succ n ih =>
    intro k j hj hk
    obtain ⟨k, rfl⟩ : ∃ m, k = m + 1 + 1 := ⟨k - 2, by omega⟩
    have tail : ∀ x : Bool, x = badS (l.getD j z53) a b c d → ∃ k', K ≤ k' ∧ impl_PlanOk.j4 (k + 1) jobs w l l (l.length : Int) (i : Int) (l.take i) ((l.take i).length : Int) (j : Int) x a b c d = if anyB l a b c d j (n + 1) = true then some false else impl_PlanOk.l0 k' jobs w l l (l.length : Int) ((i + 1 : Nat) : Int) := by
      intro x hx
      rw [impl_PlanOk.j4, w64_succ j (by omega)]
      by_cases q : x = true
      · exact ⟨K, Nat.le_refl _, by rw [if_pos q, if_pos (by simp only [anyB, ← hx, q, Bool.true_or])]⟩
      · obtain ⟨k', h1, h2⟩ := ih k (j + 1) (by omega) (by omega)
        refine ⟨k', h1, ?_⟩
        have qf : x = false := by simpa using q
        rw [if_neg q, h2]
        simp only [anyB, ← hx, qf, Bool.false_or]
    have hg : (l.take i).getD j z53 = l.getD j z53 := by
      rw [List.getD_eq_getElem?_getD, List.getD_eq_getElem?_getD, List.getElem?_take, if_pos (by omega)]
    rw [impl_PlanOk.l1]
    simp only [rd_T53, Int.toNat_natCast, hg]
    by_cases c1 : (l.getD j z53).f0 = a
    · obtain ⟨k', h1, h2⟩ := tail true (by rw [badS, decide_eq_true (Or.inl c1)])
      exact ⟨k', h1, ifp (by omega) (ifp (by omega) (ifp (by omega) (ifp c1 h2)))⟩
    · by_cases c2 : (l.getD j z53).f1 = b
      · by_cases c3 : (l.getD j z53).f2 < d
        · obtain ⟨k', h1, h2⟩ := tail (decide (c < (l.getD j z53).f3)) (decide_eq_decide.2 ⟨fun h => .inr ⟨c2, c3, h⟩, fun h => (h.resolve_left c1).2.2⟩)
          exact ⟨k', h1, ifp (by omega) (ifp (by omega) (ifp (by omega) (ifn c1 (ifp c2 (ifp c3 h2)))))⟩
        · obtain ⟨k', h1, h2⟩ := tail false (by rw [badS, decide_eq_false (fun h => c3 (h.resolve_left c1).2.1)])
          exact ⟨k', h1, ifp (by omega) (ifp (by omega) (ifp (by omega) (ifn c1 (ifp c2 (ifn c3 h2)))))⟩
      · obtain ⟨k', h1, h2⟩ := tail false (by rw [badS, decide_eq_false (fun h => c2 (h.resolve_left c1).1)])
        exact ⟨k', h1, ifp (by omega) (ifp (by omega) (ifp (by omega) (ifn c1 (ifn c2 h2))))⟩
theorem cost_eq {t f c : Int} (h0 : -9223372036854775808 ≤ t) (h1 : t ≤ 9223372036854775807) (h2 : -9223372036854775808 ≤ c) (h3 : c ≤ 9223372036854775807) : (wrap64 (t - f) != c) = (t != wrap64 (f + c)) := by
  rw [Bool.eq_iff_iff, bne_iff_ne, bne_iff_ne]
  unfold wrap64
  omega
def okP (jobs : List Int) (w : Int) (l : List S53) : Nat → Nat → Bool
  | _, 0 => true
  | i, n + 1 => (decide (0 ≤ (l.getD i z53).f0 ∧ (l.getD i z53).f0 ≤ (jobs.length : Int) - 1) && (decide (0 ≤ (l.getD i z53).f1 ∧ (l.getD i z53).f1 ≤ w - 1) && (decide (0 ≤ (l.getD i z53).f2 ∧ (l.getD i z53).f2 ≤ 1000000000) && !(wrap64 ((l.getD i z53).f3 - (l.getD i z53).f2) != rd jobs (l.getD i z53).f0)))) &&
      (!anyB l (l.getD i z53).f0 (l.getD i z53).f1 (l.getD i z53).f2 (l.getD i z53).f3 0 i && okP jobs w l (i + 1) n)
theorem plan_l0 (jobs : List Int) (w : Int) (l : List S53) (hw : 1 ≤ w) (hw2 : w ≤ 6) (hm : l.length ≤ 40) (hj : jobs.length ≤ 40) (hjv : ∀ x ∈ jobs, -9223372036854775808 ≤ x ∧ x ≤ 9223372036854775807) (hlv : ∀ x ∈ l, -9223372036854775808 ≤ x.f3 ∧ x.f3 ≤ 9223372036854775807) : ∀ (n k i : Nat), i + n = l.length → (n + 1) * 100 ≤ k →
    spec_PlanOk.l0 k jobs w l (i : Int) = some (okP jobs w l i n) ∧ impl_PlanOk.l0 k jobs w l l (l.length : Int) (i : Int) = some (okP jobs w l i n) := by
  intro n
  have hw1 : wrap64 (w - 1) = w - 1 := w64 (by omega) (by omega)
  have hj1 : wrap64 ((jobs.length : Int) - 1) = (jobs.length : Int) - 1 := w64 (by omega) (by omega)
  induction n with
  | zero =>
    intro k i hi hk
    obtain ⟨k, rfl⟩ : ∃ m, k = m + 1 := ⟨k - 1, by omega⟩
    exact ⟨by rw [spec_PlanOk.l0]; exact ifn (by omega) rfl, by rw [impl_PlanOk.l0]; exact ifn (by omega) rfl⟩
  | succ n ih =>
    intro k i hi hk
    obtain ⟨k, rfl⟩ : ∃ m, k = m + 1 + 1 := ⟨k - 2, by omega⟩
    have tail : ∀ x y : Bool, x = y → spec_PlanOk.j2 (k + 1) jobs w l (i : Int) x (l.getD i z53).f0 (l.getD i z53).f1 (l.getD i z53).f2 (l.getD i z53).f3 = some (!x && (!anyB l (l.getD i z53).f0 (l.getD i z53).f1 (l.getD i z53).f2 (l.getD i z53).f3 0 i && okP jobs w l (i + 1) n)) ∧
        impl_PlanOk.j2 (k + 1) jobs w l (i : Int) l (l.length : Int) (i : Int) y (l.getD i z53).f0 (l.getD i z53).f1 (l.getD i z53).f2 (l.getD i z53).f3 = some (!x && (!anyB l (l.getD i z53).f0 (l.getD i z53).f1 (l.getD i z53).f2 (l.getD i z53).f3 0 i && okP jobs w l (i + 1) n)) := by
      intro x y hxy
      subst hxy
      rw [spec_PlanOk.j2, impl_PlanOk.j2]
      by_cases q : x = true
      · subst q
        exact ⟨ifp rfl rfl, ifp rfl rfl⟩
      · obtain ⟨K, hK⟩ : ∃ K, K = (n + 1) * 100 := ⟨_, rfl⟩
        have hil : i < l.length := by omega
        have hKk : K + 2 * i + 2 ≤ k := by omega
        have hz : 0 + i = i := Nat.zero_add i
        obtain ⟨k1, h1, e1⟩ := spec_inn jobs w l i hil hm (l.getD i z53).f0 (l.getD i z53).f1 (l.getD i z53).f2 (l.getD i z53).f3 K i k 0 hz hKk
        obtain ⟨k2, h2, e2⟩ := impl_inn jobs w l i hil hm (l.getD i z53).f0 (l.getD i z53).f1 (l.getD i z53).f2 (l.getD i z53).f3 K i k 0 hz hKk
        rw [hK] at h1 h2
        have g1 := (ih k1 (i + 1) (by omega) h1).1
        have g2 := (ih k2 (i + 1) (by omega) h2).2
        have qf : x = false := by simpa using q
        subst qf
        generalize anyB l (l.getD i z53).f0 (l.getD i z53).f1 (l.getD i z53).f2 (l.getD i z53).f3 0 i = bb at e1 e2 ⊢
        have z0 : ((0 : Nat) : Int) = 0 := rfl
        rw [z0] at e1 e2
        simp only [Int.toNat_natCast]
        cases bb with
        | true =>
          rw [if_pos rfl] at e1 e2
          simp only [Bool.not_true, Bool.false_and, Bool.and_false]
          exact ⟨ifn q e1, ifn q (ifp (by omega) (ifp (by omega) (st rfl e2)))⟩
        | false =>
          rw [if_neg (by simp)] at e1 e2
          simp only [Bool.not_false, Bool.true_and]
          exact ⟨ifn q (e1.trans g1), ifn q (ifp (by omega) (ifp (by omega) (st rfl (e2.trans g2))))⟩
    have hx := hlv _ (mem_getD l z53 i (by omega))
    have hok : okP jobs w l i (n + 1) = ((decide (0 ≤ (l.getD i z53).f0 ∧ (l.getD i z53).f0 ≤ (jobs.length : Int) - 1) && (decide (0 ≤ (l.getD i z53).f1 ∧ (l.getD i z53).f1 ≤ w - 1) && (decide (0 ≤ (l.getD i z53).f2 ∧ (l.getD i z53).f2 ≤ 1000000000) && !(wrap64 ((l.getD i z53).f3 - (l.getD i z53).f2) != rd jobs (l.getD i z53).f0)))) &&
      (!anyB l (l.getD i z53).f0 (l.getD i z53).f1 (l.getD i z53).f2 (l.getD i z53).f3 0 i && okP jobs w l (i + 1) n)) := rfl
    rw [hok, spec_PlanOk.l0, impl_PlanOk.l0]
    simp only [rd_T53, Int.toNat_natCast, spec_in, impl_in_, Option.bind_some, hw1, hj1]
    by_cases c1 : 0 ≤ (l.getD i z53).f0 ∧ (l.getD i z53).f0 ≤ (jobs.length : Int) - 1
    · rw [decide_eq_true c1]
      by_cases c2 : 0 ≤ (l.getD i z53).f1 ∧ (l.getD i z53).f1 ≤ w - 1
      · rw [decide_eq_true c2]
        by_cases c3 : 0 ≤ (l.getD i z53).f2 ∧ (l.getD i z53).f2 ≤ 1000000000
        · have hy := hjv (rd jobs (l.getD i z53).f0) (mem_getD jobs 0 _ (by omega))
          obtain ⟨g1, g2⟩ := tail _ _ (cost_eq (f := (l.getD i z53).f2) hx.1 hx.2 hy.1 hy.2)
          rw [decide_eq_true c3]
          simp only [Bool.true_and]
          exact ⟨ifp (by omega) (ifp (by omega) (ifp (by trivial) (ifp (by trivial) (ifp (by trivial) (ifp c1.1 (ifp (by omega) g1)))))), ifp (by omega) (ifp (by omega) (ifp (by omega) (ifp (by trivial) (ifp (by trivial) (ifp (by trivial) (ifp c1.1 (ifp (by omega) g2)))))))⟩
        · obtain ⟨g1, g2⟩ := tail true true rfl
          rw [decide_eq_false c3]
          simp only [Bool.true_and, Bool.false_and, Bool.not_true] at g1 g2 ⊢
          exact ⟨ifp (by omega) (ifp (by omega) (ifp (by trivial) (ifp (by trivial) (ifn (by simp) g1)))), ifp (by omega) (ifp (by omega) (ifp (by omega) (ifp (by trivial) (ifp (by trivial) (ifn (by simp) g2)))))⟩
      · obtain ⟨g1, g2⟩ := tail true true rfl
        rw [decide_eq_false c2]
        simp only [Bool.true_and, Bool.false_and, Bool.not_true] at g1 g2 ⊢
        exact ⟨ifp (by omega) (ifp (by omega) (ifp (by trivial) (ifn (by simp) g1))), ifp (by omega) (ifp (by omega) (ifp (by omega) (ifp (by trivial) (ifn (by simp) g2))))⟩
    · obtain ⟨g1, g2⟩ := tail true true rfl
      rw [decide_eq_false c1]
      simp only [Bool.false_and, Bool.not_true] at g1 g2 ⊢
      exact ⟨ifp (by omega) (ifp (by omega) (ifn (by simp) g1)), ifp (by omega) (ifp (by omega) (ifp (by omega) (ifn (by simp) g2)))⟩
theorem jOk_len {l : List Int} (h : jOk l = true) : l.length ≤ 40 := by
  simp only [jOk, Bool.and_eq_true, decide_eq_true_eq] at h
  exact h.1
theorem planok (k : Nat) (jobs : List Int) (w : Int) (l : List S53) (hjm : jobs.length ≤ 1048576) (hjv : ∀ x ∈ jobs, -9223372036854775808 ≤ x ∧ x ≤ 9223372036854775807) (hlv : ∀ x ∈ l, -9223372036854775808 ≤ x.f3 ∧ x.f3 ≤ 9223372036854775807) (hk : 1048600 ≤ k) : ∃ r, spec_PlanOk.f k jobs w l = some r ∧ impl_PlanOk.f k jobs w l = some r := by
  obtain ⟨k, rfl⟩ : ∃ m, k = m + 1 := ⟨k - 1, by omega⟩
  unfold spec_PlanOk.f impl_PlanOk.f impl_arePlanned.f
  rw [spec_jOk (k + 1) jobs hjm (by omega), impl_jOk (k + 1) jobs hjm (by omega)]
  simp only [Option.bind_some, spec_in, impl_in_]
  by_cases c1 : jOk jobs = true
  · have hj : jobs.length ≤ 40 := jOk_len c1
    simp only [if_pos c1]
    by_cases c2 : 1 ≤ w ∧ w ≤ 6
    · simp only [Option.bind_some, decide_eq_true c2, if_true]
      rw [spec_PlanOk.j0, impl_PlanOk.j0]
      by_cases c3 : ((l.length : Int) != (jobs.length : Int)) = true
      · exact ⟨false, ifp c3 rfl, ifp c3 rfl⟩
      · have h3 : l.length = jobs.length := by
          have := c3
          simp at this
          omega
        have := plan_l0 jobs w l c2.1 c2.2 (by omega) hj hjv hlv l.length k 0 (by omega) (by omega)
        exact ⟨_, ifn c3 (by simpa using this.1), ifn c3 (by simpa using this.2)⟩
    · simp only [Option.bind_some, decide_eq_false c2]
      exact ⟨false, ifn (by simp) (by rw [spec_PlanOk.j0]; exact ifp rfl rfl), ifn (by simp) (by rw [impl_PlanOk.j0]; exact ifp rfl rfl)⟩
  · simp only [if_neg c1, Option.bind_some]
    exact ⟨false, by rw [spec_PlanOk.j0]; exact ifp rfl rfl, ifn (by simp) (by rw [impl_PlanOk.j0]; exact ifp rfl rfl)⟩


theorem FnExactPlanOk : laws_FnExactPlanOk.Pure := by
  intro l w p hl _ hp
  obtain ⟨k, hk⟩ : ∃ k : Nat, 1000000000 ≤ k := ⟨_, Nat.le_refl _⟩
  refine ⟨k, ?_⟩
  unfold laws_FnExactPlanOk.f

  by_cases hg : (l.length : Int) > 1048576
  · rw [if_pos hg]
  rw [if_neg hg]
  have ol : LB (fun _ => True) l := ⟨by omega, fun _ _ => trivial⟩
  obtain ⟨r, e, h⟩ := szSlotS_ p 1048576 hp (by omega) (by omega)
  rw [e]; simp only [Option.bind_some]; clear e
  rcases h with h | ⟨h0, h1, ho⟩
  · rw [if_pos h]
  rw [if_neg (by omega)]

  have ho2 : LB Ok53 (p.map cv55_53) := ho.map ok_cv55_53
  obtain ⟨v, e1, e2⟩ := planok k l w (p.map cv55_53) ol.1 (fun x hx => WI.i64 (hl.2 x hx)) (fun x hx => by obtain ⟨y, hy, rfl⟩ := List.mem_map.1 hx; exact WI.i64 (hp.2 y hy).2.2.2) (by omega)
  repeat (first
    | (refine st e1 ?_; (try dsimp only))
    | (refine st e2 ?_; (try dsimp only))
    | (refine st (toIntS_ _ _ (by assumption) (by omega)) ?_; (try dsimp only))
    | (refine st (eqIntS_ _ _ (by assumption) (by omega)) ?_; (try dsimp only))
    | (refine st (toSlotS_ _ _ (by assumption) (by omega)) ?_; (try dsimp only))
    | (refine st (eqSlotS_ _ _ (by assumption) (by omega)) ?_; (try dsimp only))
    | refine ifp rfl ?_
    | refine ifn (by omega) ?_
    | refine ifp (by omega) ?_
    | refine ifn (by simp) ?_
    | refine ifp (by simp) ?_
    | rfl)

end Go.Proofs.Ytecnioodkihceaa.Pure
