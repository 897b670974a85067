/- What is left of the statement FnExactTaskOk once the Go functions are Lean functions: the program's TaskOk and the reference's answer alike. No condition. -/
import Derived.Test.YtljboinndpnefaaQFnExactTaskOkx2
import Derived.Test.YtljboinndpnefaaAid
set_option linter.unusedVariables false
set_option linter.unusedSimpArgs false
namespace Go.Proofs.Ytljboinndpnefaa.Pure
open Go.RowKit Go.Proofs.Ytljboinndpnefaa.QFnExactTaskOk Go.Proofs.YtljboinndpnefaaW.PrintWords Go.Proofs.YtljboinndpnefaaW.PrintLast Go.Proofs.YtljboinndpnefaaW.PrintMore Go.Proofs.YtljboinndpnefaaW.Aid


theorem spec_in (x lo hi : Int) : spec_l01In.f x lo hi = some (decide (lo ≤ x ∧ x ≤ hi)) := by
  unfold spec_l01In.f
  split
  · simp_all
  · simp; omega
theorem impl_in_ (x lo hi : Int) : impl_in.f x lo hi = some (decide (lo ≤ x ∧ x ≤ hi)) := by
  unfold impl_in.f
  split
  · simp_all
  · simp; omega

def LB {α : Type} (P : α → Prop) (l : List α) : Prop := l.length ≤ 1048576 ∧ ∀ x ∈ l, P x
theorem LB.map {α β : Type} {P : α → Prop} {Q : β → Prop} {f : α → β} {l : List α} (hf : ∀ x, P x → Q (f x)) (h : LB P l) : LB Q (l.map f) := ⟨by simpa using h.1, fun y hy => by obtain ⟨x, hx, rfl⟩ := List.mem_map.1 hy; exact hf x (h.2 x hx)⟩
theorem map_getD {α β : Type} (f : α → β) (l : List α) (i : Nat) (h : i < l.length) (d : α) (d' : β) : (l.map f).getD i d' = f (l.getD i d) := by simp [h]
theorem szIntS_ {W : Int → Prop} (l : List (Int)) (a : Int) (hw : WL W l) (h0 : 0 ≤ a) (h1 : a ≤ 1048576) : ∃ r, laws_szIntS.f l a = some r ∧ (r < 0 ∨ (0 ≤ r ∧ r ≤ a ∧ LB (fun _ => True) l)) := by
  have hm : l.length ≤ 9223372036854775807 := hw.1
  have he : wrap64 (a - (l.length : Int)) = a - l.length := w64 (by omega) (by omega)
  unfold laws_szIntS.f
  rw [he]
  by_cases h : a - (l.length : Int) < 0
  · exact ⟨-1, if_pos h, Or.inl (by omega)⟩
  · rw [if_neg h]
    exact ⟨_, rfl, Or.inr ⟨by omega, by omega, by omega, fun _ _ => trivial⟩⟩
theorem szTask_ {Wl0_1 : Int → Prop} (a0_0 : Int) (l0_1 : List (Int)) (a0_2 : Int) (a0_3 : Int) (a0_4 : Int) (a1 : Int) (wl0_1 : WL Wl0_1 l0_1) (h0 : 0 ≤ a1) (h1 : a1 ≤ 1048576) : ∃ r, laws_szTask.f a0_0 l0_1 a0_2 a0_3 a0_4 a1 = some r ∧ (r < 0 ∨ (0 ≤ r ∧ r ≤ a1 ∧ LB (fun _ => True) l0_1)) := by
  unfold laws_szTask.f
  obtain ⟨r1, e1, g1⟩ := szIntS_ l0_1 a1 wl0_1 (by omega) (by omega)
  rw [e1]
  simp only [Option.bind_some]
  rcases g1 with g1 | ⟨p1, u1, g1⟩
  · exact ⟨-1, if_pos g1, Or.inl (by omega)⟩
  rw [if_neg (by omega)]
  exact ⟨r1, rfl, Or.inr ⟨by omega, by omega, g1⟩⟩
theorem toIntS_l0 (l : List (Int)) (ho : LB (fun _ => True) l) : ∀ (d k i : Nat) (y : List (Int)), i + d = l.length → d + 0 < k → y.length = l.length → y.take i = l.take i → laws_toIntS.l0 k l y (i : Int) = some l := by
  have hm := ho.1
  have hc : l.length = l.length := by rfl
  intro d
  induction d with
  | zero =>
    intro k i y hi hk hy ht
    obtain ⟨k, rfl⟩ : ∃ m, k = m + 1 := ⟨k - 1, by omega⟩
    simp only [laws_toIntS.l0]
    rw [if_neg (by omega), take_full hy hc (by rw [show l.length = i by omega]; exact ht)]
  | succ d ih =>
    intro k i y hi hk hy ht
    obtain ⟨k, rfl⟩ : ∃ m, k = m + 1 := ⟨k - 1, by omega⟩
    have hx := ho.2 _ (mem_getD l 0 i (by omega))
    simp only [laws_toIntS.l0, rd_L1, rd_T24, rd_natD, Int.toNat_natCast]
    repeat (first | refine ifp rfl ?_ | refine ifp (by omega) ?_ | refine ifp (by simp) ?_ | refine ifn (by simp) ?_)
    rw [w64_succ i (by omega)]
    refine ih k (i + 1) _ (by omega) (by omega) (by simpa using hy) ?_
    rw [take_set_succ _ _ _ (by omega), ht, take_succ_getD l 0 i (by omega)]
theorem toIntS_ (k : Nat) (l : List (Int)) (ho : LB (fun _ => True) l) (hk : 1048580 ≤ k) : laws_toIntS.f k l = some l := by
  have hm := ho.1
  unfold laws_toIntS.f
  rw [if_pos (by omega), if_pos (by simp; omega)]
  exact toIntS_l0 l ho l.length k 0 _ (by omega) (by omega) (by simp) (by simp)
theorem toTask_ (k : Nat) (a0_0 : Int) (l0_1 : List (Int)) (a0_2 : Int) (a0_3 : Int) (a0_4 : Int) (hl0_1 : LB (fun _ => True) l0_1) (hk : 1048580 ≤ k) : laws_toTask.f k a0_0 l0_1 a0_2 a0_3 a0_4 = some (a0_0, l0_1, a0_2, a0_3, a0_4) := by
  unfold laws_toTask.f
  repeat (first | (refine st (toIntS_ _ _ (by assumption) (by omega)) ?_; (try dsimp only)) | refine ifp rfl ?_ | refine ifp (by omega) ?_ | refine ifp (by simp) ?_ | refine ifn (by simp) ?_ | rfl)
theorem eqIntS_l0 (l : List (Int)) (ho : LB (fun _ => True) l) : ∀ (d k i : Nat), i + d = l.length → d + 0 < k → laws_eqIntS.l0 k l l (i : Int) = some true := by
  have hm := ho.1
  intro d
  induction d with
  | zero =>
    intro k i hi hk
    obtain ⟨k, rfl⟩ : ∃ m, k = m + 1 := ⟨k - 1, by omega⟩
    simp only [laws_eqIntS.l0]
    rw [if_neg (by omega)]
  | succ d ih =>
    intro k i hi hk
    obtain ⟨k, rfl⟩ : ∃ m, k = m + 1 := ⟨k - 1, by omega⟩
    have hx := ho.2 _ (mem_getD l 0 i (by omega))
    simp only [laws_eqIntS.l0, rd_L1, rd_T24, rd_natD, Int.toNat_natCast]
    repeat (first | refine ifp rfl ?_ | refine ifp (by omega) ?_ | refine ifp (by simp) ?_ | refine ifn (by simp) ?_)
    rw [w64_succ i (by omega)]
    exact ih k (i + 1) (by omega) (by omega)
theorem eqIntS_ (k : Nat) (l : List (Int)) (ho : LB (fun _ => True) l) (hk : 1048580 ≤ k) : laws_eqIntS.f k l l = some true := by
  have hm := ho.1
  unfold laws_eqIntS.f
  rw [if_pos rfl]
  exact eqIntS_l0 l ho l.length k 0 (by omega) (by omega)
theorem eqTask_ (k : Nat) (a0_0 : Int) (l0_1 : List (Int)) (a0_2 : Int) (a0_3 : Int) (a0_4 : Int) (hl0_1 : LB (fun _ => True) l0_1) (hk : 1048580 ≤ k) : laws_eqTask.f k a0_0 l0_1 a0_2 a0_3 a0_4 a0_0 l0_1 a0_2 a0_3 a0_4 = some true := by
  unfold laws_eqTask.f
  repeat (first | (refine st (eqIntS_ _ _ (by assumption) (by omega)) ?_; (try dsimp only)) | refine ifp rfl ?_ | refine ifp (by omega) ?_ | refine ifp (by simp) ?_ | refine ifn (by simp) ?_ | rfl)

def isC (x : Int) : Bool := decide (1 ≤ x ∧ x ≤ 1000)
theorem all_dropC (l : List Int) (i : Nat) (h : i < l.length) : (l.drop i).all isC = (isC (l.getD i 0) && (l.drop (i + 1)).all isC) := by
  rw [drop_getD l 0 i h]; rfl
def tkOk (id : Int) (costs : List Int) (at_ due born : Int) : Bool := decide (1 ≤ id ∧ id ≤ 1000000) && (decide (1 ≤ costs.length ∧ costs.length ≤ 6) && (decide (0 ≤ at_ ∧ at_ < costs.length) && (decide (0 ≤ due ∧ due ≤ 1000000) && (decide (0 ≤ born ∧ born ≤ 1000000) && costs.all isC))))
theorem spec_tk_l0 (a : Int) (l : List Int) (b c e : Int) (hm : l.length ≤ 1048576) : ∀ (d k i : Nat), i + d = l.length → d < k → spec_TaskOk.l0 k (i : Int) a l b c e = some ((l.drop i).all isC) := by
  intro d
  induction d with
  | zero =>
    intro k i hi hk
    obtain ⟨k, rfl⟩ : ∃ m, k = m + 1 := ⟨k - 1, by omega⟩
    simp only [spec_TaskOk.l0]
    rw [if_neg (by omega), List.drop_of_length_le (by omega)]
    rfl
  | succ d ih =>
    intro k i hi hk
    obtain ⟨k, rfl⟩ : ∃ m, k = m + 1 := ⟨k - 1, by omega⟩
    simp only [spec_TaskOk.l0]
    rw [if_pos (by omega), if_pos (by omega), all_dropC l i (by omega), w64_succ i (by omega), ih k (i + 1) (by omega) (by omega), spec_in, rd_natD]
    simp only [Option.bind_some]
    cases h : isC (l.getD i 0) with
    | false => rw [if_neg (by simpa [isC] using h)]; rfl
    | true => rw [if_pos (by simpa [isC] using h)]; rfl
theorem len_in (l : List Int) (hm : l.length ≤ 1048576) (x : Int) : (decide (0 ≤ x ∧ x ≤ wrap64 ((l.length : Int) - 1))) = decide (0 ≤ x ∧ x < l.length) := by
  rw [w64 (by omega) (by omega)]
  congr 1
  exact propext ⟨fun h => ⟨h.1, by omega⟩, fun h => ⟨h.1, by omega⟩⟩
theorem len16 (l : List Int) : (decide ((1 : Int) ≤ (l.length : Int) ∧ (l.length : Int) ≤ 6)) = decide (1 ≤ l.length ∧ l.length ≤ 6) := by
  congr 1
  exact propext ⟨fun h => ⟨by omega, by omega⟩, fun h => ⟨by omega, by omega⟩⟩
theorem spec_tkOk (k : Nat) (a : Int) (l : List Int) (b c e : Int) (hm : l.length ≤ 1048576) (hk : 1048590 ≤ k) : spec_TaskOk.f k a l b c e = some (tkOk a l b c e) := by
  obtain ⟨k, rfl⟩ : ∃ m, k = m + 1 := ⟨k - 1, by omega⟩
  have hs := spec_tk_l0 a l b c e hm l.length k 0 (by omega) (by omega)
  rw [List.drop_zero] at hs
  have hs' : spec_TaskOk.l0 k 0 a l b c e = some (l.all isC) := hs
  unfold spec_TaskOk.f tkOk spec_l07Tick.f
  simp only [spec_in, Option.bind_some, spec_TaskOk.j0, len_in l hm, len16]
  by_cases h1 : 1 ≤ a ∧ a ≤ 1000000
  · by_cases h2 : 1 ≤ l.length ∧ l.length ≤ 6
    · by_cases h3 : 0 ≤ b ∧ b < l.length
      · by_cases h4 : 0 ≤ c ∧ c ≤ 1000000
        · by_cases h5 : 0 ≤ e ∧ e ≤ 1000000
          · simp only [h1, h2, h3, h4, h5, and_self, decide_true, if_true, Bool.not_true, Bool.false_eq_true, if_false, Bool.true_and]; exact hs'
          · simp [h1, h2, h3, h4, h5]
        · simp [h1, h2, h3, h4]
      · simp [h1, h2, h3]
    · simp [h1, h2]
  · simp [h1]
theorem tidx_l0 (l : List Int) (hm : l.length ≤ 1048576) : ∀ (d k i : Nat), i + d = l.length → d < k →
    ∃ r, slices_IndexFunc_int_int_at_56.l0 k l (l.length : Int) (i : Int) = some r ∧ (0 ≤ r ↔ (l.drop i).all isC = false) := by
  intro d
  induction d with
  | zero =>
    intro k i hi hk
    obtain ⟨k, rfl⟩ : ∃ m, k = m + 1 := ⟨k - 1, by omega⟩
    simp only [slices_IndexFunc_int_int_at_56.l0]
    rw [if_neg (by omega), List.drop_of_length_le (by omega)]
    exact ⟨-1, rfl, by simp⟩
  | succ d ih =>
    intro k i hi hk
    obtain ⟨k, rfl⟩ : ∃ m, k = m + 1 := ⟨k - 1, by omega⟩
    simp only [slices_IndexFunc_int_int_at_56.l0]
    rw [if_pos (by omega), if_pos (by omega), if_pos (by omega), all_dropC l i (by omega)]
    unfold impl_TaskOk_1.f
    simp only [impl_in_, Option.bind_some, rd_natD]
    cases hr : isC (l.getD i 0) with
    | false =>
      have : ¬ (1 ≤ l.getD i 0 ∧ l.getD i 0 ≤ 1000) := by simpa [isC] using hr
      exact ⟨i, by simp only [this]; simp, by simp⟩
    | true =>
      have : (1 ≤ l.getD i 0 ∧ l.getD i 0 ≤ 1000) := by simpa [isC] using hr
      obtain ⟨r, h1, h2⟩ := ih k (i + 1) (by omega) (by omega)
      refine ⟨r, ?_, by simpa using h2⟩
      rw [w64_succ i (by omega)]
      simp only [this, and_self]
      simpa using h1
theorem tcont (k : Nat) (l : List Int) (hm : l.length ≤ 1048576) (hk : l.length < k) : slices_ContainsFunc_int_int_at_56.f k l = some (!l.all isC) := by
  obtain ⟨r, h1, h2⟩ := tidx_l0 l hm l.length k 0 (by omega) hk
  have h1' : slices_IndexFunc_int_int_at_56.f k l = some r := h1
  unfold slices_ContainsFunc_int_int_at_56.f
  rw [h1']
  rw [List.drop_zero] at h2
  simp only [Option.bind_some]
  cases ha : l.all isC with
  | false => rw [ha] at h2; have := h2.2 rfl; simp [this]
  | true => rw [ha] at h2; have : ¬ 0 ≤ r := fun z => absurd (h2.1 z) (by simp); simp; omega
theorem impl_tkOk (k : Nat) (a : Int) (l : List Int) (b c e : Int) (hm : l.length ≤ 1048576) (hk : 1048590 ≤ k) : impl_TaskOk.f k a l b c e = some (tkOk a l b c e) := by
  unfold impl_TaskOk.f tkOk impl_isTick.f
  simp only [impl_in_, tcont k l hm (by omega), Option.bind_some, len_in l hm, len16]
  by_cases h1 : 1 ≤ a ∧ a ≤ 1000000
  · by_cases h2 : 1 ≤ l.length ∧ l.length ≤ 6
    · cases h6 : l.all isC
      · simp [h1, h2]
      · by_cases h3 : 0 ≤ b ∧ b < l.length
        · by_cases h4 : 0 ≤ c ∧ c ≤ 1000000
          · simp [h1, h2, h3, h4]
          · simp [h1, h2, h3, h4]
        · simp [h1, h2, h3]
    · simp [h1, h2]
  · simp [h1]


theorem FnExactTaskOk : laws_FnExactTaskOk.Pure := by
  intro a l b c e _ hl _ _ _
  obtain ⟨k, hk⟩ : ∃ k : Nat, 1000000000 ≤ k := ⟨_, Nat.le_refl _⟩
  refine ⟨k, ?_⟩
  unfold laws_FnExactTaskOk.f
  obtain ⟨r, e, h⟩ := szTask_ a l b c e 1048576 hl (by omega) (by omega)
  rw [e]; simp only [Option.bind_some]; clear e
  rcases h with h | ⟨h0, h1, ho⟩
  · rw [if_pos h]
  rw [if_neg (by omega)]

  have e1 := spec_tkOk k a l b c e ho.1 (by omega)
  have e2 := impl_tkOk k a l b c e ho.1 (by omega)
  repeat (first
    | (refine st e1 ?_; (try dsimp only))
    | (refine st e2 ?_; (try dsimp only))
    | (refine st (toTask_ _ _ _ _ _ _ (by assumption) (by omega)) ?_; (try dsimp only))
    | (refine st (eqTask_ _ _ _ _ _ _ (by assumption) (by omega)) ?_; (try dsimp only))
    | refine ifp rfl ?_
    | refine ifn (by omega) ?_
    | refine ifp (by omega) ?_
    | refine ifn (by simp) ?_
    | refine ifp (by simp) ?_
    | rfl)

end Go.Proofs.Ytljboinndpnefaa.Pure
