/- What is left of the statement FnExactFitsBatch once the Go functions are Lean functions: the program's FitsBatch and the reference's answer alike. No condition. -/
import Derived.Test.YtoggdgahfagegaaQFnExactFitsBatchx1
import Derived.Test.YtoggdgahfagegaaAid
set_option linter.unusedVariables false
set_option linter.unusedSimpArgs false
namespace Go.Proofs.Ytoggdgahfagegaa.Pure
open Go.RowKit Go.Proofs.Ytoggdgahfagegaa.QFnExactFitsBatch Go.Proofs.YtoggdgahfagegaaW.PrintWords Go.Proofs.YtoggdgahfagegaaW.PrintLast Go.Proofs.YtoggdgahfagegaaW.PrintMore Go.Proofs.YtoggdgahfagegaaW.Aid


def LB {α : Type} (P : α → Prop) (l : List α) : Prop := l.length ≤ 1048576 ∧ ∀ x ∈ l, P x
theorem LB.map {α β : Type} {P : α → Prop} {Q : β → Prop} {f : α → β} {l : List α} (hf : ∀ x, P x → Q (f x)) (h : LB P l) : LB Q (l.map f) := ⟨by simpa using h.1, fun y hy => by obtain ⟨x, hx, rfl⟩ := List.mem_map.1 hy; exact hf x (h.2 x hx)⟩
theorem map_getD {α β : Type} (f : α → β) (l : List α) (i : Nat) (h : i < l.length) (d : α) (d' : β) : (l.map f).getD i d' = f (l.getD i d) := by simp [h]
theorem toIntS_l0 (l : List (Int)) (ho : LB (fun _ => True) l) : ∀ (d k i : Nat) (y : List (Int)), i + d = l.length → d + 0 < k → y.length = l.length → y.take i = l.take i → laws_toIntS.l0 k l y (i : Int) = some l := by
  have hm := ho.1
  have hc : l.length = l.length := by rfl
  intro d
  induction d with
  | zero =>
    intro k i y hi hk hy ht
    obtain ⟨k, rfl⟩ : ∃ m, k = m + 1 := ⟨k - 1, by omega⟩
    simp only [laws_toIntS.l0]
    rw [if_neg (by omega), take_full hy hc (by rw [show l.length = i by omega]; exact ht)]
  | succ d ih =>
    intro k i y hi hk hy ht
    obtain ⟨k, rfl⟩ : ∃ m, k = m + 1 := ⟨k - 1, by omega⟩
    have hx := ho.2 _ (mem_getD l 0 i (by omega))
    simp only [laws_toIntS.l0, rd_L1, rd_natD, Int.toNat_natCast]
    repeat (first | refine ifp rfl ?_ | refine ifp (by omega) ?_ | refine ifp (by simp) ?_ | refine ifn (by simp) ?_)
    rw [w64_succ i (by omega)]
    refine ih k (i + 1) _ (by omega) (by omega) (by simpa using hy) ?_
    rw [take_set_succ _ _ _ (by omega), ht, take_succ_getD l 0 i (by omega)]
theorem toIntS_ (k : Nat) (l : List (Int)) (ho : LB (fun _ => True) l) (hk : 1048580 ≤ k) : laws_toIntS.f k l = some l := by
  have hm := ho.1
  unfold laws_toIntS.f
  rw [if_pos (by omega), if_pos (by simp; omega)]
  exact toIntS_l0 l ho l.length k 0 _ (by omega) (by omega) (by simp) (by simp)
theorem eqIntS_l0 (l : List (Int)) (ho : LB (fun _ => True) l) : ∀ (d k i : Nat), i + d = l.length → d + 0 < k → laws_eqIntS.l0 k l l (i : Int) = some true := by
  have hm := ho.1
  intro d
  induction d with
  | zero =>
    intro k i hi hk
    obtain ⟨k, rfl⟩ : ∃ m, k = m + 1 := ⟨k - 1, by omega⟩
    simp only [laws_eqIntS.l0]
    rw [if_neg (by omega)]
  | succ d ih =>
    intro k i hi hk
    obtain ⟨k, rfl⟩ : ∃ m, k = m + 1 := ⟨k - 1, by omega⟩
    have hx := ho.2 _ (mem_getD l 0 i (by omega))
    simp only [laws_eqIntS.l0, rd_L1, rd_natD, Int.toNat_natCast]
    repeat (first | refine ifp rfl ?_ | refine ifp (by omega) ?_ | refine ifp (by simp) ?_ | refine ifn (by simp) ?_)
    rw [w64_succ i (by omega)]
    exact ih k (i + 1) (by omega) (by omega)
theorem eqIntS_ (k : Nat) (l : List (Int)) (ho : LB (fun _ => True) l) (hk : 1048580 ≤ k) : laws_eqIntS.f k l l = some true := by
  have hm := ho.1
  unfold laws_eqIntS.f
  rw [if_pos rfl]
  exact eqIntS_l0 l ho l.length k 0 (by omega) (by omega)

theorem fits_l0 (a b : List Int) (hm : a.length ≤ 1048576) (hl : a.length = b.length) : ∀ (d k i : Nat) (n : Int), i + d = a.length → d < k → ∃ r, spec_FitsBatch.l0 k a b n (i : Int) = some r ∧ impl_FitsBatch.l0 k b n a (a.length : Int) (i : Int) = some r := by
  intro d
  induction d with
  | zero =>
    intro k i n hi hk
    obtain ⟨k, rfl⟩ : ∃ m, k = m + 1 := ⟨k - 1, by omega⟩
    exact ⟨true, by simp only [spec_FitsBatch.l0]; rw [if_neg (by omega)], by simp only [impl_FitsBatch.l0]; rw [if_neg (by omega)]⟩
  | succ d ih =>
    intro k i n hi hk
    obtain ⟨k, rfl⟩ : ∃ m, k = m + 1 := ⟨k - 1, by omega⟩
    by_cases c : wrap64 (n + rd a (i : Int)) > rd b (i : Int)
    · exact ⟨false, by simp only [spec_FitsBatch.l0]; exact ifp (by omega) (ifp (by omega) (ifp (by omega) (ifp c rfl))), by simp only [impl_FitsBatch.l0]; exact ifp (by omega) (ifp (by omega) (ifp (by omega) (ifp (by omega) (ifp c rfl))))⟩
    · obtain ⟨r, e1, e2⟩ := ih k (i + 1) (wrap64 (n + rd a (i : Int))) (by omega) (by omega)
      refine ⟨r, ?_, ?_⟩
      · simp only [spec_FitsBatch.l0]
        refine ifp (by omega) (ifp (by omega) (ifp (by omega) (ifn c ?_)))
        rw [w64_succ i (by omega)]; exact e1
      · simp only [impl_FitsBatch.l0]
        refine ifp (by omega) (ifp (by omega) (ifp (by omega) (ifp (by omega) (ifn c ?_))))
        rw [w64_succ i (by omega)]; exact e2
theorem fits (k : Nat) (a b : List Int) (n : Int) (hm : a.length ≤ 1048576) (hk : 1048580 ≤ k) : ∃ r, spec_FitsBatch.f k a b n = some r ∧ impl_FitsBatch.f k a b n = some r := by
  unfold spec_FitsBatch.f impl_FitsBatch.f
  by_cases h : (a.length : Int) = (b.length : Int)
  · rw [if_pos h, if_pos h]
    exact fits_l0 a b hm (by omega) a.length k 0 n (by omega) (by omega)
  · rw [if_neg h, if_neg h]; exact ⟨false, rfl, rfl⟩


theorem FnExactFitsBatch : laws_FnExactFitsBatch.Pure := by
  intro a b n ha hb _
  obtain ⟨k, hk⟩ : ∃ k : Nat, 1000000000 ≤ k := ⟨_, Nat.le_refl _⟩
  refine ⟨k, ?_⟩
  unfold laws_FnExactFitsBatch.f

  by_cases h1 : (a.length : Int) > 1048576
  · rw [if_pos h1]
  rw [if_neg h1]
  by_cases h2 : (b.length : Int) > 1048576
  · rw [if_pos h2]
  rw [if_neg h2]
  have oa : LB (fun _ => True) a := ⟨by omega, fun _ _ => trivial⟩
  have ob : LB (fun _ => True) b := ⟨by omega, fun _ _ => trivial⟩
  obtain ⟨r, e1, e2⟩ := fits k a b n (by omega) (by omega)
  repeat (first
    | (refine st (toIntS_ _ _ (by omega) (by omega)) ?_; (try dsimp only))
    | (refine st e1 ?_; (try dsimp only))
    | (refine st e2 ?_; (try dsimp only))
    | (refine st (toIntS_ _ _ (by assumption) (by omega)) ?_; (try dsimp only))
    | (refine st (eqIntS_ _ _ (by assumption) (by omega)) ?_; (try dsimp only))
    | refine ifp rfl ?_
    | refine ifn (by omega) ?_
    | refine ifp (by omega) ?_
    | refine ifn (by simp) ?_
    | refine ifp (by simp) ?_
    | rfl)

end Go.Proofs.Ytoggdgahfagegaa.Pure
