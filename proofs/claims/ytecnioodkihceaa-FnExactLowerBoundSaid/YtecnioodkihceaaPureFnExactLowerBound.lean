/- What is left of the statement FnExactLowerBound once the Go functions are Lean functions: the program's LowerBound and the reference's answer alike. No condition. -/
import Derived.Test.YtecnioodkihceaaQFnExactLowerBoundx2
import Derived.Test.YtecnioodkihceaaAid
set_option linter.unusedVariables false
set_option linter.unusedSimpArgs false
namespace Go.Proofs.Ytecnioodkihceaa.Pure
open Go.RowKit Go.Proofs.Ytecnioodkihceaa.QFnExactLowerBound Go.Proofs.YtecnioodkihceaaW.PrintWords Go.Proofs.YtecnioodkihceaaW.PrintLast Go.Proofs.YtecnioodkihceaaW.PrintMore Go.Proofs.YtecnioodkihceaaW.Aid


theorem spec_in (x lo hi : Int) : spec_l01In.f x lo hi = some (decide (lo ≤ x ∧ x ≤ hi)) := by
  unfold spec_l01In.f
  split
  · simp_all
  · simp; omega
theorem impl_in_ (x lo hi : Int) : impl_in.f x lo hi = some (decide (lo ≤ x ∧ x ≤ hi)) := by
  unfold impl_in.f
  split
  · simp_all
  · simp; omega

def LB {α : Type} (P : α → Prop) (l : List α) : Prop := l.length ≤ 1048576 ∧ ∀ x ∈ l, P x
theorem LB.map {α β : Type} {P : α → Prop} {Q : β → Prop} {f : α → β} {l : List α} (hf : ∀ x, P x → Q (f x)) (h : LB P l) : LB Q (l.map f) := ⟨by simpa using h.1, fun y hy => by obtain ⟨x, hx, rfl⟩ := List.mem_map.1 hy; exact hf x (h.2 x hx)⟩
theorem map_getD {α β : Type} (f : α → β) (l : List α) (i : Nat) (h : i < l.length) (d : α) (d' : β) : (l.map f).getD i d' = f (l.getD i d) := by simp [h]
theorem toIntS_l0 (l : List (Int)) (ho : LB (fun _ => True) l) : ∀ (d k i : Nat) (y : List (Int)), i + d = l.length → d + 0 < k → y.length = l.length → y.take i = l.take i → laws_toIntS.l0 k l y (i : Int) = some l := by
  have hm := ho.1
  have hc : l.length = l.length := by rfl
  intro d
  induction d with
  | zero =>
    intro k i y hi hk hy ht
    obtain ⟨k, rfl⟩ : ∃ m, k = m + 1 := ⟨k - 1, by omega⟩
    simp only [laws_toIntS.l0]
    rw [if_neg (by omega), take_full hy hc (by rw [show l.length = i by omega]; exact ht)]
  | succ d ih =>
    intro k i y hi hk hy ht
    obtain ⟨k, rfl⟩ : ∃ m, k = m + 1 := ⟨k - 1, by omega⟩
    have hx := ho.2 _ (mem_getD l 0 i (by omega))
    simp only [laws_toIntS.l0, rd_L1, rd_natD, Int.toNat_natCast]
    repeat (first | refine ifp rfl ?_ | refine ifp (by omega) ?_ | refine ifp (by simp) ?_ | refine ifn (by simp) ?_)
    rw [w64_succ i (by omega)]
    refine ih k (i + 1) _ (by omega) (by omega) (by simpa using hy) ?_
    rw [take_set_succ _ _ _ (by omega), ht, take_succ_getD l 0 i (by omega)]
theorem toIntS_ (k : Nat) (l : List (Int)) (ho : LB (fun _ => True) l) (hk : 1048580 ≤ k) : laws_toIntS.f k l = some l := by
  have hm := ho.1
  unfold laws_toIntS.f
  rw [if_pos (by omega), if_pos (by simp; omega)]
  exact toIntS_l0 l ho l.length k 0 _ (by omega) (by omega) (by simp) (by simp)
theorem eqIntS_l0 (l : List (Int)) (ho : LB (fun _ => True) l) : ∀ (d k i : Nat), i + d = l.length → d + 0 < k → laws_eqIntS.l0 k l l (i : Int) = some true := by
  have hm := ho.1
  intro d
  induction d with
  | zero =>
    intro k i hi hk
    obtain ⟨k, rfl⟩ : ∃ m, k = m + 1 := ⟨k - 1, by omega⟩
    simp only [laws_eqIntS.l0]
    rw [if_neg (by omega)]
  | succ d ih =>
    intro k i hi hk
    obtain ⟨k, rfl⟩ : ∃ m, k = m + 1 := ⟨k - 1, by omega⟩
    have hx := ho.2 _ (mem_getD l 0 i (by omega))
    simp only [laws_eqIntS.l0, rd_L1, rd_natD, Int.toNat_natCast]
    repeat (first | refine ifp rfl ?_ | refine ifp (by omega) ?_ | refine ifp (by simp) ?_ | refine ifn (by simp) ?_)
    rw [w64_succ i (by omega)]
    exact ih k (i + 1) (by omega) (by omega)
theorem eqIntS_ (k : Nat) (l : List (Int)) (ho : LB (fun _ => True) l) (hk : 1048580 ≤ k) : laws_eqIntS.f k l l = some true := by
  have hm := ho.1
  unfold laws_eqIntS.f
  rw [if_pos rfl]
  exact eqIntS_l0 l ho l.length k 0 (by omega) (by omega)

def isJ (x : Int) : Bool := decide (1 ≤ x ∧ x ≤ 1000)
def jOk (l : List Int) : Bool := decide (l.length ≤ 40) && l.all isJ
theorem all_dropJ (l : List Int) (i : Nat) (h : i < l.length) : (l.drop i).all isJ = (isJ (l.getD i 0) && (l.drop (i + 1)).all isJ) := by
  rw [drop_getD l 0 i h]; rfl
theorem spec_jOk_l0 (l : List Int) (hm : l.length ≤ 1048576) : ∀ (d k i : Nat), i + d = l.length → d < k → spec_JobsOk.l0 k l (i : Int) = some ((l.drop i).all isJ) := by
  intro d
  induction d with
  | zero =>
    intro k i hi hk
    obtain ⟨k, rfl⟩ : ∃ m, k = m + 1 := ⟨k - 1, by omega⟩
    simp only [spec_JobsOk.l0]
    rw [if_neg (by omega), List.drop_of_length_le (by omega)]
    rfl
  | succ d ih =>
    intro k i hi hk
    obtain ⟨k, rfl⟩ : ∃ m, k = m + 1 := ⟨k - 1, by omega⟩
    simp only [spec_JobsOk.l0]
    rw [if_pos (by omega), if_pos (by omega), all_dropJ l i (by omega), w64_succ i (by omega), ih k (i + 1) (by omega) (by omega), spec_in, rd_natD]
    simp only [Option.bind_some]
    cases h : isJ (l.getD i 0) with
    | false => rw [if_neg (by simpa [isJ] using h)]; rfl
    | true => rw [if_pos (by simpa [isJ] using h)]; rfl
theorem spec_jOk (k : Nat) (l : List Int) (hm : l.length ≤ 1048576) (hk : l.length < k) : spec_JobsOk.f k l = some (jOk l) := by
  unfold spec_JobsOk.f jOk
  by_cases h : (l.length : Int) > 40
  · rw [if_pos h]
    have : ¬ l.length ≤ 40 := by omega
    simp [this]
  · rw [if_neg h]
    have h' : l.length ≤ 40 := by omega
    have := spec_jOk_l0 l hm l.length k 0 (by omega) hk
    simpa [h'] using this
theorem jidx_l0 (l : List Int) (hm : l.length ≤ 1048576) : ∀ (d k i : Nat), i + d = l.length → d < k →
    ∃ r, slices_IndexFunc_int_int_at_49.l0 k l (l.length : Int) (i : Int) = some r ∧ (0 ≤ r ↔ (l.drop i).all isJ = false) := by
  intro d
  induction d with
  | zero =>
    intro k i hi hk
    obtain ⟨k, rfl⟩ : ∃ m, k = m + 1 := ⟨k - 1, by omega⟩
    simp only [slices_IndexFunc_int_int_at_49.l0]
    rw [if_neg (by omega), List.drop_of_length_le (by omega)]
    exact ⟨-1, rfl, by simp⟩
  | succ d ih =>
    intro k i hi hk
    obtain ⟨k, rfl⟩ : ∃ m, k = m + 1 := ⟨k - 1, by omega⟩
    simp only [slices_IndexFunc_int_int_at_49.l0]
    rw [if_pos (by omega), if_pos (by omega), if_pos (by omega), all_dropJ l i (by omega)]
    unfold impl_JobsOk_1.f
    simp only [impl_in_, Option.bind_some, rd_natD]
    cases hr : isJ (l.getD i 0) with
    | false =>
      have : ¬ (1 ≤ l.getD i 0 ∧ l.getD i 0 ≤ 1000) := by simpa [isJ] using hr
      exact ⟨i, by simp only [this]; simp, by simp⟩
    | true =>
      have : (1 ≤ l.getD i 0 ∧ l.getD i 0 ≤ 1000) := by simpa [isJ] using hr
      obtain ⟨r, h1, h2⟩ := ih k (i + 1) (by omega) (by omega)
      refine ⟨r, ?_, by simpa using h2⟩
      rw [w64_succ i (by omega)]
      simp only [this, and_self]
      simpa using h1
theorem impl_jOk (k : Nat) (l : List Int) (hm : l.length ≤ 1048576) (hk : l.length < k) : impl_JobsOk.f k l = some (jOk l) := by
  obtain ⟨r, h1, h2⟩ := jidx_l0 l hm l.length k 0 (by omega) hk
  have h1' : slices_IndexFunc_int_int_at_49.f k l = some r := h1
  unfold impl_JobsOk.f slices_ContainsFunc_int_int_at_49.f jOk
  rw [h1']
  rw [List.drop_zero] at h2
  simp only [Option.bind_some]
  by_cases h : (l.length : Int) ≤ 40
  · rw [if_pos h]
    have h' : l.length ≤ 40 := by omega
    cases ha : l.all isJ with
    | false => rw [ha] at h2; have := h2.2 rfl; simp [this]
    | true => rw [ha] at h2; have : ¬ 0 ≤ r := fun z => absurd (h2.1 z) (by simp); simp [h']; omega
  · rw [if_neg h]
    have h' : ¬ l.length ≤ 40 := by omega
    simp [h']

def total (l : List Int) : Int := l.foldl (· + ·) 0
theorem foldl_add (l : List Int) (a : Int) : l.foldl (· + ·) a = a + l.foldl (· + ·) 0 := by
  induction l generalizing a with
  | nil => simp
  | cons x l ih => simp only [List.foldl_cons]; rw [ih (a + x), ih (0 + x)]; omega
theorem total_cons (x : Int) (l : List Int) : total (x :: l) = x + total l := by
  unfold total; simp only [List.foldl_cons]; rw [foldl_add]; omega
theorem total_bd (l : List Int) (h : l.all isJ = true) : 0 ≤ total l ∧ total l ≤ 1000 * l.length := by
  induction l with
  | nil => simp [total]
  | cons x l ih =>
    simp only [List.all_cons, Bool.and_eq_true] at h
    have := ih h.2
    have hx : 1 ≤ x ∧ x ≤ 1000 := by simpa [isJ] using h.1
    rw [total_cons]
    simp only [List.length_cons]
    omega
theorem isJ_getD (l : List Int) (h : l.all isJ = true) (i : Nat) (hi : i < l.length) : 1 ≤ l.getD i 0 ∧ l.getD i 0 ≤ 1000 := by
  have := List.all_eq_true.1 h _ (mem_getD l 0 i hi)
  simpa [isJ] using this
theorem spec_sum_l0 (l : List Int) (hm : l.length ≤ 1048576) (hj : l.all isJ = true) : ∀ (d k i : Nat) (s : Int), i + d = l.length → d < k → 0 ≤ s → s ≤ 1000 * i → spec_l12Sum.l0 k l s (i : Int) = some (s + total (l.drop i)) := by
  intro d
  induction d with
  | zero =>
    intro k i s hi hk h0 h1
    obtain ⟨k, rfl⟩ : ∃ m, k = m + 1 := ⟨k - 1, by omega⟩
    simp only [spec_l12Sum.l0]
    rw [if_neg (by omega), List.drop_of_length_le (by omega)]
    simp [total]
  | succ d ih =>
    intro k i s hi hk h0 h1
    obtain ⟨k, rfl⟩ : ∃ m, k = m + 1 := ⟨k - 1, by omega⟩
    have hg := isJ_getD l hj i (by omega)
    simp only [spec_l12Sum.l0]
    rw [if_pos (by omega), if_pos (by omega), rd_natD, w64_succ i (by omega), w64 (by omega) (by omega), ih k (i + 1) _ (by omega) (by omega) (by omega) (by omega), drop_getD l 0 i (by omega), total_cons]
    congr 1; omega
theorem spec_sum (k : Nat) (l : List Int) (hm : l.length ≤ 1048576) (hj : l.all isJ = true) (hk : l.length < k) : spec_l12Sum.f k l = some (total l) := by
  have := spec_sum_l0 l hm hj l.length k 0 0 (by omega) hk (by omega) (by omega)
  simpa [spec_l12Sum.f] using this
theorem impl_sum_l0 (l : List Int) (hm : l.length ≤ 1048576) (hj : l.all isJ = true) : ∀ (d k i : Nat) (s : Int), i + d = l.length → d < k → 0 ≤ s → s ≤ 1000 * i → impl_sum.l0 k s l (l.length : Int) (i : Int) = some (s + total (l.drop i)) := by
  intro d
  induction d with
  | zero =>
    intro k i s hi hk h0 h1
    obtain ⟨k, rfl⟩ : ∃ m, k = m + 1 := ⟨k - 1, by omega⟩
    simp only [impl_sum.l0]
    rw [if_neg (by omega), List.drop_of_length_le (by omega)]
    simp [total]
  | succ d ih =>
    intro k i s hi hk h0 h1
    obtain ⟨k, rfl⟩ : ∃ m, k = m + 1 := ⟨k - 1, by omega⟩
    have hg := isJ_getD l hj i (by omega)
    simp only [impl_sum.l0]
    refine ifp (by omega) (ifp (by omega) (ifp (by omega) ?_))
    rw [rd_natD, w64_succ i (by omega), w64 (by omega) (by omega), ih k (i + 1) _ (by omega) (by omega) (by omega) (by omega), drop_getD l 0 i (by omega), total_cons]
    congr 1; omega
theorem impl_sum_ (k : Nat) (l : List Int) (hm : l.length ≤ 1048576) (hj : l.all isJ = true) (hk : l.length < k) : impl_sum.f k l = some (total l) := by
  have := impl_sum_l0 l hm hj l.length k 0 0 (by omega) hk (by omega) (by omega)
  simpa [impl_sum.f] using this
theorem impl_up_ (s w : Int) (h0 : 0 ≤ s) (h1 : s ≤ 2000000000) (hw : 1 ≤ w) (hw2 : w ≤ 6) : impl_up.f s w = some ((s + w - 1) / w) := by
  unfold impl_up.f impl_down.f
  rw [w64 (x := -s) (by omega) (by omega), Int.neg_tdiv, Int.neg_tmod, tdiv_pos h0, tmod_pos h0, if_neg (by omega)]
  have b1 : 0 ≤ s / w := Int.ediv_nonneg h0 (by omega)
  have b2 : s / w ≤ s := Int.ediv_le_self _ h0
  have q1 : wrap64 (-(s / w)) = -(s / w) := w64 (by omega) (by omega)
  have q2 : wrap64 (-(s / w) - 1) = -(s / w) - 1 := w64 (by omega) (by omega)
  have q3 : wrap64 (-(-(s / w) - 1)) = s / w + 1 := by rw [w64 (by omega) (by omega)]; omega
  have q4 : wrap64 (-(-(s / w))) = s / w := by rw [w64 (by omega) (by omega)]; omega
  rw [q1, q2]
  have hx : (if -(s % w) < 0 then some (-(s / w) - 1) else some (-(s / w))).bind (fun t => some (wrap64 (-t))) = some (if -(s % w) < 0 then s / w + 1 else s / w) := by
    split <;> simp only [Option.bind_some, q3, q4]
  rw [hx]
  congr 1
  obtain rfl | rfl | rfl | rfl | rfl | rfl : w = 1 ∨ w = 2 ∨ w = 3 ∨ w = 4 ∨ w = 5 ∨ w = 6 := by omega
  all_goals (split <;> omega)
def grow (l : List Int) (a : Int) : Int := l.foldl max a
theorem grow_cons (x : Int) (l : List Int) (a : Int) : grow (x :: l) a = grow l (max a x) := rfl
theorem spec_lb_l0 (l : List Int) (hm : l.length ≤ 1048576) : ∀ (d k i : Nat) (s : Int), i + d = l.length → d < k → spec_LowerBound.l0 k l s (i : Int) = some (grow (l.drop i) s) := by
  intro d
  induction d with
  | zero =>
    intro k i s hi hk
    obtain ⟨k, rfl⟩ : ∃ m, k = m + 1 := ⟨k - 1, by omega⟩
    simp only [spec_LowerBound.l0]
    rw [if_neg (by omega), List.drop_of_length_le (by omega)]
    rfl
  | succ d ih =>
    intro k i s hi hk
    obtain ⟨k, rfl⟩ : ∃ m, k = m + 1 := ⟨k - 1, by omega⟩
    simp only [spec_LowerBound.l0]
    rw [if_pos (by omega), if_pos (by omega), rd_natD, w64_succ i (by omega), drop_getD l 0 i (by omega), grow_cons]
    by_cases c : l.getD i 0 > s
    · rw [if_pos c, ih k (i + 1) _ (by omega) (by omega), show max s (l.getD i 0) = l.getD i 0 by omega]
    · rw [if_neg c, ih k (i + 1) _ (by omega) (by omega), show max s (l.getD i 0) = s by omega]
theorem impl_lb_l0 (l : List Int) (hm : l.length ≤ 1048576) : ∀ (d k i : Nat) (s : Int), i + d = l.length → d < k → impl_LowerBound.l0 k s l (l.length : Int) (i : Int) = some (grow (l.drop i) s) := by
  intro d
  induction d with
  | zero =>
    intro k i s hi hk
    obtain ⟨k, rfl⟩ : ∃ m, k = m + 1 := ⟨k - 1, by omega⟩
    simp only [impl_LowerBound.l0]
    rw [if_neg (by omega), List.drop_of_length_le (by omega)]
    rfl
  | succ d ih =>
    intro k i s hi hk
    obtain ⟨k, rfl⟩ : ∃ m, k = m + 1 := ⟨k - 1, by omega⟩
    simp only [impl_LowerBound.l0]
    refine ifp (by omega) (ifp (by omega) (ifp (by omega) ?_))
    rw [rd_natD, w64_succ i (by omega), drop_getD l 0 i (by omega), grow_cons, mx_eq]
    exact ih k (i + 1) _ (by omega) (by omega)
def lowb (l : List Int) (w : Int) : Int := if jOk l = true ∧ 1 ≤ w ∧ w ≤ 6 then grow l ((total l + w - 1) / w) else -1
theorem spec_lowb (k : Nat) (l : List Int) (w : Int) (hm : l.length ≤ 1048576) (hk : l.length + 10 < k) : spec_LowerBound.f k l w = some (lowb l w) := by
  obtain ⟨k, rfl⟩ : ∃ m, k = m + 1 := ⟨k - 1, by omega⟩
  unfold spec_LowerBound.f lowb
  rw [spec_jOk _ l hm (by omega), spec_in]
  simp only [Option.bind_some, spec_LowerBound.j0]
  cases hj : jOk l with
  | false => simp
  | true =>
    by_cases hw : 1 ≤ w ∧ w ≤ 6
    · have hj' : l.length ≤ 40 ∧ l.all isJ = true := by simpa [jOk] using hj
      have hb := total_bd l hj'.2
      have hd : (0 : Int) ≤ (total l + w - 1) / w ∧ (total l + w - 1) / w ≤ total l + w - 1 := ⟨Int.ediv_nonneg (by omega) (by omega), Int.ediv_le_self _ (by omega)⟩
      simp only [hw, if_true, and_self, decide_true, Bool.not_true, Bool.false_eq_true, if_false]
      rw [spec_sum k l hm hj'.2 (by omega)]
      simp only [Option.bind_some]
      rw [if_neg (by omega), w64 (x := total l + w) (by omega) (by omega), w64 (x := total l + w - 1) (by omega) (by omega), tdiv_pos (by omega), w64 (by omega) (by omega)]
      have := spec_lb_l0 l hm l.length k 0 ((total l + w - 1) / w) (by omega) (by omega)
      simpa using this
    · simp [hw]
theorem impl_lowb (k : Nat) (l : List Int) (w : Int) (hm : l.length ≤ 1048576) (hk : l.length + 10 < k) : impl_LowerBound.f k l w = some (lowb l w) := by
  unfold impl_LowerBound.f lowb impl_arePlanned.f
  rw [impl_jOk _ l hm (by omega), impl_in_]
  simp only [Option.bind_some]
  cases hj : jOk l with
  | false => simp
  | true =>
    by_cases hw : 1 ≤ w ∧ w ≤ 6
    · have hj' : l.length ≤ 40 ∧ l.all isJ = true := by simpa [jOk] using hj
      have hb := total_bd l hj'.2
      simp only [hw, if_true, and_self, decide_true, Option.bind_some]
      rw [impl_sum_ k l hm hj'.2 (by omega)]
      simp only [Option.bind_some]
      rw [impl_up_ _ w hb.1 (by omega) hw.1 hw.2]
      have := impl_lb_l0 l hm l.length k 0 ((total l + w - 1) / w) (by omega) (by omega)
      simpa using this
    · simp [hw]


theorem FnExactLowerBound : laws_FnExactLowerBound.Pure := by
  intro l w hl _
  obtain ⟨k, hk⟩ : ∃ k : Nat, 1000000000 ≤ k := ⟨_, Nat.le_refl _⟩
  refine ⟨k, ?_⟩
  unfold laws_FnExactLowerBound.f

  by_cases hg : (l.length : Int) > 1048576
  · rw [if_pos hg]
  rw [if_neg hg]
  have ol : LB (fun _ => True) l := ⟨by omega, fun _ _ => trivial⟩

  have e1 := spec_lowb k l w ol.1 (by omega)
  have e2 := impl_lowb k l w ol.1 (by omega)
  repeat (first
    | (refine st e1 ?_; (try dsimp only))
    | (refine st e2 ?_; (try dsimp only))
    | (refine st (toIntS_ _ _ (by assumption) (by omega)) ?_; (try dsimp only))
    | (refine st (eqIntS_ _ _ (by assumption) (by omega)) ?_; (try dsimp only))
    | refine ifp rfl ?_
    | refine ifn (by omega) ?_
    | refine ifp (by omega) ?_
    | refine ifn (by simp) ?_
    | refine ifp (by simp) ?_
    | rfl)

end Go.Proofs.Ytecnioodkihceaa.Pure
