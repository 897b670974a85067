/- What is left of the statement FnExactLongestFirst once the Go functions are Lean functions: the program's LongestFirst and the reference's answer alike. No condition. -/
import Derived.Test.YtecnioodkihceaaQFnExactLongestFirstx6
import Derived.Test.YtecnioodkihceaaAid
set_option linter.unusedVariables false
set_option linter.unusedSimpArgs false
namespace Go.Proofs.Ytecnioodkihceaa.Pure
open Go.RowKit Go.Proofs.Ytecnioodkihceaa.QFnExactLongestFirst Go.Proofs.YtecnioodkihceaaW.PrintWords Go.Proofs.YtecnioodkihceaaW.PrintLast Go.Proofs.YtecnioodkihceaaW.PrintMore Go.Proofs.YtecnioodkihceaaW.Aid


theorem spec_in (x lo hi : Int) : spec_l01In.f x lo hi = some (decide (lo ≤ x ∧ x ≤ hi)) := by
  unfold spec_l01In.f
  split
  · simp_all
  · simp; omega
theorem impl_in_ (x lo hi : Int) : impl_in.f x lo hi = some (decide (lo ≤ x ∧ x ≤ hi)) := by
  unfold impl_in.f
  split
  · simp_all
  · simp; omega

def LB {α : Type} (P : α → Prop) (l : List α) : Prop := l.length ≤ 1048576 ∧ ∀ x ∈ l, P x
theorem LB.map {α β : Type} {P : α → Prop} {Q : β → Prop} {f : α → β} {l : List α} (hf : ∀ x, P x → Q (f x)) (h : LB P l) : LB Q (l.map f) := ⟨by simpa using h.1, fun y hy => by obtain ⟨x, hx, rfl⟩ := List.mem_map.1 hy; exact hf x (h.2 x hx)⟩
theorem map_getD {α β : Type} (f : α → β) (l : List α) (i : Nat) (h : i < l.length) (d : α) (d' : β) : (l.map f).getD i d' = f (l.getD i d) := by simp [h]
theorem toIntS_l0 (l : List (Int)) (ho : LB (fun _ => True) l) : ∀ (d k i : Nat) (y : List (Int)), i + d = l.length → d + 0 < k → y.length = l.length → y.take i = l.take i → laws_toIntS.l0 k l y (i : Int) = some l := by
  have hm := ho.1
  have hc : l.length = l.length := by rfl
  intro d
  induction d with
  | zero =>
    intro k i y hi hk hy ht
    obtain ⟨k, rfl⟩ : ∃ m, k = m + 1 := ⟨k - 1, by omega⟩
    simp only [laws_toIntS.l0]
    rw [if_neg (by omega), take_full hy hc (by rw [show l.length = i by omega]; exact ht)]
  | succ d ih =>
    intro k i y hi hk hy ht
    obtain ⟨k, rfl⟩ : ∃ m, k = m + 1 := ⟨k - 1, by omega⟩
    have hx := ho.2 _ (mem_getD l 0 i (by omega))
    simp only [laws_toIntS.l0, rd_L2, rd_T53, rd_natD, Int.toNat_natCast]
    repeat (first | refine ifp rfl ?_ | refine ifp (by omega) ?_ | refine ifp (by simp) ?_ | refine ifn (by simp) ?_)
    rw [w64_succ i (by omega)]
    refine ih k (i + 1) _ (by omega) (by omega) (by simpa using hy) ?_
    rw [take_set_succ _ _ _ (by omega), ht, take_succ_getD l 0 i (by omega)]
theorem toIntS_ (k : Nat) (l : List (Int)) (ho : LB (fun _ => True) l) (hk : 1048580 ≤ k) : laws_toIntS.f k l = some l := by
  have hm := ho.1
  unfold laws_toIntS.f
  rw [if_pos (by omega), if_pos (by simp; omega)]
  exact toIntS_l0 l ho l.length k 0 _ (by omega) (by omega) (by simp) (by simp)
theorem eqIntS_l0 (l : List (Int)) (ho : LB (fun _ => True) l) : ∀ (d k i : Nat), i + d = l.length → d + 0 < k → laws_eqIntS.l0 k l l (i : Int) = some true := by
  have hm := ho.1
  intro d
  induction d with
  | zero =>
    intro k i hi hk
    obtain ⟨k, rfl⟩ : ∃ m, k = m + 1 := ⟨k - 1, by omega⟩
    simp only [laws_eqIntS.l0]
    rw [if_neg (by omega)]
  | succ d ih =>
    intro k i hi hk
    obtain ⟨k, rfl⟩ : ∃ m, k = m + 1 := ⟨k - 1, by omega⟩
    have hx := ho.2 _ (mem_getD l 0 i (by omega))
    simp only [laws_eqIntS.l0, rd_L2, rd_T53, rd_natD, Int.toNat_natCast]
    repeat (first | refine ifp rfl ?_ | refine ifp (by omega) ?_ | refine ifp (by simp) ?_ | refine ifn (by simp) ?_)
    rw [w64_succ i (by omega)]
    exact ih k (i + 1) (by omega) (by omega)
theorem eqIntS_ (k : Nat) (l : List (Int)) (ho : LB (fun _ => True) l) (hk : 1048580 ≤ k) : laws_eqIntS.f k l l = some true := by
  have hm := ho.1
  unfold laws_eqIntS.f
  rw [if_pos rfl]
  exact eqIntS_l0 l ho l.length k 0 (by omega) (by omega)
theorem eqSlot_ (a0_0 : Int) (a0_1 : Int) (a0_2 : Int) (a0_3 : Int) : laws_eqSlot.f a0_0 a0_1 a0_2 a0_3 a0_0 a0_1 a0_2 a0_3 = some true := by
  unfold laws_eqSlot.f
  repeat (first | refine ifp rfl ?_ | refine ifp (by omega) ?_ | refine ifp (by simp) ?_ | refine ifn (by simp) ?_ | rfl)
def Ok53 (x : S53) : Prop := True
theorem eqSlotS_l0 (l : List (S53)) (ho : LB Ok53 l) : ∀ (d k i : Nat), i + d = l.length → d + 0 < k → laws_eqSlotS.l0 k l l (i : Int) = some true := by
  have hm := ho.1
  intro d
  induction d with
  | zero =>
    intro k i hi hk
    obtain ⟨k, rfl⟩ : ∃ m, k = m + 1 := ⟨k - 1, by omega⟩
    simp only [laws_eqSlotS.l0]
    rw [if_neg (by omega)]
  | succ d ih =>
    intro k i hi hk
    obtain ⟨k, rfl⟩ : ∃ m, k = m + 1 := ⟨k - 1, by omega⟩
    have hx := ho.2 _ (mem_getD l z53 i (by omega))
    simp only [laws_eqSlotS.l0, rd_L2, rd_T53, rd_natD, Int.toNat_natCast]
    repeat (first | (refine st (eqSlot_ _ _ _ _) ?_; (try dsimp only)) | refine ifp rfl ?_ | refine ifp (by omega) ?_ | refine ifp (by simp) ?_ | refine ifn (by simp) ?_)
    rw [w64_succ i (by omega)]
    exact ih k (i + 1) (by omega) (by omega)
theorem eqSlotS_ (k : Nat) (l : List (S53)) (ho : LB Ok53 l) (hk : 1048580 ≤ k) : laws_eqSlotS.f k l l = some true := by
  have hm := ho.1
  unfold laws_eqSlotS.f
  rw [if_pos rfl]
  exact eqSlotS_l0 l ho l.length k 0 (by omega) (by omega)
theorem markSlotS_l0 (B : Int) (hB : B ≤ 9000000000000000000) : ∀ (d k i : Nat) (l : List (S53)) (m : Int), i + d = l.length → d < k → l.length ≤ 1048576 → 0 ≤ m → m + 4 * d ≤ B → ∃ r y, laws_markSlotS.l0 k l m (i : Int) = some (r, y) ∧ 0 ≤ r ∧ r ≤ B := by
  intro d
  induction d with
  | zero =>
    intro k i l m hi hk hl h0 h1
    obtain ⟨k, rfl⟩ : ∃ m, k = m + 1 := ⟨k - 1, by omega⟩
    exact ⟨m, l, by simp only [laws_markSlotS.l0]; rw [if_neg (by omega)], h0, by omega⟩
  | succ d ih =>
    intro k i l m hi hk hl h0 h1
    obtain ⟨k, rfl⟩ : ∃ m, k = m + 1 := ⟨k - 1, by omega⟩
    have q0 : wrap64 (m + 1) = m + 1 := w64 (by omega) (by omega)
    have q1 : wrap64 (m + 1 + 1) = m + 1 + 1 := w64 (by omega) (by omega)
    have q2 : wrap64 (m + 1 + 1 + 1) = m + 1 + 1 + 1 := w64 (by omega) (by omega)
    have q3 : wrap64 (m + 1 + 1 + 1 + 1) = m + 1 + 1 + 1 + 1 := w64 (by omega) (by omega)
    have c1 : (i : Int) < (l.length : Int) := by omega
    have c2 : (0 : Int) ≤ (i : Int) := by omega
    simp only [laws_markSlotS.l0, if_pos c1, if_pos c2, Option.bind_some, q0, q1, q2, q3, w64_succ i (by omega)]
    exact ih k (i + 1) _ _ (by simp; omega) (by omega) (by simp; omega) (by omega) (by omega)
theorem markSlotS_ (k : Nat) (l : List (S53)) (m : Int) (hl : l.length ≤ 1048576) (h0 : 0 ≤ m) (h1 : m ≤ 1000000000) (hk : 1048580 ≤ k) : ∃ r y, laws_markSlotS.f k l m = some (r, y) ∧ 0 ≤ r ∧ r ≤ m + 4 * l.length := markSlotS_l0 _ (by omega) l.length k 0 l m (by omega) (by omega) hl h0 (by omega)

def isJ (x : Int) : Bool := decide (1 ≤ x ∧ x ≤ 1000)
def jOk (l : List Int) : Bool := decide (l.length ≤ 40) && l.all isJ
theorem all_dropJ (l : List Int) (i : Nat) (h : i < l.length) : (l.drop i).all isJ = (isJ (l.getD i 0) && (l.drop (i + 1)).all isJ) := by
  rw [drop_getD l 0 i h]; rfl
theorem spec_jOk_l0 (l : List Int) (hm : l.length ≤ 1048576) : ∀ (d k i : Nat), i + d = l.length → d < k → spec_JobsOk.l0 k l (i : Int) = some ((l.drop i).all isJ) := by
  intro d
  induction d with
  | zero =>
    intro k i hi hk
    obtain ⟨k, rfl⟩ : ∃ m, k = m + 1 := ⟨k - 1, by omega⟩
    simp only [spec_JobsOk.l0]
    rw [if_neg (by omega), List.drop_of_length_le (by omega)]
    rfl
  | succ d ih =>
    intro k i hi hk
    obtain ⟨k, rfl⟩ : ∃ m, k = m + 1 := ⟨k - 1, by omega⟩
    simp only [spec_JobsOk.l0]
    rw [if_pos (by omega), if_pos (by omega), all_dropJ l i (by omega), w64_succ i (by omega), ih k (i + 1) (by omega) (by omega), spec_in, rd_natD]
    simp only [Option.bind_some]
    cases h : isJ (l.getD i 0) with
    | false => rw [if_neg (by simpa [isJ] using h)]; rfl
    | true => rw [if_pos (by simpa [isJ] using h)]; rfl
theorem spec_jOk (k : Nat) (l : List Int) (hm : l.length ≤ 1048576) (hk : l.length < k) : spec_JobsOk.f k l = some (jOk l) := by
  unfold spec_JobsOk.f jOk
  by_cases h : (l.length : Int) > 40
  · rw [if_pos h]
    have : ¬ l.length ≤ 40 := by omega
    simp [this]
  · rw [if_neg h]
    have h' : l.length ≤ 40 := by omega
    have := spec_jOk_l0 l hm l.length k 0 (by omega) hk
    simpa [h'] using this
theorem jidx_l0 (l : List Int) (hm : l.length ≤ 1048576) : ∀ (d k i : Nat), i + d = l.length → d < k →
    ∃ r, slices_IndexFunc_int_int_at_49.l0 k l (l.length : Int) (i : Int) = some r ∧ (0 ≤ r ↔ (l.drop i).all isJ = false) := by
  intro d
  induction d with
  | zero =>
    intro k i hi hk
    obtain ⟨k, rfl⟩ : ∃ m, k = m + 1 := ⟨k - 1, by omega⟩
    simp only [slices_IndexFunc_int_int_at_49.l0]
    rw [if_neg (by omega), List.drop_of_length_le (by omega)]
    exact ⟨-1, rfl, by simp⟩
  | succ d ih =>
    intro k i hi hk
    obtain ⟨k, rfl⟩ : ∃ m, k = m + 1 := ⟨k - 1, by omega⟩
    simp only [slices_IndexFunc_int_int_at_49.l0]
    rw [if_pos (by omega), if_pos (by omega), if_pos (by omega), all_dropJ l i (by omega)]
    unfold impl_JobsOk_1.f
    simp only [impl_in_, Option.bind_some, rd_natD]
    cases hr : isJ (l.getD i 0) with
    | false =>
      have : ¬ (1 ≤ l.getD i 0 ∧ l.getD i 0 ≤ 1000) := by simpa [isJ] using hr
      exact ⟨i, by simp only [this]; simp, by simp⟩
    | true =>
      have : (1 ≤ l.getD i 0 ∧ l.getD i 0 ≤ 1000) := by simpa [isJ] using hr
      obtain ⟨r, h1, h2⟩ := ih k (i + 1) (by omega) (by omega)
      refine ⟨r, ?_, by simpa using h2⟩
      rw [w64_succ i (by omega)]
      simp only [this, and_self]
      simpa using h1
theorem impl_jOk (k : Nat) (l : List Int) (hm : l.length ≤ 1048576) (hk : l.length < k) : impl_JobsOk.f k l = some (jOk l) := by
  obtain ⟨r, h1, h2⟩ := jidx_l0 l hm l.length k 0 (by omega) hk
  have h1' : slices_IndexFunc_int_int_at_49.f k l = some r := h1
  unfold impl_JobsOk.f slices_ContainsFunc_int_int_at_49.f jOk
  rw [h1']
  rw [List.drop_zero] at h2
  simp only [Option.bind_some]
  by_cases h : (l.length : Int) ≤ 40
  · rw [if_pos h]
    have h' : l.length ≤ 40 := by omega
    cases ha : l.all isJ with
    | false => rw [ha] at h2; have := h2.2 rfl; simp [this]
    | true => rw [ha] at h2; have : ¬ 0 ≤ r := fun z => absurd (h2.1 z) (by simp); simp [h']; omega
  · rw [if_neg h]
    have h' : ¬ l.length ≤ 40 := by omega
    simp [h']

theorem jOk_len {l : List Int} (h : jOk l = true) : l.length ≤ 40 := by
  simp only [jOk, Bool.and_eq_true, decide_eq_true_eq] at h
  exact h.1

theorem markIntS_l0 (n : Nat) (m0 : Int) (h0 : 0 ≤ m0) (h1 : m0 + n ≤ 9223372036854775806) : ∀ (d k i : Nat) (x : List Int), i + d = n → d < k → x.length = n → x.take i = marks m0 i → laws_markIntS.l0 k x (m0 + i) (i : Int) = some (m0 + n, marks m0 n) := by
  intro d
  induction d with
  | zero =>
    intro k i x hi hk hx ht
    obtain ⟨k, rfl⟩ : ∃ m, k = m + 1 := ⟨k - 1, by omega⟩
    simp only [laws_markIntS.l0]
    rw [if_neg (by omega), show i = n by omega]
    rw [show i = n by omega, List.take_of_length_le (by omega)] at ht
    rw [ht]
  | succ d ih =>
    intro k i x hi hk hx ht
    obtain ⟨k, rfl⟩ : ∃ m, k = m + 1 := ⟨k - 1, by omega⟩
    simp only [laws_markIntS.l0]
    rw [if_pos (by omega), if_pos (by omega), w64_succ i (by omega), w64 (x := m0 + i + 1) (by omega) (by omega)]
    have := ih k (i + 1) (x.set i (m0 + i)) (by omega) (by omega) (by simpa using hx) (by rw [take_set_succ _ _ _ (by omega), ht, marks_snoc])
    rw [show m0 + ((i + 1 : Nat) : Int) = m0 + i + 1 by omega] at this
    simpa using this
theorem markIntS_ (k : Nat) (l : List Int) (m : Int) (hk : l.length < k) (h0 : 0 ≤ m) (h1 : m + l.length ≤ 9223372036854775806) : laws_markIntS.f k l m = some (m + l.length, marks m l.length) := by
  unfold laws_markIntS.f
  have := markIntS_l0 l.length m h0 h1 l.length k 0 l (by omega) hk rfl (by simp [marks])
  simpa using this

/-- The first of the least, from place j on, best so far b. -/
def amin (free : List Int) : Nat → Nat → Nat → Nat
  | 0, _, b => b
  | d + 1, j, b => amin free d (j + 1) (if free.getD j 0 < free.getD b 0 then j else b)
theorem amin_lt (free : List Int) (n : Nat) : ∀ (d j b : Nat), j + d ≤ n → b < n → amin free d j b < n := by
  intro d
  induction d with
  | zero => intro j b _ hb; exact hb
  | succ d ih =>
    intro j b hj hb
    rw [amin]
    apply ih
    · omega
    · split <;> omega
/-- A list plan: each job of the order on the worker that is free first. -/
def planL (jobs : List Int) (w : Nat) : List Int → List Int → List S53
  | [], _ => []
  | o :: r, free => ⟨o, (amin free (w - 1) 1 0 : Nat), free.getD (amin free (w - 1) 1 0) 0, wrap64 (free.getD (amin free (w - 1) 1 0) 0 + rd jobs o)⟩ :: planL jobs w r (free.set (amin free (w - 1) 1 0) (wrap64 (free.getD (amin free (w - 1) 1 0) 0 + rd jobs o)))
theorem planL_len (jobs : List Int) (w : Nat) (order : List Int) : ∀ free, (planL jobs w order free).length = order.length := by
  induction order with
  | nil => intro free; rfl
  | cons o r ih => intro free; simp [planL, ih]
theorem spec_plan_in (jobs : List Int) (w : Nat) (hw1 : 1 ≤ w) (hw : w ≤ 6) (order : List Int) (out : List S53) (free : List Int) (hf : free.length = w) (i : Nat) (hi : i < order.length) (hom : order.length ≤ 100) (ho : 0 ≤ order.getD i 0 ∧ order.getD i 0 < (jobs.length : Int)) (hout : out.length ≤ 100) (K : Nat) : ∀ (d k j b : Nat), j + d = w → b < w → 1 ≤ j → K + d + 1 ≤ k →
    ∃ k', K ≤ k' ∧ spec_l12Plan.l1 k jobs (w : Int) order out free (i : Int) (b : Int) (j : Int) =
      spec_l12Plan.l0 k' jobs (w : Int) order (out ++ [(⟨order.getD i 0, (amin free d j b : Nat), free.getD (amin free d j b) 0, wrap64 (free.getD (amin free d j b) 0 + rd jobs (order.getD i 0))⟩ : S53)]) (free.set (amin free d j b) (wrap64 (free.getD (amin free d j b) 0 + rd jobs (order.getD i 0)))) ((i + 1 : Nat) : Int) := by
  intro d
  induction d with
  | zero =>
    intro k j b hj hb h1 hk
    obtain ⟨k, rfl⟩ : ∃ m, k = m + 1 := ⟨k - 1, by omega⟩
    refine ⟨k, by omega, ?_⟩
    rw [spec_l12Plan.l1, amin]
    simp only [rd_natD, Int.toNat_natCast, w64_succ i (by omega)]
    exact ifn (by omega) (ifp (by omega) (ifp (by omega) (ifp (by omega) (ifp (by omega) (ifp ho.1 (ifp ho.2 (ifp (by omega) rfl)))))))
  | succ d ih =>
    intro k j b hj hb h1 hk
    obtain ⟨k, rfl⟩ : ∃ m, k = m + 1 := ⟨k - 1, by omega⟩
    rw [spec_l12Plan.l1, w64_succ j (by omega)]
    by_cases c : free.getD j 0 < free.getD b 0
    · obtain ⟨k', g1, g2⟩ := ih k (j + 1) j (by omega) (by omega) (by omega) (by omega)
      have hv : amin free (d + 1) j b = amin free d (j + 1) j := by rw [amin, if_pos c]
      have hc : rd free (j : Int) < rd free (b : Int) := c
      rw [hv]
      exact ⟨k', g1, ifp (by omega) (ifp (by omega) (ifp (by omega) (ifp (by omega) (ifp (by omega) (ifp hc g2)))))⟩
    · obtain ⟨k', g1, g2⟩ := ih k (j + 1) b (by omega) (by omega) (by omega) (by omega)
      have hv : amin free (d + 1) j b = amin free d (j + 1) b := by rw [amin, if_neg c]
      have hc : ¬ rd free (j : Int) < rd free (b : Int) := c
      rw [hv]
      exact ⟨k', g1, ifp (by omega) (ifp (by omega) (ifp (by omega) (ifp (by omega) (ifp (by omega) (ifn hc g2)))))⟩
theorem spec_plan_l0 (jobs : List Int) (w : Nat) (hw1 : 1 ≤ w) (hw : w ≤ 6) (order : List Int) (hom : order.length ≤ 100) (ho : ∀ x ∈ order, 0 ≤ x ∧ x < (jobs.length : Int)) : ∀ (d k i : Nat) (out : List S53) (free : List Int), i + d = order.length → (d + 1) * 20 ≤ k → out.length ≤ i → free.length = w →
    spec_l12Plan.l0 k jobs (w : Int) order out free (i : Int) = some (out ++ planL jobs w (order.drop i) free) := by
  intro d
  induction d with
  | zero =>
    intro k i out free hi hk h1 hf
    obtain ⟨k, rfl⟩ : ∃ m, k = m + 1 := ⟨k - 1, by omega⟩
    rw [List.drop_of_length_le (by omega), spec_l12Plan.l0, planL, List.append_nil]
    exact ifn (by omega) rfl
  | succ d ih =>
    intro k i out free hi hk h1 hf
    obtain ⟨k, rfl⟩ : ∃ m, k = m + 1 := ⟨k - 1, by omega⟩
    rw [spec_l12Plan.l0, drop_getD order 0 i (by omega), planL]
    obtain ⟨k', g1, g2⟩ := spec_plan_in jobs w hw1 hw order out free hf i (by omega) hom (ho _ (mem_getD order 0 i (by omega))) (by omega) ((d + 1) * 20) (w - 1) k 1 0 (by omega) (by omega) (by omega) (by omega)
    have g3 := ih k' (i + 1) (out ++ [(⟨order.getD i 0, (amin free (w - 1) 1 0 : Nat), free.getD (amin free (w - 1) 1 0) 0, wrap64 (free.getD (amin free (w - 1) 1 0) 0 + rd jobs (order.getD i 0))⟩ : S53)]) (free.set (amin free (w - 1) 1 0) (wrap64 (free.getD (amin free (w - 1) 1 0) 0 + rd jobs (order.getD i 0)))) (by omega) g1 (by simp; omega) (by simpa using hf)
    rw [List.append_cons]
    exact ifp (by omega) (g2.trans g3)
theorem spec_plan (k : Nat) (jobs : List Int) (w : Int) (hw1 : 1 ≤ w) (hw : w ≤ 6) (order : List Int) (hom : order.length ≤ 100) (ho : ∀ x ∈ order, 0 ≤ x ∧ x < (jobs.length : Int)) (hk : 2100 ≤ k) : spec_l12Plan.f k jobs w order = some (planL jobs w.toNat order (List.replicate w.toNat 0)) := by
  obtain ⟨n, rfl⟩ := Int.eq_ofNat_of_zero_le (show 0 ≤ w by omega)
  unfold spec_l12Plan.f
  have := spec_plan_l0 jobs n (by omega) (by omega) order hom ho order.length k 0 [] (List.replicate n 0) (by omega) (by omega) (by simp) (by simp)
  simp only [List.nil_append, List.drop_zero] at this
  exact ifp (by omega) (ifp (by simp; omega) this)
/-- 0, 1, .., n - 1, from i on. -/
def upTo : Nat → Nat → List Int
  | _, 0 => []
  | i, n + 1 => (i : Int) :: upTo (i + 1) n
theorem upTo_len : ∀ n i, (upTo i n).length = n := by
  intro n
  induction n with
  | zero => intro i; rfl
  | succ n ih => intro i; simp [upTo, ih]
theorem upTo_mem : ∀ n i, ∀ x ∈ upTo i n, (i : Int) ≤ x ∧ x < (i : Int) + n := by
  intro n
  induction n with
  | zero => intro i x hx; simp [upTo] at hx
  | succ n ih =>
    intro i x hx
    simp only [upTo, List.mem_cons] at hx
    rcases hx with rfl | hx
    · omega
    · have := ih (i + 1) x hx
      omega
def isPl (jobs : List Int) (w : Int) : Bool := jOk jobs && decide (1 ≤ w ∧ w ≤ 6)

/-- i put ahead of the first that is less. -/
def insL (jobs : List Int) (i : Int) : List Int → List Int
  | [] => [i]
  | o :: r => if rd jobs i > rd jobs o then i :: o :: r else o :: insL jobs i r
/-- The longest first, of those alike by place: of the first n. -/
def ordL (jobs : List Int) : Nat → List Int
  | 0 => []
  | n + 1 => insL jobs (n : Int) (ordL jobs n)
theorem insL_len (jobs : List Int) (i : Int) (l : List Int) : (insL jobs i l).length = l.length + 1 := by
  induction l with
  | nil => rfl
  | cons o r ih =>
    simp only [insL]
    split
    · simp
    · simp [ih]
theorem insL_mem (jobs : List Int) (i x : Int) (l : List Int) : x ∈ insL jobs i l ↔ x = i ∨ x ∈ l := by
  induction l with
  | nil => simp [insL]
  | cons o r ih =>
    simp only [insL]
    split
    · simp
    · simp only [List.mem_cons, ih]
      constructor
      · rintro (h | h | h)
        · exact .inr (.inl h)
        · exact .inl h
        · exact .inr (.inr h)
      · rintro (h | h | h)
        · exact .inr (.inl h)
        · exact .inl h
        · exact .inr (.inr h)
theorem ordL_len (jobs : List Int) (n : Nat) : (ordL jobs n).length = n := by
  induction n with
  | zero => rfl
  | succ n ih => rw [ordL, insL_len, ih]
theorem ordL_mem (jobs : List Int) (n : Nat) : ∀ x ∈ ordL jobs n, 0 ≤ x ∧ x < (n : Int) := by
  induction n with
  | zero => intro x hx; simp [ordL] at hx
  | succ n ih =>
    intro x hx
    rw [ordL, insL_mem] at hx
    rcases hx with rfl | hx
    · omega
    · have := ih x hx
      omega
/-- Behind the place where it was put: the rest. -/
theorem long_put (jobs : List Int) (w : Int) (order : List Int) (i : Nat) (hi : i < 40) (ho : order.length ≤ 40) (K : Nat) : ∀ (d k j : Nat) (nx : List Int), j + d = order.length → K + d + 1 ≤ k → nx.length ≤ 100 - d →
    ∃ k', K ≤ k' ∧ spec_LongestFirst.l1 k jobs w order (i : Int) nx true (j : Int) = spec_LongestFirst.l0 k' jobs w (nx ++ order.drop j) ((i + 1 : Nat) : Int) := by
  intro d
  induction d with
  | zero =>
    intro k j nx hj hk hn
    obtain ⟨k, rfl⟩ : ∃ m, k = m + 1 := ⟨k - 1, by omega⟩
    refine ⟨k, by omega, ?_⟩
    rw [spec_LongestFirst.l1, List.drop_of_length_le (by omega), List.append_nil, w64_succ i (by omega)]
    exact ifn (by omega) (ifp (by trivial) rfl)
  | succ d ih =>
    intro k j nx hj hk hn
    obtain ⟨k, rfl⟩ : ∃ m, k = m + 1 := ⟨k - 1, by omega⟩
    obtain ⟨k', g1, g2⟩ := ih k (j + 1) (nx ++ [order.getD j 0]) (by omega) (by omega) (by simp; omega)
    refine ⟨k', g1, ?_⟩
    have ea : nx ++ order.getD j 0 :: order.drop (j + 1) = nx ++ [order.getD j 0] ++ order.drop (j + 1) := by simp
    rw [spec_LongestFirst.l1, drop_getD order 0 j (by omega), ea, w64_succ j (by omega)]
    simp only [rd_natD]
    exact ifp (by omega) (ifp (by trivial) (ifp (by omega) (ifp (by omega) g2)))
theorem long_in (jobs : List Int) (w : Int) (order : List Int) (i : Nat) (hij : i < jobs.length) (hi : i < 40) (ho : order.length ≤ 40) (hom : ∀ x ∈ order, 0 ≤ x ∧ x < (jobs.length : Int)) (K : Nat) : ∀ (d k j : Nat) (nx : List Int), j + d = order.length → K + d + 2 ≤ k → nx.length ≤ 90 - d →
    ∃ k', K ≤ k' ∧ spec_LongestFirst.l1 k jobs w order (i : Int) nx false (j : Int) = spec_LongestFirst.l0 k' jobs w (nx ++ insL jobs (i : Int) (order.drop j)) ((i + 1 : Nat) : Int) := by
  intro d
  induction d with
  | zero =>
    intro k j nx hj hk hn
    obtain ⟨k, rfl⟩ : ∃ m, k = m + 1 := ⟨k - 1, by omega⟩
    refine ⟨k, by omega, ?_⟩
    rw [spec_LongestFirst.l1, List.drop_of_length_le (by omega), insL, w64_succ i (by omega)]
    exact ifn (by omega) (ifn (by simp) (ifp (by omega) rfl))
  | succ d ih =>
    intro k j nx hj hk hn
    obtain ⟨k, rfl⟩ : ∃ m, k = m + 1 := ⟨k - 1, by omega⟩
    have hm := hom _ (mem_getD order 0 j (by omega))
    have e1 : rd order (j : Int) = order.getD j 0 := rd_natD order j
    rw [spec_LongestFirst.l1, drop_getD order 0 j (by omega), e1, w64_succ j (by omega)]
    by_cases c : rd jobs (i : Int) > rd jobs (order.getD j 0)
    · obtain ⟨k', g1, g2⟩ := long_put jobs w order i hi ho K d k (j + 1) (nx ++ [(i : Int)] ++ [order.getD j 0]) (by omega) (by omega) (by simp; omega)
      refine ⟨k', g1, ?_⟩
      have e2 : nx ++ insL jobs (i : Int) (order.getD j 0 :: order.drop (j + 1)) = nx ++ [(i : Int)] ++ [order.getD j 0] ++ order.drop (j + 1) := by rw [insL, if_pos c]; simp
      rw [e2]
      exact ifp (by omega) (ifn (by simp) (ifp (by omega) (ifp (by omega) (ifp (by omega) (ifp hm.1 (ifp hm.2 (ifp c (ifp (by omega) (st rfl (ifp (by simp; omega) g2))))))))))
    · obtain ⟨k', g1, g2⟩ := ih k (j + 1) (nx ++ [order.getD j 0]) (by omega) (by omega) (by simp; omega)
      refine ⟨k', g1, ?_⟩
      have e2 : nx ++ insL jobs (i : Int) (order.getD j 0 :: order.drop (j + 1)) = nx ++ [order.getD j 0] ++ insL jobs (i : Int) (order.drop (j + 1)) := by rw [insL, if_neg c]; simp
      rw [e2]
      exact ifp (by omega) (ifn (by simp) (ifp (by omega) (ifp (by omega) (ifp (by omega) (ifp hm.1 (ifp hm.2 (ifn c (ifp (by omega) g2))))))))
def longPl (jobs : List Int) (w : Int) : List S53 := planL jobs w.toNat (ordL jobs jobs.length) (List.replicate w.toNat 0)
theorem spec_long_l0 (jobs : List Int) (w : Int) (hw1 : 1 ≤ w) (hw : w ≤ 6) (hj : jobs.length ≤ 40) : ∀ (d k i : Nat), i + d = jobs.length → 60 * d + 2260 ≤ k → spec_LongestFirst.l0 k jobs w (ordL jobs i) (i : Int) = some (longPl jobs w, true) := by
  intro d
  induction d with
  | zero =>
    intro k i hi hk
    obtain ⟨k, rfl⟩ : ∃ m, k = m + 1 := ⟨k - 1, by omega⟩
    have hi2 : i = jobs.length := by omega
    rw [spec_LongestFirst.l0]
    refine ifn (by omega) (st (spec_plan k jobs w hw1 hw _ (by rw [ordL_len]; omega) (fun x hx => by have := ordL_mem _ _ x hx; omega) (by omega)) ?_)
    rw [hi2]; rfl
  | succ d ih =>
    intro k i hi hk
    obtain ⟨k, rfl⟩ : ∃ m, k = m + 1 := ⟨k - 1, by omega⟩
    have hl := ordL_len jobs i
    have hm2 : ∀ x ∈ ordL jobs i, 0 ≤ x ∧ x < (jobs.length : Int) := fun x hx => by
      have := ordL_mem _ _ x hx
      omega
    have hij : i < jobs.length := by omega
    have hi40 : i < 40 := by omega
    have ho40 : (ordL jobs i).length ≤ 40 := by omega
    have hz : 0 + (ordL jobs i).length = (ordL jobs i).length := Nat.zero_add _
    have hn : ([] : List Int).length ≤ 90 - (ordL jobs i).length := Nat.zero_le _
    obtain ⟨K, hK⟩ : ∃ K, K = 60 * d + 2260 := ⟨_, rfl⟩
    have hk3 : K + (ordL jobs i).length + 2 ≤ k := by
      clear ih hm2
      omega
    obtain ⟨k', g1, g2⟩ := long_in jobs w (ordL jobs i) i hij hi40 ho40 hm2 K (ordL jobs i).length k 0 [] hz hk3 hn
    have z0 : ((0 : Nat) : Int) = 0 := rfl
    rw [z0, List.nil_append, List.drop_zero] at g2
    rw [hK] at g1
    have g3 := ih k' (i + 1) (by omega) g1
    rw [spec_LongestFirst.l0]
    exact ifp (by omega) (g2.trans g3)
theorem spec_longpl (k : Nat) (jobs : List Int) (w : Int) (hm : jobs.length ≤ 1048576) (hk : 1048600 ≤ k) : spec_LongestFirst.f k jobs w = some (if isPl jobs w = true then (longPl jobs w, true) else ([], false)) := by
  obtain ⟨k, rfl⟩ : ∃ m, k = m + 1 := ⟨k - 1, by omega⟩
  unfold spec_LongestFirst.f isPl
  rw [spec_jOk (k + 1) jobs hm (by omega)]
  simp only [Option.bind_some, spec_in]
  by_cases c1 : jOk jobs = true
  · have hj := jOk_len c1
    rw [if_pos c1, c1, Bool.true_and]
    by_cases c2 : 1 ≤ w ∧ w ≤ 6
    · rw [decide_eq_true c2, if_pos rfl, spec_LongestFirst.j0]
      exact ifn (by simp) (spec_long_l0 jobs w c2.1 c2.2 hj jobs.length k 0 (by omega) (by omega))
    · rw [decide_eq_false c2, if_neg (by simp), spec_LongestFirst.j0]
      exact ifp rfl rfl
  · have c1f : jOk jobs = false := by simpa using c1
    rw [if_neg c1, c1f, Bool.false_and, if_neg (by simp), spec_LongestFirst.j0]
    exact ifp rfl rfl

/-- The order that the stable sort lays: by key, of those alike by place. -/
def leK (kf : Int → Int) (l : List Int) (x y : Int) : Prop := kf (rd l x) < kf (rd l y) ∨ kf (rd l x) = kf (rd l y) ∧ x ≤ y
theorem leK_anti (kf : Int → Int) (l : List Int) (x y : Int) (h1 : leK kf l x y) (h2 : leK kf l y x) : x = y := by
  unfold leK at h1 h2
  omega
theorem places_sorted (kf : Int → Int) (l : List Int) : (Go.Proofs.YtecnioodkihceaaW.Plc.placesL kf l).Perm (Go.Proofs.YtecnioodkihceaaW.Plc.upL l.length) ∧ (Go.Proofs.YtecnioodkihceaaW.Plc.placesL kf l).Pairwise (leK kf l) := by
  by_cases h : 0 < l.length
  · unfold Go.Proofs.YtecnioodkihceaaW.Plc.placesL
    rw [dif_pos h]
    letI I : Inhabited (Fin l.length) := ⟨⟨0, h⟩⟩
    have e : Go.Proofs.ltOf (Go.Proofs.YtecnioodkihceaaW.Plc.cfP (N := l.length) kf l) = Go.Proofs.YtecnioodkihceaaW.Stab.ltK (fun x : Fin l.length => kf (l.getD x.val 0)) := by
      funext x y
      unfold Go.Proofs.ltOf Go.Proofs.YtecnioodkihceaaW.Plc.cfP Go.Proofs.YtecnioodkihceaaW.Stab.ltK Go.Lib.compareInt
      congr 1
      apply propext
      dsimp only
      repeat' split
      all_goals omega
    rw [e]
    have hs : (Go.Proofs.YtecnioodkihceaaW.Plc.D0 l.length).size = l.length := Go.Proofs.YtecnioodkihceaaW.Plc.D0_size _
    obtain ⟨hp, hq⟩ := Go.Proofs.YtecnioodkihceaaW.Stab.stab_spec (fun x : Fin l.length => kf (l.getD x.val 0)) (fun x : Fin l.length => (x.val : Int)) (Go.Proofs.YtecnioodkihceaaW.Plc.D0 l.length) (fun p q h1 h2 => by
      rw [hs] at h2
      show ((Go.Proofs.YtecnioodkihceaaW.Plc.D0 l.length)[p]!.val : Int) < ((Go.Proofs.YtecnioodkihceaaW.Plc.D0 l.length)[q]!.val : Int)
      rw [Go.Proofs.YtecnioodkihceaaW.Plc.D0_get p (by omega), Go.Proofs.YtecnioodkihceaaW.Plc.D0_get q h2]
      omega)
    have hz : (Go.Proofs.YtecnioodkihceaaW.Stab.stab (Go.Proofs.YtecnioodkihceaaW.Stab.ltK (fun x : Fin l.length => kf (l.getD x.val 0))) (Go.Proofs.YtecnioodkihceaaW.Plc.D0 l.length)).size = l.length := by rw [hp.1, hs]
    have hp2 := hp.2.2
    rw [hs] at hp2 hq
    generalize Go.Proofs.YtecnioodkihceaaW.Stab.stab (Go.Proofs.YtecnioodkihceaaW.Stab.ltK (fun x : Fin l.length => kf (l.getD x.val 0))) (Go.Proofs.YtecnioodkihceaaW.Plc.D0 l.length) = R at hp2 hq hz ⊢
    have x1 : (R.extract 0 l.length) = R := by
      apply Array.ext
      · simp [hz]
      · intro i h1 h2; simp
    have x2 : ((Go.Proofs.YtecnioodkihceaaW.Plc.D0 l.length).extract 0 l.length) = Go.Proofs.YtecnioodkihceaaW.Plc.D0 l.length := by
      have := Go.Proofs.YtecnioodkihceaaW.Plc.D0_size l.length
      apply Array.ext
      · simp [this]
      · intro i h1 h2; simp
    rw [x1, x2] at hp2
    refine ⟨?_, ?_⟩
    · have := hp2.map (fun x : Fin l.length => (x.val : Int))
      refine this.trans (List.Perm.of_eq ?_)
      unfold Go.Proofs.YtecnioodkihceaaW.Plc.D0 Go.Proofs.YtecnioodkihceaaW.Plc.upL
      apply List.ext_getElem
      · simp
      · intro i h1 h2; simp
    · rw [List.pairwise_iff_getElem]
      intro i j hi hj hij
      rw [List.length_map, Array.length_toList] at hi hj
      have g := hq i j (by omega) hij (by omega)
      unfold Go.Proofs.YtecnioodkihceaaW.Stab.ltX at g
      rw [decide_eq_false_iff_not] at g
      rw [getElem!_pos R i hi, getElem!_pos R j hj] at g
      dsimp only at g
      simp only [List.getElem_map, Array.getElem_toList]
      unfold leK
      rw [rd_natD, rd_natD]
      omega
  · have hl : l = [] := List.eq_nil_of_length_eq_zero (by omega)
    subst hl
    exact ⟨List.Perm.refl _, List.Pairwise.nil⟩
theorem upTo_snoc : ∀ n i, upTo i (n + 1) = upTo i n ++ [((i + n : Nat) : Int)] := by
  intro n
  induction n with
  | zero => intro i; simp [upTo]
  | succ n ih =>
    intro i
    rw [upTo, ih (i + 1), upTo]
    simp
    omega
theorem upL_upTo (n : Nat) : Go.Proofs.YtecnioodkihceaaW.Plc.upL n = upTo 0 n := by
  induction n with
  | zero => rfl
  | succ n ih => rw [Go.Proofs.YtecnioodkihceaaW.Plc.upL_succ, ih, upTo_snoc]; simp
theorem upTo_sorted (kf : Int → Int) (l : List Int) (hk : ∀ x y, kf x = kf y) : ∀ n i, (upTo i n).Pairwise (leK kf l) := by
  intro n
  induction n with
  | zero => intro i; exact List.Pairwise.nil
  | succ n ih =>
    intro i
    rw [upTo]
    refine List.Pairwise.cons (fun y hy => ?_) (ih (i + 1))
    have := upTo_mem _ _ y hy
    exact .inr ⟨hk _ _, by omega⟩
theorem places67 (l : List Int) : Go.Proofs.YtecnioodkihceaaW.Plc.placesL Go.Proofs.YtecnioodkihceaaW.Plc.key67 l = upTo 0 l.length := by
  obtain ⟨h1, h2⟩ := places_sorted Go.Proofs.YtecnioodkihceaaW.Plc.key67 l
  exact List.Perm.eq_of_pairwise (fun a b _ _ => leK_anti _ _ a b) h2 (upTo_sorted _ _ (fun _ _ => rfl) _ _) (h1.trans (List.Perm.of_eq (upL_upTo _)))

theorem insL_perm (jobs : List Int) (i : Int) (l : List Int) : (insL jobs i l).Perm (i :: l) := by
  induction l with
  | nil => exact List.Perm.refl _
  | cons o r ih =>
    simp only [insL]
    split
    · exact List.Perm.refl _
    · exact (ih.cons o).trans (List.Perm.swap i o r)
theorem ordL_perm (jobs : List Int) : ∀ n, (ordL jobs n).Perm (upTo 0 n) := by
  intro n
  induction n with
  | zero => exact List.Perm.refl _
  | succ n ih =>
    rw [ordL, upTo_snoc]
    refine (insL_perm jobs n _).trans ((ih.cons _).trans ?_)
    rw [Nat.zero_add]
    exact (List.perm_append_singleton _ _).symm
theorem rd_bd (jobs : List Int) (h : ∀ x ∈ jobs, 1 ≤ x ∧ x ≤ 1000) (i : Int) : 0 ≤ rd jobs i ∧ rd jobs i ≤ 1000 := by
  unfold rd
  by_cases c : i.toNat < jobs.length
  · have := h _ (mem_getD jobs 0 i.toNat c); omega
  · rw [List.getD_eq_getElem?_getD, List.getElem?_eq_none (by omega)]; simp
theorem le68 (jobs : List Int) (h : ∀ x ∈ jobs, 1 ≤ x ∧ x ≤ 1000) (x y : Int) : leK Go.Proofs.YtecnioodkihceaaW.Plc.key68 jobs x y ↔ rd jobs x > rd jobs y ∨ rd jobs x = rd jobs y ∧ x ≤ y := by
  have h1 := rd_bd jobs h x
  have h2 := rd_bd jobs h y
  unfold leK Go.Proofs.YtecnioodkihceaaW.Plc.key68
  rw [w64 (by omega) (by omega), w64 (by omega) (by omega)]
  omega
theorem insL_sorted (jobs : List Int) (h : ∀ x ∈ jobs, 1 ≤ x ∧ x ≤ 1000) (i : Int) : ∀ (l : List Int), (∀ x ∈ l, x < i) → l.Pairwise (leK Go.Proofs.YtecnioodkihceaaW.Plc.key68 jobs) → (insL jobs i l).Pairwise (leK Go.Proofs.YtecnioodkihceaaW.Plc.key68 jobs) := by
  intro l
  induction l with
  | nil => intro _ _; exact List.pairwise_singleton _ _
  | cons o r ih =>
    intro hx hp
    obtain ⟨p1, p2⟩ := List.pairwise_cons.1 hp
    simp only [insL]
    by_cases c : rd jobs i > rd jobs o
    · rw [if_pos c]
      refine List.Pairwise.cons (fun y hy => ?_) hp
      rw [le68 jobs h]
      rcases List.mem_cons.1 hy with rfl | hy
      · exact .inl c
      · have := (le68 jobs h _ _).1 (p1 y hy)
        exact .inl (by omega)
    · rw [if_neg c]
      refine List.Pairwise.cons (fun y hy => ?_) (ih (fun x hm => hx x (by simp [hm])) p2)
      rcases (insL_mem jobs i y r).1 hy with rfl | hy
      · rw [le68 jobs h]
        have := hx o (by simp)
        omega
      · exact p1 y hy
theorem ordL_sorted (jobs : List Int) (h : ∀ x ∈ jobs, 1 ≤ x ∧ x ≤ 1000) : ∀ n, (ordL jobs n).Pairwise (leK Go.Proofs.YtecnioodkihceaaW.Plc.key68 jobs) := by
  intro n
  induction n with
  | zero => exact List.Pairwise.nil
  | succ n ih => exact insL_sorted jobs h _ _ (fun x hx => (ordL_mem jobs n x hx).2) ih
theorem places68 (l : List Int) (h : ∀ x ∈ l, 1 ≤ x ∧ x ≤ 1000) : Go.Proofs.YtecnioodkihceaaW.Plc.placesL Go.Proofs.YtecnioodkihceaaW.Plc.key68 l = ordL l l.length := by
  obtain ⟨h1, h2⟩ := places_sorted Go.Proofs.YtecnioodkihceaaW.Plc.key68 l
  exact List.Perm.eq_of_pairwise (fun a b _ _ => leK_anti _ _ a b) h2 (ordL_sorted l h _) ((h1.trans (List.Perm.of_eq (upL_upTo _))).trans (ordL_perm l _).symm)

theorem min_l0 (l : List Int) (hl : l.length ≤ 100) : ∀ (d k i : Nat) (m : Int), i + d = l.length → d < k → (∃ q, q < l.length ∧ l.getD q 0 = m) → (∀ q, q < i → m ≤ l.getD q 0) →
    ∃ r, slices_Min_int_int.l0 k l m (i : Int) = some r ∧ (∃ q, q < l.length ∧ l.getD q 0 = r) ∧ ∀ q, q < l.length → r ≤ l.getD q 0 := by
  intro d
  induction d with
  | zero =>
    intro k i m hi hk hm hq
    obtain ⟨k, rfl⟩ : ∃ m, k = m + 1 := ⟨k - 1, by omega⟩
    refine ⟨m, ?_, hm, fun q h => hq q (by omega)⟩
    rw [slices_Min_int_int.l0]
    exact ifn (by omega) rfl
  | succ d ih =>
    intro k i m hi hk hm hq
    obtain ⟨k, rfl⟩ : ∃ m, k = m + 1 := ⟨k - 1, by omega⟩
    have e : mn m (l.getD i 0) = m ∧ m ≤ l.getD i 0 ∨ mn m (l.getD i 0) = l.getD i 0 ∧ l.getD i 0 ≤ m := by unfold mn; split <;> omega
    obtain ⟨r, g1, g2, g3⟩ := ih k (i + 1) (mn m (l.getD i 0)) (by omega) (by omega) (by
      rcases e with ⟨e, _⟩ | ⟨e, _⟩
      · rw [e]; exact hm
      · rw [e]; exact ⟨i, by omega, rfl⟩) (fun q hq2 => by
      rcases Nat.lt_or_ge q i with h | h
      · have := hq q h; omega
      · obtain rfl : q = i := by omega
        omega)
    refine ⟨r, ?_, g2, g3⟩
    rw [slices_Min_int_int.l0, rd_natD, w64_succ i (by omega)]
    exact ifp (by omega) (ifp (by omega) g1)
theorem min_ (k : Nat) (l : List Int) (hl : l.length ≤ 100) (h0 : 0 < l.length) (hk : 200 ≤ k) : ∃ r, slices_Min_int_int.f k l = some r ∧ (∃ q, q < l.length ∧ l.getD q 0 = r) ∧ ∀ q, q < l.length → r ≤ l.getD q 0 := by
  obtain ⟨r, g1, g2, g3⟩ := min_l0 l hl (l.length - 1) k 1 (l.getD 0 0) (by omega) (by omega) ⟨0, h0, rfl⟩ (fun q hq => by
    obtain rfl : q = 0 := by omega
    omega)
  refine ⟨r, ?_, g2, g3⟩
  unfold slices_Min_int_int.f
  have e : rd l 0 = l.getD 0 0 := rd_natD l 0
  rw [e]
  exact ifn (by omega) (ifp (by omega) g1)
theorem index_l0 (l : List Int) (x : Int) (a : Nat) (ha : a < l.length) (hx : l.getD a 0 = x) (hf : ∀ q, q < a → l.getD q 0 ≠ x) (hl : l.length ≤ 100) : ∀ (d k i : Nat), i + d = a → d < k → slices_Index_int_int.l0 k l x (l.length : Int) (i : Int) = some (a : Int) := by
  intro d
  induction d with
  | zero =>
    intro k i hi hk
    obtain ⟨k, rfl⟩ : ∃ m, k = m + 1 := ⟨k - 1, by omega⟩
    obtain rfl : i = a := by omega
    rw [slices_Index_int_int.l0, rd_natD]
    exact ifp (by omega) (ifp (by omega) (ifp (by omega) (ifp hx.symm rfl)))
  | succ d ih =>
    intro k i hi hk
    obtain ⟨k, rfl⟩ : ∃ m, k = m + 1 := ⟨k - 1, by omega⟩
    have := hf i (by omega)
    rw [slices_Index_int_int.l0, rd_natD, w64_succ i (by omega)]
    exact ifp (by omega) (ifp (by omega) (ifp (by omega) (ifn (fun z => this z.symm) (ih k (i + 1) (by omega) (by omega)))))
theorem amin_least (free : List Int) (n : Nat) : ∀ (d j b : Nat), j + d = n → b < j → (∀ q, q < j → free.getD b 0 ≤ free.getD q 0) → (∀ q, q < b → free.getD b 0 < free.getD q 0) →
    (∀ q, q < n → free.getD (amin free d j b) 0 ≤ free.getD q 0) ∧ (∀ q, q < amin free d j b → free.getD (amin free d j b) 0 < free.getD q 0) := by
  intro d
  induction d with
  | zero =>
    intro j b hj hb h1 h2
    exact ⟨fun q hq => h1 q (by omega), h2⟩
  | succ d ih =>
    intro j b hj hb h1 h2
    rw [amin]
    by_cases c : free.getD j 0 < free.getD b 0
    · rw [if_pos c]
      refine ih (j + 1) j (by omega) (by omega) (fun q hq => ?_) (fun q hq => ?_)
      · rcases Nat.lt_or_ge q j with h | h
        · have := h1 q h; omega
        · obtain rfl : q = j := by omega
          omega
      · have := h1 q hq; omega
    · rw [if_neg c]
      refine ih (j + 1) b (by omega) (by omega) (fun q hq => ?_) h2
      rcases Nat.lt_or_ge q j with h | h
      · exact h1 q h
      · obtain rfl : q = j := by omega
        omega
theorem first_least (k : Nat) (free : List Int) (w : Nat) (hf : free.length = w) (hw1 : 1 ≤ w) (hw : w ≤ 6) (hk : 200 ≤ k) : ∃ r, slices_Min_int_int.f k free = some r ∧ slices_Index_int_int.f k free r = some ((amin free (w - 1) 1 0 : Nat) : Int) := by
  obtain ⟨r, g1, ⟨q, hq, hqr⟩, g3⟩ := min_ k free (by omega) (by omega) hk
  obtain ⟨a1, a2⟩ := amin_least free w (w - 1) 1 0 (by omega) (by omega) (fun q hq => by
    obtain rfl : q = 0 := by omega
    exact Int.le_refl _) (fun q hq => by omega)
  have hlt := amin_lt free w (w - 1) 1 0 (by omega) (by omega)
  generalize amin free (w - 1) 1 0 = a at a1 a2 hlt ⊢
  have e : free.getD a 0 = r := by
    have h1 := a1 q (by omega)
    have h2 := g3 a (by omega)
    omega
  refine ⟨r, g1, ?_⟩
  unfold slices_Index_int_int.f
  exact index_l0 free r a (by omega) e (fun q hq z => by have := a2 q hq; omega) (by omega) a k 0 (by omega) (by omega)
theorem impl_planOf_l0 (jobs : List Int) (w : Nat) (hw1 : 1 ≤ w) (hw : w ≤ 6) (order : List Int) (hom : order.length ≤ 100) (ho : ∀ x ∈ order, 0 ≤ x ∧ x < (jobs.length : Int)) : ∀ (d k i : Nat) (out : List S53) (free : List Int), i + d = order.length → d + 300 ≤ k → out.length ≤ i → free.length = w →
    impl_planOf.l0 k jobs out free order (order.length : Int) (i : Int) = some (out ++ planL jobs w (order.drop i) free) := by
  intro d
  induction d with
  | zero =>
    intro k i out free hi hk h1 hf
    obtain ⟨k, rfl⟩ : ∃ m, k = m + 1 := ⟨k - 1, by omega⟩
    rw [List.drop_of_length_le (by omega), impl_planOf.l0, planL, List.append_nil]
    exact ifn (by omega) rfl
  | succ d ih =>
    intro k i out free hi hk h1 hf
    obtain ⟨k, rfl⟩ : ∃ m, k = m + 1 := ⟨k - 1, by omega⟩
    obtain ⟨r, e1, e2⟩ := first_least k free w hf hw1 hw (by omega)
    have hlt := amin_lt free w (w - 1) 1 0 (by omega) (by omega)
    have hm := ho _ (mem_getD order 0 i (by omega))
    rw [impl_planOf.l0, drop_getD order 0 i (by omega), planL, w64_succ i (by omega), rd_natD]
    have g3 := ih k (i + 1) (out ++ [(⟨order.getD i 0, (amin free (w - 1) 1 0 : Nat), free.getD (amin free (w - 1) 1 0) 0, wrap64 (free.getD (amin free (w - 1) 1 0) 0 + rd jobs (order.getD i 0))⟩ : S53)]) (free.set (amin free (w - 1) 1 0) (wrap64 (free.getD (amin free (w - 1) 1 0) 0 + rd jobs (order.getD i 0)))) (by omega) (by omega) (by simp; omega) (by simpa using hf)
    rw [List.append_cons]
    refine ifp (by omega) (ifp (by omega) (ifp (by omega) (st e1 (st e2 ?_))))
    simp only [rd_natD, Int.toNat_natCast]
    exact ifp (by omega) (ifp (by omega) (ifp hm.1 (ifp hm.2 (ifp (by omega) g3))))
theorem impl_plan (k : Nat) (jobs : List Int) (w : Int) (hw1 : 1 ≤ w) (hw : w ≤ 6) (order : List Int) (hom : order.length ≤ 100) (ho : ∀ x ∈ order, 0 ≤ x ∧ x < (jobs.length : Int)) (hk : 2100 ≤ k) : impl_planOf.f k jobs order w = some (planL jobs w.toNat order (List.replicate w.toNat 0)) := by
  obtain ⟨n, rfl⟩ := Int.eq_ofNat_of_zero_le (show 0 ≤ w by omega)
  unfold impl_planOf.f
  have := impl_planOf_l0 jobs n (by omega) (by omega) order hom ho order.length k 0 [] (List.replicate n 0) (by omega) (by omega) (by simp) (by simp)
  simp only [List.nil_append, List.drop_zero] at this
  exact ifp (by omega) (ifp (by simp; omega) this)
theorem impl_planned (k : Nat) (jobs : List Int) (w : Int) (hm : jobs.length ≤ 1048576) (hk : 1048600 ≤ k) : impl_arePlanned.f k jobs w = some (isPl jobs w) := by
  unfold impl_arePlanned.f isPl
  refine st (impl_jOk k jobs hm (by omega)) ?_
  by_cases c : jOk jobs = true
  · rw [c]; exact ifp rfl (st (impl_in_ w 1 6) (by simp))
  · have cf : jOk jobs = false := by simpa using c
    rw [cf]; exact ifn (by simp) (by simp)
theorem isPl_iff {jobs : List Int} {w : Int} (h : isPl jobs w = true) : jobs.length ≤ 40 ∧ (∀ x ∈ jobs, 1 ≤ x ∧ x ≤ 1000) ∧ 1 ≤ w ∧ w ≤ 6 := by
  unfold isPl at h
  simp only [Bool.and_eq_true, decide_eq_true_eq] at h
  refine ⟨jOk_len h.1, fun x hx => ?_, h.2⟩
  have hj := h.1
  simp only [jOk, Bool.and_eq_true, List.all_eq_true] at hj
  have := hj.2 x hx
  simpa [isJ] using this

theorem impl_longpl (k : Nat) (jobs : List Int) (w : Int) (hm : jobs.length ≤ 1048576) (hk : 1048600 ≤ k) : impl_LongestFirst.f k jobs w = some (if isPl jobs w = true then (longPl jobs w, true) else ([], false)) := by
  unfold impl_LongestFirst.f
  refine st (impl_planned k jobs w hm hk) ?_
  by_cases c : isPl jobs w = true
  · obtain ⟨h1, h2, h3, h4⟩ := isPl_iff c
    have hv : (if isPl jobs w = true then (longPl jobs w, true) else (([] : List S53), false)) = (longPl jobs w, true) := if_pos c
    rw [hv]
    have hp : impl_placesBy_at_68.f jobs = some (ordL jobs jobs.length) := by unfold impl_placesBy_at_68.f; rw [if_pos h1, places68 jobs h2]
    exact ifp c (st hp (st (impl_plan k jobs w h3 h4 _ (by rw [ordL_len]; omega) (fun x hx => ordL_mem _ _ x hx) (by omega)) rfl))
  · have hv : (if isPl jobs w = true then (longPl jobs w, true) else (([] : List S53), false)) = ([], false) := if_neg c
    rw [hv]
    exact ifn c rfl

/-- The slots that a mark lays. -/
def mkS (m : Int) : Nat → List S53
  | 0 => []
  | n + 1 => ⟨m, m + 1, m + 2, m + 3⟩ :: mkS (m + 4) n
theorem mkS_len : ∀ (n : Nat) (m : Int), (mkS m n).length = n := by
  intro n
  induction n with
  | zero => intro m; rfl
  | succ n ih => intro m; simp [mkS, ih]
theorem mkS_getD : ∀ (n i : Nat) (m : Int), i < n → (mkS m n).getD i z53 = ⟨m + 4 * i, m + 4 * i + 1, m + 4 * i + 2, m + 4 * i + 3⟩ := by
  intro n
  induction n with
  | zero => intro i m h; omega
  | succ n ih =>
    intro i m h
    cases i with
    | zero => simp [mkS]
    | succ i =>
      have := ih i (m + 4) (by omega)
      simp only [mkS, List.getD_cons_succ, this]
      congr 1 <;> omega
theorem mkS_snoc : ∀ (n : Nat) (m : Int), mkS m (n + 1) = mkS m n ++ [⟨m + 4 * n, m + 4 * n + 1, m + 4 * n + 2, m + 4 * n + 3⟩] := by
  intro n
  induction n with
  | zero => intro m; simp [mkS]
  | succ n ih =>
    intro m
    rw [mkS, ih (m + 4), mkS]
    simp only [List.cons_append]
    congr 3
    congr 1 <;> omega
theorem rdS_set (x : List S53) (i : Nat) (v : S53) (h : i < x.length) : rd_T53 (x.set i v) (i : Int) = v := by
  simp [rd_T53, h]
theorem markS_l0 (n : Nat) (hn : n ≤ 1000000) (m0 : Int) (h0 : 0 ≤ m0) (h1 : m0 ≤ 1000000000) : ∀ (d k i : Nat) (x : List S53), i + d = n → d < k → x.length = n → x.take i = mkS m0 i →
    laws_markSlotS.l0 k x (m0 + 4 * i) (i : Int) = some (m0 + 4 * n, mkS m0 n) := by
  intro d
  induction d with
  | zero =>
    intro k i x hi hk hx ht
    obtain ⟨k, rfl⟩ : ∃ m, k = m + 1 := ⟨k - 1, by omega⟩
    have hin : i = n := by omega
    subst hin
    rw [List.take_of_length_le (by omega)] at ht
    rw [laws_markSlotS.l0, ht]
    exact ifn (by rw [mkS_len]; omega) rfl
  | succ d ih =>
    intro k i x hi hk hx ht
    obtain ⟨k, rfl⟩ : ∃ m, k = m + 1 := ⟨k - 1, by omega⟩
    have hil : i < x.length := by omega
    have w1 : wrap64 (m0 + 4 * (i : Int) + 1) = m0 + 4 * i + 1 := w64 (by omega) (by omega)
    have w2 : wrap64 (m0 + 4 * (i : Int) + 1 + 1) = m0 + 4 * i + 2 := by rw [w64 (by omega) (by omega)]; omega
    have w3 : wrap64 (m0 + 4 * (i : Int) + 2 + 1) = m0 + 4 * i + 3 := by rw [w64 (by omega) (by omega)]; omega
    have w4 : wrap64 (m0 + 4 * (i : Int) + 3 + 1) = m0 + 4 * ((i + 1 : Nat) : Int) := by rw [w64 (by omega) (by omega)]; omega
    have g := ih k (i + 1) (x.set i ⟨m0 + 4 * i, m0 + 4 * i + 1, m0 + 4 * i + 2, m0 + 4 * i + 3⟩) (by omega) (by omega) (by simpa using hx) (by rw [take_set_succ _ _ _ hil, ht, mkS_snoc])
    rw [laws_markSlotS.l0]
    simp only [w1, w2, w3, w4, w64_succ i (by omega), Int.toNat_natCast]
    refine ifp (by omega) (ifp (by omega) ?_)
    simp only [Option.bind_some, rdS_set _ _ _ hil, List.set_set, List.length_set]
    exact g
theorem markS (k : Nat) (l : List S53) (m : Int) (hl : l.length ≤ 1000000) (h0 : 0 ≤ m) (h1 : m ≤ 1000000000) (hk : 1000010 ≤ k) : laws_markSlotS.f k l m = some (m + 4 * l.length, mkS m l.length) := by
  have := markS_l0 l.length hl m h0 h1 l.length k 0 l (by omega) (by omega) rfl rfl
  unfold laws_markSlotS.f
  simpa using this
theorem heldS_l0 (n : Nat) (hn : n ≤ 1000000) (m0 : Int) (h0 : 0 ≤ m0) (h1 : m0 ≤ 1000000000) : ∀ (d k i : Nat), i + d = n → d < k → laws_heldSlotS.l0 k (mkS m0 n) (m0 + 4 * i) (i : Int) = some (m0 + 4 * n) := by
  intro d
  induction d with
  | zero =>
    intro k i hi hk
    obtain ⟨k, rfl⟩ : ∃ m, k = m + 1 := ⟨k - 1, by omega⟩
    rw [laws_heldSlotS.l0]
    refine ifn (by rw [mkS_len]; omega) ?_
    rw [show i = n by omega]
  | succ d ih =>
    intro k i hi hk
    obtain ⟨k, rfl⟩ : ∃ m, k = m + 1 := ⟨k - 1, by omega⟩
    have w1 : wrap64 (m0 + 4 * (i : Int) + 1) = m0 + 4 * i + 1 := w64 (by omega) (by omega)
    have w2 : wrap64 (m0 + 4 * (i : Int) + 1 + 1) = m0 + 4 * i + 2 := by rw [w64 (by omega) (by omega)]; omega
    have w3 : wrap64 (m0 + 4 * (i : Int) + 2 + 1) = m0 + 4 * i + 3 := by rw [w64 (by omega) (by omega)]; omega
    have w4 : wrap64 (m0 + 4 * (i : Int) + 3 + 1) = m0 + 4 * ((i + 1 : Nat) : Int) := by rw [w64 (by omega) (by omega)]; omega
    have e : rd_T53 (mkS m0 n) (i : Int) = ⟨m0 + 4 * i, m0 + 4 * i + 1, m0 + 4 * i + 2, m0 + 4 * i + 3⟩ := mkS_getD n i m0 (by omega)
    rw [laws_heldSlotS.l0]
    simp only [e, w1, w2, w3, w4, w64_succ i (by omega)]
    exact ifp (by rw [mkS_len]; omega) (ifp (by omega) (ifp (by first | rfl | trivial) (ifp (by first | rfl | trivial) (ifp (by first | rfl | trivial) (ifp (by first | rfl | trivial) (ih k (i + 1) (by omega) (by omega)))))))
theorem heldS (k n : Nat) (m : Int) (hn : n ≤ 1000000) (h0 : 0 ≤ m) (h1 : m ≤ 1000000000) (hk : 1000010 ≤ k) : laws_heldSlotS.f k (mkS m n) m = some (m + 4 * n) := by
  have := heldS_l0 n hn m h0 h1 n k 0 (by omega) (by omega)
  simpa [laws_heldSlotS.f] using this


theorem FnExactLongestFirst : laws_FnExactLongestFirst.Pure := by
  intro l w hl _
  obtain ⟨k, hk⟩ : ∃ k : Nat, 1000000000 ≤ k := ⟨_, Nat.le_refl _⟩
  refine ⟨k + 1 + 1 + 1, ?_⟩
  unfold laws_FnExactLongestFirst.f

  by_cases hg : (l.length : Int) > 1048576
  · rw [if_pos hg]
  rw [if_neg hg]
  have ol : LB (fun _ => True) l := ⟨by omega, fun _ _ => trivial⟩

  have lm : l.length ≤ 1048576 := ol.1
  have s1 := spec_longpl (k + 1 + 1 + 1) l w lm (by omega)
  have i1 := impl_longpl (k + 1 + 1 + 1) l w lm (by omega)
  have i2 := impl_longpl (k + 1) l w lm (by omega)
  have t1 := toIntS_ (k + 1 + 1 + 1) l ol (by omega)
  have t2 := toIntS_ (k + 1 + 1) l ol (by omega)
  have t3 := toIntS_ (k + 1) l ol (by omega)
  have q1 := eqIntS_ (k + 1 + 1) l ol (by omega)
  have m1 := markIntS_ (k + 1 + 1) l 1 (by omega) (by omega) (by omega)
  obtain ⟨r, b, hr, hrl⟩ : ∃ r b, (if isPl l w = true then (longPl l w, true) else (([] : List S53), false)) = (r, b) ∧ r.length ≤ 40 := by
    by_cases c : isPl l w = true
    · refine ⟨longPl l w, true, if_pos c, ?_⟩
      have := (isPl_iff c).1
      unfold longPl
      rw [planL_len]
      first | (rw [upTo_len]; exact this) | (rw [ordL_len]; exact this)
    · exact ⟨[], false, if_neg c, by simp⟩
  rw [hr] at s1 i1 i2
  have os : LB Ok53 r := ⟨by omega, fun _ _ => trivial⟩
  have es1 := eqSlotS_ (k + 1 + 1 + 1) r os (by omega)
  have es2 := eqSlotS_ (k + 1 + 1) r os (by omega)
  have es3 := eqSlotS_ (k + 1) r os (by omega)
  have ms := markS (k + 1) r 1 (by omega) (by omega) (by omega) (by omega)
  have h1 := heldS (k + 1) r.length 1 (by omega) (by omega) (by omega) (by omega)
  have h2 := heldS k r.length 1 (by omega) (by omega) (by omega) (by omega)
  refine st t1 (st s1 (st t1 (st i1 (st es1 (ifp rfl ?_)))))
  rw [laws_FnExactLongestFirst.j0]
  refine ifn (by simp) (st t2 (st q1 (ifp rfl (st m1 (ifn (by dsimp only; omega) (st es2 (ifp rfl ?_)))))))
  rw [laws_FnExactLongestFirst.j1]
  refine ifn (by simp) (st ms (st h1 (ifn (by omega) (ifp rfl (st t3 (st i2 (st es3 (ifp rfl ?_))))))))
  rw [laws_FnExactLongestFirst.j2]
  exact ifn (by simp) (st h2 (ifn (by omega) (ifp rfl rfl)))

end Go.Proofs.Ytecnioodkihceaa.Pure
