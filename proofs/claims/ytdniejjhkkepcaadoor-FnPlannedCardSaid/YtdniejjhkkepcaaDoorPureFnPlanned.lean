/- What is left of the statement FnPlanned once the Go functions are Lean functions: list plans are right and within their bounds. No condition. -/
import Derived.Test.YtdniejjhkkepcaaDoorQFnPlannedx13
import Derived.Test.YtdniejjhkkepcaaDoorAid
set_option linter.unusedVariables false
set_option linter.unusedSimpArgs false
namespace Go.Proofs.YtdniejjhkkepcaaDoor.Pure
open Go.RowKit Go.Proofs.YtdniejjhkkepcaaDoor.QFnPlanned Go.Proofs.YtdniejjhkkepcaaDoorW.PrintWords Go.Proofs.YtdniejjhkkepcaaDoorW.PrintLast Go.Proofs.YtdniejjhkkepcaaDoorW.PrintMore Go.Proofs.YtdniejjhkkepcaaDoorW.Aid


theorem spec_in (x lo hi : Int) : spec_l01In.f x lo hi = some (decide (lo ≤ x ∧ x ≤ hi)) := by
  unfold spec_l01In.f
  split
  · simp_all
  · simp; omega
theorem impl_in_ (x lo hi : Int) : impl_in.f x lo hi = some (decide (lo ≤ x ∧ x ≤ hi)) := by
  unfold impl_in.f
  split
  · simp_all
  · simp; omega

def isJ (x : Int) : Bool := decide (1 ≤ x ∧ x ≤ 1000)
def jOk (l : List Int) : Bool := decide (l.length ≤ 40) && l.all isJ
theorem all_dropJ (l : List Int) (i : Nat) (h : i < l.length) : (l.drop i).all isJ = (isJ (l.getD i 0) && (l.drop (i + 1)).all isJ) := by
  rw [drop_getD l 0 i h]; rfl
theorem spec_jOk_l0 (l : List Int) (hm : l.length ≤ 1048576) : ∀ (d k i : Nat), i + d = l.length → d < k → spec_JobsOk.l0 k l (i : Int) = some ((l.drop i).all isJ) := by
  intro d
  induction d with
  | zero =>
    intro k i hi hk
    obtain ⟨k, rfl⟩ : ∃ m, k = m + 1 := ⟨k - 1, by omega⟩
    simp only [spec_JobsOk.l0]
    rw [if_neg (by omega), List.drop_of_length_le (by omega)]
    rfl
  | succ d ih =>
    intro k i hi hk
    obtain ⟨k, rfl⟩ : ∃ m, k = m + 1 := ⟨k - 1, by omega⟩
    simp only [spec_JobsOk.l0]
    rw [if_pos (by omega), if_pos (by omega), all_dropJ l i (by omega), w64_succ i (by omega), ih k (i + 1) (by omega) (by omega), spec_in, rd_natD]
    simp only [Option.bind_some]
    cases h : isJ (l.getD i 0) with
    | false => rw [if_neg (by simpa [isJ] using h)]; rfl
    | true => rw [if_pos (by simpa [isJ] using h)]; rfl
theorem spec_jOk (k : Nat) (l : List Int) (hm : l.length ≤ 1048576) (hk : l.length < k) : spec_JobsOk.f k l = some (jOk l) := by
  unfold spec_JobsOk.f jOk
  by_cases h : (l.length : Int) > 40
  · rw [if_pos h]
    have : ¬ l.length ≤ 40 := by omega
    simp [this]
  · rw [if_neg h]
    have h' : l.length ≤ 40 := by omega
    have := spec_jOk_l0 l hm l.length k 0 (by omega) hk
    simpa [h'] using this
theorem jidx_l0 (l : List Int) (hm : l.length ≤ 1048576) : ∀ (d k i : Nat), i + d = l.length → d < k →
    ∃ r, slices_IndexFunc_int_int_at_60.l0 k l (l.length : Int) (i : Int) = some r ∧ (0 ≤ r ↔ (l.drop i).all isJ = false) := by
  intro d
  induction d with
  | zero =>
    intro k i hi hk
    obtain ⟨k, rfl⟩ : ∃ m, k = m + 1 := ⟨k - 1, by omega⟩
    simp only [slices_IndexFunc_int_int_at_60.l0]
    rw [if_neg (by omega), List.drop_of_length_le (by omega)]
    exact ⟨-1, rfl, by simp⟩
  | succ d ih =>
    intro k i hi hk
    obtain ⟨k, rfl⟩ : ∃ m, k = m + 1 := ⟨k - 1, by omega⟩
    simp only [slices_IndexFunc_int_int_at_60.l0]
    rw [if_pos (by omega), if_pos (by omega), if_pos (by omega), all_dropJ l i (by omega)]
    unfold impl_JobsOk_1.f
    simp only [impl_in_, Option.bind_some, rd_natD]
    cases hr : isJ (l.getD i 0) with
    | false =>
      have : ¬ (1 ≤ l.getD i 0 ∧ l.getD i 0 ≤ 1000) := by simpa [isJ] using hr
      exact ⟨i, by simp only [this]; simp, by simp⟩
    | true =>
      have : (1 ≤ l.getD i 0 ∧ l.getD i 0 ≤ 1000) := by simpa [isJ] using hr
      obtain ⟨r, h1, h2⟩ := ih k (i + 1) (by omega) (by omega)
      refine ⟨r, ?_, by simpa using h2⟩
      rw [w64_succ i (by omega)]
      simp only [this, and_self]
      simpa using h1
theorem impl_jOk (k : Nat) (l : List Int) (hm : l.length ≤ 1048576) (hk : l.length < k) : impl_JobsOk.f k l = some (jOk l) := by
  obtain ⟨r, h1, h2⟩ := jidx_l0 l hm l.length k 0 (by omega) hk
  have h1' : slices_IndexFunc_int_int_at_60.f k l = some r := h1
  unfold impl_JobsOk.f slices_ContainsFunc_int_int_at_60.f jOk
  rw [h1']
  rw [List.drop_zero] at h2
  simp only [Option.bind_some]
  by_cases h : (l.length : Int) ≤ 40
  · rw [if_pos h]
    have h' : l.length ≤ 40 := by omega
    cases ha : l.all isJ with
    | false => rw [ha] at h2; have := h2.2 rfl; simp [this]
    | true => rw [ha] at h2; have : ¬ 0 ≤ r := fun z => absurd (h2.1 z) (by simp); simp [h']; omega
  · rw [if_neg h]
    have h' : ¬ l.length ≤ 40 := by omega
    simp [h']

def badS (s : S49) (a b c d : Int) : Bool := decide (s.f0 = a ∨ (s.f1 = b ∧ s.f2 < d ∧ c < s.f3))
def anyB (l : List S49) (a b c d : Int) : Nat → Nat → Bool
  | _, 0 => false
  | j, n + 1 => badS (l.getD j z49) a b c d || anyB l a b c d (j + 1) n
theorem spec_inn (jobs : List Int) (w : Int) (l : List S49) (i : Nat) (hi : i < l.length) (hm : l.length ≤ 40) (a b c d : Int) (K : Nat) : ∀ (n k j : Nat), j + n = i → K + 2 * n + 2 ≤ k →
    ∃ k', K ≤ k' ∧ spec_PlanOk.l1 k jobs w l (i : Int) (j : Int) a b c d = if anyB l a b c d j n = true then some false else spec_PlanOk.l0 k' jobs w l ((i + 1 : Nat) : Int) := by
  intro n
  induction n with
  | zero =>
    intro k j hj hk
    obtain ⟨k, rfl⟩ : ∃ m, k = m + 1 := ⟨k - 1, by omega⟩
    refine ⟨k, by omega, ?_⟩
    rw [spec_PlanOk.l1, w64_succ i (by omega)]
    exact ifn (by omega) rfl
  | succ n ih =>
    intro k j hj hk
    obtain ⟨k, rfl⟩ : ∃ m, k = m + 1 + 1 := ⟨k - 2, by omega⟩
    have tail : ∀ x : Bool, x = badS (l.getD j z49) a b c d → ∃ k', K ≤ k' ∧ spec_PlanOk.j4 (k + 1) jobs w l (i : Int) (j : Int) x a b c d = if anyB l a b c d j (n + 1) = true then some false else spec_PlanOk.l0 k' jobs w l ((i + 1 : Nat) : Int) := by
      intro x hx
      rw [spec_PlanOk.j4, w64_succ j (by omega)]
      by_cases q : x = true
      · exact ⟨K, Nat.le_refl _, by rw [if_pos q, if_pos (by simp only [anyB, ← hx, q, Bool.true_or])]⟩
      · obtain ⟨k', h1, h2⟩ := ih k (j + 1) (by omega) (by omega)
        refine ⟨k', h1, ?_⟩
        have qf : x = false := by simpa using q
        rw [if_neg q, h2]
        simp only [anyB, ← hx, qf, Bool.false_or]
    rw [spec_PlanOk.l1]
    simp only [rd_T49, Int.toNat_natCast]
    by_cases c1 : (l.getD j z49).f0 = a
    · obtain ⟨k', h1, h2⟩ := tail true (by rw [badS, decide_eq_true (Or.inl c1)])
      exact ⟨k', h1, ifp (by omega) (ifp (by omega) (ifp (by omega) (ifp c1 h2)))⟩
    · by_cases c2 : (l.getD j z49).f1 = b
      · by_cases c3 : (l.getD j z49).f2 < d
        · obtain ⟨k', h1, h2⟩ := tail (decide (c < (l.getD j z49).f3)) (decide_eq_decide.2 ⟨fun h => .inr ⟨c2, c3, h⟩, fun h => (h.resolve_left c1).2.2⟩)
          exact ⟨k', h1, ifp (by omega) (ifp (by omega) (ifp (by omega) (ifn c1 (ifp c2 (ifp c3 h2)))))⟩
        · obtain ⟨k', h1, h2⟩ := tail false (by rw [badS, decide_eq_false (fun h => c3 (h.resolve_left c1).2.1)])
          exact ⟨k', h1, ifp (by omega) (ifp (by omega) (ifp (by omega) (ifn c1 (ifp c2 (ifn c3 h2)))))⟩
      · obtain ⟨k', h1, h2⟩ := tail false (by rw [badS, decide_eq_false (fun h => c2 (h.resolve_left c1).1)])
        exact ⟨k', h1, ifp (by omega) (ifp (by omega) (ifp (by omega) (ifn c1 (ifn c2 h2))))⟩
theorem impl_inn (jobs : List Int) (w : Int) (l : List S49) (i : Nat) (hi : i < l.length) (hm : l.length ≤ 40) (a b c d : Int) (K : Nat) : ∀ (n k j : Nat), j + n = i → K + 2 * n + 2 ≤ k →
    ∃ k', K ≤ k' ∧ impl_PlanOk.l1 k jobs w l l (l.length : Int) (i : Int) (l.take i) ((l.take i).length : Int) (j : Int) a b c d = if anyB l a b c d j n = true then some false else impl_PlanOk.l0 k' jobs w l l (l.length : Int) ((i + 1 : Nat) : Int) := by
  have hlt : (l.take i).length = i := by rw [List.length_take]; omega
  intro n
  induction n with
  | zero =>
    intro k j hj hk
    obtain ⟨k, rfl⟩ : ∃ m, k = m + 1 := ⟨k - 1, by omega⟩
    refine ⟨k, by omega, ?_⟩
    rw [impl_PlanOk.l1, w64_succ i (by omega)]
    exact ifn (by omega) rfl
  | succ n ih =>
    intro k j hj hk
    obtain ⟨k, rfl⟩ : ∃ m, k = m + 1 + 1 := ⟨k - 2, by omega⟩
    have tail : ∀ x : Bool, x = badS (l.getD j z49) a b c d → ∃ k', K ≤ k' ∧ impl_PlanOk.j4 (k + 1) jobs w l l (l.length : Int) (i : Int) (l.take i) ((l.take i).length : Int) (j : Int) x a b c d = if anyB l a b c d j (n + 1) = true then some false else impl_PlanOk.l0 k' jobs w l l (l.length : Int) ((i + 1 : Nat) : Int) := by
      intro x hx
      rw [impl_PlanOk.j4, w64_succ j (by omega)]
      by_cases q : x = true
      · exact ⟨K, Nat.le_refl _, by rw [if_pos q, if_pos (by simp only [anyB, ← hx, q, Bool.true_or])]⟩
      · obtain ⟨k', h1, h2⟩ := ih k (j + 1) (by omega) (by omega)
        refine ⟨k', h1, ?_⟩
        have qf : x = false := by simpa using q
        rw [if_neg q, h2]
        simp only [anyB, ← hx, qf, Bool.false_or]
    have hg : (l.take i).getD j z49 = l.getD j z49 := by
      rw [List.getD_eq_getElem?_getD, List.getD_eq_getElem?_getD, List.getElem?_take, if_pos (by omega)]
    rw [impl_PlanOk.l1]
    simp only [rd_T49, Int.toNat_natCast, hg]
    by_cases c1 : (l.getD j z49).f0 = a
    · obtain ⟨k', h1, h2⟩ := tail true (by rw [badS, decide_eq_true (Or.inl c1)])
      exact ⟨k', h1, ifp (by omega) (ifp (by omega) (ifp (by omega) (ifp c1 h2)))⟩
    · by_cases c2 : (l.getD j z49).f1 = b
      · by_cases c3 : (l.getD j z49).f2 < d
        · obtain ⟨k', h1, h2⟩ := tail (decide (c < (l.getD j z49).f3)) (decide_eq_decide.2 ⟨fun h => .inr ⟨c2, c3, h⟩, fun h => (h.resolve_left c1).2.2⟩)
          exact ⟨k', h1, ifp (by omega) (ifp (by omega) (ifp (by omega) (ifn c1 (ifp c2 (ifp c3 h2)))))⟩
        · obtain ⟨k', h1, h2⟩ := tail false (by rw [badS, decide_eq_false (fun h => c3 (h.resolve_left c1).2.1)])
          exact ⟨k', h1, ifp (by omega) (ifp (by omega) (ifp (by omega) (ifn c1 (ifp c2 (ifn c3 h2)))))⟩
      · obtain ⟨k', h1, h2⟩ := tail false (by rw [badS, decide_eq_false (fun h => c2 (h.resolve_left c1).1)])
        exact ⟨k', h1, ifp (by omega) (ifp (by omega) (ifp (by omega) (ifn c1 (ifn c2 h2))))⟩
theorem cost_eq {t f c : Int} (h0 : -9223372036854775808 ≤ t) (h1 : t ≤ 9223372036854775807) (h2 : -9223372036854775808 ≤ c) (h3 : c ≤ 9223372036854775807) : (wrap64 (t - f) != c) = (t != wrap64 (f + c)) := by
  rw [Bool.eq_iff_iff, bne_iff_ne, bne_iff_ne]
  unfold wrap64
  omega
def okP (jobs : List Int) (w : Int) (l : List S49) : Nat → Nat → Bool
  | _, 0 => true
  | i, n + 1 => (decide (0 ≤ (l.getD i z49).f0 ∧ (l.getD i z49).f0 ≤ (jobs.length : Int) - 1) && (decide (0 ≤ (l.getD i z49).f1 ∧ (l.getD i z49).f1 ≤ w - 1) && (decide (0 ≤ (l.getD i z49).f2 ∧ (l.getD i z49).f2 ≤ 1000000000) && !(wrap64 ((l.getD i z49).f3 - (l.getD i z49).f2) != rd jobs (l.getD i z49).f0)))) &&
      (!anyB l (l.getD i z49).f0 (l.getD i z49).f1 (l.getD i z49).f2 (l.getD i z49).f3 0 i && okP jobs w l (i + 1) n)
theorem plan_l0 (jobs : List Int) (w : Int) (l : List S49) (hw : 1 ≤ w) (hw2 : w ≤ 6) (hm : l.length ≤ 40) (hj : jobs.length ≤ 40) (hjv : ∀ x ∈ jobs, -9223372036854775808 ≤ x ∧ x ≤ 9223372036854775807) (hlv : ∀ x ∈ l, -9223372036854775808 ≤ x.f3 ∧ x.f3 ≤ 9223372036854775807) : ∀ (n k i : Nat), i + n = l.length → (n + 1) * 100 ≤ k →
    spec_PlanOk.l0 k jobs w l (i : Int) = some (okP jobs w l i n) ∧ impl_PlanOk.l0 k jobs w l l (l.length : Int) (i : Int) = some (okP jobs w l i n) := by
  intro n
  have hw1 : wrap64 (w - 1) = w - 1 := w64 (by omega) (by omega)
  have hj1 : wrap64 ((jobs.length : Int) - 1) = (jobs.length : Int) - 1 := w64 (by omega) (by omega)
  induction n with
  | zero =>
    intro k i hi hk
    obtain ⟨k, rfl⟩ : ∃ m, k = m + 1 := ⟨k - 1, by omega⟩
    exact ⟨by rw [spec_PlanOk.l0]; exact ifn (by omega) rfl, by rw [impl_PlanOk.l0]; exact ifn (by omega) rfl⟩
  | succ n ih =>
    intro k i hi hk
    obtain ⟨k, rfl⟩ : ∃ m, k = m + 1 + 1 := ⟨k - 2, by omega⟩
    have tail : ∀ x y : Bool, x = y → spec_PlanOk.j2 (k + 1) jobs w l (i : Int) x (l.getD i z49).f0 (l.getD i z49).f1 (l.getD i z49).f2 (l.getD i z49).f3 = some (!x && (!anyB l (l.getD i z49).f0 (l.getD i z49).f1 (l.getD i z49).f2 (l.getD i z49).f3 0 i && okP jobs w l (i + 1) n)) ∧
        impl_PlanOk.j2 (k + 1) jobs w l (i : Int) l (l.length : Int) (i : Int) y (l.getD i z49).f0 (l.getD i z49).f1 (l.getD i z49).f2 (l.getD i z49).f3 = some (!x && (!anyB l (l.getD i z49).f0 (l.getD i z49).f1 (l.getD i z49).f2 (l.getD i z49).f3 0 i && okP jobs w l (i + 1) n)) := by
      intro x y hxy
      subst hxy
      rw [spec_PlanOk.j2, impl_PlanOk.j2]
      by_cases q : x = true
      · subst q
        exact ⟨ifp rfl rfl, ifp rfl rfl⟩
      · obtain ⟨K, hK⟩ : ∃ K, K = (n + 1) * 100 := ⟨_, rfl⟩
        have hil : i < l.length := by omega
        have hKk : K + 2 * i + 2 ≤ k := by omega
        have hz : 0 + i = i := Nat.zero_add i
        obtain ⟨k1, h1, e1⟩ := spec_inn jobs w l i hil hm (l.getD i z49).f0 (l.getD i z49).f1 (l.getD i z49).f2 (l.getD i z49).f3 K i k 0 hz hKk
        obtain ⟨k2, h2, e2⟩ := impl_inn jobs w l i hil hm (l.getD i z49).f0 (l.getD i z49).f1 (l.getD i z49).f2 (l.getD i z49).f3 K i k 0 hz hKk
        rw [hK] at h1 h2
        have g1 := (ih k1 (i + 1) (by omega) h1).1
        have g2 := (ih k2 (i + 1) (by omega) h2).2
        have qf : x = false := by simpa using q
        subst qf
        generalize anyB l (l.getD i z49).f0 (l.getD i z49).f1 (l.getD i z49).f2 (l.getD i z49).f3 0 i = bb at e1 e2 ⊢
        have z0 : ((0 : Nat) : Int) = 0 := rfl
        rw [z0] at e1 e2
        simp only [Int.toNat_natCast]
        cases bb with
        | true =>
          rw [if_pos rfl] at e1 e2
          simp only [Bool.not_true, Bool.false_and, Bool.and_false]
          exact ⟨ifn q e1, ifn q (ifp (by omega) (ifp (by omega) (st rfl e2)))⟩
        | false =>
          rw [if_neg (by simp)] at e1 e2
          simp only [Bool.not_false, Bool.true_and]
          exact ⟨ifn q (e1.trans g1), ifn q (ifp (by omega) (ifp (by omega) (st rfl (e2.trans g2))))⟩
    have hx := hlv _ (mem_getD l z49 i (by omega))
    have hok : okP jobs w l i (n + 1) = ((decide (0 ≤ (l.getD i z49).f0 ∧ (l.getD i z49).f0 ≤ (jobs.length : Int) - 1) && (decide (0 ≤ (l.getD i z49).f1 ∧ (l.getD i z49).f1 ≤ w - 1) && (decide (0 ≤ (l.getD i z49).f2 ∧ (l.getD i z49).f2 ≤ 1000000000) && !(wrap64 ((l.getD i z49).f3 - (l.getD i z49).f2) != rd jobs (l.getD i z49).f0)))) &&
      (!anyB l (l.getD i z49).f0 (l.getD i z49).f1 (l.getD i z49).f2 (l.getD i z49).f3 0 i && okP jobs w l (i + 1) n)) := rfl
    rw [hok, spec_PlanOk.l0, impl_PlanOk.l0]
    simp only [rd_T49, Int.toNat_natCast, spec_in, impl_in_, Option.bind_some, hw1, hj1]
    by_cases c1 : 0 ≤ (l.getD i z49).f0 ∧ (l.getD i z49).f0 ≤ (jobs.length : Int) - 1
    · rw [decide_eq_true c1]
      by_cases c2 : 0 ≤ (l.getD i z49).f1 ∧ (l.getD i z49).f1 ≤ w - 1
      · rw [decide_eq_true c2]
        by_cases c3 : 0 ≤ (l.getD i z49).f2 ∧ (l.getD i z49).f2 ≤ 1000000000
        · have hy := hjv (rd jobs (l.getD i z49).f0) (mem_getD jobs 0 _ (by omega))
          obtain ⟨g1, g2⟩ := tail _ _ (cost_eq (f := (l.getD i z49).f2) hx.1 hx.2 hy.1 hy.2)
          rw [decide_eq_true c3]
          simp only [Bool.true_and]
          exact ⟨ifp (by omega) (ifp (by omega) (ifp (by trivial) (ifp (by trivial) (ifp (by trivial) (ifp c1.1 (ifp (by omega) g1)))))), ifp (by omega) (ifp (by omega) (ifp (by omega) (ifp (by trivial) (ifp (by trivial) (ifp (by trivial) (ifp c1.1 (ifp (by omega) g2)))))))⟩
        · obtain ⟨g1, g2⟩ := tail true true rfl
          rw [decide_eq_false c3]
          simp only [Bool.true_and, Bool.false_and, Bool.not_true] at g1 g2 ⊢
          exact ⟨ifp (by omega) (ifp (by omega) (ifp (by trivial) (ifp (by trivial) (ifn (by simp) g1)))), ifp (by omega) (ifp (by omega) (ifp (by omega) (ifp (by trivial) (ifp (by trivial) (ifn (by simp) g2)))))⟩
      · obtain ⟨g1, g2⟩ := tail true true rfl
        rw [decide_eq_false c2]
        simp only [Bool.true_and, Bool.false_and, Bool.not_true] at g1 g2 ⊢
        exact ⟨ifp (by omega) (ifp (by omega) (ifp (by trivial) (ifn (by simp) g1))), ifp (by omega) (ifp (by omega) (ifp (by omega) (ifp (by trivial) (ifn (by simp) g2))))⟩
    · obtain ⟨g1, g2⟩ := tail true true rfl
      rw [decide_eq_false c1]
      simp only [Bool.false_and, Bool.not_true] at g1 g2 ⊢
      exact ⟨ifp (by omega) (ifp (by omega) (ifn (by simp) g1)), ifp (by omega) (ifp (by omega) (ifp (by omega) (ifn (by simp) g2)))⟩
theorem jOk_len {l : List Int} (h : jOk l = true) : l.length ≤ 40 := by
  simp only [jOk, Bool.and_eq_true, decide_eq_true_eq] at h
  exact h.1
def amin (free : List Int) : Nat → Nat → Nat → Nat
  | 0, _, b => b
  | d + 1, j, b => amin free d (j + 1) (if free.getD j 0 < free.getD b 0 then j else b)
theorem amin_lt (free : List Int) (n : Nat) : ∀ (d j b : Nat), j + d ≤ n → b < n → amin free d j b < n := by
  intro d
  induction d with
  | zero => intro j b _ hb; exact hb
  | succ d ih =>
    intro j b hj hb
    rw [amin]
    apply ih
    · omega
    · split <;> omega
def planL (jobs : List Int) (w : Nat) : List Int → List Int → List S49
  | [], _ => []
  | o :: r, free => ⟨o, (amin free (w - 1) 1 0 : Nat), free.getD (amin free (w - 1) 1 0) 0, wrap64 (free.getD (amin free (w - 1) 1 0) 0 + rd jobs o)⟩ :: planL jobs w r (free.set (amin free (w - 1) 1 0) (wrap64 (free.getD (amin free (w - 1) 1 0) 0 + rd jobs o)))
theorem planL_len (jobs : List Int) (w : Nat) (order : List Int) : ∀ free, (planL jobs w order free).length = order.length := by
  induction order with
  | nil => intro free; rfl
  | cons o r ih => intro free; simp [planL, ih]
theorem spec_plan_in (jobs : List Int) (w : Nat) (hw1 : 1 ≤ w) (hw : w ≤ 6) (order : List Int) (out : List S49) (free : List Int) (hf : free.length = w) (i : Nat) (hi : i < order.length) (hom : order.length ≤ 100) (ho : 0 ≤ order.getD i 0 ∧ order.getD i 0 < (jobs.length : Int)) (hout : out.length ≤ 100) (K : Nat) : ∀ (d k j b : Nat), j + d = w → b < w → 1 ≤ j → K + d + 1 ≤ k →
    ∃ k', K ≤ k' ∧ spec_l12Plan.l1 k jobs (w : Int) order out free (i : Int) (b : Int) (j : Int) =
      spec_l12Plan.l0 k' jobs (w : Int) order (out ++ [(⟨order.getD i 0, (amin free d j b : Nat), free.getD (amin free d j b) 0, wrap64 (free.getD (amin free d j b) 0 + rd jobs (order.getD i 0))⟩ : S49)]) (free.set (amin free d j b) (wrap64 (free.getD (amin free d j b) 0 + rd jobs (order.getD i 0)))) ((i + 1 : Nat) : Int) := by
  intro d
  induction d with
  | zero =>
    intro k j b hj hb h1 hk
    obtain ⟨k, rfl⟩ : ∃ m, k = m + 1 := ⟨k - 1, by omega⟩
    refine ⟨k, by omega, ?_⟩
    rw [spec_l12Plan.l1, amin]
    simp only [rd_natD, Int.toNat_natCast, w64_succ i (by omega)]
    exact ifn (by omega) (ifp (by omega) (ifp (by omega) (ifp (by omega) (ifp (by omega) (ifp ho.1 (ifp ho.2 (ifp (by omega) rfl)))))))
  | succ d ih =>
    intro k j b hj hb h1 hk
    obtain ⟨k, rfl⟩ : ∃ m, k = m + 1 := ⟨k - 1, by omega⟩
    rw [spec_l12Plan.l1, w64_succ j (by omega)]
    by_cases c : free.getD j 0 < free.getD b 0
    · obtain ⟨k', g1, g2⟩ := ih k (j + 1) j (by omega) (by omega) (by omega) (by omega)
      have hv : amin free (d + 1) j b = amin free d (j + 1) j := by rw [amin, if_pos c]
      have hc : rd free (j : Int) < rd free (b : Int) := c
      rw [hv]
      exact ⟨k', g1, ifp (by omega) (ifp (by omega) (ifp (by omega) (ifp (by omega) (ifp (by omega) (ifp hc g2)))))⟩
    · obtain ⟨k', g1, g2⟩ := ih k (j + 1) b (by omega) (by omega) (by omega) (by omega)
      have hv : amin free (d + 1) j b = amin free d (j + 1) b := by rw [amin, if_neg c]
      have hc : ¬ rd free (j : Int) < rd free (b : Int) := c
      rw [hv]
      exact ⟨k', g1, ifp (by omega) (ifp (by omega) (ifp (by omega) (ifp (by omega) (ifp (by omega) (ifn hc g2)))))⟩
theorem spec_plan_l0 (jobs : List Int) (w : Nat) (hw1 : 1 ≤ w) (hw : w ≤ 6) (order : List Int) (hom : order.length ≤ 100) (ho : ∀ x ∈ order, 0 ≤ x ∧ x < (jobs.length : Int)) : ∀ (d k i : Nat) (out : List S49) (free : List Int), i + d = order.length → (d + 1) * 20 ≤ k → out.length ≤ i → free.length = w →
    spec_l12Plan.l0 k jobs (w : Int) order out free (i : Int) = some (out ++ planL jobs w (order.drop i) free) := by
  intro d
  induction d with
  | zero =>
    intro k i out free hi hk h1 hf
    obtain ⟨k, rfl⟩ : ∃ m, k = m + 1 := ⟨k - 1, by omega⟩
    rw [List.drop_of_length_le (by omega), spec_l12Plan.l0, planL, List.append_nil]
    exact ifn (by omega) rfl
  | succ d ih =>
    intro k i out free hi hk h1 hf
    obtain ⟨k, rfl⟩ : ∃ m, k = m + 1 := ⟨k - 1, by omega⟩
    rw [spec_l12Plan.l0, drop_getD order 0 i (by omega), planL]
    obtain ⟨k', g1, g2⟩ := spec_plan_in jobs w hw1 hw order out free hf i (by omega) hom (ho _ (mem_getD order 0 i (by omega))) (by omega) ((d + 1) * 20) (w - 1) k 1 0 (by omega) (by omega) (by omega) (by omega)
    have g3 := ih k' (i + 1) (out ++ [(⟨order.getD i 0, (amin free (w - 1) 1 0 : Nat), free.getD (amin free (w - 1) 1 0) 0, wrap64 (free.getD (amin free (w - 1) 1 0) 0 + rd jobs (order.getD i 0))⟩ : S49)]) (free.set (amin free (w - 1) 1 0) (wrap64 (free.getD (amin free (w - 1) 1 0) 0 + rd jobs (order.getD i 0)))) (by omega) g1 (by simp; omega) (by simpa using hf)
    rw [List.append_cons]
    exact ifp (by omega) (g2.trans g3)
theorem spec_plan (k : Nat) (jobs : List Int) (w : Int) (hw1 : 1 ≤ w) (hw : w ≤ 6) (order : List Int) (hom : order.length ≤ 100) (ho : ∀ x ∈ order, 0 ≤ x ∧ x < (jobs.length : Int)) (hk : 2100 ≤ k) : spec_l12Plan.f k jobs w order = some (planL jobs w.toNat order (List.replicate w.toNat 0)) := by
  obtain ⟨n, rfl⟩ := Int.eq_ofNat_of_zero_le (show 0 ≤ w by omega)
  unfold spec_l12Plan.f
  have := spec_plan_l0 jobs n (by omega) (by omega) order hom ho order.length k 0 [] (List.replicate n 0) (by omega) (by omega) (by simp) (by simp)
  simp only [List.nil_append, List.drop_zero] at this
  exact ifp (by omega) (ifp (by simp; omega) this)
def upTo : Nat → Nat → List Int
  | _, 0 => []
  | i, n + 1 => (i : Int) :: upTo (i + 1) n
theorem upTo_len : ∀ n i, (upTo i n).length = n := by
  intro n
  induction n with
  | zero => intro i; rfl
  | succ n ih => intro i; simp [upTo, ih]
theorem upTo_mem : ∀ n i, ∀ x ∈ upTo i n, (i : Int) ≤ x ∧ x < (i : Int) + n := by
  intro n
  induction n with
  | zero => intro i x hx; simp [upTo] at hx
  | succ n ih =>
    intro i x hx
    simp only [upTo, List.mem_cons] at hx
    rcases hx with rfl | hx
    · omega
    · have := ih (i + 1) x hx
      omega
def isPl (jobs : List Int) (w : Int) : Bool := jOk jobs && decide (1 ≤ w ∧ w ≤ 6)

def listPl (jobs : List Int) (w : Int) : List S49 := planL jobs w.toNat (upTo 0 jobs.length) (List.replicate w.toNat 0)
theorem spec_list_l0 (jobs : List Int) (w : Int) (hw1 : 1 ≤ w) (hw : w ≤ 6) (hj : jobs.length ≤ 40) : ∀ (d k i : Nat) (acc : List Int), i + d = jobs.length → d + 2200 ≤ k → acc = upTo 0 i →
    spec_ListPlan.l0 k jobs w acc (i : Int) = some (listPl jobs w, true) := by
  intro d
  induction d with
  | zero =>
    intro k i acc hi hk ha
    obtain ⟨k, rfl⟩ : ∃ m, k = m + 1 := ⟨k - 1, by omega⟩
    have hi2 : i = jobs.length := by omega
    subst ha
    rw [spec_ListPlan.l0]
    refine ifn (by omega) (st (spec_plan k jobs w hw1 hw _ (by rw [upTo_len]; omega) (fun x hx => by have := upTo_mem _ _ x hx; omega) (by omega)) ?_)
    rw [hi2]; rfl
  | succ d ih =>
    intro k i acc hi hk ha
    obtain ⟨k, rfl⟩ : ∃ m, k = m + 1 := ⟨k - 1, by omega⟩
    have hs : ∀ n i, upTo i (n + 1) = upTo i n ++ [((i + n : Nat) : Int)] := by
      intro n
      induction n with
      | zero => intro i; simp [upTo]
      | succ n ih2 =>
        intro i
        rw [upTo, ih2 (i + 1), upTo]
        simp
        omega
    rw [spec_ListPlan.l0, w64_succ i (by omega)]
    have hl : acc.length = i := by rw [ha, upTo_len]
    exact ifp (by omega) (ifp (by omega) (ih k (i + 1) (acc ++ [(i : Int)]) (by omega) (by omega) (by rw [ha, hs i 0]; simp)))
theorem spec_listpl (k : Nat) (jobs : List Int) (w : Int) (hm : jobs.length ≤ 1048576) (hk : 1048600 ≤ k) : spec_ListPlan.f k jobs w = some (if isPl jobs w = true then (listPl jobs w, true) else ([], false)) := by
  obtain ⟨k, rfl⟩ : ∃ m, k = m + 1 := ⟨k - 1, by omega⟩
  unfold spec_ListPlan.f isPl
  rw [spec_jOk (k + 1) jobs hm (by omega)]
  simp only [Option.bind_some, spec_in]
  by_cases c1 : jOk jobs = true
  · have hj := jOk_len c1
    rw [if_pos c1, c1, Bool.true_and]
    by_cases c2 : 1 ≤ w ∧ w ≤ 6
    · rw [decide_eq_true c2, if_pos rfl, spec_ListPlan.j0]
      exact ifn (by simp) (spec_list_l0 jobs w c2.1 c2.2 hj jobs.length k 0 [] (by omega) (by omega) rfl)
    · rw [decide_eq_false c2, if_neg (by simp), spec_ListPlan.j0]
      exact ifp rfl rfl
  · have c1f : jOk jobs = false := by simpa using c1
    rw [if_neg c1, c1f, Bool.false_and, if_neg (by simp), spec_ListPlan.j0]
    exact ifp rfl rfl

def insL (jobs : List Int) (i : Int) : List Int → List Int
  | [] => [i]
  | o :: r => if rd jobs i > rd jobs o then i :: o :: r else o :: insL jobs i r
def ordL (jobs : List Int) : Nat → List Int
  | 0 => []
  | n + 1 => insL jobs (n : Int) (ordL jobs n)
theorem insL_len (jobs : List Int) (i : Int) (l : List Int) : (insL jobs i l).length = l.length + 1 := by
  induction l with
  | nil => rfl
  | cons o r ih =>
    simp only [insL]
    split
    · simp
    · simp [ih]
theorem insL_mem (jobs : List Int) (i x : Int) (l : List Int) : x ∈ insL jobs i l ↔ x = i ∨ x ∈ l := by
  induction l with
  | nil => simp [insL]
  | cons o r ih =>
    simp only [insL]
    split
    · simp
    · simp only [List.mem_cons, ih]
      constructor
      · rintro (h | h | h)
        · exact .inr (.inl h)
        · exact .inl h
        · exact .inr (.inr h)
      · rintro (h | h | h)
        · exact .inr (.inl h)
        · exact .inl h
        · exact .inr (.inr h)
theorem ordL_len (jobs : List Int) (n : Nat) : (ordL jobs n).length = n := by
  induction n with
  | zero => rfl
  | succ n ih => rw [ordL, insL_len, ih]
theorem ordL_mem (jobs : List Int) (n : Nat) : ∀ x ∈ ordL jobs n, 0 ≤ x ∧ x < (n : Int) := by
  induction n with
  | zero => intro x hx; simp [ordL] at hx
  | succ n ih =>
    intro x hx
    rw [ordL, insL_mem] at hx
    rcases hx with rfl | hx
    · omega
    · have := ih x hx
      omega
def longPl (jobs : List Int) (w : Int) : List S49 := planL jobs w.toNat (ordL jobs jobs.length) (List.replicate w.toNat 0)

def leK (kf : Int → Int) (l : List Int) (x y : Int) : Prop := kf (rd l x) < kf (rd l y) ∨ kf (rd l x) = kf (rd l y) ∧ x ≤ y
theorem leK_anti (kf : Int → Int) (l : List Int) (x y : Int) (h1 : leK kf l x y) (h2 : leK kf l y x) : x = y := by
  unfold leK at h1 h2
  omega
theorem places_sorted (kf : Int → Int) (l : List Int) : (Go.Proofs.YtdniejjhkkepcaaDoorW.Plc.placesL kf l).Perm (Go.Proofs.YtdniejjhkkepcaaDoorW.Plc.upL l.length) ∧ (Go.Proofs.YtdniejjhkkepcaaDoorW.Plc.placesL kf l).Pairwise (leK kf l) := by
  by_cases h : 0 < l.length
  · unfold Go.Proofs.YtdniejjhkkepcaaDoorW.Plc.placesL
    rw [dif_pos h]
    letI I : Inhabited (Fin l.length) := ⟨⟨0, h⟩⟩
    have e : Go.Proofs.ltOf (Go.Proofs.YtdniejjhkkepcaaDoorW.Plc.cfP (N := l.length) kf l) = Go.Proofs.YtdniejjhkkepcaaDoorW.Stab.ltK (fun x : Fin l.length => kf (l.getD x.val 0)) := by
      funext x y
      unfold Go.Proofs.ltOf Go.Proofs.YtdniejjhkkepcaaDoorW.Plc.cfP Go.Proofs.YtdniejjhkkepcaaDoorW.Stab.ltK Go.Lib.compareInt
      congr 1
      apply propext
      dsimp only
      repeat' split
      all_goals omega
    rw [e]
    have hs : (Go.Proofs.YtdniejjhkkepcaaDoorW.Plc.D0 l.length).size = l.length := Go.Proofs.YtdniejjhkkepcaaDoorW.Plc.D0_size _
    obtain ⟨hp, hq⟩ := Go.Proofs.YtdniejjhkkepcaaDoorW.Stab.stab_spec (fun x : Fin l.length => kf (l.getD x.val 0)) (fun x : Fin l.length => (x.val : Int)) (Go.Proofs.YtdniejjhkkepcaaDoorW.Plc.D0 l.length) (fun p q h1 h2 => by
      rw [hs] at h2
      show ((Go.Proofs.YtdniejjhkkepcaaDoorW.Plc.D0 l.length)[p]!.val : Int) < ((Go.Proofs.YtdniejjhkkepcaaDoorW.Plc.D0 l.length)[q]!.val : Int)
      rw [Go.Proofs.YtdniejjhkkepcaaDoorW.Plc.D0_get p (by omega), Go.Proofs.YtdniejjhkkepcaaDoorW.Plc.D0_get q h2]
      omega)
    have hz : (Go.Proofs.YtdniejjhkkepcaaDoorW.Stab.stab (Go.Proofs.YtdniejjhkkepcaaDoorW.Stab.ltK (fun x : Fin l.length => kf (l.getD x.val 0))) (Go.Proofs.YtdniejjhkkepcaaDoorW.Plc.D0 l.length)).size = l.length := by rw [hp.1, hs]
    have hp2 := hp.2.2
    rw [hs] at hp2 hq
    generalize Go.Proofs.YtdniejjhkkepcaaDoorW.Stab.stab (Go.Proofs.YtdniejjhkkepcaaDoorW.Stab.ltK (fun x : Fin l.length => kf (l.getD x.val 0))) (Go.Proofs.YtdniejjhkkepcaaDoorW.Plc.D0 l.length) = R at hp2 hq hz ⊢
    have x1 : (R.extract 0 l.length) = R := by
      apply Array.ext
      · simp [hz]
      · intro i h1 h2; simp
    have x2 : ((Go.Proofs.YtdniejjhkkepcaaDoorW.Plc.D0 l.length).extract 0 l.length) = Go.Proofs.YtdniejjhkkepcaaDoorW.Plc.D0 l.length := by
      have := Go.Proofs.YtdniejjhkkepcaaDoorW.Plc.D0_size l.length
      apply Array.ext
      · simp [this]
      · intro i h1 h2; simp
    rw [x1, x2] at hp2
    refine ⟨?_, ?_⟩
    · have := hp2.map (fun x : Fin l.length => (x.val : Int))
      refine this.trans (List.Perm.of_eq ?_)
      unfold Go.Proofs.YtdniejjhkkepcaaDoorW.Plc.D0 Go.Proofs.YtdniejjhkkepcaaDoorW.Plc.upL
      apply List.ext_getElem
      · simp
      · intro i h1 h2; simp
    · rw [List.pairwise_iff_getElem]
      intro i j hi hj hij
      rw [List.length_map, Array.length_toList] at hi hj
      have g := hq i j (by omega) hij (by omega)
      unfold Go.Proofs.YtdniejjhkkepcaaDoorW.Stab.ltX at g
      rw [decide_eq_false_iff_not] at g
      rw [getElem!_pos R i hi, getElem!_pos R j hj] at g
      dsimp only at g
      simp only [List.getElem_map, Array.getElem_toList]
      unfold leK
      rw [rd_natD, rd_natD]
      omega
  · have hl : l = [] := List.eq_nil_of_length_eq_zero (by omega)
    subst hl
    exact ⟨List.Perm.refl _, List.Pairwise.nil⟩
theorem upTo_snoc : ∀ n i, upTo i (n + 1) = upTo i n ++ [((i + n : Nat) : Int)] := by
  intro n
  induction n with
  | zero => intro i; simp [upTo]
  | succ n ih =>
    intro i
    rw [upTo, ih (i + 1), upTo]
    simp
    omega
theorem upL_upTo (n : Nat) : Go.Proofs.YtdniejjhkkepcaaDoorW.Plc.upL n = upTo 0 n := by
  induction n with
  | zero => rfl
  | succ n ih => rw [Go.Proofs.YtdniejjhkkepcaaDoorW.Plc.upL_succ, ih, upTo_snoc]; simp
theorem upTo_sorted (kf : Int → Int) (l : List Int) (hk : ∀ x y, kf x = kf y) : ∀ n i, (upTo i n).Pairwise (leK kf l) := by
  intro n
  induction n with
  | zero => intro i; exact List.Pairwise.nil
  | succ n ih =>
    intro i
    rw [upTo]
    refine List.Pairwise.cons (fun y hy => ?_) (ih (i + 1))
    have := upTo_mem _ _ y hy
    exact .inr ⟨hk _ _, by omega⟩
theorem places67 (l : List Int) : Go.Proofs.YtdniejjhkkepcaaDoorW.Plc.placesL Go.Proofs.YtdniejjhkkepcaaDoorW.Plc.key67 l = upTo 0 l.length := by
  obtain ⟨h1, h2⟩ := places_sorted Go.Proofs.YtdniejjhkkepcaaDoorW.Plc.key67 l
  exact List.Perm.eq_of_pairwise (fun a b _ _ => leK_anti _ _ a b) h2 (upTo_sorted _ _ (fun _ _ => rfl) _ _) (h1.trans (List.Perm.of_eq (upL_upTo _)))

theorem insL_perm (jobs : List Int) (i : Int) (l : List Int) : (insL jobs i l).Perm (i :: l) := by
  induction l with
  | nil => exact List.Perm.refl _
  | cons o r ih =>
    simp only [insL]
    split
    · exact List.Perm.refl _
    · exact (ih.cons o).trans (List.Perm.swap i o r)
theorem ordL_perm (jobs : List Int) : ∀ n, (ordL jobs n).Perm (upTo 0 n) := by
  intro n
  induction n with
  | zero => exact List.Perm.refl _
  | succ n ih =>
    rw [ordL, upTo_snoc]
    refine (insL_perm jobs n _).trans ((ih.cons _).trans ?_)
    rw [Nat.zero_add]
    exact (List.perm_append_singleton _ _).symm
theorem rd_bd (jobs : List Int) (h : ∀ x ∈ jobs, 1 ≤ x ∧ x ≤ 1000) (i : Int) : 0 ≤ rd jobs i ∧ rd jobs i ≤ 1000 := by
  unfold rd
  by_cases c : i.toNat < jobs.length
  · have := h _ (mem_getD jobs 0 i.toNat c); omega
  · rw [List.getD_eq_getElem?_getD, List.getElem?_eq_none (by omega)]; simp
theorem le68 (jobs : List Int) (h : ∀ x ∈ jobs, 1 ≤ x ∧ x ≤ 1000) (x y : Int) : leK Go.Proofs.YtdniejjhkkepcaaDoorW.Plc.key68 jobs x y ↔ rd jobs x > rd jobs y ∨ rd jobs x = rd jobs y ∧ x ≤ y := by
  have h1 := rd_bd jobs h x
  have h2 := rd_bd jobs h y
  unfold leK Go.Proofs.YtdniejjhkkepcaaDoorW.Plc.key68
  rw [w64 (by omega) (by omega), w64 (by omega) (by omega)]
  omega
theorem insL_sorted (jobs : List Int) (h : ∀ x ∈ jobs, 1 ≤ x ∧ x ≤ 1000) (i : Int) : ∀ (l : List Int), (∀ x ∈ l, x < i) → l.Pairwise (leK Go.Proofs.YtdniejjhkkepcaaDoorW.Plc.key68 jobs) → (insL jobs i l).Pairwise (leK Go.Proofs.YtdniejjhkkepcaaDoorW.Plc.key68 jobs) := by
  intro l
  induction l with
  | nil => intro _ _; exact List.pairwise_singleton _ _
  | cons o r ih =>
    intro hx hp
    obtain ⟨p1, p2⟩ := List.pairwise_cons.1 hp
    simp only [insL]
    by_cases c : rd jobs i > rd jobs o
    · rw [if_pos c]
      refine List.Pairwise.cons (fun y hy => ?_) hp
      rw [le68 jobs h]
      rcases List.mem_cons.1 hy with rfl | hy
      · exact .inl c
      · have := (le68 jobs h _ _).1 (p1 y hy)
        exact .inl (by omega)
    · rw [if_neg c]
      refine List.Pairwise.cons (fun y hy => ?_) (ih (fun x hm => hx x (by simp [hm])) p2)
      rcases (insL_mem jobs i y r).1 hy with rfl | hy
      · rw [le68 jobs h]
        have := hx o (by simp)
        omega
      · exact p1 y hy
theorem ordL_sorted (jobs : List Int) (h : ∀ x ∈ jobs, 1 ≤ x ∧ x ≤ 1000) : ∀ n, (ordL jobs n).Pairwise (leK Go.Proofs.YtdniejjhkkepcaaDoorW.Plc.key68 jobs) := by
  intro n
  induction n with
  | zero => exact List.Pairwise.nil
  | succ n ih => exact insL_sorted jobs h _ _ (fun x hx => (ordL_mem jobs n x hx).2) ih
theorem places68 (l : List Int) (h : ∀ x ∈ l, 1 ≤ x ∧ x ≤ 1000) : Go.Proofs.YtdniejjhkkepcaaDoorW.Plc.placesL Go.Proofs.YtdniejjhkkepcaaDoorW.Plc.key68 l = ordL l l.length := by
  obtain ⟨h1, h2⟩ := places_sorted Go.Proofs.YtdniejjhkkepcaaDoorW.Plc.key68 l
  exact List.Perm.eq_of_pairwise (fun a b _ _ => leK_anti _ _ a b) h2 (ordL_sorted l h _) ((h1.trans (List.Perm.of_eq (upL_upTo _))).trans (ordL_perm l _).symm)

theorem min_l0 (l : List Int) (hl : l.length ≤ 100) : ∀ (d k i : Nat) (m : Int), i + d = l.length → d < k → (∃ q, q < l.length ∧ l.getD q 0 = m) → (∀ q, q < i → m ≤ l.getD q 0) →
    ∃ r, slices_Min_int_int.l0 k l m (i : Int) = some r ∧ (∃ q, q < l.length ∧ l.getD q 0 = r) ∧ ∀ q, q < l.length → r ≤ l.getD q 0 := by
  intro d
  induction d with
  | zero =>
    intro k i m hi hk hm hq
    obtain ⟨k, rfl⟩ : ∃ m, k = m + 1 := ⟨k - 1, by omega⟩
    refine ⟨m, ?_, hm, fun q h => hq q (by omega)⟩
    rw [slices_Min_int_int.l0]
    exact ifn (by omega) rfl
  | succ d ih =>
    intro k i m hi hk hm hq
    obtain ⟨k, rfl⟩ : ∃ m, k = m + 1 := ⟨k - 1, by omega⟩
    have e : mn m (l.getD i 0) = m ∧ m ≤ l.getD i 0 ∨ mn m (l.getD i 0) = l.getD i 0 ∧ l.getD i 0 ≤ m := by unfold mn; split <;> omega
    obtain ⟨r, g1, g2, g3⟩ := ih k (i + 1) (mn m (l.getD i 0)) (by omega) (by omega) (by
      rcases e with ⟨e, _⟩ | ⟨e, _⟩
      · rw [e]; exact hm
      · rw [e]; exact ⟨i, by omega, rfl⟩) (fun q hq2 => by
      rcases Nat.lt_or_ge q i with h | h
      · have := hq q h; omega
      · obtain rfl : q = i := by omega
        omega)
    refine ⟨r, ?_, g2, g3⟩
    rw [slices_Min_int_int.l0, rd_natD, w64_succ i (by omega)]
    exact ifp (by omega) (ifp (by omega) g1)
theorem min_ (k : Nat) (l : List Int) (hl : l.length ≤ 100) (h0 : 0 < l.length) (hk : 200 ≤ k) : ∃ r, slices_Min_int_int.f k l = some r ∧ (∃ q, q < l.length ∧ l.getD q 0 = r) ∧ ∀ q, q < l.length → r ≤ l.getD q 0 := by
  obtain ⟨r, g1, g2, g3⟩ := min_l0 l hl (l.length - 1) k 1 (l.getD 0 0) (by omega) (by omega) ⟨0, h0, rfl⟩ (fun q hq => by
    obtain rfl : q = 0 := by omega
    omega)
  refine ⟨r, ?_, g2, g3⟩
  unfold slices_Min_int_int.f
  have e : rd l 0 = l.getD 0 0 := rd_natD l 0
  rw [e]
  exact ifn (by omega) (ifp (by omega) g1)
theorem index_l0 (l : List Int) (x : Int) (a : Nat) (ha : a < l.length) (hx : l.getD a 0 = x) (hf : ∀ q, q < a → l.getD q 0 ≠ x) (hl : l.length ≤ 100) : ∀ (d k i : Nat), i + d = a → d < k → slices_Index_int_int.l0 k l x (l.length : Int) (i : Int) = some (a : Int) := by
  intro d
  induction d with
  | zero =>
    intro k i hi hk
    obtain ⟨k, rfl⟩ : ∃ m, k = m + 1 := ⟨k - 1, by omega⟩
    obtain rfl : i = a := by omega
    rw [slices_Index_int_int.l0, rd_natD]
    exact ifp (by omega) (ifp (by omega) (ifp (by omega) (ifp hx.symm rfl)))
  | succ d ih =>
    intro k i hi hk
    obtain ⟨k, rfl⟩ : ∃ m, k = m + 1 := ⟨k - 1, by omega⟩
    have := hf i (by omega)
    rw [slices_Index_int_int.l0, rd_natD, w64_succ i (by omega)]
    exact ifp (by omega) (ifp (by omega) (ifp (by omega) (ifn (fun z => this z.symm) (ih k (i + 1) (by omega) (by omega)))))
theorem amin_least (free : List Int) (n : Nat) : ∀ (d j b : Nat), j + d = n → b < j → (∀ q, q < j → free.getD b 0 ≤ free.getD q 0) → (∀ q, q < b → free.getD b 0 < free.getD q 0) →
    (∀ q, q < n → free.getD (amin free d j b) 0 ≤ free.getD q 0) ∧ (∀ q, q < amin free d j b → free.getD (amin free d j b) 0 < free.getD q 0) := by
  intro d
  induction d with
  | zero =>
    intro j b hj hb h1 h2
    exact ⟨fun q hq => h1 q (by omega), h2⟩
  | succ d ih =>
    intro j b hj hb h1 h2
    rw [amin]
    by_cases c : free.getD j 0 < free.getD b 0
    · rw [if_pos c]
      refine ih (j + 1) j (by omega) (by omega) (fun q hq => ?_) (fun q hq => ?_)
      · rcases Nat.lt_or_ge q j with h | h
        · have := h1 q h; omega
        · obtain rfl : q = j := by omega
          omega
      · have := h1 q hq; omega
    · rw [if_neg c]
      refine ih (j + 1) b (by omega) (by omega) (fun q hq => ?_) h2
      rcases Nat.lt_or_ge q j with h | h
      · exact h1 q h
      · obtain rfl : q = j := by omega
        omega
theorem first_least (k : Nat) (free : List Int) (w : Nat) (hf : free.length = w) (hw1 : 1 ≤ w) (hw : w ≤ 6) (hk : 200 ≤ k) : ∃ r, slices_Min_int_int.f k free = some r ∧ slices_Index_int_int.f k free r = some ((amin free (w - 1) 1 0 : Nat) : Int) := by
  obtain ⟨r, g1, ⟨q, hq, hqr⟩, g3⟩ := min_ k free (by omega) (by omega) hk
  obtain ⟨a1, a2⟩ := amin_least free w (w - 1) 1 0 (by omega) (by omega) (fun q hq => by
    obtain rfl : q = 0 := by omega
    exact Int.le_refl _) (fun q hq => by omega)
  have hlt := amin_lt free w (w - 1) 1 0 (by omega) (by omega)
  generalize amin free (w - 1) 1 0 = a at a1 a2 hlt ⊢
  have e : free.getD a 0 = r := by
    have h1 := a1 q (by omega)
    have h2 := g3 a (by omega)
    omega
  refine ⟨r, g1, ?_⟩
  unfold slices_Index_int_int.f
  exact index_l0 free r a (by omega) e (fun q hq z => by have := a2 q hq; omega) (by omega) a k 0 (by omega) (by omega)
theorem impl_planOf_l0 (jobs : List Int) (w : Nat) (hw1 : 1 ≤ w) (hw : w ≤ 6) (order : List Int) (hom : order.length ≤ 100) (ho : ∀ x ∈ order, 0 ≤ x ∧ x < (jobs.length : Int)) : ∀ (d k i : Nat) (out : List S49) (free : List Int), i + d = order.length → d + 300 ≤ k → out.length ≤ i → free.length = w →
    impl_planOf.l0 k jobs out free order (order.length : Int) (i : Int) = some (out ++ planL jobs w (order.drop i) free) := by
  intro d
  induction d with
  | zero =>
    intro k i out free hi hk h1 hf
    obtain ⟨k, rfl⟩ : ∃ m, k = m + 1 := ⟨k - 1, by omega⟩
    rw [List.drop_of_length_le (by omega), impl_planOf.l0, planL, List.append_nil]
    exact ifn (by omega) rfl
  | succ d ih =>
    intro k i out free hi hk h1 hf
    obtain ⟨k, rfl⟩ : ∃ m, k = m + 1 := ⟨k - 1, by omega⟩
    obtain ⟨r, e1, e2⟩ := first_least k free w hf hw1 hw (by omega)
    have hlt := amin_lt free w (w - 1) 1 0 (by omega) (by omega)
    have hm := ho _ (mem_getD order 0 i (by omega))
    rw [impl_planOf.l0, drop_getD order 0 i (by omega), planL, w64_succ i (by omega), rd_natD]
    have g3 := ih k (i + 1) (out ++ [(⟨order.getD i 0, (amin free (w - 1) 1 0 : Nat), free.getD (amin free (w - 1) 1 0) 0, wrap64 (free.getD (amin free (w - 1) 1 0) 0 + rd jobs (order.getD i 0))⟩ : S49)]) (free.set (amin free (w - 1) 1 0) (wrap64 (free.getD (amin free (w - 1) 1 0) 0 + rd jobs (order.getD i 0)))) (by omega) (by omega) (by simp; omega) (by simpa using hf)
    rw [List.append_cons]
    refine ifp (by omega) (ifp (by omega) (ifp (by omega) (st e1 (st e2 ?_))))
    simp only [rd_natD, Int.toNat_natCast]
    exact ifp (by omega) (ifp (by omega) (ifp hm.1 (ifp hm.2 (ifp (by omega) g3))))
theorem impl_plan (k : Nat) (jobs : List Int) (w : Int) (hw1 : 1 ≤ w) (hw : w ≤ 6) (order : List Int) (hom : order.length ≤ 100) (ho : ∀ x ∈ order, 0 ≤ x ∧ x < (jobs.length : Int)) (hk : 2100 ≤ k) : impl_planOf.f k jobs order w = some (planL jobs w.toNat order (List.replicate w.toNat 0)) := by
  obtain ⟨n, rfl⟩ := Int.eq_ofNat_of_zero_le (show 0 ≤ w by omega)
  unfold impl_planOf.f
  have := impl_planOf_l0 jobs n (by omega) (by omega) order hom ho order.length k 0 [] (List.replicate n 0) (by omega) (by omega) (by simp) (by simp)
  simp only [List.nil_append, List.drop_zero] at this
  exact ifp (by omega) (ifp (by simp; omega) this)
theorem impl_planned (k : Nat) (jobs : List Int) (w : Int) (hm : jobs.length ≤ 1048576) (hk : 1048600 ≤ k) : impl_arePlanned.f k jobs w = some (isPl jobs w) := by
  unfold impl_arePlanned.f isPl
  refine st (impl_jOk k jobs hm (by omega)) ?_
  by_cases c : jOk jobs = true
  · rw [c]; exact ifp rfl (st (impl_in_ w 1 6) (by simp))
  · have cf : jOk jobs = false := by simpa using c
    rw [cf]; exact ifn (by simp) (by simp)
theorem isPl_iff {jobs : List Int} {w : Int} (h : isPl jobs w = true) : jobs.length ≤ 40 ∧ (∀ x ∈ jobs, 1 ≤ x ∧ x ≤ 1000) ∧ 1 ≤ w ∧ w ≤ 6 := by
  unfold isPl at h
  simp only [Bool.and_eq_true, decide_eq_true_eq] at h
  refine ⟨jOk_len h.1, fun x hx => ?_, h.2⟩
  have hj := h.1
  simp only [jOk, Bool.and_eq_true, List.all_eq_true] at hj
  have := hj.2 x hx
  simpa [isJ] using this

theorem impl_listpl (k : Nat) (jobs : List Int) (w : Int) (hm : jobs.length ≤ 1048576) (hk : 1048600 ≤ k) : impl_ListPlan.f k jobs w = some (if isPl jobs w = true then (listPl jobs w, true) else ([], false)) := by
  unfold impl_ListPlan.f
  refine st (impl_planned k jobs w hm hk) ?_
  by_cases c : isPl jobs w = true
  · obtain ⟨h1, _, h3, h4⟩ := isPl_iff c
    have hv : (if isPl jobs w = true then (listPl jobs w, true) else (([] : List S49), false)) = (listPl jobs w, true) := if_pos c
    rw [hv]
    have hp : impl_placesBy_at_29.f jobs = some (upTo 0 jobs.length) := by unfold impl_placesBy_at_29.f; rw [if_pos h1, places67]
    exact ifp c (st hp (st (impl_plan k jobs w h3 h4 _ (by rw [upTo_len]; omega) (fun x hx => by have := upTo_mem _ _ x hx; omega) (by omega)) rfl))
  · have hv : (if isPl jobs w = true then (listPl jobs w, true) else (([] : List S49), false)) = ([], false) := if_neg c
    rw [hv]
    exact ifn c rfl

theorem impl_longpl (k : Nat) (jobs : List Int) (w : Int) (hm : jobs.length ≤ 1048576) (hk : 1048600 ≤ k) : impl_LongestFirst.f k jobs w = some (if isPl jobs w = true then (longPl jobs w, true) else ([], false)) := by
  unfold impl_LongestFirst.f
  refine st (impl_planned k jobs w hm hk) ?_
  by_cases c : isPl jobs w = true
  · obtain ⟨h1, h2, h3, h4⟩ := isPl_iff c
    have hv : (if isPl jobs w = true then (longPl jobs w, true) else (([] : List S49), false)) = (longPl jobs w, true) := if_pos c
    rw [hv]
    have hp : impl_placesBy_at_30.f jobs = some (ordL jobs jobs.length) := by unfold impl_placesBy_at_30.f; rw [if_pos h1, places68 jobs h2]
    exact ifp c (st hp (st (impl_plan k jobs w h3 h4 _ (by rw [ordL_len]; omega) (fun x hx => ordL_mem _ _ x hx) (by omega)) rfl))
  · have hv : (if isPl jobs w = true then (longPl jobs w, true) else (([] : List S49), false)) = ([], false) := if_neg c
    rw [hv]
    exact ifn c rfl

def spanF (m : Int) : List S49 → Int
  | [] => m
  | x :: r => spanF (if x.f3 > m then x.f3 else m) r
def span (l : List S49) : Int := if l.length = 0 then 0 else spanF (l.getD 0 z49).f3 (l.drop 1)
theorem cmpT (a b c d e f g h : Int) : impl_SpanOf_1.f a b c d e f g h = some (if d < h then -1 else if d > h then 1 else 0) := by
  simp only [impl_SpanOf_1.f, cmp_Compare_int.f, cmp_isNaN_int.f, Option.bind_some, bne_self_eq_false]
  rw [if_neg (by simp), if_neg (by simp)]
  by_cases c1 : d < h
  · rw [if_pos c1, if_pos c1]; rfl
  · rw [if_neg c1, if_neg c1]
    by_cases c2 : d > h
    · rw [if_pos c2, if_pos c2]; rfl
    · rw [if_neg c2, if_neg c2]; rfl
theorem span_l0 (l : List S49) (hm : l.length ≤ 1048576) : ∀ (d k i : Nat) (a b c m : Int), i + d = l.length → d < k → 1 ≤ i →
    ∃ r1 r2 r3, impl_Slot_at_37.l0 k l (i : Int) a b c m = some (r1, r2, r3, spanF m (l.drop i)) := by
  intro d
  induction d with
  | zero =>
    intro k i a b c m hi hk h1
    obtain ⟨k, rfl⟩ : ∃ m, k = m + 1 := ⟨k - 1, by omega⟩
    rw [List.drop_of_length_le (by omega)]
    simp only [impl_Slot_at_37.l0, spanF]
    exact ⟨a, b, c, ifn (by omega) rfl⟩
  | succ d ih =>
    intro k i a b c m hi hk h1
    obtain ⟨k, rfl⟩ : ∃ m, k = m + 1 := ⟨k - 1, by omega⟩
    simp only [impl_Slot_at_37.l0, cmpT, Option.bind_some, rd_T49, Int.toNat_natCast, w64_succ i (by omega)]
    by_cases c1 : (l.getD i z49).f3 > m
    · obtain ⟨r1, r2, r3, g2⟩ := ih k (i + 1) (l.getD i z49).f0 (l.getD i z49).f1 (l.getD i z49).f2 (l.getD i z49).f3 (by omega) (by omega) (by omega)
      have hv : spanF m (l.drop i) = spanF (l.getD i z49).f3 (l.drop (i + 1)) := by rw [drop_getD l z49 i (by omega)]; simp only [spanF]; rw [if_pos c1]
      rw [hv]
      refine ⟨r1, r2, r3, ifp (by omega) (ifp (by omega) (ifp ?_ g2))⟩
      rw [if_neg (by omega), if_pos c1]; decide
    · obtain ⟨r1, r2, r3, g2⟩ := ih k (i + 1) a b c m (by omega) (by omega) (by omega)
      have hv : spanF m (l.drop i) = spanF m (l.drop (i + 1)) := by rw [drop_getD l z49 i (by omega)]; simp only [spanF]; rw [if_neg c1]
      rw [hv]
      refine ⟨r1, r2, r3, ifp (by omega) (ifp (by omega) (ifn ?_ g2))⟩
      by_cases c2 : (l.getD i z49).f3 < m
      · rw [if_pos c2]; decide
      · rw [if_neg c2, if_neg c1]; decide
theorem impl_span (k : Nat) (l : List S49) (hm : l.length ≤ 1048576) (hk : 1048600 ≤ k) : impl_SpanOf.f k l = some (span l) := by
  unfold impl_SpanOf.f span impl_Slot_at_37.f
  by_cases c : l.length = 0
  · rw [if_pos c]
    exact ifp (by omega) rfl
  · rw [if_neg c]
    obtain ⟨r1, r2, r3, e⟩ := (span_l0 l hm (l.length - 1) k 1 (l.getD 0 z49).f0 (l.getD 0 z49).f1 (l.getD 0 z49).f2 (l.getD 0 z49).f3 (by omega) (by omega) (by omega))
    exact ifn (by omega) (st (ifn (by omega) (ifp (by omega) e)) rfl)

def total (l : List Int) : Int := l.foldl (· + ·) 0
theorem foldl_add (l : List Int) (a : Int) : l.foldl (· + ·) a = a + l.foldl (· + ·) 0 := by
  induction l generalizing a with
  | nil => simp
  | cons x l ih => simp only [List.foldl_cons]; rw [ih (a + x), ih (0 + x)]; omega
theorem total_cons (x : Int) (l : List Int) : total (x :: l) = x + total l := by
  unfold total; simp only [List.foldl_cons]; rw [foldl_add]; omega
theorem total_bd (l : List Int) (h : l.all isJ = true) : 0 ≤ total l ∧ total l ≤ 1000 * l.length := by
  induction l with
  | nil => simp [total]
  | cons x l ih =>
    simp only [List.all_cons, Bool.and_eq_true] at h
    have := ih h.2
    have hx : 1 ≤ x ∧ x ≤ 1000 := by simpa [isJ] using h.1
    rw [total_cons]
    simp only [List.length_cons]
    omega
theorem isJ_getD (l : List Int) (h : l.all isJ = true) (i : Nat) (hi : i < l.length) : 1 ≤ l.getD i 0 ∧ l.getD i 0 ≤ 1000 := by
  have := List.all_eq_true.1 h _ (mem_getD l 0 i hi)
  simpa [isJ] using this
theorem impl_sum_l0 (l : List Int) (hm : l.length ≤ 1048576) (hj : l.all isJ = true) : ∀ (d k i : Nat) (s : Int), i + d = l.length → d < k → 0 ≤ s → s ≤ 1000 * i → impl_sum.l0 k s l (l.length : Int) (i : Int) = some (s + total (l.drop i)) := by
  intro d
  induction d with
  | zero =>
    intro k i s hi hk h0 h1
    obtain ⟨k, rfl⟩ : ∃ m, k = m + 1 := ⟨k - 1, by omega⟩
    simp only [impl_sum.l0]
    rw [if_neg (by omega), List.drop_of_length_le (by omega)]
    simp [total]
  | succ d ih =>
    intro k i s hi hk h0 h1
    obtain ⟨k, rfl⟩ : ∃ m, k = m + 1 := ⟨k - 1, by omega⟩
    have hg := isJ_getD l hj i (by omega)
    simp only [impl_sum.l0]
    refine ifp (by omega) (ifp (by omega) (ifp (by omega) ?_))
    rw [rd_natD, w64_succ i (by omega), w64 (by omega) (by omega), ih k (i + 1) _ (by omega) (by omega) (by omega) (by omega), drop_getD l 0 i (by omega), total_cons]
    congr 1; omega
theorem impl_sum_ (k : Nat) (l : List Int) (hm : l.length ≤ 1048576) (hj : l.all isJ = true) (hk : l.length < k) : impl_sum.f k l = some (total l) := by
  have := impl_sum_l0 l hm hj l.length k 0 0 (by omega) hk (by omega) (by omega)
  simpa [impl_sum.f] using this
theorem impl_up_ (s w : Int) (h0 : 0 ≤ s) (h1 : s ≤ 2000000000) (hw : 1 ≤ w) (hw2 : w ≤ 6) : impl_up.f s w = some ((s + w - 1) / w) := by
  unfold impl_up.f impl_down.f
  rw [w64 (x := -s) (by omega) (by omega), Int.neg_tdiv, Int.neg_tmod, tdiv_pos h0, tmod_pos h0, if_neg (by omega)]
  have b1 : 0 ≤ s / w := Int.ediv_nonneg h0 (by omega)
  have b2 : s / w ≤ s := Int.ediv_le_self _ h0
  have q1 : wrap64 (-(s / w)) = -(s / w) := w64 (by omega) (by omega)
  have q2 : wrap64 (-(s / w) - 1) = -(s / w) - 1 := w64 (by omega) (by omega)
  have q3 : wrap64 (-(-(s / w) - 1)) = s / w + 1 := by rw [w64 (by omega) (by omega)]; omega
  have q4 : wrap64 (-(-(s / w))) = s / w := by rw [w64 (by omega) (by omega)]; omega
  rw [q1, q2]
  have hx : (if -(s % w) < 0 then some (-(s / w) - 1) else some (-(s / w))).bind (fun t => some (wrap64 (-t))) = some (if -(s % w) < 0 then s / w + 1 else s / w) := by
    split <;> simp only [Option.bind_some, q3, q4]
  rw [hx]
  congr 1
  obtain rfl | rfl | rfl | rfl | rfl | rfl : w = 1 ∨ w = 2 ∨ w = 3 ∨ w = 4 ∨ w = 5 ∨ w = 6 := by omega
  all_goals (split <;> omega)
def grow (l : List Int) (a : Int) : Int := l.foldl max a
theorem grow_cons (x : Int) (l : List Int) (a : Int) : grow (x :: l) a = grow l (max a x) := rfl
theorem impl_lb_l0 (l : List Int) (hm : l.length ≤ 1048576) : ∀ (d k i : Nat) (s : Int), i + d = l.length → d < k → impl_LowerBound.l0 k s l (l.length : Int) (i : Int) = some (grow (l.drop i) s) := by
  intro d
  induction d with
  | zero =>
    intro k i s hi hk
    obtain ⟨k, rfl⟩ : ∃ m, k = m + 1 := ⟨k - 1, by omega⟩
    simp only [impl_LowerBound.l0]
    rw [if_neg (by omega), List.drop_of_length_le (by omega)]
    rfl
  | succ d ih =>
    intro k i s hi hk
    obtain ⟨k, rfl⟩ : ∃ m, k = m + 1 := ⟨k - 1, by omega⟩
    simp only [impl_LowerBound.l0]
    refine ifp (by omega) (ifp (by omega) (ifp (by omega) ?_))
    rw [rd_natD, w64_succ i (by omega), drop_getD l 0 i (by omega), grow_cons, mx_eq]
    exact ih k (i + 1) _ (by omega) (by omega)
def lowb (l : List Int) (w : Int) : Int := if jOk l = true ∧ 1 ≤ w ∧ w ≤ 6 then grow l ((total l + w - 1) / w) else -1
theorem impl_lowb (k : Nat) (l : List Int) (w : Int) (hm : l.length ≤ 1048576) (hk : l.length + 10 < k) : impl_LowerBound.f k l w = some (lowb l w) := by
  unfold impl_LowerBound.f lowb impl_arePlanned.f
  rw [impl_jOk _ l hm (by omega), impl_in_]
  simp only [Option.bind_some]
  cases hj : jOk l with
  | false => simp
  | true =>
    by_cases hw : 1 ≤ w ∧ w ≤ 6
    · have hj' : l.length ≤ 40 ∧ l.all isJ = true := by simpa [jOk] using hj
      have hb := total_bd l hj'.2
      simp only [hw, if_true, and_self, decide_true, Option.bind_some]
      rw [impl_sum_ k l hm hj'.2 (by omega)]
      simp only [Option.bind_some]
      rw [impl_up_ _ w hb.1 (by omega) hw.1 hw.2]
      have := impl_lb_l0 l hm l.length k 0 ((total l + w - 1) / w) (by omega) (by omega)
      simpa using this
    · simp [hw]

namespace Gr
def tots (l : List Int) : Int := l.foldr (· + ·) 0
theorem least_sum (m : Int) : ∀ l : List Int, (∀ x ∈ l, m ≤ x) → (l.length : Int) * m ≤ tots l
  | [], _ => by simp [tots]
  | x :: r, h => by
    have h1 := least_sum m r (fun y hy => h y (List.mem_cons_of_mem _ hy))
    have h2 := h x List.mem_cons_self
    have e : ((x :: r).length : Int) * m = (r.length : Int) * m + m := by
      rw [List.length_cons, Int.natCast_add, Int.add_mul]; simp
    have e2 : tots (x :: r) = x + tots r := rfl
    omega
theorem set_sum : ∀ (l : List Int) (i : Nat) (c : Int), i < l.length → tots (l.set i (l.getD i 0 + c)) = tots l + c
  | [], i, c, h => absurd h (Nat.not_lt_zero i)
  | x :: r, 0, c, _ => by
    show (x + c) + tots r = (x + tots r) + c
    omega
  | x :: r, i + 1, c, h => by
    have h1 := set_sum r i c (by simpa using h)
    show x + tots (r.set i (r.getD i 0 + c)) = (x + tots r) + c
    omega
theorem step (free : List Int) (w : Nat) (T most c : Int) (a : Nat) (hw : 1 ≤ w) (hl : free.length = w) (ha : a < w) (hle : ∀ q, q < w → free.getD a 0 ≤ free.getD q 0) (hs : tots free = T)
    (hb : ∀ q, q < w → (w : Int) * free.getD q 0 ≤ T + ((w : Int) - 1) * most) (hc : 0 ≤ c) (hm : c ≤ most) :
    tots (free.set a (free.getD a 0 + c)) = T + c ∧ ∀ q, q < w → (w : Int) * (free.set a (free.getD a 0 + c)).getD q 0 ≤ (T + c) + ((w : Int) - 1) * most := by
  refine ⟨by rw [set_sum free a c (by omega), hs], fun q hq => ?_⟩
  have hmem : ∀ x ∈ free, free.getD a 0 ≤ x := fun x hx => by
    obtain ⟨i, hi, rfl⟩ := List.getElem_of_mem hx
    have := hle i (by omega)
    rwa [List.getD_eq_getElem?_getD (l := free) (i := i), List.getElem?_eq_getElem hi] at this
  have h1 := least_sum (free.getD a 0) free hmem
  rw [hl, hs] at h1
  by_cases e : q = a
  · subst e
    have e1 : (free.set q (free.getD q 0 + c)).getD q 0 = free.getD q 0 + c := by
      rw [List.getD_eq_getElem?_getD, List.getElem?_set_self (by omega)]
      rfl
    rw [e1, Int.mul_add]
    have e2 : (w : Int) * c = c + ((w : Int) - 1) * c := by rw [Int.sub_mul]; omega
    have e3 : ((w : Int) - 1) * c ≤ ((w : Int) - 1) * most := Int.mul_le_mul_of_nonneg_left hm (by omega)
    omega
  · have e1 : (free.set a (free.getD a 0 + c)).getD q 0 = free.getD q 0 := by
      rw [List.getD_eq_getElem?_getD, List.getElem?_set_ne (by omega), ← List.getD_eq_getElem?_getD]
    rw [e1]
    have := hb q hq
    omega
theorem start (w : Nat) (most : Int) (hm : 0 ≤ most) (hw : 1 ≤ w) : tots (List.replicate w 0) = 0 ∧ ∀ q, q < w → (w : Int) * (List.replicate w (0 : Int)).getD q 0 ≤ 0 + ((w : Int) - 1) * most := by
  constructor
  · clear hw
    induction w with
    | zero => rfl
    | succ n ih => rw [List.replicate_succ]; show 0 + tots (List.replicate n 0) = 0; omega
  · intro q hq
    have e : (List.replicate w (0 : Int)).getD q 0 = 0 := by
      rw [List.getD_eq_getElem?_getD, List.getElem?_replicate]
      split <;> rfl
    rw [e]
    have := Int.mul_nonneg (show (0 : Int) ≤ (w : Int) - 1 by omega) hm
    omega
end Gr

def costs (jobs order : List Int) : Int := Gr.tots (order.map (rd jobs))
theorem costs_nn (jobs : List Int) : ∀ order : List Int, (∀ o ∈ order, 1 ≤ rd jobs o) → 0 ≤ costs jobs order
  | [], _ => Int.le_refl _
  | o :: r, h => by
    have h1 := costs_nn jobs r (fun x hx => h x (List.mem_cons_of_mem _ hx))
    have h2 := h o List.mem_cons_self
    show 0 ≤ rd jobs o + costs jobs r
    omega
theorem planL_graham (jobs : List Int) (w : Nat) (hw1 : 1 ≤ w) (hw : w ≤ 6) (most : Int) (hm : most ≤ 1000) : ∀ (order free : List Int) (T B : Int), (∀ o ∈ order, 1 ≤ rd jobs o ∧ rd jobs o ≤ most) → free.length = w → (∀ q, q < w → 0 ≤ free.getD q 0 ∧ free.getD q 0 ≤ B) → B + 1000 * order.length ≤ 1000000000 →
    Gr.tots free = T → (∀ q, q < w → (w : Int) * free.getD q 0 ≤ T + ((w : Int) - 1) * most) → ∀ s ∈ planL jobs w order free, 1 ≤ s.f3 ∧ (w : Int) * s.f3 ≤ T + costs jobs order + ((w : Int) - 1) * most := by
  intro order
  induction order with
  | nil => intro free T B _ _ _ _ _ _ s hs; exact absurd hs (by simp [planL])
  | cons o r ih =>
    intro free T B ho hl hf hB hT hb s hs
    have hlt := amin_lt free w (w - 1) 1 0 (by omega) (by omega)
    obtain ⟨a1, _⟩ := amin_least free w (w - 1) 1 0 (by omega) (by omega) (fun q hq => by
      obtain rfl : q = 0 := by omega
      exact Int.le_refl _) (fun q hq => by omega)
    rw [planL] at hs
    generalize amin free (w - 1) 1 0 = a at hlt a1 hs
    obtain ⟨c1, c2⟩ := ho o List.mem_cons_self
    obtain ⟨f1, f2⟩ := hf a hlt
    have hlen : ((o :: r).length : Int) = (r.length : Int) + 1 := by simp
    have hr0 : (0 : Int) ≤ (r.length : Int) := by omega
    have e : wrap64 (free.getD a 0 + rd jobs o) = free.getD a 0 + rd jobs o := w64 (by omega) (by omega)
    rw [e] at hs
    obtain ⟨g1, g2⟩ := Gr.step free w T most (rd jobs o) a hw1 hl hlt a1 hT hb (by omega) c2
    have hn := costs_nn jobs r (fun x hx => (ho x (List.mem_cons_of_mem _ hx)).1)
    have hc : costs jobs (o :: r) = rd jobs o + costs jobs r := rfl
    have e1 : (free.set a (free.getD a 0 + rd jobs o)).getD a 0 = free.getD a 0 + rd jobs o := by
      rw [List.getD_eq_getElem?_getD, List.getElem?_set_self (by omega)]
      rfl
    rcases List.mem_cons.1 hs with rfl | hs
    · have h3 := g2 a hlt
      rw [e1] at h3
      refine ⟨?_, ?_⟩
      · show 1 ≤ free.getD a 0 + rd jobs o
        omega
      · show (w : Int) * (free.getD a 0 + rd jobs o) ≤ _
        rw [hc]
        omega
    · have hf2 : ∀ q, q < w → 0 ≤ (free.set a (free.getD a 0 + rd jobs o)).getD q 0 ∧ (free.set a (free.getD a 0 + rd jobs o)).getD q 0 ≤ B + 1000 := by
        intro q hq
        by_cases h : q = a
        · subst h; rw [e1]; omega
        · have e2 : (free.set a (free.getD a 0 + rd jobs o)).getD q 0 = free.getD q 0 := by
            rw [List.getD_eq_getElem?_getD, List.getElem?_set_ne (by omega), ← List.getD_eq_getElem?_getD]
          rw [e2]
          have := hf q hq
          omega
      obtain ⟨h4, h5⟩ := ih _ (T + rd jobs o) (B + 1000) (fun x hx => ho x (List.mem_cons_of_mem _ hx)) (by rw [List.length_set]; exact hl) hf2 (by omega) g1 g2 s hs
      refine ⟨h4, ?_⟩
      rw [hc]
      omega

theorem spanF_max : ∀ (l : List S49) (m : Int), m ≤ spanF m l ∧ (∀ s ∈ l, s.f3 ≤ spanF m l) ∧ (spanF m l = m ∨ ∃ s ∈ l, spanF m l = s.f3)
  | [], m => ⟨Int.le_refl _, fun s hs => absurd hs (by simp), Or.inl rfl⟩
  | x :: r, m => by
    obtain ⟨h1, h2, h3⟩ := spanF_max r (if x.f3 > m then x.f3 else m)
    show m ≤ spanF (if x.f3 > m then x.f3 else m) r ∧ (∀ s ∈ x :: r, s.f3 ≤ spanF (if x.f3 > m then x.f3 else m) r) ∧ (spanF (if x.f3 > m then x.f3 else m) r = m ∨ ∃ s ∈ x :: r, spanF (if x.f3 > m then x.f3 else m) r = s.f3)
    have e : m ≤ (if x.f3 > m then x.f3 else m) ∧ x.f3 ≤ (if x.f3 > m then x.f3 else m) := by split <;> omega
    refine ⟨by omega, fun s hs => ?_, ?_⟩
    · rcases List.mem_cons.1 hs with rfl | hs
      · omega
      · exact h2 s hs
    · rcases h3 with h3 | ⟨s, hs, h3⟩
      · by_cases c : x.f3 > m
        · rw [if_pos c] at h3 ⊢
          exact Or.inr ⟨x, List.mem_cons_self, h3⟩
        · rw [if_neg c] at h3 ⊢
          exact Or.inl h3
      · exact Or.inr ⟨s, List.mem_cons_of_mem _ hs, h3⟩
theorem span_max (l : List S49) (h : l ≠ []) : (∀ s ∈ l, s.f3 ≤ span l) ∧ ∃ s ∈ l, span l = s.f3 := by
  cases l with
  | nil => exact absurd rfl h
  | cons x r =>
    have e : span (x :: r) = spanF x.f3 r := by
      unfold span
      rw [if_neg (by simp)]
      rfl
    obtain ⟨h1, h2, h3⟩ := spanF_max r x.f3
    rw [e]
    refine ⟨fun s hs => ?_, ?_⟩
    · rcases List.mem_cons.1 hs with rfl | hs
      · exact h1
      · exact h2 s hs
    · rcases h3 with h3 | ⟨s, hs, h3⟩
      · exact ⟨x, List.mem_cons_self, h3⟩
      · exact ⟨s, List.mem_cons_of_mem _ hs, h3⟩
def frees (jobs : List Int) (w : Nat) : List Int → List Int → List Int
  | [], free => free
  | o :: r, free => frees jobs w r (free.set (amin free (w - 1) 1 0) (wrap64 (free.getD (amin free (w - 1) 1 0) 0 + rd jobs o)))
theorem planL_frees (jobs : List Int) (w : Nat) (hw1 : 1 ≤ w) (hw : w ≤ 6) : ∀ (order free : List Int) (T B : Int), (∀ o ∈ order, 1 ≤ rd jobs o ∧ rd jobs o ≤ 1000) → free.length = w → (∀ q, q < w → 0 ≤ free.getD q 0 ∧ free.getD q 0 ≤ B) → B + 1000 * order.length ≤ 1000000000 →
    Gr.tots free = T → (frees jobs w order free).length = w ∧ Gr.tots (frees jobs w order free) = T + costs jobs order ∧ (∀ q, q < w → free.getD q 0 ≤ (frees jobs w order free).getD q 0) ∧
      (∀ s ∈ planL jobs w order free, ∃ q, q < w ∧ s.f1 = (q : Int) ∧ s.f3 ≤ (frees jobs w order free).getD q 0) ∧ (∀ q, q < w → (frees jobs w order free).getD q 0 = free.getD q 0 ∨ ∃ s ∈ planL jobs w order free, s.f1 = (q : Int) ∧ s.f3 = (frees jobs w order free).getD q 0) := by
  intro order
  induction order with
  | nil => intro free T B _ hl _ _ hT; exact ⟨hl, by show Gr.tots free = T + 0; omega, fun q _ => Int.le_refl _, fun s hs => absurd hs (by simp [planL]), fun q _ => Or.inl rfl⟩
  | cons o r ih =>
    intro free T B ho hl hf hB hT
    have hlt := amin_lt free w (w - 1) 1 0 (by omega) (by omega)
    rw [planL, frees]
    generalize amin free (w - 1) 1 0 = a at hlt ⊢
    obtain ⟨c1, c2⟩ := ho o List.mem_cons_self
    obtain ⟨f1, f2⟩ := hf a hlt
    have hlen : ((o :: r).length : Int) = (r.length : Int) + 1 := by simp
    have e : wrap64 (free.getD a 0 + rd jobs o) = free.getD a 0 + rd jobs o := w64 (by omega) (by omega)
    rw [e]
    have e1 : (free.set a (free.getD a 0 + rd jobs o)).getD a 0 = free.getD a 0 + rd jobs o := by
      rw [List.getD_eq_getElem?_getD, List.getElem?_set_self (by omega)]
      rfl
    have e2 : ∀ q, q ≠ a → (free.set a (free.getD a 0 + rd jobs o)).getD q 0 = free.getD q 0 := fun q h => by
      rw [List.getD_eq_getElem?_getD, List.getElem?_set_ne (by omega), ← List.getD_eq_getElem?_getD]
    have hf2 : ∀ q, q < w → 0 ≤ (free.set a (free.getD a 0 + rd jobs o)).getD q 0 ∧ (free.set a (free.getD a 0 + rd jobs o)).getD q 0 ≤ B + 1000 := by
      intro q hq
      by_cases h : q = a
      · subst h; rw [e1]; omega
      · rw [e2 q h]
        have := hf q hq
        omega
    obtain ⟨i1, i2, i3, i4, i5⟩ := ih (free.set a (free.getD a 0 + rd jobs o)) (T + rd jobs o) (B + 1000) (fun x hx => ho x (List.mem_cons_of_mem _ hx)) (by rw [List.length_set]; exact hl) hf2 (by omega) (by rw [Gr.set_sum free a _ (by omega), hT])
    have hc : costs jobs (o :: r) = rd jobs o + costs jobs r := rfl
    refine ⟨i1, by rw [i2, hc]; omega, fun q hq => ?_, fun s hs => ?_, fun q hq => ?_⟩
    · have h := i3 q hq
      by_cases g : q = a
      · subst g; rw [e1] at h; omega
      · rw [e2 q g] at h; exact h
    · rcases List.mem_cons.1 hs with rfl | hs
      · have h := i3 a hlt
        rw [e1] at h
        exact ⟨a, hlt, rfl, h⟩
      · exact i4 s hs
    · rcases i5 q hq with h | ⟨s, hs, h1, h2⟩
      · by_cases g : q = a
        · subst g
          rw [e1] at h
          exact Or.inr ⟨_, List.mem_cons_self, rfl, h.symm⟩
        · rw [e2 q g] at h
          exact Or.inl h
      · exact Or.inr ⟨s, List.mem_cons_of_mem _ hs, h1, h2⟩

theorem upTo_map (jobs : List Int) : ∀ (d i : Nat), i + d = jobs.length → (upTo i d).map (rd jobs) = jobs.drop i := by
  intro d
  induction d with
  | zero => intro i hi; rw [List.drop_eq_nil_of_le (by omega)]; rfl
  | succ d ih =>
    intro i hi
    have e : rd jobs (i : Int) = jobs.getD i 0 := by first | rfl | simp [rd]
    have e2 : jobs.drop i = jobs.getD i 0 :: jobs.drop (i + 1) := by
      rw [List.drop_eq_getElem_cons (by omega), List.getD_eq_getElem?_getD, List.getElem?_eq_getElem (by omega)]
      rfl
    rw [e2, ← ih (i + 1) (by omega), ← e]
    rfl
theorem costs_upTo (jobs : List Int) : costs jobs (upTo 0 jobs.length) = Gr.tots jobs := by
  unfold costs
  rw [upTo_map jobs jobs.length 0 (by omega), List.drop_zero]
theorem tots_perm {a b : List Int} (h : a.Perm b) : Gr.tots a = Gr.tots b := by
  induction h with
  | nil => rfl
  | cons x _ ih => show x + _ = x + _; rw [show List.foldr (· + ·) 0 _ = Gr.tots _ from rfl, ih]; rfl
  | swap x y l => show y + (x + _) = x + (y + _); omega
  | trans _ _ h1 h2 => exact h1.trans h2

theorem insL_permG (jobs : List Int) (i : Int) : ∀ l : List Int, (insL jobs i l).Perm (i :: l) := by
  intro l
  induction l with
  | nil => exact List.Perm.refl _
  | cons x r ih =>
    rw [insL]
    split
    · exact List.Perm.refl _
    · exact (List.Perm.cons x ih).trans (List.Perm.swap i x r)
theorem upTo_snocG : ∀ (n i : Nat), upTo i (n + 1) = upTo i n ++ [((i + n : Nat) : Int)] := by
  intro n
  induction n with
  | zero => intro i; rfl
  | succ n ih =>
    intro i
    have h := ih (i + 1)
    rw [show i + 1 + n = i + (n + 1) by omega] at h
    show (i : Int) :: upTo (i + 1) (n + 1) = (i : Int) :: (upTo (i + 1) n ++ _)
    rw [h]
theorem ordL_permG (jobs : List Int) : ∀ n : Nat, (ordL jobs n).Perm (upTo 0 n) := by
  intro n
  induction n with
  | zero => exact List.Perm.refl _
  | succ n ih =>
    rw [ordL, upTo_snocG, Nat.zero_add]
    exact ((insL_permG jobs n _).trans (List.Perm.cons _ ih)).trans (List.perm_append_comm (l₁ := [(n : Int)]) (l₂ := upTo 0 n))
theorem insL_sortedG (jobs : List Int) (i : Int) : ∀ l : List Int, l.Pairwise (fun a b => rd jobs a ≥ rd jobs b) → (insL jobs i l).Pairwise (fun a b => rd jobs a ≥ rd jobs b) := by
  intro l
  induction l with
  | nil => intro _; simp [insL]
  | cons x r ih =>
    intro h
    obtain ⟨h1, h2⟩ := List.pairwise_cons.1 h
    rw [insL]
    split
    · rename_i c
      refine List.pairwise_cons.2 ⟨fun y hy => ?_, h⟩
      rcases List.mem_cons.1 hy with rfl | hy
      · omega
      · have := h1 y hy; omega
    · rename_i c
      refine List.pairwise_cons.2 ⟨fun y hy => ?_, ih h2⟩
      rcases (insL_mem jobs i y r).1 hy with rfl | hy
      · omega
      · exact h1 y hy
theorem ordL_sortedG (jobs : List Int) : ∀ n : Nat, (ordL jobs n).Pairwise (fun a b => rd jobs a ≥ rd jobs b) := by
  intro n
  induction n with
  | zero => exact List.Pairwise.nil
  | succ n ih => rw [ordL]; exact insL_sortedG jobs n _ ih
theorem ordL_costs (jobs : List Int) (n : Nat) : ((ordL jobs n).map (rd jobs)).Pairwise (· ≥ ·) := List.pairwise_map.2 (ordL_sortedG jobs n)
theorem costs_ordL (jobs : List Int) : costs jobs (ordL jobs jobs.length) = Gr.tots jobs := by
  rw [← costs_upTo]
  exact tots_perm ((ordL_permG jobs jobs.length).map (rd jobs))

theorem most_sum (m : Int) : ∀ l : List Int, (∀ x ∈ l, x ≤ m) → Gr.tots l ≤ (l.length : Int) * m
  | [], _ => by simp [Gr.tots]
  | x :: r, h => by
    have h1 := most_sum m r (fun y hy => h y (List.mem_cons_of_mem _ hy))
    have h2 := h x List.mem_cons_self
    have e : ((x :: r).length : Int) * m = (r.length : Int) * m + m := by
      rw [List.length_cons, Int.natCast_add, Int.add_mul]; simp
    have e2 : Gr.tots (x :: r) = x + Gr.tots r := rfl
    omega
theorem rep0 (w q : Nat) : (List.replicate w (0 : Int)).getD q 0 = 0 := by
  rw [List.getD_eq_getElem?_getD, List.getElem?_replicate]
  split <;> rfl
theorem span_frees (jobs : List Int) (w : Nat) (hw1 : 1 ≤ w) (hw : w ≤ 6) (order : List Int) (ho : ∀ o ∈ order, 1 ≤ rd jobs o ∧ rd jobs o ≤ 1000) (hn : order ≠ []) (hl : order.length ≤ 40) :
    (∀ q, q < w → (frees jobs w order (List.replicate w 0)).getD q 0 ≤ span (planL jobs w order (List.replicate w 0))) ∧ (∃ q, q < w ∧ span (planL jobs w order (List.replicate w 0)) = (frees jobs w order (List.replicate w 0)).getD q 0) ∧
      costs jobs order ≤ (w : Int) * span (planL jobs w order (List.replicate w 0)) ∧ 1 ≤ span (planL jobs w order (List.replicate w 0)) := by
  obtain ⟨s0, _⟩ := Gr.start w 1000 (by omega) hw1
  obtain ⟨i1, i2, i3, i4, i5⟩ := planL_frees jobs w hw1 hw order (List.replicate w 0) 0 0 ho (by simp) (fun q _ => by rw [rep0]; omega) (by omega) s0
  have hg := planL_graham jobs w hw1 hw 1000 (by omega) order (List.replicate w 0) 0 0 ho (by simp) (fun q _ => by rw [rep0]; omega) (by omega) s0 (fun q hq => (Gr.start w 1000 (by omega) hw1).2 q hq)
  have hpn : planL jobs w order (List.replicate w 0) ≠ [] := fun e => by
    have h := planL_len jobs w order (List.replicate w 0)
    rw [e] at h
    exact hn (List.eq_nil_of_length_eq_zero h.symm)
  obtain ⟨m1, s, hs, m2⟩ := span_max _ hpn
  have h1 : 1 ≤ span (planL jobs w order (List.replicate w 0)) := by rw [m2]; exact (hg s hs).1
  have hF : ∀ q, q < w → (frees jobs w order (List.replicate w 0)).getD q 0 ≤ span (planL jobs w order (List.replicate w 0)) := fun q hq => by
    rcases i5 q hq with h | ⟨t, ht, _, h⟩
    · rw [h, rep0]; omega
    · rw [← h]; exact m1 t ht
  refine ⟨hF, ?_, ?_, h1⟩
  · obtain ⟨q, hq, _, h⟩ := i4 s hs
    refine ⟨q, hq, ?_⟩
    have := hF q hq
    omega
  · have h := most_sum (span (planL jobs w order (List.replicate w 0))) (frees jobs w order (List.replicate w 0)) (fun x hx => by
      obtain ⟨i, hi, rfl⟩ := List.getElem_of_mem hx
      have := hF i (by omega)
      rwa [List.getD_eq_getElem?_getD, List.getElem?_eq_getElem hi] at this)
    rw [i2, i1] at h
    omega
theorem span_graham (jobs : List Int) (w : Nat) (hw1 : 1 ≤ w) (hw : w ≤ 6) (most : Int) (hm : most ≤ 1000) (order : List Int) (ho : ∀ o ∈ order, 1 ≤ rd jobs o ∧ rd jobs o ≤ most) (hn : order ≠ []) (hl : order.length ≤ 40) (hm0 : 0 ≤ most) :
    (w : Int) * span (planL jobs w order (List.replicate w 0)) ≤ costs jobs order + ((w : Int) - 1) * most := by
  obtain ⟨s0, s1⟩ := Gr.start w most hm0 hw1
  have hg := planL_graham jobs w hw1 hw most hm order (List.replicate w 0) 0 0 ho (by simp) (fun q _ => by rw [rep0]; omega) (by omega) s0 s1
  have hpn : planL jobs w order (List.replicate w 0) ≠ [] := fun e => by
    have h := planL_len jobs w order (List.replicate w 0)
    rw [e] at h
    exact hn (List.eq_nil_of_length_eq_zero h.symm)
  obtain ⟨_, s, hs, m2⟩ := span_max _ hpn
  have h := (hg s hs).2
  rw [m2]
  omega

def mxL (m : Int) : List Int → Int
  | [] => m
  | x :: r => mxL (mx m x) r
def loopV (f : Nat → Int) : Nat → Nat → Int → Int
  | 0, _, out => out
  | d + 1, w, out => loopV f d (w + 1) (if out < 0 then f w else if f w < out then f w else out)
def bestV : List Int → List Int → Int
  | [], l => mxL (l.getD 0 0) (l.drop 1)
  | j :: r, l => loopV (fun w => bestV r (l.set w (l.getD w 0 + j))) l.length 0 (-1)
theorem mx_ge (a b : Int) : a ≤ mx a b ∧ b ≤ mx a b ∧ (mx a b = a ∨ mx a b = b) := by unfold mx; split <;> omega
theorem mxL_max (l : List Int) : ∀ m, m ≤ mxL m l ∧ (∀ x ∈ l, x ≤ mxL m l) ∧ (mxL m l = m ∨ mxL m l ∈ l) := by
  induction l with
  | nil => intro m; exact ⟨Int.le_refl _, by simp, .inl rfl⟩
  | cons x r ih =>
    intro m
    obtain ⟨h1, h2, h3⟩ := ih (mx m x)
    obtain ⟨g1, g2, g3⟩ := mx_ge m x
    rw [mxL]
    refine ⟨by omega, fun y hy => ?_, ?_⟩
    · rcases List.mem_cons.1 hy with rfl | hy
      · omega
      · exact h2 y hy
    · rcases h3 with h3 | h3
      · rcases g3 with g3 | g3
        · exact .inl (by rw [h3, g3])
        · exact .inr (by rw [h3, g3]; simp)
      · exact .inr (by simp [h3])
theorem loopV_min (f : Nat → Int) (hf : ∀ w, 0 ≤ f w) : ∀ (d w : Nat) (out : Int), -1 ≤ out → (out < 0 → 0 < d) →
    0 ≤ loopV f d w out ∧ ((0 ≤ out ∧ loopV f d w out = out) ∨ ∃ i, w ≤ i ∧ i < w + d ∧ loopV f d w out = f i) ∧ (0 ≤ out → loopV f d w out ≤ out) ∧ ∀ i, w ≤ i → i < w + d → loopV f d w out ≤ f i := by
  intro d
  induction d with
  | zero =>
    intro w out h1 h2
    have : 0 ≤ out := by
      by_cases c : out < 0
      · have := h2 c; omega
      · omega
    exact ⟨this, .inl ⟨this, rfl⟩, fun _ => Int.le_refl _, fun i a b => by omega⟩
  | succ d ih =>
    intro w out h1 h2
    have hw := hf w
    rw [loopV]
    have ho : 0 ≤ (if out < 0 then f w else if f w < out then f w else out) := by split <;> (try split) <;> omega
    obtain ⟨g1, g2, g3, g4⟩ := ih (w + 1) (if out < 0 then f w else if f w < out then f w else out) (by omega) (fun h => by omega)
    have g3 := g3 ho
    refine ⟨g1, ?_, fun h => ?_, fun i hi hi2 => ?_⟩
    · rcases g2 with ⟨_, g2⟩ | ⟨i, a, b, g2⟩
      · rw [g2]
        by_cases c1 : out < 0
        · rw [if_pos c1]; exact .inr ⟨w, by omega, by omega, rfl⟩
        · rw [if_neg c1]
          by_cases c2 : f w < out
          · rw [if_pos c2]; exact .inr ⟨w, by omega, by omega, rfl⟩
          · rw [if_neg c2]; exact .inl ⟨by omega, rfl⟩
      · exact .inr ⟨i, by omega, by omega, g2⟩
    · refine Int.le_trans g3 ?_
      split
      · omega
      · split <;> omega
    · by_cases e : i = w
      · subst e
        refine Int.le_trans g3 ?_
        split
        · omega
        · split <;> omega
      · exact g4 i (by omega) (by omega)
theorem getD_eq (l : List Int) (i : Nat) (h : i < l.length) : l.getD i 0 = l[i] := by simp [h]
theorem bestV_nn (jobs : List Int) : (∀ x ∈ jobs, 0 ≤ x) → ∀ l : List Int, l ≠ [] → (∀ x ∈ l, 0 ≤ x) → 0 ≤ bestV jobs l := by
  induction jobs with
  | nil =>
    intro _ l hl h
    have := (mxL_max (l.drop 1) (l.getD 0 0)).1
    have h0 : 0 < l.length := List.length_pos_iff.2 hl
    have := h _ (mem_getD l 0 0 h0)
    rw [bestV]; omega
  | cons j r ih =>
    intro hj l hl h
    have h0 : 0 < l.length := List.length_pos_iff.2 hl
    have hj0 := hj j (by simp)
    rw [bestV]
    refine (loopV_min _ (fun w => ?_) l.length 0 (-1) (by omega) (fun _ => h0)).1
    refine ih (fun x hx => hj x (by simp [hx])) _ (by simpa using hl) (fun x hx => ?_)
    rcases List.mem_or_eq_of_mem_set hx with hx | rfl
    · exact h x hx
    · by_cases c : w < l.length
      · have := h _ (mem_getD l 0 w c); omega
      · rw [List.getD_eq_getElem?_getD, List.getElem?_eq_none (by omega)]; simp; omega
theorem set_perm1 (l : List Int) : ∀ (i : Nat) (a : Int), i < l.length → (l.set i a).Perm (a :: l.eraseIdx i) := by
  induction l with
  | nil => intro i a h; simp at h
  | cons x r ih =>
    intro i a h
    cases i with
    | zero => exact List.Perm.refl _
    | succ i => exact ((ih i a (by simpa using h)).cons x).trans (List.Perm.swap a x _)
theorem get_perm1 (l : List Int) (i : Nat) (h : i < l.length) : (l[i] :: l.eraseIdx i).Perm l := by
  have := set_perm1 l i l[i] h
  rw [List.set_getElem_self] at this
  exact this.symm
theorem set_perm (l l' : List Int) (hp : l.Perm l') (i : Nat) (hi : i < l.length) (j : Int) : ∃ i', i' < l'.length ∧ (l.set i (l.getD i 0 + j)).Perm (l'.set i' (l'.getD i' 0 + j)) := by
  have h1 : l[i] ∈ l' := hp.mem_iff.1 (List.getElem_mem hi)
  obtain ⟨i', hi', e⟩ := List.getElem_of_mem h1
  refine ⟨i', hi', ?_⟩
  have a1 := set_perm1 l i (l.getD i 0 + j) hi
  have a2 := set_perm1 l' i' (l'.getD i' 0 + j) hi'
  have b1 := get_perm1 l i hi
  have b2 := get_perm1 l' i' hi'
  have c1 : (l[i] :: l.eraseIdx i).Perm (l[i] :: l'.eraseIdx i') := by rw [e] at b2; exact (b1.trans hp).trans b2.symm
  have c2 := c1.cons_inv
  have e2 : l.getD i 0 + j = l'.getD i' 0 + j := by rw [getD_eq l i hi, getD_eq l' i' hi', e]
  rw [e2] at a1
  rw [e2]
  exact (a1.trans (c2.cons _)).trans a2.symm
theorem bestV_perm (jobs : List Int) : (∀ x ∈ jobs, 0 ≤ x) → ∀ l l' : List Int, l ≠ [] → (∀ x ∈ l, 0 ≤ x) → l.Perm l' → bestV jobs l = bestV jobs l' := by
  induction jobs with
  | nil =>
    intro _ l l' hl h hp
    have key : ∀ a b : List Int, a ≠ [] → a.Perm b → bestV [] a ≤ bestV [] b := by
      intro a b ha hp
      have hm : ∀ c : List Int, c ≠ [] → bestV [] c ∈ c ∧ ∀ x ∈ c, x ≤ bestV [] c := by
        intro c hc
        cases c with
        | nil => exact absurd rfl hc
        | cons x r =>
          have := mxL_max r x
          simp only [bestV, List.getD_cons_zero, List.drop_succ_cons, List.drop_zero, List.mem_cons]
          exact ⟨this.2.2, fun y hy => by
            rcases hy with rfl | hy
            · exact this.1
            · exact this.2.1 y hy⟩
      have hb : b ≠ [] := fun e => ha (by rw [e] at hp; exact hp.eq_nil)
      exact (hm b hb).2 _ (hp.mem_iff.1 (hm a ha).1)
    have hl' : l' ≠ [] := fun e => hl (by rw [e] at hp; exact hp.eq_nil)
    have := key l l' hl hp
    have := key l' l hl' hp.symm
    omega
  | cons j r ih =>
    intro hj l l' hl h hp
    have hl' : l' ≠ [] := fun e => hl (by rw [e] at hp; exact hp.eq_nil)
    have hj0 := hj j (by simp)
    have hr : ∀ x ∈ r, 0 ≤ x := fun x hx => hj x (by simp [hx])
    have key : ∀ a b : List Int, a ≠ [] → b ≠ [] → (∀ x ∈ a, 0 ≤ x) → (∀ x ∈ b, 0 ≤ x) → a.Perm b → bestV (j :: r) b ≤ bestV (j :: r) a := by
      intro a b ha hb h1 h2 hp
      have nn : ∀ c : List Int, c ≠ [] → (∀ x ∈ c, 0 ≤ x) → ∀ w, 0 ≤ bestV r (c.set w (c.getD w 0 + j)) := by
        intro c hc h w
        refine bestV_nn r hr _ (by simpa using hc) (fun x hx => ?_)
        rcases List.mem_or_eq_of_mem_set hx with hx | rfl
        · exact h x hx
        · by_cases q : w < c.length
          · have := h _ (mem_getD c 0 w q); omega
          · rw [List.getD_eq_getElem?_getD, List.getElem?_eq_none (by omega)]; simp; omega
      have pa : 0 < a.length := List.length_pos_iff.2 ha
      have pb : 0 < b.length := List.length_pos_iff.2 hb
      have ma := loopV_min (fun w => bestV r (a.set w (a.getD w 0 + j))) (nn a ha h1) a.length 0 (-1) (by omega) (fun _ => pa)
      have mb := loopV_min (fun w => bestV r (b.set w (b.getD w 0 + j))) (nn b hb h2) b.length 0 (-1) (by omega) (fun _ => pb)
      rw [bestV, bestV]
      rcases ma.2.1 with ⟨z, _⟩ | ⟨i, _, hi, e⟩
      · omega
      · rw [e]
        obtain ⟨i', hi', hp'⟩ := set_perm a b hp i (by omega) j
        have := mb.2.2.2 i' (by omega) (by omega)
        refine Int.le_trans this ?_
        have e2 := ih hr (a.set i (a.getD i 0 + j)) (b.set i' (b.getD i' 0 + j)) (by simpa using ha) (fun x hx => by
          rcases List.mem_or_eq_of_mem_set hx with hx | rfl
          · exact h1 x hx
          · have := h1 _ (mem_getD a 0 i (by omega)); omega) hp'
        simp only [e2]
        exact Int.le_refl _
    have h' : ∀ x ∈ l', 0 ≤ x := fun x hx => h x (hp.mem_iff.2 hx)
    have := key l l' hl hl' h h' hp
    have := key l' l hl' hl h' h hp.symm
    omega

theorem copy_ (l : List Int) (hm : l.length ≤ 1048576) : ∀ (d k i : Nat), i + d = l.length → d < k → spec_l01Copy.l0 k l (l.take i) (i : Int) = some l := by
  intro d
  induction d with
  | zero =>
    intro k i hi hk
    obtain ⟨k, rfl⟩ : ∃ m, k = m + 1 := ⟨k - 1, by omega⟩
    rw [spec_l01Copy.l0, List.take_of_length_le (by omega)]
    exact ifn (by omega) rfl
  | succ d ih =>
    intro k i hi hk
    obtain ⟨k, rfl⟩ : ∃ m, k = m + 1 := ⟨k - 1, by omega⟩
    have g := ih k (i + 1) (by omega) (by omega)
    rw [take_succ_getD l 0 i (by omega)] at g
    rw [spec_l01Copy.l0, w64_succ i (by omega), rd_natD]
    exact ifp (by omega) (ifp (by omega) (ifp (by simp; omega) g))
theorem copy_f (k : Nat) (l : List Int) (hm : l.length ≤ 1000) (hk : l.length < k) : spec_l01Copy.f k l = some l := by
  unfold spec_l01Copy.f
  have := copy_ l (by omega) l.length k 0 (by omega) hk
  simpa using this
theorem max_l0 (l : List Int) (hm : l.length ≤ 1000) : ∀ (d k i : Nat) (m : Int), i + d = l.length → d < k → slices_Max_int_int.l0 k l m (i : Int) = some (mxL m (l.drop i)) := by
  intro d
  induction d with
  | zero =>
    intro k i m hi hk
    obtain ⟨k, rfl⟩ : ∃ m, k = m + 1 := ⟨k - 1, by omega⟩
    rw [slices_Max_int_int.l0, List.drop_of_length_le (by omega), mxL]
    exact ifn (by omega) rfl
  | succ d ih =>
    intro k i m hi hk
    obtain ⟨k, rfl⟩ : ∃ m, k = m + 1 := ⟨k - 1, by omega⟩
    rw [slices_Max_int_int.l0, drop_getD l 0 i (by omega), mxL, w64_succ i (by omega), rd_natD]
    exact ifp (by omega) (ifp (by omega) (ih k (i + 1) _ (by omega) (by omega)))
theorem max_f (k : Nat) (l : List Int) (h0 : 0 < l.length) (hm : l.length ≤ 1000) (hk : l.length < k) : slices_Max_int_int.f k l = some (bestV [] l) := by
  unfold slices_Max_int_int.f bestV
  have e := max_l0 l hm (l.length - 1) k 1 (l.getD 0 0) (by omega) (by omega)
  exact ifn (by omega) (ifp (by omega) e)
theorem set_back (l : List Int) (i : Nat) (h : i < l.length) (v : Int) : (l.set i v).set i (l.getD i 0) = l := by
  rw [List.set_set, getD_eq l i h, List.set_getElem_self]
theorem getD_set (l : List Int) (i : Nat) (h : i < l.length) (v : Int) : (l.set i v).getD i 0 = v := by
  rw [getD_eq _ i (by simpa using h)]; simp
theorem impl_b (jobs : List Int) : (∀ x ∈ jobs, 1 ≤ x ∧ x ≤ 1000) → jobs.length ≤ 1000 → ∀ (l : List Int) (k : Nat), 0 < l.length → l.length ≤ 3 → (∀ x ∈ l, 0 ≤ x ∧ x + 1000 * (jobs.length : Int) ≤ 100000000) → 20 * jobs.length + 20 ≤ k → impl_best.f k jobs l = some (bestV jobs l, l) := by
  induction jobs with
  | nil =>
    intro _ _ l k h0 h3 hv hk
    obtain ⟨k, rfl⟩ : ∃ m, k = m + 1 := ⟨k - 1, by simp at hk; omega⟩
    rw [impl_best.f]
    simp at hk
    exact ifp (by simp) (st (max_f k l h0 (by omega) (by omega)) rfl)
  | cons j r ih =>
    intro hj hjl l k h0 h3 hv hk
    obtain ⟨k, rfl⟩ : ∃ m, k = m + 1 := ⟨k - 1, by omega⟩
    have hj0 := hj j (by simp)
    simp only [List.length_cons] at hk hjl hv
    have loop : ∀ (d k i : Nat) (out : Int), i + d = l.length → d + (20 * r.length + 20) + 1 ≤ k → impl_best.l0 k (j :: r) l out (l.length : Int) (i : Int) = some (loopV (fun w => bestV r (l.set w (l.getD w 0 + j))) d i out, l) := by
      intro d
      induction d with
      | zero =>
        intro k i out hi hk
        obtain ⟨k, rfl⟩ : ∃ m, k = m + 1 := ⟨k - 1, by omega⟩
        rw [impl_best.l0, loopV]
        exact ifn (by omega) rfl
      | succ d ihd =>
        intro k i out hi hk
        obtain ⟨k, rfl⟩ : ∃ m, k = m + 1 := ⟨k - 1, by omega⟩
        have hx := hv _ (mem_getD l 0 i (by omega))
        have e1 : wrap64 (rd l (i : Int) + rd (j :: r) 0) = l.getD i 0 + j := by
          have a : rd l (i : Int) = l.getD i 0 := rd_natD l i
          have b : rd (j :: r) 0 = j := rfl
          rw [a, b]; exact w64 (by omega) (by omega)
        have e2 := ih (fun x hx => hj x (by simp [hx])) (by omega) (l.set i (l.getD i 0 + j)) k (by simpa using h0) (by simpa using h3) (fun x hx => by
          rcases List.mem_or_eq_of_mem_set hx with hx | rfl
          · have := hv x hx; omega
          · omega) (by omega)
        have e3 : wrap64 (rd (l.set i (l.getD i 0 + j)) (i : Int) - rd (j :: r) 0) = l.getD i 0 := by
          have a : rd (l.set i (l.getD i 0 + j)) (i : Int) = (l.set i (l.getD i 0 + j)).getD i 0 := rd_natD _ i
          have b : rd (j :: r) 0 = j := rfl
          rw [a, b, getD_set l i (by omega), w64 (by omega) (by omega)]; omega
        rw [impl_best.l0, e1, loopV]
        have e4 : (j :: r).drop 1 = r := rfl
        rw [e4]
        simp only [Int.toNat_natCast]
        refine ifp (by omega) (ifp (by omega) (ifp (by omega) (ifp (by simp only [List.length_cons]; omega) (ifp (by simp only [List.length_cons]; omega) (st e2 ?_)))))
        simp only [e3, set_back l i (by omega), w64_succ i (by omega)]
        by_cases c1 : out < 0
        · rw [if_pos c1, if_pos c1]
          exact ihd k (i + 1) _ (by omega) (by omega)
        · rw [if_neg c1, if_neg c1]
          by_cases c2 : bestV r (l.set i (l.getD i 0 + j)) < out
          · rw [if_pos c2, if_pos c2]
            exact ihd k (i + 1) _ (by omega) (by omega)
          · rw [if_neg c2, if_neg c2]
            exact ihd k (i + 1) _ (by omega) (by omega)
    rw [impl_best.f, bestV]
    exact ifn (by simp; omega) (loop l.length k 0 (-1) (by omega) (by omega))

def loopZ (f : Nat → Int) (l : List Int) : Nat → Nat → Int → Int
  | 0, _, out => out
  | d + 1, w, out => if l.getD w 0 = 0 then (if out < 0 then f w else if f w < out then f w else out) else loopZ f l d (w + 1) (if out < 0 then f w else if f w < out then f w else out)
theorem loopV_stay (f : Nat → Int) (c : Int) : ∀ (d w : Nat) (out : Int), 0 ≤ out → out ≤ c → (∀ i, w ≤ i → i < w + d → f i = c) → loopV f d w out = out := by
  intro d
  induction d with
  | zero => intro w out _ _ _; rfl
  | succ d ih =>
    intro w out h1 h2 h3
    have hw := h3 w (by omega) (by omega)
    have ho : (if out < 0 then f w else if f w < out then f w else out) = out := by rw [if_neg (by omega), if_neg (by omega)]
    rw [loopV, ho]
    exact ih (w + 1) out h1 h2 (fun i a b => h3 i (by omega) (by omega))
theorem loopZ_eq (f : Nat → Int) (l : List Int) (hf : ∀ w, 0 ≤ f w) (hs : ∀ w i, w ≤ i → i < l.length → l.getD w 0 = 0 → f i = f w) : ∀ (d w : Nat) (out : Int), w + d = l.length → -1 ≤ out → loopZ f l d w out = loopV f d w out := by
  intro d
  induction d with
  | zero => intro w out _ _; rfl
  | succ d ih =>
    intro w out hw ho
    have h0 := hf w
    rw [loopZ, loopV]
    by_cases c : l.getD w 0 = 0
    · rw [if_pos c]
      exact (loopV_stay f (f w) d (w + 1) _ (by split <;> (try split) <;> omega) (by split <;> (try split) <;> omega) (fun i a b => hs w i (by omega) (by omega) c)).symm
    · rw [if_neg c]
      exact ih (w + 1) _ (by omega) (by split <;> (try split) <;> omega)
def Z (l : List Int) : Prop := ∀ i k, i ≤ k → k < l.length → l.getD i 0 = 0 → l.getD k 0 = 0
theorem getD_ne (l : List Int) (w i : Nat) (v : Int) (h : i ≠ w) : (l.set w v).getD i 0 = l.getD i 0 := by
  rw [List.getD_eq_getElem?_getD, List.getD_eq_getElem?_getD, List.getElem?_set_ne (by omega)]
theorem Z_set {l : List Int} (hz : Z l) (w : Nat) (hw : w < l.length) (v : Int) (hv : v ≠ 0) (hn : ∀ i, i < w → l.getD i 0 ≠ 0) : Z (l.set w v) := by
  intro i k hik hk h
  rw [List.length_set] at hk
  by_cases e : i = w
  · subst e; rw [getD_set l i hw] at h; exact absurd h hv
  · rw [getD_ne l w i v e] at h
    by_cases c : i < w
    · exact absurd h (hn i c)
    · rw [getD_ne l w k v (by omega)]
      exact hz i k hik hk h
theorem most_l0 (l : List Int) (hm : l.length ≤ 1000) : ∀ (d k i : Nat) (m : Int), i + d = l.length → d < k → spec_l12Best.l0 k l m (i : Int) = some (mxL m (l.drop i)) := by
  intro d
  induction d with
  | zero =>
    intro k i m hi hk
    obtain ⟨k, rfl⟩ : ∃ m, k = m + 1 := ⟨k - 1, by omega⟩
    rw [spec_l12Best.l0, List.drop_of_length_le (by omega), mxL]
    exact ifn (by omega) rfl
  | succ d ih =>
    intro k i m hi hk
    obtain ⟨k, rfl⟩ : ∃ m, k = m + 1 := ⟨k - 1, by omega⟩
    rw [spec_l12Best.l0, drop_getD l 0 i (by omega), mxL, w64_succ i (by omega), rd_natD]
    by_cases c : l.getD i 0 > m
    · have hv : mx m (l.getD i 0) = l.getD i 0 := by unfold mx; rw [if_pos (by omega)]
      rw [hv]
      exact ifp (by omega) (ifp (by omega) (ifp c (ih k (i + 1) _ (by omega) (by omega))))
    · have hv : mx m (l.getD i 0) = m := by unfold mx; split <;> omega
      rw [hv]
      exact ifp (by omega) (ifp (by omega) (ifn c (ih k (i + 1) _ (by omega) (by omega))))
theorem spec_b (jobs : List Int) (hj : ∀ x ∈ jobs, 1 ≤ x ∧ x ≤ 1000) (hjl : jobs.length ≤ 1000) : ∀ (e at_ : Nat) (l : List Int) (k : Nat), at_ + e = jobs.length → 0 < l.length → l.length ≤ 3 → Z l → (∀ x ∈ l, 0 ≤ x ∧ x + 1000 * (e : Int) ≤ 100000000) → 40 * e + 40 ≤ k → spec_l12Best.f k jobs (at_ : Int) l = some (bestV (jobs.drop at_) l) := by
  intro e
  induction e with
  | zero =>
    intro at_ l k ha h0 h3 hz hv hk
    obtain ⟨k, rfl⟩ : ∃ m, k = m + 1 := ⟨k - 1, by omega⟩
    rw [spec_l12Best.f, List.drop_of_length_le (by omega), bestV]
    have h := most_l0 l (by omega) l.length k 0 0 (by omega) (by omega)
    have e0 : l = l.getD 0 0 :: l.drop 1 := by
      have := drop_getD l 0 0 h0
      simpa using this
    have hx := hv _ (mem_getD l 0 0 h0)
    have e1 : mxL 0 (l.drop 0) = mxL (l.getD 0 0) (l.drop 1) := by
      have hm : mx 0 (l.getD 0 0) = l.getD 0 0 := by unfold mx; split <;> omega
      rw [drop_getD l 0 0 h0, mxL, hm]
    rw [e1] at h
    exact ifp (by omega) h
  | succ e ih =>
    intro at_ l k ha h0 h3 hz hv hk
    obtain ⟨k, rfl⟩ : ∃ m, k = m + 1 := ⟨k - 1, by omega⟩
    have hd := drop_getD jobs 0 at_ (by omega)
    have hj0 := hj _ (mem_getD jobs 0 at_ (by omega))
    have ej : rd jobs (at_ : Int) = jobs.getD at_ 0 := rd_natD jobs at_
    have hr : ∀ x ∈ jobs.drop (at_ + 1), 0 ≤ x := fun x hx => by have := hj x (List.mem_of_mem_drop hx); omega
    have hl0 : l ≠ [] := by intro h; rw [h] at h0; simp at h0
    generalize jobs.getD at_ 0 = j at hd hj0 ej
    have hvs : ∀ w, ∀ x ∈ l.set w (l.getD w 0 + j), 0 ≤ x ∧ x + 1000 * (e : Int) ≤ 100000000 := by
      intro w x hx
      by_cases c : w < l.length
      · rcases List.mem_or_eq_of_mem_set hx with hx | rfl
        · have := hv x hx; omega
        · have := hv _ (mem_getD l 0 w c); omega
      · rw [List.set_eq_of_length_le (by omega)] at hx
        have := hv x hx; omega
    have loop : ∀ (d k w : Nat) (out : Int), w + d = l.length → 3 * d + (40 * e + 40) + 10 ≤ k → (∀ i, i < w → l.getD i 0 ≠ 0) → spec_l12Best.l1 k jobs (at_ : Int) l out (w : Int) = some (loopZ (fun w => bestV (jobs.drop (at_ + 1)) (l.set w (l.getD w 0 + j))) l d w out) := by
      intro d
      induction d with
      | zero =>
        intro k w out hw hk hn
        obtain ⟨k, rfl⟩ : ∃ m, k = m + 1 := ⟨k - 1, by omega⟩
        rw [spec_l12Best.l1, loopZ]
        exact ifn (by omega) rfl
      | succ d ihd =>
        intro k w out hw hk hn
        obtain ⟨k, rfl⟩ : ∃ m, k = m + 1 + 1 + 1 := ⟨k - 3, by omega⟩
        have hx := hv _ (mem_getD l 0 w (by omega))
        have e1 : wrap64 (rd l (w : Int) + rd jobs (at_ : Int)) = l.getD w 0 + j := by
          rw [ej, rd_natD]; exact w64 (by omega) (by omega)
        have e2 := ih (at_ + 1) (l.set w (l.getD w 0 + j)) (k + 1 + 1) (by omega) (by simpa using h0) (by simpa using h3) (Z_set hz w (by omega) _ (by omega) hn) (hvs w) (by omega)
        have tail : ∀ o : Int, spec_l12Best.j3 (k + 1) jobs (at_ : Int) l o (w : Int) = some (if l.getD w 0 = 0 then o else loopZ (fun w => bestV (jobs.drop (at_ + 1)) (l.set w (l.getD w 0 + j))) l d (w + 1) o) := by
          intro o
          rw [spec_l12Best.j3, rd_natD, w64_succ w (by omega)]
          by_cases c : l.getD w 0 = 0
          · have hv2 : (if l.getD w 0 = 0 then o else loopZ (fun w => bestV (jobs.drop (at_ + 1)) (l.set w (l.getD w 0 + j))) l d (w + 1) o) = o := if_pos c
            rw [hv2]
            exact ifp (by omega) (ifp (by omega) (ifp c rfl))
          · have hv2 : (if l.getD w 0 = 0 then o else loopZ (fun w => bestV (jobs.drop (at_ + 1)) (l.set w (l.getD w 0 + j))) l d (w + 1) o) = loopZ (fun w => bestV (jobs.drop (at_ + 1)) (l.set w (l.getD w 0 + j))) l d (w + 1) o := if_neg c
            rw [hv2]
            exact ifp (by omega) (ifp (by omega) (ifn c (ihd k (w + 1) o (by omega) (by omega) (fun i hi => by
              by_cases e : i = w
              · rw [e]; exact c
              · exact hn i (by omega)))))
        rw [spec_l12Best.l1, w64_succ at_ (by omega)]
        refine ifp (by omega) (st (copy_f (k + 1 + 1) l (by omega) (by omega)) (ifp (by omega) (ifp (by omega) (ifp (by omega) (ifp (by omega) ?_)))))
        simp only [e1, Int.toNat_natCast]
        refine st e2 ?_
        rw [loopZ]
        generalize bestV (jobs.drop (at_ + 1)) (l.set w (l.getD w 0 + j)) = x
        by_cases c1 : out < 0
        · rw [if_pos c1, if_pos c1, spec_l12Best.j2]
          exact ifp rfl (tail x)
        · rw [if_neg c1, if_neg c1, spec_l12Best.j2]
          by_cases c2 : x < out
          · rw [decide_eq_true c2, if_pos c2]
            exact ifp rfl (tail x)
          · rw [decide_eq_false c2, if_neg c2]
            exact ifn (by simp) (tail out)
    rw [spec_l12Best.f, hd, bestV]
    refine ifn (by omega) ((loop l.length k 0 (-1) (by omega) (by omega) (fun i hi => by omega)).trans ?_)
    rw [loopZ_eq _ l (fun w => bestV_nn _ hr _ (by simpa using hl0) (fun x hx => (hvs w x hx).1)) ?_ l.length 0 (-1) (by omega) (by omega)]
    intro w i hwi hi hzero
    have hzi := hz w i hwi hi hzero
    have a1 := set_perm1 l i (l.getD i 0 + j) hi
    have a2 := set_perm1 l w (l.getD w 0 + j) (by omega)
    have b1 := get_perm1 l i hi
    have b2 := get_perm1 l w (by omega)
    have ee : l[i] = l[w] := by rw [← getD_eq l i hi, ← getD_eq l w (by omega), hzi, hzero]
    rw [ee] at b1
    have c1 := (b1.trans b2.symm).cons_inv
    rw [hzi] at a1
    rw [hzero] at a2
    have hp := (a1.trans (c1.cons _)).trans a2.symm
    simp only [hzi, hzero]
    have hvi := hvs i
    rw [hzi] at hvi
    exact bestV_perm _ hr _ _ (by simpa using hl0) (fun x hx => (hvi x hx).1) hp
theorem Z_zeros (n : Nat) : Z (List.replicate n 0) := by
  intro i k _ hk _
  rw [getD_eq _ k hk, List.getElem_replicate]
def bestOf (jobs : List Int) (w : Int) : Int := if jOk jobs = true ∧ jobs.length ≤ 8 ∧ 1 ≤ w ∧ w ≤ 3 then bestV jobs (List.replicate w.toNat 0) else -1
theorem jOk_val {l : List Int} (h : jOk l = true) : ∀ x ∈ l, 1 ≤ x ∧ x ≤ 1000 := by
  simp only [jOk, Bool.and_eq_true, List.all_eq_true, isJ, decide_eq_true_eq] at h
  exact h.2
theorem rep_v (n : Nat) (e : Int) (he : 0 ≤ e ∧ e ≤ 1000) : ∀ x ∈ List.replicate n (0 : Int), 0 ≤ x ∧ x + 1000 * e ≤ 100000000 := by
  intro x hx
  have := List.eq_of_mem_replicate hx
  omega
theorem spec_best (k : Nat) (l : List Int) (w : Int) (hm : l.length ≤ 1048576) (hk : 1048600 ≤ k) : spec_BestSpan.f k l w = some (bestOf l w) := by
  obtain ⟨k, rfl⟩ : ∃ m, k = m + 1 := ⟨k - 1, by omega⟩
  unfold spec_BestSpan.f bestOf
  refine st (spec_jOk (k + 1) l hm (by omega)) ?_
  by_cases c1 : jOk l = true
  · refine ifp c1 ?_
    by_cases c2 : (l.length : Int) > 8
    · have hv : ¬ (jOk l = true ∧ l.length ≤ 8 ∧ 1 ≤ w ∧ w ≤ 3) := fun h => by omega
      rw [if_neg hv, spec_BestSpan.j0]
      exact ifp c2 (ifp rfl rfl)
    · refine ifn c2 (st (spec_in _ _ _) ?_)
      rw [spec_BestSpan.j0]
      by_cases c3 : 1 ≤ w ∧ w ≤ 3
      · have hv : jOk l = true ∧ l.length ≤ 8 ∧ 1 ≤ w ∧ w ≤ 3 := ⟨c1, by omega, c3.1, c3.2⟩
        rw [decide_eq_true c3, if_pos hv]
        have h := spec_b l (jOk_val c1) (by omega) l.length 0 (List.replicate w.toNat 0) k (by omega) (by simp; omega) (by simp; omega) (Z_zeros _) (rep_v _ _ (by omega)) (by omega)
        rw [List.drop_zero] at h
        exact ifn (by simp) (ifp (by omega) (ifp (by omega) (st h rfl)))
      · have hv : ¬ (jOk l = true ∧ l.length ≤ 8 ∧ 1 ≤ w ∧ w ≤ 3) := fun h => c3 ⟨h.2.2.1, h.2.2.2⟩
        rw [decide_eq_false c3, if_neg hv]
        exact ifp rfl rfl
  · have hv : ¬ (jOk l = true ∧ l.length ≤ 8 ∧ 1 ≤ w ∧ w ≤ 3) := fun h => c1 h.1
    rw [if_neg hv, spec_BestSpan.j0]
    exact ifn c1 (ifp rfl rfl)
theorem impl_best_ (k : Nat) (l : List Int) (w : Int) (hm : l.length ≤ 1048576) (hk : 1048600 ≤ k) : impl_BestSpan.f k l w = some (bestOf l w) := by
  obtain ⟨k, rfl⟩ : ∃ m, k = m + 1 := ⟨k - 1, by omega⟩
  unfold impl_BestSpan.f bestOf
  refine st (impl_jOk (k + 1) l hm (by omega)) ?_
  by_cases c1 : jOk l = true
  · refine ifp c1 ?_
    by_cases c2 : (l.length : Int) > 8
    · have hv : ¬ (jOk l = true ∧ l.length ≤ 8 ∧ 1 ≤ w ∧ w ≤ 3) := fun h => by omega
      rw [if_neg hv, impl_BestSpan.j0]
      exact ifp c2 (ifp rfl rfl)
    · refine ifn c2 (st (impl_in_ _ _ _) ?_)
      rw [impl_BestSpan.j0]
      by_cases c3 : 1 ≤ w ∧ w ≤ 3
      · have hv : jOk l = true ∧ l.length ≤ 8 ∧ 1 ≤ w ∧ w ≤ 3 := ⟨c1, by omega, c3.1, c3.2⟩
        rw [decide_eq_true c3, if_pos hv]
        have h := impl_b l (jOk_val c1) (by omega) (List.replicate w.toNat 0) k (by simp; omega) (by simp; omega) (rep_v _ _ (by omega)) (by omega)
        exact ifn (by simp) (ifp (by omega) (ifp (by omega) (st h rfl)))
      · have hv : ¬ (jOk l = true ∧ l.length ≤ 8 ∧ 1 ≤ w ∧ w ≤ 3) := fun h => c3 ⟨h.2.2.1, h.2.2.2⟩
        rw [decide_eq_false c3, if_neg hv]
        exact ifp rfl rfl
  · have hv : ¬ (jOk l = true ∧ l.length ≤ 8 ∧ 1 ≤ w ∧ w ≤ 3) := fun h => c1 h.1
    rw [if_neg hv, impl_BestSpan.j0]
    exact ifn c1 (ifp rfl rfl)

def putA : List Nat → List Int → List Int → List Int
  | x :: a, j :: r, l => putA a r (l.set x (l.getD x 0 + j))
  | _, _, l => l
theorem set_nn {l : List Int} (h : ∀ x ∈ l, 0 ≤ x) (i : Nat) (j : Int) (hj : 0 ≤ j) : ∀ x ∈ l.set i (l.getD i 0 + j), 0 ≤ x := by
  intro x hx
  rcases List.mem_or_eq_of_mem_set hx with hx | rfl
  · exact h x hx
  · by_cases c : i < l.length
    · have h1 : 0 ≤ l.getD i 0 := by
        rw [getD_eq l i c]
        exact h _ (List.getElem_mem c)
      omega
    · have h1 : l.getD i 0 = 0 := by rw [List.getD_eq_getElem?_getD, List.getElem?_eq_none (by omega)]; rfl
      omega
theorem set_ne_nil {l : List Int} (h : l ≠ []) (i : Nat) (v : Int) : l.set i v ≠ [] := by
  intro e
  exact h (List.eq_nil_of_length_eq_zero (by have := congrArg List.length e; simpa using this))
theorem bestV_le : ∀ (js : List Int) (a : List Nat) (l : List Int), (∀ x ∈ js, 0 ≤ x) → l ≠ [] → (∀ x ∈ l, 0 ≤ x) → a.length = js.length → (∀ x ∈ a, x < l.length) → bestV js l ≤ bestV [] (putA a js l) := by
  intro js
  induction js with
  | nil => intro a l _ _ _ ha _; obtain rfl : a = [] := List.eq_nil_of_length_eq_zero ha; exact Int.le_refl _
  | cons j r ih =>
    intro a l hj hl hn ha hx
    cases a with
    | nil => exact absurd ha (by simp)
    | cons x a =>
      have hr : ∀ y ∈ r, 0 ≤ y := fun y hy => hj y (List.mem_cons_of_mem _ hy)
      have hj0 := hj j List.mem_cons_self
      have hf : ∀ w, 0 ≤ bestV r (l.set w (l.getD w 0 + j)) := fun w => bestV_nn r hr _ (set_ne_nil hl _ _) (set_nn hn w j hj0)
      have hpos : 0 < l.length := List.length_pos_iff.2 hl
      obtain ⟨_, _, _, h4⟩ := loopV_min (fun w => bestV r (l.set w (l.getD w 0 + j))) hf l.length 0 (-1) (by omega) (fun _ => hpos)
      have hxl := hx x List.mem_cons_self
      refine Int.le_trans (h4 x (Nat.zero_le _) (by omega)) ?_
      exact ih a (l.set x (l.getD x 0 + j)) hr (set_ne_nil hl _ _) (set_nn hn x j hj0) (by simpa using ha) (fun y hy => by rw [List.length_set]; exact hx y (List.mem_cons_of_mem _ hy))
theorem bestV_ex : ∀ (js l : List Int), (∀ x ∈ js, 0 ≤ x) → l ≠ [] → (∀ x ∈ l, 0 ≤ x) → ∃ a : List Nat, a.length = js.length ∧ (∀ x ∈ a, x < l.length) ∧ bestV js l = bestV [] (putA a js l) := by
  intro js
  induction js with
  | nil => intro l _ _ _; exact ⟨[], rfl, by simp, rfl⟩
  | cons j r ih =>
    intro l hj hl hn
    have hr : ∀ y ∈ r, 0 ≤ y := fun y hy => hj y (List.mem_cons_of_mem _ hy)
    have hj0 := hj j List.mem_cons_self
    have hf : ∀ w, 0 ≤ bestV r (l.set w (l.getD w 0 + j)) := fun w => bestV_nn r hr _ (set_ne_nil hl _ _) (set_nn hn w j hj0)
    have hpos : 0 < l.length := List.length_pos_iff.2 hl
    obtain ⟨_, h2, _, _⟩ := loopV_min (fun w => bestV r (l.set w (l.getD w 0 + j))) hf l.length 0 (-1) (by omega) (fun _ => hpos)
    rcases h2 with ⟨h2, _⟩ | ⟨i, _, hi, h2⟩
    · exact absurd h2 (by omega)
    · obtain ⟨a, h3, h4, h5⟩ := ih (l.set i (l.getD i 0 + j)) hr (set_ne_nil hl _ _) (set_nn hn i j hj0)
      exact ⟨i :: a, by simp [h3], fun y hy => by
        rcases List.mem_cons.1 hy with rfl | hy
        · omega
        · have := h4 y hy; rwa [List.length_set] at this, h2.trans h5⟩

namespace Lpt

def ld : List Nat → List Int → Nat → Int
  | x :: a, c :: cs, w => (if x = w then c else 0) + ld a cs w
  | _, _, _ => 0
def cnt : List Nat → List Int → Nat → Nat
  | x :: a, _ :: cs, w => (if x = w then 1 else 0) + cnt a cs w
  | _, _, _ => 0
def tot (cs : List Int) : Int := cs.foldr (· + ·) 0

theorem ld_ge (c : Int) (hc : 0 ≤ c) (w : Nat) : ∀ (a : List Nat) (cs : List Int), (∀ x ∈ cs, c ≤ x) → (cnt a cs w : Int) * c ≤ ld a cs w
  | [], _, _ => by simp [ld, cnt]
  | _ :: _, [], _ => by simp [ld, cnt]
  | x :: a, d :: cs, h => by
    have ih := ld_ge c hc w a cs (fun y hy => h y (List.mem_cons_of_mem _ hy))
    have hd := h d List.mem_cons_self
    simp only [ld, cnt]
    split
    · have : ((1 + cnt a cs w : Nat) : Int) * c = c + (cnt a cs w : Int) * c := by
        rw [Int.natCast_add, Int.add_mul]; simp
      omega
    · simpa using ih

theorem ld_nonneg (w : Nat) : ∀ (a : List Nat) (cs : List Int), (∀ x ∈ cs, 0 ≤ x) → 0 ≤ ld a cs w
  | [], _, _ => by simp [ld]
  | _ :: _, [], _ => by simp [ld]
  | x :: a, d :: cs, h => by
    have ih := ld_nonneg w a cs (fun y hy => h y (List.mem_cons_of_mem _ hy))
    have hd := h d List.mem_cons_self
    simp only [ld]
    split <;> omega

theorem ld_append (w : Nat) : ∀ (a b : List Nat) (cs ds : List Int), a.length = cs.length → ld (a ++ b) (cs ++ ds) w = ld a cs w + ld b ds w
  | [], b, [], ds, _ => by simp [ld]
  | x :: a, b, c :: cs, ds, h => by
    have ih := ld_append w a b cs ds (by simpa using h)
    simp only [List.cons_append, ld, ih]
    omega
  | [], _, _ :: _, _, h => by simp at h
  | _ :: _, _, [], _, h => by simp at h

theorem tot_append (cs ds : List Int) : tot (cs ++ ds) = tot cs + tot ds := by
  induction cs with
  | nil => simp [tot]
  | cons c cs ih => simp only [List.cons_append, tot, List.foldr_cons] at *; omega

def st3 (s : Int × Int × Int) (c : Int) : Int × Int × Int :=
  if s.1 ≤ s.2.1 ∧ s.1 ≤ s.2.2 then (s.1 + c, s.2.1, s.2.2) else if s.2.1 ≤ s.2.2 then (s.1, s.2.1 + c, s.2.2) else (s.1, s.2.1, s.2.2 + c)
def st2 (s : Int × Int) (c : Int) : Int × Int := if s.1 ≤ s.2 then (s.1 + c, s.2) else (s.1, s.2 + c)

theorem sum3 (a : List Nat) (cs : List Int) (h : a.length = cs.length) (ha : ∀ x ∈ a, x < 3) : ld a cs 0 + ld a cs 1 + ld a cs 2 = tot cs := by
  induction a generalizing cs with
  | nil => cases cs <;> simp_all [ld, tot]
  | cons x a ih =>
    cases cs with
    | nil => simp at h
    | cons c cs =>
      have := ih cs (by simpa using h) (fun y hy => ha y (List.mem_cons_of_mem _ hy))
      have hx := ha x List.mem_cons_self
      simp only [ld, tot, List.foldr_cons] at *
      have : x = 0 ∨ x = 1 ∨ x = 2 := by omega
      rcases this with rfl | rfl | rfl <;> simp <;> omega
theorem cnt3 (a : List Nat) (cs : List Int) (h : a.length = cs.length) (ha : ∀ x ∈ a, x < 3) : cnt a cs 0 + cnt a cs 1 + cnt a cs 2 = cs.length := by
  induction a generalizing cs with
  | nil => cases cs <;> simp_all [cnt]
  | cons x a ih =>
    cases cs with
    | nil => simp at h
    | cons c cs =>
      have := ih cs (by simpa using h) (fun y hy => ha y (List.mem_cons_of_mem _ hy))
      have hx := ha x List.mem_cons_self
      simp only [cnt, List.length_cons] at *
      have : x = 0 ∨ x = 1 ∨ x = 2 := by omega
      rcases this with rfl | rfl | rfl <;> simp <;> omega
theorem sum2 (a : List Nat) (cs : List Int) (h : a.length = cs.length) (ha : ∀ x ∈ a, x < 2) : ld a cs 0 + ld a cs 1 = tot cs := by
  induction a generalizing cs with
  | nil => cases cs <;> simp_all [ld, tot]
  | cons x a ih =>
    cases cs with
    | nil => simp at h
    | cons c cs =>
      have := ih cs (by simpa using h) (fun y hy => ha y (List.mem_cons_of_mem _ hy))
      have hx := ha x List.mem_cons_self
      simp only [ld, tot, List.foldr_cons] at *
      have : x = 0 ∨ x = 1 := by omega
      rcases this with rfl | rfl <;> simp <;> omega
theorem cnt2 (a : List Nat) (cs : List Int) (h : a.length = cs.length) (ha : ∀ x ∈ a, x < 2) : cnt a cs 0 + cnt a cs 1 = cs.length := by
  induction a generalizing cs with
  | nil => cases cs <;> simp_all [cnt]
  | cons x a ih =>
    cases cs with
    | nil => simp at h
    | cons c cs =>
      have := ih cs (by simpa using h) (fun y hy => ha y (List.mem_cons_of_mem _ hy))
      have hx := ha x List.mem_cons_self
      simp only [cnt, List.length_cons] at *
      have : x = 0 ∨ x = 1 := by omega
      rcases this with rfl | rfl <;> simp <;> omega

theorem st3_sum (s : Int × Int × Int) (c : Int) : (st3 s c).1 + (st3 s c).2.1 + (st3 s c).2.2 = s.1 + s.2.1 + s.2.2 + c := by
  unfold st3; split <;> (try split) <;> simp <;> omega
theorem st2_sum (s : Int × Int) (c : Int) : (st2 s c).1 + (st2 s c).2 = s.1 + s.2 + c := by
  unfold st2; split <;> simp <;> omega
theorem fold3_sum (cs : List Int) (s : Int × Int × Int) : (cs.foldl st3 s).1 + (cs.foldl st3 s).2.1 + (cs.foldl st3 s).2.2 = s.1 + s.2.1 + s.2.2 + tot cs := by
  induction cs generalizing s with
  | nil => simp [tot]
  | cons c cs ih => rw [List.foldl_cons, ih, st3_sum]; simp only [tot, List.foldr_cons]; omega
theorem fold2_sum (cs : List Int) (s : Int × Int) : (cs.foldl st2 s).1 + (cs.foldl st2 s).2 = s.1 + s.2 + tot cs := by
  induction cs generalizing s with
  | nil => simp [tot]
  | cons c cs ih => rw [List.foldl_cons, ih, st2_sum]; simp only [tot, List.foldr_cons]; omega

def mn3 (s : Int × Int × Int) : Int := min s.1 (min s.2.1 s.2.2)
def mx3 (s : Int × Int × Int) : Int := max s.1 (max s.2.1 s.2.2)
theorem mx3_step (s : Int × Int × Int) (c : Int) : mx3 (st3 s c) ≤ max (mx3 s) (mn3 s + c) := by
  unfold mx3 mn3 st3; split <;> (try split) <;> simp <;> omega
theorem mn3_le (s : Int × Int × Int) : 3 * mn3 s ≤ s.1 + s.2.1 + s.2.2 := by unfold mn3; omega
def mn2 (s : Int × Int) : Int := min s.1 s.2
def mx2 (s : Int × Int) : Int := max s.1 s.2
theorem mx2_step (s : Int × Int) (c : Int) : mx2 (st2 s c) ≤ max (mx2 s) (mn2 s + c) := by
  unfold mx2 mn2 st2; split <;> simp <;> omega
theorem mn2_le (s : Int × Int) : 2 * mn2 s ≤ s.1 + s.2 := by unfold mn2; omega

theorem one3 (T c : Int) (pre : List Int) (a : List Nat) (ha : ∀ x ∈ a, x < 3) (hl : a.length = (pre ++ [c]).length) (hc : 0 ≤ c) (hp : ∀ x ∈ pre ++ [c], c ≤ x)
    (h0 : ld a (pre ++ [c]) 0 ≤ T) (h1 : ld a (pre ++ [c]) 1 ≤ T) (h2 : ld a (pre ++ [c]) 2 ≤ T) : c ≤ T := by
  have k0 := ld_ge c hc 0 a _ hp
  have k1 := ld_ge c hc 1 a _ hp
  have k2 := ld_ge c hc 2 a _ hp
  have ks := cnt3 a _ hl ha
  have pos : ∀ n : Nat, 1 ≤ n → c ≤ (n : Int) * c := by
    intro n hn
    have : (1 : Int) * c ≤ n * c := Int.mul_le_mul_of_nonneg_right (by omega) hc
    omega
  have r0 := pos (cnt a (pre ++ [c]) 0)
  have r1 := pos (cnt a (pre ++ [c]) 1)
  have r2 := pos (cnt a (pre ++ [c]) 2)
  simp only [List.length_append, List.length_singleton] at ks
  omega

set_option maxHeartbeats 4000000 in
theorem few3 (T c : Int) (pre : List Int) (a : List Nat) (ha : ∀ x ∈ a, x < 3) (hl : a.length = (pre ++ [c]).length) (hc : 1 ≤ c) (hg : T < 3 * c) (hp : ∀ x ∈ pre, c ≤ x) (hs : pre.Pairwise (· ≥ ·))
    (h0 : ld a (pre ++ [c]) 0 ≤ T) (h1 : ld a (pre ++ [c]) 1 ≤ T) (h2 : ld a (pre ++ [c]) 2 ≤ T) : mn3 (pre.foldl st3 (0, 0, 0)) + c ≤ T := by
  have hall : ∀ x ∈ pre ++ [c], c ≤ x := by
    intro x hx
    rcases List.mem_append.1 hx with h | h
    · exact hp x h
    · simp at h; omega
  have k0 := ld_ge c (by omega) 0 a _ hall
  have k1 := ld_ge c (by omega) 1 a _ hall
  have k2 := ld_ge c (by omega) 2 a _ hall
  have ks := cnt3 a _ hl ha
  have small : ∀ n : Nat, (n : Int) * c ≤ T → n ≤ 2 := by
    intro n hn
    rcases Nat.lt_or_ge 2 n with h | h
    · have : (3 : Int) * c ≤ n * c := Int.mul_le_mul_of_nonneg_right (by omega) (by omega)
      omega
    · exact h
  have m0 := small _ (Int.le_trans k0 h0)
  have m1 := small _ (Int.le_trans k1 h1)
  have m2 := small _ (Int.le_trans k2 h2)
  have hlen : pre.length ≤ 5 := by
    simp at ks; omega
  match pre, hlen with
  | [], _ =>
    match a, hl with
    | [a0], _ =>
      have e0 : a0 < 3 := ha a0 (by simp)
      have : a0 = 0 ∨ a0 = 1 ∨ a0 = 2 := by omega
      rcases this with rfl | rfl | rfl <;> simp [ld] at h0 h1 h2 <;> simp [mn3] <;> omega
  | [p0], _ =>
    match a, hl with
    | [a0, a1], _ =>
      have e1 : a1 < 3 := ha a1 (by simp)
      have q0 := hp p0 (by simp)
      have e0 : a0 < 3 := ha a0 (by simp)
      have c0 : a0 = 0 ∨ a0 = 1 ∨ a0 = 2 := by omega
      have c1 : a1 = 0 ∨ a1 = 1 ∨ a1 = 2 := by omega
      clear ha hp hs e0 e1
      rcases c0 with rfl | rfl | rfl <;> rcases c1 with rfl | rfl | rfl <;> simp [ld] at h0 h1 h2 <;> simp [mn3, st3] <;> omega
  | [p0, p1], _ =>
    have q0 := hp p0 (by simp)
    have q1 := hp p1 (by simp)
    have hm : mn3 ([p0, p1].foldl st3 (0, 0, 0)) = 0 := by
      simp only [List.foldl_cons, List.foldl_nil]
      have : st3 (0, 0, 0) p0 = (p0, 0, 0) := by simp [st3]
      rw [this]
      have : st3 (p0, 0, 0) p1 = (p0, p1, 0) := by simp [st3]; omega
      rw [this]
      simp [mn3]; omega
    have := one3 T c [p0, p1] a ha hl (by omega) hall h0 h1 h2
    omega
  | [p0, p1, p2], _ =>
    have q0 := hp p0 (by simp)
    have q1 := hp p1 (by simp)
    have q2 := hp p2 (by simp)
    simp at hs
    have hm : mn3 ([p0, p1, p2].foldl st3 (0, 0, 0)) = p2 := by
      simp only [List.foldl_cons, List.foldl_nil]
      have : st3 (0, 0, 0) p0 = (p0, 0, 0) := by simp [st3]
      rw [this]
      have : st3 (p0, 0, 0) p1 = (p0, p1, 0) := by simp [st3]; omega
      rw [this]
      have : st3 (p0, p1, 0) p2 = (p0, p1, p2) := by
        show (if p0 ≤ p1 ∧ p0 ≤ 0 then (p0 + p2, p1, 0) else if p1 ≤ 0 then (p0, p1 + p2, 0) else (p0, p1, 0 + p2)) = _
        rw [if_neg (by omega), if_neg (by omega), Int.zero_add]
      rw [this]
      simp [mn3]; omega
    rw [hm]
    match a, hl with
    | [a0, a1, a2, a3], _ =>
      have e0 : a0 < 3 := ha a0 (by simp)
      have e1 : a1 < 3 := ha a1 (by simp)
      have e2 : a2 < 3 := ha a2 (by simp)
      have e3 : a3 < 3 := ha a3 (by simp)
      have c0 : a0 = 0 ∨ a0 = 1 ∨ a0 = 2 := by omega
      have c1 : a1 = 0 ∨ a1 = 1 ∨ a1 = 2 := by omega
      have c2 : a2 = 0 ∨ a2 = 1 ∨ a2 = 2 := by omega
      have c3 : a3 = 0 ∨ a3 = 1 ∨ a3 = 2 := by omega
      clear ha hp hm hall e0 e1 e2 e3 m0 m1 m2 ks small k0 k1 k2
      rcases c0 with rfl | rfl | rfl <;> rcases c1 with rfl | rfl | rfl <;> rcases c2 with rfl | rfl | rfl <;> rcases c3 with rfl | rfl | rfl <;> simp [ld] at h0 h1 h2 <;> omega
  | [p0, p1, p2, p3], _ =>
    have q0 := hp p0 (by simp)
    have q1 := hp p1 (by simp)
    have q2 := hp p2 (by simp)
    have q3 := hp p3 (by simp)
    simp at hs
    have hm : mn3 ([p0, p1, p2, p3].foldl st3 (0, 0, 0)) ≤ p1 := by
      simp only [List.foldl_cons, List.foldl_nil]
      have : st3 (0, 0, 0) p0 = (p0, 0, 0) := by simp [st3]
      rw [this]
      have : st3 (p0, 0, 0) p1 = (p0, p1, 0) := by simp [st3]; omega
      rw [this]
      have : st3 (p0, p1, 0) p2 = (p0, p1, p2) := by
        show (if p0 ≤ p1 ∧ p0 ≤ 0 then (p0 + p2, p1, 0) else if p1 ≤ 0 then (p0, p1 + p2, 0) else (p0, p1, 0 + p2)) = _
        rw [if_neg (by omega), if_neg (by omega), Int.zero_add]
      rw [this]
      unfold st3 mn3
      split <;> (try split) <;> simp <;> omega
    match a, hl with
    | a0 :: a1 :: a', hl =>
      have e0 : a0 < 3 := ha a0 (by simp)
      have e1 : a1 < 3 := ha a1 (by simp)
      have c0 : a0 = 0 ∨ a0 = 1 ∨ a0 = 2 := by omega
      have c1 : a1 = 0 ∨ a1 = 1 ∨ a1 = 2 := by omega
      have g0 := ld_ge c (by omega) 0 a' [p2, p3, c] (by simp; omega)
      have g1 := ld_ge c (by omega) 1 a' [p2, p3, c] (by simp; omega)
      have g2 := ld_ge c (by omega) 2 a' [p2, p3, c] (by simp; omega)
      have pos : ∀ n : Nat, 1 ≤ n → c ≤ (n : Int) * c := by
        intro n hn
        have : (1 : Int) * c ≤ n * c := Int.mul_le_mul_of_nonneg_right (by omega) (by omega)
        omega
      have r0 := pos (cnt a' [p2, p3, c] 0)
      have r1 := pos (cnt a' [p2, p3, c] 1)
      have r2 := pos (cnt a' [p2, p3, c] 2)
      have nn : ∀ x ∈ [p2, p3, c], (0 : Int) ≤ x := by simp; omega
      have n0 := ld_nonneg 0 a' _ nn
      have n1 := ld_nonneg 1 a' _ nn
      have n2 := ld_nonneg 2 a' _ nn
      clear ha hp hall small k0 k1 k2 pos nn
      rcases c0 with rfl | rfl | rfl <;> rcases c1 with rfl | rfl | rfl <;> simp [ld, cnt] at h0 h1 h2 ks m0 m1 m2 <;> omega
  | [p0, p1, p2, p3, p4], _ =>
    have q0 := hp p0 (by simp)
    have q1 := hp p1 (by simp)
    have q2 := hp p2 (by simp)
    have q3 := hp p3 (by simp)
    have q4 := hp p4 (by simp)
    simp at hs
    have hm : mn3 ([p0, p1, p2, p3, p4].foldl st3 (0, 0, 0)) ≤ p0 := by
      simp only [List.foldl_cons, List.foldl_nil]
      have : st3 (0, 0, 0) p0 = (p0, 0, 0) := by simp [st3]
      rw [this]
      have : st3 (p0, 0, 0) p1 = (p0, p1, 0) := by simp [st3]; omega
      rw [this]
      have : st3 (p0, p1, 0) p2 = (p0, p1, p2) := by
        show (if p0 ≤ p1 ∧ p0 ≤ 0 then (p0 + p2, p1, 0) else if p1 ≤ 0 then (p0, p1 + p2, 0) else (p0, p1, 0 + p2)) = _
        rw [if_neg (by omega), if_neg (by omega), Int.zero_add]
      rw [this]
      unfold st3 mn3
      split <;> (try split) <;> (try split) <;> (try split) <;> simp_all <;> omega
    match a, hl with
    | a0 :: a', hl =>
      have e0 : a0 < 3 := ha a0 (by simp)
      have c0 : a0 = 0 ∨ a0 = 1 ∨ a0 = 2 := by omega
      have g0 := ld_ge c (by omega) 0 a' [p1, p2, p3, p4, c] (by simp; omega)
      have g1 := ld_ge c (by omega) 1 a' [p1, p2, p3, p4, c] (by simp; omega)
      have g2 := ld_ge c (by omega) 2 a' [p1, p2, p3, p4, c] (by simp; omega)
      have pos : ∀ n : Nat, 1 ≤ n → c ≤ (n : Int) * c := by
        intro n hn
        have : (1 : Int) * c ≤ n * c := Int.mul_le_mul_of_nonneg_right (by omega) (by omega)
        omega
      have r0 := pos (cnt a' [p1, p2, p3, p4, c] 0)
      have r1 := pos (cnt a' [p1, p2, p3, p4, c] 1)
      have r2 := pos (cnt a' [p1, p2, p3, p4, c] 2)
      clear ha hp hall small k0 k1 k2 pos
      rcases c0 with rfl | rfl | rfl <;> simp [ld, cnt] at h0 h1 h2 ks m0 m1 m2 <;> omega
  | _ :: _ :: _ :: _ :: _ :: _ :: _, h => simp at h


theorem small_of (c T : Int) (hc : 1 ≤ c) (hg : T < 3 * c) (n : Nat) (hn : (n : Int) * c ≤ T) : n ≤ 2 := by
  rcases Nat.lt_or_ge 2 n with h | h
  · have : (3 : Int) * c ≤ n * c := Int.mul_le_mul_of_nonneg_right (by omega) (by omega)
    omega
  · exact h
theorem pos_of (c : Int) (hc : 0 ≤ c) (n : Nat) (hn : 1 ≤ n) : c ≤ (n : Int) * c := by
  have : (1 : Int) * c ≤ n * c := Int.mul_le_mul_of_nonneg_right (by omega) hc
  omega

theorem step3 (T c : Int) (pre : List Int) (a : List Nat) (ha : ∀ x ∈ a, x < 3) (hl : a.length = (pre ++ [c]).length) (hc : 1 ≤ c) (hp : ∀ x ∈ pre, c ≤ x) (hs : pre.Pairwise (· ≥ ·))
    (h0 : ld a (pre ++ [c]) 0 ≤ T) (h1 : ld a (pre ++ [c]) 1 ≤ T) (h2 : ld a (pre ++ [c]) 2 ≤ T) : 3 * (mn3 (pre.foldl st3 (0, 0, 0)) + c) ≤ 4 * T := by
  have hT := sum3 a _ hl ha
  have hm : 3 * mn3 (pre.foldl st3 (0, 0, 0)) ≤ tot pre := by
    have hm := mn3_le (pre.foldl st3 (0, 0, 0))
    rw [fold3_sum] at hm
    simpa using hm
  rw [tot_append] at hT
  have : tot [c] = c := by simp [tot]
  have hn : 0 ≤ tot pre := by
    clear hl hs h0 h1 h2 hT hm
    induction pre with
    | nil => simp [tot]
    | cons x pre ih =>
      have := hp x (by simp)
      have := ih (fun y hy => hp y (by simp [hy]))
      simp only [tot, List.foldr_cons] at *
      omega
  rcases Int.lt_or_le T (3 * c) with hg | hg
  · have := few3 T c pre a ha hl hc hg hp hs h0 h1 h2
    omega
  · omega

theorem lpt3 (T : Int) (a : List Nat) (cs : List Int) (ha : ∀ x ∈ a, x < 3) (hl : a.length = cs.length) (hc : ∀ x ∈ cs, 1 ≤ x) (hs : cs.Pairwise (· ≥ ·))
    (h0 : ld a cs 0 ≤ T) (h1 : ld a cs 1 ≤ T) (h2 : ld a cs 2 ≤ T) : 3 * mx3 (cs.foldl st3 (0, 0, 0)) ≤ 4 * T := by
  suffices H : ∀ (post pre : List Int), pre ++ post = cs → 3 * mx3 (pre.foldl st3 (0, 0, 0)) ≤ 4 * T → 3 * mx3 (cs.foldl st3 (0, 0, 0)) ≤ 4 * T by
    refine H cs [] rfl ?_
    have := ld_nonneg 0 a cs (fun x hx => by have := hc x hx; omega)
    simp [mx3]; omega
  intro post
  induction post with
  | nil => intro pre e h; simp at e; subst e; exact h
  | cons c post ih =>
    intro pre e h
    refine ih (pre ++ [c]) (by simp [e]) ?_
    have hcs : cs = (pre ++ [c]) ++ post := by simp [← e]
    obtain ⟨b, d, hb, hbl⟩ : ∃ b d, a = b ++ d ∧ b.length = (pre ++ [c]).length := by
      refine ⟨a.take (pre ++ [c]).length, a.drop (pre ++ [c]).length, (List.take_append_drop _ _).symm, ?_⟩
      rw [List.length_take, hl, hcs]; simp only [List.length_append, List.length_singleton]; omega
    have hnn : ∀ w, 0 ≤ ld d post w := fun w => ld_nonneg w d post (fun x hx => by have := hc x (by rw [hcs]; simp [hx]); omega)
    have hle : ∀ w, ld a cs w ≤ T → ld b (pre ++ [c]) w ≤ T := by
      intro w hw
      have e2 : ld a cs w = ld b (pre ++ [c]) w + ld d post w := by rw [hcs, hb, ld_append w b d _ _ hbl]
      have := hnn w
      omega
    rw [hcs] at hs
    have hs1 := (List.pairwise_append.1 hs).1
    have hs2 := (List.pairwise_append.1 hs1)
    have st := step3 T c pre b (fun x hx => ha x (by rw [hb]; simp [hx])) hbl (hc c (by rw [hcs]; simp)) (fun x hx => hs2.2.2 x hx c (by simp)) hs2.1 (hle 0 h0) (hle 1 h1) (hle 2 h2)
    rw [List.foldl_append, List.foldl_cons, List.foldl_nil]
    have := mx3_step (pre.foldl st3 (0, 0, 0)) c
    omega

theorem one2 (T c : Int) (pre : List Int) (a : List Nat) (ha : ∀ x ∈ a, x < 2) (hl : a.length = (pre ++ [c]).length) (hc : 0 ≤ c) (hp : ∀ x ∈ pre ++ [c], c ≤ x)
    (h0 : ld a (pre ++ [c]) 0 ≤ T) (h1 : ld a (pre ++ [c]) 1 ≤ T) : c ≤ T := by
  have k0 := ld_ge c hc 0 a _ hp
  have k1 := ld_ge c hc 1 a _ hp
  have ks := cnt2 a _ hl ha
  have r0 := pos_of c hc (cnt a (pre ++ [c]) 0)
  have r1 := pos_of c hc (cnt a (pre ++ [c]) 1)
  simp only [List.length_append, List.length_singleton] at ks
  omega

theorem few2 (T c : Int) (pre : List Int) (a : List Nat) (ha : ∀ x ∈ a, x < 2) (hl : a.length = (pre ++ [c]).length) (hc : 1 ≤ c) (hg : T < 3 * c) (hp : ∀ x ∈ pre, c ≤ x) (hs : pre.Pairwise (· ≥ ·))
    (h0 : ld a (pre ++ [c]) 0 ≤ T) (h1 : ld a (pre ++ [c]) 1 ≤ T) : mn2 (pre.foldl st2 (0, 0)) + c ≤ T := by
  have hall : ∀ x ∈ pre ++ [c], c ≤ x := by
    intro x hx
    rcases List.mem_append.1 hx with h | h
    · exact hp x h
    · simp at h; omega
  have k0 := ld_ge c (by omega) 0 a _ hall
  have k1 := ld_ge c (by omega) 1 a _ hall
  have ks := cnt2 a _ hl ha
  have m0 := small_of c T hc hg _ (Int.le_trans k0 h0)
  have m1 := small_of c T hc hg _ (Int.le_trans k1 h1)
  have on := one2 T c pre a ha hl (by omega) hall h0 h1
  have hlen : pre.length ≤ 3 := by
    simp at ks; omega
  match pre, hlen with
  | [], _ => simp [mn2]; omega
  | [p0], _ =>
    have q0 := hp p0 (by simp)
    have : mn2 ([p0].foldl st2 (0, 0)) = 0 := by simp [mn2, st2]; omega
    omega
  | [p0, p1], _ =>
    have q0 := hp p0 (by simp)
    have q1 := hp p1 (by simp)
    simp at hs
    have hm : mn2 ([p0, p1].foldl st2 (0, 0)) = p1 := by
      simp only [List.foldl_cons, List.foldl_nil]
      have : st2 (0, 0) p0 = (p0, 0) := by simp [st2]
      rw [this]
      have : st2 (p0, 0) p1 = (p0, p1) := by simp [st2]; omega
      rw [this]
      simp [mn2]; omega
    rw [hm]
    match a, hl with
    | [a0, a1, a2], _ =>
      have e0 : a0 < 2 := ha a0 (by simp)
      have e1 : a1 < 2 := ha a1 (by simp)
      have e2 : a2 < 2 := ha a2 (by simp)
      have c0 : a0 = 0 ∨ a0 = 1 := by omega
      have c1 : a1 = 0 ∨ a1 = 1 := by omega
      have c2 : a2 = 0 ∨ a2 = 1 := by omega
      clear ha hp hm hall e0 e1 e2 m0 m1 ks k0 k1
      rcases c0 with rfl | rfl <;> rcases c1 with rfl | rfl <;> rcases c2 with rfl | rfl <;> simp [ld] at h0 h1 <;> omega
  | [p0, p1, p2], _ =>
    have q0 := hp p0 (by simp)
    have q1 := hp p1 (by simp)
    have q2 := hp p2 (by simp)
    simp at hs
    have hm : mn2 ([p0, p1, p2].foldl st2 (0, 0)) ≤ p0 := by
      simp only [List.foldl_cons, List.foldl_nil]
      have : st2 (0, 0) p0 = (p0, 0) := by simp [st2]
      rw [this]
      have : st2 (p0, 0) p1 = (p0, p1) := by simp [st2]; omega
      rw [this]
      unfold st2 mn2
      split <;> simp <;> omega
    match a, hl with
    | a0 :: a', hl =>
      have e0 : a0 < 2 := ha a0 (by simp)
      have c0 : a0 = 0 ∨ a0 = 1 := by omega
      have g0 := ld_ge c (by omega) 0 a' [p1, p2, c] (by simp; omega)
      have g1 := ld_ge c (by omega) 1 a' [p1, p2, c] (by simp; omega)
      have r0 := pos_of c (by omega) (cnt a' [p1, p2, c] 0)
      have r1 := pos_of c (by omega) (cnt a' [p1, p2, c] 1)
      clear ha hp hall k0 k1
      rcases c0 with rfl | rfl <;> simp [ld, cnt] at h0 h1 ks m0 m1 <;> omega
  | _ :: _ :: _ :: _ :: _, h => simp at h

theorem step2 (T c : Int) (pre : List Int) (a : List Nat) (ha : ∀ x ∈ a, x < 2) (hl : a.length = (pre ++ [c]).length) (hc : 1 ≤ c) (hp : ∀ x ∈ pre, c ≤ x) (hs : pre.Pairwise (· ≥ ·))
    (h0 : ld a (pre ++ [c]) 0 ≤ T) (h1 : ld a (pre ++ [c]) 1 ≤ T) : 3 * (mn2 (pre.foldl st2 (0, 0)) + c) ≤ 4 * T := by
  have hT := sum2 a _ hl ha
  have hm : 2 * mn2 (pre.foldl st2 (0, 0)) ≤ tot pre := by
    have hm := mn2_le (pre.foldl st2 (0, 0))
    rw [fold2_sum] at hm
    simpa using hm
  rw [tot_append] at hT
  have : tot [c] = c := by simp [tot]
  have hn : 0 ≤ tot pre := by
    clear hl hs h0 h1 hT hm
    induction pre with
    | nil => simp [tot]
    | cons x pre ih =>
      have := hp x (by simp)
      have := ih (fun y hy => hp y (by simp [hy]))
      simp only [tot, List.foldr_cons] at *
      omega
  rcases Int.lt_or_le T (3 * c) with hg | hg
  · have := few2 T c pre a ha hl hc hg hp hs h0 h1
    omega
  · omega

theorem lpt2 (T : Int) (a : List Nat) (cs : List Int) (ha : ∀ x ∈ a, x < 2) (hl : a.length = cs.length) (hc : ∀ x ∈ cs, 1 ≤ x) (hs : cs.Pairwise (· ≥ ·))
    (h0 : ld a cs 0 ≤ T) (h1 : ld a cs 1 ≤ T) : 3 * mx2 (cs.foldl st2 (0, 0)) ≤ 4 * T := by
  suffices H : ∀ (post pre : List Int), pre ++ post = cs → 3 * mx2 (pre.foldl st2 (0, 0)) ≤ 4 * T → 3 * mx2 (cs.foldl st2 (0, 0)) ≤ 4 * T by
    refine H cs [] rfl ?_
    have := ld_nonneg 0 a cs (fun x hx => by have := hc x hx; omega)
    simp [mx2]; omega
  intro post
  induction post with
  | nil => intro pre e h; simp at e; subst e; exact h
  | cons c post ih =>
    intro pre e h
    refine ih (pre ++ [c]) (by simp [e]) ?_
    have hcs : cs = (pre ++ [c]) ++ post := by simp [← e]
    obtain ⟨b, d, hb, hbl⟩ : ∃ b d, a = b ++ d ∧ b.length = (pre ++ [c]).length := by
      refine ⟨a.take (pre ++ [c]).length, a.drop (pre ++ [c]).length, (List.take_append_drop _ _).symm, ?_⟩
      rw [List.length_take, hl, hcs]; simp only [List.length_append, List.length_singleton]; omega
    have hnn : ∀ w, 0 ≤ ld d post w := fun w => ld_nonneg w d post (fun x hx => by have := hc x (by rw [hcs]; simp [hx]); omega)
    have hle : ∀ w, ld a cs w ≤ T → ld b (pre ++ [c]) w ≤ T := by
      intro w hw
      have e2 : ld a cs w = ld b (pre ++ [c]) w + ld d post w := by rw [hcs, hb, ld_append w b d _ _ hbl]
      have := hnn w
      omega
    rw [hcs] at hs
    have hs1 := (List.pairwise_append.1 hs).1
    have hs2 := (List.pairwise_append.1 hs1)
    have st := step2 T c pre b (fun x hx => ha x (by rw [hb]; simp [hx])) hbl (hc c (by rw [hcs]; simp)) (fun x hx => hs2.2.2 x hx c (by simp)) hs2.1 (hle 0 h0) (hle 1 h1)
    rw [List.foldl_append, List.foldl_cons, List.foldl_nil]
    have := mx2_step (pre.foldl st2 (0, 0)) c
    omega
end Lpt

theorem putA_ld (q : Nat) : ∀ (a : List Nat) (js l : List Int), a.length = js.length → (∀ x ∈ a, x < l.length) → (putA a js l).getD q 0 = l.getD q 0 + Lpt.ld a js q := by
  intro a
  induction a with
  | nil => intro js l _ _; simp [putA, Lpt.ld]
  | cons x a ih =>
    intro js l hl hx
    cases js with
    | nil => exact absurd hl (by simp)
    | cons j r =>
      have hxl := hx x List.mem_cons_self
      rw [putA, ih r (l.set x (l.getD x 0 + j)) (by simpa using hl) (fun y hy => by rw [List.length_set]; exact hx y (List.mem_cons_of_mem _ hy)), Lpt.ld]
      by_cases c : x = q
      · subst c
        rw [List.getD_eq_getElem?_getD (l := l.set x _), List.getElem?_set_self hxl, if_pos rfl]
        show (l.getD x 0 + j) + _ = _
        omega
      · rw [List.getD_eq_getElem?_getD (l := l.set x _), List.getElem?_set_ne c, ← List.getD_eq_getElem?_getD, if_neg c]
        omega
theorem putA_len : ∀ (a : List Nat) (js l : List Int), (putA a js l).length = l.length
  | [], _, _ => by simp [putA]
  | _ :: _, [], _ => by simp [putA]
  | x :: a, j :: r, l => by rw [putA, putA_len a r]; simp
theorem best_nil (l : List Int) (h : l ≠ []) : (∀ q, q < l.length → l.getD q 0 ≤ bestV [] l) ∧ ∃ q, q < l.length ∧ bestV [] l = l.getD q 0 := by
  cases l with
  | nil => exact absurd rfl h
  | cons x r =>
    have e : bestV [] (x :: r) = mxL x r := rfl
    obtain ⟨h1, h2, h3⟩ := mxL_max r x
    rw [e]
    refine ⟨fun q hq => ?_, ?_⟩
    · cases q with
      | zero => exact h1
      | succ q =>
        have hq2 : q < r.length := by simpa using hq
        show r.getD q 0 ≤ _
        rw [getD_eq r q hq2]
        exact h2 _ (List.getElem_mem hq2)
    · rcases h3 with h3 | h3
      · exact ⟨0, by simp, h3⟩
      · obtain ⟨i, hi, e2⟩ := List.getElem_of_mem h3
        refine ⟨i + 1, by simpa using hi, ?_⟩
        show _ = r.getD i 0
        rw [getD_eq r i hi, e2]

theorem rowEq {a b : List Int} (h : a.length = b.length) (hq : ∀ q, q < a.length → a.getD q 0 = b.getD q 0) : a = b := by
  refine List.ext_getElem h (fun i h1 h2 => ?_)
  have e := hq i h1
  rwa [getD_eq a i h1, getD_eq b i h2] at e
theorem asg_perm {cs js : List Int} (h : cs.Perm js) : ∀ a : List Nat, a.length = cs.length → ∃ a' : List Nat, a'.length = js.length ∧ (∀ q, Lpt.ld a' js q = Lpt.ld a cs q) ∧ ∀ x ∈ a', x ∈ a := by
  induction h with
  | nil => intro a ha; exact ⟨a, ha, fun _ => rfl, fun _ h => h⟩
  | cons c _ ih =>
    intro a ha
    cases a with
    | nil => exact absurd ha (by simp)
    | cons x a =>
      obtain ⟨b, h1, h2, h3⟩ := ih a (by simpa using ha)
      refine ⟨x :: b, by simp [h1], fun q => by simp only [Lpt.ld, h2], fun y hy => ?_⟩
      rcases List.mem_cons.1 hy with rfl | hy
      · exact List.mem_cons_self
      · exact List.mem_cons_of_mem _ (h3 y hy)
  | swap c d l =>
    intro a ha
    match a, ha with
    | x :: y :: a, ha =>
      refine ⟨y :: x :: a, by simpa using ha, fun q => by simp only [Lpt.ld]; omega, fun z hz => ?_⟩
      simp only [List.mem_cons] at hz ⊢
      rcases hz with h | h | h
      · exact Or.inr (Or.inl h)
      · exact Or.inl h
      · exact Or.inr (Or.inr h)
  | trans _ _ ih1 ih2 =>
    intro a ha
    obtain ⟨b, h1, h2, h3⟩ := ih1 a ha
    obtain ⟨d, g1, g2, g3⟩ := ih2 b h1
    exact ⟨d, g1, fun q => (g2 q).trans (h2 q), fun x hx => h3 x (g3 x hx)⟩
theorem putA_perm {cs js : List Int} (h : cs.Perm js) (w : Nat) (a : List Nat) (ha : a.length = cs.length) (hx : ∀ x ∈ a, x < w) : ∃ a' : List Nat, a'.length = js.length ∧ (∀ x ∈ a', x < w) ∧ putA a' js (List.replicate w 0) = putA a cs (List.replicate w 0) := by
  obtain ⟨b, h1, h2, h3⟩ := asg_perm h a ha
  have hb : ∀ x ∈ b, x < w := fun x hx2 => hx x (h3 x hx2)
  refine ⟨b, h1, hb, rowEq (by rw [putA_len, putA_len]) (fun q _ => ?_)⟩
  rw [putA_ld q b js _ h1 (by simpa using hb), putA_ld q a cs _ ha (by simpa using hx), h2]
theorem ld_memA : ∀ (a : List Nat) (cs : List Int), a.length = cs.length → (∀ x ∈ cs, 0 ≤ x) → ∀ x ∈ cs, ∃ q ∈ a, x ≤ Lpt.ld a cs q
  | [], [], _, _, x, hx => absurd hx (by simp)
  | [], _ :: _, h, _, _, _ => absurd h (by simp)
  | _ :: _, [], h, _, _, _ => absurd h (by simp)
  | y :: a, c :: cs, h, hn, x, hx => by
    have hn2 : ∀ z ∈ cs, 0 ≤ z := fun z hz => hn z (List.mem_cons_of_mem _ hz)
    rcases List.mem_cons.1 hx with rfl | hx
    · refine ⟨y, List.mem_cons_self, ?_⟩
      have := Lpt.ld_nonneg y a cs hn2
      rw [Lpt.ld, if_pos rfl]
      omega
    · obtain ⟨q, h1, h2⟩ := ld_memA a cs (by simpa using h) hn2 x hx
      refine ⟨q, List.mem_cons_of_mem _ h1, ?_⟩
      have := hn c List.mem_cons_self
      rw [Lpt.ld]
      split <;> omega
theorem putA_sum : ∀ (a : List Nat) (cs l : List Int), a.length = cs.length → (∀ x ∈ a, x < l.length) → Gr.tots (putA a cs l) = Gr.tots l + Gr.tots cs
  | [], [], l, _, _ => by simp [putA, Gr.tots]
  | [], _ :: _, _, h, _ => absurd h (by simp)
  | _ :: _, [], _, h, _ => absurd h (by simp)
  | y :: a, c :: cs, l, h, hx => by
    rw [putA, putA_sum a cs _ (by simpa using h) (fun x hx2 => by rw [List.length_set]; exact hx x (List.mem_cons_of_mem _ hx2)), Gr.set_sum l y c (hx y List.mem_cons_self)]
    show Gr.tots l + c + Gr.tots cs = Gr.tots l + (c + Gr.tots cs)
    omega
theorem tots_rep (w : Nat) : Gr.tots (List.replicate w 0) = 0 := by
  induction w with
  | zero => rfl
  | succ n ih => rw [List.replicate_succ]; show 0 + Gr.tots (List.replicate n 0) = 0; omega
theorem asg_low (w : Nat) (hw : 1 ≤ w) (a : List Nat) (cs : List Int) (ha : a.length = cs.length) (hx : ∀ x ∈ a, x < w) (hn : ∀ x ∈ cs, 0 ≤ x) :
    Gr.tots cs ≤ (w : Int) * bestV [] (putA a cs (List.replicate w 0)) ∧ (∀ x ∈ cs, x ≤ bestV [] (putA a cs (List.replicate w 0))) ∧ (∀ q, q < w → Lpt.ld a cs q ≤ bestV [] (putA a cs (List.replicate w 0))) ∧ 0 ≤ bestV [] (putA a cs (List.replicate w 0)) := by
  have hl : (putA a cs (List.replicate w 0)).length = w := by rw [putA_len]; simp
  have hne : putA a cs (List.replicate w 0) ≠ [] := fun e => by rw [e] at hl; simp at hl; omega
  obtain ⟨h1, _⟩ := best_nil _ hne
  rw [hl] at h1
  have hld : ∀ q, q < w → Lpt.ld a cs q ≤ bestV [] (putA a cs (List.replicate w 0)) := fun q hq => by
    have := h1 q hq
    rw [putA_ld q a cs _ ha (by simpa using hx), rep0] at this
    omega
  refine ⟨?_, fun x hxc => ?_, hld, ?_⟩
  · have hs := putA_sum a cs (List.replicate w 0) ha (by simpa using hx)
    rw [tots_rep] at hs
    have hm := most_sum (bestV [] (putA a cs (List.replicate w 0))) (putA a cs (List.replicate w 0)) (fun y hy => by
      obtain ⟨i, hi, rfl⟩ := List.getElem_of_mem hy
      have := h1 i (by omega)
      rwa [getD_eq _ i hi] at this)
    rw [hl] at hm
    omega
  · obtain ⟨q, h2, h3⟩ := ld_memA a cs ha hn x hxc
    exact Int.le_trans h3 (hld q (hx q h2))
  · exact Int.le_trans (Lpt.ld_nonneg 0 a cs hn) (hld 0 (by omega))
def asgL (jobs : List Int) (w : Nat) : List Int → List Int → List Nat
  | [], _ => []
  | o :: r, free => amin free (w - 1) 1 0 :: asgL jobs w r (free.set (amin free (w - 1) 1 0) (wrap64 (free.getD (amin free (w - 1) 1 0) 0 + rd jobs o)))
theorem asgL_len (jobs : List Int) (w : Nat) : ∀ (order free : List Int), (asgL jobs w order free).length = order.length
  | [], _ => rfl
  | o :: r, free => by simp [asgL, asgL_len jobs w r]
theorem asgL_lt (jobs : List Int) (w : Nat) (hw1 : 1 ≤ w) : ∀ (order free : List Int), ∀ x ∈ asgL jobs w order free, x < w
  | [], _, x, hx => absurd hx (by simp [asgL])
  | o :: r, free, x, hx => by
    rw [asgL] at hx
    rcases List.mem_cons.1 hx with rfl | hx
    · exact amin_lt free w (w - 1) 1 0 (by omega) (by omega)
    · exact asgL_lt jobs w hw1 r _ x hx
theorem set_bd (free : List Int) (w : Nat) (hl : free.length = w) (B c : Int) (hf : ∀ q, q < w → 0 ≤ free.getD q 0 ∧ free.getD q 0 ≤ B) (a : Nat) (ha : a < w) (hc : 0 ≤ c ∧ c ≤ 1000) : ∀ q, q < w → 0 ≤ (free.set a (free.getD a 0 + c)).getD q 0 ∧ (free.set a (free.getD a 0 + c)).getD q 0 ≤ B + 1000 := by
  intro q hq
  have h1 := hf a ha
  by_cases h : q = a
  · subst h
    have e1 : (free.set q (free.getD q 0 + c)).getD q 0 = free.getD q 0 + c := by
      rw [List.getD_eq_getElem?_getD, List.getElem?_set_self (by omega)]
      rfl
    rw [e1]; omega
  · have e2 : (free.set a (free.getD a 0 + c)).getD q 0 = free.getD q 0 := by
      rw [List.getD_eq_getElem?_getD, List.getElem?_set_ne (by omega), ← List.getD_eq_getElem?_getD]
    rw [e2]
    have := hf q hq
    omega
theorem frees_put (jobs : List Int) (w : Nat) (hw1 : 1 ≤ w) : ∀ (order free : List Int) (B : Int), (∀ o ∈ order, 1 ≤ rd jobs o ∧ rd jobs o ≤ 1000) → free.length = w → (∀ q, q < w → 0 ≤ free.getD q 0 ∧ free.getD q 0 ≤ B) → B + 1000 * order.length ≤ 1000000000 →
    frees jobs w order free = putA (asgL jobs w order free) (order.map (rd jobs)) free
  | [], free, B, _, _, _, _ => by simp [frees, putA, asgL]
  | o :: r, free, B, ho, hl, hf, hB => by
    have hlt := amin_lt free w (w - 1) 1 0 (by omega) (by omega)
    have hc := ho o List.mem_cons_self
    have h1 := hf _ hlt
    have hlen : ((o :: r).length : Int) = (r.length : Int) + 1 := by simp
    have e : wrap64 (free.getD (amin free (w - 1) 1 0) 0 + rd jobs o) = free.getD (amin free (w - 1) 1 0) 0 + rd jobs o := w64 (by omega) (by omega)
    rw [frees, asgL, List.map_cons, putA, e]
    refine frees_put jobs w hw1 r _ (B + 1000) (fun x hx => ho x (List.mem_cons_of_mem _ hx)) (by rw [List.length_set]; exact hl) (set_bd free w hl B (rd jobs o) hf _ hlt (by omega)) (by omega)
theorem span_best (jobs : List Int) (w : Nat) (hw1 : 1 ≤ w) (hw : w ≤ 6) (order : List Int) (ho : ∀ o ∈ order, 1 ≤ rd jobs o ∧ rd jobs o ≤ 1000) (hl : order.length ≤ 40) :
    span (planL jobs w order (List.replicate w 0)) = bestV [] (putA (asgL jobs w order (List.replicate w 0)) (order.map (rd jobs)) (List.replicate w 0)) := by
  rw [← frees_put jobs w hw1 order (List.replicate w 0) 0 ho (by simp) (fun q _ => by rw [rep0]; omega) (by omega)]
  by_cases hn : order = []
  · subst hn
    have hne : List.replicate w (0 : Int) ≠ [] := fun e => by have := congrArg List.length e; simp at this; omega
    obtain ⟨_, q, hq, h2⟩ := best_nil _ hne
    show (0 : Int) = bestV [] (List.replicate w 0)
    rw [h2, rep0]
  · obtain ⟨h1, ⟨q, hq, h2⟩, _, _⟩ := span_frees jobs w hw1 hw order ho hn hl
    obtain ⟨i1, _⟩ := planL_frees jobs w hw1 hw order (List.replicate w 0) 0 0 ho (by simp) (fun q _ => by rw [rep0]; omega) (by omega) (tots_rep w)
    have hne : frees jobs w order (List.replicate w 0) ≠ [] := fun e => by rw [e] at i1; simp at i1; omega
    obtain ⟨b1, p, hp, b2⟩ := best_nil _ hne
    have b3 := b1 q (by omega)
    have b4 := h1 p (by omega)
    omega
theorem rd_mem {jobs : List Int} (hj : ∀ x ∈ jobs, 1 ≤ x ∧ x ≤ 1000) {order : List Int} (ho : ∀ x ∈ order, 0 ≤ x ∧ x < (jobs.length : Int)) : ∀ o ∈ order, 1 ≤ rd jobs o ∧ rd jobs o ≤ 1000 := fun o h => by
  have := ho o h
  exact hj (rd jobs o) (mem_getD jobs 0 _ (by omega))
theorem plan_best (jobs : List Int) (w : Nat) (hw1 : 1 ≤ w) (hw : w ≤ 6) (hj : ∀ x ∈ jobs, 1 ≤ x ∧ x ≤ 1000) (hl : jobs.length ≤ 40) (order : List Int) (hp : (order.map (rd jobs)).Perm jobs) (ho : ∀ x ∈ order, 0 ≤ x ∧ x < (jobs.length : Int)) :
    bestV jobs (List.replicate w 0) ≤ span (planL jobs w order (List.replicate w 0)) ∧ Gr.tots jobs ≤ (w : Int) * span (planL jobs w order (List.replicate w 0)) ∧ (∀ x ∈ jobs, x ≤ span (planL jobs w order (List.replicate w 0))) ∧ 0 ≤ span (planL jobs w order (List.replicate w 0)) := by
  have hol : order.length ≤ 40 := by have := hp.length_eq; rw [List.length_map] at this; omega
  have hr := rd_mem hj ho
  rw [span_best jobs w hw1 hw order hr hol]
  have ha : (asgL jobs w order (List.replicate w 0)).length = (order.map (rd jobs)).length := by rw [asgL_len, List.length_map]
  have hx := asgL_lt jobs w hw1 order (List.replicate w 0)
  obtain ⟨a', h1, h2, h3⟩ := putA_perm hp w _ ha hx
  rw [← h3]
  have hjn : ∀ x ∈ jobs, 0 ≤ x := fun x h => by have := hj x h; omega
  have hne : List.replicate w (0 : Int) ≠ [] := fun e => by have := congrArg List.length e; simp at this; omega
  obtain ⟨g1, g2, _, g4⟩ := asg_low w hw1 a' jobs h1 h2 hjn
  exact ⟨bestV_le jobs a' (List.replicate w 0) hjn hne (fun x h => by have := (List.mem_replicate.1 h).2; omega) h1 (by simpa using h2), g1, g2, g4⟩
theorem best_low (jobs : List Int) (w : Nat) (hw1 : 1 ≤ w) (hj : ∀ x ∈ jobs, 1 ≤ x ∧ x ≤ 1000) :
    Gr.tots jobs ≤ (w : Int) * bestV jobs (List.replicate w 0) ∧ (∀ x ∈ jobs, x ≤ bestV jobs (List.replicate w 0)) ∧ 0 ≤ bestV jobs (List.replicate w 0) := by
  have hjn : ∀ x ∈ jobs, 0 ≤ x := fun x h => by have := hj x h; omega
  have hne : List.replicate w (0 : Int) ≠ [] := fun e => by have := congrArg List.length e; simp at this; omega
  obtain ⟨a, h1, h2, h3⟩ := bestV_ex jobs (List.replicate w 0) hjn hne (fun x h => by have := (List.mem_replicate.1 h).2; omega)
  obtain ⟨g1, g2, _, g4⟩ := asg_low w hw1 a jobs h1 (by simpa using h2) hjn
  rw [h3]
  exact ⟨g1, g2, g4⟩
theorem frees3 (jobs : List Int) : ∀ (order : List Int) (x y z B : Int), (∀ o ∈ order, 1 ≤ rd jobs o ∧ rd jobs o ≤ 1000) → 0 ≤ x → x ≤ B → 0 ≤ y → y ≤ B → 0 ≤ z → z ≤ B → B + 1000 * order.length ≤ 1000000000 →
    frees jobs 3 order [x, y, z] = [((order.map (rd jobs)).foldl Lpt.st3 (x, y, z)).1, ((order.map (rd jobs)).foldl Lpt.st3 (x, y, z)).2.1, ((order.map (rd jobs)).foldl Lpt.st3 (x, y, z)).2.2]
  | [], x, y, z, B, _, _, _, _, _, _, _, _ => rfl
  | o :: r, x, y, z, B, ho, x0, x1, y0, y1, z0, z1, hB => by
    have hc := ho o List.mem_cons_self
    have hr : ∀ o ∈ r, 1 ≤ rd jobs o ∧ rd jobs o ≤ 1000 := fun o h => ho o (List.mem_cons_of_mem _ h)
    have hlen : ((o :: r).length : Int) = (r.length : Int) + 1 := by simp
    have w0 : wrap64 (x + rd jobs o) = x + rd jobs o := w64 (by omega) (by omega)
    have w1 : wrap64 (y + rd jobs o) = y + rd jobs o := w64 (by omega) (by omega)
    have w2 : wrap64 (z + rd jobs o) = z + rd jobs o := w64 (by omega) (by omega)
    rw [frees, List.map_cons, List.foldl_cons]
    by_cases c1 : x ≤ y ∧ x ≤ z
    · have e : amin [x, y, z] (3 - 1) 1 0 = 0 := by
        show amin [x, y, z] 2 1 0 = 0
        have q1 : ¬ [x, y, z].getD 1 0 < [x, y, z].getD 0 0 := by show ¬ y < x; omega
        rw [amin, if_neg q1, amin]
        have q2 : ¬ [x, y, z].getD (1 + 1) 0 < [x, y, z].getD 0 0 := by show ¬ z < x; omega
        rw [if_neg q2]; rfl
      have e2 : Lpt.st3 (x, y, z) (rd jobs o) = (x + rd jobs o, y, z) := by unfold Lpt.st3; exact if_pos c1
      rw [e, e2]
      show frees jobs 3 r [wrap64 (x + rd jobs o), y, z] = _
      rw [w0]
      exact frees3 jobs r _ _ _ (B + 1000) hr (by omega) (by omega) (by omega) (by omega) (by omega) (by omega) (by omega)
    · by_cases c2 : y ≤ z
      · have e : amin [x, y, z] (3 - 1) 1 0 = 1 := by
          show amin [x, y, z] 2 1 0 = 1
          have q1 : [x, y, z].getD 1 0 < [x, y, z].getD 0 0 := by show y < x; omega
          rw [amin, if_pos q1, amin]
          have q2 : ¬ [x, y, z].getD (1 + 1) 0 < [x, y, z].getD 1 0 := by show ¬ z < y; omega
          rw [if_neg q2]; rfl
        have e2 : Lpt.st3 (x, y, z) (rd jobs o) = (x, y + rd jobs o, z) := by unfold Lpt.st3; rw [if_neg c1]; exact if_pos c2
        rw [e, e2]
        show frees jobs 3 r [x, wrap64 (y + rd jobs o), z] = _
        rw [w1]
        exact frees3 jobs r _ _ _ (B + 1000) hr (by omega) (by omega) (by omega) (by omega) (by omega) (by omega) (by omega)
      · have e : amin [x, y, z] (3 - 1) 1 0 = 2 := by
          show amin [x, y, z] 2 1 0 = 2
          rw [amin]
          by_cases q1 : y < x
          · have q1' : [x, y, z].getD 1 0 < [x, y, z].getD 0 0 := q1
            rw [if_pos q1', amin]
            have q2 : [x, y, z].getD (1 + 1) 0 < [x, y, z].getD 1 0 := by show z < y; omega
            rw [if_pos q2]; rfl
          · have q1' : ¬ [x, y, z].getD 1 0 < [x, y, z].getD 0 0 := q1
            rw [if_neg q1', amin]
            have q2 : [x, y, z].getD (1 + 1) 0 < [x, y, z].getD 0 0 := by show z < x; omega
            rw [if_pos q2]; rfl
        have e2 : Lpt.st3 (x, y, z) (rd jobs o) = (x, y, z + rd jobs o) := by unfold Lpt.st3; rw [if_neg c1]; exact if_neg c2
        rw [e, e2]
        show frees jobs 3 r [x, y, wrap64 (z + rd jobs o)] = _
        rw [w2]
        exact frees3 jobs r _ _ _ (B + 1000) hr (by omega) (by omega) (by omega) (by omega) (by omega) (by omega) (by omega)
theorem frees2 (jobs : List Int) : ∀ (order : List Int) (x y B : Int), (∀ o ∈ order, 1 ≤ rd jobs o ∧ rd jobs o ≤ 1000) → 0 ≤ x → x ≤ B → 0 ≤ y → y ≤ B → B + 1000 * order.length ≤ 1000000000 →
    frees jobs 2 order [x, y] = [((order.map (rd jobs)).foldl Lpt.st2 (x, y)).1, ((order.map (rd jobs)).foldl Lpt.st2 (x, y)).2]
  | [], x, y, B, _, _, _, _, _, _ => rfl
  | o :: r, x, y, B, ho, x0, x1, y0, y1, hB => by
    have hc := ho o List.mem_cons_self
    have hr : ∀ o ∈ r, 1 ≤ rd jobs o ∧ rd jobs o ≤ 1000 := fun o h => ho o (List.mem_cons_of_mem _ h)
    have hlen : ((o :: r).length : Int) = (r.length : Int) + 1 := by simp
    have w0 : wrap64 (x + rd jobs o) = x + rd jobs o := w64 (by omega) (by omega)
    have w1 : wrap64 (y + rd jobs o) = y + rd jobs o := w64 (by omega) (by omega)
    rw [frees, List.map_cons, List.foldl_cons]
    by_cases c1 : x ≤ y
    · have e : amin [x, y] (2 - 1) 1 0 = 0 := by
        show amin [x, y] 1 1 0 = 0
        have q1 : ¬ [x, y].getD 1 0 < [x, y].getD 0 0 := by show ¬ y < x; omega
        rw [amin, if_neg q1]; rfl
      have e2 : Lpt.st2 (x, y) (rd jobs o) = (x + rd jobs o, y) := by unfold Lpt.st2; exact if_pos c1
      rw [e, e2]
      show frees jobs 2 r [wrap64 (x + rd jobs o), y] = _
      rw [w0]
      exact frees2 jobs r _ _ (B + 1000) hr (by omega) (by omega) (by omega) (by omega) (by omega)
    · have e : amin [x, y] (2 - 1) 1 0 = 1 := by
        show amin [x, y] 1 1 0 = 1
        have q1 : [x, y].getD 1 0 < [x, y].getD 0 0 := by show y < x; omega
        rw [amin, if_pos q1]; rfl
      have e2 : Lpt.st2 (x, y) (rd jobs o) = (x, y + rd jobs o) := by unfold Lpt.st2; exact if_neg c1
      rw [e, e2]
      show frees jobs 2 r [x, wrap64 (y + rd jobs o)] = _
      rw [w1]
      exact frees2 jobs r _ _ (B + 1000) hr (by omega) (by omega) (by omega) (by omega) (by omega)
theorem long_43 (jobs : List Int) (w : Nat) (hw1 : 1 ≤ w) (hw : w ≤ 3) (hj : ∀ x ∈ jobs, 1 ≤ x ∧ x ≤ 1000) (hl : jobs.length ≤ 40) (order : List Int) (hp : (order.map (rd jobs)).Perm jobs) (ho : ∀ x ∈ order, 0 ≤ x ∧ x < (jobs.length : Int)) (hs : (order.map (rd jobs)).Pairwise (· ≥ ·)) :
    3 * span (planL jobs w order (List.replicate w 0)) ≤ 4 * bestV jobs (List.replicate w 0) := by
  have hol : order.length ≤ 40 := by have := hp.length_eq; rw [List.length_map] at this; omega
  have hr := rd_mem hj ho
  have hjn : ∀ x ∈ jobs, 0 ≤ x := fun x h => by have := hj x h; omega
  have hne : List.replicate w (0 : Int) ≠ [] := fun e => by have := congrArg List.length e; simp at this; omega
  obtain ⟨a, h1, h2, h3⟩ := bestV_ex jobs (List.replicate w 0) hjn hne (fun x h => by have := (List.mem_replicate.1 h).2; omega)
  rw [List.length_replicate] at h2
  obtain ⟨b, b1, b2, b3⟩ := putA_perm hp.symm w a h1 h2
  have hcn : ∀ x ∈ order.map (rd jobs), 1 ≤ x := fun x h => by
    obtain ⟨o, h4, rfl⟩ := List.mem_map.1 h
    exact (hr o h4).1
  obtain ⟨g1, _, g3, g4⟩ := asg_low w hw1 b (order.map (rd jobs)) b1 b2 (fun x h => by have := hcn x h; omega)
  rw [b3, ← h3] at g1 g3 g4
  rw [span_best jobs w hw1 (by omega) order hr hol, ← frees_put jobs w hw1 order (List.replicate w 0) 0 hr (by simp) (fun q _ => by rw [rep0]; omega) (by omega)]
  generalize bestV jobs (List.replicate w 0) = T at g1 g3 g4
  have lo : (0 : Int) + 1000 * order.length ≤ 1000000000 := by omega
  obtain rfl | rfl | rfl : w = 1 ∨ w = 2 ∨ w = 3 := by omega
  · obtain ⟨i1, i2, _⟩ := planL_frees jobs 1 (by omega) (by omega) order (List.replicate 1 0) 0 0 hr (by simp) (fun q _ => by rw [rep0]; omega) (by omega) (tots_rep 1)
    have e : costs jobs order = Gr.tots (order.map (rd jobs)) := rfl
    rw [e] at i2
    obtain ⟨_, p, hp2, q2⟩ := best_nil (frees jobs 1 order (List.replicate 1 0)) (fun e => by rw [e] at i1; simp at i1)
    rw [q2]
    obtain rfl : p = 0 := by omega
    match frees jobs 1 order (List.replicate 1 0), i1, i2 with
    | [v], _, i2 =>
      have i3 : v + 0 = 0 + Gr.tots (order.map (rd jobs)) := i2
      show 3 * v ≤ 4 * T
      omega
  · have h := Lpt.lpt2 T b (order.map (rd jobs)) b2 b1 hcn hs (g3 0 (by omega)) (g3 1 (by omega))
    show 3 * bestV [] (frees jobs 2 order [0, 0]) ≤ 4 * T
    rw [frees2 jobs order 0 0 0 hr (by omega) (by omega) (by omega) (by omega) lo]
    generalize (order.map (rd jobs)).foldl Lpt.st2 (0, 0) = s at h ⊢
    have e : bestV [] [s.1, s.2] = mx s.1 s.2 := rfl
    rw [e, mx_eq]
    unfold Lpt.mx2 at h
    exact h
  · have h := Lpt.lpt3 T b (order.map (rd jobs)) b2 b1 hcn hs (g3 0 (by omega)) (g3 1 (by omega)) (g3 2 (by omega))
    show 3 * bestV [] (frees jobs 3 order [0, 0, 0]) ≤ 4 * T
    rw [frees3 jobs order 0 0 0 0 hr (by omega) (by omega) (by omega) (by omega) (by omega) (by omega) lo]
    generalize (order.map (rd jobs)).foldl Lpt.st3 (0, 0, 0) = s at h ⊢
    have e : bestV [] [s.1, s.2.1, s.2.2] = mx (mx s.1 s.2.1) s.2.2 := rfl
    rw [e, mx_eq, mx_eq]
    unfold Lpt.mx3 at h
    omega

def wsumB : Int → List Int → Int
  | s, [] => s
  | s, x :: r => wsumB (wrap64 (s + x)) r
theorem sumB_l0 (l : List Int) (hm : l.length ≤ 1048576) : ∀ (d k i : Nat) (s : Int), i + d = l.length → d < k → impl_sum.l0 k s l (l.length : Int) (i : Int) = some (wsumB s (l.drop i)) := by
  intro d
  induction d with
  | zero =>
    intro k i s hi hk
    obtain ⟨k, rfl⟩ : ∃ m, k = m + 1 := ⟨k - 1, by omega⟩
    rw [List.drop_of_length_le (by omega)]
    simp only [impl_sum.l0, wsumB]
    exact ifn (by omega) rfl
  | succ d ih =>
    intro k i s hi hk
    obtain ⟨k, rfl⟩ : ∃ m, k = m + 1 := ⟨k - 1, by omega⟩
    simp only [impl_sum.l0, rd_natD, w64_succ i (by omega)]
    rw [drop_getD l 0 i (by omega), wsumB]
    exact ifp (by omega) (ifp (by omega) (ifp (by omega) (ih k (i + 1) (wrap64 (s + l.getD i 0)) (by omega) (by omega))))
theorem impl_sumB (k : Nat) (l : List Int) (hm : l.length ≤ 1048576) (hk : 1048600 ≤ k) : impl_sum.f k l = some (wsumB 0 l) := by
  have := sumB_l0 l hm l.length k 0 0 (by omega) (by omega)
  simpa [impl_sum.f] using this

theorem w64_bd (x : Int) : -9223372036854775808 ≤ wrap64 x ∧ wrap64 x ≤ 9223372036854775807 := by unfold wrap64; omega
def I64 (s : S49) : Prop := -9223372036854775808 ≤ s.f3 ∧ s.f3 ≤ 9223372036854775807
theorem planL_i64 (jobs : List Int) (w : Nat) (order : List Int) : ∀ free, ∀ s ∈ planL jobs w order free, I64 s := by
  induction order with
  | nil => intro free s hs; simp [planL] at hs
  | cons o r ih =>
    intro free s hs
    simp only [planL, List.mem_cons] at hs
    rcases hs with rfl | hs
    · exact w64_bd _
    · exact ih _ s hs

def sumI : List Int → Int
  | [] => 0
  | x :: r => x + sumI r
theorem sumI_append (a b : List Int) : sumI (a ++ b) = sumI a + sumI b := by
  induction a with
  | nil => simp [sumI]
  | cons x r ih => simp only [List.cons_append, sumI, ih]; omega
theorem sumI_set (l : List Int) : ∀ (i : Nat) (v : Int), i < l.length → sumI (l.set i v) = sumI l - l.getD i 0 + v := by
  induction l with
  | nil => intro i v h; simp at h
  | cons x r ih =>
    intro i v h
    cases i with
    | zero => simp [sumI]; omega
    | succ i =>
      have := ih i v (by simpa using h)
      simp only [List.set_cons_succ, sumI, List.getD_cons_succ, this]
      omega
theorem len_le : ∀ (n : Nat) (p : List Nat), p.Nodup → (∀ x ∈ p, x < n) → p.length ≤ n := by
  intro n
  induction n with
  | zero =>
    intro p _ h
    cases p with
    | nil => simp
    | cons x r => exact absurd (h x (by simp)) (by omega)
  | succ n ih =>
    intro p hd h
    by_cases c : n ∈ p
    · have h1 := ih (p.erase n) (hd.erase n) (fun x hx => by
        have h2 := (List.Nodup.mem_erase_iff hd).1 hx
        have := h x h2.2
        have := h2.1
        omega)
      rw [List.length_erase_of_mem c] at h1
      omega
    · have := ih p hd (fun x hx => by
        have := h x hx
        have : x ≠ n := fun e => c (e ▸ hx)
        omega)
      omega
def sumN (f : Nat → Int) : List Nat → Int
  | [] => 0
  | x :: r => f x + sumN f r
theorem sumN_erase (f : Nat → Int) (n : Nat) (p : List Nat) (h : n ∈ p) : sumN f p = f n + sumN f (p.erase n) := by
  induction p with
  | nil => simp at h
  | cons x r ih =>
    by_cases c : x = n
    · subst c; simp [sumN]
    · have hn : n ∈ r := by
        rcases List.mem_cons.1 h with e | e
        · exact absurd e.symm c
        · exact e
      have e2 : (x :: r).erase n = x :: r.erase n := by rw [List.erase_cons_tail (by simpa using c)]
      rw [e2]
      simp only [sumN, ih hn]
      omega
theorem sum_all (f : Nat → Int) : ∀ (n : Nat) (p : List Nat), p.Nodup → (∀ x ∈ p, x < n) → p.length = n → sumN f p = sumN f (List.range n) := by
  intro n
  induction n with
  | zero =>
    intro p _ _ h
    cases p with
    | nil => rfl
    | cons x r => simp at h
  | succ n ih =>
    intro p hd h hl
    have c : n ∈ p := by
      apply Classical.byContradiction
      intro c
      have := len_le n p hd (fun x hx => by
        have := h x hx
        have : x ≠ n := fun e => c (e ▸ hx)
        omega)
      omega
    have h1 := ih (p.erase n) (hd.erase n) (fun x hx => by
        have h2 := (List.Nodup.mem_erase_iff hd).1 hx
        have := h x h2.2
        have := h2.1
        omega) (by rw [List.length_erase_of_mem c]; omega)
    rw [sumN_erase f n p c, h1, List.range_succ]
    have : ∀ (a : List Nat) (z : Nat), sumN f (a ++ [z]) = sumN f a + f z := by
      intro a z
      induction a with
      | nil => simp [sumN]
      | cons y r ih => simp only [List.cons_append, sumN, ih]; omega
    rw [this]
    omega
theorem sumN_range (l : List Int) : sumN (fun i => l.getD i 0) (List.range l.length) = sumI l := by
  have key : ∀ (n : Nat), n ≤ l.length → sumN (fun i => l.getD i 0) (List.range n) = sumI (l.take n) := by
    intro n
    induction n with
    | zero => intro _; simp [sumN, sumI]
    | succ n ih =>
      intro hn
      have h2 : ∀ (a : List Nat) (z : Nat), sumN (fun i => l.getD i 0) (a ++ [z]) = sumN (fun i => l.getD i 0) a + l.getD z 0 := by
        intro a z
        induction a with
        | nil => simp [sumN]
        | cons y r ih => simp only [List.cons_append, sumN, ih]; omega
      rw [List.range_succ, h2, ih (by omega), take_succ_getD l 0 n (by omega), sumI_append]
      simp [sumI]
  have := key l.length (Nat.le_refl _)
  rwa [List.take_length] at this
structure PlanGood (jobs : List Int) (w : Int) (l : List S49) : Prop where
  rng : ∀ s ∈ l, (0 ≤ s.f0 ∧ s.f0 < (jobs.length : Int)) ∧ (0 ≤ s.f1 ∧ s.f1 ≤ w - 1) ∧ (0 ≤ s.f2 ∧ s.f2 ≤ 1000000000) ∧ s.f3 = s.f2 + rd jobs s.f0
  apart : l.Pairwise (fun s t => s.f0 ≠ t.f0 ∧ ¬ (s.f1 = t.f1 ∧ s.f2 < t.f3 ∧ t.f2 < s.f3))
  len : l.length = jobs.length
theorem anyB_no (l : List S49) (a b c d : Int) : ∀ (n j : Nat), anyB l a b c d j n = false → ∀ i, j ≤ i → i < j + n → badS (l.getD i z49) a b c d = false := by
  intro n
  induction n with
  | zero => intro j _ i h1 h2; omega
  | succ n ih =>
    intro j h i h1 h2
    simp only [anyB, Bool.or_eq_false_iff] at h
    by_cases e : i = j
    · rw [e]; exact h.1
    · exact ih (j + 1) h.2 i (by omega) (by omega)
theorem okP_all (jobs : List Int) (w : Int) (l : List S49) : ∀ (n i : Nat), okP jobs w l i n = true → ∀ j, i ≤ j → j < i + n →
    ((0 ≤ (l.getD j z49).f0 ∧ (l.getD j z49).f0 ≤ (jobs.length : Int) - 1) ∧ (0 ≤ (l.getD j z49).f1 ∧ (l.getD j z49).f1 ≤ w - 1) ∧ (0 ≤ (l.getD j z49).f2 ∧ (l.getD j z49).f2 ≤ 1000000000) ∧ wrap64 ((l.getD j z49).f3 - (l.getD j z49).f2) = rd jobs (l.getD j z49).f0) ∧ anyB l (l.getD j z49).f0 (l.getD j z49).f1 (l.getD j z49).f2 (l.getD j z49).f3 0 j = false := by
  intro n
  induction n with
  | zero => intro i _ j h1 h2; omega
  | succ n ih =>
    intro i h j h1 h2
    simp only [okP, Bool.and_eq_true, decide_eq_true_eq, Bool.not_eq_true', bne_eq_false_iff_eq] at h
    by_cases e : j = i
    · rw [e]; exact ⟨⟨h.1.1, h.1.2.1, h.1.2.2.1, h.1.2.2.2⟩, h.2.1⟩
    · exact ih (i + 1) h.2.2 j (by omega) (by omega)
theorem plan_good (jobs : List Int) (w : Int) (l : List S49) (hl : l.length = jobs.length) (hj : ∀ x ∈ jobs, 1 ≤ x ∧ x ≤ 1000) (hv : ∀ s ∈ l, I64 s) (h : okP jobs w l 0 l.length = true) : PlanGood jobs w l := by
  have H := okP_all jobs w l l.length 0 h
  refine ⟨fun s hs => ?_, ?_, hl⟩
  · obtain ⟨i, hi, rfl⟩ := List.getElem_of_mem hs
    have h1 := (H i (by omega) (by omega)).1
    have h3 := hv _ hs
    have e : l.getD i z49 = l[i] := by simp [hi]
    rw [e] at h1
    have h2 := hj (rd jobs l[i].f0) (mem_getD jobs 0 _ (by omega))
    refine ⟨by omega, h1.2.1, h1.2.2.1, ?_⟩
    have h4 := h1.2.2.2
    have h5 := h1.2.2.1
    unfold I64 at h3
    unfold wrap64 at h4
    omega
  · rw [List.pairwise_iff_getElem]
    intro i j hi hj2 hij
    have h1 := (H j (by omega) (by omega)).2
    have e : l.getD j z49 = l[j] := by simp [hj2]
    rw [e] at h1
    have h2 := anyB_no l _ _ _ _ j 0 h1 i (by omega) (by omega)
    have e2 : l.getD i z49 = l[i] := by simp [hi]
    rw [e2, badS, decide_eq_false_iff_not] at h2
    exact ⟨fun e => h2 (.inl e), fun e => h2 (.inr e)⟩
theorem loads_sum (jobs : List Int) (l : List S49) (w : Int) (hw : 1 ≤ w) (hw2 : w ≤ 6) (hm : l.length ≤ 41) (hg : ∀ s ∈ l, (0 ≤ s.f1 ∧ s.f1 ≤ w - 1) ∧ 0 ≤ s.f3 - s.f2 ∧ s.f3 - s.f2 ≤ 1001) : ∀ (d k i : Nat) (o : List Int), i + d = l.length → d < k → (o.length : Int) = w → (∀ x ∈ o, 0 ≤ x ∧ x ≤ (i : Int) * 1001) →
    ∃ r, impl_LoadsOf.l0 k w o l (l.length : Int) (i : Int) = some r ∧ (r.length : Int) = w ∧ (∀ x ∈ r, 0 ≤ x ∧ x ≤ 100000) ∧ sumI r = sumI o + sumI ((l.drop i).map (fun s => s.f3 - s.f2)) := by
  intro d
  induction d with
  | zero =>
    intro k i o hi hk ho hx
    obtain ⟨k, rfl⟩ : ∃ m, k = m + 1 := ⟨k - 1, by omega⟩
    rw [List.drop_of_length_le (by omega)]
    exact ⟨o, by rw [impl_LoadsOf.l0]; exact ifn (by omega) rfl, ho, fun x h => by have := hx x h; omega, by simp [sumI]⟩
  | succ d ih =>
    intro k i o hi hk ho hx
    obtain ⟨k, rfl⟩ : ∃ m, k = m + 1 := ⟨k - 1, by omega⟩
    have hw1 : wrap64 (w - 1) = w - 1 := w64 (by omega) (by omega)
    have hs := hg _ (mem_getD l z49 i (by omega))
    rw [drop_getD l z49 i (by omega)]
    simp only [impl_LoadsOf.l0, impl_in_, Option.bind_some, rd_T49, Int.toNat_natCast, hw1, w64_succ i (by omega)]
    have hi2 : (l.getD i z49).f1.toNat < o.length := by omega
    have hox := hx _ (mem_getD o 0 (l.getD i z49).f1.toNat hi2)
    have e1 : wrap64 ((l.getD i z49).f3 - (l.getD i z49).f2) = (l.getD i z49).f3 - (l.getD i z49).f2 := w64 (by omega) (by omega)
    have e2 : rd o (l.getD i z49).f1 = o.getD (l.getD i z49).f1.toNat 0 := rfl
    rw [e1, e2, w64 (x := o.getD (l.getD i z49).f1.toNat 0 + ((l.getD i z49).f3 - (l.getD i z49).f2)) (by omega) (by omega)]
    obtain ⟨r, g1, g2, g3, g4⟩ := ih k (i + 1) (o.set (l.getD i z49).f1.toNat (o.getD (l.getD i z49).f1.toNat 0 + ((l.getD i z49).f3 - (l.getD i z49).f2))) (by omega) (by omega) (by simpa using ho) (fun x h => by
      rcases List.mem_or_eq_of_mem_set h with h | rfl
      · have := hx x h; omega
      · omega)
    refine ⟨r, ifp (by omega) (ifp (by omega) (ifp (by omega) (ifp (by simpa using hs.1) (ifp hs.1.1 (ifp (by omega) g1))))), g2, g3, ?_⟩
    rw [g4, sumI_set _ _ _ hi2]
    simp only [List.map_cons, sumI]
    omega
theorem costs_sum {jobs : List Int} {w : Int} {l : List S49} (h : PlanGood jobs w l) : sumI (l.map (fun s => s.f3 - s.f2)) = sumI jobs := by
  have e1 : sumI (l.map (fun s => s.f3 - s.f2)) = sumN (fun i => jobs.getD i 0) (l.map (fun s => s.f0.toNat)) := by
    have hr := h.rng
    clear h
    induction l with
    | nil => rfl
    | cons x r ih =>
      have := (hr x (by simp)).2.2.2
      have e : rd jobs x.f0 = jobs.getD x.f0.toNat 0 := rfl
      simp only [List.map_cons, sumI, sumN, ih (fun s hs => hr s (by simp [hs]))]
      omega
  rw [e1, sum_all _ jobs.length _ ?_ ?_ ?_, sumN_range]
  · have hp := h.apart
    have hr := h.rng
    clear h e1
    induction l with
    | nil => simp
    | cons x r ih =>
      have h1 := List.pairwise_cons.1 hp
      rw [List.map_cons, List.nodup_cons]
      refine ⟨fun hm => ?_, ih h1.2 (fun s hs => hr s (by simp [hs]))⟩
      obtain ⟨y, hy, e⟩ := List.mem_map.1 hm
      have h2 := h1.1 y hy
      have h3 := (hr x (by simp)).1
      have h4 := (hr y (by simp [hy])).1
      exact h2.1 (by omega)
  · intro x hx
    obtain ⟨y, hy, rfl⟩ := List.mem_map.1 hx
    have := (h.rng y hy).1
    omega
  · rw [List.length_map, h.len]

def planOkV (jobs : List Int) (w : Int) (l : List S49) : Bool := jOk jobs && (decide (1 ≤ w ∧ w ≤ 6) && (!((l.length : Int) != (jobs.length : Int)) && okP jobs w l 0 l.length))
theorem planok_v (k : Nat) (jobs : List Int) (w : Int) (l : List S49) (hjm : jobs.length ≤ 1048576) (hjv : ∀ x ∈ jobs, -9223372036854775808 ≤ x ∧ x ≤ 9223372036854775807) (hlv : ∀ x ∈ l, -9223372036854775808 ≤ x.f3 ∧ x.f3 ≤ 9223372036854775807) (hk : 1048600 ≤ k) : spec_PlanOk.f k jobs w l = some (planOkV jobs w l) ∧ impl_PlanOk.f k jobs w l = some (planOkV jobs w l) := by
  obtain ⟨k, rfl⟩ : ∃ m, k = m + 1 := ⟨k - 1, by omega⟩
  unfold spec_PlanOk.f impl_PlanOk.f impl_arePlanned.f
  rw [spec_jOk (k + 1) jobs hjm (by omega), impl_jOk (k + 1) jobs hjm (by omega)]
  simp only [Option.bind_some, spec_in, impl_in_]
  by_cases c1 : jOk jobs = true
  · have hj : jobs.length ≤ 40 := jOk_len c1
    simp only [if_pos c1]
    by_cases c2 : 1 ≤ w ∧ w ≤ 6
    · simp only [Option.bind_some, decide_eq_true c2, if_true]
      rw [spec_PlanOk.j0, impl_PlanOk.j0]
      by_cases c3 : ((l.length : Int) != (jobs.length : Int)) = true
      · have hv : planOkV jobs w l = false := by unfold planOkV; rw [c3]; simp
        rw [hv]
        exact ⟨ifp c3 rfl, ifp c3 rfl⟩
      · have h3 : l.length = jobs.length := by
          have := c3
          simp at this
          omega
        have := plan_l0 jobs w l c2.1 c2.2 (by omega) hj hjv hlv l.length k 0 (by omega) (by omega)
        have z0 : ((0 : Nat) : Int) = 0 := rfl
        rw [z0] at this
        have c3f : ((l.length : Int) != (jobs.length : Int)) = false := by simpa using c3
        have hv : planOkV jobs w l = okP jobs w l 0 l.length := by unfold planOkV; rw [c3f, c1, decide_eq_true c2]; simp
        rw [hv]
        exact ⟨ifn c3 this.1, ifn c3 this.2⟩
    · have hv : planOkV jobs w l = false := by unfold planOkV; rw [decide_eq_false c2]; simp
      rw [hv]
      simp only [Option.bind_some, decide_eq_false c2]
      exact ⟨ifn (by simp) (by rw [spec_PlanOk.j0]; exact ifp rfl rfl), ifn (by simp) (by rw [impl_PlanOk.j0]; exact ifp rfl rfl)⟩
  · have c1f : jOk jobs = false := by simpa using c1
    have hv : planOkV jobs w l = false := by unfold planOkV; rw [c1f]; simp
    rw [hv]
    simp only [if_neg c1, Option.bind_some]
    exact ⟨by rw [spec_PlanOk.j0]; exact ifp rfl rfl, ifn (by simp) (by rw [impl_PlanOk.j0]; exact ifp rfl rfl)⟩

theorem okP_of (jobs : List Int) (w : Int) (l : List S49) (h : ∀ s ∈ l, (0 ≤ s.f0 ∧ s.f0 ≤ (jobs.length : Int) - 1) ∧ (0 ≤ s.f1 ∧ s.f1 ≤ w - 1) ∧ (0 ≤ s.f2 ∧ s.f2 ≤ 1000000000) ∧ wrap64 (s.f3 - s.f2) = rd jobs s.f0)
    (hp : ∀ j i : Nat, j < i → i < l.length → badS (l.getD j z49) (l.getD i z49).f0 (l.getD i z49).f1 (l.getD i z49).f2 (l.getD i z49).f3 = false) : ∀ (n i : Nat), i + n = l.length → okP jobs w l i n = true := by
  intro n
  induction n with
  | zero => intro i _; rfl
  | succ n ih =>
    intro i hi
    obtain ⟨h1, h2, h3, h4⟩ := h _ (mem_getD l z49 i (by omega))
    have hb : ∀ (m j : Nat), j + m ≤ i → anyB l (l.getD i z49).f0 (l.getD i z49).f1 (l.getD i z49).f2 (l.getD i z49).f3 j m = false := by
      intro m
      induction m with
      | zero => intro j _; rfl
      | succ m ihm => intro j hj; rw [anyB, hp j i (by omega) (by omega), ihm (j + 1) (by omega)]; rfl
    rw [okP, decide_eq_true h1, decide_eq_true h2, decide_eq_true h3, hb i 0 (by omega), ih (i + 1) (by omega), h4]
    simp
theorem planL_each (jobs : List Int) (w : Nat) (hw1 : 1 ≤ w) (hw : w ≤ 6) : ∀ (order free : List Int) (B : Int), (∀ o ∈ order, 1 ≤ rd jobs o ∧ rd jobs o ≤ 1000) → free.length = w → (∀ q, q < w → 0 ≤ free.getD q 0 ∧ free.getD q 0 ≤ B) → B + 1000 * order.length ≤ 1000000000 →
    ∀ s ∈ planL jobs w order free, s.f0 ∈ order ∧ (∃ q, q < w ∧ s.f1 = (q : Int) ∧ free.getD q 0 ≤ s.f2) ∧ (0 ≤ s.f2 ∧ s.f2 ≤ 1000000000) ∧ s.f3 = s.f2 + rd jobs s.f0 := by
  intro order
  induction order with
  | nil => intro free B _ _ _ _ s hs; exact absurd hs (by simp [planL])
  | cons o r ih =>
    intro free B ho hl hf hB s hs
    have hlt := amin_lt free w (w - 1) 1 0 (by omega) (by omega)
    rw [planL] at hs
    generalize amin free (w - 1) 1 0 = a at hlt hs
    have hc := ho o List.mem_cons_self
    have h1 := hf a hlt
    have hlen : ((o :: r).length : Int) = (r.length : Int) + 1 := by simp
    have e : wrap64 (free.getD a 0 + rd jobs o) = free.getD a 0 + rd jobs o := w64 (by omega) (by omega)
    rw [e] at hs
    rcases List.mem_cons.1 hs with rfl | hs
    · exact ⟨List.mem_cons_self, ⟨a, hlt, rfl, Int.le_refl _⟩, ⟨h1.1, by show free.getD a 0 ≤ 1000000000; omega⟩, rfl⟩
    · obtain ⟨g1, ⟨q, g2, g3, g4⟩, g5, g6⟩ := ih (free.set a (free.getD a 0 + rd jobs o)) (B + 1000) (fun x hx => ho x (List.mem_cons_of_mem _ hx)) (by rw [List.length_set]; exact hl) (set_bd free w hl B (rd jobs o) hf a hlt (by omega)) (by omega) s hs
      refine ⟨List.mem_cons_of_mem _ g1, ⟨q, g2, g3, ?_⟩, g5, g6⟩
      by_cases h : q = a
      · subst h
        have e1 : (free.set q (free.getD q 0 + rd jobs o)).getD q 0 = free.getD q 0 + rd jobs o := by
          rw [List.getD_eq_getElem?_getD, List.getElem?_set_self (by omega)]
          rfl
        rw [e1] at g4; omega
      · have e2 : (free.set a (free.getD a 0 + rd jobs o)).getD q 0 = free.getD q 0 := by
          rw [List.getD_eq_getElem?_getD, List.getElem?_set_ne (by omega), ← List.getD_eq_getElem?_getD]
        rw [e2] at g4; exact g4
theorem planL_pairs (jobs : List Int) (w : Nat) (hw1 : 1 ≤ w) (hw : w ≤ 6) : ∀ (order free : List Int) (B : Int), order.Nodup → (∀ o ∈ order, 1 ≤ rd jobs o ∧ rd jobs o ≤ 1000) → free.length = w → (∀ q, q < w → 0 ≤ free.getD q 0 ∧ free.getD q 0 ≤ B) → B + 1000 * order.length ≤ 1000000000 →
    (planL jobs w order free).Pairwise (fun s t => s.f0 ≠ t.f0 ∧ (s.f1 = t.f1 → s.f3 ≤ t.f2)) := by
  intro order
  induction order with
  | nil => intro free B _ _ _ _ _; simp [planL]
  | cons o r ih =>
    intro free B hn ho hl hf hB
    have hlt := amin_lt free w (w - 1) 1 0 (by omega) (by omega)
    rw [planL]
    generalize amin free (w - 1) 1 0 = a at hlt ⊢
    have hc := ho o List.mem_cons_self
    have h1 := hf a hlt
    have hlen : ((o :: r).length : Int) = (r.length : Int) + 1 := by simp
    have e : wrap64 (free.getD a 0 + rd jobs o) = free.getD a 0 + rd jobs o := w64 (by omega) (by omega)
    rw [e]
    obtain ⟨n1, n2⟩ := List.nodup_cons.1 hn
    have hr : ∀ x ∈ r, 1 ≤ rd jobs x ∧ rd jobs x ≤ 1000 := fun x hx => ho x (List.mem_cons_of_mem _ hx)
    have hl2 : (free.set a (free.getD a 0 + rd jobs o)).length = w := by rw [List.length_set]; exact hl
    have hb2 := set_bd free w hl B (rd jobs o) hf a hlt (by omega)
    refine List.pairwise_cons.2 ⟨fun t ht => ?_, ih _ (B + 1000) n2 hr hl2 hb2 (by omega)⟩
    obtain ⟨g1, ⟨q, g2, g3, g4⟩, _, _⟩ := planL_each jobs w hw1 hw r _ (B + 1000) hr hl2 hb2 (by omega) t ht
    refine ⟨fun h => n1 (by have h' : o = t.f0 := h; rw [h']; exact g1), fun h => ?_⟩
    have h' : (a : Int) = t.f1 := h
    obtain rfl : q = a := by omega
    have e1 : (free.set q (free.getD q 0 + rd jobs o)).getD q 0 = free.getD q 0 + rd jobs o := by
      rw [List.getD_eq_getElem?_getD, List.getElem?_set_self (by omega)]
      rfl
    rw [e1] at g4
    exact g4
theorem planL_ok (jobs : List Int) (w : Int) (hj : jOk jobs = true) (hw1 : 1 ≤ w) (hw : w ≤ 6) (order : List Int) (hn : order.Nodup) (hl : order.length = jobs.length) (ho : ∀ x ∈ order, 0 ≤ x ∧ x < (jobs.length : Int)) : planOkV jobs w (planL jobs w.toNat order (List.replicate w.toNat 0)) = true := by
  have hjl := jOk_len hj
  have hjv : ∀ x ∈ jobs, 1 ≤ x ∧ x ≤ 1000 := fun x hx => by
    simp only [jOk, Bool.and_eq_true, List.all_eq_true] at hj
    have := hj.2 x hx
    simpa [isJ] using this
  obtain ⟨n, rfl⟩ := Int.eq_ofNat_of_zero_le (show 0 ≤ w by omega)
  rw [Int.toNat_natCast]
  have hr := rd_mem hjv ho
  have hz : ∀ q, q < n → 0 ≤ (List.replicate n (0 : Int)).getD q 0 ∧ (List.replicate n (0 : Int)).getD q 0 ≤ 0 := fun q _ => by rw [rep0]; omega
  have hE := planL_each jobs n (by omega) (by omega) order (List.replicate n 0) 0 hr (by simp) hz (by omega)
  have hP := planL_pairs jobs n (by omega) (by omega) order (List.replicate n 0) 0 hn hr (by simp) hz (by omega)
  have hlen := planL_len jobs n order (List.replicate n 0)
  generalize planL jobs n order (List.replicate n 0) = l at hE hP hlen
  have h3 : ((l.length : Int) != (jobs.length : Int)) = false := by rw [hlen, hl]; simp
  have h2 : (1 : Int) ≤ (n : Int) ∧ (n : Int) ≤ 6 := ⟨hw1, hw⟩
  unfold planOkV
  rw [hj, h3, decide_eq_true h2, okP_of jobs (n : Int) l ?_ ?_ l.length 0 (by omega)]
  · rfl
  · intro s hs
    obtain ⟨g1, ⟨q, g2, g3, _⟩, g5, g6⟩ := hE s hs
    have g7 := ho _ g1
    have g8 := hr _ g1
    exact ⟨by omega, by omega, g5, by rw [w64 (by omega) (by omega)]; omega⟩
  · intro j i hji hi
    have h := List.pairwise_iff_getElem.1 hP j i (by omega) hi hji
    have ej : l.getD j z49 = l[j] := by simp [show j < l.length by omega]
    have ei : l.getD i z49 = l[i] := by simp [hi]
    rw [ej, ei, badS, decide_eq_false]
    rintro (h4 | ⟨h4, _, h5⟩)
    · exact h.1 h4
    · have := h.2 h4; omega
theorem upTo_nodup : ∀ (n i : Nat), (upTo i n).Nodup := by
  intro n
  induction n with
  | zero => intro i; exact List.nodup_nil
  | succ n ih =>
    intro i
    refine List.nodup_cons.2 ⟨fun h => ?_, ih (i + 1)⟩
    have := upTo_mem n (i + 1) _ h
    omega
theorem ordL_nodup (jobs : List Int) (n : Nat) : (ordL jobs n).Nodup := (ordL_permG jobs n).nodup_iff.2 (upTo_nodup n 0)
theorem sumI_tots : ∀ l : List Int, sumI l = Gr.tots l
  | [] => rfl
  | x :: r => by rw [sumI, sumI_tots r]; rfl
theorem total_tots : ∀ l : List Int, total l = Gr.tots l
  | [] => rfl
  | x :: r => by rw [total_cons, total_tots r]; rfl
theorem wsumB_eq : ∀ (l : List Int) (s B : Int), (∀ x ∈ l, 0 ≤ x ∧ x ≤ B) → 0 ≤ s → 0 ≤ B → B ≤ 1000000 → l.length ≤ 1000 → s + B * l.length ≤ 9000000000000 → wsumB s l = s + Gr.tots l
  | [], s, B, _, _, _, _, _, _ => by show s = s + 0; omega
  | x :: r, s, B, h, h0, hB, hB2, hl, hs => by
    have hx := h x List.mem_cons_self
    have e2 : B * (((x :: r).length : Nat) : Int) = B * (r.length : Int) + B := by rw [List.length_cons, Int.natCast_add, Int.mul_add]; simp
    have e3 : 0 ≤ B * (r.length : Int) := Int.mul_nonneg hB (by omega)
    rw [wsumB, w64 (by omega) (by omega), wsumB_eq r (s + x) B (fun y hy => h y (List.mem_cons_of_mem _ hy)) (by omega) hB hB2 (by simp at hl; omega) (by omega)]
    show s + x + Gr.tots r = s + (x + Gr.tots r)
    omega

theorem and_bd (x m : Int) (h0 : 0 ≤ m) (h1 : m ≤ 1073741823) : 0 ≤ Go.bits .and .i64 x m ∧ Go.bits .and .i64 x m ≤ m := by
  obtain ⟨b, rfl⟩ := Int.eq_ofNat_of_zero_le h0
  have hb : b % 2 ^ Go.IntKind.i64.bits = b := Nat.mod_eq_of_lt (by simp [Go.IntKind.bits]; omega)
  have hn : (BitVec.ofInt Go.IntKind.i64.bits x).toNat &&& b ≤ b := Nat.and_le_right
  simp only [Go.bits, BitVec.ofInt_natCast, BitVec.toNat_and, BitVec.toNat_ofNat, hb]
  generalize (BitVec.ofInt Go.IntKind.i64.bits x).toNat &&& b = n at hn ⊢
  rw [Go.IntKind.wrap_i64]
  omega
theorem byte_ (l : List Int) (i h : Int) (h0 : 0 ≤ i) (hl : l.length ≤ 1048576) : ∃ x i' h', spec_l01Byte.f l i h = some (x, i', h') ∧ 0 ≤ x ∧ x ≤ 255 ∧ 0 ≤ i' := by
  unfold spec_l01Byte.f
  by_cases c : i < (l.length : Int)
  · rw [if_pos c, if_pos h0]
    exact ⟨_, _, _, rfl, (and_bd _ 255 (by omega) (by omega)).1, (and_bd _ 255 (by omega) (by omega)).2, by rw [w64 (by omega) (by omega)]; omega⟩
  · rw [if_neg c]
    exact ⟨_, _, _, rfl, (and_bd _ 255 (by omega) (by omega)).1, (and_bd _ 255 (by omega) (by omega)).2, h0⟩
theorem below_ (l : List Int) (i h a : Int) (h0 : 0 ≤ i) (hl : l.length ≤ 1048576) : ∃ x i' h', spec_l01Below.f l i h a = some (x, i', h') ∧ 0 ≤ x ∧ (x < a ∨ (a ≤ 0 ∧ x = 0)) ∧ 0 ≤ i' := by
  unfold spec_l01Below.f
  by_cases c : a ≤ 0
  · rw [if_pos c]; exact ⟨0, i, h, rfl, by omega, .inr ⟨c, rfl⟩, h0⟩
  rw [if_neg c]
  obtain ⟨x, i1, h1, e1, g0, g1, g2⟩ := byte_ l i h h0 hl
  rw [e1]
  simp only [Option.bind_some]
  by_cases c2 : a ≤ 256
  · rw [if_pos c2, if_neg (by omega)]
    exact ⟨_, _, _, rfl, by rw [tmod_pos g0]; exact Int.emod_nonneg _ (by omega), .inl (by rw [tmod_pos g0]; exact Int.emod_lt_of_pos _ (by omega)), g2⟩
  · rw [if_neg c2]
    obtain ⟨y, i2, h2, e2, y0, y1, y2⟩ := byte_ l i1 h1 g2 hl
    rw [e2]
    simp only [Option.bind_some]
    obtain ⟨z, i3, h3, e3, z0, z1, z2⟩ := byte_ l i2 h2 y2 hl
    rw [e3]
    simp only [Option.bind_some]
    rw [if_neg (by omega)]
    have q : 0 ≤ wrap64 ((wrap64 ((wrap64 (x * 65536)) + (wrap64 (y * 256)))) + z) := by unfold wrap64; omega
    exact ⟨_, _, _, rfl, by rw [tmod_pos q]; exact Int.emod_nonneg _ (by omega), .inl (by rw [tmod_pos q]; exact Int.emod_lt_of_pos _ (by omega)), z2⟩
theorem once_ (l : List Int) (i h a : Int) (h0 : 0 ≤ i) (hl : l.length ≤ 1048576) : ∃ b i' h', spec_l01Once.f l i h a = some (b, i', h') ∧ 0 ≤ i' := by
  unfold spec_l01Once.f
  obtain ⟨x, i1, h1, e1, _, _, g2⟩ := below_ l i h a h0 hl
  rw [e1]
  exact ⟨_, _, _, rfl, g2⟩
theorem pick_ (l : List Int) (i h : Int) (xs : List Int) (hx : 0 < xs.length) (h0 : 0 ≤ i) (hl : l.length ≤ 1048576) : ∃ x i' h', spec_l01PickInt.f l i h xs = some (x, i', h') ∧ x ∈ xs ∧ 0 ≤ i' := by
  unfold spec_l01PickInt.f
  obtain ⟨x, i1, h1, e1, g0, g1, g2⟩ := below_ l i h (xs.length : Int) h0 hl
  rw [e1]
  simp only [Option.bind_some]
  have g : x < (xs.length : Int) := by omega
  rw [if_pos g0, if_pos g]
  exact ⟨_, _, _, rfl, mem_getD xs 0 _ (by omega), g2⟩
theorem new_l0 (l : List Int) : ∀ (d k i : Nat) (h : Int), i + d = 4000 → d < k → ∃ h', spec_l01New.l0 k l h (i : Int) = some (l, 0, h') := by
  intro d
  induction d with
  | zero =>
    intro k i h hi hk
    obtain ⟨k, rfl⟩ : ∃ m, k = m + 1 := ⟨k - 1, by omega⟩
    simp only [spec_l01New.l0]
    by_cases c : (i : Int) < (l.length : Int)
    · exact ⟨h, ifp c (ifn (by omega) rfl)⟩
    · exact ⟨h, ifn c rfl⟩
  | succ d ih =>
    intro k i h hi hk
    obtain ⟨k, rfl⟩ : ∃ m, k = m + 1 := ⟨k - 1, by omega⟩
    simp only [spec_l01New.l0, w64_succ i (by omega)]
    by_cases c : (i : Int) < (l.length : Int)
    · obtain ⟨h', g⟩ := ih k (i + 1) (Go.bits .and .i64 (wrap64 ((wrap64 ((wrap64 (h * 149)) + (wrap64 (rd l i)))) + 11)) 1073741823) (by omega) (by omega)
      exact ⟨h', ifp c (ifp (by omega) (ifp (by omega) g))⟩
    · exact ⟨h, ifn c rfl⟩
theorem new_ (k : Nat) (l : List Int) (hk : 4100 ≤ k) : ∃ h', spec_l01New.f k l = some (l, 0, h') := by
  unfold spec_l01New.f
  exact new_l0 l 4000 k 0 _ (by omega) (by omega)

theorem djobs_l0 (l : List Int) (hl : l.length ≤ 1048576) (n : Nat) (hn : n ≤ 41) : ∀ (d k j : Nat) (acc : List Int) (i h : Int), j + d = n → d < k → acc.length = j → (∀ x ∈ acc, 0 ≤ x ∧ x ≤ 1001) → 0 ≤ i →
    ∃ r i' h', spec_l12DrawJobs.l0 k acc (n : Int) (j : Int) l i h = some (r, i', h') ∧ r.length ≤ 41 ∧ (∀ x ∈ r, 0 ≤ x ∧ x ≤ 1001) ∧ 0 ≤ i' := by
  intro d
  induction d with
  | zero =>
    intro k j acc i h hj hk ha hv h0
    obtain ⟨k, rfl⟩ : ∃ m, k = m + 1 := ⟨k - 1, by omega⟩
    rw [spec_l12DrawJobs.l0, if_neg (by omega)]
    obtain ⟨b, i1, h1, e1, g1⟩ := once_ l i h 15 h0 hl
    rw [e1]
    simp only [Option.bind_some]
    try dsimp only
    cases b with
    | false => exact ⟨acc, i1, h1, ifn (by simp) rfl, by omega, hv, g1⟩
    | true =>
      by_cases c : (n : Int) > 0
      · obtain ⟨x, i2, h2, e2, hx, g2⟩ := pick_ l i1 h1 [0, 1000, 1001] (by simp) g1 hl
        refine ⟨acc.set (0 : Int).toNat x, i2, h2, ifp rfl (ifp c (st e2 (ifp (by omega) rfl))), by simp; omega, ?_, g2⟩
        intro y hy
        rcases List.mem_or_eq_of_mem_set hy with hy | rfl
        · exact hv y hy
        · simp at hx; omega
      · exact ⟨acc, i1, h1, ifp rfl (ifn c rfl), by omega, hv, g1⟩
  | succ d ih =>
    intro k j acc i h hj hk ha hv h0
    obtain ⟨k, rfl⟩ : ∃ m, k = m + 1 := ⟨k - 1, by omega⟩
    rw [spec_l12DrawJobs.l0, if_pos (by omega)]
    obtain ⟨x, i1, h1, e1, g0, g1, g2⟩ := below_ l i h 20 h0 hl
    rw [e1]
    simp only [Option.bind_some]
    try dsimp only
    rw [if_pos (by omega), w64_succ j (by omega), w64 (x := 1 + x) (by omega) (by omega)]
    exact ih k (j + 1) (acc ++ [1 + x]) i1 h1 (by omega) (by omega) (by simp; omega) (fun y hy => by
      rcases List.mem_append.1 hy with hy | hy
      · exact hv y hy
      · simp at hy; omega) g2
theorem djobs_j0 (l : List Int) (hl : l.length ≤ 1048576) (k : Nat) (hk : 100 ≤ k) (n : Int) (hn : n ≤ 41) (i h : Int) (h0 : 0 ≤ i) (hn0 : 0 ≤ n) :
    ∃ r i' h', spec_l12DrawJobs.j0 k [] n l i h = some (r, i', h') ∧ r.length ≤ 41 ∧ (∀ x ∈ r, 0 ≤ x ∧ x ≤ 1001) ∧ 0 ≤ i' := by
  obtain ⟨k, rfl⟩ : ∃ m, k = m + 1 := ⟨k - 1, by omega⟩
  obtain ⟨m, rfl⟩ := Int.eq_ofNat_of_zero_le hn0
  rw [spec_l12DrawJobs.j0]
  exact djobs_l0 l hl m (by omega) m k 0 [] i h (by omega) (by omega) rfl (by simp) h0
theorem size_ (code : List Int) : ∃ t : Int, t ≤ 12 ∧ spec_l01Size.f code 12 = some t := by
  unfold spec_l01Size.f
  by_cases c : (wrap64 (2 + (wrap64 ((code.length : Int) / 16)))) > 12
  · exact ⟨12, by omega, ifp c rfl⟩
  · exact ⟨_, by omega, ifn c rfl⟩
theorem djobs (k : Nat) (l : List Int) (hl : l.length ≤ 1048576) (i h : Int) (code : List Int) (hc : code.length ≤ 1048576) (hk : 100 ≤ k) (h0 : 0 ≤ i) :
    ∃ r i' h', spec_l12DrawJobs.f k l i h code = some (r, i', h') ∧ r.length ≤ 41 ∧ (∀ x ∈ r, 0 ≤ x ∧ x ≤ 1001) ∧ 0 ≤ i' := by
  obtain ⟨t, ht, e⟩ := size_ code
  obtain ⟨n, i1, h1, e1, g0, g1, g2⟩ := below_ l i h t h0 hl
  obtain ⟨b, i2, h2, e2, g3⟩ := once_ l i1 h1 30 g2 hl
  cases b with
  | false =>
    obtain ⟨r, i', h', e4, f1, f2, f3⟩ := djobs_j0 l hl k hk n (by omega) i2 h2 g3 g0
    refine ⟨r, i', h', ?_, f1, f2, f3⟩
    unfold spec_l12DrawJobs.f
    exact st rfl (st e (st e1 (st e2 (ifn (by simp) e4))))
  | true =>
    obtain ⟨m, i3, h3, e3, y0, y1, y2⟩ := below_ l i2 h2 2 g3 hl
    have ew : wrap64 (40 + m) = 40 + m := w64 (by omega) (by omega)
    obtain ⟨r, i', h', e4, f1, f2, f3⟩ := djobs_j0 l hl k hk (wrap64 (40 + m)) (by omega) i3 h3 y2 (by omega)
    refine ⟨r, i', h', ?_, f1, f2, f3⟩
    unfold spec_l12DrawJobs.f
    exact st rfl (st e (st e1 (st e2 (ifp rfl (st e3 e4)))))
theorem dworkers (l : List Int) (hl : l.length ≤ 1048576) (i h : Int) (h0 : 0 ≤ i) : ∃ w i' h', spec_l12DrawWorkers.f l i h = some (w, i', h') ∧ 0 ≤ w ∧ w ≤ 7 ∧ 0 ≤ i' := by
  unfold spec_l12DrawWorkers.f
  obtain ⟨x, i1, h1, e1, hx, g1⟩ := pick_ l i h [1, 2, 3, 3, 6, 7, 0] (by simp) h0 hl
  rw [e1]
  simp only [Option.bind_some]
  try dsimp only
  refine ⟨x, i1, h1, rfl, ?_, ?_, g1⟩ <;> (simp at hx; omega)

def tx (l : List UInt8) : ByteArray := ⟨l.toArray⟩
theorem tx_append (a b : List UInt8) : tx a ++ tx b = tx (a ++ b) := by
  apply ByteArray.ext
  simp [tx, ByteArray.data_append]
theorem tx_size (a : List UInt8) : (tx a).size = a.length := by simp [tx, ByteArray.size]
def digs (u : Nat) : List UInt8 := if u = 0 then [] else Go.Lib.decDigits u
theorem digs_step {u : Nat} (h : u ≠ 0) : digs u = digs (u / 10) ++ [UInt8.ofNat (48 + u % 10)] := by
  unfold digs
  rw [if_neg h]
  by_cases c : u < 10
  · rw [if_pos (by omega), Go.Lib.decDigits, dif_pos c, Nat.mod_eq_of_lt c]
    rfl
  · rw [if_neg (by omega), Go.Lib.decDigits, dif_neg c]
theorem one_digit (d : Int) (h0 : 0 ≤ d) (h1 : d ≤ 9) : strOfNums [(wrap64 (48 + d)) % 256] = tx [UInt8.ofNat (48 + d.toNat)] := by
  rw [w64 (by omega) (by omega), Int.emod_eq_of_lt (by omega) (by omega)]
  have : (48 + d).toNat = 48 + d.toNat := by omega
  simp [strOfNums, tx, this]
theorem num_l0 (neg : Bool) : ∀ (n k u : Nat) (x : Int) (s : List UInt8), n < k → u < 10 ^ n → u ≤ 9223372036854775808 → x.natAbs = u → n + s.length ≤ 1000 →
    spec_l01Num.l0 k x (tx s) neg = some (tx ((if neg = true then [45] else []) ++ (digs u ++ s))) := by
  intro n
  induction n with
  | zero =>
    intro k u x s hk hu hu2 hx hs
    obtain ⟨k, rfl⟩ : ∃ m, k = m + 1 := ⟨k - 1, by omega⟩
    have hu0 : u = 0 := by omega
    subst hu0
    rw [spec_l01Num.l0]
    refine ifp (by omega) ?_
    cases neg with
    | true =>
      refine ifp rfl (ifp (by rw [tx_size]; omega) ?_)
      rw [show (⟨#[45]⟩ : ByteArray) = tx [45] from rfl, tx_append]
      rfl
    | false => exact ifn (by simp) rfl
  | succ n ih =>
    intro k u x s hk hu hu2 hx hs
    obtain ⟨k, rfl⟩ : ∃ m, k = m + 1 := ⟨k - 1, by omega⟩
    by_cases h0 : u = 0
    · subst h0
      rw [spec_l01Num.l0]
      refine ifp (by omega) ?_
      cases neg with
      | true =>
        refine ifp rfl (ifp (by rw [tx_size]; omega) ?_)
        rw [show (⟨#[45]⟩ : ByteArray) = tx [45] from rfl, tx_append]
        rfl
      | false => exact ifn (by simp) rfl
    · have hp : u < 10 ^ n * 10 := by rw [← Nat.pow_succ]; exact hu
      have hq : u / 10 < 10 ^ n := Nat.div_lt_of_lt_mul (by rw [Nat.mul_comm]; exact hp)
      have e : (if neg = true then [45] else []) ++ (digs u ++ s) = (if neg = true then [45] else []) ++ (digs (u / 10) ++ (UInt8.ofNat (48 + u % 10) :: s)) := by
        rw [digs_step h0]; simp
      have hx0 : ¬ x = 0 := by omega
      have ht : (Int.tdiv x 10).natAbs = x.natAbs / 10 := Int.natAbs_tdiv x 10
      have hm : (Int.tmod x 10).natAbs = x.natAbs % 10 := Int.natAbs_tmod x 10
      have g := ih k (u / 10) (Int.tdiv x 10) (UInt8.ofNat (48 + u % 10) :: s) (by omega) hq (by omega) (by omega) (by simp; omega)
      have hw : wrap64 (Int.tdiv x 10) = Int.tdiv x 10 := w64 (by omega) (by omega)
      rw [spec_l01Num.l0, e, hw]
      refine ifn hx0 ?_
      by_cases c : Int.tmod x 10 < 0
      · have hd : -(Int.tmod x 10) = ((u % 10 : Nat) : Int) := by omega
        refine ifp c (st rfl ?_)
        rw [w64 (x := -(Int.tmod x 10)) (by omega) (by omega), hd, one_digit _ (by omega) (by omega)]
        refine ifp (by rw [tx_size, tx_size]; simp; omega) ?_
        rw [tx_append]
        exact g
      · have hd : Int.tmod x 10 = ((u % 10 : Nat) : Int) := by omega
        refine ifn c (st rfl ?_)
        rw [hd, one_digit _ (by omega) (by omega)]
        refine ifp (by rw [tx_size, tx_size]; simp; omega) ?_
        rw [tx_append]
        exact g
theorem spec_num (k : Nat) (x : Int) (h0 : -9223372036854775808 ≤ x) (h1 : x ≤ 9223372036854775807) (hk : 100 ≤ k) : spec_l01Num.f k x = some (itoaS x) := by
  unfold spec_l01Num.f itoaS Go.Lib.itoa
  by_cases c : x = 0
  · subst c
    refine ifp rfl ?_
    rw [if_neg (by omega), Go.Lib.decDigits, dif_pos (by decide)]
    rfl
  · refine ifn c ?_
    have g := num_l0 (decide (x < 0)) 20 k x.natAbs x [] (by omega) (by omega) (by omega) rfl (by simp)
    refine (show spec_l01Num.l0 k x (tx []) _ = _ from g).trans ?_
    have hd : digs x.natAbs = Go.Lib.decDigits x.natAbs := by unfold digs; rw [if_neg (by omega)]
    rw [hd, List.append_nil]
    by_cases c2 : x < 0
    · rw [decide_eq_true c2, if_pos rfl, if_pos c2]
      rfl
    · rw [decide_eq_false c2, if_neg (by simp), if_neg c2, show x.natAbs = x.toNat by omega]
      rfl
theorem impl_num (x : Int) (h0 : -9223372036854775808 ≤ x) (h1 : x ≤ 9223372036854775807) : strconv_Itoa.f x = some (itoaS x) := ifp h0 (ifp h1 rfl)
def In64 (x : Int) : Prop := -9223372036854775808 ≤ x ∧ x ≤ 9223372036854775807
def OkB (s : S49) : Prop := In64 s.f0 ∧ In64 s.f1 ∧ In64 s.f2 ∧ In64 s.f3
def slotB (s : S49) : List UInt8 := Go.Lib.itoa s.f0 ++ [64] ++ Go.Lib.itoa s.f1 ++ [58] ++ Go.Lib.itoa s.f2 ++ [45] ++ Go.Lib.itoa s.f3
def restB (l : List S49) : List UInt8 := (l.map fun s => (32 :: slotB s)).flatten
def textB (l : List S49) : List UInt8 := match l with | [] => [] | x :: r => slotB x ++ restB r
theorem it_tx (x : Int) : itoaS x = tx (Go.Lib.itoa x) := rfl
theorem b64_ : (⟨#[64]⟩ : ByteArray) = tx [64] := rfl
theorem b58_ : (⟨#[58]⟩ : ByteArray) = tx [58] := rfl
theorem b45_ : (⟨#[45]⟩ : ByteArray) = tx [45] := rfl
theorem b32_ : (⟨#[32]⟩ : ByteArray) = tx [32] := rfl
theorem itoa_len (x : Int) (h : In64 x) : (Go.Lib.itoa x).length ≤ 21 := by have := Go.Lib.itoa_length_le x h.1 h.2; omega
theorem slotB_len (s : S49) (h : OkB s) : (slotB s).length ≤ 87 := by
  obtain ⟨a, b, c, d⟩ := h
  have := itoa_len _ a; have := itoa_len _ b; have := itoa_len _ c; have := itoa_len _ d
  simp only [slotB, List.length_append, List.length_cons, List.length_nil]
  omega
theorem restB_len : ∀ (l : List S49), (∀ x ∈ l, OkB x) → (restB l).length ≤ 88 * l.length
  | [], _ => by simp [restB]
  | x :: r, h => by
    have h1 := slotB_len x (h x (by simp))
    have h2 := restB_len r (fun y hy => h y (by simp [hy]))
    have e : restB (x :: r) = 32 :: slotB x ++ restB r := by simp [restB]
    rw [e]
    simp only [List.length_append, List.length_cons]
    omega
theorem textB_len (l : List S49) (h : ∀ x ∈ l, OkB x) : (textB l).length ≤ 88 * l.length := by
  cases l with
  | nil => simp [textB]
  | cons x r =>
    have h1 := slotB_len x (h x (by simp))
    have h2 := restB_len r (fun y hy => h y (by simp [hy]))
    simp only [textB, List.length_append, List.length_cons]
    omega
theorem drop_at (l : List S49) (i : Nat) (h : i < l.length) : l.drop i = l.getD i z49 :: l.drop (i + 1) := by
  rw [List.drop_eq_getElem_cons h, List.getD_eq_getElem?_getD, List.getElem?_eq_getElem h]
  rfl
theorem spec_slot (k : Nat) (l : List S49) (i : Nat) (s : List UInt8) (hi : i < l.length) (ho : OkB (l.getD i z49)) (hk : 100 ≤ k) (hs : s.length ≤ 1000000000) (hl : l.length ≤ 1048576) :
    spec_SlotsText.j1 (k + 1) l (tx s) (i : Int) = spec_SlotsText.l0 k l (tx (s ++ slotB (l.getD i z49))) ((i + 1 : Nat) : Int) := by
  simp only [spec_SlotsText.j1, rd_T49, Int.toNat_natCast]
  generalize l.getD i z49 = x at ho ⊢
  obtain ⟨a, b, c, d⟩ := ho
  have l0 := itoa_len _ a; have l1 := itoa_len _ b; have l2 := itoa_len _ c; have l3 := itoa_len _ d
  obtain ⟨a0, a1⟩ := a; obtain ⟨b0, b1⟩ := b; obtain ⟨c0, c1⟩ := c; obtain ⟨d0, d1⟩ := d
  refine ifp (by omega) (ifp (by omega) ?_)
  repeat (first | refine ifp (by (try simp only [List.length_append, List.length_cons, List.length_nil]); omega) ?_ | (refine st (spec_num k _ (by assumption) (by assumption) hk) ?_; simp only [it_tx, b64_, b58_, b45_, tx_append, tx_size]))
  rw [w64_succ i (by omega)]
  simp only [slotB, List.append_assoc]
theorem spec_slots_l0 (l : List S49) (hl : l.length ≤ 1048576) (ho : ∀ x ∈ l, OkB x) : ∀ (d k i : Nat) (s : List UInt8), i + d = l.length → 2 * d + 200 < k → 1 ≤ i → s.length ≤ 100 * i →
    spec_SlotsText.l0 k l (tx s) (i : Int) = some (tx (s ++ restB (l.drop i))) := by
  intro d
  induction d with
  | zero =>
    intro k i s hi hk h1 hs
    obtain ⟨k, rfl⟩ : ∃ m, k = m + 1 := ⟨k - 1, by omega⟩
    rw [spec_SlotsText.l0, List.drop_eq_nil_of_le (by omega)]
    refine ifn (by omega) ?_
    simp [restB]
  | succ d ih =>
    intro k i s hi hk h1 hs
    obtain ⟨k, rfl⟩ : ∃ m, k = m + 2 := ⟨k - 2, by omega⟩
    have hx := ho _ (mem_getD l z49 i (by omega))
    have h2 := slotB_len _ hx
    rw [spec_SlotsText.l0]
    refine ifp (by omega) (ifp (by omega) (ifp (by rw [tx_size]; omega) ?_))
    rw [b32_, tx_append, spec_slot k l i (s ++ [32]) (by omega) hx (by omega) (by simp only [List.length_append, List.length_cons, List.length_nil]; omega) hl,
      ih k (i + 1) _ (by omega) (by omega) (by omega) (by simp only [List.length_append, List.length_cons, List.length_nil]; omega), drop_at l i (by omega)]
    simp [restB]
theorem spec_slots (k : Nat) (l : List S49) (hl : l.length ≤ 1048576) (ho : ∀ x ∈ l, OkB x) (hk : 3000000 ≤ k) : spec_SlotsText.f k l = some (tx (textB l)) := by
  unfold spec_SlotsText.f
  obtain ⟨k, rfl⟩ : ∃ m, k = m + 2 := ⟨k - 2, by omega⟩
  rw [spec_SlotsText.l0]
  cases l with
  | nil => exact ifn (by simp) rfl
  | cons x r =>
    refine ifp (by simp only [List.length_cons]; omega) (ifn (by omega) ?_)
    have hx := ho x (by simp)
    have h2 := slotB_len _ hx
    have e1 := spec_slot k (x :: r) 0 [] (by simp) hx (by omega) (by simp) hl
    have e2 := spec_slots_l0 (x :: r) hl ho r.length k 1 (slotB x) (by simp only [List.length_cons]; omega) (by simp only [List.length_cons] at hl; omega) (by omega) (by omega)
    exact e1.trans (e2.trans rfl)
theorem impl_slots_l0 (l : List S49) (hl : l.length ≤ 1048576) (ho : ∀ x ∈ l, OkB x) : ∀ (d k i : Nat) (y : List ByteArray), i + d = l.length → d + 100 < k → y.length = i →
    impl_SlotsText.l0 k y l (l.length : Int) (i : Int) = (strings_Join.f (y ++ (l.drop i).map fun s => tx (slotB s)) (⟨#[32]⟩ : ByteArray)).bind fun t => some t := by
  intro d
  induction d with
  | zero =>
    intro k i y hi hk hy
    obtain ⟨k, rfl⟩ : ∃ m, k = m + 1 := ⟨k - 1, by omega⟩
    rw [impl_SlotsText.l0, List.drop_eq_nil_of_le (by omega)]
    refine ifn (by omega) ?_
    simp
  | succ d ih =>
    intro k i y hi hk hy
    obtain ⟨k, rfl⟩ : ∃ m, k = m + 1 := ⟨k - 1, by omega⟩
    have hx := ho _ (mem_getD l z49 i (by omega))
    rw [drop_at l i (by omega)]
    simp only [impl_SlotsText.l0, rd_T49, Int.toNat_natCast]
    have e : y ++ (l.getD i z49 :: l.drop (i + 1)).map (fun s => tx (slotB s)) = (y ++ [tx (slotB (l.getD i z49))]) ++ (l.drop (i + 1)).map (fun s => tx (slotB s)) := by simp
    rw [e]
    generalize l.getD i z49 = x at hx ⊢
    obtain ⟨a, b, c, d'⟩ := hx
    have l0 := itoa_len _ a; have l1 := itoa_len _ b; have l2 := itoa_len _ c; have l3 := itoa_len _ d'
    obtain ⟨a0, a1⟩ := a; obtain ⟨b0, b1⟩ := b; obtain ⟨c0, c1⟩ := c; obtain ⟨d0, d1⟩ := d'
    refine ifp (by omega) (ifp (by omega) (ifp (by omega) ?_))
    repeat (first | refine ifp (by (try simp only [List.length_append, List.length_cons, List.length_nil]); omega) ?_ | (refine st (impl_num _ (by assumption) (by assumption)) ?_; simp only [it_tx, b64_, b58_, b45_, tx_append, tx_size]))
    rw [w64_succ i (by omega)]
    refine (ih k (i + 1) _ (by omega) (by omega) (by simp [hy])).trans ?_
    simp only [slotB, List.append_assoc]
theorem join_text (l : List S49) : joinS (l.map fun s => tx (slotB s)) (⟨#[32]⟩ : ByteArray) = tx (textB l) := by
  cases l with
  | nil => rfl
  | cons x r =>
    unfold joinS textB
    simp only [List.map_cons, Go.Lib.join_cons, Go.Lib.joinTail, List.map_map, restB, tx]
    rfl
theorem impl_slots (k : Nat) (l : List S49) (hl : l.length ≤ 1048576) (ho : ∀ x ∈ l, OkB x) (hk : 3000000 ≤ k) : impl_SlotsText.f k l = some (tx (textB l)) := by
  unfold impl_SlotsText.f
  have h := impl_slots_l0 l hl ho l.length k 0 [] (by omega) (by omega) rfl
  refine h.trans ?_
  have hb := textB_len l ho
  rw [List.drop_zero, List.nil_append]
  unfold strings_Join.f
  rw [join_text, if_pos (by rw [List.length_map]; omega), if_pos (by rw [tx_size]; omega)]
  rfl

theorem alt_l0 (x0 : List Int) : ∀ (d k i : Nat) (acc : List Int), i + d = 3000 → d < k → acc.length ≤ i + 1 → ∃ r, laws_alt.l0 k x0 acc (i : Int) = some r ∧ r.length ≤ 3001 := by
  intro d
  induction d with
  | zero =>
    intro k i acc hi hk ha
    obtain ⟨k, rfl⟩ : ∃ m, k = m + 1 := ⟨k - 1, by omega⟩
    rw [laws_alt.l0]
    by_cases c : (i : Int) < (x0.length : Int)
    · exact ⟨acc, ifp c (ifn (by omega) rfl), by omega⟩
    · exact ⟨acc, ifn c rfl, by omega⟩
  | succ d ih =>
    intro k i acc hi hk ha
    obtain ⟨k, rfl⟩ : ∃ m, k = m + 1 := ⟨k - 1, by omega⟩
    rw [laws_alt.l0, w64_succ i (by omega)]
    by_cases c : (i : Int) < (x0.length : Int)
    · obtain ⟨r, g1, g2⟩ := ih k (i + 1) (acc ++ [rd x0 (i : Int)]) (by omega) (by omega) (by simp; omega)
      exact ⟨r, ifp c (ifp (by omega) (ifp (by omega) (ifp (by omega) g1))), g2⟩
    · exact ⟨acc, ifn c rfl, by omega⟩
theorem alt_ (k : Nat) (x0 : List Int) (a : Int) (hk : 4000 ≤ k) : ∃ r, laws_alt.f k x0 a = some r ∧ r.length ≤ 3001 := by
  unfold laws_alt.f
  exact alt_l0 x0 3000 k 0 _ (by omega) (by omega) (by simp)
theorem dlist (k : Nat) (l : List Int) (hl : l.length ≤ 1048576) (hk : 5000 ≤ k) : ∃ jobs w, spec_DrawListPlan.f k l = some (jobs, w) ∧ jobs.length ≤ 41 := by
  obtain ⟨h, e⟩ := new_ k l (by omega)
  obtain ⟨jobs, i1, h1, e1, j1, j2, g1⟩ := djobs k l hl 0 h l hl (by omega) (by omega)
  obtain ⟨w, i2, h2, e2, w0, w1, g2⟩ := dworkers l hl i1 h1 g1
  refine ⟨jobs, w, ?_, j1⟩
  unfold spec_DrawListPlan.f
  exact st e (st e1 (st e2 rfl))
theorem dbest_l1 (l : List Int) (hl : l.length ≤ 1048576) : ∀ (d k : Nat) (acc : List Int) (i h : Int), acc.length + d = 9 → d < k → 0 ≤ i → ∃ few n, spec_DrawBestSpan.l1 k acc l i h = some (few, n) ∧ few.length ≤ 9 := by
  intro d
  induction d with
  | zero =>
    intro k acc i h ha hk h0
    obtain ⟨k, rfl⟩ : ∃ m, k = m + 1 := ⟨k - 1, by omega⟩
    obtain ⟨x, i1, h1, e1, x0, x1, g1⟩ := below_ l i h 2 h0 hl
    obtain ⟨y, i2, h2, e2, _, _⟩ := pick_ l i1 h1 [1, 2, 3, 3, 4, 0] (by simp) g1 hl
    have hw : wrap64 (8 + x) = 8 + x := w64 (by omega) (by omega)
    rw [spec_DrawBestSpan.l1]
    exact ⟨acc, y, st e1 (ifn (by dsimp only; rw [hw]; omega) (st e2 rfl)), by omega⟩
  | succ d ih =>
    intro k acc i h ha hk h0
    obtain ⟨k, rfl⟩ : ∃ m, k = m + 1 := ⟨k - 1, by omega⟩
    obtain ⟨x, i1, h1, e1, x0, x1, g1⟩ := below_ l i h 2 h0 hl
    have hw : wrap64 (8 + x) = 8 + x := w64 (by omega) (by omega)
    rw [spec_DrawBestSpan.l1]
    by_cases c : (acc.length : Int) < 8 + x
    · obtain ⟨few, n, g2, g3⟩ := ih k (acc ++ [1]) i1 h1 (by simp; omega) (by omega) g1
      exact ⟨few, n, st e1 (ifp (by dsimp only; rw [hw]; exact c) (ifp (by omega) g2)), g3⟩
    · obtain ⟨y, i2, h2, e2, _, _⟩ := pick_ l i1 h1 [1, 2, 3, 3, 4, 0] (by simp) g1 hl
      exact ⟨acc, y, st e1 (ifn (by dsimp only; rw [hw]; exact c) (st e2 rfl)), by omega⟩
theorem dbest_l0 (l : List Int) (hl : l.length ≤ 1048576) : ∀ (d k : Nat) (acc : List Int) (i h : Int), acc.length + d ≤ 8 → d + 50 < k → 0 ≤ i → ∃ few n, spec_DrawBestSpan.l0 k acc (d : Int) l i h = some (few, n) ∧ few.length ≤ 9 := by
  intro d
  induction d with
  | zero =>
    intro k acc i h ha hk h0
    obtain ⟨k, rfl⟩ : ∃ m, k = m + 1 := ⟨k - 1, by omega⟩
    obtain ⟨b, i1, h1, e1, g1⟩ := once_ l i h 12 h0 hl
    rw [spec_DrawBestSpan.l0]
    cases b with
    | true =>
      obtain ⟨few, n, g2, g3⟩ := dbest_l1 l hl (9 - acc.length) k acc i1 h1 (by omega) (by omega) g1
      exact ⟨few, n, ifn (by omega) (st e1 (ifp rfl g2)), g3⟩
    | false =>
      obtain ⟨y, i2, h2, e2, _, _⟩ := pick_ l i1 h1 [1, 2, 3, 3, 4, 0] (by simp) g1 hl
      exact ⟨acc, y, ifn (by omega) (st e1 (ifn (by simp) (st e2 rfl))), by omega⟩
  | succ d ih =>
    intro k acc i h ha hk h0
    obtain ⟨k, rfl⟩ : ∃ m, k = m + 1 := ⟨k - 1, by omega⟩
    obtain ⟨x, i1, h1, e1, x0, x1, g1⟩ := below_ l i h 20 h0 hl
    obtain ⟨few, n, g2, g3⟩ := ih k (acc ++ [wrap64 (1 + x)]) i1 h1 (by simp; omega) (by omega) g1
    rw [spec_DrawBestSpan.l0, w64 (x := ((d + 1 : Nat) : Int) - 1) (by omega) (by omega)]
    have e : ((d + 1 : Nat) : Int) - 1 = (d : Int) := by omega
    rw [e]
    exact ⟨few, n, ifp (by omega) (st e1 (ifp (by omega) g2)), g3⟩
theorem dbest (k : Nat) (l : List Int) (hl : l.length ≤ 1048576) (hk : 5000 ≤ k) : ∃ few n, spec_DrawBestSpan.f k l = some (few, n) ∧ few.length ≤ 9 := by
  obtain ⟨h, e⟩ := new_ k l (by omega)
  obtain ⟨x, i1, h1, e1, x0, x1, g1⟩ := below_ l 0 h 8 (by omega) hl
  obtain ⟨n, rfl⟩ := Int.eq_ofNat_of_zero_le x0
  obtain ⟨few, m, g2, g3⟩ := dbest_l0 l hl n k [] i1 h1 (by simp; omega) (by omega) g1
  refine ⟨few, m, ?_, g3⟩
  unfold spec_DrawBestSpan.f
  exact st e (st e1 g2)
theorem grow_le (S : Int) : ∀ (l : List Int) (a : Int), a ≤ S → (∀ x ∈ l, x ≤ S) → grow l a ≤ S
  | [], a, h, _ => h
  | x :: r, a, h, hx => by
    rw [grow_cons]
    have := hx x List.mem_cons_self
    exact grow_le S r _ (by omega) (fun y hy => hx y (List.mem_cons_of_mem _ hy))
theorem div_le (T w S : Int) (h0 : 0 ≤ T) (hw1 : 1 ≤ w) (hw : w ≤ 6) (h : T ≤ w * S) : (T + w - 1) / w ≤ S := by
  obtain rfl | rfl | rfl | rfl | rfl | rfl : w = 1 ∨ w = 2 ∨ w = 3 ∨ w = 4 ∨ w = 5 ∨ w = 6 := by omega
  all_goals omega
theorem lowb_le (jobs : List Int) (w S : Int) (hj : jOk jobs = true) (hw1 : 1 ≤ w) (hw : w ≤ 6) (h1 : Gr.tots jobs ≤ w * S) (h2 : ∀ x ∈ jobs, x ≤ S) : lowb jobs w ≤ S := by
  unfold lowb
  rw [if_pos ⟨hj, hw1, hw⟩]
  have hb := (total_bd jobs (by simp only [jOk, Bool.and_eq_true] at hj; exact hj.2)).1
  rw [total_tots] at hb ⊢
  exact grow_le S jobs _ (div_le _ w S hb hw1 hw h1) h2
theorem upTo_perm (jobs : List Int) : ((upTo 0 jobs.length).map (rd jobs)).Perm jobs := by
  rw [upTo_map jobs jobs.length 0 (by omega), List.drop_zero]
theorem ordL_permJ (jobs : List Int) : ((ordL jobs jobs.length).map (rd jobs)).Perm jobs := ((ordL_permG jobs jobs.length).map (rd jobs)).trans (upTo_perm jobs)
theorem upTo_rng (jobs : List Int) : ∀ x ∈ upTo 0 jobs.length, 0 ≤ x ∧ x < (jobs.length : Int) := fun x hx => by
  have := upTo_mem jobs.length 0 x hx
  omega
theorem isPl_jOk {jobs : List Int} {w : Int} (h : isPl jobs w = true) : jOk jobs = true := by
  unfold isPl at h
  simp only [Bool.and_eq_true] at h
  exact h.1
theorem planned_j2 (k : Nat) (hk : 4000000 ≤ k) (code : List Int) : laws_FnPlanned.j2 k code false = some true := by
  obtain ⟨k, rfl⟩ : ∃ m, k = m + 1 := ⟨k - 1, by omega⟩
  obtain ⟨r, e1, r1⟩ := alt_ k code 1 (by omega)
  obtain ⟨few, n, e2, f1⟩ := dbest k r (by omega) (by omega)
  have e3 := impl_best_ k few n (by omega) (by omega)
  have e4 := spec_best k few n (by omega) (by omega)
  rw [laws_FnPlanned.j2]
  refine ifn (by simp) (st e1 (st e2 (st e3 (st e4 (ifp rfl ?_)))))
  by_cases c : jOk few = true ∧ few.length ≤ 8 ∧ 1 ≤ n ∧ n ≤ 3
  · have hb : bestOf few n = bestV few (List.replicate n.toNat 0) := by unfold bestOf; exact if_pos c
    obtain ⟨c1, c2, c3, c4⟩ := c
    have hpl : isPl few n = true := by unfold isPl; rw [c1, decide_eq_true (by omega : 1 ≤ n ∧ n ≤ 6)]; rfl
    have e5 := impl_listpl k few n (by omega) (by omega)
    have e6 := impl_longpl k few n (by omega) (by omega)
    rw [if_pos hpl] at e5 e6
    obtain ⟨hl40, hj, _, _⟩ := isPl_iff hpl
    obtain ⟨m, rfl⟩ := Int.eq_ofNat_of_zero_le (show 0 ≤ n by omega)
    rw [Int.toNat_natCast] at hb
    obtain ⟨a1, a2, a3, a4⟩ := plan_best few m (by omega) (by omega) hj hl40 (upTo 0 few.length) (upTo_perm few) (upTo_rng few)
    obtain ⟨b1, b2, b3, b4⟩ := plan_best few m (by omega) (by omega) hj hl40 (ordL few few.length) (ordL_permJ few) (ordL_mem few few.length)
    have b5 := long_43 few m (by omega) (by omega) hj hl40 (ordL few few.length) (ordL_permJ few) (ordL_mem few few.length) (ordL_costs few few.length)
    obtain ⟨d1, d2, d3⟩ := best_low few m (by omega) hj
    have dl := lowb_le few (m : Int) (bestV few (List.replicate m 0)) c1 (by omega) (by omega) d1 d2
    have hr := rd_mem hj (ordL_mem few few.length)
    have hgr : (m : Int) * span (longPl few (m : Int)) ≤ 60000 ∧ 0 ≤ span (longPl few (m : Int)) := by
      have ep : longPl few (m : Int) = planL few m (ordL few few.length) (List.replicate m 0) := by unfold longPl; rw [Int.toNat_natCast]
      rw [ep]
      refine ⟨?_, b4⟩
      by_cases hn : ordL few few.length = []
      · rw [hn]
        show (m : Int) * 0 ≤ _
        omega
      · have h1 := span_graham few m (by omega) (by omega) 1000 (by omega) (ordL few few.length) hr hn (by rw [ordL_len]; omega) (by omega)
        rw [costs_ordL] at h1
        have h2 := most_sum 1000 few (fun x hx => (hj x hx).2)
        omega
    have hsm : span (longPl few (m : Int)) ≤ 60000 := by
      obtain rfl | rfl | rfl : m = 1 ∨ m = 2 ∨ m = 3 := by omega
      all_goals omega
    have l1 : (listPl few (m : Int)).length ≤ 1048576 := by unfold listPl; rw [planL_len, upTo_len]; omega
    have l2 : (longPl few (m : Int)).length ≤ 1048576 := by unfold longPl; rw [planL_len, ordL_len]; omega
    have e7 := impl_span k (listPl few (m : Int)) l1 (by omega)
    have e8 := impl_span k (longPl few (m : Int)) l2 (by omega)
    have e9 := impl_lowb k few (m : Int) (by omega) (by omega)
    have p1 : listPl few (m : Int) = planL few m (upTo 0 few.length) (List.replicate m 0) := by unfold listPl; rw [Int.toNat_natCast]
    have p2 : longPl few (m : Int) = planL few m (ordL few few.length) (List.replicate m 0) := by unfold longPl; rw [Int.toNat_natCast]
    rw [← p1] at a1
    rw [← p2] at b1 b5
    rw [hb]
    have w1 : wrap64 (3 * span (longPl few (m : Int))) = 3 * span (longPl few (m : Int)) := w64 (by omega) (by omega)
    have w2 : wrap64 (4 * bestV few (List.replicate m 0)) = 4 * bestV few (List.replicate m 0) := w64 (by omega) (by omega)
    refine ifn (by omega) (st e5 (st e6 (ifp rfl (ifp rfl (st e7 (ifp a1 (st e8 (ifp b1 (st e8 (ifp (by rw [w1, w2]; exact b5) (st e9 ?_)))))))))))
    rw [decide_eq_true dl]
  · have hb : bestOf few n = -1 := by unfold bestOf; exact if_neg c
    rw [hb]
    exact ifp (by omega) rfl
theorem idle_good (k : Nat) (jobs : List Int) (w : Int) (l : List S49) (hj : ∀ x ∈ jobs, 1 ≤ x ∧ x ≤ 1000) (hjl : jobs.length ≤ 40) (hw1 : 1 ≤ w) (hw : w ≤ 6) (h : PlanGood jobs w l) (hk : 1048700 ≤ k) : impl_IdleOf.f k l w = some (wrap64 (wrap64 (w * span l) - Gr.tots jobs)) := by
  have hll := h.len
  have hc : ∀ s ∈ l, (0 ≤ s.f1 ∧ s.f1 ≤ w - 1) ∧ 0 ≤ s.f3 - s.f2 ∧ s.f3 - s.f2 ≤ 1001 := fun s hs => by
    obtain ⟨g1, g2, g3, g4⟩ := h.rng s hs
    have := hj (rd jobs s.f0) (mem_getD jobs 0 _ (by omega))
    exact ⟨g2, by omega, by omega⟩
  obtain ⟨n, rfl⟩ := Int.eq_ofNat_of_zero_le (show 0 ≤ w by omega)
  obtain ⟨r, e1, e2, e3, e4⟩ := loads_sum jobs l (n : Int) hw1 hw (by omega) hc l.length k 0 (List.replicate n 0) (by omega) (by omega) (by simp) (fun x hx => by
    have := (List.mem_replicate.1 hx).2; omega)
  rw [List.drop_zero, costs_sum h, sumI_tots, sumI_tots, sumI_tots, tots_rep] at e4
  have hd : decide (1 ≤ (n : Int) ∧ (n : Int) ≤ 6) = true := decide_eq_true ⟨hw1, hw⟩
  have e5 : impl_LoadsOf.f k l (n : Int) = some r := by
    unfold impl_LoadsOf.f
    exact st (impl_in_ _ _ _) (ifp hd (ifp (by omega) (ifp (by rw [Int.toNat_natCast]; omega) e1)))
  unfold impl_IdleOf.f
  have e6 := impl_sumB k r (by omega) (by omega)
  rw [wsumB_eq r 0 100000 e3 (by omega) (by omega) (by omega) (by omega) (by omega)] at e6
  refine st (impl_in_ _ _ _) (ifp hd (st (impl_span k l (by omega) (by omega)) (st e5 (st e6 ?_))))
  rw [show (0 : Int) + Gr.tots r = Gr.tots jobs by omega]
theorem planned_l0 (code jobs : List Int) (w : Int) (hpl : isPl jobs w = true) : ∀ (d k i : Nat) (s m : Int), i + d = jobs.length → 5000000 + d ≤ k → s + Gr.tots (jobs.drop i) = Gr.tots jobs → 0 ≤ s → s ≤ 1000 * i → 0 ≤ m → m ≤ 1000 → (∀ q, q < i → jobs.getD q 0 ≤ m) →
    laws_FnPlanned.l0 k code jobs w (listPl jobs w) (longPl jobs w) s m (i : Int) = some true := by
  obtain ⟨hl40, hj, hw1, hw⟩ := isPl_iff hpl
  intro d
  induction d with
  | succ d ih =>
    intro k i s m hi hk hs s0 s1 m0 m1 hm
    obtain ⟨k, rfl⟩ : ∃ m, k = m + 1 := ⟨k - 1, by omega⟩
    have hx := hj _ (mem_getD jobs 0 i (by omega))
    rw [laws_FnPlanned.l0, rd_natD, w64_succ i (by omega), w64 (x := s + jobs.getD i 0) (by omega) (by omega)]
    rw [drop_getD jobs 0 i (by omega)] at hs
    have hs2 : s + jobs.getD i 0 + Gr.tots (jobs.drop (i + 1)) = Gr.tots jobs := by
      have e : Gr.tots (jobs.getD i 0 :: jobs.drop (i + 1)) = jobs.getD i 0 + Gr.tots (jobs.drop (i + 1)) := rfl
      omega
    refine ifp (by omega) (ifp (by omega) ?_)
    by_cases c : jobs.getD i 0 > m
    · refine ifp c (ih k (i + 1) _ _ (by omega) (by omega) hs2 (by omega) (by omega) (by omega) (by omega) (fun q hq => ?_))
      by_cases e : q = i
      · subst e; omega
      · have := hm q (by omega); omega
    · refine ifn c (ih k (i + 1) _ _ (by omega) (by omega) hs2 (by omega) (by omega) (by omega) (by omega) (fun q hq => ?_))
      by_cases e : q = i
      · subst e; omega
      · exact hm q (by omega)
  | zero =>
    intro k i s m hi hk hs s0 s1 m0 m1 hm
    obtain ⟨k, rfl⟩ : ∃ m, k = m + 1 := ⟨k - 1, by omega⟩
    obtain rfl : i = jobs.length := by omega
    rw [List.drop_length] at hs
    have hs' : s = Gr.tots jobs := by have e : Gr.tots [] = 0 := rfl; omega
    have hmx : ∀ x ∈ jobs, x ≤ m := fun x hx => by
      obtain ⟨q, hq, rfl⟩ := List.getElem_of_mem hx
      have := hm q hq
      simpa [hq] using this
    have hjok := isPl_jOk hpl
    have l1 : (listPl jobs w).length = jobs.length := by unfold listPl; rw [planL_len, upTo_len]
    have l2 : (longPl jobs w).length = jobs.length := by unfold longPl; rw [planL_len, ordL_len]
    have i1 : ∀ x ∈ listPl jobs w, I64 x := planL_i64 _ _ _ _
    have i2 : ∀ x ∈ longPl jobs w, I64 x := planL_i64 _ _ _ _
    have o1 : planOkV jobs w (listPl jobs w) = true := planL_ok jobs w hjok hw1 hw _ (upTo_nodup _ 0) (upTo_len _ 0) (upTo_rng jobs)
    have o2 : planOkV jobs w (longPl jobs w) = true := planL_ok jobs w hjok hw1 hw _ (ordL_nodup jobs _) (ordL_len jobs _) (ordL_mem jobs _)
    have hj64 : ∀ x ∈ jobs, -9223372036854775808 ≤ x ∧ x ≤ 9223372036854775807 := fun x hx => by have := hj x hx; omega
    obtain ⟨p1, p2⟩ := planok_v k jobs w (listPl jobs w) (by omega) hj64 i1 (by omega)
    obtain ⟨q1, q2⟩ := planok_v k jobs w (longPl jobs w) (by omega) hj64 i2 (by omega)
    rw [o1] at p1 p2
    rw [o2] at q1 q2
    have hgood : PlanGood jobs w (listPl jobs w) := by
      refine plan_good jobs w _ l1 hj i1 ?_
      unfold planOkV at o1
      simp only [Bool.and_eq_true] at o1
      exact o1.2.2.2
    have e3 := impl_span k (listPl jobs w) (by omega) (by omega)
    have e4 := impl_lowb k jobs w (by omega) (by omega)
    have e5 := idle_good k jobs w (listPl jobs w) hj hl40 hw1 hw hgood (by omega)
    obtain ⟨n, rfl⟩ := Int.eq_ofNat_of_zero_le (show 0 ≤ w by omega)
    obtain ⟨_, a2, a3, a4⟩ := plan_best jobs n (by omega) (by omega) hj hl40 (upTo 0 jobs.length) (upTo_perm jobs) (upTo_rng jobs)
    have ep : listPl jobs (n : Int) = planL jobs n (upTo 0 jobs.length) (List.replicate n 0) := by unfold listPl; rw [Int.toNat_natCast]
    have hg : (n : Int) * span (listPl jobs (n : Int)) ≤ Gr.tots jobs + ((n : Int) - 1) * m := by
      rw [ep]
      by_cases hn : upTo 0 jobs.length = []
      · have hj0 : jobs = [] := by have h := congrArg List.length hn; rw [upTo_len] at h; exact List.eq_nil_of_length_eq_zero h
        subst hj0
        have h := Int.mul_nonneg (show (0 : Int) ≤ (n : Int) - 1 by omega) m0
        show (n : Int) * 0 ≤ 0 + _
        omega
      · have h1 := span_graham jobs n (by omega) (by omega) m m1 (upTo 0 jobs.length) (fun o ho => ⟨(rd_mem hj (upTo_rng jobs) o ho).1, by
          have := upTo_rng jobs o ho
          exact hmx _ (mem_getD jobs 0 _ (by omega))⟩) hn (by rw [upTo_len]; exact hl40) m0
        rw [costs_upTo] at h1
        exact h1
    rw [← ep] at a2 a3 a4
    have dl := lowb_le jobs (n : Int) _ hjok hw1 hw a2 a3
    have ht : 0 ≤ Gr.tots jobs ∧ Gr.tots jobs ≤ 40000 := by omega
    have hnm : 0 ≤ ((n : Int) - 1) * m ∧ ((n : Int) - 1) * m ≤ 5000 := by
      refine ⟨Int.mul_nonneg (by omega) m0, ?_⟩
      obtain h | h | h | h | h | h : n = 1 ∨ n = 2 ∨ n = 3 ∨ n = 4 ∨ n = 5 ∨ n = 6 := by omega
      all_goals (subst h; omega)
    have hns : 0 ≤ (n : Int) * span (listPl jobs (n : Int)) := Int.mul_nonneg (by omega) a4
    have w1 : wrap64 ((n : Int) - 1) = (n : Int) - 1 := w64 (by omega) (by omega)
    have w2 : wrap64 (((n : Int) - 1) * m) = ((n : Int) - 1) * m := w64 (by omega) (by omega)
    have mc : span (listPl jobs (n : Int)) * (n : Int) = (n : Int) * span (listPl jobs (n : Int)) := Int.mul_comm _ _
    have w3 : wrap64 ((n : Int) * span (listPl jobs (n : Int))) = (n : Int) * span (listPl jobs (n : Int)) := w64 (by omega) (by omega)
    have w4 : wrap64 (s + ((n : Int) - 1) * m) = s + ((n : Int) - 1) * m := w64 (by omega) (by omega)
    rw [w3] at e5
    rw [laws_FnPlanned.l0]
    refine ifn (by omega) (st e3 (st p2 (ifp rfl (st q2 (ifp rfl (st p1 (ifp rfl (st q1 (ifp rfl ?_)))))))))
    rw [mc, w1, w2, w3, w4]
    refine ifn (by omega) (st e4 (ifn (by omega) (st e5 ?_)))
    have e6 : (wrap64 ((n : Int) * span (listPl jobs (n : Int)) - Gr.tots jobs) != wrap64 ((n : Int) * span (listPl jobs (n : Int)) - s)) = false := by rw [hs']; simp
    rw [e6]
    exact planned_j2 k (by omega) code
theorem planned_j0 (code jobs : List Int) (w : Int) (hpl : isPl jobs w = true) (k : Nat) (hk : 6000000 ≤ k) : laws_FnPlanned.j0 k code jobs w true (listPl jobs w) (longPl jobs w) false = some true := by
  obtain ⟨k, rfl⟩ : ∃ m, k = m + 1 := ⟨k - 1, by omega⟩
  obtain ⟨hl40, _⟩ := isPl_iff hpl
  rw [laws_FnPlanned.j0]
  exact ifn (by simp) (ifp rfl (planned_l0 code jobs w hpl jobs.length k 0 0 0 (by omega) (by omega) (by rw [List.drop_zero]; omega) (by omega) (by omega) (by omega) (by omega) (fun q hq => by omega)))
theorem planned_no (code jobs : List Int) (w : Int) (hm : jobs.length ≤ 1000) (hpl : ¬ isPl jobs w = true) (p q : List S49) (k : Nat) (hk : 6000000 ≤ k) : laws_FnPlanned.j0 k code jobs w false p q false = some true := by
  obtain ⟨k, rfl⟩ : ∃ m, k = m + 1 := ⟨k - 1, by omega⟩
  have e := impl_lowb k jobs w (by omega) (by omega)
  have hv : lowb jobs w = -1 := by
    unfold lowb
    refine if_neg (fun h => hpl ?_)
    unfold isPl
    rw [h.1, decide_eq_true h.2]
    rfl
  rw [hv] at e
  rw [laws_FnPlanned.j0]
  exact ifn (by simp) (ifn (by simp) (st e rfl))
theorem listPl_b (jobs : List Int) (w : Int) (h : isPl jobs w = true) : ∀ s ∈ listPl jobs w, OkB s := by
  obtain ⟨hl40, hj, hw1, hw⟩ := isPl_iff h
  intro s hs
  obtain ⟨n, rfl⟩ := Int.eq_ofNat_of_zero_le (show 0 ≤ w by omega)
  unfold listPl at hs
  rw [Int.toNat_natCast] at hs
  obtain ⟨g1, ⟨q, g2, g3, _⟩, g5, g6⟩ := planL_each jobs n (by omega) (by omega) (upTo 0 jobs.length) (List.replicate n 0) 0 (rd_mem hj (upTo_rng jobs)) (by simp) (fun q _ => by rw [rep0]; omega) (by rw [upTo_len]; omega) s hs
  have g7 := upTo_rng jobs _ g1
  have g8 := rd_mem hj (upTo_rng jobs) _ g1
  exact ⟨⟨by omega, by omega⟩, ⟨by omega, by omega⟩, ⟨by omega, by omega⟩, ⟨by omega, by omega⟩⟩


theorem FnPlanned : laws_FnPlanned.Pure := by
  intro l hl
  obtain ⟨k, hk⟩ : ∃ k : Nat, 1000000000 ≤ k := ⟨_, Nat.le_refl _⟩
  refine ⟨k, ?_⟩
  unfold laws_FnPlanned.f laws_big.f
  simp only [Option.bind_some]
  by_cases hb : (l.length : Int) > 1048576
  · rw [decide_eq_true hb]; exact ifp rfl rfl
  rw [decide_eq_false hb]
  refine ifn (by simp) ?_
  obtain ⟨jobs, w, e1, j1⟩ := dlist k l (by omega) (by omega)
  have s1 := spec_listpl k jobs w (by omega) (by omega)
  have i1 := impl_listpl k jobs w (by omega) (by omega)
  have i2 := impl_longpl k jobs w (by omega) (by omega)
  refine st e1 (st s1 (st i1 (st i2 ?_)))
  by_cases c : isPl jobs w = true
  · rw [if_pos c, if_pos c]
    have hp1 : (listPl jobs w).length ≤ 1048576 := by unfold listPl; rw [planL_len, upTo_len]; omega
    have hB := listPl_b jobs w c
    refine ifn (by simp) (ifn (by simp) (st (impl_slots k (listPl jobs w) hp1 hB (by omega)) (st (spec_slots k (listPl jobs w) hp1 hB (by omega)) ?_)))
    rw [bne_self_eq_false]
    exact planned_j0 l jobs w c k (by omega)
  · rw [if_neg c, if_neg c]
    refine ifn (by simp) (ifn (by simp) (st (impl_slots k [] (by simp) (by simp) (by omega)) (st (spec_slots k [] (by simp) (by simp) (by omega)) ?_)))
    rw [bne_self_eq_false]
    exact planned_no l jobs w (by omega) c _ _ k (by omega)

end Go.Proofs.YtdniejjhkkepcaaDoor.Pure
