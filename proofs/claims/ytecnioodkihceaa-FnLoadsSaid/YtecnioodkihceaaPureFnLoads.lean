/- What is left of the statement FnLoads once the Go functions are Lean functions: the program's  and the reference's answer alike. No condition. -/
import Derived.Test.YtecnioodkihceaaQFnLoadsx11
import Derived.Test.YtecnioodkihceaaAid
set_option linter.unusedVariables false
set_option linter.unusedSimpArgs false
namespace Go.Proofs.Ytecnioodkihceaa.Pure
open Go.RowKit Go.Proofs.Ytecnioodkihceaa.QFnLoads Go.Proofs.YtecnioodkihceaaW.PrintWords Go.Proofs.YtecnioodkihceaaW.PrintLast Go.Proofs.YtecnioodkihceaaW.PrintMore Go.Proofs.YtecnioodkihceaaW.Aid


theorem spec_in (x lo hi : Int) : spec_l01In.f x lo hi = some (decide (lo ≤ x ∧ x ≤ hi)) := by
  unfold spec_l01In.f
  split
  · simp_all
  · simp; omega
theorem impl_in_ (x lo hi : Int) : impl_in.f x lo hi = some (decide (lo ≤ x ∧ x ≤ hi)) := by
  unfold impl_in.f
  split
  · simp_all
  · simp; omega

def LB {α : Type} (P : α → Prop) (l : List α) : Prop := l.length ≤ 1048576 ∧ ∀ x ∈ l, P x
theorem LB.map {α β : Type} {P : α → Prop} {Q : β → Prop} {f : α → β} {l : List α} (hf : ∀ x, P x → Q (f x)) (h : LB P l) : LB Q (l.map f) := ⟨by simpa using h.1, fun y hy => by obtain ⟨x, hx, rfl⟩ := List.mem_map.1 hy; exact hf x (h.2 x hx)⟩
def isJ (x : Int) : Bool := decide (1 ≤ x ∧ x ≤ 1000)
def jOk (l : List Int) : Bool := decide (l.length ≤ 40) && l.all isJ
theorem all_dropJ (l : List Int) (i : Nat) (h : i < l.length) : (l.drop i).all isJ = (isJ (l.getD i 0) && (l.drop (i + 1)).all isJ) := by
  rw [drop_getD l 0 i h]; rfl
theorem spec_jOk_l0 (l : List Int) (hm : l.length ≤ 1048576) : ∀ (d k i : Nat), i + d = l.length → d < k → spec_JobsOk.l0 k l (i : Int) = some ((l.drop i).all isJ) := by
  intro d
  induction d with
  | zero =>
    intro k i hi hk
    obtain ⟨k, rfl⟩ : ∃ m, k = m + 1 := ⟨k - 1, by omega⟩
    simp only [spec_JobsOk.l0]
    rw [if_neg (by omega), List.drop_of_length_le (by omega)]
    rfl
  | succ d ih =>
    intro k i hi hk
    obtain ⟨k, rfl⟩ : ∃ m, k = m + 1 := ⟨k - 1, by omega⟩
    simp only [spec_JobsOk.l0]
    rw [if_pos (by omega), if_pos (by omega), all_dropJ l i (by omega), w64_succ i (by omega), ih k (i + 1) (by omega) (by omega), spec_in, rd_natD]
    simp only [Option.bind_some]
    cases h : isJ (l.getD i 0) with
    | false => rw [if_neg (by simpa [isJ] using h)]; rfl
    | true => rw [if_pos (by simpa [isJ] using h)]; rfl
theorem spec_jOk (k : Nat) (l : List Int) (hm : l.length ≤ 1048576) (hk : l.length < k) : spec_JobsOk.f k l = some (jOk l) := by
  unfold spec_JobsOk.f jOk
  by_cases h : (l.length : Int) > 40
  · rw [if_pos h]
    have : ¬ l.length ≤ 40 := by omega
    simp [this]
  · rw [if_neg h]
    have h' : l.length ≤ 40 := by omega
    have := spec_jOk_l0 l hm l.length k 0 (by omega) hk
    simpa [h'] using this
theorem jidx_l0 (l : List Int) (hm : l.length ≤ 1048576) : ∀ (d k i : Nat), i + d = l.length → d < k →
    ∃ r, slices_IndexFunc_int_int_at_49.l0 k l (l.length : Int) (i : Int) = some r ∧ (0 ≤ r ↔ (l.drop i).all isJ = false) := by
  intro d
  induction d with
  | zero =>
    intro k i hi hk
    obtain ⟨k, rfl⟩ : ∃ m, k = m + 1 := ⟨k - 1, by omega⟩
    simp only [slices_IndexFunc_int_int_at_49.l0]
    rw [if_neg (by omega), List.drop_of_length_le (by omega)]
    exact ⟨-1, rfl, by simp⟩
  | succ d ih =>
    intro k i hi hk
    obtain ⟨k, rfl⟩ : ∃ m, k = m + 1 := ⟨k - 1, by omega⟩
    simp only [slices_IndexFunc_int_int_at_49.l0]
    rw [if_pos (by omega), if_pos (by omega), if_pos (by omega), all_dropJ l i (by omega)]
    unfold impl_JobsOk_1.f
    simp only [impl_in_, Option.bind_some, rd_natD]
    cases hr : isJ (l.getD i 0) with
    | false =>
      have : ¬ (1 ≤ l.getD i 0 ∧ l.getD i 0 ≤ 1000) := by simpa [isJ] using hr
      exact ⟨i, by simp only [this]; simp, by simp⟩
    | true =>
      have : (1 ≤ l.getD i 0 ∧ l.getD i 0 ≤ 1000) := by simpa [isJ] using hr
      obtain ⟨r, h1, h2⟩ := ih k (i + 1) (by omega) (by omega)
      refine ⟨r, ?_, by simpa using h2⟩
      rw [w64_succ i (by omega)]
      simp only [this, and_self]
      simpa using h1
theorem impl_jOk (k : Nat) (l : List Int) (hm : l.length ≤ 1048576) (hk : l.length < k) : impl_JobsOk.f k l = some (jOk l) := by
  obtain ⟨r, h1, h2⟩ := jidx_l0 l hm l.length k 0 (by omega) hk
  have h1' : slices_IndexFunc_int_int_at_49.f k l = some r := h1
  unfold impl_JobsOk.f slices_ContainsFunc_int_int_at_49.f jOk
  rw [h1']
  rw [List.drop_zero] at h2
  simp only [Option.bind_some]
  by_cases h : (l.length : Int) ≤ 40
  · rw [if_pos h]
    have h' : l.length ≤ 40 := by omega
    cases ha : l.all isJ with
    | false => rw [ha] at h2; have := h2.2 rfl; simp [this]
    | true => rw [ha] at h2; have : ¬ 0 ≤ r := fun z => absurd (h2.1 z) (by simp); simp [h']; omega
  · rw [if_neg h]
    have h' : ¬ l.length ≤ 40 := by omega
    simp [h']

def badS (s : S53) (a b c d : Int) : Bool := decide (s.f0 = a ∨ (s.f1 = b ∧ s.f2 < d ∧ c < s.f3))
def anyB (l : List S53) (a b c d : Int) : Nat → Nat → Bool
  | _, 0 => false
  | j, n + 1 => badS (l.getD j z53) a b c d || anyB l a b c d (j + 1) n
theorem spec_inn (jobs : List Int) (w : Int) (l : List S53) (i : Nat) (hi : i < l.length) (hm : l.length ≤ 40) (a b c d : Int) (K : Nat) : ∀ (n k j : Nat), j + n = i → K + 2 * n + 2 ≤ k →
    ∃ k', K ≤ k' ∧ spec_PlanOk.l1 k jobs w l (i : Int) (j : Int) a b c d = if anyB l a b c d j n = true then some false else spec_PlanOk.l0 k' jobs w l ((i + 1 : Nat) : Int) := by
  intro n
  induction n with
  | zero =>
    intro k j hj hk
    obtain ⟨k, rfl⟩ : ∃ m, k = m + 1 := ⟨k - 1, by omega⟩
    refine ⟨k, by omega, ?_⟩
    rw [spec_PlanOk.l1, w64_succ i (by omega)]
    exact ifn (by omega) rfl
  | succ n ih =>
    intro k j hj hk
    obtain ⟨k, rfl⟩ : ∃ m, k = m + 1 + 1 := ⟨k - 2, by omega⟩
    have tail : ∀ x : Bool, x = badS (l.getD j z53) a b c d → ∃ k', K ≤ k' ∧ spec_PlanOk.j4 (k + 1) jobs w l (i : Int) (j : Int) x a b c d = if anyB l a b c d j (n + 1) = true then some false else spec_PlanOk.l0 k' jobs w l ((i + 1 : Nat) : Int) := by
      intro x hx
      rw [spec_PlanOk.j4, w64_succ j (by omega)]
      by_cases q : x = true
      · exact ⟨K, Nat.le_refl _, by rw [if_pos q, if_pos (by simp only [anyB, ← hx, q, Bool.true_or])]⟩
      · obtain ⟨k', h1, h2⟩ := ih k (j + 1) (by omega) (by omega)
        refine ⟨k', h1, ?_⟩
        have qf : x = false := by simpa using q
        rw [if_neg q, h2]
        simp only [anyB, ← hx, qf, Bool.false_or]
    rw [spec_PlanOk.l1]
    simp only [rd_T53, Int.toNat_natCast]
    by_cases c1 : (l.getD j z53).f0 = a
    · obtain ⟨k', h1, h2⟩ := tail true (by rw [badS, decide_eq_true (Or.inl c1)])
      exact ⟨k', h1, ifp (by omega) (ifp (by omega) (ifp (by omega) (ifp c1 h2)))⟩
    · by_cases c2 : (l.getD j z53).f1 = b
      · by_cases c3 : (l.getD j z53).f2 < d
        · obtain ⟨k', h1, h2⟩ := tail (decide (c < (l.getD j z53).f3)) (decide_eq_decide.2 ⟨fun h => .inr ⟨c2, c3, h⟩, fun h => (h.resolve_left c1).2.2⟩)
          exact ⟨k', h1, ifp (by omega) (ifp (by omega) (ifp (by omega) (ifn c1 (ifp c2 (ifp c3 h2)))))⟩
        · obtain ⟨k', h1, h2⟩ := tail false (by rw [badS, decide_eq_false (fun h => c3 (h.resolve_left c1).2.1)])
          exact ⟨k', h1, ifp (by omega) (ifp (by omega) (ifp (by omega) (ifn c1 (ifp c2 (ifn c3 h2)))))⟩
      · obtain ⟨k', h1, h2⟩ := tail false (by rw [badS, decide_eq_false (fun h => c2 (h.resolve_left c1).1)])
        exact ⟨k', h1, ifp (by omega) (ifp (by omega) (ifp (by omega) (ifn c1 (ifn c2 h2))))⟩
theorem impl_inn (jobs : List Int) (w : Int) (l : List S53) (i : Nat) (hi : i < l.length) (hm : l.length ≤ 40) (a b c d : Int) (K : Nat) : ∀ (n k j : Nat), j + n = i → K + 2 * n + 2 ≤ k →
    ∃ k', K ≤ k' ∧ impl_PlanOk.l1 k jobs w l l (l.length : Int) (i : Int) (l.take i) ((l.take i).length : Int) (j : Int) a b c d = if anyB l a b c d j n = true then some false else impl_PlanOk.l0 k' jobs w l l (l.length : Int) ((i + 1 : Nat) : Int) := by
  have hlt : (l.take i).length = i := by rw [List.length_take]; omega
  intro n
  induction n with
  | zero =>
    intro k j hj hk
    obtain ⟨k, rfl⟩ : ∃ m, k = m + 1 := ⟨k - 1, by omega⟩
    refine ⟨k, by omega, ?_⟩
    rw [impl_PlanOk.l1, w64_succ i (by omega)]
    exact ifn (by omega) rfl
  | succ n ih =>
    intro k j hj hk
    obtain ⟨k, rfl⟩ : ∃ m, k = m + 1 + 1 := ⟨k - 2, by omega⟩
    have tail : ∀ x : Bool, x = badS (l.getD j z53) a b c d → ∃ k', K ≤ k' ∧ impl_PlanOk.j4 (k + 1) jobs w l l (l.length : Int) (i : Int) (l.take i) ((l.take i).length : Int) (j : Int) x a b c d = if anyB l a b c d j (n + 1) = true then some false else impl_PlanOk.l0 k' jobs w l l (l.length : Int) ((i + 1 : Nat) : Int) := by
      intro x hx
      rw [impl_PlanOk.j4, w64_succ j (by omega)]
      by_cases q : x = true
      · exact ⟨K, Nat.le_refl _, by rw [if_pos q, if_pos (by simp only [anyB, ← hx, q, Bool.true_or])]⟩
      · obtain ⟨k', h1, h2⟩ := ih k (j + 1) (by omega) (by omega)
        refine ⟨k', h1, ?_⟩
        have qf : x = false := by simpa using q
        rw [if_neg q, h2]
        simp only [anyB, ← hx, qf, Bool.false_or]
    have hg : (l.take i).getD j z53 = l.getD j z53 := by
      rw [List.getD_eq_getElem?_getD, List.getD_eq_getElem?_getD, List.getElem?_take, if_pos (by omega)]
    rw [impl_PlanOk.l1]
    simp only [rd_T53, Int.toNat_natCast, hg]
    by_cases c1 : (l.getD j z53).f0 = a
    · obtain ⟨k', h1, h2⟩ := tail true (by rw [badS, decide_eq_true (Or.inl c1)])
      exact ⟨k', h1, ifp (by omega) (ifp (by omega) (ifp (by omega) (ifp c1 h2)))⟩
    · by_cases c2 : (l.getD j z53).f1 = b
      · by_cases c3 : (l.getD j z53).f2 < d
        · obtain ⟨k', h1, h2⟩ := tail (decide (c < (l.getD j z53).f3)) (decide_eq_decide.2 ⟨fun h => .inr ⟨c2, c3, h⟩, fun h => (h.resolve_left c1).2.2⟩)
          exact ⟨k', h1, ifp (by omega) (ifp (by omega) (ifp (by omega) (ifn c1 (ifp c2 (ifp c3 h2)))))⟩
        · obtain ⟨k', h1, h2⟩ := tail false (by rw [badS, decide_eq_false (fun h => c3 (h.resolve_left c1).2.1)])
          exact ⟨k', h1, ifp (by omega) (ifp (by omega) (ifp (by omega) (ifn c1 (ifp c2 (ifn c3 h2)))))⟩
      · obtain ⟨k', h1, h2⟩ := tail false (by rw [badS, decide_eq_false (fun h => c2 (h.resolve_left c1).1)])
        exact ⟨k', h1, ifp (by omega) (ifp (by omega) (ifp (by omega) (ifn c1 (ifn c2 h2))))⟩
theorem cost_eq {t f c : Int} (h0 : -9223372036854775808 ≤ t) (h1 : t ≤ 9223372036854775807) (h2 : -9223372036854775808 ≤ c) (h3 : c ≤ 9223372036854775807) : (wrap64 (t - f) != c) = (t != wrap64 (f + c)) := by
  rw [Bool.eq_iff_iff, bne_iff_ne, bne_iff_ne]
  unfold wrap64
  omega
def okP (jobs : List Int) (w : Int) (l : List S53) : Nat → Nat → Bool
  | _, 0 => true
  | i, n + 1 => (decide (0 ≤ (l.getD i z53).f0 ∧ (l.getD i z53).f0 ≤ (jobs.length : Int) - 1) && (decide (0 ≤ (l.getD i z53).f1 ∧ (l.getD i z53).f1 ≤ w - 1) && (decide (0 ≤ (l.getD i z53).f2 ∧ (l.getD i z53).f2 ≤ 1000000000) && !(wrap64 ((l.getD i z53).f3 - (l.getD i z53).f2) != rd jobs (l.getD i z53).f0)))) &&
      (!anyB l (l.getD i z53).f0 (l.getD i z53).f1 (l.getD i z53).f2 (l.getD i z53).f3 0 i && okP jobs w l (i + 1) n)
theorem plan_l0 (jobs : List Int) (w : Int) (l : List S53) (hw : 1 ≤ w) (hw2 : w ≤ 6) (hm : l.length ≤ 40) (hj : jobs.length ≤ 40) (hjv : ∀ x ∈ jobs, -9223372036854775808 ≤ x ∧ x ≤ 9223372036854775807) (hlv : ∀ x ∈ l, -9223372036854775808 ≤ x.f3 ∧ x.f3 ≤ 9223372036854775807) : ∀ (n k i : Nat), i + n = l.length → (n + 1) * 100 ≤ k →
    spec_PlanOk.l0 k jobs w l (i : Int) = some (okP jobs w l i n) ∧ impl_PlanOk.l0 k jobs w l l (l.length : Int) (i : Int) = some (okP jobs w l i n) := by
  intro n
  have hw1 : wrap64 (w - 1) = w - 1 := w64 (by omega) (by omega)
  have hj1 : wrap64 ((jobs.length : Int) - 1) = (jobs.length : Int) - 1 := w64 (by omega) (by omega)
  induction n with
  | zero =>
    intro k i hi hk
    obtain ⟨k, rfl⟩ : ∃ m, k = m + 1 := ⟨k - 1, by omega⟩
    exact ⟨by rw [spec_PlanOk.l0]; exact ifn (by omega) rfl, by rw [impl_PlanOk.l0]; exact ifn (by omega) rfl⟩
  | succ n ih =>
    intro k i hi hk
    obtain ⟨k, rfl⟩ : ∃ m, k = m + 1 + 1 := ⟨k - 2, by omega⟩
    have tail : ∀ x y : Bool, x = y → spec_PlanOk.j2 (k + 1) jobs w l (i : Int) x (l.getD i z53).f0 (l.getD i z53).f1 (l.getD i z53).f2 (l.getD i z53).f3 = some (!x && (!anyB l (l.getD i z53).f0 (l.getD i z53).f1 (l.getD i z53).f2 (l.getD i z53).f3 0 i && okP jobs w l (i + 1) n)) ∧
        impl_PlanOk.j2 (k + 1) jobs w l (i : Int) l (l.length : Int) (i : Int) y (l.getD i z53).f0 (l.getD i z53).f1 (l.getD i z53).f2 (l.getD i z53).f3 = some (!x && (!anyB l (l.getD i z53).f0 (l.getD i z53).f1 (l.getD i z53).f2 (l.getD i z53).f3 0 i && okP jobs w l (i + 1) n)) := by
      intro x y hxy
      subst hxy
      rw [spec_PlanOk.j2, impl_PlanOk.j2]
      by_cases q : x = true
      · subst q
        exact ⟨ifp rfl rfl, ifp rfl rfl⟩
      · obtain ⟨K, hK⟩ : ∃ K, K = (n + 1) * 100 := ⟨_, rfl⟩
        have hil : i < l.length := by omega
        have hKk : K + 2 * i + 2 ≤ k := by omega
        have hz : 0 + i = i := Nat.zero_add i
        obtain ⟨k1, h1, e1⟩ := spec_inn jobs w l i hil hm (l.getD i z53).f0 (l.getD i z53).f1 (l.getD i z53).f2 (l.getD i z53).f3 K i k 0 hz hKk
        obtain ⟨k2, h2, e2⟩ := impl_inn jobs w l i hil hm (l.getD i z53).f0 (l.getD i z53).f1 (l.getD i z53).f2 (l.getD i z53).f3 K i k 0 hz hKk
        rw [hK] at h1 h2
        have g1 := (ih k1 (i + 1) (by omega) h1).1
        have g2 := (ih k2 (i + 1) (by omega) h2).2
        have qf : x = false := by simpa using q
        subst qf
        generalize anyB l (l.getD i z53).f0 (l.getD i z53).f1 (l.getD i z53).f2 (l.getD i z53).f3 0 i = bb at e1 e2 ⊢
        have z0 : ((0 : Nat) : Int) = 0 := rfl
        rw [z0] at e1 e2
        simp only [Int.toNat_natCast]
        cases bb with
        | true =>
          rw [if_pos rfl] at e1 e2
          simp only [Bool.not_true, Bool.false_and, Bool.and_false]
          exact ⟨ifn q e1, ifn q (ifp (by omega) (ifp (by omega) (st rfl e2)))⟩
        | false =>
          rw [if_neg (by simp)] at e1 e2
          simp only [Bool.not_false, Bool.true_and]
          exact ⟨ifn q (e1.trans g1), ifn q (ifp (by omega) (ifp (by omega) (st rfl (e2.trans g2))))⟩
    have hx := hlv _ (mem_getD l z53 i (by omega))
    have hok : okP jobs w l i (n + 1) = ((decide (0 ≤ (l.getD i z53).f0 ∧ (l.getD i z53).f0 ≤ (jobs.length : Int) - 1) && (decide (0 ≤ (l.getD i z53).f1 ∧ (l.getD i z53).f1 ≤ w - 1) && (decide (0 ≤ (l.getD i z53).f2 ∧ (l.getD i z53).f2 ≤ 1000000000) && !(wrap64 ((l.getD i z53).f3 - (l.getD i z53).f2) != rd jobs (l.getD i z53).f0)))) &&
      (!anyB l (l.getD i z53).f0 (l.getD i z53).f1 (l.getD i z53).f2 (l.getD i z53).f3 0 i && okP jobs w l (i + 1) n)) := rfl
    rw [hok, spec_PlanOk.l0, impl_PlanOk.l0]
    simp only [rd_T53, Int.toNat_natCast, spec_in, impl_in_, Option.bind_some, hw1, hj1]
    by_cases c1 : 0 ≤ (l.getD i z53).f0 ∧ (l.getD i z53).f0 ≤ (jobs.length : Int) - 1
    · rw [decide_eq_true c1]
      by_cases c2 : 0 ≤ (l.getD i z53).f1 ∧ (l.getD i z53).f1 ≤ w - 1
      · rw [decide_eq_true c2]
        by_cases c3 : 0 ≤ (l.getD i z53).f2 ∧ (l.getD i z53).f2 ≤ 1000000000
        · have hy := hjv (rd jobs (l.getD i z53).f0) (mem_getD jobs 0 _ (by omega))
          obtain ⟨g1, g2⟩ := tail _ _ (cost_eq (f := (l.getD i z53).f2) hx.1 hx.2 hy.1 hy.2)
          rw [decide_eq_true c3]
          simp only [Bool.true_and]
          exact ⟨ifp (by omega) (ifp (by omega) (ifp (by trivial) (ifp (by trivial) (ifp (by trivial) (ifp c1.1 (ifp (by omega) g1)))))), ifp (by omega) (ifp (by omega) (ifp (by omega) (ifp (by trivial) (ifp (by trivial) (ifp (by trivial) (ifp c1.1 (ifp (by omega) g2)))))))⟩
        · obtain ⟨g1, g2⟩ := tail true true rfl
          rw [decide_eq_false c3]
          simp only [Bool.true_and, Bool.false_and, Bool.not_true] at g1 g2 ⊢
          exact ⟨ifp (by omega) (ifp (by omega) (ifp (by trivial) (ifp (by trivial) (ifn (by simp) g1)))), ifp (by omega) (ifp (by omega) (ifp (by omega) (ifp (by trivial) (ifp (by trivial) (ifn (by simp) g2)))))⟩
      · obtain ⟨g1, g2⟩ := tail true true rfl
        rw [decide_eq_false c2]
        simp only [Bool.true_and, Bool.false_and, Bool.not_true] at g1 g2 ⊢
        exact ⟨ifp (by omega) (ifp (by omega) (ifp (by trivial) (ifn (by simp) g1))), ifp (by omega) (ifp (by omega) (ifp (by omega) (ifp (by trivial) (ifn (by simp) g2))))⟩
    · obtain ⟨g1, g2⟩ := tail true true rfl
      rw [decide_eq_false c1]
      simp only [Bool.false_and, Bool.not_true] at g1 g2 ⊢
      exact ⟨ifp (by omega) (ifp (by omega) (ifn (by simp) g1)), ifp (by omega) (ifp (by omega) (ifp (by omega) (ifn (by simp) g2)))⟩
theorem jOk_len {l : List Int} (h : jOk l = true) : l.length ≤ 40 := by
  simp only [jOk, Bool.and_eq_true, decide_eq_true_eq] at h
  exact h.1
def spanF (m : Int) : List S53 → Int
  | [] => m
  | x :: r => spanF (if x.f3 > m then x.f3 else m) r
def span (l : List S53) : Int := if l.length = 0 then 0 else spanF (l.getD 0 z53).f3 (l.drop 1)
theorem cmpT (a b c d e f g h : Int) : impl_SpanOf_1.f a b c d e f g h = some (if d < h then -1 else if d > h then 1 else 0) := by
  simp only [impl_SpanOf_1.f, cmp_Compare_int.f, cmp_isNaN_int.f, Option.bind_some, bne_self_eq_false]
  rw [if_neg (by simp), if_neg (by simp)]
  by_cases c1 : d < h
  · rw [if_pos c1, if_pos c1]; rfl
  · rw [if_neg c1, if_neg c1]
    by_cases c2 : d > h
    · rw [if_pos c2, if_pos c2]; rfl
    · rw [if_neg c2, if_neg c2]; rfl
theorem span_l0 (l : List S53) (hm : l.length ≤ 1048576) : ∀ (d k i : Nat) (a b c m : Int), i + d = l.length → d < k → 1 ≤ i →
    ∃ r1 r2 r3, impl_Slot_at_57.l0 k l (i : Int) a b c m = some (r1, r2, r3, spanF m (l.drop i)) := by
  intro d
  induction d with
  | zero =>
    intro k i a b c m hi hk h1
    obtain ⟨k, rfl⟩ : ∃ m, k = m + 1 := ⟨k - 1, by omega⟩
    rw [List.drop_of_length_le (by omega)]
    simp only [impl_Slot_at_57.l0, spanF]
    exact ⟨a, b, c, ifn (by omega) rfl⟩
  | succ d ih =>
    intro k i a b c m hi hk h1
    obtain ⟨k, rfl⟩ : ∃ m, k = m + 1 := ⟨k - 1, by omega⟩
    simp only [impl_Slot_at_57.l0, cmpT, Option.bind_some, rd_T53, Int.toNat_natCast, w64_succ i (by omega)]
    by_cases c1 : (l.getD i z53).f3 > m
    · obtain ⟨r1, r2, r3, g2⟩ := ih k (i + 1) (l.getD i z53).f0 (l.getD i z53).f1 (l.getD i z53).f2 (l.getD i z53).f3 (by omega) (by omega) (by omega)
      have hv : spanF m (l.drop i) = spanF (l.getD i z53).f3 (l.drop (i + 1)) := by rw [drop_getD l z53 i (by omega)]; simp only [spanF]; rw [if_pos c1]
      rw [hv]
      refine ⟨r1, r2, r3, ifp (by omega) (ifp (by omega) (ifp ?_ g2))⟩
      rw [if_neg (by omega), if_pos c1]; decide
    · obtain ⟨r1, r2, r3, g2⟩ := ih k (i + 1) a b c m (by omega) (by omega) (by omega)
      have hv : spanF m (l.drop i) = spanF m (l.drop (i + 1)) := by rw [drop_getD l z53 i (by omega)]; simp only [spanF]; rw [if_neg c1]
      rw [hv]
      refine ⟨r1, r2, r3, ifp (by omega) (ifp (by omega) (ifn ?_ g2))⟩
      by_cases c2 : (l.getD i z53).f3 < m
      · rw [if_pos c2]; decide
      · rw [if_neg c2, if_neg c1]; decide
theorem impl_span (k : Nat) (l : List S53) (hm : l.length ≤ 1048576) (hk : 1048600 ≤ k) : impl_SpanOf.f k l = some (span l) := by
  unfold impl_SpanOf.f span impl_Slot_at_57.f
  by_cases c : l.length = 0
  · rw [if_pos c]
    exact ifp (by omega) rfl
  · rw [if_neg c]
    obtain ⟨r1, r2, r3, e⟩ := (span_l0 l hm (l.length - 1) k 1 (l.getD 0 z53).f0 (l.getD 0 z53).f1 (l.getD 0 z53).f2 (l.getD 0 z53).f3 (by omega) (by omega) (by omega))
    exact ifn (by omega) (st (ifn (by omega) (ifp (by omega) e)) rfl)

theorem wrap_assoc (a b c : Int) : wrap64 (wrap64 (a + b) - c) = wrap64 (a + wrap64 (b - c)) := by unfold wrap64; omega
theorem loads_l0 (l : List S53) (w : Int) (hw : 1 ≤ w) (hw2 : w ≤ 6) (hm : l.length ≤ 1048576) : ∀ (d k i : Nat) (o : List Int), i + d = l.length → d < k → (o.length : Int) = w →
    ∃ r, spec_LoadsOf.l0 k l w o (i : Int) = some r ∧ impl_LoadsOf.l0 k w o l (l.length : Int) (i : Int) = some r ∧ (r.length : Int) = w := by
  intro d
  induction d with
  | zero =>
    intro k i o hi hk ho
    obtain ⟨k, rfl⟩ : ∃ m, k = m + 1 := ⟨k - 1, by omega⟩
    exact ⟨o, by simp only [spec_LoadsOf.l0]; rw [if_neg (by omega)], by simp only [impl_LoadsOf.l0]; rw [if_neg (by omega)], ho⟩
  | succ d ih =>
    intro k i o hi hk ho
    obtain ⟨k, rfl⟩ : ∃ m, k = m + 1 := ⟨k - 1, by omega⟩
    have hw1 : wrap64 (w - 1) = w - 1 := w64 (by omega) (by omega)
    simp only [spec_LoadsOf.l0, impl_LoadsOf.l0, spec_in, impl_in_, Option.bind_some, rd_T53, Int.toNat_natCast, hw1, w64_succ i (by omega)]
    by_cases c : 0 ≤ (l.getD i z53).f1 ∧ (l.getD i z53).f1 ≤ w - 1
    · obtain ⟨r, e1, e2, e3⟩ := ih k (i + 1) (o.set (l.getD i z53).f1.toNat (wrap64 (rd o (l.getD i z53).f1 + wrap64 ((l.getD i z53).f3 - (l.getD i z53).f2)))) (by omega) (by omega) (by simpa using ho)
      refine ⟨r, ifp (by omega) (ifp (by omega) (ifp (by simpa using c) (ifp c.1 (ifp (by omega) ?_)))), ifp (by omega) (ifp (by omega) (ifp (by omega) (ifp (by simpa using c) (ifp c.1 (ifp (by omega) ?_))))), e3⟩
      · rw [wrap_assoc]; exact e1
      · exact e2
    · obtain ⟨r, e1, e2, e3⟩ := ih k (i + 1) o (by omega) (by omega) ho
      exact ⟨r, ifp (by omega) (ifp (by omega) (ifn (by simpa using c) e1)), ifp (by omega) (ifp (by omega) (ifp (by omega) (ifn (by simpa using c) e2))), e3⟩
theorem loads (k : Nat) (l : List S53) (w : Int) (hm : l.length ≤ 1048576) (hk : 1048580 ≤ k) : ∃ r, spec_LoadsOf.f k l w = some r ∧ impl_LoadsOf.f k l w = some r ∧ r.length ≤ 6 := by
  unfold spec_LoadsOf.f impl_LoadsOf.f
  simp only [spec_in, impl_in_, Option.bind_some]
  by_cases c : 1 ≤ w ∧ w ≤ 6
  · obtain ⟨r, e1, e2, e3⟩ := loads_l0 l w c.1 c.2 hm l.length k 0 (List.replicate w.toNat 0) (by omega) (by omega) (by simp; omega)
    exact ⟨r, ifp (by simpa using c) (ifp (by omega) (ifp (by omega) e1)), ifp (by simpa using c) (ifp (by omega) (ifp (by omega) e2)), by omega⟩
  · exact ⟨[], ifn (by simpa using c) rfl, ifn (by simpa using c) rfl, by simp⟩

def atq (t w : Int) (s : S53) : Bool := decide (s.f1 = w ∧ s.f2 ≤ t ∧ t < s.f3)
def atl (t w : Int) (l : List S53) : List Int := (l.filter (atq t w)).map (fun s => s.f0)
theorem atl_drop (t w : Int) (l : List S53) (i : Nat) (h : i < l.length) : atl t w (l.drop i) = (if atq t w (l.getD i z53) = true then [(l.getD i z53).f0] else []) ++ atl t w (l.drop (i + 1)) := by
  rw [drop_getD l z53 i h]
  unfold atl
  rw [List.filter_cons]
  split <;> simp
theorem atl_len (t w : Int) (l : List S53) : (atl t w l).length ≤ l.length := by
  unfold atl; rw [List.length_map]; exact List.length_filter_le _ _
theorem atl_nil (t w : Int) : atl t w [] = [] := rfl
theorem spec_at_l1 (l : List S53) (t w : Int) (hm : l.length ≤ 1048576) (K : Nat) : ∀ (d k i : Nat) (o : List Int), i + d = l.length → o.length + d ≤ 10000000 → K + 2 * d + 1 ≤ k →
    ∃ k', K ≤ k' ∧ spec_JobsAt.l1 k l t o w (i : Int) = spec_JobsAt.l0 k' l t (o ++ atl t w (l.drop i)) (wrap64 (w + 1)) := by
  intro d
  induction d with
  | zero =>
    intro k i o hi ho hk
    obtain ⟨k, rfl⟩ : ∃ m, k = m + 1 := ⟨k - 1, by omega⟩
    refine ⟨k, by omega, ?_⟩
    rw [spec_JobsAt.l1, List.drop_of_length_le (by omega), atl_nil, List.append_nil]
    exact ifn (by omega) rfl
  | succ d ih =>
    intro k i o hi ho hk
    obtain ⟨k, rfl⟩ : ∃ m, k = m + 1 + 1 := ⟨k - 2, by omega⟩
    have tail : ∀ x : Bool, x = atq t w (l.getD i z53) → ∃ k', K ≤ k' ∧ spec_JobsAt.j2 (k + 1) l t o w (i : Int) x = spec_JobsAt.l0 k' l t (o ++ atl t w (l.drop i)) (wrap64 (w + 1)) := by
      intro x hx
      rw [spec_JobsAt.j2, atl_drop t w l i (by omega), ← hx]
      simp only [rd_T53, Int.toNat_natCast, w64_succ i (by omega)]
      cases x with
      | true =>
        obtain ⟨k', h1, h2⟩ := ih k (i + 1) (o ++ [(l.getD i z53).f0]) (by omega) (by simp; omega) (by omega)
        refine ⟨k', h1, ?_⟩
        have hv : o ++ ((if true = true then [(l.getD i z53).f0] else []) ++ atl t w (l.drop (i + 1))) = (o ++ [(l.getD i z53).f0]) ++ atl t w (l.drop (i + 1)) := by simp
        rw [hv]
        exact ifp rfl (ifp (by omega) (ifp (by omega) (ifp (by omega) h2)))
      | false =>
        obtain ⟨k', h1, h2⟩ := ih k (i + 1) o (by omega) (by omega) (by omega)
        exact ⟨k', h1, ifn (by simp) (h2.trans (by simp))⟩
    rw [spec_JobsAt.l1]
    simp only [rd_T53, Int.toNat_natCast]
    by_cases c1 : (l.getD i z53).f1 = w
    · by_cases c2 : (l.getD i z53).f2 ≤ t
      · obtain ⟨k', h1, h2⟩ := tail (decide (t < (l.getD i z53).f3)) (decide_eq_decide.2 ⟨fun h => ⟨c1, c2, h⟩, fun h => h.2.2⟩)
        exact ⟨k', h1, ifp (by omega) (ifp (by omega) (ifp c1 (ifp c2 h2)))⟩
      · obtain ⟨k', h1, h2⟩ := tail false (by rw [atq, decide_eq_false (fun h => c2 h.2.1)])
        exact ⟨k', h1, ifp (by omega) (ifp (by omega) (ifp c1 (ifn c2 h2)))⟩
    · obtain ⟨k', h1, h2⟩ := tail false (by rw [atq, decide_eq_false (fun h => c1 h.1)])
      exact ⟨k', h1, ifp (by omega) (ifp (by omega) (ifn c1 h2))⟩
theorem impl_at_l1 (l : List S53) (t w : Int) (hm : l.length ≤ 1048576) (K : Nat) : ∀ (d k i : Nat) (o : List Int), i + d = l.length → o.length + d ≤ 10000000 → K + 2 * d + 1 ≤ k →
    ∃ k', K ≤ k' ∧ impl_JobsAt.l1 k l t o w w l (l.length : Int) (i : Int) = impl_JobsAt.l0 k' l t (o ++ atl t w (l.drop i)) (wrap64 (w + 1)) := by
  intro d
  induction d with
  | zero =>
    intro k i o hi ho hk
    obtain ⟨k, rfl⟩ : ∃ m, k = m + 1 := ⟨k - 1, by omega⟩
    refine ⟨k, by omega, ?_⟩
    rw [impl_JobsAt.l1, List.drop_of_length_le (by omega), atl_nil, List.append_nil]
    exact ifn (by omega) rfl
  | succ d ih =>
    intro k i o hi ho hk
    obtain ⟨k, rfl⟩ : ∃ m, k = m + 1 + 1 := ⟨k - 2, by omega⟩
    have tail : ∀ x : Bool, x = atq t w (l.getD i z53) → ∃ k', K ≤ k' ∧ impl_JobsAt.j2 (k + 1) l t o w w l (l.length : Int) (i : Int) x (l.getD i z53).f0 (l.getD i z53).f1 (l.getD i z53).f2 (l.getD i z53).f3 = impl_JobsAt.l0 k' l t (o ++ atl t w (l.drop i)) (wrap64 (w + 1)) := by
      intro x hx
      rw [impl_JobsAt.j2, atl_drop t w l i (by omega), ← hx]
      simp only [rd_T53, Int.toNat_natCast, w64_succ i (by omega)]
      cases x with
      | true =>
        obtain ⟨k', h1, h2⟩ := ih k (i + 1) (o ++ [(l.getD i z53).f0]) (by omega) (by simp; omega) (by omega)
        refine ⟨k', h1, ?_⟩
        have hv : o ++ ((if true = true then [(l.getD i z53).f0] else []) ++ atl t w (l.drop (i + 1))) = (o ++ [(l.getD i z53).f0]) ++ atl t w (l.drop (i + 1)) := by simp
        rw [hv]
        exact ifp rfl (ifp (by omega) h2)
      | false =>
        obtain ⟨k', h1, h2⟩ := ih k (i + 1) o (by omega) (by omega) (by omega)
        exact ⟨k', h1, ifn (by simp) (h2.trans (by simp))⟩
    rw [impl_JobsAt.l1]
    simp only [rd_T53, Int.toNat_natCast]
    by_cases c1 : (l.getD i z53).f1 = w
    · by_cases c2 : (l.getD i z53).f2 ≤ t
      · obtain ⟨k', h1, h2⟩ := tail (decide (t < (l.getD i z53).f3)) (decide_eq_decide.2 ⟨fun h => ⟨c1, c2, h⟩, fun h => h.2.2⟩)
        exact ⟨k', h1, ifp (by omega) (ifp (by omega) (ifp (by omega) (ifp c1 (ifp c2 h2))))⟩
      · obtain ⟨k', h1, h2⟩ := tail false (by rw [atq, decide_eq_false (fun h => c2 h.2.1)])
        exact ⟨k', h1, ifp (by omega) (ifp (by omega) (ifp (by omega) (ifp c1 (ifn c2 h2))))⟩
    · obtain ⟨k', h1, h2⟩ := tail false (by rw [atq, decide_eq_false (fun h => c1 h.1)])
      exact ⟨k', h1, ifp (by omega) (ifp (by omega) (ifp (by omega) (ifn c1 h2)))⟩
def atAll (t : Int) (l : List S53) : Nat → Int → List Int
  | 0, _ => []
  | v + 1, w => atl t w l ++ atAll t l v (w + 1)
theorem atAll_len (t : Int) (l : List S53) (v : Nat) (w : Int) : (atAll t l v w).length ≤ v * l.length := by
  induction v generalizing w with
  | zero => simp [atAll]
  | succ v ih =>
    have := ih (w + 1); have h2 := atl_len t w l
    simp only [atAll, List.length_append, Nat.add_mul, Nat.one_mul]
    omega
theorem spec_at (l : List S53) (t : Int) (hm : l.length ≤ 1048576) : ∀ (v k : Nat) (w : Int) (o : List Int), w + v = 6 → 0 ≤ w → o.length ≤ w * 1048576 → (v + 1) * (2 * l.length + 3) ≤ k → spec_JobsAt.l0 k l t o w = some (o ++ atAll t l v w) := by
  intro v
  induction v with
  | zero =>
    intro k w o hw h0 ho hk
    obtain ⟨k, rfl⟩ : ∃ m, k = m + 1 := ⟨k - 1, by omega⟩
    rw [spec_JobsAt.l0, atAll, List.append_nil]
    exact ifn (by omega) rfl
  | succ v ih =>
    intro k w o hw h0 ho hk
    have hp : 0 < (v + 1 + 1) * (2 * l.length + 3) := Nat.mul_pos (by omega) (by omega)
    obtain ⟨k, rfl⟩ : ∃ m, k = m + 1 := ⟨k - 1, by omega⟩
    have h1 := atl_len t w l
    obtain ⟨K, hK⟩ : ∃ K, K = (v + 1) * (2 * l.length + 3) := ⟨_, rfl⟩
    have hk2 : K + (2 * l.length + 3) ≤ k + 1 := by
      rw [hK]
      have e : (v + 1 + 1) * (2 * l.length + 3) = (v + 1) * (2 * l.length + 3) + (2 * l.length + 3) := by rw [Nat.add_mul (v + 1) 1, Nat.one_mul]
      omega
    obtain ⟨k', g1, g2⟩ := spec_at_l1 l t w hm K l.length k 0 o (by omega) (by omega) (by omega)
    rw [hK] at g1
    have z0 : ((0 : Nat) : Int) = 0 := rfl
    rw [z0, List.drop_zero, w64 (by omega) (by omega)] at g2
    rw [spec_JobsAt.l0, atAll, ← List.append_assoc]
    exact ifp (by omega) (g2.trans (ih k' (w + 1) _ (by omega) (by omega) (by rw [List.length_append]; omega) g1))
theorem impl_at (l : List S53) (t : Int) (hm : l.length ≤ 1048576) : ∀ (v k : Nat) (w : Int) (o : List Int), w + v = 6 → 0 ≤ w → o.length ≤ w * 1048576 → (v + 1) * (2 * l.length + 3) ≤ k → impl_JobsAt.l0 k l t o w = some (o ++ atAll t l v w) := by
  intro v
  induction v with
  | zero =>
    intro k w o hw h0 ho hk
    obtain ⟨k, rfl⟩ : ∃ m, k = m + 1 := ⟨k - 1, by omega⟩
    rw [impl_JobsAt.l0, atAll, List.append_nil]
    exact ifn (by omega) rfl
  | succ v ih =>
    intro k w o hw h0 ho hk
    have hp : 0 < (v + 1 + 1) * (2 * l.length + 3) := Nat.mul_pos (by omega) (by omega)
    obtain ⟨k, rfl⟩ : ∃ m, k = m + 1 := ⟨k - 1, by omega⟩
    have h1 := atl_len t w l
    obtain ⟨K, hK⟩ : ∃ K, K = (v + 1) * (2 * l.length + 3) := ⟨_, rfl⟩
    have hk2 : K + (2 * l.length + 3) ≤ k + 1 := by
      rw [hK]
      have e : (v + 1 + 1) * (2 * l.length + 3) = (v + 1) * (2 * l.length + 3) + (2 * l.length + 3) := by rw [Nat.add_mul (v + 1) 1, Nat.one_mul]
      omega
    obtain ⟨k', g1, g2⟩ := impl_at_l1 l t w hm K l.length k 0 o (by omega) (by omega) (by omega)
    rw [hK] at g1
    have z0 : ((0 : Nat) : Int) = 0 := rfl
    rw [z0, List.drop_zero, w64 (by omega) (by omega)] at g2
    rw [impl_JobsAt.l0, atAll, ← List.append_assoc]
    exact ifp (by omega) (g2.trans (ih k' (w + 1) _ (by omega) (by omega) (by rw [List.length_append]; omega) g1))
theorem jobsat (k : Nat) (l : List S53) (t : Int) (hm : l.length ≤ 1048576) (hk : 14680085 ≤ k) : spec_JobsAt.f k l t = some (atAll t l 6 0) ∧ impl_JobsAt.f k l t = some (atAll t l 6 0) := by
  unfold spec_JobsAt.f impl_JobsAt.f
  exact ⟨spec_at l t hm 6 k 0 [] (by omega) (by omega) (by simp) (by omega), impl_at l t hm 6 k 0 [] (by omega) (by omega) (by simp) (by omega)⟩

theorem and_bd (x m : Int) (h0 : 0 ≤ m) (h1 : m ≤ 1073741823) : 0 ≤ Go.bits .and .i64 x m ∧ Go.bits .and .i64 x m ≤ m := by
  obtain ⟨b, rfl⟩ := Int.eq_ofNat_of_zero_le h0
  have hb : b % 2 ^ Go.IntKind.i64.bits = b := Nat.mod_eq_of_lt (by simp [Go.IntKind.bits]; omega)
  have hn : (BitVec.ofInt Go.IntKind.i64.bits x).toNat &&& b ≤ b := Nat.and_le_right
  simp only [Go.bits, BitVec.ofInt_natCast, BitVec.toNat_and, BitVec.toNat_ofNat, hb]
  generalize (BitVec.ofInt Go.IntKind.i64.bits x).toNat &&& b = n at hn ⊢
  rw [Go.IntKind.wrap_i64]
  omega
theorem byte_ (l : List Int) (i h : Int) (h0 : 0 ≤ i) (hl : l.length ≤ 1048576) : ∃ x i' h', spec_l01Byte.f l i h = some (x, i', h') ∧ 0 ≤ x ∧ x ≤ 255 ∧ 0 ≤ i' := by
  unfold spec_l01Byte.f
  by_cases c : i < (l.length : Int)
  · rw [if_pos c, if_pos h0]
    exact ⟨_, _, _, rfl, (and_bd _ 255 (by omega) (by omega)).1, (and_bd _ 255 (by omega) (by omega)).2, by rw [w64 (by omega) (by omega)]; omega⟩
  · rw [if_neg c]
    exact ⟨_, _, _, rfl, (and_bd _ 255 (by omega) (by omega)).1, (and_bd _ 255 (by omega) (by omega)).2, h0⟩
theorem below_ (l : List Int) (i h a : Int) (h0 : 0 ≤ i) (hl : l.length ≤ 1048576) : ∃ x i' h', spec_l01Below.f l i h a = some (x, i', h') ∧ 0 ≤ x ∧ (x < a ∨ (a ≤ 0 ∧ x = 0)) ∧ 0 ≤ i' := by
  unfold spec_l01Below.f
  by_cases c : a ≤ 0
  · rw [if_pos c]; exact ⟨0, i, h, rfl, by omega, .inr ⟨c, rfl⟩, h0⟩
  rw [if_neg c]
  obtain ⟨x, i1, h1, e1, g0, g1, g2⟩ := byte_ l i h h0 hl
  rw [e1]
  simp only [Option.bind_some]
  by_cases c2 : a ≤ 256
  · rw [if_pos c2, if_neg (by omega)]
    exact ⟨_, _, _, rfl, by rw [tmod_pos g0]; exact Int.emod_nonneg _ (by omega), .inl (by rw [tmod_pos g0]; exact Int.emod_lt_of_pos _ (by omega)), g2⟩
  · rw [if_neg c2]
    obtain ⟨y, i2, h2, e2, y0, y1, y2⟩ := byte_ l i1 h1 g2 hl
    rw [e2]
    simp only [Option.bind_some]
    obtain ⟨z, i3, h3, e3, z0, z1, z2⟩ := byte_ l i2 h2 y2 hl
    rw [e3]
    simp only [Option.bind_some]
    rw [if_neg (by omega)]
    have q : 0 ≤ wrap64 ((wrap64 ((wrap64 (x * 65536)) + (wrap64 (y * 256)))) + z) := by unfold wrap64; omega
    exact ⟨_, _, _, rfl, by rw [tmod_pos q]; exact Int.emod_nonneg _ (by omega), .inl (by rw [tmod_pos q]; exact Int.emod_lt_of_pos _ (by omega)), z2⟩
theorem once_ (l : List Int) (i h a : Int) (h0 : 0 ≤ i) (hl : l.length ≤ 1048576) : ∃ b i' h', spec_l01Once.f l i h a = some (b, i', h') ∧ 0 ≤ i' := by
  unfold spec_l01Once.f
  obtain ⟨x, i1, h1, e1, _, _, g2⟩ := below_ l i h a h0 hl
  rw [e1]
  exact ⟨_, _, _, rfl, g2⟩
theorem pick_ (l : List Int) (i h : Int) (xs : List Int) (hx : 0 < xs.length) (h0 : 0 ≤ i) (hl : l.length ≤ 1048576) : ∃ x i' h', spec_l01PickInt.f l i h xs = some (x, i', h') ∧ x ∈ xs ∧ 0 ≤ i' := by
  unfold spec_l01PickInt.f
  obtain ⟨x, i1, h1, e1, g0, g1, g2⟩ := below_ l i h (xs.length : Int) h0 hl
  rw [e1]
  simp only [Option.bind_some]
  have g : x < (xs.length : Int) := by omega
  rw [if_pos g0, if_pos g]
  exact ⟨_, _, _, rfl, mem_getD xs 0 _ (by omega), g2⟩
theorem new_l0 (l : List Int) : ∀ (d k i : Nat) (h : Int), i + d = 4000 → d < k → ∃ h', spec_l01New.l0 k l h (i : Int) = some (l, 0, h') := by
  intro d
  induction d with
  | zero =>
    intro k i h hi hk
    obtain ⟨k, rfl⟩ : ∃ m, k = m + 1 := ⟨k - 1, by omega⟩
    simp only [spec_l01New.l0]
    by_cases c : (i : Int) < (l.length : Int)
    · exact ⟨h, ifp c (ifn (by omega) rfl)⟩
    · exact ⟨h, ifn c rfl⟩
  | succ d ih =>
    intro k i h hi hk
    obtain ⟨k, rfl⟩ : ∃ m, k = m + 1 := ⟨k - 1, by omega⟩
    simp only [spec_l01New.l0, w64_succ i (by omega)]
    by_cases c : (i : Int) < (l.length : Int)
    · obtain ⟨h', g⟩ := ih k (i + 1) (Go.bits .and .i64 (wrap64 ((wrap64 ((wrap64 (h * 149)) + (wrap64 (rd l i)))) + 11)) 1073741823) (by omega) (by omega)
      exact ⟨h', ifp c (ifp (by omega) (ifp (by omega) g))⟩
    · exact ⟨h, ifn c rfl⟩
theorem new_ (k : Nat) (l : List Int) (hk : 4100 ≤ k) : ∃ h', spec_l01New.f k l = some (l, 0, h') := by
  unfold spec_l01New.f
  exact new_l0 l 4000 k 0 _ (by omega) (by omega)

theorem djobs_l0 (l : List Int) (hl : l.length ≤ 1048576) (n : Nat) (hn : n ≤ 41) : ∀ (d k j : Nat) (acc : List Int) (i h : Int), j + d = n → d < k → acc.length = j → (∀ x ∈ acc, 0 ≤ x ∧ x ≤ 1001) → 0 ≤ i →
    ∃ r i' h', spec_l12DrawJobs.l0 k acc (n : Int) (j : Int) l i h = some (r, i', h') ∧ r.length ≤ 41 ∧ (∀ x ∈ r, 0 ≤ x ∧ x ≤ 1001) ∧ 0 ≤ i' := by
  intro d
  induction d with
  | zero =>
    intro k j acc i h hj hk ha hv h0
    obtain ⟨k, rfl⟩ : ∃ m, k = m + 1 := ⟨k - 1, by omega⟩
    rw [spec_l12DrawJobs.l0, if_neg (by omega)]
    obtain ⟨b, i1, h1, e1, g1⟩ := once_ l i h 15 h0 hl
    rw [e1]
    simp only [Option.bind_some]
    try dsimp only
    cases b with
    | false => exact ⟨acc, i1, h1, ifn (by simp) rfl, by omega, hv, g1⟩
    | true =>
      by_cases c : (n : Int) > 0
      · obtain ⟨x, i2, h2, e2, hx, g2⟩ := pick_ l i1 h1 [0, 1000, 1001] (by simp) g1 hl
        refine ⟨acc.set (0 : Int).toNat x, i2, h2, ifp rfl (ifp c (st e2 (ifp (by omega) rfl))), by simp; omega, ?_, g2⟩
        intro y hy
        rcases List.mem_or_eq_of_mem_set hy with hy | rfl
        · exact hv y hy
        · simp at hx; omega
      · exact ⟨acc, i1, h1, ifp rfl (ifn c rfl), by omega, hv, g1⟩
  | succ d ih =>
    intro k j acc i h hj hk ha hv h0
    obtain ⟨k, rfl⟩ : ∃ m, k = m + 1 := ⟨k - 1, by omega⟩
    rw [spec_l12DrawJobs.l0, if_pos (by omega)]
    obtain ⟨x, i1, h1, e1, g0, g1, g2⟩ := below_ l i h 20 h0 hl
    rw [e1]
    simp only [Option.bind_some]
    try dsimp only
    rw [if_pos (by omega), w64_succ j (by omega), w64 (x := 1 + x) (by omega) (by omega)]
    exact ih k (j + 1) (acc ++ [1 + x]) i1 h1 (by omega) (by omega) (by simp; omega) (fun y hy => by
      rcases List.mem_append.1 hy with hy | hy
      · exact hv y hy
      · simp at hy; omega) g2
theorem djobs_j0 (l : List Int) (hl : l.length ≤ 1048576) (k : Nat) (hk : 100 ≤ k) (n : Int) (hn : n ≤ 41) (i h : Int) (h0 : 0 ≤ i) (hn0 : 0 ≤ n) :
    ∃ r i' h', spec_l12DrawJobs.j0 k [] n l i h = some (r, i', h') ∧ r.length ≤ 41 ∧ (∀ x ∈ r, 0 ≤ x ∧ x ≤ 1001) ∧ 0 ≤ i' := by
  obtain ⟨k, rfl⟩ : ∃ m, k = m + 1 := ⟨k - 1, by omega⟩
  obtain ⟨m, rfl⟩ := Int.eq_ofNat_of_zero_le hn0
  rw [spec_l12DrawJobs.j0]
  exact djobs_l0 l hl m (by omega) m k 0 [] i h (by omega) (by omega) rfl (by simp) h0
theorem size_ (code : List Int) : ∃ t : Int, t ≤ 12 ∧ spec_l01Size.f code 12 = some t := by
  unfold spec_l01Size.f
  by_cases c : (wrap64 (2 + (wrap64 ((code.length : Int) / 16)))) > 12
  · exact ⟨12, by omega, ifp c rfl⟩
  · exact ⟨_, by omega, ifn c rfl⟩
theorem djobs (k : Nat) (l : List Int) (hl : l.length ≤ 1048576) (i h : Int) (code : List Int) (hc : code.length ≤ 1048576) (hk : 100 ≤ k) (h0 : 0 ≤ i) :
    ∃ r i' h', spec_l12DrawJobs.f k l i h code = some (r, i', h') ∧ r.length ≤ 41 ∧ (∀ x ∈ r, 0 ≤ x ∧ x ≤ 1001) ∧ 0 ≤ i' := by
  obtain ⟨t, ht, e⟩ := size_ code
  obtain ⟨n, i1, h1, e1, g0, g1, g2⟩ := below_ l i h t h0 hl
  obtain ⟨b, i2, h2, e2, g3⟩ := once_ l i1 h1 30 g2 hl
  cases b with
  | false =>
    obtain ⟨r, i', h', e4, f1, f2, f3⟩ := djobs_j0 l hl k hk n (by omega) i2 h2 g3 g0
    refine ⟨r, i', h', ?_, f1, f2, f3⟩
    unfold spec_l12DrawJobs.f
    exact st rfl (st e (st e1 (st e2 (ifn (by simp) e4))))
  | true =>
    obtain ⟨m, i3, h3, e3, y0, y1, y2⟩ := below_ l i2 h2 2 g3 hl
    have ew : wrap64 (40 + m) = 40 + m := w64 (by omega) (by omega)
    obtain ⟨r, i', h', e4, f1, f2, f3⟩ := djobs_j0 l hl k hk (wrap64 (40 + m)) (by omega) i3 h3 y2 (by omega)
    refine ⟨r, i', h', ?_, f1, f2, f3⟩
    unfold spec_l12DrawJobs.f
    exact st rfl (st e (st e1 (st e2 (ifp rfl (st e3 e4)))))
theorem dworkers (l : List Int) (hl : l.length ≤ 1048576) (i h : Int) (h0 : 0 ≤ i) : ∃ w i' h', spec_l12DrawWorkers.f l i h = some (w, i', h') ∧ 0 ≤ w ∧ w ≤ 7 ∧ 0 ≤ i' := by
  unfold spec_l12DrawWorkers.f
  obtain ⟨x, i1, h1, e1, hx, g1⟩ := pick_ l i h [1, 2, 3, 3, 6, 7, 0] (by simp) h0 hl
  rw [e1]
  simp only [Option.bind_some]
  try dsimp only
  refine ⟨x, i1, h1, rfl, ?_, ?_, g1⟩ <;> (simp at hx; omega)

def amin (free : List Int) : Nat → Nat → Nat → Nat
  | 0, _, b => b
  | d + 1, j, b => amin free d (j + 1) (if free.getD j 0 < free.getD b 0 then j else b)
def planL (jobs : List Int) (w : Nat) : List Int → List Int → List S53
  | [], _ => []
  | o :: r, free => ⟨o, (amin free (w - 1) 1 0 : Nat), free.getD (amin free (w - 1) 1 0) 0, wrap64 (free.getD (amin free (w - 1) 1 0) 0 + rd jobs o)⟩ :: planL jobs w r (free.set (amin free (w - 1) 1 0) (wrap64 (free.getD (amin free (w - 1) 1 0) 0 + rd jobs o)))
theorem planL_len (jobs : List Int) (w : Nat) (order : List Int) : ∀ free, (planL jobs w order free).length = order.length := by
  induction order with
  | nil => intro free; rfl
  | cons o r ih => intro free; simp [planL, ih]
theorem spec_plan_in (jobs : List Int) (w : Nat) (hw1 : 1 ≤ w) (hw : w ≤ 6) (order : List Int) (out : List S53) (free : List Int) (hf : free.length = w) (i : Nat) (hi : i < order.length) (hom : order.length ≤ 100) (ho : 0 ≤ order.getD i 0 ∧ order.getD i 0 < (jobs.length : Int)) (hout : out.length ≤ 100) (K : Nat) : ∀ (d k j b : Nat), j + d = w → b < w → 1 ≤ j → K + d + 1 ≤ k →
    ∃ k', K ≤ k' ∧ spec_l12Plan.l1 k jobs (w : Int) order out free (i : Int) (b : Int) (j : Int) =
      spec_l12Plan.l0 k' jobs (w : Int) order (out ++ [(⟨order.getD i 0, (amin free d j b : Nat), free.getD (amin free d j b) 0, wrap64 (free.getD (amin free d j b) 0 + rd jobs (order.getD i 0))⟩ : S53)]) (free.set (amin free d j b) (wrap64 (free.getD (amin free d j b) 0 + rd jobs (order.getD i 0)))) ((i + 1 : Nat) : Int) := by
  intro d
  induction d with
  | zero =>
    intro k j b hj hb h1 hk
    obtain ⟨k, rfl⟩ : ∃ m, k = m + 1 := ⟨k - 1, by omega⟩
    refine ⟨k, by omega, ?_⟩
    rw [spec_l12Plan.l1, amin]
    simp only [rd_natD, Int.toNat_natCast, w64_succ i (by omega)]
    exact ifn (by omega) (ifp (by omega) (ifp (by omega) (ifp (by omega) (ifp (by omega) (ifp ho.1 (ifp ho.2 (ifp (by omega) rfl)))))))
  | succ d ih =>
    intro k j b hj hb h1 hk
    obtain ⟨k, rfl⟩ : ∃ m, k = m + 1 := ⟨k - 1, by omega⟩
    rw [spec_l12Plan.l1, w64_succ j (by omega)]
    by_cases c : free.getD j 0 < free.getD b 0
    · obtain ⟨k', g1, g2⟩ := ih k (j + 1) j (by omega) (by omega) (by omega) (by omega)
      have hv : amin free (d + 1) j b = amin free d (j + 1) j := by rw [amin, if_pos c]
      have hc : rd free (j : Int) < rd free (b : Int) := c
      rw [hv]
      exact ⟨k', g1, ifp (by omega) (ifp (by omega) (ifp (by omega) (ifp (by omega) (ifp (by omega) (ifp hc g2)))))⟩
    · obtain ⟨k', g1, g2⟩ := ih k (j + 1) b (by omega) (by omega) (by omega) (by omega)
      have hv : amin free (d + 1) j b = amin free d (j + 1) b := by rw [amin, if_neg c]
      have hc : ¬ rd free (j : Int) < rd free (b : Int) := c
      rw [hv]
      exact ⟨k', g1, ifp (by omega) (ifp (by omega) (ifp (by omega) (ifp (by omega) (ifp (by omega) (ifn hc g2)))))⟩
theorem spec_plan_l0 (jobs : List Int) (w : Nat) (hw1 : 1 ≤ w) (hw : w ≤ 6) (order : List Int) (hom : order.length ≤ 100) (ho : ∀ x ∈ order, 0 ≤ x ∧ x < (jobs.length : Int)) : ∀ (d k i : Nat) (out : List S53) (free : List Int), i + d = order.length → (d + 1) * 20 ≤ k → out.length ≤ i → free.length = w →
    spec_l12Plan.l0 k jobs (w : Int) order out free (i : Int) = some (out ++ planL jobs w (order.drop i) free) := by
  intro d
  induction d with
  | zero =>
    intro k i out free hi hk h1 hf
    obtain ⟨k, rfl⟩ : ∃ m, k = m + 1 := ⟨k - 1, by omega⟩
    rw [List.drop_of_length_le (by omega), spec_l12Plan.l0, planL, List.append_nil]
    exact ifn (by omega) rfl
  | succ d ih =>
    intro k i out free hi hk h1 hf
    obtain ⟨k, rfl⟩ : ∃ m, k = m + 1 := ⟨k - 1, by omega⟩
    rw [spec_l12Plan.l0, drop_getD order 0 i (by omega), planL]
    obtain ⟨k', g1, g2⟩ := spec_plan_in jobs w hw1 hw order out free hf i (by omega) hom (ho _ (mem_getD order 0 i (by omega))) (by omega) ((d + 1) * 20) (w - 1) k 1 0 (by omega) (by omega) (by omega) (by omega)
    have g3 := ih k' (i + 1) (out ++ [(⟨order.getD i 0, (amin free (w - 1) 1 0 : Nat), free.getD (amin free (w - 1) 1 0) 0, wrap64 (free.getD (amin free (w - 1) 1 0) 0 + rd jobs (order.getD i 0))⟩ : S53)]) (free.set (amin free (w - 1) 1 0) (wrap64 (free.getD (amin free (w - 1) 1 0) 0 + rd jobs (order.getD i 0)))) (by omega) g1 (by simp; omega) (by simpa using hf)
    rw [List.append_cons]
    exact ifp (by omega) (g2.trans g3)
theorem spec_plan (k : Nat) (jobs : List Int) (w : Int) (hw1 : 1 ≤ w) (hw : w ≤ 6) (order : List Int) (hom : order.length ≤ 100) (ho : ∀ x ∈ order, 0 ≤ x ∧ x < (jobs.length : Int)) (hk : 2100 ≤ k) : spec_l12Plan.f k jobs w order = some (planL jobs w.toNat order (List.replicate w.toNat 0)) := by
  obtain ⟨n, rfl⟩ := Int.eq_ofNat_of_zero_le (show 0 ≤ w by omega)
  unfold spec_l12Plan.f
  have := spec_plan_l0 jobs n (by omega) (by omega) order hom ho order.length k 0 [] (List.replicate n 0) (by omega) (by omega) (by simp) (by simp)
  simp only [List.nil_append, List.drop_zero] at this
  exact ifp (by omega) (ifp (by simp; omega) this)
def upTo : Nat → Nat → List Int
  | _, 0 => []
  | i, n + 1 => (i : Int) :: upTo (i + 1) n
theorem upTo_len : ∀ n i, (upTo i n).length = n := by
  intro n
  induction n with
  | zero => intro i; rfl
  | succ n ih => intro i; simp [upTo, ih]
theorem upTo_mem : ∀ n i, ∀ x ∈ upTo i n, (i : Int) ≤ x ∧ x < (i : Int) + n := by
  intro n
  induction n with
  | zero => intro i x hx; simp [upTo] at hx
  | succ n ih =>
    intro i x hx
    simp only [upTo, List.mem_cons] at hx
    rcases hx with rfl | hx
    · omega
    · have := ih (i + 1) x hx
      omega
def listPl (jobs : List Int) (w : Int) : List S53 := planL jobs w.toNat (upTo 0 jobs.length) (List.replicate w.toNat 0)
theorem spec_list_l0 (jobs : List Int) (w : Int) (hw1 : 1 ≤ w) (hw : w ≤ 6) (hj : jobs.length ≤ 40) : ∀ (d k i : Nat) (acc : List Int), i + d = jobs.length → d + 2200 ≤ k → acc = upTo 0 i →
    spec_ListPlan.l0 k jobs w acc (i : Int) = some (listPl jobs w, true) := by
  intro d
  induction d with
  | zero =>
    intro k i acc hi hk ha
    obtain ⟨k, rfl⟩ : ∃ m, k = m + 1 := ⟨k - 1, by omega⟩
    have hi2 : i = jobs.length := by omega
    subst ha
    rw [spec_ListPlan.l0]
    refine ifn (by omega) (st (spec_plan k jobs w hw1 hw _ (by rw [upTo_len]; omega) (fun x hx => by have := upTo_mem _ _ x hx; omega) (by omega)) ?_)
    rw [hi2]; rfl
  | succ d ih =>
    intro k i acc hi hk ha
    obtain ⟨k, rfl⟩ : ∃ m, k = m + 1 := ⟨k - 1, by omega⟩
    have hs : ∀ n i, upTo i (n + 1) = upTo i n ++ [((i + n : Nat) : Int)] := by
      intro n
      induction n with
      | zero => intro i; simp [upTo]
      | succ n ih2 =>
        intro i
        rw [upTo, ih2 (i + 1), upTo]
        simp
        omega
    rw [spec_ListPlan.l0, w64_succ i (by omega)]
    have hl : acc.length = i := by rw [ha, upTo_len]
    exact ifp (by omega) (ifp (by omega) (ih k (i + 1) (acc ++ [(i : Int)]) (by omega) (by omega) (by rw [ha, hs i 0]; simp)))
def isPl (jobs : List Int) (w : Int) : Bool := jOk jobs && decide (1 ≤ w ∧ w ≤ 6)
theorem spec_listpl (k : Nat) (jobs : List Int) (w : Int) (hm : jobs.length ≤ 1048576) (hk : 1048600 ≤ k) : spec_ListPlan.f k jobs w = some (if isPl jobs w = true then (listPl jobs w, true) else ([], false)) := by
  obtain ⟨k, rfl⟩ : ∃ m, k = m + 1 := ⟨k - 1, by omega⟩
  unfold spec_ListPlan.f isPl
  rw [spec_jOk (k + 1) jobs hm (by omega)]
  simp only [Option.bind_some, spec_in]
  by_cases c1 : jOk jobs = true
  · have hj := jOk_len c1
    rw [if_pos c1, c1, Bool.true_and]
    by_cases c2 : 1 ≤ w ∧ w ≤ 6
    · rw [decide_eq_true c2, if_pos rfl, spec_ListPlan.j0]
      exact ifn (by simp) (spec_list_l0 jobs w c2.1 c2.2 hj jobs.length k 0 [] (by omega) (by omega) rfl)
    · rw [decide_eq_false c2, if_neg (by simp), spec_ListPlan.j0]
      exact ifp rfl rfl
  · have c1f : jOk jobs = false := by simpa using c1
    rw [if_neg c1, c1f, Bool.false_and, if_neg (by simp), spec_ListPlan.j0]
    exact ifp rfl rfl

def insL (jobs : List Int) (i : Int) : List Int → List Int
  | [] => [i]
  | o :: r => if rd jobs i > rd jobs o then i :: o :: r else o :: insL jobs i r
def ordL (jobs : List Int) : Nat → List Int
  | 0 => []
  | n + 1 => insL jobs (n : Int) (ordL jobs n)
theorem insL_len (jobs : List Int) (i : Int) (l : List Int) : (insL jobs i l).length = l.length + 1 := by
  induction l with
  | nil => rfl
  | cons o r ih =>
    simp only [insL]
    split
    · simp
    · simp [ih]
theorem insL_mem (jobs : List Int) (i x : Int) (l : List Int) : x ∈ insL jobs i l ↔ x = i ∨ x ∈ l := by
  induction l with
  | nil => simp [insL]
  | cons o r ih =>
    simp only [insL]
    split
    · simp
    · simp only [List.mem_cons, ih]
      constructor
      · rintro (h | h | h)
        · exact .inr (.inl h)
        · exact .inl h
        · exact .inr (.inr h)
      · rintro (h | h | h)
        · exact .inr (.inl h)
        · exact .inl h
        · exact .inr (.inr h)
theorem ordL_len (jobs : List Int) (n : Nat) : (ordL jobs n).length = n := by
  induction n with
  | zero => rfl
  | succ n ih => rw [ordL, insL_len, ih]
theorem ordL_mem (jobs : List Int) (n : Nat) : ∀ x ∈ ordL jobs n, 0 ≤ x ∧ x < (n : Int) := by
  induction n with
  | zero => intro x hx; simp [ordL] at hx
  | succ n ih =>
    intro x hx
    rw [ordL, insL_mem] at hx
    rcases hx with rfl | hx
    · omega
    · have := ih x hx
      omega
theorem long_put (jobs : List Int) (w : Int) (order : List Int) (i : Nat) (hi : i < 40) (ho : order.length ≤ 40) (K : Nat) : ∀ (d k j : Nat) (nx : List Int), j + d = order.length → K + d + 1 ≤ k → nx.length ≤ 100 - d →
    ∃ k', K ≤ k' ∧ spec_LongestFirst.l1 k jobs w order (i : Int) nx true (j : Int) = spec_LongestFirst.l0 k' jobs w (nx ++ order.drop j) ((i + 1 : Nat) : Int) := by
  intro d
  induction d with
  | zero =>
    intro k j nx hj hk hn
    obtain ⟨k, rfl⟩ : ∃ m, k = m + 1 := ⟨k - 1, by omega⟩
    refine ⟨k, by omega, ?_⟩
    rw [spec_LongestFirst.l1, List.drop_of_length_le (by omega), List.append_nil, w64_succ i (by omega)]
    exact ifn (by omega) (ifp (by trivial) rfl)
  | succ d ih =>
    intro k j nx hj hk hn
    obtain ⟨k, rfl⟩ : ∃ m, k = m + 1 := ⟨k - 1, by omega⟩
    obtain ⟨k', g1, g2⟩ := ih k (j + 1) (nx ++ [order.getD j 0]) (by omega) (by omega) (by simp; omega)
    refine ⟨k', g1, ?_⟩
    have ea : nx ++ order.getD j 0 :: order.drop (j + 1) = nx ++ [order.getD j 0] ++ order.drop (j + 1) := by simp
    rw [spec_LongestFirst.l1, drop_getD order 0 j (by omega), ea, w64_succ j (by omega)]
    simp only [rd_natD]
    exact ifp (by omega) (ifp (by trivial) (ifp (by omega) (ifp (by omega) g2)))
theorem long_in (jobs : List Int) (w : Int) (order : List Int) (i : Nat) (hij : i < jobs.length) (hi : i < 40) (ho : order.length ≤ 40) (hom : ∀ x ∈ order, 0 ≤ x ∧ x < (jobs.length : Int)) (K : Nat) : ∀ (d k j : Nat) (nx : List Int), j + d = order.length → K + d + 2 ≤ k → nx.length ≤ 90 - d →
    ∃ k', K ≤ k' ∧ spec_LongestFirst.l1 k jobs w order (i : Int) nx false (j : Int) = spec_LongestFirst.l0 k' jobs w (nx ++ insL jobs (i : Int) (order.drop j)) ((i + 1 : Nat) : Int) := by
  intro d
  induction d with
  | zero =>
    intro k j nx hj hk hn
    obtain ⟨k, rfl⟩ : ∃ m, k = m + 1 := ⟨k - 1, by omega⟩
    refine ⟨k, by omega, ?_⟩
    rw [spec_LongestFirst.l1, List.drop_of_length_le (by omega), insL, w64_succ i (by omega)]
    exact ifn (by omega) (ifn (by simp) (ifp (by omega) rfl))
  | succ d ih =>
    intro k j nx hj hk hn
    obtain ⟨k, rfl⟩ : ∃ m, k = m + 1 := ⟨k - 1, by omega⟩
    have hm := hom _ (mem_getD order 0 j (by omega))
    have e1 : rd order (j : Int) = order.getD j 0 := rd_natD order j
    rw [spec_LongestFirst.l1, drop_getD order 0 j (by omega), e1, w64_succ j (by omega)]
    by_cases c : rd jobs (i : Int) > rd jobs (order.getD j 0)
    · obtain ⟨k', g1, g2⟩ := long_put jobs w order i hi ho K d k (j + 1) (nx ++ [(i : Int)] ++ [order.getD j 0]) (by omega) (by omega) (by simp; omega)
      refine ⟨k', g1, ?_⟩
      have e2 : nx ++ insL jobs (i : Int) (order.getD j 0 :: order.drop (j + 1)) = nx ++ [(i : Int)] ++ [order.getD j 0] ++ order.drop (j + 1) := by rw [insL, if_pos c]; simp
      rw [e2]
      exact ifp (by omega) (ifn (by simp) (ifp (by omega) (ifp (by omega) (ifp (by omega) (ifp hm.1 (ifp hm.2 (ifp c (ifp (by omega) (st rfl (ifp (by simp; omega) g2))))))))))
    · obtain ⟨k', g1, g2⟩ := ih k (j + 1) (nx ++ [order.getD j 0]) (by omega) (by omega) (by simp; omega)
      refine ⟨k', g1, ?_⟩
      have e2 : nx ++ insL jobs (i : Int) (order.getD j 0 :: order.drop (j + 1)) = nx ++ [order.getD j 0] ++ insL jobs (i : Int) (order.drop (j + 1)) := by rw [insL, if_neg c]; simp
      rw [e2]
      exact ifp (by omega) (ifn (by simp) (ifp (by omega) (ifp (by omega) (ifp (by omega) (ifp hm.1 (ifp hm.2 (ifn c (ifp (by omega) g2))))))))
def longPl (jobs : List Int) (w : Int) : List S53 := planL jobs w.toNat (ordL jobs jobs.length) (List.replicate w.toNat 0)
theorem spec_long_l0 (jobs : List Int) (w : Int) (hw1 : 1 ≤ w) (hw : w ≤ 6) (hj : jobs.length ≤ 40) : ∀ (d k i : Nat), i + d = jobs.length → 60 * d + 2260 ≤ k → spec_LongestFirst.l0 k jobs w (ordL jobs i) (i : Int) = some (longPl jobs w, true) := by
  intro d
  induction d with
  | zero =>
    intro k i hi hk
    obtain ⟨k, rfl⟩ : ∃ m, k = m + 1 := ⟨k - 1, by omega⟩
    have hi2 : i = jobs.length := by omega
    rw [spec_LongestFirst.l0]
    refine ifn (by omega) (st (spec_plan k jobs w hw1 hw _ (by rw [ordL_len]; omega) (fun x hx => by have := ordL_mem _ _ x hx; omega) (by omega)) ?_)
    rw [hi2]; rfl
  | succ d ih =>
    intro k i hi hk
    obtain ⟨k, rfl⟩ : ∃ m, k = m + 1 := ⟨k - 1, by omega⟩
    have hl := ordL_len jobs i
    have hm2 : ∀ x ∈ ordL jobs i, 0 ≤ x ∧ x < (jobs.length : Int) := fun x hx => by
      have := ordL_mem _ _ x hx
      omega
    have hij : i < jobs.length := by omega
    have hi40 : i < 40 := by omega
    have ho40 : (ordL jobs i).length ≤ 40 := by omega
    have hz : 0 + (ordL jobs i).length = (ordL jobs i).length := Nat.zero_add _
    have hn : ([] : List Int).length ≤ 90 - (ordL jobs i).length := Nat.zero_le _
    obtain ⟨K, hK⟩ : ∃ K, K = 60 * d + 2260 := ⟨_, rfl⟩
    have hk3 : K + (ordL jobs i).length + 2 ≤ k := by
      clear ih hm2
      omega
    obtain ⟨k', g1, g2⟩ := long_in jobs w (ordL jobs i) i hij hi40 ho40 hm2 K (ordL jobs i).length k 0 [] hz hk3 hn
    have z0 : ((0 : Nat) : Int) = 0 := rfl
    rw [z0, List.nil_append, List.drop_zero] at g2
    rw [hK] at g1
    have g3 := ih k' (i + 1) (by omega) g1
    rw [spec_LongestFirst.l0]
    exact ifp (by omega) (g2.trans g3)
theorem spec_longpl (k : Nat) (jobs : List Int) (w : Int) (hm : jobs.length ≤ 1048576) (hk : 1048600 ≤ k) : spec_LongestFirst.f k jobs w = some (if isPl jobs w = true then (longPl jobs w, true) else ([], false)) := by
  obtain ⟨k, rfl⟩ : ∃ m, k = m + 1 := ⟨k - 1, by omega⟩
  unfold spec_LongestFirst.f isPl
  rw [spec_jOk (k + 1) jobs hm (by omega)]
  simp only [Option.bind_some, spec_in]
  by_cases c1 : jOk jobs = true
  · have hj := jOk_len c1
    rw [if_pos c1, c1, Bool.true_and]
    by_cases c2 : 1 ≤ w ∧ w ≤ 6
    · rw [decide_eq_true c2, if_pos rfl, spec_LongestFirst.j0]
      exact ifn (by simp) (spec_long_l0 jobs w c2.1 c2.2 hj jobs.length k 0 (by omega) (by omega))
    · rw [decide_eq_false c2, if_neg (by simp), spec_LongestFirst.j0]
      exact ifp rfl rfl
  · have c1f : jOk jobs = false := by simpa using c1
    rw [if_neg c1, c1f, Bool.false_and, if_neg (by simp), spec_LongestFirst.j0]
    exact ifp rfl rfl

theorem w64_bd (x : Int) : -9223372036854775808 ≤ wrap64 x ∧ wrap64 x ≤ 9223372036854775807 := by unfold wrap64; omega
def I64 (s : S53) : Prop := -9223372036854775808 ≤ s.f3 ∧ s.f3 ≤ 9223372036854775807
theorem planL_i64 (jobs : List Int) (w : Nat) (order : List Int) : ∀ free, ∀ s ∈ planL jobs w order free, I64 s := by
  induction order with
  | nil => intro free s hs; simp [planL] at hs
  | cons o r ih =>
    intro free s hs
    simp only [planL, List.mem_cons] at hs
    rcases hs with rfl | hs
    · exact w64_bd _
    · exact ih _ s hs
theorem set_i64 {l : List S53} (h : ∀ s ∈ l, I64 s) (i : Nat) (x : S53) (hx : I64 x) : ∀ s ∈ l.set i x, I64 s := by
  intro s hs
  rcases List.mem_or_eq_of_mem_set hs with hs | rfl
  · exact h s hs
  · exact hx
theorem rd_i64 {l : List S53} (h : ∀ s ∈ l, I64 s) (i : Int) : I64 (rd_T53 l i) := by
  simp only [rd_T53]
  by_cases c : i.toNat < l.length
  · exact h _ (mem_getD l z53 _ c)
  · rw [List.getD_eq_getElem?_getD, List.getElem?_eq_none (by omega)]
    exact ⟨by decide, by decide⟩
theorem dplan_j1 (k : Nat) (hk : 1 ≤ k) (jobs : List Int) (w : Int) (plan : List S53) (b : Bool) (hb : b = true → 0 < plan.length) (l : List Int) (hl : l.length ≤ 1048576) (i h : Int) (h0 : 0 ≤ i) (hp : plan.length ≤ 41) (hv : ∀ s ∈ plan, I64 s) :
    ∃ plan' i' h', spec_l12DrawPlan.j1 k jobs w plan b l i h = some (jobs, w, plan', i', h') ∧ plan'.length ≤ 41 ∧ ∀ s ∈ plan', I64 s := by
  obtain ⟨k, rfl⟩ : ∃ m, k = m + 1 := ⟨k - 1, by omega⟩
  rw [spec_l12DrawPlan.j1]
  cases b with
  | false => exact ⟨plan, i, h, ifn (by simp) rfl, hp, hv⟩
  | true =>
    have hpos := hb rfl
    obtain ⟨x, i1, h1, e1, x0, x1, g1⟩ := below_ l i h (plan.length : Int) h0 hl
    obtain ⟨y, i2, h2, e2, y0, y1, g2⟩ := below_ l i1 h1 4 g1 hl
    have hx : x < (plan.length : Int) := by omega
    rw [if_pos rfl, e1]
    simp only [Option.bind_some]
    try dsimp only
    rw [e2]
    simp only [Option.bind_some]
    try dsimp only
    by_cases c0 : y = 0
    · refine ⟨_, i2, h2, ifp c0 (ifp x0 (ifp hx (st rfl rfl))), by simp; omega, ?_⟩
      refine set_i64 (set_i64 hv _ _ ?_) _ _ ?_
      · exact rd_i64 hv x
      · exact w64_bd _
    · by_cases c1 : y = 1
      · obtain ⟨z, i3, h3, e3, z0, z1, g3⟩ := below_ l i2 h2 8 g2 hl
        exact ⟨_, i3, h3, ifn c0 (ifp c1 (st e3 (ifp x0 (ifp hx rfl)))), by simp; omega, set_i64 hv _ _ (rd_i64 hv x)⟩
      · by_cases c2 : y = 2
        · obtain ⟨z, i3, h3, e3, z0, z1, g3⟩ := below_ l i2 h2 (wrap64 ((plan.length : Int) + 1)) g2 hl
          exact ⟨_, i3, h3, ifn c0 (ifn c1 (ifp c2 (st e3 (ifp x0 (ifp hx rfl))))), by simp; omega, set_i64 hv _ _ (rd_i64 hv x)⟩
        · have c3 : y = 3 := by omega
          refine ⟨_, i2, h2, ifn c0 (ifn c1 (ifn c2 (ifp c3 (ifp x0 (ifp hx rfl))))), by simp; omega, ?_⟩
          refine set_i64 hv _ _ ?_
          exact w64_bd _
theorem dplan_j0 (k : Nat) (hk : 2 ≤ k) (jobs : List Int) (w : Int) (plan : List S53) (l : List Int) (hl : l.length ≤ 1048576) (i h : Int) (h0 : 0 ≤ i) (hp : plan.length ≤ 41) (hv : ∀ s ∈ plan, I64 s) :
    ∃ plan' i' h', spec_l12DrawPlan.j0 k jobs w plan l i h = some (jobs, w, plan', i', h') ∧ plan'.length ≤ 41 ∧ ∀ s ∈ plan', I64 s := by
  obtain ⟨k, rfl⟩ : ∃ m, k = m + 1 := ⟨k - 1, by omega⟩
  rw [spec_l12DrawPlan.j0]
  obtain ⟨b, i1, h1, e1, g1⟩ := once_ l i h 3 h0 hl
  rw [e1]
  simp only [Option.bind_some]
  try dsimp only
  cases b with
  | false =>
    rw [if_neg (by simp)]
    exact dplan_j1 k (by omega) jobs w plan false (by simp) l hl i1 h1 g1 hp hv
  | true =>
    rw [if_pos rfl]
    exact dplan_j1 k (by omega) jobs w plan _ (by intro hh; have := of_decide_eq_true hh; omega) l hl i1 h1 g1 hp hv
theorem pl_ok (b : Bool) (p : List S53) (hp : p.length ≤ 41) (hv : ∀ s ∈ p, I64 s) : (if b = true then (p, true) else (([] : List S53), false)).1.length ≤ 41 ∧ ∀ s ∈ (if b = true then (p, true) else (([] : List S53), false)).1, I64 s := by
  cases b with
  | true => exact ⟨hp, hv⟩
  | false => exact ⟨by simp, by simp⟩
theorem dplan (k : Nat) (l : List Int) (hl : l.length ≤ 1048576) (hk : 1048700 ≤ k) : ∃ jobs w plan, spec_DrawPlanOk.f k l = some (jobs, w, plan) ∧ jobs.length ≤ 41 ∧ (∀ x ∈ jobs, 0 ≤ x ∧ x ≤ 1001) ∧ plan.length ≤ 41 ∧ ∀ s ∈ plan, I64 s := by
  obtain ⟨h, e⟩ := new_ k l (by omega)
  obtain ⟨jobs, i1, h1, e1, j1, j2, g1⟩ := djobs k l hl 0 h l hl (by omega) (by omega)
  obtain ⟨w, i2, h2, e2, w0, w1, g2⟩ := dworkers l hl i1 h1 g1
  have e3 := spec_listpl k jobs w (by omega) (by omega)
  obtain ⟨b, i3, h3, e4, g3⟩ := once_ l i2 h2 2 g2 hl
  cases b with
  | false =>
    have hp := pl_ok (isPl jobs w) (listPl jobs w) (by rw [listPl, planL_len, upTo_len]; exact j1) (planL_i64 _ _ _ _)
    generalize (if isPl jobs w = true then (listPl jobs w, true) else (([] : List S53), false)) = q at e3 hp
    obtain ⟨plan, i4, h4, e5, p1, p2⟩ := dplan_j0 k (by omega) jobs w q.1 l hl i3 h3 g3 hp.1 hp.2
    refine ⟨jobs, w, plan, ?_, j1, j2, p1, p2⟩
    unfold spec_DrawPlanOk.f spec_l12DrawPlan.f
    exact st e (st (st e1 (st e2 (st e3 (st e4 (ifn (by simp) e5))))) rfl)
  | true =>
    have e6 := spec_longpl k jobs w (by omega) (by omega)
    have hp := pl_ok (isPl jobs w) (longPl jobs w) (by rw [longPl, planL_len, ordL_len]; exact j1) (planL_i64 _ _ _ _)
    generalize (if isPl jobs w = true then (longPl jobs w, true) else (([] : List S53), false)) = q at e6 hp
    obtain ⟨plan, i4, h4, e5, p1, p2⟩ := dplan_j0 k (by omega) jobs w q.1 l hl i3 h3 g3 hp.1 hp.2
    refine ⟨jobs, w, plan, ?_, j1, j2, p1, p2⟩
    unfold spec_DrawPlanOk.f spec_l12DrawPlan.f
    exact st e (st (st e1 (st e2 (st e3 (st e4 (ifp rfl (st e6 e5)))))) rfl)

def sumI : List Int → Int
  | [] => 0
  | x :: r => x + sumI r
theorem sumI_append (a b : List Int) : sumI (a ++ b) = sumI a + sumI b := by
  induction a with
  | nil => simp [sumI]
  | cons x r ih => simp only [List.cons_append, sumI, ih]; omega
theorem sumI_set (l : List Int) : ∀ (i : Nat) (v : Int), i < l.length → sumI (l.set i v) = sumI l - l.getD i 0 + v := by
  induction l with
  | nil => intro i v h; simp at h
  | cons x r ih =>
    intro i v h
    cases i with
    | zero => simp [sumI]; omega
    | succ i =>
      have := ih i v (by simpa using h)
      simp only [List.set_cons_succ, sumI, List.getD_cons_succ, this]
      omega
theorem len_le : ∀ (n : Nat) (p : List Nat), p.Nodup → (∀ x ∈ p, x < n) → p.length ≤ n := by
  intro n
  induction n with
  | zero =>
    intro p _ h
    cases p with
    | nil => simp
    | cons x r => exact absurd (h x (by simp)) (by omega)
  | succ n ih =>
    intro p hd h
    by_cases c : n ∈ p
    · have h1 := ih (p.erase n) (hd.erase n) (fun x hx => by
        have h2 := (List.Nodup.mem_erase_iff hd).1 hx
        have := h x h2.2
        have := h2.1
        omega)
      rw [List.length_erase_of_mem c] at h1
      omega
    · have := ih p hd (fun x hx => by
        have := h x hx
        have : x ≠ n := fun e => c (e ▸ hx)
        omega)
      omega
def sumN (f : Nat → Int) : List Nat → Int
  | [] => 0
  | x :: r => f x + sumN f r
theorem sumN_erase (f : Nat → Int) (n : Nat) (p : List Nat) (h : n ∈ p) : sumN f p = f n + sumN f (p.erase n) := by
  induction p with
  | nil => simp at h
  | cons x r ih =>
    by_cases c : x = n
    · subst c; simp [sumN]
    · have hn : n ∈ r := by
        rcases List.mem_cons.1 h with e | e
        · exact absurd e.symm c
        · exact e
      have e2 : (x :: r).erase n = x :: r.erase n := by rw [List.erase_cons_tail (by simpa using c)]
      rw [e2]
      simp only [sumN, ih hn]
      omega
theorem sum_all (f : Nat → Int) : ∀ (n : Nat) (p : List Nat), p.Nodup → (∀ x ∈ p, x < n) → p.length = n → sumN f p = sumN f (List.range n) := by
  intro n
  induction n with
  | zero =>
    intro p _ _ h
    cases p with
    | nil => rfl
    | cons x r => simp at h
  | succ n ih =>
    intro p hd h hl
    have c : n ∈ p := by
      apply Classical.byContradiction
      intro c
      have := len_le n p hd (fun x hx => by
        have := h x hx
        have : x ≠ n := fun e => c (e ▸ hx)
        omega)
      omega
    have h1 := ih (p.erase n) (hd.erase n) (fun x hx => by
        have h2 := (List.Nodup.mem_erase_iff hd).1 hx
        have := h x h2.2
        have := h2.1
        omega) (by rw [List.length_erase_of_mem c]; omega)
    rw [sumN_erase f n p c, h1, List.range_succ]
    have : ∀ (a : List Nat) (z : Nat), sumN f (a ++ [z]) = sumN f a + f z := by
      intro a z
      induction a with
      | nil => simp [sumN]
      | cons y r ih => simp only [List.cons_append, sumN, ih]; omega
    rw [this]
    omega
theorem sumN_range (l : List Int) : sumN (fun i => l.getD i 0) (List.range l.length) = sumI l := by
  have key : ∀ (n : Nat), n ≤ l.length → sumN (fun i => l.getD i 0) (List.range n) = sumI (l.take n) := by
    intro n
    induction n with
    | zero => intro _; simp [sumN, sumI]
    | succ n ih =>
      intro hn
      have h2 : ∀ (a : List Nat) (z : Nat), sumN (fun i => l.getD i 0) (a ++ [z]) = sumN (fun i => l.getD i 0) a + l.getD z 0 := by
        intro a z
        induction a with
        | nil => simp [sumN]
        | cons y r ih => simp only [List.cons_append, sumN, ih]; omega
      rw [List.range_succ, h2, ih (by omega), take_succ_getD l 0 n (by omega), sumI_append]
      simp [sumI]
  have := key l.length (Nat.le_refl _)
  rwa [List.take_length] at this
structure PlanGood (jobs : List Int) (w : Int) (l : List S53) : Prop where
  rng : ∀ s ∈ l, (0 ≤ s.f0 ∧ s.f0 < (jobs.length : Int)) ∧ (0 ≤ s.f1 ∧ s.f1 ≤ w - 1) ∧ (0 ≤ s.f2 ∧ s.f2 ≤ 1000000000) ∧ s.f3 = s.f2 + rd jobs s.f0
  apart : l.Pairwise (fun s t => s.f0 ≠ t.f0 ∧ ¬ (s.f1 = t.f1 ∧ s.f2 < t.f3 ∧ t.f2 < s.f3))
  len : l.length = jobs.length
theorem anyB_no (l : List S53) (a b c d : Int) : ∀ (n j : Nat), anyB l a b c d j n = false → ∀ i, j ≤ i → i < j + n → badS (l.getD i z53) a b c d = false := by
  intro n
  induction n with
  | zero => intro j _ i h1 h2; omega
  | succ n ih =>
    intro j h i h1 h2
    simp only [anyB, Bool.or_eq_false_iff] at h
    by_cases e : i = j
    · rw [e]; exact h.1
    · exact ih (j + 1) h.2 i (by omega) (by omega)
theorem okP_all (jobs : List Int) (w : Int) (l : List S53) : ∀ (n i : Nat), okP jobs w l i n = true → ∀ j, i ≤ j → j < i + n →
    ((0 ≤ (l.getD j z53).f0 ∧ (l.getD j z53).f0 ≤ (jobs.length : Int) - 1) ∧ (0 ≤ (l.getD j z53).f1 ∧ (l.getD j z53).f1 ≤ w - 1) ∧ (0 ≤ (l.getD j z53).f2 ∧ (l.getD j z53).f2 ≤ 1000000000) ∧ wrap64 ((l.getD j z53).f3 - (l.getD j z53).f2) = rd jobs (l.getD j z53).f0) ∧ anyB l (l.getD j z53).f0 (l.getD j z53).f1 (l.getD j z53).f2 (l.getD j z53).f3 0 j = false := by
  intro n
  induction n with
  | zero => intro i _ j h1 h2; omega
  | succ n ih =>
    intro i h j h1 h2
    simp only [okP, Bool.and_eq_true, decide_eq_true_eq, Bool.not_eq_true', bne_eq_false_iff_eq] at h
    by_cases e : j = i
    · rw [e]; exact ⟨⟨h.1.1, h.1.2.1, h.1.2.2.1, h.1.2.2.2⟩, h.2.1⟩
    · exact ih (i + 1) h.2.2 j (by omega) (by omega)
theorem plan_good (jobs : List Int) (w : Int) (l : List S53) (hl : l.length = jobs.length) (hj : ∀ x ∈ jobs, 1 ≤ x ∧ x ≤ 1000) (hv : ∀ s ∈ l, I64 s) (h : okP jobs w l 0 l.length = true) : PlanGood jobs w l := by
  have H := okP_all jobs w l l.length 0 h
  refine ⟨fun s hs => ?_, ?_, hl⟩
  · obtain ⟨i, hi, rfl⟩ := List.getElem_of_mem hs
    have h1 := (H i (by omega) (by omega)).1
    have h3 := hv _ hs
    have e : l.getD i z53 = l[i] := by simp [hi]
    rw [e] at h1
    have h2 := hj (rd jobs l[i].f0) (mem_getD jobs 0 _ (by omega))
    refine ⟨by omega, h1.2.1, h1.2.2.1, ?_⟩
    have h4 := h1.2.2.2
    have h5 := h1.2.2.1
    unfold I64 at h3
    unfold wrap64 at h4
    omega
  · rw [List.pairwise_iff_getElem]
    intro i j hi hj2 hij
    have h1 := (H j (by omega) (by omega)).2
    have e : l.getD j z53 = l[j] := by simp [hj2]
    rw [e] at h1
    have h2 := anyB_no l _ _ _ _ j 0 h1 i (by omega) (by omega)
    have e2 : l.getD i z53 = l[i] := by simp [hi]
    rw [e2, badS, decide_eq_false_iff_not] at h2
    exact ⟨fun e => h2 (.inl e), fun e => h2 (.inr e)⟩
theorem atl_le {jobs : List Int} {w : Int} {l : List S53} (h : PlanGood jobs w l) (t v : Int) : (atl t v l).length ≤ 1 := by
  unfold atl
  rw [List.length_map]
  have hp := h.apart.filter (atq t v)
  have hm : ∀ s ∈ l.filter (atq t v), s.f1 = v ∧ s.f2 ≤ t ∧ t < s.f3 := fun s hs => by
    have := (List.mem_filter.1 hs).2
    simpa [atq] using this
  generalize l.filter (atq t v) = q at hp hm
  match q, hp, hm with
  | [], _, _ => simp
  | [x], _, _ => simp
  | x :: y :: r, hp, hm =>
    have h1 := (List.pairwise_cons.1 hp).1 y (by simp)
    have h2 := hm x (by simp)
    have h3 := hm y (by simp)
    exact absurd ⟨by omega, by omega, by omega⟩ h1.2
theorem atl_none {jobs : List Int} {w : Int} {l : List S53} (h : PlanGood jobs w l) (t v : Int) (hv : w ≤ v) : atl t v l = [] := by
  unfold atl
  rw [List.map_eq_nil_iff, List.filter_eq_nil_iff]
  intro s hs
  have := (h.rng s hs).2.1
  simp only [atq, decide_eq_true_eq]
  omega
theorem atAll_le {jobs : List Int} {w : Int} {l : List S53} (h : PlanGood jobs w l) (t : Int) : ∀ (n : Nat) (v : Int), 0 ≤ v → v + n = 6 → ((atAll t l n v).length : Int) ≤ max 0 (w - v) := by
  intro n
  induction n with
  | zero => intro v _ _; simp [atAll]; omega
  | succ n ih =>
    intro v h0 h6
    rw [atAll, List.length_append]
    have h1 := ih (v + 1) (by omega) (by omega)
    by_cases c : w ≤ v
    · rw [atl_none h t v c]
      simp only [List.length_nil]
      omega
    · have := atl_le h t v
      omega
theorem spanF_ge (l : List S53) : ∀ m, m ≤ spanF m l ∧ ∀ s ∈ l, s.f3 ≤ spanF m l := by
  induction l with
  | nil => intro m; exact ⟨Int.le_refl _, by simp⟩
  | cons x r ih =>
    intro m
    rw [spanF]
    have := ih (if x.f3 > m then x.f3 else m)
    refine ⟨?_, fun s hs => ?_⟩
    · have h1 := this.1
      split at h1 <;> omega
    · rcases List.mem_cons.1 hs with rfl | hs
      · have h1 := this.1
        split at h1 <;> omega
      · exact this.2 s hs
theorem span_ge (l : List S53) : ∀ s ∈ l, s.f3 ≤ span l := by
  intro s hs
  unfold span
  cases l with
  | nil => simp at hs
  | cons x r =>
    rw [if_neg (by simp)]
    have := spanF_ge r x.f3
    simp only [List.getD_cons_zero, List.drop_succ_cons, List.drop_zero]
    rcases List.mem_cons.1 hs with rfl | hs
    · exact this.1
    · exact this.2 s hs
theorem atAll_late (t : Int) (l : List S53) (ht : span l ≤ t) : ∀ (n : Nat) (v : Int), atAll t l n v = [] := by
  intro n
  induction n with
  | zero => intro v; rfl
  | succ n ih =>
    intro v
    rw [atAll, ih, List.append_nil]
    unfold atl
    rw [List.map_eq_nil_iff, List.filter_eq_nil_iff]
    intro s hs
    have := span_ge l s hs
    simp only [atq, decide_eq_true_eq]
    omega
theorem loads_sum (jobs : List Int) (l : List S53) (w : Int) (hw : 1 ≤ w) (hw2 : w ≤ 6) (hm : l.length ≤ 41) (hg : ∀ s ∈ l, (0 ≤ s.f1 ∧ s.f1 ≤ w - 1) ∧ 0 ≤ s.f3 - s.f2 ∧ s.f3 - s.f2 ≤ 1001) : ∀ (d k i : Nat) (o : List Int), i + d = l.length → d < k → (o.length : Int) = w → (∀ x ∈ o, 0 ≤ x ∧ x ≤ (i : Int) * 1001) →
    ∃ r, impl_LoadsOf.l0 k w o l (l.length : Int) (i : Int) = some r ∧ (r.length : Int) = w ∧ (∀ x ∈ r, 0 ≤ x ∧ x ≤ 100000) ∧ sumI r = sumI o + sumI ((l.drop i).map (fun s => s.f3 - s.f2)) := by
  intro d
  induction d with
  | zero =>
    intro k i o hi hk ho hx
    obtain ⟨k, rfl⟩ : ∃ m, k = m + 1 := ⟨k - 1, by omega⟩
    rw [List.drop_of_length_le (by omega)]
    exact ⟨o, by rw [impl_LoadsOf.l0]; exact ifn (by omega) rfl, ho, fun x h => by have := hx x h; omega, by simp [sumI]⟩
  | succ d ih =>
    intro k i o hi hk ho hx
    obtain ⟨k, rfl⟩ : ∃ m, k = m + 1 := ⟨k - 1, by omega⟩
    have hw1 : wrap64 (w - 1) = w - 1 := w64 (by omega) (by omega)
    have hs := hg _ (mem_getD l z53 i (by omega))
    rw [drop_getD l z53 i (by omega)]
    simp only [impl_LoadsOf.l0, impl_in_, Option.bind_some, rd_T53, Int.toNat_natCast, hw1, w64_succ i (by omega)]
    have hi2 : (l.getD i z53).f1.toNat < o.length := by omega
    have hox := hx _ (mem_getD o 0 (l.getD i z53).f1.toNat hi2)
    have e1 : wrap64 ((l.getD i z53).f3 - (l.getD i z53).f2) = (l.getD i z53).f3 - (l.getD i z53).f2 := w64 (by omega) (by omega)
    have e2 : rd o (l.getD i z53).f1 = o.getD (l.getD i z53).f1.toNat 0 := rfl
    rw [e1, e2, w64 (x := o.getD (l.getD i z53).f1.toNat 0 + ((l.getD i z53).f3 - (l.getD i z53).f2)) (by omega) (by omega)]
    obtain ⟨r, g1, g2, g3, g4⟩ := ih k (i + 1) (o.set (l.getD i z53).f1.toNat (o.getD (l.getD i z53).f1.toNat 0 + ((l.getD i z53).f3 - (l.getD i z53).f2))) (by omega) (by omega) (by simpa using ho) (fun x h => by
      rcases List.mem_or_eq_of_mem_set h with h | rfl
      · have := hx x h; omega
      · omega)
    refine ⟨r, ifp (by omega) (ifp (by omega) (ifp (by omega) (ifp (by simpa using hs.1) (ifp hs.1.1 (ifp (by omega) g1))))), g2, g3, ?_⟩
    rw [g4, sumI_set _ _ _ hi2]
    simp only [List.map_cons, sumI]
    omega
theorem costs_sum {jobs : List Int} {w : Int} {l : List S53} (h : PlanGood jobs w l) : sumI (l.map (fun s => s.f3 - s.f2)) = sumI jobs := by
  have e1 : sumI (l.map (fun s => s.f3 - s.f2)) = sumN (fun i => jobs.getD i 0) (l.map (fun s => s.f0.toNat)) := by
    have hr := h.rng
    clear h
    induction l with
    | nil => rfl
    | cons x r ih =>
      have := (hr x (by simp)).2.2.2
      have e : rd jobs x.f0 = jobs.getD x.f0.toNat 0 := rfl
      simp only [List.map_cons, sumI, sumN, ih (fun s hs => hr s (by simp [hs]))]
      omega
  rw [e1, sum_all _ jobs.length _ ?_ ?_ ?_, sumN_range]
  · have hp := h.apart
    have hr := h.rng
    clear h e1
    induction l with
    | nil => simp
    | cons x r ih =>
      have h1 := List.pairwise_cons.1 hp
      rw [List.map_cons, List.nodup_cons]
      refine ⟨fun hm => ?_, ih h1.2 (fun s hs => hr s (by simp [hs]))⟩
      obtain ⟨y, hy, e⟩ := List.mem_map.1 hm
      have h2 := h1.1 y hy
      have h3 := (hr x (by simp)).1
      have h4 := (hr y (by simp [hy])).1
      exact h2.1 (by omega)
  · intro x hx
    obtain ⟨y, hy, rfl⟩ := List.mem_map.1 hx
    have := (h.rng y hy).1
    omega
  · rw [List.length_map, h.len]

def planOkV (jobs : List Int) (w : Int) (l : List S53) : Bool := jOk jobs && (decide (1 ≤ w ∧ w ≤ 6) && (!((l.length : Int) != (jobs.length : Int)) && okP jobs w l 0 l.length))
theorem planok_v (k : Nat) (jobs : List Int) (w : Int) (l : List S53) (hjm : jobs.length ≤ 1048576) (hjv : ∀ x ∈ jobs, -9223372036854775808 ≤ x ∧ x ≤ 9223372036854775807) (hlv : ∀ x ∈ l, -9223372036854775808 ≤ x.f3 ∧ x.f3 ≤ 9223372036854775807) (hk : 1048600 ≤ k) : spec_PlanOk.f k jobs w l = some (planOkV jobs w l) ∧ impl_PlanOk.f k jobs w l = some (planOkV jobs w l) := by
  obtain ⟨k, rfl⟩ : ∃ m, k = m + 1 := ⟨k - 1, by omega⟩
  unfold spec_PlanOk.f impl_PlanOk.f impl_arePlanned.f
  rw [spec_jOk (k + 1) jobs hjm (by omega), impl_jOk (k + 1) jobs hjm (by omega)]
  simp only [Option.bind_some, spec_in, impl_in_]
  by_cases c1 : jOk jobs = true
  · have hj : jobs.length ≤ 40 := jOk_len c1
    simp only [if_pos c1]
    by_cases c2 : 1 ≤ w ∧ w ≤ 6
    · simp only [Option.bind_some, decide_eq_true c2, if_true]
      rw [spec_PlanOk.j0, impl_PlanOk.j0]
      by_cases c3 : ((l.length : Int) != (jobs.length : Int)) = true
      · have hv : planOkV jobs w l = false := by unfold planOkV; rw [c3]; simp
        rw [hv]
        exact ⟨ifp c3 rfl, ifp c3 rfl⟩
      · have h3 : l.length = jobs.length := by
          have := c3
          simp at this
          omega
        have := plan_l0 jobs w l c2.1 c2.2 (by omega) hj hjv hlv l.length k 0 (by omega) (by omega)
        have z0 : ((0 : Nat) : Int) = 0 := rfl
        rw [z0] at this
        have c3f : ((l.length : Int) != (jobs.length : Int)) = false := by simpa using c3
        have hv : planOkV jobs w l = okP jobs w l 0 l.length := by unfold planOkV; rw [c3f, c1, decide_eq_true c2]; simp
        rw [hv]
        exact ⟨ifn c3 this.1, ifn c3 this.2⟩
    · have hv : planOkV jobs w l = false := by unfold planOkV; rw [decide_eq_false c2]; simp
      rw [hv]
      simp only [Option.bind_some, decide_eq_false c2]
      exact ⟨ifn (by simp) (by rw [spec_PlanOk.j0]; exact ifp rfl rfl), ifn (by simp) (by rw [impl_PlanOk.j0]; exact ifp rfl rfl)⟩
  · have c1f : jOk jobs = false := by simpa using c1
    have hv : planOkV jobs w l = false := by unfold planOkV; rw [c1f]; simp
    rw [hv]
    simp only [if_neg c1, Option.bind_some]
    exact ⟨by rw [spec_PlanOk.j0]; exact ifp rfl rfl, ifn (by simp) (by rw [impl_PlanOk.j0]; exact ifp rfl rfl)⟩
theorem same_l (a : List Int) (hm : a.length ≤ 1000000) : ∀ (d k i : Nat), i + d = a.length → d < k → laws_same.l0 k a a (i : Int) = some true := by
  intro d
  induction d with
  | zero =>
    intro k i hi hk
    obtain ⟨k, rfl⟩ : ∃ m, k = m + 1 := ⟨k - 1, by omega⟩
    rw [laws_same.l0]
    exact ifn (by omega) rfl
  | succ d ih =>
    intro k i hi hk
    obtain ⟨k, rfl⟩ : ∃ m, k = m + 1 := ⟨k - 1, by omega⟩
    rw [laws_same.l0, w64_succ i (by omega)]
    exact ifp (by omega) (ifp (by omega) (ifp (by omega) (ifp rfl (ih k (i + 1) (by omega) (by omega)))))
theorem same_ (k : Nat) (a : List Int) (hm : a.length ≤ 1000000) (hk : 1000100 ≤ k) : laws_same.f k a a = some true := by
  unfold laws_same.f
  exact ifp rfl (same_l a hm a.length k 0 (by omega) (by omega))
theorem sum0 (jobs : List Int) (w : Int) (plan : List S53) (t : Int) (run loads : List Int) (hl : loads.length ≤ 6) (hv : ∀ x ∈ loads, 0 ≤ x ∧ x ≤ 100000) (K : Nat) : ∀ (d k i : Nat) (s : Int), i + d = loads.length → K + d + 1 ≤ k → 0 ≤ s → s ≤ (i : Int) * 100000 →
    ∃ k', K ≤ k' ∧ laws_FnLoads.l0 k jobs w plan t run loads s (i : Int) = laws_FnLoads.l1 k' jobs w plan t run loads (s + sumI (loads.drop i)) 0 0 := by
  intro d
  induction d with
  | zero =>
    intro k i s hi hk h0 h1
    obtain ⟨k, rfl⟩ : ∃ m, k = m + 1 := ⟨k - 1, by omega⟩
    refine ⟨k, by omega, ?_⟩
    rw [laws_FnLoads.l0, List.drop_of_length_le (by omega), sumI, Int.add_zero]
    exact ifn (by omega) rfl
  | succ d ih =>
    intro k i s hi hk h0 h1
    obtain ⟨k, rfl⟩ : ∃ m, k = m + 1 := ⟨k - 1, by omega⟩
    have hx := hv _ (mem_getD loads 0 i (by omega))
    obtain ⟨k', g1, g2⟩ := ih k (i + 1) (s + loads.getD i 0) (by omega) (by omega) (by omega) (by omega)
    refine ⟨k', g1, ?_⟩
    rw [laws_FnLoads.l0, drop_getD loads 0 i (by omega), sumI, w64_succ i (by omega), rd_natD, w64 (x := s + loads.getD i 0) (by omega) (by omega), ← Int.add_assoc]
    exact ifp (by omega) (ifp (by omega) g2)
theorem sum1 (jobs : List Int) (w : Int) (plan : List S53) (t : Int) (run loads : List Int) (s0 : Int) (hl : jobs.length ≤ 41) (hv : ∀ x ∈ jobs, 0 ≤ x ∧ x ≤ 1001) (hpm : plan.length ≤ 41) (hr : (run.length : Int) ≤ w) (hs : s0 = sumI jobs) (hll : (loads.length : Int) = w) (ht : span plan ≤ t → run.length = 0) : ∀ (d k i : Nat) (s : Int), i + d = jobs.length → d + 1048700 ≤ k → 0 ≤ s → s ≤ (i : Int) * 1001 → s + sumI (jobs.drop i) = sumI jobs →
    laws_FnLoads.l1 k jobs w plan t run loads s0 s (i : Int) = some true := by
  intro d
  induction d with
  | zero =>
    intro k i s hi hk h0 h1 h2
    obtain ⟨k, rfl⟩ : ∃ m, k = m + 1 := ⟨k - 1, by omega⟩
    rw [List.drop_of_length_le (by omega), sumI, Int.add_zero] at h2
    rw [laws_FnLoads.l1]
    refine ifn (by omega) (ifp hr (ifp (by omega) (ifp hll (st (impl_span k plan (by omega) (by omega)) ?_))))
    by_cases c : t < span plan
    · exact ifp c rfl
    · have := ht (by omega)
      refine ifn c ?_
      rw [this]; rfl
  | succ d ih =>
    intro k i s hi hk h0 h1 h2
    obtain ⟨k, rfl⟩ : ∃ m, k = m + 1 := ⟨k - 1, by omega⟩
    have hx := hv _ (mem_getD jobs 0 i (by omega))
    rw [drop_getD jobs 0 i (by omega), sumI] at h2
    rw [laws_FnLoads.l1, w64_succ i (by omega), rd_natD, w64 (x := s + jobs.getD i 0) (by omega) (by omega)]
    exact ifp (by omega) (ifp (by omega) (ih k (i + 1) (s + jobs.getD i 0) (by omega) (by omega) (by omega) (by omega) (by omega)))
theorem at_ex (l : List Int) : ∃ t, laws_at.f l 0 = some t := by
  unfold laws_at.f
  by_cases c : (0 : Int) < (l.length : Int)
  · exact ⟨_, ifp c (ifp (by omega) rfl)⟩
  · exact ⟨_, ifn c rfl⟩
theorem sum_zeros (n : Nat) : sumI (List.replicate n 0) = 0 := by
  induction n with
  | zero => rfl
  | succ n ih => rw [List.replicate_succ, sumI, ih]; rfl
theorem floads_j0 (k : Nat) (hk : 2000000 ≤ k) (jobs : List Int) (w : Int) (plan : List S53) (t : Int) (loads : List Int) (hj : jobs.length ≤ 41) (hjv : ∀ x ∈ jobs, 0 ≤ x ∧ x ≤ 1001) (hp : plan.length ≤ 41) (hpv : ∀ s ∈ plan, I64 s) (hlo : impl_LoadsOf.f k plan w = some loads) :
    laws_FnLoads.j0 (k + 1) jobs w plan (planOkV jobs w plan) t (atAll t plan 6 0) loads false = some true := by
  rw [laws_FnLoads.j0]
  refine ifn (by simp) ?_
  by_cases c : planOkV jobs w plan = true
  · refine ifp c ?_
    simp only [planOkV, Bool.and_eq_true, decide_eq_true_eq, Bool.not_eq_true', bne_eq_false_iff_eq] at c
    obtain ⟨c1, ⟨c2, c3⟩, c4, c5⟩ := c
    have hj2 : ∀ x ∈ jobs, 1 ≤ x ∧ x ≤ 1000 := by
      simp only [jOk, Bool.and_eq_true, List.all_eq_true, isJ, decide_eq_true_eq] at c1
      exact c1.2
    have G := plan_good jobs w plan (by omega) hj2 hpv c5
    obtain ⟨r, g1, g2, g3, g4⟩ := loads_sum jobs plan w c2 c3 hp (fun s hs => by
      have h1 := G.rng s hs
      have h2 := hj2 (rd jobs s.f0) (mem_getD jobs 0 _ (by omega))
      exact ⟨h1.2.1, by omega, by omega⟩) plan.length k 0 (List.replicate w.toNat 0) (by omega) (by omega) (by simp; omega) (fun x hx => by
      have := List.eq_of_mem_replicate hx
      omega)
    have e : r = loads := by
      unfold impl_LoadsOf.f at hlo
      simp only [impl_in_, Option.bind_some] at hlo
      rw [if_pos (by simpa using ⟨c2, c3⟩), if_pos (by omega), if_pos (by omega)] at hlo
      have z0 : ((0 : Nat) : Int) = 0 := rfl
      rw [z0, hlo] at g1
      exact (Option.some.inj g1).symm
    subst e
    rw [sum_zeros, List.drop_zero, Int.zero_add, costs_sum G] at g4
    obtain ⟨k', h1, h2⟩ := sum0 jobs w plan t (atAll t plan 6 0) r (by omega) g3 1100000 r.length k 0 0 (by omega) (by omega) (by omega) (by omega)
    have z0 : ((0 : Nat) : Int) = 0 := rfl
    rw [z0] at h2
    refine h2.trans ?_
    rw [List.drop_zero, Int.zero_add]
    have h3 := atAll_le G t 6 0 (by omega) (by omega)
    exact sum1 jobs w plan t _ r (sumI r) hj hjv hp (by omega) g4 g2 (fun h => by rw [atAll_late t plan h]; rfl) jobs.length k' 0 0 (by omega) (by omega) (by omega) (by omega) (by simp)
  · exact ifn c rfl


theorem FnLoads : laws_FnLoads.Pure := by
  intro l hl
  obtain ⟨k, hk⟩ : ∃ k : Nat, 1000000000 ≤ k := ⟨_, Nat.le_refl _⟩
  refine ⟨k + 1, ?_⟩
  unfold laws_FnLoads.f laws_big.f
  simp only [Option.bind_some]
  by_cases hb : (l.length : Int) > 1048576
  · rw [decide_eq_true hb]; exact ifp rfl rfl
  rw [decide_eq_false hb]
  refine ifn (by simp) ?_
  obtain ⟨jobs, w, plan, e, h1, h2, h3, h4⟩ := dplan (k + 1) l (by omega) (by omega)
  obtain ⟨p1, p2⟩ := planok_v (k + 1) jobs w plan (by omega) (fun x hx => by have := h2 x hx; omega) h4 (by omega)
  obtain ⟨t, et⟩ := at_ex l
  obtain ⟨a1, a2⟩ := jobsat (k + 1) plan t (by omega) (by omega)
  obtain ⟨v, v1, v2, v3⟩ := loads (k + 1) plan w (by omega) (by omega)
  obtain ⟨v', u1, u2, u3⟩ := loads k plan w (by omega) (by omega)
  have hvv : v' = v := by
    have a := impl_LoadsOf.mono plan w k _ u2
    rw [v2] at a; exact (Option.some.inj a).symm
  subst hvv
  have al : (atAll t plan 6 0).length ≤ 1000000 := by have := atAll_len t plan 6 0; omega
  refine st e ?_
  dsimp only
  refine st p1 (st p2 (ifn (by simp) (st et (st a2 (st v2 (st a1 (st (same_ (k + 1) _ al (by omega)) (ifp rfl (st v1 (st (same_ (k + 1) v' (by omega) (by omega)) ?_))))))))))
  exact floads_j0 k (by omega) jobs w plan t v' h1 h2 h3 h4 u2

end Go.Proofs.Ytecnioodkihceaa.Pure
