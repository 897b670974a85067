/- What is left of the statement FnExactIdleOf once the Go functions are Lean functions: the program's IdleOf and the reference's answer alike. No condition. -/
import Derived.Test.YtecnioodkihceaaQFnExactIdleOfx4
import Derived.Test.YtecnioodkihceaaAid
set_option linter.unusedVariables false
set_option linter.unusedSimpArgs false
namespace Go.Proofs.Ytecnioodkihceaa.Pure
open Go.RowKit Go.Proofs.Ytecnioodkihceaa.QFnExactIdleOf Go.Proofs.YtecnioodkihceaaW.PrintWords Go.Proofs.YtecnioodkihceaaW.PrintLast Go.Proofs.YtecnioodkihceaaW.PrintMore Go.Proofs.YtecnioodkihceaaW.Aid


theorem spec_in (x lo hi : Int) : spec_l01In.f x lo hi = some (decide (lo ≤ x ∧ x ≤ hi)) := by
  unfold spec_l01In.f
  split
  · simp_all
  · simp; omega
theorem impl_in_ (x lo hi : Int) : impl_in.f x lo hi = some (decide (lo ≤ x ∧ x ≤ hi)) := by
  unfold impl_in.f
  split
  · simp_all
  · simp; omega

def LB {α : Type} (P : α → Prop) (l : List α) : Prop := l.length ≤ 1048576 ∧ ∀ x ∈ l, P x
theorem LB.map {α β : Type} {P : α → Prop} {Q : β → Prop} {f : α → β} {l : List α} (hf : ∀ x, P x → Q (f x)) (h : LB P l) : LB Q (l.map f) := ⟨by simpa using h.1, fun y hy => by obtain ⟨x, hx, rfl⟩ := List.mem_map.1 hy; exact hf x (h.2 x hx)⟩
theorem map_getD {α β : Type} (f : α → β) (l : List α) (i : Nat) (h : i < l.length) (d : α) (d' : β) : (l.map f).getD i d' = f (l.getD i d) := by simp [h]
def Ok55 (x : S55) : Prop := True
theorem szSlotS_ (l : List (S55)) (a : Int) (hw : WL Wt55 l) (h0 : 0 ≤ a) (h1 : a ≤ 1048576) : ∃ r, laws_szSlotS.f l a = some r ∧ (r < 0 ∨ (0 ≤ r ∧ r ≤ a ∧ LB Ok55 l)) := by
  have hm : l.length ≤ 9223372036854775807 := hw.1
  have he : wrap64 (a - (l.length : Int)) = a - l.length := w64 (by omega) (by omega)
  unfold laws_szSlotS.f
  rw [he]
  by_cases h : a - (l.length : Int) < 0
  · exact ⟨-1, if_pos h, Or.inl (by omega)⟩
  · rw [if_neg h]
    exact ⟨_, rfl, Or.inr ⟨by omega, by omega, by omega, fun _ _ => trivial⟩⟩
theorem toSlot_ (a0_0 : Int) (a0_1 : Int) (a0_2 : Int) (a0_3 : Int) : laws_toSlot.f a0_0 a0_1 a0_2 a0_3 = some (a0_0, a0_1, a0_2, a0_3) := by
  unfold laws_toSlot.f
  repeat (first | refine ifp rfl ?_ | refine ifp (by omega) ?_ | refine ifp (by simp) ?_ | refine ifn (by simp) ?_ | rfl)
def cv55_53 (x : S55) : S53 := ⟨x.f0, x.f1, x.f2, x.f3⟩
def Ok53 (x : S53) : Prop := True
theorem ok_cv55_53 (x : S55) (h : Ok55 x) : Ok53 (cv55_53 x) := trivial
theorem toSlotS_l0 (l : List (S55)) (ho : LB Ok55 l) : ∀ (d k i : Nat) (y : List (S53)), i + d = l.length → d + 0 < k → y.length = l.length → y.take i = (l.map cv55_53).take i → laws_toSlotS.l0 k l y (i : Int) = some (l.map cv55_53) := by
  have hm := ho.1
  have hc : (l.map cv55_53).length = l.length := by simp
  intro d
  induction d with
  | zero =>
    intro k i y hi hk hy ht
    obtain ⟨k, rfl⟩ : ∃ m, k = m + 1 := ⟨k - 1, by omega⟩
    simp only [laws_toSlotS.l0]
    rw [if_neg (by omega), take_full hy hc (by rw [show l.length = i by omega]; exact ht)]
  | succ d ih =>
    intro k i y hi hk hy ht
    obtain ⟨k, rfl⟩ : ∃ m, k = m + 1 := ⟨k - 1, by omega⟩
    have hx := ho.2 _ (mem_getD l z55 i (by omega))
    simp only [laws_toSlotS.l0, rd_L3, rd_T53, rd_T55, rd_natD, Int.toNat_natCast]
    repeat (first | (refine st (toSlot_ _ _ _ _) ?_; (try dsimp only)) | refine ifp rfl ?_ | refine ifp (by omega) ?_ | refine ifp (by simp) ?_ | refine ifn (by simp) ?_)
    rw [w64_succ i (by omega)]
    refine ih k (i + 1) _ (by omega) (by omega) (by simpa using hy) ?_
    rw [take_set_succ _ _ _ (by omega), ht, take_succ_getD (l.map cv55_53) z53 i (by omega), map_getD _ _ _ (by omega) z55]
    rfl
theorem toSlotS_ (k : Nat) (l : List (S55)) (ho : LB Ok55 l) (hk : 1048580 ≤ k) : laws_toSlotS.f k l = some (l.map cv55_53) := by
  have hm := ho.1
  unfold laws_toSlotS.f
  rw [if_pos (by omega), if_pos (by simp; omega)]
  exact toSlotS_l0 l ho l.length k 0 _ (by omega) (by omega) (by simp) (by simp)
theorem eqSlot_ (a0_0 : Int) (a0_1 : Int) (a0_2 : Int) (a0_3 : Int) : laws_eqSlot.f a0_0 a0_1 a0_2 a0_3 a0_0 a0_1 a0_2 a0_3 = some true := by
  unfold laws_eqSlot.f
  repeat (first | refine ifp rfl ?_ | refine ifp (by omega) ?_ | refine ifp (by simp) ?_ | refine ifn (by simp) ?_ | rfl)
theorem eqSlotS_l0 (l : List (S53)) (ho : LB Ok53 l) : ∀ (d k i : Nat), i + d = l.length → d + 0 < k → laws_eqSlotS.l0 k l l (i : Int) = some true := by
  have hm := ho.1
  intro d
  induction d with
  | zero =>
    intro k i hi hk
    obtain ⟨k, rfl⟩ : ∃ m, k = m + 1 := ⟨k - 1, by omega⟩
    simp only [laws_eqSlotS.l0]
    rw [if_neg (by omega)]
  | succ d ih =>
    intro k i hi hk
    obtain ⟨k, rfl⟩ : ∃ m, k = m + 1 := ⟨k - 1, by omega⟩
    have hx := ho.2 _ (mem_getD l z53 i (by omega))
    simp only [laws_eqSlotS.l0, rd_L3, rd_T53, rd_T55, rd_natD, Int.toNat_natCast]
    repeat (first | (refine st (eqSlot_ _ _ _ _) ?_; (try dsimp only)) | refine ifp rfl ?_ | refine ifp (by omega) ?_ | refine ifp (by simp) ?_ | refine ifn (by simp) ?_)
    rw [w64_succ i (by omega)]
    exact ih k (i + 1) (by omega) (by omega)
theorem eqSlotS_ (k : Nat) (l : List (S53)) (ho : LB Ok53 l) (hk : 1048580 ≤ k) : laws_eqSlotS.f k l l = some true := by
  have hm := ho.1
  unfold laws_eqSlotS.f
  rw [if_pos rfl]
  exact eqSlotS_l0 l ho l.length k 0 (by omega) (by omega)

def spanF (m : Int) : List S53 → Int
  | [] => m
  | x :: r => spanF (if x.f3 > m then x.f3 else m) r
def span (l : List S53) : Int := if l.length = 0 then 0 else spanF (l.getD 0 z53).f3 (l.drop 1)
theorem cmpT (a b c d e f g h : Int) : impl_SpanOf_1.f a b c d e f g h = some (if d < h then -1 else if d > h then 1 else 0) := by
  simp only [impl_SpanOf_1.f, cmp_Compare_int.f, cmp_isNaN_int.f, Option.bind_some, bne_self_eq_false]
  rw [if_neg (by simp), if_neg (by simp)]
  by_cases c1 : d < h
  · rw [if_pos c1, if_pos c1]; rfl
  · rw [if_neg c1, if_neg c1]
    by_cases c2 : d > h
    · rw [if_pos c2, if_pos c2]; rfl
    · rw [if_neg c2, if_neg c2]; rfl
theorem span_l0 (l : List S53) (hm : l.length ≤ 1048576) : ∀ (d k i : Nat) (a b c m : Int), i + d = l.length → d < k → 1 ≤ i →
    spec_SpanOf.l0 k l m (i : Int) = some (spanF m (l.drop i)) ∧ ∃ r1 r2 r3, impl_Slot_at_57.l0 k l (i : Int) a b c m = some (r1, r2, r3, spanF m (l.drop i)) := by
  intro d
  induction d with
  | zero =>
    intro k i a b c m hi hk h1
    obtain ⟨k, rfl⟩ : ∃ m, k = m + 1 := ⟨k - 1, by omega⟩
    rw [List.drop_of_length_le (by omega)]
    simp only [spec_SpanOf.l0, impl_Slot_at_57.l0, spanF]
    exact ⟨ifn (by omega) rfl, a, b, c, ifn (by omega) rfl⟩
  | succ d ih =>
    intro k i a b c m hi hk h1
    obtain ⟨k, rfl⟩ : ∃ m, k = m + 1 := ⟨k - 1, by omega⟩
    simp only [spec_SpanOf.l0, impl_Slot_at_57.l0, cmpT, Option.bind_some, rd_T53, Int.toNat_natCast, w64_succ i (by omega)]
    by_cases c1 : (l.getD i z53).f3 > m
    · obtain ⟨g1, r1, r2, r3, g2⟩ := ih k (i + 1) (l.getD i z53).f0 (l.getD i z53).f1 (l.getD i z53).f2 (l.getD i z53).f3 (by omega) (by omega) (by omega)
      have hv : spanF m (l.drop i) = spanF (l.getD i z53).f3 (l.drop (i + 1)) := by rw [drop_getD l z53 i (by omega)]; simp only [spanF]; rw [if_pos c1]
      rw [hv]
      refine ⟨ifp (by omega) (ifn (by omega) (ifp (by omega) (ifp c1 g1))), r1, r2, r3, ifp (by omega) (ifp (by omega) (ifp ?_ g2))⟩
      rw [if_neg (by omega), if_pos c1]; decide
    · obtain ⟨g1, r1, r2, r3, g2⟩ := ih k (i + 1) a b c m (by omega) (by omega) (by omega)
      have hv : spanF m (l.drop i) = spanF m (l.drop (i + 1)) := by rw [drop_getD l z53 i (by omega)]; simp only [spanF]; rw [if_neg c1]
      rw [hv]
      refine ⟨ifp (by omega) (ifn (by omega) (ifp (by omega) (ifn c1 g1))), r1, r2, r3, ifp (by omega) (ifp (by omega) (ifn ?_ g2))⟩
      by_cases c2 : (l.getD i z53).f3 < m
      · rw [if_pos c2]; decide
      · rw [if_neg c2, if_neg c1]; decide
theorem spec_span (k : Nat) (l : List S53) (hm : l.length ≤ 1048576) (hk : 1048600 ≤ k) : spec_SpanOf.f k l = some (span l) := by
  unfold spec_SpanOf.f span
  obtain ⟨k, rfl⟩ : ∃ m, k = m + 1 := ⟨k - 1, by omega⟩
  simp only [spec_SpanOf.l0]
  by_cases c : l.length = 0
  · rw [if_pos c]
    exact ifn (by omega) rfl
  · rw [if_neg c]
    refine ifp (by omega) (ifp (by trivial) (ifp (by omega) ?_))
    have := (span_l0 l hm (l.length - 1) k 1 0 0 0 (l.getD 0 z53).f3 (by omega) (by omega) (by omega)).1
    simpa [rd_T53, wrap64] using this
theorem impl_span (k : Nat) (l : List S53) (hm : l.length ≤ 1048576) (hk : 1048600 ≤ k) : impl_SpanOf.f k l = some (span l) := by
  unfold impl_SpanOf.f span impl_Slot_at_57.f
  by_cases c : l.length = 0
  · rw [if_pos c]
    exact ifp (by omega) rfl
  · rw [if_neg c]
    obtain ⟨r1, r2, r3, e⟩ := (span_l0 l hm (l.length - 1) k 1 (l.getD 0 z53).f0 (l.getD 0 z53).f1 (l.getD 0 z53).f2 (l.getD 0 z53).f3 (by omega) (by omega) (by omega)).2
    exact ifn (by omega) (st (ifn (by omega) (ifp (by omega) e)) rfl)

theorem wrap_assoc (a b c : Int) : wrap64 (wrap64 (a + b) - c) = wrap64 (a + wrap64 (b - c)) := by unfold wrap64; omega
theorem loads_l0 (l : List S53) (w : Int) (hw : 1 ≤ w) (hw2 : w ≤ 6) (hm : l.length ≤ 1048576) : ∀ (d k i : Nat) (o : List Int), i + d = l.length → d < k → (o.length : Int) = w →
    ∃ r, spec_LoadsOf.l0 k l w o (i : Int) = some r ∧ impl_LoadsOf.l0 k w o l (l.length : Int) (i : Int) = some r ∧ (r.length : Int) = w := by
  intro d
  induction d with
  | zero =>
    intro k i o hi hk ho
    obtain ⟨k, rfl⟩ : ∃ m, k = m + 1 := ⟨k - 1, by omega⟩
    exact ⟨o, by simp only [spec_LoadsOf.l0]; rw [if_neg (by omega)], by simp only [impl_LoadsOf.l0]; rw [if_neg (by omega)], ho⟩
  | succ d ih =>
    intro k i o hi hk ho
    obtain ⟨k, rfl⟩ : ∃ m, k = m + 1 := ⟨k - 1, by omega⟩
    have hw1 : wrap64 (w - 1) = w - 1 := w64 (by omega) (by omega)
    simp only [spec_LoadsOf.l0, impl_LoadsOf.l0, spec_in, impl_in_, Option.bind_some, rd_T53, Int.toNat_natCast, hw1, w64_succ i (by omega)]
    by_cases c : 0 ≤ (l.getD i z53).f1 ∧ (l.getD i z53).f1 ≤ w - 1
    · obtain ⟨r, e1, e2, e3⟩ := ih k (i + 1) (o.set (l.getD i z53).f1.toNat (wrap64 (rd o (l.getD i z53).f1 + wrap64 ((l.getD i z53).f3 - (l.getD i z53).f2)))) (by omega) (by omega) (by simpa using ho)
      refine ⟨r, ifp (by omega) (ifp (by omega) (ifp (by simpa using c) (ifp c.1 (ifp (by omega) ?_)))), ifp (by omega) (ifp (by omega) (ifp (by omega) (ifp (by simpa using c) (ifp c.1 (ifp (by omega) ?_))))), e3⟩
      · rw [wrap_assoc]; exact e1
      · exact e2
    · obtain ⟨r, e1, e2, e3⟩ := ih k (i + 1) o (by omega) (by omega) ho
      exact ⟨r, ifp (by omega) (ifp (by omega) (ifn (by simpa using c) e1)), ifp (by omega) (ifp (by omega) (ifp (by omega) (ifn (by simpa using c) e2))), e3⟩
theorem loads (k : Nat) (l : List S53) (w : Int) (hm : l.length ≤ 1048576) (hk : 1048580 ≤ k) : ∃ r, spec_LoadsOf.f k l w = some r ∧ impl_LoadsOf.f k l w = some r ∧ r.length ≤ 6 := by
  unfold spec_LoadsOf.f impl_LoadsOf.f
  simp only [spec_in, impl_in_, Option.bind_some]
  by_cases c : 1 ≤ w ∧ w ≤ 6
  · obtain ⟨r, e1, e2, e3⟩ := loads_l0 l w c.1 c.2 hm l.length k 0 (List.replicate w.toNat 0) (by omega) (by omega) (by simp; omega)
    exact ⟨r, ifp (by simpa using c) (ifp (by omega) (ifp (by omega) e1)), ifp (by simpa using c) (ifp (by omega) (ifp (by omega) e2)), by omega⟩
  · exact ⟨[], ifn (by simpa using c) rfl, ifn (by simpa using c) rfl, by simp⟩

def wsumB : Int → List Int → Int
  | s, [] => s
  | s, x :: r => wsumB (wrap64 (s + x)) r
theorem sumB_l0 (l : List Int) (hm : l.length ≤ 1048576) : ∀ (d k i : Nat) (s : Int), i + d = l.length → d < k → spec_l12Sum.l0 k l s (i : Int) = some (wsumB s (l.drop i)) ∧ impl_sum.l0 k s l (l.length : Int) (i : Int) = some (wsumB s (l.drop i)) := by
  intro d
  induction d with
  | zero =>
    intro k i s hi hk
    obtain ⟨k, rfl⟩ : ∃ m, k = m + 1 := ⟨k - 1, by omega⟩
    rw [List.drop_of_length_le (by omega)]
    simp only [spec_l12Sum.l0, impl_sum.l0, wsumB]
    exact ⟨ifn (by omega) rfl, ifn (by omega) rfl⟩
  | succ d ih =>
    intro k i s hi hk
    obtain ⟨k, rfl⟩ : ∃ m, k = m + 1 := ⟨k - 1, by omega⟩
    simp only [spec_l12Sum.l0, impl_sum.l0, rd_natD, w64_succ i (by omega)]
    rw [drop_getD l 0 i (by omega), wsumB]
    obtain ⟨g1, g2⟩ := ih k (i + 1) (wrap64 (s + l.getD i 0)) (by omega) (by omega)
    exact ⟨ifp (by omega) (ifp (by omega) g1), ifp (by omega) (ifp (by omega) (ifp (by omega) g2))⟩
theorem spec_sumB (k : Nat) (l : List Int) (hm : l.length ≤ 1048576) (hk : 1048600 ≤ k) : spec_l12Sum.f k l = some (wsumB 0 l) := by
  have := (sumB_l0 l hm l.length k 0 0 (by omega) (by omega)).1
  simpa [spec_l12Sum.f] using this
theorem impl_sumB (k : Nat) (l : List Int) (hm : l.length ≤ 1048576) (hk : 1048600 ≤ k) : impl_sum.f k l = some (wsumB 0 l) := by
  have := (sumB_l0 l hm l.length k 0 0 (by omega) (by omega)).2
  simpa [impl_sum.f] using this
theorem idle (k : Nat) (l : List S53) (w : Int) (hm : l.length ≤ 1048576) (hk : 1048600 ≤ k) : ∃ r, spec_IdleOf.f k l w = some r ∧ impl_IdleOf.f k l w = some r := by
  unfold spec_IdleOf.f impl_IdleOf.f
  rw [spec_span k l hm hk, impl_span k l hm hk]
  obtain ⟨v, e1, e2, hv⟩ := loads k l w hm (by omega)
  rw [e1, e2]
  simp only [Option.bind_some, spec_in, impl_in_]
  rw [spec_sumB k v (by omega) hk, impl_sumB k v (by omega) hk]
  simp only [Option.bind_some]
  by_cases c : 1 ≤ w ∧ w ≤ 6
  · exact ⟨_, ifp (by simpa using c) rfl, ifp (by simpa using c) rfl⟩
  · exact ⟨_, ifn (by simpa using c) rfl, ifn (by simpa using c) rfl⟩


theorem FnExactIdleOf : laws_FnExactIdleOf.Pure := by
  intro l w hl _
  obtain ⟨k, hk⟩ : ∃ k : Nat, 1000000000 ≤ k := ⟨_, Nat.le_refl _⟩
  refine ⟨k, ?_⟩
  unfold laws_FnExactIdleOf.f
  obtain ⟨r, e, h⟩ := szSlotS_ l 1048576 hl (by omega) (by omega)
  rw [e]; simp only [Option.bind_some]; clear e
  rcases h with h | ⟨h0, h1, ho⟩
  · rw [if_pos h]
  rw [if_neg (by omega)]
  have ho2 : LB Ok53 (l.map cv55_53) := ho.map ok_cv55_53

  obtain ⟨v, e1, e2⟩ := idle k (l.map cv55_53) w ho2.1 (by omega)
  repeat (first
    | (refine st e1 ?_; (try dsimp only))
    | (refine st e2 ?_; (try dsimp only))
    | (refine st (toSlotS_ _ _ (by assumption) (by omega)) ?_; (try dsimp only))
    | (refine st (eqSlotS_ _ _ (by assumption) (by omega)) ?_; (try dsimp only))
    | refine ifp rfl ?_
    | refine ifn (by omega) ?_
    | refine ifp (by omega) ?_
    | refine ifn (by simp) ?_
    | refine ifp (by simp) ?_
    | rfl)

end Go.Proofs.Ytecnioodkihceaa.Pure
