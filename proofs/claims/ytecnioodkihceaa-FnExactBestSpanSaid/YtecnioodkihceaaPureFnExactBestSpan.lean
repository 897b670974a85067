/- What is left of the statement FnExactBestSpan once the Go functions are Lean functions: the program's BestSpan and the reference's answer alike. No condition. -/
import Derived.Test.YtecnioodkihceaaQFnExactBestSpanx5
import Derived.Test.YtecnioodkihceaaAid
set_option linter.unusedVariables false
set_option linter.unusedSimpArgs false
namespace Go.Proofs.Ytecnioodkihceaa.Pure
open Go.RowKit Go.Proofs.Ytecnioodkihceaa.QFnExactBestSpan Go.Proofs.YtecnioodkihceaaW.PrintWords Go.Proofs.YtecnioodkihceaaW.PrintLast Go.Proofs.YtecnioodkihceaaW.PrintMore Go.Proofs.YtecnioodkihceaaW.Aid


theorem spec_in (x lo hi : Int) : spec_l01In.f x lo hi = some (decide (lo ≤ x ∧ x ≤ hi)) := by
  unfold spec_l01In.f
  split
  · simp_all
  · simp; omega
theorem impl_in_ (x lo hi : Int) : impl_in.f x lo hi = some (decide (lo ≤ x ∧ x ≤ hi)) := by
  unfold impl_in.f
  split
  · simp_all
  · simp; omega

def LB {α : Type} (P : α → Prop) (l : List α) : Prop := l.length ≤ 1048576 ∧ ∀ x ∈ l, P x
theorem LB.map {α β : Type} {P : α → Prop} {Q : β → Prop} {f : α → β} {l : List α} (hf : ∀ x, P x → Q (f x)) (h : LB P l) : LB Q (l.map f) := ⟨by simpa using h.1, fun y hy => by obtain ⟨x, hx, rfl⟩ := List.mem_map.1 hy; exact hf x (h.2 x hx)⟩
theorem map_getD {α β : Type} (f : α → β) (l : List α) (i : Nat) (h : i < l.length) (d : α) (d' : β) : (l.map f).getD i d' = f (l.getD i d) := by simp [h]
theorem toIntS_l0 (l : List (Int)) (ho : LB (fun _ => True) l) : ∀ (d k i : Nat) (y : List (Int)), i + d = l.length → d + 0 < k → y.length = l.length → y.take i = l.take i → laws_toIntS.l0 k l y (i : Int) = some l := by
  have hm := ho.1
  have hc : l.length = l.length := by rfl
  intro d
  induction d with
  | zero =>
    intro k i y hi hk hy ht
    obtain ⟨k, rfl⟩ : ∃ m, k = m + 1 := ⟨k - 1, by omega⟩
    simp only [laws_toIntS.l0]
    rw [if_neg (by omega), take_full hy hc (by rw [show l.length = i by omega]; exact ht)]
  | succ d ih =>
    intro k i y hi hk hy ht
    obtain ⟨k, rfl⟩ : ∃ m, k = m + 1 := ⟨k - 1, by omega⟩
    have hx := ho.2 _ (mem_getD l 0 i (by omega))
    simp only [laws_toIntS.l0, rd_L1, rd_natD, Int.toNat_natCast]
    repeat (first | refine ifp rfl ?_ | refine ifp (by omega) ?_ | refine ifp (by simp) ?_ | refine ifn (by simp) ?_)
    rw [w64_succ i (by omega)]
    refine ih k (i + 1) _ (by omega) (by omega) (by simpa using hy) ?_
    rw [take_set_succ _ _ _ (by omega), ht, take_succ_getD l 0 i (by omega)]
theorem toIntS_ (k : Nat) (l : List (Int)) (ho : LB (fun _ => True) l) (hk : 1048580 ≤ k) : laws_toIntS.f k l = some l := by
  have hm := ho.1
  unfold laws_toIntS.f
  rw [if_pos (by omega), if_pos (by simp; omega)]
  exact toIntS_l0 l ho l.length k 0 _ (by omega) (by omega) (by simp) (by simp)
theorem eqIntS_l0 (l : List (Int)) (ho : LB (fun _ => True) l) : ∀ (d k i : Nat), i + d = l.length → d + 0 < k → laws_eqIntS.l0 k l l (i : Int) = some true := by
  have hm := ho.1
  intro d
  induction d with
  | zero =>
    intro k i hi hk
    obtain ⟨k, rfl⟩ : ∃ m, k = m + 1 := ⟨k - 1, by omega⟩
    simp only [laws_eqIntS.l0]
    rw [if_neg (by omega)]
  | succ d ih =>
    intro k i hi hk
    obtain ⟨k, rfl⟩ : ∃ m, k = m + 1 := ⟨k - 1, by omega⟩
    have hx := ho.2 _ (mem_getD l 0 i (by omega))
    simp only [laws_eqIntS.l0, rd_L1, rd_natD, Int.toNat_natCast]
    repeat (first | refine ifp rfl ?_ | refine ifp (by omega) ?_ | refine ifp (by simp) ?_ | refine ifn (by simp) ?_)
    rw [w64_succ i (by omega)]
    exact ih k (i + 1) (by omega) (by omega)
theorem eqIntS_ (k : Nat) (l : List (Int)) (ho : LB (fun _ => True) l) (hk : 1048580 ≤ k) : laws_eqIntS.f k l l = some true := by
  have hm := ho.1
  unfold laws_eqIntS.f
  rw [if_pos rfl]
  exact eqIntS_l0 l ho l.length k 0 (by omega) (by omega)

def isJ (x : Int) : Bool := decide (1 ≤ x ∧ x ≤ 1000)
def jOk (l : List Int) : Bool := decide (l.length ≤ 40) && l.all isJ
theorem all_dropJ (l : List Int) (i : Nat) (h : i < l.length) : (l.drop i).all isJ = (isJ (l.getD i 0) && (l.drop (i + 1)).all isJ) := by
  rw [drop_getD l 0 i h]; rfl
theorem spec_jOk_l0 (l : List Int) (hm : l.length ≤ 1048576) : ∀ (d k i : Nat), i + d = l.length → d < k → spec_JobsOk.l0 k l (i : Int) = some ((l.drop i).all isJ) := by
  intro d
  induction d with
  | zero =>
    intro k i hi hk
    obtain ⟨k, rfl⟩ : ∃ m, k = m + 1 := ⟨k - 1, by omega⟩
    simp only [spec_JobsOk.l0]
    rw [if_neg (by omega), List.drop_of_length_le (by omega)]
    rfl
  | succ d ih =>
    intro k i hi hk
    obtain ⟨k, rfl⟩ : ∃ m, k = m + 1 := ⟨k - 1, by omega⟩
    simp only [spec_JobsOk.l0]
    rw [if_pos (by omega), if_pos (by omega), all_dropJ l i (by omega), w64_succ i (by omega), ih k (i + 1) (by omega) (by omega), spec_in, rd_natD]
    simp only [Option.bind_some]
    cases h : isJ (l.getD i 0) with
    | false => rw [if_neg (by simpa [isJ] using h)]; rfl
    | true => rw [if_pos (by simpa [isJ] using h)]; rfl
theorem spec_jOk (k : Nat) (l : List Int) (hm : l.length ≤ 1048576) (hk : l.length < k) : spec_JobsOk.f k l = some (jOk l) := by
  unfold spec_JobsOk.f jOk
  by_cases h : (l.length : Int) > 40
  · rw [if_pos h]
    have : ¬ l.length ≤ 40 := by omega
    simp [this]
  · rw [if_neg h]
    have h' : l.length ≤ 40 := by omega
    have := spec_jOk_l0 l hm l.length k 0 (by omega) hk
    simpa [h'] using this
theorem jidx_l0 (l : List Int) (hm : l.length ≤ 1048576) : ∀ (d k i : Nat), i + d = l.length → d < k →
    ∃ r, slices_IndexFunc_int_int_at_49.l0 k l (l.length : Int) (i : Int) = some r ∧ (0 ≤ r ↔ (l.drop i).all isJ = false) := by
  intro d
  induction d with
  | zero =>
    intro k i hi hk
    obtain ⟨k, rfl⟩ : ∃ m, k = m + 1 := ⟨k - 1, by omega⟩
    simp only [slices_IndexFunc_int_int_at_49.l0]
    rw [if_neg (by omega), List.drop_of_length_le (by omega)]
    exact ⟨-1, rfl, by simp⟩
  | succ d ih =>
    intro k i hi hk
    obtain ⟨k, rfl⟩ : ∃ m, k = m + 1 := ⟨k - 1, by omega⟩
    simp only [slices_IndexFunc_int_int_at_49.l0]
    rw [if_pos (by omega), if_pos (by omega), if_pos (by omega), all_dropJ l i (by omega)]
    unfold impl_JobsOk_1.f
    simp only [impl_in_, Option.bind_some, rd_natD]
    cases hr : isJ (l.getD i 0) with
    | false =>
      have : ¬ (1 ≤ l.getD i 0 ∧ l.getD i 0 ≤ 1000) := by simpa [isJ] using hr
      exact ⟨i, by simp only [this]; simp, by simp⟩
    | true =>
      have : (1 ≤ l.getD i 0 ∧ l.getD i 0 ≤ 1000) := by simpa [isJ] using hr
      obtain ⟨r, h1, h2⟩ := ih k (i + 1) (by omega) (by omega)
      refine ⟨r, ?_, by simpa using h2⟩
      rw [w64_succ i (by omega)]
      simp only [this, and_self]
      simpa using h1
theorem impl_jOk (k : Nat) (l : List Int) (hm : l.length ≤ 1048576) (hk : l.length < k) : impl_JobsOk.f k l = some (jOk l) := by
  obtain ⟨r, h1, h2⟩ := jidx_l0 l hm l.length k 0 (by omega) hk
  have h1' : slices_IndexFunc_int_int_at_49.f k l = some r := h1
  unfold impl_JobsOk.f slices_ContainsFunc_int_int_at_49.f jOk
  rw [h1']
  rw [List.drop_zero] at h2
  simp only [Option.bind_some]
  by_cases h : (l.length : Int) ≤ 40
  · rw [if_pos h]
    have h' : l.length ≤ 40 := by omega
    cases ha : l.all isJ with
    | false => rw [ha] at h2; have := h2.2 rfl; simp [this]
    | true => rw [ha] at h2; have : ¬ 0 ≤ r := fun z => absurd (h2.1 z) (by simp); simp [h']; omega
  · rw [if_neg h]
    have h' : ¬ l.length ≤ 40 := by omega
    simp [h']

def mxL (m : Int) : List Int → Int
  | [] => m
  | x :: r => mxL (mx m x) r
def loopV (f : Nat → Int) : Nat → Nat → Int → Int
  | 0, _, out => out
  | d + 1, w, out => loopV f d (w + 1) (if out < 0 then f w else if f w < out then f w else out)
/-- The least span of jobs for workers who have some already. -/
def bestV : List Int → List Int → Int
  | [], l => mxL (l.getD 0 0) (l.drop 1)
  | j :: r, l => loopV (fun w => bestV r (l.set w (l.getD w 0 + j))) l.length 0 (-1)
theorem mx_ge (a b : Int) : a ≤ mx a b ∧ b ≤ mx a b ∧ (mx a b = a ∨ mx a b = b) := by unfold mx; split <;> omega
theorem mxL_max (l : List Int) : ∀ m, m ≤ mxL m l ∧ (∀ x ∈ l, x ≤ mxL m l) ∧ (mxL m l = m ∨ mxL m l ∈ l) := by
  induction l with
  | nil => intro m; exact ⟨Int.le_refl _, by simp, .inl rfl⟩
  | cons x r ih =>
    intro m
    obtain ⟨h1, h2, h3⟩ := ih (mx m x)
    obtain ⟨g1, g2, g3⟩ := mx_ge m x
    rw [mxL]
    refine ⟨by omega, fun y hy => ?_, ?_⟩
    · rcases List.mem_cons.1 hy with rfl | hy
      · omega
      · exact h2 y hy
    · rcases h3 with h3 | h3
      · rcases g3 with g3 | g3
        · exact .inl (by rw [h3, g3])
        · exact .inr (by rw [h3, g3]; simp)
      · exact .inr (by simp [h3])
theorem loopV_min (f : Nat → Int) (hf : ∀ w, 0 ≤ f w) : ∀ (d w : Nat) (out : Int), -1 ≤ out → (out < 0 → 0 < d) →
    0 ≤ loopV f d w out ∧ ((0 ≤ out ∧ loopV f d w out = out) ∨ ∃ i, w ≤ i ∧ i < w + d ∧ loopV f d w out = f i) ∧ (0 ≤ out → loopV f d w out ≤ out) ∧ ∀ i, w ≤ i → i < w + d → loopV f d w out ≤ f i := by
  intro d
  induction d with
  | zero =>
    intro w out h1 h2
    have : 0 ≤ out := by
      by_cases c : out < 0
      · have := h2 c; omega
      · omega
    exact ⟨this, .inl ⟨this, rfl⟩, fun _ => Int.le_refl _, fun i a b => by omega⟩
  | succ d ih =>
    intro w out h1 h2
    have hw := hf w
    rw [loopV]
    have ho : 0 ≤ (if out < 0 then f w else if f w < out then f w else out) := by split <;> (try split) <;> omega
    obtain ⟨g1, g2, g3, g4⟩ := ih (w + 1) (if out < 0 then f w else if f w < out then f w else out) (by omega) (fun h => by omega)
    have g3 := g3 ho
    refine ⟨g1, ?_, fun h => ?_, fun i hi hi2 => ?_⟩
    · rcases g2 with ⟨_, g2⟩ | ⟨i, a, b, g2⟩
      · rw [g2]
        by_cases c1 : out < 0
        · rw [if_pos c1]; exact .inr ⟨w, by omega, by omega, rfl⟩
        · rw [if_neg c1]
          by_cases c2 : f w < out
          · rw [if_pos c2]; exact .inr ⟨w, by omega, by omega, rfl⟩
          · rw [if_neg c2]; exact .inl ⟨by omega, rfl⟩
      · exact .inr ⟨i, by omega, by omega, g2⟩
    · refine Int.le_trans g3 ?_
      split
      · omega
      · split <;> omega
    · by_cases e : i = w
      · subst e
        refine Int.le_trans g3 ?_
        split
        · omega
        · split <;> omega
      · exact g4 i (by omega) (by omega)
theorem getD_eq (l : List Int) (i : Nat) (h : i < l.length) : l.getD i 0 = l[i] := by simp [h]
theorem set_ok {l : List Int} {P : Int → Prop} (h : ∀ x ∈ l, P x) (i : Nat) (v : Int) (hv : P v) : ∀ x ∈ l.set i v, P x := by
  intro x hx
  rcases List.mem_or_eq_of_mem_set hx with hx | rfl
  · exact h x hx
  · exact hv
theorem bestV_nn (jobs : List Int) : (∀ x ∈ jobs, 0 ≤ x) → ∀ l : List Int, l ≠ [] → (∀ x ∈ l, 0 ≤ x) → 0 ≤ bestV jobs l := by
  induction jobs with
  | nil =>
    intro _ l hl h
    have := (mxL_max (l.drop 1) (l.getD 0 0)).1
    have h0 : 0 < l.length := List.length_pos_iff.2 hl
    have := h _ (mem_getD l 0 0 h0)
    rw [bestV]; omega
  | cons j r ih =>
    intro hj l hl h
    have h0 : 0 < l.length := List.length_pos_iff.2 hl
    have hj0 := hj j (by simp)
    rw [bestV]
    refine (loopV_min _ (fun w => ?_) l.length 0 (-1) (by omega) (fun _ => h0)).1
    refine ih (fun x hx => hj x (by simp [hx])) _ (by simpa using hl) (fun x hx => ?_)
    rcases List.mem_or_eq_of_mem_set hx with hx | rfl
    · exact h x hx
    · by_cases c : w < l.length
      · have := h _ (mem_getD l 0 w c); omega
      · rw [List.getD_eq_getElem?_getD, List.getElem?_eq_none (by omega)]; simp; omega
theorem set_perm1 (l : List Int) : ∀ (i : Nat) (a : Int), i < l.length → (l.set i a).Perm (a :: l.eraseIdx i) := by
  induction l with
  | nil => intro i a h; simp at h
  | cons x r ih =>
    intro i a h
    cases i with
    | zero => exact List.Perm.refl _
    | succ i => exact ((ih i a (by simpa using h)).cons x).trans (List.Perm.swap a x _)
theorem get_perm1 (l : List Int) (i : Nat) (h : i < l.length) : (l[i] :: l.eraseIdx i).Perm l := by
  have := set_perm1 l i l[i] h
  rw [List.set_getElem_self] at this
  exact this.symm
theorem set_perm (l l' : List Int) (hp : l.Perm l') (i : Nat) (hi : i < l.length) (j : Int) : ∃ i', i' < l'.length ∧ (l.set i (l.getD i 0 + j)).Perm (l'.set i' (l'.getD i' 0 + j)) := by
  have h1 : l[i] ∈ l' := hp.mem_iff.1 (List.getElem_mem hi)
  obtain ⟨i', hi', e⟩ := List.getElem_of_mem h1
  refine ⟨i', hi', ?_⟩
  have a1 := set_perm1 l i (l.getD i 0 + j) hi
  have a2 := set_perm1 l' i' (l'.getD i' 0 + j) hi'
  have b1 := get_perm1 l i hi
  have b2 := get_perm1 l' i' hi'
  have c1 : (l[i] :: l.eraseIdx i).Perm (l[i] :: l'.eraseIdx i') := by rw [e] at b2; exact (b1.trans hp).trans b2.symm
  have c2 := c1.cons_inv
  have e2 : l.getD i 0 + j = l'.getD i' 0 + j := by rw [getD_eq l i hi, getD_eq l' i' hi', e]
  rw [e2] at a1
  rw [e2]
  exact (a1.trans (c2.cons _)).trans a2.symm
theorem bestV_perm (jobs : List Int) : (∀ x ∈ jobs, 0 ≤ x) → ∀ l l' : List Int, l ≠ [] → (∀ x ∈ l, 0 ≤ x) → l.Perm l' → bestV jobs l = bestV jobs l' := by
  induction jobs with
  | nil =>
    intro _ l l' hl h hp
    have key : ∀ a b : List Int, a ≠ [] → a.Perm b → bestV [] a ≤ bestV [] b := by
      intro a b ha hp
      have hm : ∀ c : List Int, c ≠ [] → bestV [] c ∈ c ∧ ∀ x ∈ c, x ≤ bestV [] c := by
        intro c hc
        cases c with
        | nil => exact absurd rfl hc
        | cons x r =>
          have := mxL_max r x
          simp only [bestV, List.getD_cons_zero, List.drop_succ_cons, List.drop_zero, List.mem_cons]
          exact ⟨this.2.2, fun y hy => by
            rcases hy with rfl | hy
            · exact this.1
            · exact this.2.1 y hy⟩
      have hb : b ≠ [] := fun e => ha (by rw [e] at hp; exact hp.eq_nil)
      exact (hm b hb).2 _ (hp.mem_iff.1 (hm a ha).1)
    have hl' : l' ≠ [] := fun e => hl (by rw [e] at hp; exact hp.eq_nil)
    have := key l l' hl hp
    have := key l' l hl' hp.symm
    omega
  | cons j r ih =>
    intro hj l l' hl h hp
    have hl' : l' ≠ [] := fun e => hl (by rw [e] at hp; exact hp.eq_nil)
    have hj0 := hj j (by simp)
    have hr : ∀ x ∈ r, 0 ≤ x := fun x hx => hj x (by simp [hx])
    have key : ∀ a b : List Int, a ≠ [] → b ≠ [] → (∀ x ∈ a, 0 ≤ x) → (∀ x ∈ b, 0 ≤ x) → a.Perm b → bestV (j :: r) b ≤ bestV (j :: r) a := by
      intro a b ha hb h1 h2 hp
      have nn : ∀ c : List Int, c ≠ [] → (∀ x ∈ c, 0 ≤ x) → ∀ w, 0 ≤ bestV r (c.set w (c.getD w 0 + j)) := by
        intro c hc h w
        refine bestV_nn r hr _ (by simpa using hc) (fun x hx => ?_)
        rcases List.mem_or_eq_of_mem_set hx with hx | rfl
        · exact h x hx
        · by_cases q : w < c.length
          · have := h _ (mem_getD c 0 w q); omega
          · rw [List.getD_eq_getElem?_getD, List.getElem?_eq_none (by omega)]; simp; omega
      have pa : 0 < a.length := List.length_pos_iff.2 ha
      have pb : 0 < b.length := List.length_pos_iff.2 hb
      have ma := loopV_min (fun w => bestV r (a.set w (a.getD w 0 + j))) (nn a ha h1) a.length 0 (-1) (by omega) (fun _ => pa)
      have mb := loopV_min (fun w => bestV r (b.set w (b.getD w 0 + j))) (nn b hb h2) b.length 0 (-1) (by omega) (fun _ => pb)
      rw [bestV, bestV]
      rcases ma.2.1 with ⟨z, _⟩ | ⟨i, _, hi, e⟩
      · omega
      · rw [e]
        obtain ⟨i', hi', hp'⟩ := set_perm a b hp i (by omega) j
        have := mb.2.2.2 i' (by omega) (by omega)
        refine Int.le_trans this ?_
        have e2 := ih hr (a.set i (a.getD i 0 + j)) (b.set i' (b.getD i' 0 + j)) (by simpa using ha) (fun x hx => by
          rcases List.mem_or_eq_of_mem_set hx with hx | rfl
          · exact h1 x hx
          · have := h1 _ (mem_getD a 0 i (by omega)); omega) hp'
        simp only [e2]
        exact Int.le_refl _
    have h' : ∀ x ∈ l', 0 ≤ x := fun x hx => h x (hp.mem_iff.2 hx)
    have := key l l' hl hl' h h' hp
    have := key l' l hl' hl h' h hp.symm
    omega

theorem copy_ (l : List Int) (hm : l.length ≤ 1048576) : ∀ (d k i : Nat), i + d = l.length → d < k → spec_l01Copy.l0 k l (l.take i) (i : Int) = some l := by
  intro d
  induction d with
  | zero =>
    intro k i hi hk
    obtain ⟨k, rfl⟩ : ∃ m, k = m + 1 := ⟨k - 1, by omega⟩
    rw [spec_l01Copy.l0, List.take_of_length_le (by omega)]
    exact ifn (by omega) rfl
  | succ d ih =>
    intro k i hi hk
    obtain ⟨k, rfl⟩ : ∃ m, k = m + 1 := ⟨k - 1, by omega⟩
    have g := ih k (i + 1) (by omega) (by omega)
    rw [take_succ_getD l 0 i (by omega)] at g
    rw [spec_l01Copy.l0, w64_succ i (by omega), rd_natD]
    exact ifp (by omega) (ifp (by omega) (ifp (by simp; omega) g))
theorem copy_f (k : Nat) (l : List Int) (hm : l.length ≤ 1000) (hk : l.length < k) : spec_l01Copy.f k l = some l := by
  unfold spec_l01Copy.f
  have := copy_ l (by omega) l.length k 0 (by omega) hk
  simpa using this
theorem max_l0 (l : List Int) (hm : l.length ≤ 1000) : ∀ (d k i : Nat) (m : Int), i + d = l.length → d < k → slices_Max_int_int.l0 k l m (i : Int) = some (mxL m (l.drop i)) := by
  intro d
  induction d with
  | zero =>
    intro k i m hi hk
    obtain ⟨k, rfl⟩ : ∃ m, k = m + 1 := ⟨k - 1, by omega⟩
    rw [slices_Max_int_int.l0, List.drop_of_length_le (by omega), mxL]
    exact ifn (by omega) rfl
  | succ d ih =>
    intro k i m hi hk
    obtain ⟨k, rfl⟩ : ∃ m, k = m + 1 := ⟨k - 1, by omega⟩
    rw [slices_Max_int_int.l0, drop_getD l 0 i (by omega), mxL, w64_succ i (by omega), rd_natD]
    exact ifp (by omega) (ifp (by omega) (ih k (i + 1) _ (by omega) (by omega)))
theorem max_f (k : Nat) (l : List Int) (h0 : 0 < l.length) (hm : l.length ≤ 1000) (hk : l.length < k) : slices_Max_int_int.f k l = some (bestV [] l) := by
  unfold slices_Max_int_int.f bestV
  have e := max_l0 l hm (l.length - 1) k 1 (l.getD 0 0) (by omega) (by omega)
  exact ifn (by omega) (ifp (by omega) e)
theorem set_back (l : List Int) (i : Nat) (h : i < l.length) (v : Int) : (l.set i v).set i (l.getD i 0) = l := by
  rw [List.set_set, getD_eq l i h, List.set_getElem_self]
theorem getD_set (l : List Int) (i : Nat) (h : i < l.length) (v : Int) : (l.set i v).getD i 0 = v := by
  rw [getD_eq _ i (by simpa using h)]; simp
theorem impl_b (jobs : List Int) : (∀ x ∈ jobs, 1 ≤ x ∧ x ≤ 1000) → jobs.length ≤ 1000 → ∀ (l : List Int) (k : Nat), 0 < l.length → l.length ≤ 3 → (∀ x ∈ l, 0 ≤ x ∧ x + 1000 * (jobs.length : Int) ≤ 100000000) → 20 * jobs.length + 20 ≤ k → impl_best.f k jobs l = some (bestV jobs l, l) := by
  induction jobs with
  | nil =>
    intro _ _ l k h0 h3 hv hk
    obtain ⟨k, rfl⟩ : ∃ m, k = m + 1 := ⟨k - 1, by simp at hk; omega⟩
    rw [impl_best.f]
    simp at hk
    exact ifp (by simp) (st (max_f k l h0 (by omega) (by omega)) rfl)
  | cons j r ih =>
    intro hj hjl l k h0 h3 hv hk
    obtain ⟨k, rfl⟩ : ∃ m, k = m + 1 := ⟨k - 1, by omega⟩
    have hj0 := hj j (by simp)
    simp only [List.length_cons] at hk hjl hv
    have loop : ∀ (d k i : Nat) (out : Int), i + d = l.length → d + (20 * r.length + 20) + 1 ≤ k → impl_best.l0 k (j :: r) l out (l.length : Int) (i : Int) = some (loopV (fun w => bestV r (l.set w (l.getD w 0 + j))) d i out, l) := by
      intro d
      induction d with
      | zero =>
        intro k i out hi hk
        obtain ⟨k, rfl⟩ : ∃ m, k = m + 1 := ⟨k - 1, by omega⟩
        rw [impl_best.l0, loopV]
        exact ifn (by omega) rfl
      | succ d ihd =>
        intro k i out hi hk
        obtain ⟨k, rfl⟩ : ∃ m, k = m + 1 := ⟨k - 1, by omega⟩
        have hx := hv _ (mem_getD l 0 i (by omega))
        have e1 : wrap64 (rd l (i : Int) + rd (j :: r) 0) = l.getD i 0 + j := by
          have a : rd l (i : Int) = l.getD i 0 := rd_natD l i
          have b : rd (j :: r) 0 = j := rfl
          rw [a, b]; exact w64 (by omega) (by omega)
        have e2 := ih (fun x hx => hj x (by simp [hx])) (by omega) (l.set i (l.getD i 0 + j)) k (by simpa using h0) (by simpa using h3) (fun x hx => by
          rcases List.mem_or_eq_of_mem_set hx with hx | rfl
          · have := hv x hx; omega
          · omega) (by omega)
        have e3 : wrap64 (rd (l.set i (l.getD i 0 + j)) (i : Int) - rd (j :: r) 0) = l.getD i 0 := by
          have a : rd (l.set i (l.getD i 0 + j)) (i : Int) = (l.set i (l.getD i 0 + j)).getD i 0 := rd_natD _ i
          have b : rd (j :: r) 0 = j := rfl
          rw [a, b, getD_set l i (by omega), w64 (by omega) (by omega)]; omega
        rw [impl_best.l0, e1, loopV]
        have e4 : (j :: r).drop 1 = r := rfl
        rw [e4]
        simp only [Int.toNat_natCast]
        refine ifp (by omega) (ifp (by omega) (ifp (by omega) (ifp (by simp only [List.length_cons]; omega) (ifp (by simp only [List.length_cons]; omega) (st e2 ?_)))))
        simp only [e3, set_back l i (by omega), w64_succ i (by omega)]
        by_cases c1 : out < 0
        · rw [if_pos c1, if_pos c1]
          exact ihd k (i + 1) _ (by omega) (by omega)
        · rw [if_neg c1, if_neg c1]
          by_cases c2 : bestV r (l.set i (l.getD i 0 + j)) < out
          · rw [if_pos c2, if_pos c2]
            exact ihd k (i + 1) _ (by omega) (by omega)
          · rw [if_neg c2, if_neg c2]
            exact ihd k (i + 1) _ (by omega) (by omega)
    rw [impl_best.f, bestV]
    exact ifn (by simp; omega) (loop l.length k 0 (-1) (by omega) (by omega))

def loopZ (f : Nat → Int) (l : List Int) : Nat → Nat → Int → Int
  | 0, _, out => out
  | d + 1, w, out => if l.getD w 0 = 0 then (if out < 0 then f w else if f w < out then f w else out) else loopZ f l d (w + 1) (if out < 0 then f w else if f w < out then f w else out)
theorem loopV_stay (f : Nat → Int) (c : Int) : ∀ (d w : Nat) (out : Int), 0 ≤ out → out ≤ c → (∀ i, w ≤ i → i < w + d → f i = c) → loopV f d w out = out := by
  intro d
  induction d with
  | zero => intro w out _ _ _; rfl
  | succ d ih =>
    intro w out h1 h2 h3
    have hw := h3 w (by omega) (by omega)
    have ho : (if out < 0 then f w else if f w < out then f w else out) = out := by rw [if_neg (by omega), if_neg (by omega)]
    rw [loopV, ho]
    exact ih (w + 1) out h1 h2 (fun i a b => h3 i (by omega) (by omega))
theorem loopZ_eq (f : Nat → Int) (l : List Int) (hf : ∀ w, 0 ≤ f w) (hs : ∀ w i, w ≤ i → i < l.length → l.getD w 0 = 0 → f i = f w) : ∀ (d w : Nat) (out : Int), w + d = l.length → -1 ≤ out → loopZ f l d w out = loopV f d w out := by
  intro d
  induction d with
  | zero => intro w out _ _; rfl
  | succ d ih =>
    intro w out hw ho
    have h0 := hf w
    rw [loopZ, loopV]
    by_cases c : l.getD w 0 = 0
    · rw [if_pos c]
      exact (loopV_stay f (f w) d (w + 1) _ (by split <;> (try split) <;> omega) (by split <;> (try split) <;> omega) (fun i a b => hs w i (by omega) (by omega) c)).symm
    · rw [if_neg c]
      exact ih (w + 1) _ (by omega) (by split <;> (try split) <;> omega)
/-- Workers that have nothing come last. -/
def Z (l : List Int) : Prop := ∀ i k, i ≤ k → k < l.length → l.getD i 0 = 0 → l.getD k 0 = 0
theorem getD_ne (l : List Int) (w i : Nat) (v : Int) (h : i ≠ w) : (l.set w v).getD i 0 = l.getD i 0 := by
  rw [List.getD_eq_getElem?_getD, List.getD_eq_getElem?_getD, List.getElem?_set_ne (by omega)]
theorem Z_set {l : List Int} (hz : Z l) (w : Nat) (hw : w < l.length) (v : Int) (hv : v ≠ 0) (hn : ∀ i, i < w → l.getD i 0 ≠ 0) : Z (l.set w v) := by
  intro i k hik hk h
  rw [List.length_set] at hk
  by_cases e : i = w
  · subst e; rw [getD_set l i hw] at h; exact absurd h hv
  · rw [getD_ne l w i v e] at h
    by_cases c : i < w
    · exact absurd h (hn i c)
    · rw [getD_ne l w k v (by omega)]
      exact hz i k hik hk h
theorem most_l0 (l : List Int) (hm : l.length ≤ 1000) : ∀ (d k i : Nat) (m : Int), i + d = l.length → d < k → spec_l12Best.l0 k l m (i : Int) = some (mxL m (l.drop i)) := by
  intro d
  induction d with
  | zero =>
    intro k i m hi hk
    obtain ⟨k, rfl⟩ : ∃ m, k = m + 1 := ⟨k - 1, by omega⟩
    rw [spec_l12Best.l0, List.drop_of_length_le (by omega), mxL]
    exact ifn (by omega) rfl
  | succ d ih =>
    intro k i m hi hk
    obtain ⟨k, rfl⟩ : ∃ m, k = m + 1 := ⟨k - 1, by omega⟩
    rw [spec_l12Best.l0, drop_getD l 0 i (by omega), mxL, w64_succ i (by omega), rd_natD]
    by_cases c : l.getD i 0 > m
    · have hv : mx m (l.getD i 0) = l.getD i 0 := by unfold mx; rw [if_pos (by omega)]
      rw [hv]
      exact ifp (by omega) (ifp (by omega) (ifp c (ih k (i + 1) _ (by omega) (by omega))))
    · have hv : mx m (l.getD i 0) = m := by unfold mx; split <;> omega
      rw [hv]
      exact ifp (by omega) (ifp (by omega) (ifn c (ih k (i + 1) _ (by omega) (by omega))))
theorem spec_b (jobs : List Int) (hj : ∀ x ∈ jobs, 1 ≤ x ∧ x ≤ 1000) (hjl : jobs.length ≤ 1000) : ∀ (e at_ : Nat) (l : List Int) (k : Nat), at_ + e = jobs.length → 0 < l.length → l.length ≤ 3 → Z l → (∀ x ∈ l, 0 ≤ x ∧ x + 1000 * (e : Int) ≤ 100000000) → 40 * e + 40 ≤ k → spec_l12Best.f k jobs (at_ : Int) l = some (bestV (jobs.drop at_) l) := by
  intro e
  induction e with
  | zero =>
    intro at_ l k ha h0 h3 hz hv hk
    obtain ⟨k, rfl⟩ : ∃ m, k = m + 1 := ⟨k - 1, by omega⟩
    rw [spec_l12Best.f, List.drop_of_length_le (by omega), bestV]
    have h := most_l0 l (by omega) l.length k 0 0 (by omega) (by omega)
    have e0 : l = l.getD 0 0 :: l.drop 1 := by
      have := drop_getD l 0 0 h0
      simpa using this
    have hx := hv _ (mem_getD l 0 0 h0)
    have e1 : mxL 0 (l.drop 0) = mxL (l.getD 0 0) (l.drop 1) := by
      have hm : mx 0 (l.getD 0 0) = l.getD 0 0 := by unfold mx; split <;> omega
      rw [drop_getD l 0 0 h0, mxL, hm]
    rw [e1] at h
    exact ifp (by omega) h
  | succ e ih =>
    intro at_ l k ha h0 h3 hz hv hk
    obtain ⟨k, rfl⟩ : ∃ m, k = m + 1 := ⟨k - 1, by omega⟩
    have hd := drop_getD jobs 0 at_ (by omega)
    have hj0 := hj _ (mem_getD jobs 0 at_ (by omega))
    have ej : rd jobs (at_ : Int) = jobs.getD at_ 0 := rd_natD jobs at_
    have hr : ∀ x ∈ jobs.drop (at_ + 1), 0 ≤ x := fun x hx => by have := hj x (List.mem_of_mem_drop hx); omega
    have hl0 : l ≠ [] := by intro h; rw [h] at h0; simp at h0
    generalize jobs.getD at_ 0 = j at hd hj0 ej
    have hvs : ∀ w, ∀ x ∈ l.set w (l.getD w 0 + j), 0 ≤ x ∧ x + 1000 * (e : Int) ≤ 100000000 := by
      intro w x hx
      by_cases c : w < l.length
      · rcases List.mem_or_eq_of_mem_set hx with hx | rfl
        · have := hv x hx; omega
        · have := hv _ (mem_getD l 0 w c); omega
      · rw [List.set_eq_of_length_le (by omega)] at hx
        have := hv x hx; omega
    have loop : ∀ (d k w : Nat) (out : Int), w + d = l.length → 3 * d + (40 * e + 40) + 10 ≤ k → (∀ i, i < w → l.getD i 0 ≠ 0) → spec_l12Best.l1 k jobs (at_ : Int) l out (w : Int) = some (loopZ (fun w => bestV (jobs.drop (at_ + 1)) (l.set w (l.getD w 0 + j))) l d w out) := by
      intro d
      induction d with
      | zero =>
        intro k w out hw hk hn
        obtain ⟨k, rfl⟩ : ∃ m, k = m + 1 := ⟨k - 1, by omega⟩
        rw [spec_l12Best.l1, loopZ]
        exact ifn (by omega) rfl
      | succ d ihd =>
        intro k w out hw hk hn
        obtain ⟨k, rfl⟩ : ∃ m, k = m + 1 + 1 + 1 := ⟨k - 3, by omega⟩
        have hx := hv _ (mem_getD l 0 w (by omega))
        have e1 : wrap64 (rd l (w : Int) + rd jobs (at_ : Int)) = l.getD w 0 + j := by
          rw [ej, rd_natD]; exact w64 (by omega) (by omega)
        have e2 := ih (at_ + 1) (l.set w (l.getD w 0 + j)) (k + 1 + 1) (by omega) (by simpa using h0) (by simpa using h3) (Z_set hz w (by omega) _ (by omega) hn) (hvs w) (by omega)
        have tail : ∀ o : Int, spec_l12Best.j3 (k + 1) jobs (at_ : Int) l o (w : Int) = some (if l.getD w 0 = 0 then o else loopZ (fun w => bestV (jobs.drop (at_ + 1)) (l.set w (l.getD w 0 + j))) l d (w + 1) o) := by
          intro o
          rw [spec_l12Best.j3, rd_natD, w64_succ w (by omega)]
          by_cases c : l.getD w 0 = 0
          · have hv2 : (if l.getD w 0 = 0 then o else loopZ (fun w => bestV (jobs.drop (at_ + 1)) (l.set w (l.getD w 0 + j))) l d (w + 1) o) = o := if_pos c
            rw [hv2]
            exact ifp (by omega) (ifp (by omega) (ifp c rfl))
          · have hv2 : (if l.getD w 0 = 0 then o else loopZ (fun w => bestV (jobs.drop (at_ + 1)) (l.set w (l.getD w 0 + j))) l d (w + 1) o) = loopZ (fun w => bestV (jobs.drop (at_ + 1)) (l.set w (l.getD w 0 + j))) l d (w + 1) o := if_neg c
            rw [hv2]
            exact ifp (by omega) (ifp (by omega) (ifn c (ihd k (w + 1) o (by omega) (by omega) (fun i hi => by
              by_cases e : i = w
              · rw [e]; exact c
              · exact hn i (by omega)))))
        rw [spec_l12Best.l1, w64_succ at_ (by omega)]
        refine ifp (by omega) (st (copy_f (k + 1 + 1) l (by omega) (by omega)) (ifp (by omega) (ifp (by omega) (ifp (by omega) (ifp (by omega) ?_)))))
        simp only [e1, Int.toNat_natCast]
        refine st e2 ?_
        rw [loopZ]
        generalize bestV (jobs.drop (at_ + 1)) (l.set w (l.getD w 0 + j)) = x
        by_cases c1 : out < 0
        · rw [if_pos c1, if_pos c1, spec_l12Best.j2]
          exact ifp rfl (tail x)
        · rw [if_neg c1, if_neg c1, spec_l12Best.j2]
          by_cases c2 : x < out
          · rw [decide_eq_true c2, if_pos c2]
            exact ifp rfl (tail x)
          · rw [decide_eq_false c2, if_neg c2]
            exact ifn (by simp) (tail out)
    rw [spec_l12Best.f, hd, bestV]
    refine ifn (by omega) ((loop l.length k 0 (-1) (by omega) (by omega) (fun i hi => by omega)).trans ?_)
    rw [loopZ_eq _ l (fun w => bestV_nn _ hr _ (by simpa using hl0) (fun x hx => (hvs w x hx).1)) ?_ l.length 0 (-1) (by omega) (by omega)]
    intro w i hwi hi hzero
    have hzi := hz w i hwi hi hzero
    have a1 := set_perm1 l i (l.getD i 0 + j) hi
    have a2 := set_perm1 l w (l.getD w 0 + j) (by omega)
    have b1 := get_perm1 l i hi
    have b2 := get_perm1 l w (by omega)
    have ee : l[i] = l[w] := by rw [← getD_eq l i hi, ← getD_eq l w (by omega), hzi, hzero]
    rw [ee] at b1
    have c1 := (b1.trans b2.symm).cons_inv
    rw [hzi] at a1
    rw [hzero] at a2
    have hp := (a1.trans (c1.cons _)).trans a2.symm
    simp only [hzi, hzero]
    have hvi := hvs i
    rw [hzi] at hvi
    exact bestV_perm _ hr _ _ (by simpa using hl0) (fun x hx => (hvi x hx).1) hp
theorem Z_zeros (n : Nat) : Z (List.replicate n 0) := by
  intro i k _ hk _
  rw [getD_eq _ k hk, List.getElem_replicate]
def bestOf (jobs : List Int) (w : Int) : Int := if jOk jobs = true ∧ jobs.length ≤ 8 ∧ 1 ≤ w ∧ w ≤ 3 then bestV jobs (List.replicate w.toNat 0) else -1
theorem jOk_val {l : List Int} (h : jOk l = true) : ∀ x ∈ l, 1 ≤ x ∧ x ≤ 1000 := by
  simp only [jOk, Bool.and_eq_true, List.all_eq_true, isJ, decide_eq_true_eq] at h
  exact h.2
theorem rep_v (n : Nat) (e : Int) (he : 0 ≤ e ∧ e ≤ 1000) : ∀ x ∈ List.replicate n (0 : Int), 0 ≤ x ∧ x + 1000 * e ≤ 100000000 := by
  intro x hx
  have := List.eq_of_mem_replicate hx
  omega
theorem spec_best (k : Nat) (l : List Int) (w : Int) (hm : l.length ≤ 1048576) (hk : 1048600 ≤ k) : spec_BestSpan.f k l w = some (bestOf l w) := by
  obtain ⟨k, rfl⟩ : ∃ m, k = m + 1 := ⟨k - 1, by omega⟩
  unfold spec_BestSpan.f bestOf
  refine st (spec_jOk (k + 1) l hm (by omega)) ?_
  by_cases c1 : jOk l = true
  · refine ifp c1 ?_
    by_cases c2 : (l.length : Int) > 8
    · have hv : ¬ (jOk l = true ∧ l.length ≤ 8 ∧ 1 ≤ w ∧ w ≤ 3) := fun h => by omega
      rw [if_neg hv, spec_BestSpan.j0]
      exact ifp c2 (ifp rfl rfl)
    · refine ifn c2 (st (spec_in _ _ _) ?_)
      rw [spec_BestSpan.j0]
      by_cases c3 : 1 ≤ w ∧ w ≤ 3
      · have hv : jOk l = true ∧ l.length ≤ 8 ∧ 1 ≤ w ∧ w ≤ 3 := ⟨c1, by omega, c3.1, c3.2⟩
        rw [decide_eq_true c3, if_pos hv]
        have h := spec_b l (jOk_val c1) (by omega) l.length 0 (List.replicate w.toNat 0) k (by omega) (by simp; omega) (by simp; omega) (Z_zeros _) (rep_v _ _ (by omega)) (by omega)
        rw [List.drop_zero] at h
        exact ifn (by simp) (ifp (by omega) (ifp (by omega) (st h rfl)))
      · have hv : ¬ (jOk l = true ∧ l.length ≤ 8 ∧ 1 ≤ w ∧ w ≤ 3) := fun h => c3 ⟨h.2.2.1, h.2.2.2⟩
        rw [decide_eq_false c3, if_neg hv]
        exact ifp rfl rfl
  · have hv : ¬ (jOk l = true ∧ l.length ≤ 8 ∧ 1 ≤ w ∧ w ≤ 3) := fun h => c1 h.1
    rw [if_neg hv, spec_BestSpan.j0]
    exact ifn c1 (ifp rfl rfl)
theorem impl_best_ (k : Nat) (l : List Int) (w : Int) (hm : l.length ≤ 1048576) (hk : 1048600 ≤ k) : impl_BestSpan.f k l w = some (bestOf l w) := by
  obtain ⟨k, rfl⟩ : ∃ m, k = m + 1 := ⟨k - 1, by omega⟩
  unfold impl_BestSpan.f bestOf
  refine st (impl_jOk (k + 1) l hm (by omega)) ?_
  by_cases c1 : jOk l = true
  · refine ifp c1 ?_
    by_cases c2 : (l.length : Int) > 8
    · have hv : ¬ (jOk l = true ∧ l.length ≤ 8 ∧ 1 ≤ w ∧ w ≤ 3) := fun h => by omega
      rw [if_neg hv, impl_BestSpan.j0]
      exact ifp c2 (ifp rfl rfl)
    · refine ifn c2 (st (impl_in_ _ _ _) ?_)
      rw [impl_BestSpan.j0]
      by_cases c3 : 1 ≤ w ∧ w ≤ 3
      · have hv : jOk l = true ∧ l.length ≤ 8 ∧ 1 ≤ w ∧ w ≤ 3 := ⟨c1, by omega, c3.1, c3.2⟩
        rw [decide_eq_true c3, if_pos hv]
        have h := impl_b l (jOk_val c1) (by omega) (List.replicate w.toNat 0) k (by simp; omega) (by simp; omega) (rep_v _ _ (by omega)) (by omega)
        exact ifn (by simp) (ifp (by omega) (ifp (by omega) (st h rfl)))
      · have hv : ¬ (jOk l = true ∧ l.length ≤ 8 ∧ 1 ≤ w ∧ w ≤ 3) := fun h => c3 ⟨h.2.2.1, h.2.2.2⟩
        rw [decide_eq_false c3, if_neg hv]
        exact ifp rfl rfl
  · have hv : ¬ (jOk l = true ∧ l.length ≤ 8 ∧ 1 ≤ w ∧ w ≤ 3) := fun h => c1 h.1
    rw [if_neg hv, impl_BestSpan.j0]
    exact ifn c1 (ifp rfl rfl)


theorem FnExactBestSpan : laws_FnExactBestSpan.Pure := by
  intro l w hl _
  obtain ⟨k, hk⟩ : ∃ k : Nat, 1000000000 ≤ k := ⟨_, Nat.le_refl _⟩
  refine ⟨k, ?_⟩
  unfold laws_FnExactBestSpan.f

  by_cases hg : (l.length : Int) > 1048576
  · rw [if_pos hg]
  rw [if_neg hg]
  have ol : LB (fun _ => True) l := ⟨by omega, fun _ _ => trivial⟩

  have e1 := spec_best k l w ol.1 (by omega)
  have e2 := impl_best_ k l w ol.1 (by omega)
  repeat (first
    | (refine st e1 ?_; (try dsimp only))
    | (refine st e2 ?_; (try dsimp only))
    | (refine st (toIntS_ _ _ (by assumption) (by omega)) ?_; (try dsimp only))
    | (refine st (eqIntS_ _ _ (by assumption) (by omega)) ?_; (try dsimp only))
    | refine ifp rfl ?_
    | refine ifn (by omega) ?_
    | refine ifp (by omega) ?_
    | refine ifn (by simp) ?_
    | refine ifp (by simp) ?_
    | rfl)

end Go.Proofs.Ytecnioodkihceaa.Pure
