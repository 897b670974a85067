/- What is left of the statement FnExactPickNext once the Go functions are Lean functions: the program's PickNext and the reference's answer alike. No condition. -/
import Derived.Test.YtljboinndpnefaaQFnExactPickNextx4
import Derived.Test.YtljboinndpnefaaAid
set_option linter.unusedVariables false
set_option linter.unusedSimpArgs false
namespace Go.Proofs.Ytljboinndpnefaa.Pure
open Go.RowKit Go.Proofs.Ytljboinndpnefaa.QFnExactPickNext Go.Proofs.YtljboinndpnefaaW.PrintWords Go.Proofs.YtljboinndpnefaaW.PrintLast Go.Proofs.YtljboinndpnefaaW.PrintMore Go.Proofs.YtljboinndpnefaaW.Aid


theorem spec_in (x lo hi : Int) : spec_l01In.f x lo hi = some (decide (lo ≤ x ∧ x ≤ hi)) := by
  unfold spec_l01In.f
  split
  · simp_all
  · simp; omega
theorem impl_in_ (x lo hi : Int) : impl_in.f x lo hi = some (decide (lo ≤ x ∧ x ≤ hi)) := by
  unfold impl_in.f
  split
  · simp_all
  · simp; omega

def LB {α : Type} (P : α → Prop) (l : List α) : Prop := l.length ≤ 1048576 ∧ ∀ x ∈ l, P x
theorem LB.map {α β : Type} {P : α → Prop} {Q : β → Prop} {f : α → β} {l : List α} (hf : ∀ x, P x → Q (f x)) (h : LB P l) : LB Q (l.map f) := ⟨by simpa using h.1, fun y hy => by obtain ⟨x, hx, rfl⟩ := List.mem_map.1 hy; exact hf x (h.2 x hx)⟩
theorem map_getD {α β : Type} (f : α → β) (l : List α) (i : Nat) (h : i < l.length) (d : α) (d' : β) : (l.map f).getD i d' = f (l.getD i d) := by simp [h]
theorem szIntS_ {W : Int → Prop} (l : List (Int)) (a : Int) (hw : WL W l) (h0 : 0 ≤ a) (h1 : a ≤ 1048576) : ∃ r, laws_szIntS.f l a = some r ∧ (r < 0 ∨ (0 ≤ r ∧ r ≤ a ∧ LB (fun _ => True) l)) := by
  have hm : l.length ≤ 9223372036854775807 := hw.1
  have he : wrap64 (a - (l.length : Int)) = a - l.length := w64 (by omega) (by omega)
  unfold laws_szIntS.f
  rw [he]
  by_cases h : a - (l.length : Int) < 0
  · exact ⟨-1, if_pos h, Or.inl (by omega)⟩
  · rw [if_neg h]
    exact ⟨_, rfl, Or.inr ⟨by omega, by omega, by omega, fun _ _ => trivial⟩⟩
theorem szTask_ {Wl0_1 : Int → Prop} (a0_0 : Int) (l0_1 : List (Int)) (a0_2 : Int) (a0_3 : Int) (a0_4 : Int) (a1 : Int) (wl0_1 : WL Wl0_1 l0_1) (h0 : 0 ≤ a1) (h1 : a1 ≤ 1048576) : ∃ r, laws_szTask.f a0_0 l0_1 a0_2 a0_3 a0_4 a1 = some r ∧ (r < 0 ∨ (0 ≤ r ∧ r ≤ a1 ∧ LB (fun _ => True) l0_1)) := by
  unfold laws_szTask.f
  obtain ⟨r1, e1, g1⟩ := szIntS_ l0_1 a1 wl0_1 (by omega) (by omega)
  rw [e1]
  simp only [Option.bind_some]
  rcases g1 with g1 | ⟨p1, u1, g1⟩
  · exact ⟨-1, if_pos g1, Or.inl (by omega)⟩
  rw [if_neg (by omega)]
  exact ⟨r1, rfl, Or.inr ⟨by omega, by omega, g1⟩⟩
def Ok24 (x : S24) : Prop := (LB (fun _ => True)) x.f1
theorem szTaskS_l0 (l : List (S24)) (hw : WL Wt24 l) (hm : l.length ≤ 1048576) : ∀ (d k i : Nat) (a : Int), i + d = l.length → d + 1048580 < k → 0 ≤ a → a ≤ 1048576 → ∃ r, laws_szTaskS.l0 k l a (i : Int) = some r ∧ (r < 0 ∨ (0 ≤ r ∧ r ≤ a ∧ ∀ x ∈ l.drop i, Ok24 x)) := by
  intro d
  induction d with
  | zero =>
    intro k i a hi hk h0 h1
    obtain ⟨k, rfl⟩ : ∃ m, k = m + 1 := ⟨k - 1, by omega⟩
    simp only [laws_szTaskS.l0]
    rw [if_neg (by omega), List.drop_of_length_le (by omega)]
    exact ⟨a, rfl, Or.inr ⟨h0, Int.le_refl _, fun x hx => absurd hx (by simp)⟩⟩
  | succ d ih =>
    intro k i a hi hk h0 h1
    obtain ⟨k, rfl⟩ : ∃ m, k = m + 1 := ⟨k - 1, by omega⟩
    have hx := hw.2 _ (mem_getD l z24 i (by omega))
    have hw0 : (WL (WI .i64)) (l.getD i z24).f1 := hx.2.1
    simp only [laws_szTaskS.l0, rd_L1, rd_L4, rd_T24, rd_T27, rd_T33, Int.toNat_natCast]
    rw [if_pos (by omega), if_pos (by omega)]
    obtain ⟨r, e, h⟩ := szTask_ (l.getD i z24).f0 (l.getD i z24).f1 (l.getD i z24).f2 (l.getD i z24).f3 (l.getD i z24).f4 a hw0 h0 h1
    rw [e]
    simp only [Option.bind_some]
    rcases h with h | ⟨h1, h2, h3⟩
    · exact ⟨-1, if_pos h, Or.inl (by omega)⟩
    · rw [if_neg (by omega), w64_succ i (by omega)]
      obtain ⟨r', e', h'⟩ := ih k (i + 1) r (by omega) (by omega) h1 (by omega)
      refine ⟨r', e', ?_⟩
      rcases h' with h' | ⟨a1, a2, a3⟩
      · exact Or.inl h'
      · refine Or.inr ⟨a1, by omega, ?_⟩
        rw [drop_getD l z24 i (by omega)]
        intro x hx
        rcases List.mem_cons.1 hx with rfl | hx
        · exact h3
        · exact a3 x hx
theorem szTaskS_ (k : Nat) (l : List (S24)) (a : Int) (hw : WL Wt24 l) (h0 : 0 ≤ a) (h1 : a ≤ 1048576) (hk : 2097160 ≤ k) : ∃ r, laws_szTaskS.f k l a = some r ∧ (r < 0 ∨ (0 ≤ r ∧ r ≤ a ∧ LB Ok24 l)) := by
  have hm : l.length ≤ 9223372036854775807 := hw.1
  have he : wrap64 (a - (l.length : Int)) = a - l.length := w64 (by omega) (by omega)
  unfold laws_szTaskS.f
  rw [he]
  by_cases h : a - (l.length : Int) < 0
  · exact ⟨-1, if_pos h, Or.inl (by omega)⟩
  · rw [if_neg h]
    obtain ⟨r, e, h2⟩ := szTaskS_l0 l hw (by omega) l.length k 0 (a - l.length) (by omega) (by omega) (by omega) (by omega)
    refine ⟨r, e, ?_⟩
    rcases h2 with h2 | ⟨a1, a2, a3⟩
    · exact Or.inl h2
    · exact Or.inr ⟨a1, by omega, by omega, by simpa using a3⟩
theorem szSched_ (k : Nat) (a0_0 : Int) (a0_1 : Int) (a0_2 : Int) (l0_3 : List (S24)) (a0_4 : Int) (a0_5 : Int) (a0_6 : Int) (a0_7 : Int) (a1 : Int) (wl0_3 : WL Wt24 l0_3) (h0 : 0 ≤ a1) (h1 : a1 ≤ 1048576) (hk : 2097160 ≤ k) : ∃ r, laws_szSched.f k a0_0 a0_1 a0_2 l0_3 a0_4 a0_5 a0_6 a0_7 a1 = some r ∧ (r < 0 ∨ (0 ≤ r ∧ r ≤ a1 ∧ LB Ok24 l0_3)) := by
  unfold laws_szSched.f
  obtain ⟨r1, e1, g1⟩ := szTaskS_ k l0_3 a1 wl0_3 (by omega) (by omega) (by omega)
  rw [e1]
  simp only [Option.bind_some]
  rcases g1 with g1 | ⟨p1, u1, g1⟩
  · exact ⟨-1, if_pos g1, Or.inl (by omega)⟩
  rw [if_neg (by omega)]
  exact ⟨r1, rfl, Or.inr ⟨by omega, by omega, g1⟩⟩
theorem toIntS_l0 (l : List (Int)) (ho : LB (fun _ => True) l) : ∀ (d k i : Nat) (y : List (Int)), i + d = l.length → d + 0 < k → y.length = l.length → y.take i = l.take i → laws_toIntS.l0 k l y (i : Int) = some l := by
  have hm := ho.1
  have hc : l.length = l.length := by rfl
  intro d
  induction d with
  | zero =>
    intro k i y hi hk hy ht
    obtain ⟨k, rfl⟩ : ∃ m, k = m + 1 := ⟨k - 1, by omega⟩
    simp only [laws_toIntS.l0]
    rw [if_neg (by omega), take_full hy hc (by rw [show l.length = i by omega]; exact ht)]
  | succ d ih =>
    intro k i y hi hk hy ht
    obtain ⟨k, rfl⟩ : ∃ m, k = m + 1 := ⟨k - 1, by omega⟩
    have hx := ho.2 _ (mem_getD l 0 i (by omega))
    simp only [laws_toIntS.l0, rd_L1, rd_L4, rd_T24, rd_T27, rd_T33, rd_natD, Int.toNat_natCast]
    repeat (first | refine ifp rfl ?_ | refine ifp (by omega) ?_ | refine ifn (by rw [bne_self_eq_false]; exact Bool.false_ne_true) ?_ | refine ifp (by simp) ?_ | refine ifn (by simp) ?_)
    rw [w64_succ i (by omega)]
    refine ih k (i + 1) _ (by omega) (by omega) (by simpa using hy) ?_
    rw [take_set_succ _ _ _ (by omega), ht, take_succ_getD l 0 i (by omega)]
theorem toIntS_ (k : Nat) (l : List (Int)) (ho : LB (fun _ => True) l) (hk : 1048580 ≤ k) : laws_toIntS.f k l = some l := by
  have hm := ho.1
  unfold laws_toIntS.f
  rw [if_pos (by omega), if_pos (by simp; omega)]
  exact toIntS_l0 l ho l.length k 0 _ (by omega) (by omega) (by simp) (by simp)
theorem toTask_ (k : Nat) (a0_0 : Int) (l0_1 : List (Int)) (a0_2 : Int) (a0_3 : Int) (a0_4 : Int) (hl0_1 : LB (fun _ => True) l0_1) (hk : 1048580 ≤ k) : laws_toTask.f k a0_0 l0_1 a0_2 a0_3 a0_4 = some (a0_0, l0_1, a0_2, a0_3, a0_4) := by
  unfold laws_toTask.f
  repeat (first | (refine st (toIntS_ _ _ (by assumption) (by omega)) ?_; (try dsimp only)) | refine ifp rfl ?_ | refine ifp (by omega) ?_ | refine ifn (by rw [bne_self_eq_false]; exact Bool.false_ne_true) ?_ | refine ifp (by simp) ?_ | refine ifn (by simp) ?_ | rfl)
def cv24_27 (x : S24) : S27 := ⟨x.f0, x.f1, x.f2, x.f3, x.f4⟩
def Ok27 (x : S27) : Prop := (LB (fun _ => True)) x.f1
theorem ok_cv24_27 (x : S24) (h : Ok24 x) : Ok27 (cv24_27 x) := h
theorem toTaskS_l0 (l : List (S24)) (ho : LB Ok24 l) : ∀ (d k i : Nat) (y : List (S27)), i + d = l.length → d + 1048580 < k → y.length = l.length → y.take i = (l.map cv24_27).take i → laws_toTaskS.l0 k l y (i : Int) = some (l.map cv24_27) := by
  have hm := ho.1
  have hc : (l.map cv24_27).length = l.length := by simp
  intro d
  induction d with
  | zero =>
    intro k i y hi hk hy ht
    obtain ⟨k, rfl⟩ : ∃ m, k = m + 1 := ⟨k - 1, by omega⟩
    simp only [laws_toTaskS.l0]
    rw [if_neg (by omega), take_full hy hc (by rw [show l.length = i by omega]; exact ht)]
  | succ d ih =>
    intro k i y hi hk hy ht
    obtain ⟨k, rfl⟩ : ∃ m, k = m + 1 := ⟨k - 1, by omega⟩
    have hx := ho.2 _ (mem_getD l z24 i (by omega))
    have hx0 : (LB (fun _ => True)) (l.getD i z24).f1 := hx
    simp only [laws_toTaskS.l0, rd_L1, rd_L4, rd_T24, rd_T27, rd_T33, rd_natD, Int.toNat_natCast]
    repeat (first | (refine st (toTask_ _ _ _ _ _ _ (by assumption) (by omega)) ?_; (try dsimp only)) | refine ifp rfl ?_ | refine ifp (by omega) ?_ | refine ifn (by rw [bne_self_eq_false]; exact Bool.false_ne_true) ?_ | refine ifp (by simp) ?_ | refine ifn (by simp) ?_)
    rw [w64_succ i (by omega)]
    refine ih k (i + 1) _ (by omega) (by omega) (by simpa using hy) ?_
    rw [take_set_succ _ _ _ (by omega), ht, take_succ_getD (l.map cv24_27) z27 i (by omega), map_getD _ _ _ (by omega) z24]
    rfl
theorem toTaskS_ (k : Nat) (l : List (S24)) (ho : LB Ok24 l) (hk : 2097160 ≤ k) : laws_toTaskS.f k l = some (l.map cv24_27) := by
  have hm := ho.1
  unfold laws_toTaskS.f
  rw [if_pos (by omega), if_pos (by simp; omega)]
  exact toTaskS_l0 l ho l.length k 0 _ (by omega) (by omega) (by simp) (by simp)
theorem toSched_ (k : Nat) (a0_0 : Int) (a0_1 : Int) (a0_2 : Int) (l0_3 : List (S24)) (a0_4 : Int) (a0_5 : Int) (a0_6 : Int) (a0_7 : Int) (hl0_3 : LB Ok24 l0_3) (hk : 2097160 ≤ k) : laws_toSched.f k a0_0 a0_1 a0_2 l0_3 a0_4 a0_5 a0_6 a0_7 = some (a0_0, a0_1, a0_2, l0_3.map cv24_27, a0_4, a0_5, a0_6, a0_7) := by
  unfold laws_toSched.f
  repeat (first | (refine st (toTaskS_ _ _ (by assumption) (by omega)) ?_; (try dsimp only)) | refine ifp rfl ?_ | refine ifp (by omega) ?_ | refine ifn (by rw [bne_self_eq_false]; exact Bool.false_ne_true) ?_ | refine ifp (by simp) ?_ | refine ifn (by simp) ?_ | rfl)
theorem eqIntS_l0 (l : List (Int)) (ho : LB (fun _ => True) l) : ∀ (d k i : Nat), i + d = l.length → d + 0 < k → laws_eqIntS.l0 k l l (i : Int) = some true := by
  have hm := ho.1
  intro d
  induction d with
  | zero =>
    intro k i hi hk
    obtain ⟨k, rfl⟩ : ∃ m, k = m + 1 := ⟨k - 1, by omega⟩
    simp only [laws_eqIntS.l0]
    rw [if_neg (by omega)]
  | succ d ih =>
    intro k i hi hk
    obtain ⟨k, rfl⟩ : ∃ m, k = m + 1 := ⟨k - 1, by omega⟩
    have hx := ho.2 _ (mem_getD l 0 i (by omega))
    simp only [laws_eqIntS.l0, rd_L1, rd_L4, rd_T24, rd_T27, rd_T33, rd_natD, Int.toNat_natCast]
    repeat (first | refine ifp rfl ?_ | refine ifp (by omega) ?_ | refine ifn (by rw [bne_self_eq_false]; exact Bool.false_ne_true) ?_ | refine ifp (by simp) ?_ | refine ifn (by simp) ?_)
    rw [w64_succ i (by omega)]
    exact ih k (i + 1) (by omega) (by omega)
theorem eqIntS_ (k : Nat) (l : List (Int)) (ho : LB (fun _ => True) l) (hk : 1048580 ≤ k) : laws_eqIntS.f k l l = some true := by
  have hm := ho.1
  unfold laws_eqIntS.f
  rw [if_pos rfl]
  exact eqIntS_l0 l ho l.length k 0 (by omega) (by omega)
theorem eqTask_ (k : Nat) (a0_0 : Int) (l0_1 : List (Int)) (a0_2 : Int) (a0_3 : Int) (a0_4 : Int) (hl0_1 : LB (fun _ => True) l0_1) (hk : 1048580 ≤ k) : laws_eqTask.f k a0_0 l0_1 a0_2 a0_3 a0_4 a0_0 l0_1 a0_2 a0_3 a0_4 = some true := by
  unfold laws_eqTask.f
  repeat (first | (refine st (eqIntS_ _ _ (by assumption) (by omega)) ?_; (try dsimp only)) | refine ifp rfl ?_ | refine ifp (by omega) ?_ | refine ifn (by rw [bne_self_eq_false]; exact Bool.false_ne_true) ?_ | refine ifp (by simp) ?_ | refine ifn (by simp) ?_ | rfl)
theorem eqTaskS_l0 (l : List (S27)) (ho : LB Ok27 l) : ∀ (d k i : Nat), i + d = l.length → d + 1048580 < k → laws_eqTaskS.l0 k l l (i : Int) = some true := by
  have hm := ho.1
  intro d
  induction d with
  | zero =>
    intro k i hi hk
    obtain ⟨k, rfl⟩ : ∃ m, k = m + 1 := ⟨k - 1, by omega⟩
    simp only [laws_eqTaskS.l0]
    rw [if_neg (by omega)]
  | succ d ih =>
    intro k i hi hk
    obtain ⟨k, rfl⟩ : ∃ m, k = m + 1 := ⟨k - 1, by omega⟩
    have hx := ho.2 _ (mem_getD l z27 i (by omega))
    have hx0 : (LB (fun _ => True)) (l.getD i z27).f1 := hx
    simp only [laws_eqTaskS.l0, rd_L1, rd_L4, rd_T24, rd_T27, rd_T33, rd_natD, Int.toNat_natCast]
    repeat (first | (refine st (eqTask_ _ _ _ _ _ _ (by assumption) (by omega)) ?_; (try dsimp only)) | refine ifp rfl ?_ | refine ifp (by omega) ?_ | refine ifn (by rw [bne_self_eq_false]; exact Bool.false_ne_true) ?_ | refine ifp (by simp) ?_ | refine ifn (by simp) ?_)
    rw [w64_succ i (by omega)]
    exact ih k (i + 1) (by omega) (by omega)
theorem eqTaskS_ (k : Nat) (l : List (S27)) (ho : LB Ok27 l) (hk : 2097160 ≤ k) : laws_eqTaskS.f k l l = some true := by
  have hm := ho.1
  unfold laws_eqTaskS.f
  rw [if_pos rfl]
  exact eqTaskS_l0 l ho l.length k 0 (by omega) (by omega)
theorem eqSched_ (k : Nat) (a0_0 : Int) (a0_1 : Int) (a0_2 : Int) (l0_3 : List (S27)) (a0_4 : Int) (a0_5 : Int) (a0_6 : Int) (a0_7 : Int) (hl0_3 : LB Ok27 l0_3) (hk : 2097160 ≤ k) : laws_eqSched.f k a0_0 a0_1 a0_2 l0_3 a0_4 a0_5 a0_6 a0_7 a0_0 a0_1 a0_2 l0_3 a0_4 a0_5 a0_6 a0_7 = some true := by
  unfold laws_eqSched.f
  repeat (first | (refine st (eqTaskS_ _ _ (by assumption) (by omega)) ?_; (try dsimp only)) | refine ifp rfl ?_ | refine ifp (by omega) ?_ | refine ifn (by rw [bne_self_eq_false]; exact Bool.false_ne_true) ?_ | refine ifp (by simp) ?_ | refine ifn (by simp) ?_ | rfl)

def isC (x : Int) : Bool := decide (1 ≤ x ∧ x ≤ 1000)
theorem all_dropC (l : List Int) (i : Nat) (h : i < l.length) : (l.drop i).all isC = (isC (l.getD i 0) && (l.drop (i + 1)).all isC) := by
  rw [drop_getD l 0 i h]; rfl
def tkOk (id : Int) (costs : List Int) (at_ due born : Int) : Bool := decide (1 ≤ id ∧ id ≤ 1000000) && (decide (1 ≤ costs.length ∧ costs.length ≤ 6) && (decide (0 ≤ at_ ∧ at_ < costs.length) && (decide (0 ≤ due ∧ due ≤ 1000000) && (decide (0 ≤ born ∧ born ≤ 1000000) && costs.all isC))))
theorem spec_tk_l0 (a : Int) (l : List Int) (b c e : Int) (hm : l.length ≤ 1048576) : ∀ (d k i : Nat), i + d = l.length → d < k → spec_TaskOk.l0 k (i : Int) a l b c e = some ((l.drop i).all isC) := by
  intro d
  induction d with
  | zero =>
    intro k i hi hk
    obtain ⟨k, rfl⟩ : ∃ m, k = m + 1 := ⟨k - 1, by omega⟩
    simp only [spec_TaskOk.l0]
    rw [if_neg (by omega), List.drop_of_length_le (by omega)]
    rfl
  | succ d ih =>
    intro k i hi hk
    obtain ⟨k, rfl⟩ : ∃ m, k = m + 1 := ⟨k - 1, by omega⟩
    simp only [spec_TaskOk.l0]
    rw [if_pos (by omega), if_pos (by omega), all_dropC l i (by omega), w64_succ i (by omega), ih k (i + 1) (by omega) (by omega), spec_in, rd_natD]
    simp only [Option.bind_some]
    cases h : isC (l.getD i 0) with
    | false => rw [if_neg (by simpa [isC] using h)]; rfl
    | true => rw [if_pos (by simpa [isC] using h)]; rfl
theorem len_in (l : List Int) (hm : l.length ≤ 1048576) (x : Int) : (decide (0 ≤ x ∧ x ≤ wrap64 ((l.length : Int) - 1))) = decide (0 ≤ x ∧ x < l.length) := by
  rw [w64 (by omega) (by omega)]
  congr 1
  exact propext ⟨fun h => ⟨h.1, by omega⟩, fun h => ⟨h.1, by omega⟩⟩
theorem len16 (l : List Int) : (decide ((1 : Int) ≤ (l.length : Int) ∧ (l.length : Int) ≤ 6)) = decide (1 ≤ l.length ∧ l.length ≤ 6) := by
  congr 1
  exact propext ⟨fun h => ⟨by omega, by omega⟩, fun h => ⟨by omega, by omega⟩⟩
theorem spec_tkOk (k : Nat) (a : Int) (l : List Int) (b c e : Int) (hm : l.length ≤ 1048576) (hk : 1048590 ≤ k) : spec_TaskOk.f k a l b c e = some (tkOk a l b c e) := by
  obtain ⟨k, rfl⟩ : ∃ m, k = m + 1 := ⟨k - 1, by omega⟩
  have hs := spec_tk_l0 a l b c e hm l.length k 0 (by omega) (by omega)
  rw [List.drop_zero] at hs
  have hs' : spec_TaskOk.l0 k 0 a l b c e = some (l.all isC) := hs
  unfold spec_TaskOk.f tkOk spec_l07Tick.f
  simp only [spec_in, Option.bind_some, spec_TaskOk.j0, len_in l hm, len16]
  by_cases h1 : 1 ≤ a ∧ a ≤ 1000000
  · by_cases h2 : 1 ≤ l.length ∧ l.length ≤ 6
    · by_cases h3 : 0 ≤ b ∧ b < l.length
      · by_cases h4 : 0 ≤ c ∧ c ≤ 1000000
        · by_cases h5 : 0 ≤ e ∧ e ≤ 1000000
          · simp only [h1, h2, h3, h4, h5, and_self, decide_true, if_true, Bool.not_true, Bool.false_eq_true, if_false, Bool.true_and]; exact hs'
          · simp [h1, h2, h3, h4, h5]
        · simp [h1, h2, h3, h4]
      · simp [h1, h2, h3]
    · simp [h1, h2]
  · simp [h1]
theorem tidx_l0 (l : List Int) (hm : l.length ≤ 1048576) : ∀ (d k i : Nat), i + d = l.length → d < k →
    ∃ r, slices_IndexFunc_int_int_at_56.l0 k l (l.length : Int) (i : Int) = some r ∧ (0 ≤ r ↔ (l.drop i).all isC = false) := by
  intro d
  induction d with
  | zero =>
    intro k i hi hk
    obtain ⟨k, rfl⟩ : ∃ m, k = m + 1 := ⟨k - 1, by omega⟩
    simp only [slices_IndexFunc_int_int_at_56.l0]
    rw [if_neg (by omega), List.drop_of_length_le (by omega)]
    exact ⟨-1, rfl, by simp⟩
  | succ d ih =>
    intro k i hi hk
    obtain ⟨k, rfl⟩ : ∃ m, k = m + 1 := ⟨k - 1, by omega⟩
    simp only [slices_IndexFunc_int_int_at_56.l0]
    rw [if_pos (by omega), if_pos (by omega), if_pos (by omega), all_dropC l i (by omega)]
    unfold impl_TaskOk_1.f
    simp only [impl_in_, Option.bind_some, rd_natD]
    cases hr : isC (l.getD i 0) with
    | false =>
      have : ¬ (1 ≤ l.getD i 0 ∧ l.getD i 0 ≤ 1000) := by simpa [isC] using hr
      exact ⟨i, by simp only [this]; simp, by simp⟩
    | true =>
      have : (1 ≤ l.getD i 0 ∧ l.getD i 0 ≤ 1000) := by simpa [isC] using hr
      obtain ⟨r, h1, h2⟩ := ih k (i + 1) (by omega) (by omega)
      refine ⟨r, ?_, by simpa using h2⟩
      rw [w64_succ i (by omega)]
      simp only [this, and_self]
      simpa using h1
theorem tcont (k : Nat) (l : List Int) (hm : l.length ≤ 1048576) (hk : l.length < k) : slices_ContainsFunc_int_int_at_56.f k l = some (!l.all isC) := by
  obtain ⟨r, h1, h2⟩ := tidx_l0 l hm l.length k 0 (by omega) hk
  have h1' : slices_IndexFunc_int_int_at_56.f k l = some r := h1
  unfold slices_ContainsFunc_int_int_at_56.f
  rw [h1']
  rw [List.drop_zero] at h2
  simp only [Option.bind_some]
  cases ha : l.all isC with
  | false => rw [ha] at h2; have := h2.2 rfl; simp [this]
  | true => rw [ha] at h2; have : ¬ 0 ≤ r := fun z => absurd (h2.1 z) (by simp); simp; omega
theorem impl_tkOk (k : Nat) (a : Int) (l : List Int) (b c e : Int) (hm : l.length ≤ 1048576) (hk : 1048590 ≤ k) : impl_TaskOk.f k a l b c e = some (tkOk a l b c e) := by
  unfold impl_TaskOk.f tkOk impl_isTick.f
  simp only [impl_in_, tcont k l hm (by omega), Option.bind_some, len_in l hm, len16]
  by_cases h1 : 1 ≤ a ∧ a ≤ 1000000
  · by_cases h2 : 1 ≤ l.length ∧ l.length ≤ 6
    · cases h6 : l.all isC
      · simp [h1, h2]
      · by_cases h3 : 0 ≤ b ∧ b < l.length
        · by_cases h4 : 0 ≤ c ∧ c ≤ 1000000
          · simp [h1, h2, h3, h4]
          · simp [h1, h2, h3, h4]
        · simp [h1, h2, h3]
    · simp [h1, h2]
  · simp [h1]

theorem place_bd {α : Type} (p : α → Bool) (l : List α) (i : Nat) : place p l i = -1 ∨ ((i : Int) ≤ place p l i ∧ place p l i < i + l.length) := by
  induction l generalizing i with
  | nil => exact Or.inl rfl
  | cons y r ih =>
    simp only [place, List.length_cons]
    split
    · exact Or.inr ⟨Int.le_refl _, by omega⟩
    · rcases ih (i + 1) with h | h
      · exact Or.inl h
      · exact Or.inr ⟨by omega, by omega⟩
def tkx (x : S27) : Bool := tkOk x.f0 x.f1 x.f2 x.f3 x.f4
theorem tkx_at {x : S27} (h : tkx x = true) : 0 ≤ x.f2 ∧ x.f2 < x.f1.length := by
  simp only [tkx, tkOk, Bool.and_eq_true, decide_eq_true_eq] at h
  exact h.2.2.1
def el (l : List S27) (now next : Int) (i : Nat) : Bool :=
  tkx (l.getD i z27) && (decide ((l.getD i z27).f0 < next) && (decide ((l.getD i z27).f4 ≤ now) && (decide (i = 0) || decide ((l.getD (i - 1) z27).f0 < (l.getD i z27).f0))))
def chk (l : List S27) (now next : Int) : Nat → Nat → Bool
  | _, 0 => true
  | i, d + 1 => el l now next i && chk l now next (i + 1) d
def tl (l : List S27) (run left : Int) : Bool :=
  if run = 0 then left == 0 else if place (fun t => t.f0 == run) l 0 < 0 then false else
    decide (1 ≤ left ∧ left ≤ rd (l.getD (place (fun t : S27 => t.f0 == run) l 0).toNat z27).f1 (l.getD (place (fun t : S27 => t.f0 == run) l 0).toNat z27).f2)
theorem at_l0 (l : List S27) (hm : l.length ≤ 1048576) (run a b c e f g h : Int) : ∀ (d k i : Nat), i + d = l.length → d < k → spec_l07At.l0 k run (i : Int) a b c l e f g h = some (place (fun t => t.f0 == run) (l.drop i) i) := by
  intro d
  induction d with
  | zero =>
    intro k i hi hk
    obtain ⟨k, rfl⟩ : ∃ m, k = m + 1 := ⟨k - 1, by omega⟩
    simp only [spec_l07At.l0]
    rw [if_neg (by omega), place_end _ _ _ (by omega)]
  | succ d ih =>
    intro k i hi hk
    obtain ⟨k, rfl⟩ : ∃ m, k = m + 1 := ⟨k - 1, by omega⟩
    simp only [spec_l07At.l0, rd_T27, Int.toNat_natCast, w64_succ i (by omega)]
    rw [if_pos (by omega), if_pos (by omega), place_at _ _ z27 _ (by omega)]
    by_cases c1 : (l.getD i z27).f0 = run
    · rw [if_pos c1, if_pos (by simpa using c1)]
    · rw [if_neg c1, if_neg (by simpa using c1)]
      exact ih k (i + 1) (by omega) (by omega)
theorem at_f (k : Nat) (l : List S27) (hm : l.length ≤ 1048576) (run a b c e f g h : Int) (hk : l.length < k) : spec_l07At.f k a b c l e f g h run = some (place (fun t => t.f0 == run) l 0) := by
  have := at_l0 l hm run a b c e f g h l.length k 0 (by omega) hk
  simpa [spec_l07At.f] using this
theorem spec_sched_l0 (now slack age : Int) (l : List S27) (run left turns next : Int) (ho : LB Ok27 l) : ∀ (d k i : Nat), i + d = l.length → 2 * d + 2097200 ≤ k → (∀ j, j < i → tkx (l.getD j z27) = true) →
    spec_SchedOk.l0 k (i : Int) now slack age l run left turns next = some (chk l now next i d && tl l run left) := by
  have hm := ho.1
  intro d
  induction d with
  | zero =>
    intro k i hi hk hall
    obtain ⟨k, rfl⟩ : ∃ m, k = m + 1 := ⟨k - 1, by omega⟩
    simp only [spec_SchedOk.l0, chk, Bool.true_and, tl]
    refine ifn (by omega) ?_
    by_cases c0 : run = 0
    · refine ifp c0 ?_
      rw [if_pos c0]
    · refine ifn c0 ?_
      rw [if_neg c0]
      refine st (at_f k l hm run now slack age run left turns next (by omega)) ?_
      have hpb := place_bd (fun t : S27 => t.f0 == run) l 0
      generalize place (fun t : S27 => t.f0 == run) l 0 = q at hpb ⊢
      by_cases c1 : q < 0
      · refine ifn (by omega) ?_
        rw [if_pos c1]
      · have hq : 0 ≤ q ∧ q < l.length := by omega
        have ht := tkx_at (hall q.toNat (by omega))
        simp only [rd_T27]
        refine ifp (by omega) (ifp (by omega) (ifp (by omega) (ifp ht.1 (ifp ht.2 ?_))))
        refine st (spec_in _ _ _) ?_
        rw [if_neg c1]
  | succ d ih =>
    intro k i hi hk hall
    obtain ⟨k, rfl⟩ : ∃ m, k = m + 2 := ⟨k - 2, by omega⟩
    have hx : LB (fun _ => True) (l.getD i z27).f1 := ho.2 _ (mem_getD l z27 i (by omega))
    have hs := spec_tkOk (k + 1) (l.getD i z27).f0 (l.getD i z27).f1 (l.getD i z27).f2 (l.getD i z27).f3 (l.getD i z27).f4 hx.1 (by omega)
    have hj : ∀ b : Bool, el l now next i = !b → spec_SchedOk.j2 (k + 1) (i : Int) b now slack age l run left turns next = some (chk l now next i (d + 1) && tl l run left) := by
      intro b hb
      simp only [spec_SchedOk.j2, chk, hb]
      cases b with
      | true => simp
      | false =>
        rw [if_neg (by simp), w64_succ i (by omega), ih k (i + 1) (by omega) (by omega) (fun j hj => by
          by_cases e : j < i
          · exact hall j e
          · have : j = i := by omega
            subst this
            have h := hb
            simp only [el, Bool.not_false, Bool.and_eq_true] at h
            exact h.1)]
        simp
    conv => lhs; unfold spec_SchedOk.l0
    simp only [rd_T27, Int.toNat_natCast]
    refine ifp (by omega) (ifp (by omega) (st hs ?_))
    by_cases c1 : tkOk (l.getD i z27).f0 (l.getD i z27).f1 (l.getD i z27).f2 (l.getD i z27).f3 (l.getD i z27).f4 = true
    · refine ifp c1 ?_
      by_cases c2 : (l.getD i z27).f0 ≥ next
      · exact ifp c2 (hj true (by have : ¬ (l.getD i z27).f0 < next := by omega
                                  simp only [el, this, decide_false, Bool.false_and, Bool.and_false, Bool.not_true]))
      · refine ifn c2 ?_
        have c2' : (l.getD i z27).f0 < next := by omega
        by_cases c3 : (l.getD i z27).f4 > now
        · exact ifp c3 (hj true (by have : ¬ (l.getD i z27).f4 ≤ now := by omega
                                    simp only [el, this, decide_false, Bool.false_and, Bool.and_false, Bool.not_true]))
        · refine ifn c3 ?_
          have c3' : (l.getD i z27).f4 ≤ now := by omega
          by_cases c4 : (i : Int) > 0
          · have hw : wrap64 ((i : Int) - 1) = ((i - 1 : Nat) : Int) := by rw [w64 (by omega) (by omega)]; omega
            refine ifp c4 ?_
            rw [hw]
            refine ifp (by omega) (ifp (by omega) ?_)
            simp only [Int.toNat_natCast]
            refine hj _ ?_
            have c5 : ¬ i = 0 := by omega
            simp only [el, tkx, c1, c2', c3', c5, decide_true, decide_false, Bool.true_and, Bool.false_or]
            by_cases c6 : (l.getD (i - 1) z27).f0 < (l.getD i z27).f0
            · have : ¬ (l.getD (i - 1) z27).f0 ≥ (l.getD i z27).f0 := by omega
              simp only [c6, this, decide_true, decide_false, Bool.not_false]
            · have : (l.getD (i - 1) z27).f0 ≥ (l.getD i z27).f0 := by omega
              simp only [c6, this, decide_true, decide_false, Bool.not_true]
          · refine ifn c4 (hj false ?_)
            have c5 : i = 0 := by omega
            simp only [el, tkx, c1, c2', c3', c5, decide_true, Bool.true_and, Bool.true_or, Bool.not_false]
            subst c5
            simp only [c1, c2', c3', decide_true, Bool.and_self]
    · refine ifn c1 (hj true ?_)
      have c1' : tkOk (l.getD i z27).f0 (l.getD i z27).f1 (l.getD i z27).f2 (l.getD i z27).f3 (l.getD i z27).f4 = false := by simpa using c1
      simp only [el, tkx, c1', Bool.false_and, Bool.not_true]
def hd_ (now slack age turns next : Int) : Bool := decide (0 ≤ now ∧ now ≤ 1000000) && (decide (0 ≤ slack ∧ slack ≤ 1000) && (decide (0 ≤ age ∧ age ≤ 20) && (decide (0 ≤ turns ∧ turns ≤ 1000000) && decide (1 ≤ next ∧ next ≤ 1000000))))
def schedOk (now slack age : Int) (l : List S27) (run left turns next : Int) : Bool := hd_ now slack age turns next && (decide (l.length ≤ 12) && (chk l now next 0 l.length && tl l run left))
theorem spec_schedOk (k : Nat) (now slack age : Int) (l : List S27) (run left turns next : Int) (ho : LB Ok27 l) (hk : 4194500 ≤ k) : spec_SchedOk.f k now slack age l run left turns next = some (schedOk now slack age l run left turns next) := by
  have hm := ho.1
  obtain ⟨k, rfl⟩ : ∃ m, k = m + 1 := ⟨k - 1, by omega⟩
  have h0 := spec_sched_l0 now slack age l run left turns next ho l.length k 0 (by omega) (by omega) (fun j hj => by omega)
  have h0' : spec_SchedOk.l0 k 0 now slack age l run left turns next = some (chk l now next 0 l.length && tl l run left) := h0
  unfold spec_SchedOk.f schedOk hd_ spec_l07Tick.f
  simp only [spec_in, Option.bind_some, spec_SchedOk.j0, h0']
  by_cases h1 : 0 ≤ now ∧ now ≤ 1000000
  · by_cases h2 : 0 ≤ slack ∧ slack ≤ 1000
    · by_cases h3 : 0 ≤ age ∧ age ≤ 20
      · by_cases h4 : (l.length : Int) > 12
        · have : ¬ l.length ≤ 12 := by omega
          simp [h1, h2, h3, h4, this]
        · have h4' : l.length ≤ 12 := by omega
          by_cases h5 : 0 ≤ turns ∧ turns ≤ 1000000
          · by_cases h6 : 1 ≤ next ∧ next ≤ 1000000
            · simp [h1, h2, h3, h4, h4', h5, h6]
            · simp [h1, h2, h3, h4, h4', h5, h6]
          · simp [h1, h2, h3, h4, h4', h5]
      · simp [h1, h2, h3]
    · simp [h1, h2]
  · simp [h1]
theorem impl_are_l0 (now slack age : Int) (l : List S27) (run left turns next : Int) (ho : LB Ok27 l) : ∀ (d k i : Nat), i + d = l.length → 2 * d + 2097200 ≤ k →
    impl_Sched_areTasks.l0 k l (l.length : Int) (i : Int) now slack age l run left turns next = some (chk l now next i d && decide (l.length ≤ 12)) := by
  have hm := ho.1
  intro d
  induction d with
  | zero =>
    intro k i hi hk
    obtain ⟨k, rfl⟩ : ∃ m, k = m + 1 := ⟨k - 1, by omega⟩
    simp only [impl_Sched_areTasks.l0, chk, Bool.true_and]
    refine ifn (by omega) ?_
    by_cases h : l.length ≤ 12
    · have : (l.length : Int) ≤ 12 := by omega
      simp [h, this]
    · have : ¬ (l.length : Int) ≤ 12 := by omega
      simp [h, this]
  | succ d ih =>
    intro k i hi hk
    obtain ⟨k, rfl⟩ : ∃ m, k = m + 2 := ⟨k - 2, by omega⟩
    have hx : LB (fun _ => True) (l.getD i z27).f1 := ho.2 _ (mem_getD l z27 i (by omega))
    have hs := impl_tkOk (k + 1) (l.getD i z27).f0 (l.getD i z27).f1 (l.getD i z27).f2 (l.getD i z27).f3 (l.getD i z27).f4 hx.1 (by omega)
    have hj : ∀ b : Bool, el l now next i = !b → impl_Sched_areTasks.j1 (k + 1) l (l.length : Int) (i : Int) b now slack age l run left turns next = some (chk l now next i (d + 1) && decide (l.length ≤ 12)) := by
      intro b hb
      simp only [impl_Sched_areTasks.j1, chk, hb]
      cases b with
      | true => simp
      | false =>
        rw [if_neg (by simp), w64_succ i (by omega), ih k (i + 1) (by omega) (by omega)]
        simp
    conv => lhs; unfold impl_Sched_areTasks.l0
    simp only [rd_T27, Int.toNat_natCast]
    refine ifp (by omega) (ifp (by omega) (ifp (by omega) (st hs ?_)))
    by_cases c1 : tkOk (l.getD i z27).f0 (l.getD i z27).f1 (l.getD i z27).f2 (l.getD i z27).f3 (l.getD i z27).f4 = true
    · refine ifp c1 ?_
      by_cases c2 : (l.getD i z27).f0 ≥ next
      · exact ifp c2 (hj true (by have : ¬ (l.getD i z27).f0 < next := by omega
                                  simp only [el, this, decide_false, Bool.false_and, Bool.and_false, Bool.not_true]))
      · refine ifn c2 ?_
        have c2' : (l.getD i z27).f0 < next := by omega
        by_cases c3 : (l.getD i z27).f4 > now
        · exact ifp c3 (hj true (by have : ¬ (l.getD i z27).f4 ≤ now := by omega
                                    simp only [el, this, decide_false, Bool.false_and, Bool.and_false, Bool.not_true]))
        · refine ifn c3 ?_
          have c3' : (l.getD i z27).f4 ≤ now := by omega
          by_cases c4 : (i : Int) > 0
          · have hw : wrap64 ((i : Int) - 1) = ((i - 1 : Nat) : Int) := by rw [w64 (by omega) (by omega)]; omega
            refine ifp c4 ?_
            rw [hw]
            refine ifp (by omega) (ifp (by omega) ?_)
            simp only [Int.toNat_natCast]
            refine hj _ ?_
            have c5 : ¬ i = 0 := by omega
            simp only [el, tkx, c1, c2', c3', c5, decide_true, decide_false, Bool.true_and, Bool.false_or]
            by_cases c6 : (l.getD (i - 1) z27).f0 < (l.getD i z27).f0
            · have : ¬ (l.getD (i - 1) z27).f0 ≥ (l.getD i z27).f0 := by omega
              simp only [c6, this, decide_true, decide_false, Bool.not_false]
            · have : (l.getD (i - 1) z27).f0 ≥ (l.getD i z27).f0 := by omega
              simp only [c6, this, decide_true, decide_false, Bool.not_true]
          · refine ifn c4 (hj false ?_)
            have c5 : i = 0 := by omega
            simp only [el, tkx, c1, c2', c3', c5, decide_true, Bool.true_and, Bool.true_or, Bool.not_false]
            subst c5
            simp only [c1, c2', c3', decide_true, Bool.and_self]
    · refine ifn c1 (hj true ?_)
      have c1' : tkOk (l.getD i z27).f0 (l.getD i z27).f1 (l.getD i z27).f2 (l.getD i z27).f3 (l.getD i z27).f4 = false := by simpa using c1
      simp only [el, tkx, c1', Bool.false_and, Bool.not_true]
theorem chk_all (l : List S27) (now next : Int) : ∀ (d i : Nat), chk l now next i d = true → ∀ j, i ≤ j → j < i + d → tkx (l.getD j z27) = true := by
  intro d
  induction d with
  | zero => intro i _ j h1 h2; omega
  | succ d ih =>
    intro i h j h1 h2
    simp only [chk, Bool.and_eq_true] at h
    by_cases e : j = i
    · subst e
      have := h.1
      simp only [el, Bool.and_eq_true] at this
      exact this.1
    · exact ih (i + 1) h.2 j (by omega) (by omega)
theorem find_f (l : List S27) (hm : l.length ≤ 1048576) (a b c e f g h run : Int) : impl_Sched_find.f a b c l e f g h run = some (place (fun t => t.f0 == run) l 0) := by
  unfold impl_Sched_find.f
  rw [if_pos (by omega)]
theorem impl_tail (k : Nat) (now slack age : Int) (l : List S27) (run left turns next : Int) (ho : LB Ok27 l) (hk : 1 ≤ k) (hc : chk l now next 0 l.length = true) : impl_SchedOk.j0 k false now slack age l run left turns next = some (tl l run left) := by
  have hm := ho.1
  obtain ⟨k, rfl⟩ : ∃ m, k = m + 1 := ⟨k - 1, by omega⟩
  simp only [impl_SchedOk.j0]
  rw [if_neg (by simp), find_f l hm]
  simp only [Option.bind_some, tl]
  by_cases c0 : run = 0
  · rw [if_pos c0, if_pos c0]
  · rw [if_neg c0, if_neg c0]
    have hpb := place_bd (fun t : S27 => t.f0 == run) l 0
    generalize place (fun t : S27 => t.f0 == run) l 0 = q at hpb ⊢
    by_cases c1 : q < 0
    · rw [if_pos c1, if_pos c1]
    · rw [if_neg c1, if_neg c1]
      have hq : 0 ≤ q ∧ q < l.length := by omega
      have ht := tkx_at (chk_all l now next _ _ hc q.toNat (by omega) (by omega))
      simp only [rd_T27]
      refine ifp (by omega) (ifp (by omega) (ifp ht.1 (ifp ht.2 ?_)))
      exact st (impl_in_ _ _ _) rfl
theorem impl_schedOk (k : Nat) (now slack age : Int) (l : List S27) (run left turns next : Int) (ho : LB Ok27 l) (hk : 4194500 ≤ k) : impl_SchedOk.f k now slack age l run left turns next = some (schedOk now slack age l run left turns next) := by
  have hm := ho.1
  have h0 := impl_are_l0 now slack age l run left turns next ho l.length k 0 (by omega) (by omega)
  have h0' : impl_Sched_areTasks.f k now slack age l run left turns next = some (chk l now next 0 l.length && decide (l.length ≤ 12)) := h0
  have ht : impl_SchedOk.j0 k true now slack age l run left turns next = some false := by
    obtain ⟨k, rfl⟩ : ∃ m, k = m + 1 := ⟨k - 1, by omega⟩
    simp only [impl_SchedOk.j0]; rfl
  unfold impl_SchedOk.f schedOk hd_ impl_isTick.f
  simp only [impl_in_, Option.bind_some, h0', ht]
  by_cases h1 : 0 ≤ now ∧ now ≤ 1000000
  · by_cases h2 : 0 ≤ slack ∧ slack ≤ 1000
    · by_cases h3 : 0 ≤ age ∧ age ≤ 20
      · by_cases h5 : 0 ≤ turns ∧ turns ≤ 1000000
        · by_cases h6 : 1 ≤ next ∧ next ≤ 1000000
          · simp only [h1, h2, h3, h5, h6, and_self, decide_true, if_true, Bool.true_and]
            cases hc : chk l now next 0 l.length with
            | false => simp [ht]
            | true =>
              by_cases h4 : l.length ≤ 12
              · have := impl_tail k now slack age l run left turns next ho (by omega) hc
                simp [h4, this]
              · simp [h4, ht]
          · simp [h1, h2, h3, h5, h6]
        · simp [h1, h2, h3, h5]
      · simp [h1, h2, h3]
    · simp [h1, h2]
  · simp [h1]

def wsum : Int → List Int → Int
  | s, [] => s
  | s, x :: r => wsum (wrap64 (s + x)) r
theorem place_hit {α : Type} (p : α → Bool) (l : List α) (d : α) : ∀ (i : Nat), 0 ≤ place p l i → p (l.getD ((place p l i).toNat - i) d) = true := by
  induction l with
  | nil => intro i h; simp [place] at h
  | cons y r ih =>
    intro i h
    simp only [place] at h ⊢
    by_cases c : p y = true
    · rw [if_pos c]
      simpa using c
    · rw [if_neg c] at h ⊢
      have h2 := ih (i + 1) h
      have hb := place_bd p r (i + 1)
      rw [show (place p r (i + 1)).toNat - i = ((place p r (i + 1)).toNat - (i + 1)) + 1 from by omega]
      simpa using h2
/-- What a task that is right still costs. -/
def remV (run left : Int) (x : S27) : Int := if run = x.f0 then wrap64 (wrap64 (wsum 0 (x.f1.drop x.f2.toNat) - rd x.f1 x.f2) + left) else wsum 0 (x.f1.drop x.f2.toNat)
theorem wrap_sub_add (s c left : Int) : wrap64 (s + wrap64 (left - c)) = wrap64 (wrap64 (s - c) + left) := by unfold wrap64; omega
def remOf (now slack age : Int) (l : List S27) (run left turns next id : Int) : Int :=
  if schedOk now slack age l run left turns next = true ∧ 0 ≤ place (fun t => t.f0 == id) l 0 then remV run left (l.getD (place (fun t : S27 => t.f0 == id) l 0).toNat z27) else -1
theorem sched_tkx {now slack age : Int} {l : List S27} {run left turns next : Int} (h : schedOk now slack age l run left turns next = true) (j : Nat) (hj : j < l.length) : tkx (l.getD j z27) = true := by
  simp only [schedOk, Bool.and_eq_true] at h
  exact chk_all l now next _ _ h.2.2.1 j (by omega) (by omega)

theorem chk_lt (l : List S27) (now next : Int) : ∀ (d i : Nat), chk l now next i d = true → ∀ j, i ≤ j → j < i + d → 0 < j → (l.getD (j - 1) z27).f0 < (l.getD j z27).f0 := by
  intro d
  induction d with
  | zero => intro i _ j h1 h2 h3; omega
  | succ d ih =>
    intro i h j h1 h2 h3
    simp only [chk, Bool.and_eq_true] at h
    by_cases e : j = i
    · subst e
      have := h.1
      simp only [el, Bool.and_eq_true, Bool.or_eq_true, decide_eq_true_eq] at this
      rcases this.2.2.2 with z | z
      · omega
      · exact z
    · exact ih (i + 1) h.2 j (by omega) (by omega) h3
theorem ids_lt (l : List S27) (hc : ∀ j, j < l.length → 0 < j → (l.getD (j - 1) z27).f0 < (l.getD j z27).f0) (i : Nat) : ∀ (d j : Nat), j = i + d + 1 → j < l.length → (l.getD i z27).f0 < (l.getD j z27).f0 := by
  intro d
  induction d with
  | zero =>
    intro j hj hl
    have := hc j hl (by omega)
    rwa [show j - 1 = i by omega] at this
  | succ d ih =>
    intro j hj hl
    have h1 := hc j hl (by omega)
    have h2 := ih (j - 1) (by omega) (by omega)
    omega
theorem place_self (l : List S27) (hc : ∀ j, j < l.length → 0 < j → (l.getD (j - 1) z27).f0 < (l.getD j z27).f0) (i : Nat) (hi : i < l.length) : ∀ (d j : Nat), j + d = i → place (fun t => t.f0 == (l.getD i z27).f0) (l.drop j) j = i := by
  intro d
  induction d with
  | zero =>
    intro j hj
    rw [place_at _ _ z27 _ (by omega), show j = i by omega, if_pos (by simp)]
  | succ d ih =>
    intro j hj
    have := ids_lt l hc j (i - j - 1) i (by omega) hi
    rw [place_at _ _ z27 _ (by omega), if_neg (by simp only [beq_iff_eq]; omega)]
    exact ih (j + 1) (by omega)
theorem sched_place {now slack age : Int} {l : List S27} {run left turns next : Int} (h : schedOk now slack age l run left turns next = true) (i : Nat) (hi : i < l.length) : place (fun t => t.f0 == (l.getD i z27).f0) l 0 = i := by
  simp only [schedOk, Bool.and_eq_true] at h
  have hc : ∀ j, j < l.length → 0 < j → (l.getD (j - 1) z27).f0 < (l.getD j z27).f0 := fun j hj h0 => chk_lt l now next _ _ h.2.2.1 j (by omega) (by omega) h0
  exact place_self l hc i hi i 0 (by omega)
theorem remOf_self {now slack age : Int} {l : List S27} {run left turns next : Int} (h : schedOk now slack age l run left turns next = true) (i : Nat) (hi : i < l.length) : remOf now slack age l run left turns next (l.getD i z27).f0 = remV run left (l.getD i z27) := by
  unfold remOf
  rw [sched_place h i hi, if_pos ⟨h, by omega⟩]
  simp

/-- The best so far, and one more task. -/
def upd (h : S27 → Bool) (key : S27 → Int) (m : Option S27) (x : S27) : Option S27 := if h x = true then (match m with | none => some x | some y => if key x < key y then some x else some y) else m
def bestF (h : S27 → Bool) (key : S27 → Int) (m : Option S27) (l : List S27) : Option S27 := l.foldl (upd h key) m
def idO : Option S27 → Int
  | none => 0
  | some y => y.f0
theorem cmpT_lt {key : S27 → Int} {x m : S27} (h : m.f0 < x.f0) : cmpT key x m < 0 ↔ key x < key m := by
  unfold cmpT cmpI
  by_cases c : key x < key m
  · rw [if_pos c, if_neg (by decide)]
    exact ⟨fun _ => c, fun _ => by decide⟩
  · rw [if_neg c]
    by_cases c2 : key x > key m
    · rw [if_pos c2, if_neg (by decide)]
      exact ⟨fun h => absurd h (by decide), fun h => absurd h c⟩
    · rw [if_neg c2, if_pos rfl, if_neg (by omega), if_pos h]
      exact ⟨fun h => absurd h (by decide), fun h => absurd h c⟩
theorem best_some (h : S27 → Bool) (key : S27 → Int) : ∀ (l : List S27) (m : S27), (∀ y ∈ l, m.f0 < y.f0) → l.Pairwise (fun a b => a.f0 < b.f0) → bestF h key (some m) l = some (minV (cmpT key) m (l.filter h)) := by
  intro l
  induction l with
  | nil => intro m _ _; rfl
  | cons x r ih =>
    intro m hm hp
    obtain ⟨hx, hp'⟩ := List.pairwise_cons.1 hp
    have hmx := hm x (by simp)
    unfold bestF
    rw [List.foldl_cons]
    by_cases c : h x = true
    · rw [List.filter_cons_of_pos c, minV]
      by_cases c2 : key x < key m
      · rw [if_pos ((cmpT_lt hmx).2 c2), show upd h key (some m) x = some x by simp [upd, c, c2]]
        exact ih x hx hp'
      · rw [if_neg (fun z => c2 ((cmpT_lt hmx).1 z)), show upd h key (some m) x = some m by simp [upd, c, c2]]
        exact ih m (fun y hy => hm y (by simp [hy])) hp'
    · rw [List.filter_cons_of_neg c, show upd h key (some m) x = some m by simp [upd, c]]
      exact ih m (fun y hy => hm y (by simp [hy])) hp'
theorem best_none (h : S27 → Bool) (key : S27 → Int) : ∀ (l : List S27), l.Pairwise (fun a b => a.f0 < b.f0) → idO (bestF h key none l) = firstV h key l := by
  intro l hp
  unfold firstV
  rw [show (fun x => !(!h x)) = h by funext x; simp]
  induction l with
  | nil => rfl
  | cons x r ih =>
    obtain ⟨hx, hp'⟩ := List.pairwise_cons.1 hp
    unfold bestF
    rw [List.foldl_cons]
    by_cases c : h x = true
    · rw [List.filter_cons_of_pos c, headV, show upd h key none x = some x by simp [upd, c]]
      have := best_some h key r x hx hp'
      unfold bestF at this
      rw [this, idO]
    · rw [List.filter_cons_of_neg c, show upd h key none x = none by simp [upd, c]]
      exact ih hp'
/-- A place, or -1, and the task there. -/
def At (l : List S27) (i : Nat) (x : Int) (m : Option S27) : Prop := (x = -1 ∧ m = none) ∨ ∃ j : Nat, j < i ∧ x = (j : Int) ∧ m = some (l.getD j z27)
theorem At.later {l : List S27} {i : Nat} {x : Int} {m : Option S27} (h : At l i x m) : At l (i + 1) x m := by
  rcases h with h | ⟨j, hj, e, f⟩
  · exact .inl h
  · exact .inr ⟨j, by omega, e, f⟩
theorem best_step (h : S27 → Bool) (key : S27 → Int) (m : Option S27) (l : List S27) (i : Nat) (hi : i < l.length) : bestF h key m (l.drop i) = bestF h key (upd h key m (l.getD i z27)) (l.drop (i + 1)) := by
  rw [drop_getD l z27 i hi]; rfl
/-- What is answered out of the two. -/
def ans (now age turns : Int) (lt er : Option S27) : Int := match lt with
  | none => idO er
  | some y => if er = none ∨ age > 0 ∧ Int.tmod turns age = 0 then y.f0 else idO er
theorem pick_j1 (k : Nat) (b : Bool) (x y now slack age : Int) (l : List S27) (run left turns next : Int) (lt er : Option S27) (hl : At l l.length x lt) (he : At l l.length y er) (hb : b = true → lt ≠ none) :
    spec_PickNext.j1 (k + 1) x y b now slack age l run left turns next = some (if b = true then idO lt else idO er) := by
  simp only [spec_PickNext.j1, rd_T27]
  cases b with
  | true =>
    rcases hl with ⟨_, e⟩ | ⟨j, hj, rfl, rfl⟩
    · exact absurd e (hb rfl)
    · rw [if_pos rfl, if_pos rfl]
      exact ifp (by omega) (ifp (by omega) (by rw [Int.toNat_natCast]; rfl))
  | false =>
    simp only [Bool.false_eq_true, if_false]
    rcases he with ⟨rfl, rfl⟩ | ⟨j, hj, rfl, rfl⟩
    · exact ifn (by omega) rfl
    · exact ifp (by omega) (ifp (by omega) (ifp (by omega) (by rw [Int.toNat_natCast]; rfl)))
theorem pick_l0 (now slack age : Int) (l : List S27) (run left turns next : Int) (hm : l.length ≤ 1048576) : ∀ (d k i : Nat) (x y : Int) (lt er : Option S27), i + d = l.length → d + 1 < k → At l i x lt → At l i y er →
    spec_PickNext.l0 k x y (i : Int) now slack age l run left turns next = some (ans now age turns (bestF (fun t => decide (t.f3 ≤ now)) (fun t => t.f4) lt (l.drop i)) (bestF (fun t => !decide (t.f3 ≤ now)) (fun t => t.f3) er (l.drop i))) := by
  intro d
  induction d with
  | zero =>
    intro k i x y lt er hi hk hx hy
    obtain ⟨k, rfl⟩ : ∃ m, k = m + 1 + 1 := ⟨k - 2, by omega⟩
    obtain rfl : i = l.length := by omega
    rw [List.drop_of_length_le (Nat.le_refl _)]
    simp only [bestF, List.foldl_nil]
    rw [spec_PickNext.l0]
    refine ifn (by omega) ?_
    have J := fun b hb => pick_j1 k b x y now slack age l run left turns next lt er hx hy hb
    rcases hx with ⟨rfl, rfl⟩ | ⟨j, hj, rfl, rfl⟩
    · refine ifn (by omega) ?_
      rw [J false (by simp)]
      rfl
    · refine ifp (by omega) ?_
      rcases hy with ⟨rfl, rfl⟩ | ⟨j2, hj2, rfl, rfl⟩
      · refine ifp (by omega) ?_
        rw [J true (by simp)]
        simp [ans, idO]
      · refine ifn (by omega) ?_
        by_cases ca : age > 0
        · refine ifp ca (ifn (by omega) ?_)
          rw [J (Int.tmod turns age == 0) (by simp)]
          by_cases ct : Int.tmod turns age = 0
          · simp [ans, idO, ca, ct]
          · simp [ans, idO, ca, ct]
        · refine ifn ca ?_
          rw [J false (by simp)]
          simp [ans, idO, ca]
  | succ d ih =>
    intro k i x y lt er hi hk hx hy
    obtain ⟨k, rfl⟩ : ∃ m, k = m + 1 := ⟨k - 1, by omega⟩
    have hil : i < l.length := by omega
    rw [best_step _ _ lt l i hil, best_step _ _ er l i hil]
    rw [spec_PickNext.l0]
    simp only [rd_T27, Int.toNat_natCast, w64_succ i (by omega)]
    refine ifp (by omega) (ifp (by omega) ?_)
    have new : ∀ {z : Int} {m : Option S27}, At l (i + 1) (i : Int) (some (l.getD i z27)) := fun {_ _} => .inr ⟨i, by omega, rfl, rfl⟩
    by_cases c : (l.getD i z27).f3 ≤ now
    · refine ifp c ?_
      have hcn : (!decide ((l.getD i z27).f3 ≤ now)) = false := by rw [decide_eq_true c]; rfl
      have hu2 : upd (fun t => !decide (t.f3 ≤ now)) (fun t => t.f3) er (l.getD i z27) = er := by simp only [upd]; rw [if_neg (by rw [hcn]; decide)]
      rw [hu2]
      rcases hx with ⟨rfl, rfl⟩ | ⟨j, hj, rfl, rfl⟩
      · refine ifp (by omega) ?_
        rw [show upd (fun t => decide (t.f3 ≤ now)) (fun t => t.f4) none (l.getD i z27) = some (l.getD i z27) by simp only [upd]; rw [if_pos (decide_eq_true c)]]
        exact ih k (i + 1) _ _ _ _ (by omega) (by omega) (.inr ⟨i, by omega, rfl, rfl⟩) hy.later
      · refine ifn (by omega) (ifp (by omega) (ifp (by omega) ?_))
        rw [Int.toNat_natCast]
        by_cases c2 : (l.getD i z27).f4 < (l.getD j z27).f4
        · refine ifp c2 ?_
          rw [show upd (fun t => decide (t.f3 ≤ now)) (fun t => t.f4) (some (l.getD j z27)) (l.getD i z27) = some (l.getD i z27) by simp only [upd]; rw [if_pos (decide_eq_true c), if_pos c2]]
          exact ih k (i + 1) _ _ _ _ (by omega) (by omega) (.inr ⟨i, by omega, rfl, rfl⟩) hy.later
        · refine ifn c2 ?_
          rw [show upd (fun t => decide (t.f3 ≤ now)) (fun t => t.f4) (some (l.getD j z27)) (l.getD i z27) = some (l.getD j z27) by simp only [upd]; rw [if_pos (decide_eq_true c), if_neg c2]]
          exact ih k (i + 1) _ _ _ _ (by omega) (by omega) (.inr ⟨j, by omega, rfl, rfl⟩) hy.later
    · refine ifn c ?_
      have hu2 : upd (fun t => decide (t.f3 ≤ now)) (fun t => t.f4) lt (l.getD i z27) = lt := by simp only [upd]; rw [if_neg (by rw [decide_eq_false c]; decide)]
      rw [hu2]
      have hc : (!decide ((l.getD i z27).f3 ≤ now)) = true := by rw [decide_eq_false c]; rfl
      rcases hy with ⟨rfl, rfl⟩ | ⟨j, hj, rfl, rfl⟩
      · refine ifp (by omega) ?_
        rw [show upd (fun t => !decide (t.f3 ≤ now)) (fun t => t.f3) none (l.getD i z27) = some (l.getD i z27) by simp only [upd]; rw [if_pos hc]]
        exact ih k (i + 1) _ _ _ _ (by omega) (by omega) hx.later (.inr ⟨i, by omega, rfl, rfl⟩)
      · refine ifn (by omega) (ifp (by omega) (ifp (by omega) ?_))
        rw [Int.toNat_natCast]
        by_cases c2 : (l.getD i z27).f3 < (l.getD j z27).f3
        · refine ifp c2 ?_
          rw [show upd (fun t => !decide (t.f3 ≤ now)) (fun t => t.f3) (some (l.getD j z27)) (l.getD i z27) = some (l.getD i z27) by simp only [upd]; rw [if_pos hc, if_pos c2]]
          exact ih k (i + 1) _ _ _ _ (by omega) (by omega) hx.later (.inr ⟨i, by omega, rfl, rfl⟩)
        · refine ifn c2 ?_
          rw [show upd (fun t => !decide (t.f3 ≤ now)) (fun t => t.f3) (some (l.getD j z27)) (l.getD i z27) = some (l.getD j z27) by simp only [upd]; rw [if_pos hc, if_neg c2]]
          exact ih k (i + 1) _ _ _ _ (by omega) (by omega) hx.later (.inr ⟨j, by omega, rfl, rfl⟩)
theorem best_mem (h : S27 → Bool) (key : S27 → Int) (l : List S27) (P : S27 → Prop) (hP : ∀ x ∈ l, P x) : ∀ (m : Option S27), (∀ y, m = some y → P y) → ∀ y, bestF h key m l = some y → P y := by
  induction l with
  | nil => intro m hm y hy; exact hm y hy
  | cons x r ih =>
    intro m hm y hy
    refine ih (fun z hz => hP z (by simp [hz])) (upd h key m x) (fun z hz => ?_) y hy
    unfold upd at hz
    split at hz
    · rcases m with _ | m
      · obtain rfl := Option.some.inj hz
        exact hP _ (by simp)
      · simp only at hz
        split at hz
        · obtain rfl := Option.some.inj hz
          exact hP _ (by simp)
        · exact hm z hz
    · exact hm z hz
def pickNext (now slack age : Int) (l : List S27) (run left turns next : Int) : Int := if schedOk now slack age l run left turns next = true then pickV now age turns l else 0
theorem impl_pick (k : Nat) (now slack age : Int) (l : List S27) (run left turns next : Int) (ho : LB Ok27 l) (hk : 4194500 ≤ k) : impl_PickNext.f k now slack age l run left turns next = some (pickNext now slack age l run left turns next) := by
  unfold impl_PickNext.f pickNext
  refine st (impl_schedOk k now slack age l run left turns next ho (by omega)) ?_
  by_cases c : schedOk now slack age l run left turns next = true
  · rw [if_pos c, if_pos c]
    have hl : l.length ≤ 12 := by simp only [schedOk, Bool.and_eq_true, decide_eq_true_eq] at c; exact c.2.1
    refine st (a := pickV now age turns l) ?_ rfl
    unfold impl_Sched_pick.f
    rw [if_pos (by omega)]
  · rw [if_neg c, if_neg c]
theorem spec_pick (k : Nat) (now slack age : Int) (l : List S27) (run left turns next : Int) (ho : LB Ok27 l) (hk : 4194500 ≤ k) : spec_PickNext.f k now slack age l run left turns next = some (pickNext now slack age l run left turns next) := by
  unfold spec_PickNext.f pickNext
  refine st (spec_schedOk k now slack age l run left turns next ho (by omega)) ?_
  by_cases c : schedOk now slack age l run left turns next = true
  · rw [if_pos c, if_pos c]
    have c0 := c
    simp only [schedOk, Bool.and_eq_true, decide_eq_true_eq] at c
    have hc : ∀ j, j < l.length → 0 < j → (l.getD (j - 1) z27).f0 < (l.getD j z27).f0 := fun j hj h0 => chk_lt l now next _ _ c.2.2.1 j (by omega) (by omega) h0
    have hp : l.Pairwise (fun a b => a.f0 < b.f0) := by
      rw [List.pairwise_iff_getElem]
      intro i j hi hj hij
      have := ids_lt l hc i (j - i - 1) j (by omega) hj
      simpa [List.getD_eq_getElem?_getD, List.getElem?_eq_getElem hi, List.getElem?_eq_getElem hj] using this
    have hid : ∀ x ∈ l, 1 ≤ x.f0 := by
      intro x hx
      obtain ⟨j, hj, rfl⟩ := List.getElem_of_mem hx
      have := chk_all l now next _ _ c.2.2.1 j (by omega) (by omega)
      simp only [tkx, tkOk, Bool.and_eq_true, decide_eq_true_eq] at this
      have h1 := this.1.1
      simpa [List.getD_eq_getElem?_getD, List.getElem?_eq_getElem hj] using h1
    rw [show (0 : Int) = ((0 : Nat) : Int) from rfl, pick_l0 now slack age l run left turns next (by omega) l.length k 0 (-1) (-1) none none (by omega) (by omega) (.inl ⟨rfl, rfl⟩) (.inl ⟨rfl, rfl⟩), List.drop_zero]
    unfold pickV
    have e1 := best_none (fun t => decide (t.f3 ≤ now)) (fun t => t.f4) l hp
    have e2 := best_none (fun t => !decide (t.f3 ≤ now)) (fun t => t.f3) l hp
    have p1 := best_mem (fun t => decide (t.f3 ≤ now)) (fun t => t.f4) l (fun x => 1 ≤ x.f0) hid none (by simp)
    have p2 := best_mem (fun t => !decide (t.f3 ≤ now)) (fun t => t.f3) l (fun x => 1 ≤ x.f0) hid none (by simp)
    rw [← e1, ← e2]
    generalize bestF (fun t => decide (t.f3 ≤ now)) (fun t => t.f4) none l = lt at p1 ⊢
    generalize bestF (fun t => !decide (t.f3 ≤ now)) (fun t => t.f3) none l = er at p2 ⊢
    congr 1
    rcases lt with _ | y
    · rcases er with _ | z
      · simp [ans, idO]
      · have hz : idO (some z) ≠ 0 := by have := p2 z rfl; simp only [idO]; omega
        rw [if_neg (by rintro (⟨_, h⟩ | h); exact h rfl; exact hz h)]
        rfl
    · have hy : idO (some y) ≠ 0 := by have := p1 y rfl; simp only [idO]; omega
      rcases er with _ | z
      · rw [if_pos (.inr rfl)]
        simp [ans, idO]
      · have hz : idO (some z) ≠ 0 := by have := p2 z rfl; simp only [idO]; omega
        unfold ans
        by_cases ca : age > 0 ∧ Int.tmod turns age = 0
        · rw [if_pos (.inl ⟨ca, hy⟩)]
          exact if_pos (.inr ca)
        · rw [if_neg (by rintro (h | h); exact ca h.1; exact hz h)]
          exact if_neg (by rintro (h | h); exact absurd h (by simp); exact ca h)
  · rw [if_neg c, if_neg c]


theorem FnExactPickNext : laws_FnExactPickNext.Pure := by
  intro now slack age l run left turns next _ _ _ hl _ _ _ _
  obtain ⟨k, hk⟩ : ∃ k : Nat, 1000000000 ≤ k := ⟨_, Nat.le_refl _⟩
  refine ⟨k, ?_⟩
  unfold laws_FnExactPickNext.f
  obtain ⟨r, e, h⟩ := szSched_ k now slack age l run left turns next 1048576 hl (by omega) (by omega) (by omega)
  rw [e]; simp only [Option.bind_some]; clear e
  rcases h with h | ⟨h0, h1, ho⟩
  · rw [if_pos h]
  rw [if_neg (by omega)]

  have ho2 : LB Ok27 (l.map cv24_27) := ho.map ok_cv24_27

  have e1 := spec_pick k now slack age (l.map cv24_27) run left turns next ho2 (by omega)
  have e2 := impl_pick k now slack age (l.map cv24_27) run left turns next ho2 (by omega)
  repeat (first
    | (refine st e1 ?_; (try dsimp only))
    | (refine st e2 ?_; (try dsimp only))
    | (refine st (toSched_ _ _ _ _ _ _ _ _ _ (by assumption) (by omega)) ?_; (try dsimp only))
    | (refine st (eqSched_ _ _ _ _ _ _ _ _ _ (by assumption) (by omega)) ?_; (try dsimp only))
    | refine ifp rfl ?_
    | refine ifn (by omega) ?_
    | refine ifp (by omega) ?_
    | refine ifn (by simp) ?_
    | refine ifp (by simp) ?_
    | rfl)

end Go.Proofs.Ytljboinndpnefaa.Pure
