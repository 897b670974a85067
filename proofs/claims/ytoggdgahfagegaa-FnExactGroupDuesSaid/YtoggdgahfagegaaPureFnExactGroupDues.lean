/- What is left of the statement FnExactGroupDues once the Go functions are Lean functions: the program's GroupDues and the reference's answer alike. No condition. -/
import Derived.Test.YtoggdgahfagegaaQFnExactGroupDuesx6
import Derived.Test.YtoggdgahfagegaaAid
set_option linter.unusedVariables false
set_option linter.unusedSimpArgs false
namespace Go.Proofs.Ytoggdgahfagegaa.Pure
open Go.RowKit Go.Proofs.Ytoggdgahfagegaa.QFnExactGroupDues Go.Proofs.YtoggdgahfagegaaW.PrintWords Go.Proofs.YtoggdgahfagegaaW.PrintLast Go.Proofs.YtoggdgahfagegaaW.PrintMore Go.Proofs.YtoggdgahfagegaaW.Aid


def LB {α : Type} (P : α → Prop) (l : List α) : Prop := l.length ≤ 1048576 ∧ ∀ x ∈ l, P x
theorem LB.map {α β : Type} {P : α → Prop} {Q : β → Prop} {f : α → β} {l : List α} (hf : ∀ x, P x → Q (f x)) (h : LB P l) : LB Q (l.map f) := ⟨by simpa using h.1, fun y hy => by obtain ⟨x, hx, rfl⟩ := List.mem_map.1 hy; exact hf x (h.2 x hx)⟩
theorem map_getD {α β : Type} (f : α → β) (l : List α) (i : Nat) (h : i < l.length) (d : α) (d' : β) : (l.map f).getD i d' = f (l.getD i d) := by simp [h]
def Ok66 (x : S66) : Prop := True
theorem szWishS_ (l : List (S66)) (a : Int) (hw : WL Wt66 l) (h0 : 0 ≤ a) (h1 : a ≤ 1048576) : ∃ r, laws_szWishS.f l a = some r ∧ (r < 0 ∨ (0 ≤ r ∧ r ≤ a ∧ LB Ok66 l)) := by
  have hm : l.length ≤ 9223372036854775807 := hw.1
  have he : wrap64 (a - (l.length : Int)) = a - l.length := w64 (by omega) (by omega)
  unfold laws_szWishS.f
  rw [he]
  by_cases h : a - (l.length : Int) < 0
  · exact ⟨-1, if_pos h, Or.inl (by omega)⟩
  · rw [if_neg h]
    exact ⟨_, rfl, Or.inr ⟨by omega, by omega, by omega, fun _ _ => trivial⟩⟩
theorem szIntS_ {W : Int → Prop} (l : List (Int)) (a : Int) (hw : WL W l) (h0 : 0 ≤ a) (h1 : a ≤ 1048576) : ∃ r, laws_szIntS.f l a = some r ∧ (r < 0 ∨ (0 ≤ r ∧ r ≤ a ∧ LB (fun _ => True) l)) := by
  have hm : l.length ≤ 9223372036854775807 := hw.1
  have he : wrap64 (a - (l.length : Int)) = a - l.length := w64 (by omega) (by omega)
  unfold laws_szIntS.f
  rw [he]
  by_cases h : a - (l.length : Int) < 0
  · exact ⟨-1, if_pos h, Or.inl (by omega)⟩
  · rw [if_neg h]
    exact ⟨_, rfl, Or.inr ⟨by omega, by omega, by omega, fun _ _ => trivial⟩⟩
theorem szIntSS_l0 {W : Int → Prop} (l : List (List (Int))) (hw : WL (WL W) l) (hm : l.length ≤ 1048576) : ∀ (d k i : Nat) (a : Int), i + d = l.length → d + 1048580 < k → 0 ≤ a → a ≤ 1048576 → ∃ r, laws_szIntSS.l0 k l a (i : Int) = some r ∧ (r < 0 ∨ (0 ≤ r ∧ r ≤ a ∧ ∀ x ∈ l.drop i, (LB (fun _ => True)) x)) := by
  intro d
  induction d with
  | zero =>
    intro k i a hi hk h0 h1
    obtain ⟨k, rfl⟩ : ∃ m, k = m + 1 := ⟨k - 1, by omega⟩
    simp only [laws_szIntSS.l0]
    rw [if_neg (by omega), List.drop_of_length_le (by omega)]
    exact ⟨a, rfl, Or.inr ⟨h0, Int.le_refl _, fun x hx => absurd hx (by simp)⟩⟩
  | succ d ih =>
    intro k i a hi hk h0 h1
    obtain ⟨k, rfl⟩ : ∃ m, k = m + 1 := ⟨k - 1, by omega⟩
    have hx := hw.2 _ (mem_getD l [] i (by omega))
    simp only [laws_szIntSS.l0, rd_L2, rd_L4, rd_L5, rd_T64, rd_T66, Int.toNat_natCast]
    rw [if_pos (by omega), if_pos (by omega)]
    obtain ⟨r, e, h⟩ := szIntS_ (l.getD i []) a hx h0 h1
    rw [e]
    simp only [Option.bind_some]
    rcases h with h | ⟨h1, h2, h3⟩
    · exact ⟨-1, if_pos h, Or.inl (by omega)⟩
    · rw [if_neg (by omega), w64_succ i (by omega)]
      obtain ⟨r', e', h'⟩ := ih k (i + 1) r (by omega) (by omega) h1 (by omega)
      refine ⟨r', e', ?_⟩
      rcases h' with h' | ⟨a1, a2, a3⟩
      · exact Or.inl h'
      · refine Or.inr ⟨a1, by omega, ?_⟩
        rw [drop_getD l [] i (by omega)]
        intro x hx
        rcases List.mem_cons.1 hx with rfl | hx
        · exact h3
        · exact a3 x hx
theorem szIntSS_ {W : Int → Prop} (k : Nat) (l : List (List (Int))) (a : Int) (hw : WL (WL W) l) (h0 : 0 ≤ a) (h1 : a ≤ 1048576) (hk : 2097160 ≤ k) : ∃ r, laws_szIntSS.f k l a = some r ∧ (r < 0 ∨ (0 ≤ r ∧ r ≤ a ∧ LB (LB (fun _ => True)) l)) := by
  have hm : l.length ≤ 9223372036854775807 := hw.1
  have he : wrap64 (a - (l.length : Int)) = a - l.length := w64 (by omega) (by omega)
  unfold laws_szIntSS.f
  rw [he]
  by_cases h : a - (l.length : Int) < 0
  · exact ⟨-1, if_pos h, Or.inl (by omega)⟩
  · rw [if_neg h]
    obtain ⟨r, e, h2⟩ := szIntSS_l0 l hw (by omega) l.length k 0 (a - l.length) (by omega) (by omega) (by omega) (by omega)
    refine ⟨r, e, ?_⟩
    rcases h2 with h2 | ⟨a1, a2, a3⟩
    · exact Or.inl h2
    · exact Or.inr ⟨a1, by omega, by omega, by simpa using a3⟩
theorem toWish_ (a0_0 : Int) (a0_1 : Int) (a0_2 : Int) : laws_toWish.f a0_0 a0_1 a0_2 = some (a0_0, a0_1, a0_2) := by
  unfold laws_toWish.f
  repeat (first | refine ifp rfl ?_ | refine ifp (by omega) ?_ | refine ifp (by simp) ?_ | refine ifn (by simp) ?_ | rfl)
def cv66_64 (x : S66) : S64 := ⟨x.f0, x.f1, x.f2⟩
def Ok64 (x : S64) : Prop := True
theorem ok_cv66_64 (x : S66) (h : Ok66 x) : Ok64 (cv66_64 x) := trivial
theorem toWishS_l0 (l : List (S66)) (ho : LB Ok66 l) : ∀ (d k i : Nat) (y : List (S64)), i + d = l.length → d + 0 < k → y.length = l.length → y.take i = (l.map cv66_64).take i → laws_toWishS.l0 k l y (i : Int) = some (l.map cv66_64) := by
  have hm := ho.1
  have hc : (l.map cv66_64).length = l.length := by simp
  intro d
  induction d with
  | zero =>
    intro k i y hi hk hy ht
    obtain ⟨k, rfl⟩ : ∃ m, k = m + 1 := ⟨k - 1, by omega⟩
    simp only [laws_toWishS.l0]
    rw [if_neg (by omega), take_full hy hc (by rw [show l.length = i by omega]; exact ht)]
  | succ d ih =>
    intro k i y hi hk hy ht
    obtain ⟨k, rfl⟩ : ∃ m, k = m + 1 := ⟨k - 1, by omega⟩
    have hx := ho.2 _ (mem_getD l z66 i (by omega))
    simp only [laws_toWishS.l0, rd_L2, rd_L4, rd_L5, rd_T64, rd_T66, rd_natD, Int.toNat_natCast]
    repeat (first | (refine st (toWish_ _ _ _) ?_; (try dsimp only)) | refine ifp rfl ?_ | refine ifp (by omega) ?_ | refine ifp (by simp) ?_ | refine ifn (by simp) ?_)
    rw [w64_succ i (by omega)]
    refine ih k (i + 1) _ (by omega) (by omega) (by simpa using hy) ?_
    rw [take_set_succ _ _ _ (by omega), ht, take_succ_getD (l.map cv66_64) z64 i (by omega), map_getD _ _ _ (by omega) z66]
    rfl
theorem toWishS_ (k : Nat) (l : List (S66)) (ho : LB Ok66 l) (hk : 1048580 ≤ k) : laws_toWishS.f k l = some (l.map cv66_64) := by
  have hm := ho.1
  unfold laws_toWishS.f
  rw [if_pos (by omega), if_pos (by simp; omega)]
  exact toWishS_l0 l ho l.length k 0 _ (by omega) (by omega) (by simp) (by simp)
theorem toIntS_l0 (l : List (Int)) (ho : LB (fun _ => True) l) : ∀ (d k i : Nat) (y : List (Int)), i + d = l.length → d + 0 < k → y.length = l.length → y.take i = l.take i → laws_toIntS.l0 k l y (i : Int) = some l := by
  have hm := ho.1
  have hc : l.length = l.length := by rfl
  intro d
  induction d with
  | zero =>
    intro k i y hi hk hy ht
    obtain ⟨k, rfl⟩ : ∃ m, k = m + 1 := ⟨k - 1, by omega⟩
    simp only [laws_toIntS.l0]
    rw [if_neg (by omega), take_full hy hc (by rw [show l.length = i by omega]; exact ht)]
  | succ d ih =>
    intro k i y hi hk hy ht
    obtain ⟨k, rfl⟩ : ∃ m, k = m + 1 := ⟨k - 1, by omega⟩
    have hx := ho.2 _ (mem_getD l 0 i (by omega))
    simp only [laws_toIntS.l0, rd_L2, rd_L4, rd_L5, rd_T64, rd_T66, rd_natD, Int.toNat_natCast]
    repeat (first | refine ifp rfl ?_ | refine ifp (by omega) ?_ | refine ifp (by simp) ?_ | refine ifn (by simp) ?_)
    rw [w64_succ i (by omega)]
    refine ih k (i + 1) _ (by omega) (by omega) (by simpa using hy) ?_
    rw [take_set_succ _ _ _ (by omega), ht, take_succ_getD l 0 i (by omega)]
theorem toIntS_ (k : Nat) (l : List (Int)) (ho : LB (fun _ => True) l) (hk : 1048580 ≤ k) : laws_toIntS.f k l = some l := by
  have hm := ho.1
  unfold laws_toIntS.f
  rw [if_pos (by omega), if_pos (by simp; omega)]
  exact toIntS_l0 l ho l.length k 0 _ (by omega) (by omega) (by simp) (by simp)
theorem toIntSS_l0 (l : List (List (Int))) (ho : LB (LB (fun _ => True)) l) : ∀ (d k i : Nat) (y : List (List (Int))), i + d = l.length → d + 1048580 < k → y.length = l.length → y.take i = l.take i → laws_toIntSS.l0 k l y (i : Int) = some l := by
  have hm := ho.1
  have hc : l.length = l.length := by rfl
  intro d
  induction d with
  | zero =>
    intro k i y hi hk hy ht
    obtain ⟨k, rfl⟩ : ∃ m, k = m + 1 := ⟨k - 1, by omega⟩
    simp only [laws_toIntSS.l0]
    rw [if_neg (by omega), take_full hy hc (by rw [show l.length = i by omega]; exact ht)]
  | succ d ih =>
    intro k i y hi hk hy ht
    obtain ⟨k, rfl⟩ : ∃ m, k = m + 1 := ⟨k - 1, by omega⟩
    have hx := ho.2 _ (mem_getD l [] i (by omega))
    simp only [laws_toIntSS.l0, rd_L2, rd_L4, rd_L5, rd_T64, rd_T66, rd_natD, Int.toNat_natCast]
    repeat (first | (refine st (toIntS_ _ _ (by assumption) (by omega)) ?_; (try dsimp only)) | refine ifp rfl ?_ | refine ifp (by omega) ?_ | refine ifp (by simp) ?_ | refine ifn (by simp) ?_)
    rw [w64_succ i (by omega)]
    refine ih k (i + 1) _ (by omega) (by omega) (by simpa using hy) ?_
    rw [take_set_succ _ _ _ (by omega), ht, take_succ_getD l [] i (by omega)]
theorem toIntSS_ (k : Nat) (l : List (List (Int))) (ho : LB (LB (fun _ => True)) l) (hk : 2097160 ≤ k) : laws_toIntSS.f k l = some l := by
  have hm := ho.1
  unfold laws_toIntSS.f
  rw [if_pos (by omega), if_pos (by simp; omega)]
  exact toIntSS_l0 l ho l.length k 0 _ (by omega) (by omega) (by simp) (by simp)
theorem eqIntS_l0 (l : List (Int)) (ho : LB (fun _ => True) l) : ∀ (d k i : Nat), i + d = l.length → d + 0 < k → laws_eqIntS.l0 k l l (i : Int) = some true := by
  have hm := ho.1
  intro d
  induction d with
  | zero =>
    intro k i hi hk
    obtain ⟨k, rfl⟩ : ∃ m, k = m + 1 := ⟨k - 1, by omega⟩
    simp only [laws_eqIntS.l0]
    rw [if_neg (by omega)]
  | succ d ih =>
    intro k i hi hk
    obtain ⟨k, rfl⟩ : ∃ m, k = m + 1 := ⟨k - 1, by omega⟩
    have hx := ho.2 _ (mem_getD l 0 i (by omega))
    simp only [laws_eqIntS.l0, rd_L2, rd_L4, rd_L5, rd_T64, rd_T66, rd_natD, Int.toNat_natCast]
    repeat (first | refine ifp rfl ?_ | refine ifp (by omega) ?_ | refine ifp (by simp) ?_ | refine ifn (by simp) ?_)
    rw [w64_succ i (by omega)]
    exact ih k (i + 1) (by omega) (by omega)
theorem eqIntS_ (k : Nat) (l : List (Int)) (ho : LB (fun _ => True) l) (hk : 1048580 ≤ k) : laws_eqIntS.f k l l = some true := by
  have hm := ho.1
  unfold laws_eqIntS.f
  rw [if_pos rfl]
  exact eqIntS_l0 l ho l.length k 0 (by omega) (by omega)
theorem eqWish_ (a0_0 : Int) (a0_1 : Int) (a0_2 : Int) : laws_eqWish.f a0_0 a0_1 a0_2 a0_0 a0_1 a0_2 = some true := by
  unfold laws_eqWish.f
  repeat (first | refine ifp rfl ?_ | refine ifp (by omega) ?_ | refine ifp (by simp) ?_ | refine ifn (by simp) ?_ | rfl)
theorem eqWishS_l0 (l : List (S64)) (ho : LB Ok64 l) : ∀ (d k i : Nat), i + d = l.length → d + 0 < k → laws_eqWishS.l0 k l l (i : Int) = some true := by
  have hm := ho.1
  intro d
  induction d with
  | zero =>
    intro k i hi hk
    obtain ⟨k, rfl⟩ : ∃ m, k = m + 1 := ⟨k - 1, by omega⟩
    simp only [laws_eqWishS.l0]
    rw [if_neg (by omega)]
  | succ d ih =>
    intro k i hi hk
    obtain ⟨k, rfl⟩ : ∃ m, k = m + 1 := ⟨k - 1, by omega⟩
    have hx := ho.2 _ (mem_getD l z64 i (by omega))
    simp only [laws_eqWishS.l0, rd_L2, rd_L4, rd_L5, rd_T64, rd_T66, rd_natD, Int.toNat_natCast]
    repeat (first | (refine st (eqWish_ _ _ _) ?_; (try dsimp only)) | refine ifp rfl ?_ | refine ifp (by omega) ?_ | refine ifp (by simp) ?_ | refine ifn (by simp) ?_)
    rw [w64_succ i (by omega)]
    exact ih k (i + 1) (by omega) (by omega)
theorem eqWishS_ (k : Nat) (l : List (S64)) (ho : LB Ok64 l) (hk : 1048580 ≤ k) : laws_eqWishS.f k l l = some true := by
  have hm := ho.1
  unfold laws_eqWishS.f
  rw [if_pos rfl]
  exact eqWishS_l0 l ho l.length k 0 (by omega) (by omega)
theorem eqIntSS_l0 (l : List (List (Int))) (ho : LB (LB (fun _ => True)) l) : ∀ (d k i : Nat), i + d = l.length → d + 1048580 < k → laws_eqIntSS.l0 k l l (i : Int) = some true := by
  have hm := ho.1
  intro d
  induction d with
  | zero =>
    intro k i hi hk
    obtain ⟨k, rfl⟩ : ∃ m, k = m + 1 := ⟨k - 1, by omega⟩
    simp only [laws_eqIntSS.l0]
    rw [if_neg (by omega)]
  | succ d ih =>
    intro k i hi hk
    obtain ⟨k, rfl⟩ : ∃ m, k = m + 1 := ⟨k - 1, by omega⟩
    have hx := ho.2 _ (mem_getD l [] i (by omega))
    simp only [laws_eqIntSS.l0, rd_L2, rd_L4, rd_L5, rd_T64, rd_T66, rd_natD, Int.toNat_natCast]
    repeat (first | (refine st (eqIntS_ _ _ (by assumption) (by omega)) ?_; (try dsimp only)) | refine ifp rfl ?_ | refine ifp (by omega) ?_ | refine ifp (by simp) ?_ | refine ifn (by simp) ?_)
    rw [w64_succ i (by omega)]
    exact ih k (i + 1) (by omega) (by omega)
theorem eqIntSS_ (k : Nat) (l : List (List (Int))) (ho : LB (LB (fun _ => True)) l) (hk : 2097160 ≤ k) : laws_eqIntSS.f k l l = some true := by
  have hm := ho.1
  unfold laws_eqIntSS.f
  rw [if_pos rfl]
  exact eqIntSS_l0 l ho l.length k 0 (by omega) (by omega)
theorem markWishS_l0 (B : Int) (hB : B ≤ 9000000000000000000) : ∀ (d k i : Nat) (l : List (S64)) (m : Int), i + d = l.length → d < k → l.length ≤ 1048576 → 0 ≤ m → m + 3 * d ≤ B → ∃ r y, laws_markWishS.l0 k l m (i : Int) = some (r, y) ∧ 0 ≤ r ∧ r ≤ B := by
  intro d
  induction d with
  | zero =>
    intro k i l m hi hk hl h0 h1
    obtain ⟨k, rfl⟩ : ∃ m, k = m + 1 := ⟨k - 1, by omega⟩
    exact ⟨m, l, by simp only [laws_markWishS.l0]; rw [if_neg (by omega)], h0, by omega⟩
  | succ d ih =>
    intro k i l m hi hk hl h0 h1
    obtain ⟨k, rfl⟩ : ∃ m, k = m + 1 := ⟨k - 1, by omega⟩
    have q0 : wrap64 (m + 1) = m + 1 := w64 (by omega) (by omega)
    have q1 : wrap64 (m + 1 + 1) = m + 1 + 1 := w64 (by omega) (by omega)
    have q2 : wrap64 (m + 1 + 1 + 1) = m + 1 + 1 + 1 := w64 (by omega) (by omega)
    have c1 : (i : Int) < (l.length : Int) := by omega
    have c2 : (0 : Int) ≤ (i : Int) := by omega
    simp only [laws_markWishS.l0, if_pos c1, if_pos c2, Option.bind_some, q0, q1, q2, w64_succ i (by omega)]
    exact ih k (i + 1) _ _ (by simp; omega) (by omega) (by simp; omega) (by omega) (by omega)
theorem markWishS_ (k : Nat) (l : List (S64)) (m : Int) (hl : l.length ≤ 1048576) (h0 : 0 ≤ m) (h1 : m ≤ 1000000000) (hk : 1048580 ≤ k) : ∃ r y, laws_markWishS.f k l m = some (r, y) ∧ 0 ≤ r ∧ r ≤ m + 3 * l.length := markWishS_l0 _ (by omega) l.length k 0 l m (by omega) (by omega) hl h0 (by omega)

theorem markIntS_l0 (n : Nat) (m0 : Int) (h0 : 0 ≤ m0) (h1 : m0 + n ≤ 9223372036854775806) : ∀ (d k i : Nat) (x : List Int), i + d = n → d < k → x.length = n → x.take i = marks m0 i → laws_markIntS.l0 k x (m0 + i) (i : Int) = some (m0 + n, marks m0 n) := by
  intro d
  induction d with
  | zero =>
    intro k i x hi hk hx ht
    obtain ⟨k, rfl⟩ : ∃ m, k = m + 1 := ⟨k - 1, by omega⟩
    simp only [laws_markIntS.l0]
    rw [if_neg (by omega), show i = n by omega]
    rw [show i = n by omega, List.take_of_length_le (by omega)] at ht
    rw [ht]
  | succ d ih =>
    intro k i x hi hk hx ht
    obtain ⟨k, rfl⟩ : ∃ m, k = m + 1 := ⟨k - 1, by omega⟩
    simp only [laws_markIntS.l0]
    rw [if_pos (by omega), if_pos (by omega), w64_succ i (by omega), w64 (x := m0 + i + 1) (by omega) (by omega)]
    have := ih k (i + 1) (x.set i (m0 + i)) (by omega) (by omega) (by simpa using hx) (by rw [take_set_succ _ _ _ (by omega), ht, marks_snoc])
    rw [show m0 + ((i + 1 : Nat) : Int) = m0 + i + 1 by omega] at this
    simpa using this
theorem markIntS_ (k : Nat) (l : List Int) (m : Int) (hk : l.length < k) (h0 : 0 ≤ m) (h1 : m + l.length ≤ 9223372036854775806) : laws_markIntS.f k l m = some (m + l.length, marks m l.length) := by
  unfold laws_markIntS.f
  have := markIntS_l0 l.length m h0 h1 l.length k 0 l (by omega) hk rfl (by simp [marks])
  simpa using this
theorem heldIntS_l0 (n : Nat) (m0 : Int) (h0 : 0 ≤ m0) (h1 : m0 + n ≤ 9223372036854775806) : ∀ (d k i : Nat), i + d = n → d < k → laws_heldIntS.l0 k (marks m0 n) (m0 + i) (i : Int) = some (m0 + n) := by
  intro d
  induction d with
  | zero =>
    intro k i hi hk
    obtain ⟨k, rfl⟩ : ∃ m, k = m + 1 := ⟨k - 1, by omega⟩
    simp only [laws_heldIntS.l0]
    rw [if_neg (by rw [marks_length]; omega), show i = n by omega]
  | succ d ih =>
    intro k i hi hk
    obtain ⟨k, rfl⟩ : ∃ m, k = m + 1 := ⟨k - 1, by omega⟩
    simp only [laws_heldIntS.l0]
    rw [if_pos (by rw [marks_length]; omega), if_pos (by omega), rd_natD, marks_getD _ _ _ (by omega), if_pos rfl, w64_succ i (by omega), w64 (x := m0 + i + 1) (by omega) (by omega)]
    have := ih k (i + 1) (by omega) (by omega)
    rwa [show m0 + ((i + 1 : Nat) : Int) = m0 + i + 1 by omega] at this
theorem heldIntS_ (k : Nat) (n : Nat) (m : Int) (hk : n < k) (h0 : 0 ≤ m) (h1 : m + n ≤ 9223372036854775806) : laws_heldIntS.f k (marks m n) m = some (m + n) := by
  unfold laws_heldIntS.f
  have := heldIntS_l0 n m h0 h1 n k 0 (by omega) hk
  simpa using this

theorem eqIntS_vl (a : List Int) (hm : a.length ≤ 100000000) : ∀ (d k i : Nat), i + d = a.length → d < k → laws_eqIntS.l0 k a a (i : Int) = some true := by
  intro d
  induction d with
  | zero =>
    intro k i hi hk
    obtain ⟨k, rfl⟩ : ∃ m, k = m + 1 := ⟨k - 1, by omega⟩
    simp only [laws_eqIntS.l0]
    rw [if_neg (by omega)]
  | succ d ih =>
    intro k i hi hk
    obtain ⟨k, rfl⟩ : ∃ m, k = m + 1 := ⟨k - 1, by omega⟩
    simp only [laws_eqIntS.l0, w64_succ i (by omega)]
    exact ifp (by omega) (ifp (by omega) (ifp (by omega) (ifp trivial (ih k (i + 1) (by omega) (by omega)))))
theorem eqIntS_v (k : Nat) (a : List Int) (hm : a.length ≤ 100000000) (hk : a.length < k) : laws_eqIntS.f k a a = some true := by
  unfold laws_eqIntS.f
  exact ifp rfl (eqIntS_vl a hm a.length k 0 (by omega) hk)

theorem mkI_eq (n : Nat) : ∀ (a : Int), 0 ≤ a → a + n ≤ 9000000000000000000 → mkI n a = a + n := by
  induction n with
  | zero => intro a _ _; simp [mkI]
  | succ n ih =>
    intro a h0 h1
    rw [mkI, w64 (by omega) (by omega), ih (a + 1) (by omega) (by omega)]
    omega

def hasI (x : Int) : List Int → Bool
  | [] => false
  | y :: r => if y = x then true else hasI x r
theorem has_l0 (g : List Int) (x : Int) (hm : g.length ≤ 1048576) : ∀ (d k i : Nat), i + d = g.length → d < k →
    spec_l01Has.l0 k g x (i : Int) = some (hasI x (g.drop i)) ∧ ∃ q, slices_Index_int_int.l0 k g x (g.length : Int) (i : Int) = some q ∧ decide (q ≥ 0) = hasI x (g.drop i) := by
  intro d
  induction d with
  | zero =>
    intro k i hi hk
    obtain ⟨k, rfl⟩ : ∃ m, k = m + 1 := ⟨k - 1, by omega⟩
    rw [List.drop_of_length_le (by omega)]
    simp only [spec_l01Has.l0, slices_Index_int_int.l0, hasI]
    exact ⟨ifn (by omega) rfl, -1, ifn (by omega) rfl, by simp⟩
  | succ d ih =>
    intro k i hi hk
    obtain ⟨k, rfl⟩ : ∃ m, k = m + 1 := ⟨k - 1, by omega⟩
    simp only [spec_l01Has.l0, slices_Index_int_int.l0, rd_natD, w64_succ i (by omega)]
    by_cases c : g.getD i 0 = x
    · have hv : hasI x (g.drop i) = true := by rw [drop_getD g 0 i (by omega)]; simp only [hasI]; rw [if_pos c]
      rw [hv]
      exact ⟨ifp (by omega) (ifp (by omega) (ifp c rfl)), (i : Int), ifp (by omega) (ifp (by omega) (ifp (by omega) (ifp c.symm rfl))), by simp⟩
    · obtain ⟨g1, q, g2, g3⟩ := ih k (i + 1) (by omega) (by omega)
      have hv : hasI x (g.drop i) = hasI x (g.drop (i + 1)) := by rw [drop_getD g 0 i (by omega)]; simp only [hasI]; rw [if_neg c]
      rw [hv]
      exact ⟨ifp (by omega) (ifp (by omega) (ifn c g1)), q, ifp (by omega) (ifp (by omega) (ifp (by omega) (ifn (fun h => c h.symm) g2))), g3⟩
theorem spec_has (k : Nat) (g : List Int) (x : Int) (hm : g.length ≤ 1048576) (hk : 1048580 ≤ k) : spec_l01Has.f k g x = some (hasI x g) := by
  unfold spec_l01Has.f
  have := (has_l0 g x hm g.length k 0 (by omega) (by omega)).1
  simpa using this
theorem impl_has (k : Nat) (g : List Int) (x : Int) (hm : g.length ≤ 1048576) (hk : 1048580 ≤ k) : slices_Contains_int_int.f k g x = some (hasI x g) := by
  unfold slices_Contains_int_int.f slices_Index_int_int.f
  obtain ⟨q, e, h⟩ := (has_l0 g x hm g.length k 0 (by omega) (by omega)).2
  refine st e ?_
  rw [h]; simp
def gd1 (g : List Int) : List S64 → Int → Bool → Int
  | [], y, _ => y
  | x :: r, y, b => if hasI x.f0 g = true ∧ (b = false ∨ x.f2 < y) then gd1 g r x.f2 true else gd1 g r y b
def gdAll (l : List S64) : List (List Int) → List Int
  | [] => []
  | g :: r => gd1 g l (-1) false :: gdAll l r
theorem gdAll_len (l : List S64) (gs : List (List Int)) : (gdAll l gs).length = gs.length := by
  induction gs with
  | nil => rfl
  | cons g r ih => simp [gdAll, ih]
theorem dq1 {h : Bool} {f y : Int} (c1 : h = true) : decide (f < y) = decide (h = true ∧ (true = false ∨ f < y)) := by simp [c1]
theorem dq2 {h b : Bool} {f y : Int} (c1 : h = true) (c2 : ¬ b = true) : true = decide (h = true ∧ (b = false ∨ f < y)) := by simp [c1, Bool.eq_false_iff.2 c2]
theorem dq3 {h b : Bool} {f y : Int} (c1 : ¬ h = true) : false = decide (h = true ∧ (b = false ∨ f < y)) := by simp [c1]
theorem spec_in1 (l : List S64) (gs : List (List Int)) (i : Nat) (hi : i < gs.length) (hgs : gs.length ≤ 1048576) (hl : l.length ≤ 1048576) (hg : (gs.getD i []).length ≤ 1048576) (acc : List Int) (ha : acc.length ≤ 1048576) (K : Nat) : ∀ (d k j : Nat) (y : Int) (b : Bool), j + d = l.length → K + 2 * d + 1048600 ≤ k →
    ∃ k', K ≤ k' ∧ spec_GroupDues.l1 k l gs acc (i : Int) y b (j : Int) = spec_GroupDues.l0 k' l gs (acc ++ [gd1 (gs.getD i []) (l.drop j) y b]) ((i + 1 : Nat) : Int) := by
  intro d
  induction d with
  | zero =>
    intro k j y b hj hk
    obtain ⟨k, rfl⟩ : ∃ m, k = m + 1 := ⟨k - 1, by omega⟩
    refine ⟨k, by omega, ?_⟩
    rw [List.drop_of_length_le (by omega), spec_GroupDues.l1, gd1]
    refine ifn (by omega) (ifp (by omega) ?_)
    rw [w64_succ i (by omega)]
  | succ d ih =>
    intro k j y b hj hk
    obtain ⟨k, rfl⟩ : ∃ m, k = m + 1 + 1 := ⟨k - 2, by omega⟩
    rw [spec_GroupDues.l1, drop_getD l z64 j (by omega)]
    simp only [rd_L2, rd_T64, Int.toNat_natCast, gd1]
    have hh := spec_has (k + 1) (gs.getD i []) (l.getD j z64).f0 hg (by omega)
    have tail : ∀ c : Bool, c = decide (hasI (l.getD j z64).f0 (gs.getD i []) = true ∧ (b = false ∨ (l.getD j z64).f2 < y)) → ∃ k', K ≤ k' ∧ spec_GroupDues.j2 (k + 1) l gs acc (i : Int) y b (j : Int) c = spec_GroupDues.l0 k' l gs (acc ++ [if hasI (l.getD j z64).f0 (gs.getD i []) = true ∧ (b = false ∨ (l.getD j z64).f2 < y) then gd1 (gs.getD i []) (l.drop (j + 1)) (l.getD j z64).f2 true else gd1 (gs.getD i []) (l.drop (j + 1)) y b]) ((i + 1 : Nat) : Int) := by
      intro c hc
      rw [spec_GroupDues.j2]
      simp only [rd_T64, Int.toNat_natCast, w64_succ j (by omega)]
      by_cases q : hasI (l.getD j z64).f0 (gs.getD i []) = true ∧ (b = false ∨ (l.getD j z64).f2 < y)
      · obtain ⟨k', h1, h2⟩ := ih k (j + 1) (l.getD j z64).f2 true (by omega) (by omega)
        refine ⟨k', h1, ?_⟩
        rw [if_pos q]
        exact ifp (by rw [hc]; exact decide_eq_true q) (ifp (by omega) (ifp (by omega) h2))
      · obtain ⟨k', h1, h2⟩ := ih k (j + 1) y b (by omega) (by omega)
        refine ⟨k', h1, ?_⟩
        rw [if_neg q]
        exact ifn (by rw [hc]; exact fun h => q (of_decide_eq_true h)) h2
    by_cases c1 : hasI (l.getD j z64).f0 (gs.getD i []) = true
    · by_cases c2 : b = true
      · obtain ⟨k', h1, h2⟩ := tail (decide ((l.getD j z64).f2 < y)) (by rw [c2]; exact dq1 c1)
        exact ⟨k', h1, ifp (by omega) (ifp (by omega) (ifp (by omega) (ifp (by omega) (st hh (ifp c1 (ifp c2 h2))))))⟩
      · obtain ⟨k', h1, h2⟩ := tail true (dq2 c1 c2)
        exact ⟨k', h1, ifp (by omega) (ifp (by omega) (ifp (by omega) (ifp (by omega) (st hh (ifp c1 (ifn c2 h2))))))⟩
    · obtain ⟨k', h1, h2⟩ := tail false (dq3 c1)
      exact ⟨k', h1, ifp (by omega) (ifp (by omega) (ifp (by omega) (ifp (by omega) (st hh (ifn c1 h2)))))⟩
theorem impl_in1 (l : List S64) (g : List Int) (gs : List (List Int)) (i : Nat) (hgs : gs.length ≤ 1048576) (hi : i < gs.length) (hl : l.length ≤ 1048576) (hg : g.length ≤ 1048576) (acc : List Int) (ha : acc.length ≤ 1048576) (K : Nat) : ∀ (d k j : Nat) (y : Int) (b : Bool), j + d = l.length → K + 2 * d + 1048600 ≤ k →
    ∃ k', K ≤ k' ∧ impl_GroupDues.l1 k l acc g y b gs (gs.length : Int) (i : Int) l (l.length : Int) (j : Int) = impl_GroupDues.l0 k' l (acc ++ [gd1 g (l.drop j) y b]) gs (gs.length : Int) ((i + 1 : Nat) : Int) := by
  intro d
  induction d with
  | zero =>
    intro k j y b hj hk
    obtain ⟨k, rfl⟩ : ∃ m, k = m + 1 := ⟨k - 1, by omega⟩
    refine ⟨k, by omega, ?_⟩
    rw [List.drop_of_length_le (by omega), impl_GroupDues.l1, gd1]
    refine ifn (by omega) (ifp (by omega) ?_)
    rw [w64_succ i (by omega)]
  | succ d ih =>
    intro k j y b hj hk
    obtain ⟨k, rfl⟩ : ∃ m, k = m + 1 + 1 := ⟨k - 2, by omega⟩
    rw [impl_GroupDues.l1, drop_getD l z64 j (by omega)]
    simp only [rd_T64, Int.toNat_natCast, gd1]
    have hh := impl_has (k + 1) g (l.getD j z64).f0 hg (by omega)
    have tail : ∀ c : Bool, c = decide (hasI (l.getD j z64).f0 g = true ∧ (b = false ∨ (l.getD j z64).f2 < y)) → ∃ k', K ≤ k' ∧ impl_GroupDues.j2 (k + 1) l acc g y b gs (gs.length : Int) (i : Int) l (l.length : Int) (j : Int) c (l.getD j z64).f0 (l.getD j z64).f1 (l.getD j z64).f2 = impl_GroupDues.l0 k' l (acc ++ [if hasI (l.getD j z64).f0 g = true ∧ (b = false ∨ (l.getD j z64).f2 < y) then gd1 g (l.drop (j + 1)) (l.getD j z64).f2 true else gd1 g (l.drop (j + 1)) y b]) gs (gs.length : Int) ((i + 1 : Nat) : Int) := by
      intro c hc
      rw [impl_GroupDues.j2]
      simp only [w64_succ j (by omega)]
      by_cases q : hasI (l.getD j z64).f0 g = true ∧ (b = false ∨ (l.getD j z64).f2 < y)
      · obtain ⟨k', h1, h2⟩ := ih k (j + 1) (l.getD j z64).f2 true (by omega) (by omega)
        refine ⟨k', h1, ?_⟩
        rw [if_pos q]
        exact ifp (by rw [hc]; exact decide_eq_true q) h2
      · obtain ⟨k', h1, h2⟩ := ih k (j + 1) y b (by omega) (by omega)
        refine ⟨k', h1, ?_⟩
        rw [if_neg q]
        exact ifn (by rw [hc]; exact fun h => q (of_decide_eq_true h)) h2
    by_cases c1 : hasI (l.getD j z64).f0 g = true
    · by_cases c2 : b = true
      · obtain ⟨k', h1, h2⟩ := tail (decide ((l.getD j z64).f2 < y)) (by rw [c2]; exact dq1 c1)
        exact ⟨k', h1, ifp (by omega) (ifp (by omega) (ifp (by omega) (st hh (ifp c1 (ifp c2 h2)))))⟩
      · obtain ⟨k', h1, h2⟩ := tail true (dq2 c1 c2)
        exact ⟨k', h1, ifp (by omega) (ifp (by omega) (ifp (by omega) (st hh (ifp c1 (ifn c2 h2)))))⟩
    · obtain ⟨k', h1, h2⟩ := tail false (dq3 c1)
      exact ⟨k', h1, ifp (by omega) (ifp (by omega) (ifp (by omega) (st hh (ifn c1 h2))))⟩
theorem gd_l0 (l : List S64) (gs : List (List Int)) (hl : l.length ≤ 1048576) (hg : LB (LB (fun _ => True)) gs) : ∀ (d k i : Nat) (acc : List Int), i + d = gs.length → (d + 1) * 3200000 ≤ k → acc.length ≤ i →
    spec_GroupDues.l0 k l gs acc (i : Int) = some (acc ++ gdAll l (gs.drop i)) ∧ impl_GroupDues.l0 k l acc gs (gs.length : Int) (i : Int) = some (acc ++ gdAll l (gs.drop i)) := by
  intro d
  have hm := hg.1
  induction d with
  | zero =>
    intro k i acc hi hk ha
    obtain ⟨k, rfl⟩ : ∃ m, k = m + 1 := ⟨k - 1, by omega⟩
    rw [List.drop_of_length_le (by omega)]
    simp only [spec_GroupDues.l0, impl_GroupDues.l0, gdAll, List.append_nil]
    exact ⟨ifn (by omega) rfl, ifn (by omega) rfl⟩
  | succ d ih =>
    intro k i acc hi hk ha
    obtain ⟨k, rfl⟩ : ∃ m, k = m + 1 := ⟨k - 1, by omega⟩
    have h1 : (gs.getD i []).length ≤ 1048576 := (hg.2 _ (mem_getD gs [] i (by omega))).1
    obtain ⟨k1, hk1, e1⟩ := spec_in1 l gs i (by omega) hm hl h1 acc (by omega) ((d + 1) * 3200000) l.length k 0 (-1) false (by omega) (by omega)
    obtain ⟨k2, hk2, e2⟩ := impl_in1 l (gs.getD i []) gs i hm (by omega) hl h1 acc (by omega) ((d + 1) * 3200000) l.length k 0 (-1) false (by omega) (by omega)
    have g1 := (ih k1 (i + 1) (acc ++ [gd1 (gs.getD i []) l (-1) false]) (by omega) hk1 (by simp; omega)).1
    have g2 := (ih k2 (i + 1) (acc ++ [gd1 (gs.getD i []) l (-1) false]) (by omega) hk2 (by simp; omega)).2
    rw [drop_getD gs [] i (by omega)]
    simp only [spec_GroupDues.l0, impl_GroupDues.l0, rd_L2, Int.toNat_natCast, gdAll]
    rw [List.append_cons]
    refine ⟨ifp (by omega) (e1.trans ?_), ifp (by omega) (ifp (by omega) (ifp (by omega) (e2.trans ?_)))⟩
    · simpa using g1
    · simpa using g2
theorem groupdues (k : Nat) (l : List S64) (gs : List (List Int)) (hl : l.length ≤ 1048576) (hg : LB (LB (fun _ => True)) gs) (hk : 4000000000000 ≤ k) : spec_GroupDues.f k l gs = some (gdAll l gs) ∧ impl_GroupDues.f k l gs = some (gdAll l gs) := by
  unfold spec_GroupDues.f impl_GroupDues.f
  have := gd_l0 l gs hl hg gs.length k 0 [] (by omega) (by have := hg.1; omega) (by simp)
  simpa using this
theorem mkIS (l : List (List Int)) : ∀ (a : Int), LB (LB (fun _ => True)) l → 0 ≤ a → a + (l.length : Int) * 1048600 ≤ 9000000000000000000 → 0 ≤ mk_laws_markIntSS l a := by
  induction l with
  | nil => intro a _ h _; exact h
  | cons t r ih =>
    intro a ho h0 h1
    have ht : t.length ≤ 1048576 := (ho.2 t (by simp)).1
    have hl : ((t :: r).length : Int) = r.length + 1 := by simp
    rw [hl, Int.add_mul] at h1
    rw [mk_laws_markIntSS, mkI_eq _ _ (by omega) (by omega)]
    exact ih _ ⟨by have := ho.1; simp at this; omega, fun x hx => ho.2 x (by simp [hx])⟩ (by omega) (by omega)
theorem markIS_ (l : List (List Int)) (a : Int) (h0 : 0 ≤ a) (h1 : a ≤ 100000000) (ho : LB (LB (fun _ => True)) l) : ∃ r, laws_markIntSS.f l a = some r ∧ 0 ≤ r :=
  ⟨_, rfl, mkIS l a ho h0 (by have := ho.1; omega)⟩


theorem FnExactGroupDues : laws_FnExactGroupDues.Pure := by
  intro l gs hl hg
  obtain ⟨k, hk⟩ : ∃ k : Nat, 8000000000000 ≤ k := ⟨_, Nat.le_refl _⟩
  refine ⟨k + 1, ?_⟩
  unfold laws_FnExactGroupDues.f
  obtain ⟨q, e, h⟩ := szWishS_ l 1048576 hl (by omega) (by omega)
  rw [e]; simp only [Option.bind_some]; clear e
  rcases h with h | ⟨q0, q1, ho⟩
  · rw [if_pos h]
  rw [if_neg (by omega)]
  obtain ⟨r, e, h⟩ := szIntSS_ (k + 1) gs q hg (by omega) (by omega) (by omega)
  rw [e]; simp only [Option.bind_some]; clear e
  rcases h with h | ⟨h0, h1, og⟩
  · rw [if_pos h]
  rw [if_neg (by omega)]

  have ho2 : LB Ok64 (l.map cv66_64) := ho.map ok_cv66_64
  obtain ⟨e1, e2⟩ := groupdues (k + 1) (l.map cv66_64) gs ho2.1 og (by omega)
  obtain ⟨e3, e4⟩ := groupdues k (l.map cv66_64) gs ho2.1 og (by omega)
  have hl2 := gdAll_len (l.map cv66_64) gs
  generalize gdAll (l.map cv66_64) gs = v at e1 e2 e3 e4 hl2
  have hv : v.length ≤ 6291456 := by have := og.1; omega
  obtain ⟨rw_, yw, ew, hw⟩ := markWishS_ (k + 1) (l.map cv66_64) 1 ho2.1 (by omega) (by omega) (by omega)
  have hm2 := ho2.1
  obtain ⟨rm, em, hm⟩ := markIS_ gs rw_ (by omega) (by omega) og
  repeat (first
    | (refine st e1 ?_; (try dsimp only))
    | (refine st e2 ?_; (try dsimp only))
    | (refine st e4 ?_; (try dsimp only))
    | (refine st ew ?_; (try dsimp only))
    | (refine st (toWishS_ _ _ (by assumption) (by omega)) ?_; (try dsimp only))
    | (refine st (eqWishS_ _ _ (by assumption) (by omega)) ?_; (try dsimp only))
    | (refine st (toIntSS_ _ _ (by assumption) (by omega)) ?_; (try dsimp only))
    | (refine st (eqIntSS_ _ _ (by assumption) (by omega)) ?_; (try dsimp only))
    | (refine st (markIntS_ _ _ _ (by omega) (by omega) (by omega)) ?_; (try dsimp only))
    | (refine st (heldIntS_ _ _ _ (by omega) (by omega) (by omega)) ?_; (try dsimp only))
    | (refine st em ?_; (try dsimp only))
    | (refine st (eqIntS_v _ _ (by omega) (by omega)) ?_; (try dsimp only))
    | rw [laws_FnExactGroupDues.j0]
    | refine ifp rfl ?_
    | refine ifn (by omega) ?_
    | refine ifp (by omega) ?_
    | refine ifn (by simp) ?_
    | refine ifp (by simp) ?_
    | rfl)

end Go.Proofs.Ytoggdgahfagegaa.Pure
