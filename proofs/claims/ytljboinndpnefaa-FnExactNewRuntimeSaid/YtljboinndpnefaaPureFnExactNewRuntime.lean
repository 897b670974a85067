/- What is left of the statement FnExactNewRuntime once the Go functions are Lean functions: the program's NewRuntime and the reference's answer alike. No condition. -/
import Derived.Test.YtljboinndpnefaaQFnExactNewRuntimex5
import Derived.Test.YtljboinndpnefaaAid
set_option linter.unusedVariables false
set_option linter.unusedSimpArgs false
namespace Go.Proofs.Ytljboinndpnefaa.Pure
open Go.RowKit Go.Proofs.Ytljboinndpnefaa.QFnExactNewRuntime Go.Proofs.YtljboinndpnefaaW.PrintWords Go.Proofs.YtljboinndpnefaaW.PrintLast Go.Proofs.YtljboinndpnefaaW.PrintMore Go.Proofs.YtljboinndpnefaaW.Aid


theorem spec_in (x lo hi : Int) : spec_l01In.f x lo hi = some (decide (lo ≤ x ∧ x ≤ hi)) := by
  unfold spec_l01In.f
  split
  · simp_all
  · simp; omega
theorem impl_in_ (x lo hi : Int) : impl_in.f x lo hi = some (decide (lo ≤ x ∧ x ≤ hi)) := by
  unfold impl_in.f
  split
  · simp_all
  · simp; omega

def LB {α : Type} (P : α → Prop) (l : List α) : Prop := l.length ≤ 1048576 ∧ ∀ x ∈ l, P x
theorem LB.map {α β : Type} {P : α → Prop} {Q : β → Prop} {f : α → β} {l : List α} (hf : ∀ x, P x → Q (f x)) (h : LB P l) : LB Q (l.map f) := ⟨by simpa using h.1, fun y hy => by obtain ⟨x, hx, rfl⟩ := List.mem_map.1 hy; exact hf x (h.2 x hx)⟩
theorem map_getD {α β : Type} (f : α → β) (l : List α) (i : Nat) (h : i < l.length) (d : α) (d' : β) : (l.map f).getD i d' = f (l.getD i d) := by simp [h]
theorem eqIntS_l0 (l : List (Int)) (ho : LB (fun _ => True) l) : ∀ (d k i : Nat), i + d = l.length → d + 0 < k → laws_eqIntS.l0 k l l (i : Int) = some true := by
  have hm := ho.1
  intro d
  induction d with
  | zero =>
    intro k i hi hk
    obtain ⟨k, rfl⟩ : ∃ m, k = m + 1 := ⟨k - 1, by omega⟩
    simp only [laws_eqIntS.l0]
    rw [if_neg (by omega)]
  | succ d ih =>
    intro k i hi hk
    obtain ⟨k, rfl⟩ : ∃ m, k = m + 1 := ⟨k - 1, by omega⟩
    have hx := ho.2 _ (mem_getD l 0 i (by omega))
    simp only [laws_eqIntS.l0, rd_L1, rd_L5, rd_T107, rd_T27, rd_T85, rd_T88, rd_T91, rd_T93, rd_T95, rdOf, rd_natD, Int.toNat_natCast]
    repeat (first | refine ifp rfl ?_ | refine ifp (by omega) ?_ | refine ifn (by rw [bne_self_eq_false]; exact Bool.false_ne_true) ?_ | refine ifp (by simp) ?_ | refine ifn (by simp) ?_)
    rw [w64_succ i (by omega)]
    exact ih k (i + 1) (by omega) (by omega)
theorem eqIntS_ (k : Nat) (l : List (Int)) (ho : LB (fun _ => True) l) (hk : 1048580 ≤ k) : laws_eqIntS.f k l l = some true := by
  have hm := ho.1
  unfold laws_eqIntS.f
  rw [if_pos rfl]
  exact eqIntS_l0 l ho l.length k 0 (by omega) (by omega)
theorem eqTask_ (k : Nat) (a0_0 : Int) (l0_1 : List (Int)) (a0_2 : Int) (a0_3 : Int) (a0_4 : Int) (hl0_1 : LB (fun _ => True) l0_1) (hk : 1048580 ≤ k) : laws_eqTask.f k a0_0 l0_1 a0_2 a0_3 a0_4 a0_0 l0_1 a0_2 a0_3 a0_4 = some true := by
  unfold laws_eqTask.f
  repeat (first | (refine st (eqIntS_ _ _ (by assumption) (by omega)) ?_; (try dsimp only)) | refine ifp rfl ?_ | refine ifp (by omega) ?_ | refine ifn (by rw [bne_self_eq_false]; exact Bool.false_ne_true) ?_ | refine ifp (by simp) ?_ | refine ifn (by simp) ?_ | rfl)
def Ok27 (x : S27) : Prop := (LB (fun _ => True)) x.f1
theorem eqTaskS_l0 (l : List (S27)) (ho : LB Ok27 l) : ∀ (d k i : Nat), i + d = l.length → d + 1048580 < k → laws_eqTaskS.l0 k l l (i : Int) = some true := by
  have hm := ho.1
  intro d
  induction d with
  | zero =>
    intro k i hi hk
    obtain ⟨k, rfl⟩ : ∃ m, k = m + 1 := ⟨k - 1, by omega⟩
    simp only [laws_eqTaskS.l0]
    rw [if_neg (by omega)]
  | succ d ih =>
    intro k i hi hk
    obtain ⟨k, rfl⟩ : ∃ m, k = m + 1 := ⟨k - 1, by omega⟩
    have hx := ho.2 _ (mem_getD l z27 i (by omega))
    have hx0 : (LB (fun _ => True)) (l.getD i z27).f1 := hx
    simp only [laws_eqTaskS.l0, rd_L1, rd_L5, rd_T107, rd_T27, rd_T85, rd_T88, rd_T91, rd_T93, rd_T95, rdOf, rd_natD, Int.toNat_natCast]
    repeat (first | (refine st (eqTask_ _ _ _ _ _ _ (by assumption) (by omega)) ?_; (try dsimp only)) | refine ifp rfl ?_ | refine ifp (by omega) ?_ | refine ifn (by rw [bne_self_eq_false]; exact Bool.false_ne_true) ?_ | refine ifp (by simp) ?_ | refine ifn (by simp) ?_)
    rw [w64_succ i (by omega)]
    exact ih k (i + 1) (by omega) (by omega)
theorem eqTaskS_ (k : Nat) (l : List (S27)) (ho : LB Ok27 l) (hk : 2097160 ≤ k) : laws_eqTaskS.f k l l = some true := by
  have hm := ho.1
  unfold laws_eqTaskS.f
  rw [if_pos rfl]
  exact eqTaskS_l0 l ho l.length k 0 (by omega) (by omega)
theorem eqSched_ (k : Nat) (a0_0 : Int) (a0_1 : Int) (a0_2 : Int) (l0_3 : List (S27)) (a0_4 : Int) (a0_5 : Int) (a0_6 : Int) (a0_7 : Int) (hl0_3 : LB Ok27 l0_3) (hk : 2097160 ≤ k) : laws_eqSched.f k a0_0 a0_1 a0_2 l0_3 a0_4 a0_5 a0_6 a0_7 a0_0 a0_1 a0_2 l0_3 a0_4 a0_5 a0_6 a0_7 = some true := by
  unfold laws_eqSched.f
  repeat (first | (refine st (eqTaskS_ _ _ (by assumption) (by omega)) ?_; (try dsimp only)) | refine ifp rfl ?_ | refine ifp (by omega) ?_ | refine ifn (by rw [bne_self_eq_false]; exact Bool.false_ne_true) ?_ | refine ifp (by simp) ?_ | refine ifn (by simp) ?_ | rfl)
theorem eqShape_ (a0_0 : Int) (a0_1 : Int) (a0_2 : Int) : laws_eqShape.f a0_0 a0_1 a0_2 a0_0 a0_1 a0_2 = some true := by
  unfold laws_eqShape.f
  repeat (first | refine ifp rfl ?_ | refine ifp (by omega) ?_ | refine ifn (by rw [bne_self_eq_false]; exact Bool.false_ne_true) ?_ | refine ifp (by simp) ?_ | refine ifn (by simp) ?_ | rfl)
theorem eqLayer_ (k : Nat) (a0_0 : Int) (a0_1 : Int) (a0_2 : Int) (a0_3 : Int) (a0_4 : Int) (a0_5 : Int) (a0_6 : Int) (l0_7 : List (Int)) (l0_8 : List (Int)) (hl0_7 : LB (fun _ => True) l0_7) (hl0_8 : LB (fun _ => True) l0_8) (hk : 1048580 ≤ k) : laws_eqLayer.f k a0_0 a0_1 a0_2 a0_3 a0_4 a0_5 a0_6 l0_7 l0_8 a0_0 a0_1 a0_2 a0_3 a0_4 a0_5 a0_6 l0_7 l0_8 = some true := by
  unfold laws_eqLayer.f
  repeat (first | (refine st (eqIntS_ _ _ (by assumption) (by omega)) ?_; (try dsimp only)) | refine ifp rfl ?_ | refine ifp (by omega) ?_ | refine ifn (by rw [bne_self_eq_false]; exact Bool.false_ne_true) ?_ | refine ifp (by simp) ?_ | refine ifn (by simp) ?_ | rfl)
def Ok107 (x : S107) : Prop := (LB (fun _ => True)) x.f7 ∧ (LB (fun _ => True)) x.f8
theorem eqLayerS_l0 (l : List (S107)) (ho : LB Ok107 l) : ∀ (d k i : Nat), i + d = l.length → d + 1048580 < k → laws_eqLayerS.l0 k l l (i : Int) = some true := by
  have hm := ho.1
  intro d
  induction d with
  | zero =>
    intro k i hi hk
    obtain ⟨k, rfl⟩ : ∃ m, k = m + 1 := ⟨k - 1, by omega⟩
    simp only [laws_eqLayerS.l0]
    rw [if_neg (by omega)]
  | succ d ih =>
    intro k i hi hk
    obtain ⟨k, rfl⟩ : ∃ m, k = m + 1 := ⟨k - 1, by omega⟩
    have hx := ho.2 _ (mem_getD l z107 i (by omega))
    have hx0 : (LB (fun _ => True)) (l.getD i z107).f7 := hx.1
    have hx1 : (LB (fun _ => True)) (l.getD i z107).f8 := hx.2
    simp only [laws_eqLayerS.l0, rd_L1, rd_L5, rd_T107, rd_T27, rd_T85, rd_T88, rd_T91, rd_T93, rd_T95, rdOf, rd_natD, Int.toNat_natCast]
    repeat (first | (refine st (eqLayer_ _ _ _ _ _ _ _ _ _ _ (by assumption) (by assumption) (by omega)) ?_; (try dsimp only)) | refine ifp rfl ?_ | refine ifp (by omega) ?_ | refine ifn (by rw [bne_self_eq_false]; exact Bool.false_ne_true) ?_ | refine ifp (by simp) ?_ | refine ifn (by simp) ?_)
    rw [w64_succ i (by omega)]
    exact ih k (i + 1) (by omega) (by omega)
theorem eqLayerS_ (k : Nat) (l : List (S107)) (ho : LB Ok107 l) (hk : 2097160 ≤ k) : laws_eqLayerS.f k l l = some true := by
  have hm := ho.1
  unfold laws_eqLayerS.f
  rw [if_pos rfl]
  exact eqLayerS_l0 l ho l.length k 0 (by omega) (by omega)
theorem eqModel_ (k : Nat) (a0_0 : Int) (a0_1 : Int) (a0_2 : Int) (l0_3 : List (S107)) (hl0_3 : LB Ok107 l0_3) (hk : 2097160 ≤ k) : laws_eqModel.f k a0_0 a0_1 a0_2 l0_3 a0_0 a0_1 a0_2 l0_3 = some true := by
  unfold laws_eqModel.f
  repeat (first | (refine st (eqShape_ _ _ _) ?_; (try dsimp only)) | (refine st (eqLayerS_ _ _ (by assumption) (by omega)) ?_; (try dsimp only)) | refine ifp rfl ?_ | refine ifp (by omega) ?_ | refine ifn (by rw [bne_self_eq_false]; exact Bool.false_ne_true) ?_ | refine ifp (by simp) ?_ | refine ifn (by simp) ?_ | rfl)
def Ok88 (x : S88) : Prop := (LB Ok107) x.f1
theorem eqModelS_l0 (l : List (S88)) (ho : LB Ok88 l) : ∀ (d k i : Nat), i + d = l.length → d + 2097160 < k → laws_eqModelS.l0 k l l (i : Int) = some true := by
  have hm := ho.1
  intro d
  induction d with
  | zero =>
    intro k i hi hk
    obtain ⟨k, rfl⟩ : ∃ m, k = m + 1 := ⟨k - 1, by omega⟩
    simp only [laws_eqModelS.l0]
    rw [if_neg (by omega)]
  | succ d ih =>
    intro k i hi hk
    obtain ⟨k, rfl⟩ : ∃ m, k = m + 1 := ⟨k - 1, by omega⟩
    have hx := ho.2 _ (mem_getD l z88 i (by omega))
    have hx0 : (LB Ok107) (l.getD i z88).f1 := hx
    simp only [laws_eqModelS.l0, rd_L1, rd_L5, rd_T107, rd_T27, rd_T85, rd_T88, rd_T91, rd_T93, rd_T95, rdOf, rd_natD, Int.toNat_natCast]
    repeat (first | (refine st (eqModel_ _ _ _ _ _ (by assumption) (by omega)) ?_; (try dsimp only)) | refine ifp rfl ?_ | refine ifp (by omega) ?_ | refine ifn (by rw [bne_self_eq_false]; exact Bool.false_ne_true) ?_ | refine ifp (by simp) ?_ | refine ifn (by simp) ?_)
    rw [w64_succ i (by omega)]
    exact ih k (i + 1) (by omega) (by omega)
theorem eqModelS_ (k : Nat) (l : List (S88)) (ho : LB Ok88 l) (hk : 3145740 ≤ k) : laws_eqModelS.f k l l = some true := by
  have hm := ho.1
  unfold laws_eqModelS.f
  rw [if_pos rfl]
  exact eqModelS_l0 l ho l.length k 0 (by omega) (by omega)
theorem eqBoolS_l0 (l : List (Bool)) (ho : LB (fun _ => True) l) : ∀ (d k i : Nat), i + d = l.length → d + 0 < k → laws_eqBoolS.l0 k l l (i : Int) = some true := by
  have hm := ho.1
  intro d
  induction d with
  | zero =>
    intro k i hi hk
    obtain ⟨k, rfl⟩ : ∃ m, k = m + 1 := ⟨k - 1, by omega⟩
    simp only [laws_eqBoolS.l0]
    rw [if_neg (by omega)]
  | succ d ih =>
    intro k i hi hk
    obtain ⟨k, rfl⟩ : ∃ m, k = m + 1 := ⟨k - 1, by omega⟩
    have hx := ho.2 _ (mem_getD l false i (by omega))
    simp only [laws_eqBoolS.l0, rd_L1, rd_L5, rd_T107, rd_T27, rd_T85, rd_T88, rd_T91, rd_T93, rd_T95, rdOf, rd_natD, Int.toNat_natCast]
    repeat (first | refine ifp rfl ?_ | refine ifp (by omega) ?_ | refine ifn (by rw [bne_self_eq_false]; exact Bool.false_ne_true) ?_ | refine ifp (by simp) ?_ | refine ifn (by simp) ?_)
    rw [w64_succ i (by omega)]
    exact ih k (i + 1) (by omega) (by omega)
theorem eqBoolS_ (k : Nat) (l : List (Bool)) (ho : LB (fun _ => True) l) (hk : 1048580 ≤ k) : laws_eqBoolS.f k l l = some true := by
  have hm := ho.1
  unfold laws_eqBoolS.f
  rw [if_pos rfl]
  exact eqBoolS_l0 l ho l.length k 0 (by omega) (by omega)
theorem eqTensor_ (k : Nat) (a0_0 : Int) (a0_1 : Int) (a0_2 : Int) (l0_3 : List (Int)) (hl0_3 : LB (fun _ => True) l0_3) (hk : 1048580 ≤ k) : laws_eqTensor.f k a0_0 a0_1 a0_2 l0_3 a0_0 a0_1 a0_2 l0_3 = some true := by
  unfold laws_eqTensor.f
  repeat (first | (refine st (eqShape_ _ _ _) ?_; (try dsimp only)) | (refine st (eqIntS_ _ _ (by assumption) (by omega)) ?_; (try dsimp only)) | refine ifp rfl ?_ | refine ifp (by omega) ?_ | refine ifn (by rw [bne_self_eq_false]; exact Bool.false_ne_true) ?_ | refine ifp (by simp) ?_ | refine ifn (by simp) ?_ | rfl)
theorem eqJob_ (k : Nat) (a0_0 : Int) (a0_1 : Int) (a0_2 : Int) (l0_3 : List (S107)) (a0_4 : Int) (a0_5 : Int) (a0_6 : Int) (a0_7 : Int) (l0_8 : List (Int)) (a0_9 : Int) (hl0_3 : LB Ok107 l0_3) (hl0_8 : LB (fun _ => True) l0_8) (hk : 2097160 ≤ k) : laws_eqJob.f k a0_0 a0_1 a0_2 l0_3 a0_4 a0_5 a0_6 a0_7 l0_8 a0_9 a0_0 a0_1 a0_2 l0_3 a0_4 a0_5 a0_6 a0_7 l0_8 a0_9 = some true := by
  unfold laws_eqJob.f
  repeat (first | (refine st (eqModel_ _ _ _ _ _ (by assumption) (by omega)) ?_; (try dsimp only)) | (refine st (eqTensor_ _ _ _ _ _ (by assumption) (by omega)) ?_; (try dsimp only)) | refine ifp rfl ?_ | refine ifp (by omega) ?_ | refine ifn (by rw [bne_self_eq_false]; exact Bool.false_ne_true) ?_ | refine ifp (by simp) ?_ | refine ifn (by simp) ?_ | rfl)
theorem eqRequest_ (k : Nat) (a0_0 : Int) (a0_1 : Int) (a0_2 : Int) (a0_3 : Int) (a0_4 : Int) (l0_5 : List (S107)) (a0_6 : Int) (a0_7 : Int) (a0_8 : Int) (a0_9 : Int) (l0_10 : List (Int)) (a0_11 : Int) (a0_12 : Int) (hl0_5 : LB Ok107 l0_5) (hl0_10 : LB (fun _ => True) l0_10) (hk : 2097160 ≤ k) : laws_eqRequest.f k a0_0 a0_1 a0_2 a0_3 a0_4 l0_5 a0_6 a0_7 a0_8 a0_9 l0_10 a0_11 a0_12 a0_0 a0_1 a0_2 a0_3 a0_4 l0_5 a0_6 a0_7 a0_8 a0_9 l0_10 a0_11 a0_12 = some true := by
  unfold laws_eqRequest.f
  repeat (first | (refine st (eqJob_ _ _ _ _ _ _ _ _ _ _ _ (by assumption) (by assumption) (by omega)) ?_; (try dsimp only)) | refine ifp rfl ?_ | refine ifp (by omega) ?_ | refine ifn (by rw [bne_self_eq_false]; exact Bool.false_ne_true) ?_ | refine ifp (by simp) ?_ | refine ifn (by simp) ?_ | rfl)
def Ok95 (x : S95) : Prop := (LB Ok107) x.f2.f0.f1 ∧ (LB (fun _ => True)) x.f2.f2.f1
theorem eqRequestS_l0 (l : List (S95)) (ho : LB Ok95 l) : ∀ (d k i : Nat), i + d = l.length → d + 2097160 < k → laws_eqRequestS.l0 k l l (i : Int) = some true := by
  have hm := ho.1
  intro d
  induction d with
  | zero =>
    intro k i hi hk
    obtain ⟨k, rfl⟩ : ∃ m, k = m + 1 := ⟨k - 1, by omega⟩
    simp only [laws_eqRequestS.l0]
    rw [if_neg (by omega)]
  | succ d ih =>
    intro k i hi hk
    obtain ⟨k, rfl⟩ : ∃ m, k = m + 1 := ⟨k - 1, by omega⟩
    have hx := ho.2 _ (mem_getD l z95 i (by omega))
    have hx0 : (LB Ok107) (l.getD i z95).f2.f0.f1 := hx.1
    have hx1 : (LB (fun _ => True)) (l.getD i z95).f2.f2.f1 := hx.2
    simp only [laws_eqRequestS.l0, rd_L1, rd_L5, rd_T107, rd_T27, rd_T85, rd_T88, rd_T91, rd_T93, rd_T95, rdOf, rd_natD, Int.toNat_natCast]
    repeat (first | (refine st (eqRequest_ _ _ _ _ _ _ _ _ _ _ _ _ _ _ (by assumption) (by assumption) (by omega)) ?_; (try dsimp only)) | refine ifp rfl ?_ | refine ifp (by omega) ?_ | refine ifn (by rw [bne_self_eq_false]; exact Bool.false_ne_true) ?_ | refine ifp (by simp) ?_ | refine ifn (by simp) ?_)
    rw [w64_succ i (by omega)]
    exact ih k (i + 1) (by omega) (by omega)
theorem eqRequestS_ (k : Nat) (l : List (S95)) (ho : LB Ok95 l) (hk : 3145740 ≤ k) : laws_eqRequestS.f k l l = some true := by
  have hm := ho.1
  unfold laws_eqRequestS.f
  rw [if_pos rfl]
  exact eqRequestS_l0 l ho l.length k 0 (by omega) (by omega)
theorem eqRuntime_ (k : Nat) (a0_0 : Int) (a0_1 : Int) (a0_2 : Int) (l0_3 : List (S27)) (a0_4 : Int) (a0_5 : Int) (a0_6 : Int) (a0_7 : Int) (l0_8 : List (S88)) (l0_9 : List (Bool)) (l0_10 : List (S95)) (hl0_3 : LB Ok27 l0_3) (hl0_8 : LB Ok88 l0_8) (hl0_9 : LB (fun _ => True) l0_9) (hl0_10 : LB Ok95 l0_10) (hk : 3145740 ≤ k) : laws_eqRuntime.f k a0_0 a0_1 a0_2 l0_3 a0_4 a0_5 a0_6 a0_7 l0_8 l0_9 l0_10 a0_0 a0_1 a0_2 l0_3 a0_4 a0_5 a0_6 a0_7 l0_8 l0_9 l0_10 = some true := by
  unfold laws_eqRuntime.f
  repeat (first | (refine st (eqSched_ _ _ _ _ _ _ _ _ _ (by assumption) (by omega)) ?_; (try dsimp only)) | (refine st (eqModelS_ _ _ (by assumption) (by omega)) ?_; (try dsimp only)) | (refine st (eqBoolS_ _ _ (by assumption) (by omega)) ?_; (try dsimp only)) | (refine st (eqRequestS_ _ _ (by assumption) (by omega)) ?_; (try dsimp only)) | refine ifp rfl ?_ | refine ifp (by omega) ?_ | refine ifn (by rw [bne_self_eq_false]; exact Bool.false_ne_true) ?_ | refine ifp (by simp) ?_ | refine ifn (by simp) ?_ | rfl)

def isC (x : Int) : Bool := decide (1 ≤ x ∧ x ≤ 1000)
theorem all_dropC (l : List Int) (i : Nat) (h : i < l.length) : (l.drop i).all isC = (isC (l.getD i 0) && (l.drop (i + 1)).all isC) := by
  rw [drop_getD l 0 i h]; rfl
def tkOk (id : Int) (costs : List Int) (at_ due born : Int) : Bool := decide (1 ≤ id ∧ id ≤ 1000000) && (decide (1 ≤ costs.length ∧ costs.length ≤ 6) && (decide (0 ≤ at_ ∧ at_ < costs.length) && (decide (0 ≤ due ∧ due ≤ 1000000) && (decide (0 ≤ born ∧ born ≤ 1000000) && costs.all isC))))
theorem spec_tk_l0 (a : Int) (l : List Int) (b c e : Int) (hm : l.length ≤ 1048576) : ∀ (d k i : Nat), i + d = l.length → d < k → spec_TaskOk.l0 k (i : Int) a l b c e = some ((l.drop i).all isC) := by
  intro d
  induction d with
  | zero =>
    intro k i hi hk
    obtain ⟨k, rfl⟩ : ∃ m, k = m + 1 := ⟨k - 1, by omega⟩
    simp only [spec_TaskOk.l0]
    rw [if_neg (by omega), List.drop_of_length_le (by omega)]
    rfl
  | succ d ih =>
    intro k i hi hk
    obtain ⟨k, rfl⟩ : ∃ m, k = m + 1 := ⟨k - 1, by omega⟩
    simp only [spec_TaskOk.l0]
    rw [if_pos (by omega), if_pos (by omega), all_dropC l i (by omega), w64_succ i (by omega), ih k (i + 1) (by omega) (by omega), spec_in, rd_natD]
    simp only [Option.bind_some]
    cases h : isC (l.getD i 0) with
    | false => rw [if_neg (by simpa [isC] using h)]; rfl
    | true => rw [if_pos (by simpa [isC] using h)]; rfl
theorem len_in (l : List Int) (hm : l.length ≤ 1048576) (x : Int) : (decide (0 ≤ x ∧ x ≤ wrap64 ((l.length : Int) - 1))) = decide (0 ≤ x ∧ x < l.length) := by
  rw [w64 (by omega) (by omega)]
  congr 1
  exact propext ⟨fun h => ⟨h.1, by omega⟩, fun h => ⟨h.1, by omega⟩⟩
theorem len16 (l : List Int) : (decide ((1 : Int) ≤ (l.length : Int) ∧ (l.length : Int) ≤ 6)) = decide (1 ≤ l.length ∧ l.length ≤ 6) := by
  congr 1
  exact propext ⟨fun h => ⟨by omega, by omega⟩, fun h => ⟨by omega, by omega⟩⟩
theorem spec_tkOk (k : Nat) (a : Int) (l : List Int) (b c e : Int) (hm : l.length ≤ 1048576) (hk : 1048590 ≤ k) : spec_TaskOk.f k a l b c e = some (tkOk a l b c e) := by
  obtain ⟨k, rfl⟩ : ∃ m, k = m + 1 := ⟨k - 1, by omega⟩
  have hs := spec_tk_l0 a l b c e hm l.length k 0 (by omega) (by omega)
  rw [List.drop_zero] at hs
  have hs' : spec_TaskOk.l0 k 0 a l b c e = some (l.all isC) := hs
  unfold spec_TaskOk.f tkOk spec_l07Tick.f
  simp only [spec_in, Option.bind_some, spec_TaskOk.j0, len_in l hm, len16]
  by_cases h1 : 1 ≤ a ∧ a ≤ 1000000
  · by_cases h2 : 1 ≤ l.length ∧ l.length ≤ 6
    · by_cases h3 : 0 ≤ b ∧ b < l.length
      · by_cases h4 : 0 ≤ c ∧ c ≤ 1000000
        · by_cases h5 : 0 ≤ e ∧ e ≤ 1000000
          · simp only [h1, h2, h3, h4, h5, and_self, decide_true, if_true, Bool.not_true, Bool.false_eq_true, if_false, Bool.true_and]; exact hs'
          · simp [h1, h2, h3, h4, h5]
        · simp [h1, h2, h3, h4]
      · simp [h1, h2, h3]
    · simp [h1, h2]
  · simp [h1]
theorem tidx_l0 (l : List Int) (hm : l.length ≤ 1048576) : ∀ (d k i : Nat), i + d = l.length → d < k →
    ∃ r, slices_IndexFunc_int_int_at_56.l0 k l (l.length : Int) (i : Int) = some r ∧ (0 ≤ r ↔ (l.drop i).all isC = false) := by
  intro d
  induction d with
  | zero =>
    intro k i hi hk
    obtain ⟨k, rfl⟩ : ∃ m, k = m + 1 := ⟨k - 1, by omega⟩
    simp only [slices_IndexFunc_int_int_at_56.l0]
    rw [if_neg (by omega), List.drop_of_length_le (by omega)]
    exact ⟨-1, rfl, by simp⟩
  | succ d ih =>
    intro k i hi hk
    obtain ⟨k, rfl⟩ : ∃ m, k = m + 1 := ⟨k - 1, by omega⟩
    simp only [slices_IndexFunc_int_int_at_56.l0]
    rw [if_pos (by omega), if_pos (by omega), if_pos (by omega), all_dropC l i (by omega)]
    unfold impl_TaskOk_1.f
    simp only [impl_in_, Option.bind_some, rd_natD]
    cases hr : isC (l.getD i 0) with
    | false =>
      have : ¬ (1 ≤ l.getD i 0 ∧ l.getD i 0 ≤ 1000) := by simpa [isC] using hr
      exact ⟨i, by simp only [this]; simp, by simp⟩
    | true =>
      have : (1 ≤ l.getD i 0 ∧ l.getD i 0 ≤ 1000) := by simpa [isC] using hr
      obtain ⟨r, h1, h2⟩ := ih k (i + 1) (by omega) (by omega)
      refine ⟨r, ?_, by simpa using h2⟩
      rw [w64_succ i (by omega)]
      simp only [this, and_self]
      simpa using h1
theorem tcont (k : Nat) (l : List Int) (hm : l.length ≤ 1048576) (hk : l.length < k) : slices_ContainsFunc_int_int_at_56.f k l = some (!l.all isC) := by
  obtain ⟨r, h1, h2⟩ := tidx_l0 l hm l.length k 0 (by omega) hk
  have h1' : slices_IndexFunc_int_int_at_56.f k l = some r := h1
  unfold slices_ContainsFunc_int_int_at_56.f
  rw [h1']
  rw [List.drop_zero] at h2
  simp only [Option.bind_some]
  cases ha : l.all isC with
  | false => rw [ha] at h2; have := h2.2 rfl; simp [this]
  | true => rw [ha] at h2; have : ¬ 0 ≤ r := fun z => absurd (h2.1 z) (by simp); simp; omega
theorem impl_tkOk (k : Nat) (a : Int) (l : List Int) (b c e : Int) (hm : l.length ≤ 1048576) (hk : 1048590 ≤ k) : impl_TaskOk.f k a l b c e = some (tkOk a l b c e) := by
  unfold impl_TaskOk.f tkOk impl_isTick.f
  simp only [impl_in_, tcont k l hm (by omega), Option.bind_some, len_in l hm, len16]
  by_cases h1 : 1 ≤ a ∧ a ≤ 1000000
  · by_cases h2 : 1 ≤ l.length ∧ l.length ≤ 6
    · cases h6 : l.all isC
      · simp [h1, h2]
      · by_cases h3 : 0 ≤ b ∧ b < l.length
        · by_cases h4 : 0 ≤ c ∧ c ≤ 1000000
          · simp [h1, h2, h3, h4]
          · simp [h1, h2, h3, h4]
        · simp [h1, h2, h3]
    · simp [h1, h2]
  · simp [h1]

theorem place_bd {α : Type} (p : α → Bool) (l : List α) (i : Nat) : place p l i = -1 ∨ ((i : Int) ≤ place p l i ∧ place p l i < i + l.length) := by
  induction l generalizing i with
  | nil => exact Or.inl rfl
  | cons y r ih =>
    simp only [place, List.length_cons]
    split
    · exact Or.inr ⟨Int.le_refl _, by omega⟩
    · rcases ih (i + 1) with h | h
      · exact Or.inl h
      · exact Or.inr ⟨by omega, by omega⟩
def tkx (x : S27) : Bool := tkOk x.f0 x.f1 x.f2 x.f3 x.f4
theorem tkx_at {x : S27} (h : tkx x = true) : 0 ≤ x.f2 ∧ x.f2 < x.f1.length := by
  simp only [tkx, tkOk, Bool.and_eq_true, decide_eq_true_eq] at h
  exact h.2.2.1
def el (l : List S27) (now next : Int) (i : Nat) : Bool :=
  tkx (l.getD i z27) && (decide ((l.getD i z27).f0 < next) && (decide ((l.getD i z27).f4 ≤ now) && (decide (i = 0) || decide ((l.getD (i - 1) z27).f0 < (l.getD i z27).f0))))
def chk (l : List S27) (now next : Int) : Nat → Nat → Bool
  | _, 0 => true
  | i, d + 1 => el l now next i && chk l now next (i + 1) d
def tl (l : List S27) (run left : Int) : Bool :=
  if run = 0 then left == 0 else if place (fun t => t.f0 == run) l 0 < 0 then false else
    decide (1 ≤ left ∧ left ≤ rd (l.getD (place (fun t : S27 => t.f0 == run) l 0).toNat z27).f1 (l.getD (place (fun t : S27 => t.f0 == run) l 0).toNat z27).f2)
theorem at_l0 (l : List S27) (hm : l.length ≤ 1048576) (run a b c e f g h : Int) : ∀ (d k i : Nat), i + d = l.length → d < k → spec_l07At.l0 k run (i : Int) a b c l e f g h = some (place (fun t => t.f0 == run) (l.drop i) i) := by
  intro d
  induction d with
  | zero =>
    intro k i hi hk
    obtain ⟨k, rfl⟩ : ∃ m, k = m + 1 := ⟨k - 1, by omega⟩
    simp only [spec_l07At.l0]
    rw [if_neg (by omega), place_end _ _ _ (by omega)]
  | succ d ih =>
    intro k i hi hk
    obtain ⟨k, rfl⟩ : ∃ m, k = m + 1 := ⟨k - 1, by omega⟩
    simp only [spec_l07At.l0, rd_T27, Int.toNat_natCast, w64_succ i (by omega)]
    rw [if_pos (by omega), if_pos (by omega), place_at _ _ z27 _ (by omega)]
    by_cases c1 : (l.getD i z27).f0 = run
    · rw [if_pos c1, if_pos (by simpa using c1)]
    · rw [if_neg c1, if_neg (by simpa using c1)]
      exact ih k (i + 1) (by omega) (by omega)
theorem at_f (k : Nat) (l : List S27) (hm : l.length ≤ 1048576) (run a b c e f g h : Int) (hk : l.length < k) : spec_l07At.f k a b c l e f g h run = some (place (fun t => t.f0 == run) l 0) := by
  have := at_l0 l hm run a b c e f g h l.length k 0 (by omega) hk
  simpa [spec_l07At.f] using this
theorem spec_sched_l0 (now slack age : Int) (l : List S27) (run left turns next : Int) (ho : LB Ok27 l) : ∀ (d k i : Nat), i + d = l.length → 2 * d + 2097200 ≤ k → (∀ j, j < i → tkx (l.getD j z27) = true) →
    spec_SchedOk.l0 k (i : Int) now slack age l run left turns next = some (chk l now next i d && tl l run left) := by
  have hm := ho.1
  intro d
  induction d with
  | zero =>
    intro k i hi hk hall
    obtain ⟨k, rfl⟩ : ∃ m, k = m + 1 := ⟨k - 1, by omega⟩
    simp only [spec_SchedOk.l0, chk, Bool.true_and, tl]
    refine ifn (by omega) ?_
    by_cases c0 : run = 0
    · refine ifp c0 ?_
      rw [if_pos c0]
    · refine ifn c0 ?_
      rw [if_neg c0]
      refine st (at_f k l hm run now slack age run left turns next (by omega)) ?_
      have hpb := place_bd (fun t : S27 => t.f0 == run) l 0
      generalize place (fun t : S27 => t.f0 == run) l 0 = q at hpb ⊢
      by_cases c1 : q < 0
      · refine ifn (by omega) ?_
        rw [if_pos c1]
      · have hq : 0 ≤ q ∧ q < l.length := by omega
        have ht := tkx_at (hall q.toNat (by omega))
        simp only [rd_T27]
        refine ifp (by omega) (ifp (by omega) (ifp (by omega) (ifp ht.1 (ifp ht.2 ?_))))
        refine st (spec_in _ _ _) ?_
        rw [if_neg c1]
  | succ d ih =>
    intro k i hi hk hall
    obtain ⟨k, rfl⟩ : ∃ m, k = m + 2 := ⟨k - 2, by omega⟩
    have hx : LB (fun _ => True) (l.getD i z27).f1 := ho.2 _ (mem_getD l z27 i (by omega))
    have hs := spec_tkOk (k + 1) (l.getD i z27).f0 (l.getD i z27).f1 (l.getD i z27).f2 (l.getD i z27).f3 (l.getD i z27).f4 hx.1 (by omega)
    have hj : ∀ b : Bool, el l now next i = !b → spec_SchedOk.j2 (k + 1) (i : Int) b now slack age l run left turns next = some (chk l now next i (d + 1) && tl l run left) := by
      intro b hb
      simp only [spec_SchedOk.j2, chk, hb]
      cases b with
      | true => simp
      | false =>
        rw [if_neg (by simp), w64_succ i (by omega), ih k (i + 1) (by omega) (by omega) (fun j hj => by
          by_cases e : j < i
          · exact hall j e
          · have : j = i := by omega
            subst this
            have h := hb
            simp only [el, Bool.not_false, Bool.and_eq_true] at h
            exact h.1)]
        simp
    conv => lhs; unfold spec_SchedOk.l0
    simp only [rd_T27, Int.toNat_natCast]
    refine ifp (by omega) (ifp (by omega) (st hs ?_))
    by_cases c1 : tkOk (l.getD i z27).f0 (l.getD i z27).f1 (l.getD i z27).f2 (l.getD i z27).f3 (l.getD i z27).f4 = true
    · refine ifp c1 ?_
      by_cases c2 : (l.getD i z27).f0 ≥ next
      · exact ifp c2 (hj true (by have : ¬ (l.getD i z27).f0 < next := by omega
                                  simp only [el, this, decide_false, Bool.false_and, Bool.and_false, Bool.not_true]))
      · refine ifn c2 ?_
        have c2' : (l.getD i z27).f0 < next := by omega
        by_cases c3 : (l.getD i z27).f4 > now
        · exact ifp c3 (hj true (by have : ¬ (l.getD i z27).f4 ≤ now := by omega
                                    simp only [el, this, decide_false, Bool.false_and, Bool.and_false, Bool.not_true]))
        · refine ifn c3 ?_
          have c3' : (l.getD i z27).f4 ≤ now := by omega
          by_cases c4 : (i : Int) > 0
          · have hw : wrap64 ((i : Int) - 1) = ((i - 1 : Nat) : Int) := by rw [w64 (by omega) (by omega)]; omega
            refine ifp c4 ?_
            rw [hw]
            refine ifp (by omega) (ifp (by omega) ?_)
            simp only [Int.toNat_natCast]
            refine hj _ ?_
            have c5 : ¬ i = 0 := by omega
            simp only [el, tkx, c1, c2', c3', c5, decide_true, decide_false, Bool.true_and, Bool.false_or]
            by_cases c6 : (l.getD (i - 1) z27).f0 < (l.getD i z27).f0
            · have : ¬ (l.getD (i - 1) z27).f0 ≥ (l.getD i z27).f0 := by omega
              simp only [c6, this, decide_true, decide_false, Bool.not_false]
            · have : (l.getD (i - 1) z27).f0 ≥ (l.getD i z27).f0 := by omega
              simp only [c6, this, decide_true, decide_false, Bool.not_true]
          · refine ifn c4 (hj false ?_)
            have c5 : i = 0 := by omega
            simp only [el, tkx, c1, c2', c3', c5, decide_true, Bool.true_and, Bool.true_or, Bool.not_false]
            subst c5
            simp only [c1, c2', c3', decide_true, Bool.and_self]
    · refine ifn c1 (hj true ?_)
      have c1' : tkOk (l.getD i z27).f0 (l.getD i z27).f1 (l.getD i z27).f2 (l.getD i z27).f3 (l.getD i z27).f4 = false := by simpa using c1
      simp only [el, tkx, c1', Bool.false_and, Bool.not_true]
def hd_ (now slack age turns next : Int) : Bool := decide (0 ≤ now ∧ now ≤ 1000000) && (decide (0 ≤ slack ∧ slack ≤ 1000) && (decide (0 ≤ age ∧ age ≤ 20) && (decide (0 ≤ turns ∧ turns ≤ 1000000) && decide (1 ≤ next ∧ next ≤ 1000000))))
def schedOk (now slack age : Int) (l : List S27) (run left turns next : Int) : Bool := hd_ now slack age turns next && (decide (l.length ≤ 12) && (chk l now next 0 l.length && tl l run left))
theorem spec_schedOk (k : Nat) (now slack age : Int) (l : List S27) (run left turns next : Int) (ho : LB Ok27 l) (hk : 4194500 ≤ k) : spec_SchedOk.f k now slack age l run left turns next = some (schedOk now slack age l run left turns next) := by
  have hm := ho.1
  obtain ⟨k, rfl⟩ : ∃ m, k = m + 1 := ⟨k - 1, by omega⟩
  have h0 := spec_sched_l0 now slack age l run left turns next ho l.length k 0 (by omega) (by omega) (fun j hj => by omega)
  have h0' : spec_SchedOk.l0 k 0 now slack age l run left turns next = some (chk l now next 0 l.length && tl l run left) := h0
  unfold spec_SchedOk.f schedOk hd_ spec_l07Tick.f
  simp only [spec_in, Option.bind_some, spec_SchedOk.j0, h0']
  by_cases h1 : 0 ≤ now ∧ now ≤ 1000000
  · by_cases h2 : 0 ≤ slack ∧ slack ≤ 1000
    · by_cases h3 : 0 ≤ age ∧ age ≤ 20
      · by_cases h4 : (l.length : Int) > 12
        · have : ¬ l.length ≤ 12 := by omega
          simp [h1, h2, h3, h4, this]
        · have h4' : l.length ≤ 12 := by omega
          by_cases h5 : 0 ≤ turns ∧ turns ≤ 1000000
          · by_cases h6 : 1 ≤ next ∧ next ≤ 1000000
            · simp [h1, h2, h3, h4, h4', h5, h6]
            · simp [h1, h2, h3, h4, h4', h5, h6]
          · simp [h1, h2, h3, h4, h4', h5]
      · simp [h1, h2, h3]
    · simp [h1, h2]
  · simp [h1]
theorem impl_are_l0 (now slack age : Int) (l : List S27) (run left turns next : Int) (ho : LB Ok27 l) : ∀ (d k i : Nat), i + d = l.length → 2 * d + 2097200 ≤ k →
    impl_Sched_areTasks.l0 k l (l.length : Int) (i : Int) now slack age l run left turns next = some (chk l now next i d && decide (l.length ≤ 12)) := by
  have hm := ho.1
  intro d
  induction d with
  | zero =>
    intro k i hi hk
    obtain ⟨k, rfl⟩ : ∃ m, k = m + 1 := ⟨k - 1, by omega⟩
    simp only [impl_Sched_areTasks.l0, chk, Bool.true_and]
    refine ifn (by omega) ?_
    by_cases h : l.length ≤ 12
    · have : (l.length : Int) ≤ 12 := by omega
      simp [h, this]
    · have : ¬ (l.length : Int) ≤ 12 := by omega
      simp [h, this]
  | succ d ih =>
    intro k i hi hk
    obtain ⟨k, rfl⟩ : ∃ m, k = m + 2 := ⟨k - 2, by omega⟩
    have hx : LB (fun _ => True) (l.getD i z27).f1 := ho.2 _ (mem_getD l z27 i (by omega))
    have hs := impl_tkOk (k + 1) (l.getD i z27).f0 (l.getD i z27).f1 (l.getD i z27).f2 (l.getD i z27).f3 (l.getD i z27).f4 hx.1 (by omega)
    have hj : ∀ b : Bool, el l now next i = !b → impl_Sched_areTasks.j1 (k + 1) l (l.length : Int) (i : Int) b now slack age l run left turns next = some (chk l now next i (d + 1) && decide (l.length ≤ 12)) := by
      intro b hb
      simp only [impl_Sched_areTasks.j1, chk, hb]
      cases b with
      | true => simp
      | false =>
        rw [if_neg (by simp), w64_succ i (by omega), ih k (i + 1) (by omega) (by omega)]
        simp
    conv => lhs; unfold impl_Sched_areTasks.l0
    simp only [rd_T27, Int.toNat_natCast]
    refine ifp (by omega) (ifp (by omega) (ifp (by omega) (st hs ?_)))
    by_cases c1 : tkOk (l.getD i z27).f0 (l.getD i z27).f1 (l.getD i z27).f2 (l.getD i z27).f3 (l.getD i z27).f4 = true
    · refine ifp c1 ?_
      by_cases c2 : (l.getD i z27).f0 ≥ next
      · exact ifp c2 (hj true (by have : ¬ (l.getD i z27).f0 < next := by omega
                                  simp only [el, this, decide_false, Bool.false_and, Bool.and_false, Bool.not_true]))
      · refine ifn c2 ?_
        have c2' : (l.getD i z27).f0 < next := by omega
        by_cases c3 : (l.getD i z27).f4 > now
        · exact ifp c3 (hj true (by have : ¬ (l.getD i z27).f4 ≤ now := by omega
                                    simp only [el, this, decide_false, Bool.false_and, Bool.and_false, Bool.not_true]))
        · refine ifn c3 ?_
          have c3' : (l.getD i z27).f4 ≤ now := by omega
          by_cases c4 : (i : Int) > 0
          · have hw : wrap64 ((i : Int) - 1) = ((i - 1 : Nat) : Int) := by rw [w64 (by omega) (by omega)]; omega
            refine ifp c4 ?_
            rw [hw]
            refine ifp (by omega) (ifp (by omega) ?_)
            simp only [Int.toNat_natCast]
            refine hj _ ?_
            have c5 : ¬ i = 0 := by omega
            simp only [el, tkx, c1, c2', c3', c5, decide_true, decide_false, Bool.true_and, Bool.false_or]
            by_cases c6 : (l.getD (i - 1) z27).f0 < (l.getD i z27).f0
            · have : ¬ (l.getD (i - 1) z27).f0 ≥ (l.getD i z27).f0 := by omega
              simp only [c6, this, decide_true, decide_false, Bool.not_false]
            · have : (l.getD (i - 1) z27).f0 ≥ (l.getD i z27).f0 := by omega
              simp only [c6, this, decide_true, decide_false, Bool.not_true]
          · refine ifn c4 (hj false ?_)
            have c5 : i = 0 := by omega
            simp only [el, tkx, c1, c2', c3', c5, decide_true, Bool.true_and, Bool.true_or, Bool.not_false]
            subst c5
            simp only [c1, c2', c3', decide_true, Bool.and_self]
    · refine ifn c1 (hj true ?_)
      have c1' : tkOk (l.getD i z27).f0 (l.getD i z27).f1 (l.getD i z27).f2 (l.getD i z27).f3 (l.getD i z27).f4 = false := by simpa using c1
      simp only [el, tkx, c1', Bool.false_and, Bool.not_true]
theorem chk_all (l : List S27) (now next : Int) : ∀ (d i : Nat), chk l now next i d = true → ∀ j, i ≤ j → j < i + d → tkx (l.getD j z27) = true := by
  intro d
  induction d with
  | zero => intro i _ j h1 h2; omega
  | succ d ih =>
    intro i h j h1 h2
    simp only [chk, Bool.and_eq_true] at h
    by_cases e : j = i
    · subst e
      have := h.1
      simp only [el, Bool.and_eq_true] at this
      exact this.1
    · exact ih (i + 1) h.2 j (by omega) (by omega)
theorem find_f (l : List S27) (hm : l.length ≤ 1048576) (a b c e f g h run : Int) : impl_Sched_find.f a b c l e f g h run = some (place (fun t => t.f0 == run) l 0) := by
  unfold impl_Sched_find.f
  rw [if_pos (by omega)]
theorem impl_tail (k : Nat) (now slack age : Int) (l : List S27) (run left turns next : Int) (ho : LB Ok27 l) (hk : 1 ≤ k) (hc : chk l now next 0 l.length = true) : impl_SchedOk.j0 k false now slack age l run left turns next = some (tl l run left) := by
  have hm := ho.1
  obtain ⟨k, rfl⟩ : ∃ m, k = m + 1 := ⟨k - 1, by omega⟩
  simp only [impl_SchedOk.j0]
  rw [if_neg (by simp), find_f l hm]
  simp only [Option.bind_some, tl]
  by_cases c0 : run = 0
  · rw [if_pos c0, if_pos c0]
  · rw [if_neg c0, if_neg c0]
    have hpb := place_bd (fun t : S27 => t.f0 == run) l 0
    generalize place (fun t : S27 => t.f0 == run) l 0 = q at hpb ⊢
    by_cases c1 : q < 0
    · rw [if_pos c1, if_pos c1]
    · rw [if_neg c1, if_neg c1]
      have hq : 0 ≤ q ∧ q < l.length := by omega
      have ht := tkx_at (chk_all l now next _ _ hc q.toNat (by omega) (by omega))
      simp only [rd_T27]
      refine ifp (by omega) (ifp (by omega) (ifp ht.1 (ifp ht.2 ?_)))
      exact st (impl_in_ _ _ _) rfl
theorem impl_schedOk (k : Nat) (now slack age : Int) (l : List S27) (run left turns next : Int) (ho : LB Ok27 l) (hk : 4194500 ≤ k) : impl_SchedOk.f k now slack age l run left turns next = some (schedOk now slack age l run left turns next) := by
  have hm := ho.1
  have h0 := impl_are_l0 now slack age l run left turns next ho l.length k 0 (by omega) (by omega)
  have h0' : impl_Sched_areTasks.f k now slack age l run left turns next = some (chk l now next 0 l.length && decide (l.length ≤ 12)) := h0
  have ht : impl_SchedOk.j0 k true now slack age l run left turns next = some false := by
    obtain ⟨k, rfl⟩ : ∃ m, k = m + 1 := ⟨k - 1, by omega⟩
    simp only [impl_SchedOk.j0]; rfl
  unfold impl_SchedOk.f schedOk hd_ impl_isTick.f
  simp only [impl_in_, Option.bind_some, h0', ht]
  by_cases h1 : 0 ≤ now ∧ now ≤ 1000000
  · by_cases h2 : 0 ≤ slack ∧ slack ≤ 1000
    · by_cases h3 : 0 ≤ age ∧ age ≤ 20
      · by_cases h5 : 0 ≤ turns ∧ turns ≤ 1000000
        · by_cases h6 : 1 ≤ next ∧ next ≤ 1000000
          · simp only [h1, h2, h3, h5, h6, and_self, decide_true, if_true, Bool.true_and]
            cases hc : chk l now next 0 l.length with
            | false => simp [ht]
            | true =>
              by_cases h4 : l.length ≤ 12
              · have := impl_tail k now slack age l run left turns next ho (by omega) hc
                simp [h4, this]
              · simp [h4, ht]
          · simp [h1, h2, h3, h5, h6]
        · simp [h1, h2, h3, h5]
      · simp [h1, h2, h3]
    · simp [h1, h2]
  · simp [h1]

def newT (slack age : Int) : Int × Int × Int × (List (S27)) × Int × Int × Int × Int × Bool := if schedOk 0 slack age [] 0 0 0 1 = true then (0, slack, age, [], 0, 0, 0, 1, true) else (0, 0, 0, [], 0, 0, 0, 0, false)
theorem nil_ok : LB Ok27 ([] : List S27) := ⟨by simp, by simp⟩
theorem spec_new (k : Nat) (slack age : Int) (hk : 4194600 ≤ k) : spec_NewSched.f k slack age = some (newT slack age) := by
  unfold spec_NewSched.f newT
  refine st (spec_schedOk k 0 slack age [] 0 0 0 1 nil_ok (by omega)) ?_
  by_cases h : schedOk 0 slack age [] 0 0 0 1 = true
  · rw [if_pos h, if_pos h]
  · rw [if_neg h, if_neg h]
theorem impl_new (k : Nat) (slack age : Int) (hk : 4194600 ≤ k) : impl_NewSched.f k slack age = some (newT slack age) := by
  unfold impl_NewSched.f newT
  refine st (impl_schedOk k 0 slack age [] 0 0 0 1 nil_ok (by omega)) ?_
  by_cases h : schedOk 0 slack age [] 0 0 0 1 = true
  · rw [if_pos h, if_pos h]
  · rw [if_neg h, if_neg h]
theorem eqSched0 (k : Nat) (a b c d e f g : Int) : laws_eqSched.f (k + 1) a b c [] d e f g a b c [] d e f g = some true := by
  simp [laws_eqSched.f, laws_eqTaskS.f, laws_eqTaskS.l0]
theorem markSched0 (a b c d e f g : Int) : laws_markSched.f a b c [] d e f g 1 = some 1 := by
  simp [laws_markSched.f, laws_markTaskS.f]
theorem heldSched0 (k : Nat) (a b c d e f g : Int) : laws_heldSched.f (k + 1) a b c [] d e f g 1 = some 1 := by
  simp [laws_heldSched.f, laws_heldTaskS.f, laws_heldTaskS.l0]

abbrev M4 : List S88 := List.replicate 4 z88
abbrev F4 : List Bool := List.replicate 4 false
abbrev N4 : List S88 := mkMl M4 1
theorem nrt (k : Nat) (x : Option (Int × Int × Int × (List (S27)) × Int × Int × Int × Int × Bool)) (slack age : Int) (h : x = some (newT slack age)) (hs : schedOk 0 slack age [] 0 0 0 1 = true) :
    (x.bind fun bt131 => (if bt131.2.2.2.2.2.2.2.2 = true then (if 4 ≤ 5864062014805 then (if 4 ≤ 281474976710656 then (some (bt131.1, bt131.2.1, bt131.2.2.1, bt131.2.2.2.1, bt131.2.2.2.2.1, bt131.2.2.2.2.2.1, bt131.2.2.2.2.2.2.1, bt131.2.2.2.2.2.2.2.1, (List.replicate 4 z88), (List.replicate 4 false), ([] : List (S95)), true)) else (none)) else (none)) else (some (0, 0, 0, ([] : List (S27)), 0, 0, 0, 0, ([] : List (S88)), ([] : List Bool), ([] : List (S95)), false)))) = some (0, slack, age, [], 0, 0, 0, 1, M4, F4, [], true) := by
  subst h; unfold newT; rw [if_pos hs]; rfl
theorem nrf (k : Nat) (x : Option (Int × Int × Int × (List (S27)) × Int × Int × Int × Int × Bool)) (slack age : Int) (h : x = some (newT slack age)) (hs : ¬ schedOk 0 slack age [] 0 0 0 1 = true) :
    (x.bind fun bt131 => (if bt131.2.2.2.2.2.2.2.2 = true then (if 4 ≤ 5864062014805 then (if 4 ≤ 281474976710656 then (some (bt131.1, bt131.2.1, bt131.2.2.1, bt131.2.2.2.1, bt131.2.2.2.2.1, bt131.2.2.2.2.2.1, bt131.2.2.2.2.2.2.1, bt131.2.2.2.2.2.2.2.1, (List.replicate 4 z88), (List.replicate 4 false), ([] : List (S95)), true)) else (none)) else (none)) else (some (0, 0, 0, ([] : List (S27)), 0, 0, 0, 0, ([] : List (S88)), ([] : List Bool), ([] : List (S95)), false)))) = some (0, 0, 0, [], 0, 0, 0, 0, [], [], [], false) := by
  subst h; unfold newT; rw [if_neg hs]; rfl
theorem eqM4 (k : Nat) : laws_eqModelS.f (k + 8) M4 M4 = some true := by kernel_rfl
theorem eqF4 (k : Nat) : laws_eqBoolS.f (k + 8) F4 F4 = some true := by kernel_rfl
theorem mkM4 : laws_markModelS.f M4 1 = some (13, N4) := by kernel_rfl
theorem mkF4 (k : Nat) : laws_markBoolS.f (k + 8) F4 13 = some (17, [false, false, true, false]) := by kernel_rfl
theorem hdM4 (k : Nat) : laws_heldModelS.f (k + 8) N4 1 = some 13 := by kernel_rfl
theorem hdF4 (k : Nat) : laws_heldBoolS.f (k + 8) [false, false, true, false] 13 = some 17 := by kernel_rfl
theorem eqR1 (k : Nat) (a b : Int) : laws_eqRuntime.f (k + 8) 0 a b [] 0 0 0 1 M4 F4 [] 0 a b [] 0 0 0 1 M4 F4 [] = some true := by
  unfold laws_eqRuntime.f
  refine st (eqSched0 (k + 7) _ _ _ _ _ _ _) (ifp rfl (st (eqM4 k) (ifp rfl (st (eqF4 k) (ifp rfl (st (a := true) rfl (ifp rfl rfl)))))))
theorem eqR0 (k : Nat) : laws_eqRuntime.f (k + 8) 0 0 0 [] 0 0 0 0 [] [] [] 0 0 0 [] 0 0 0 0 [] [] [] = some true := by kernel_rfl
theorem mkR1 (k : Nat) (a b : Int) : laws_markRuntime.f (k + 8) 0 a b [] 0 0 0 1 M4 F4 [] 1 = some (17, N4, [false, false, true, false]) := by
  unfold laws_markRuntime.f
  refine st (markSched0 _ _ _ _ _ _ _) (st mkM4 (st (mkF4 k) rfl))
theorem mkR0 (k : Nat) : laws_markRuntime.f (k + 8) 0 0 0 [] 0 0 0 0 [] [] [] 1 = some (1, [], []) := by kernel_rfl
theorem hdR1 (k : Nat) (a b : Int) : laws_heldRuntime.f (k + 8) 0 a b [] 0 0 0 1 N4 [false, false, true, false] [] 1 = some 17 := by
  unfold laws_heldRuntime.f
  refine st (heldSched0 (k + 7) _ _ _ _ _ _ _) (ifn (by decide) (st (hdM4 k) (ifn (by decide) (st (hdF4 k) (ifn (by decide) (st (a := 17) rfl (ifn (by decide) rfl)))))))
theorem hdR0 (k : Nat) : laws_heldRuntime.f (k + 8) 0 0 0 [] 0 0 0 0 [] [] [] 1 = some 1 := by kernel_rfl


theorem FnExactNewRuntime : laws_FnExactNewRuntime.Pure := by
  intro s a _ _
  obtain ⟨k, hk⟩ : ∃ k : Nat, 1000000000 ≤ k := ⟨_, Nat.le_refl _⟩
  refine ⟨k + 8 + 1 + 1, ?_⟩
  unfold laws_FnExactNewRuntime.f
  by_cases h : schedOk 0 s a [] 0 0 0 1 = true
  · have e1 : spec_NewRuntime.f (k + 8 + 1 + 1) s a = _ := nrt (k + 8 + 1 + 1) _ s a (spec_new (k + 8 + 1 + 1) s a (by omega)) h
    have e2 : impl_NewRuntime.f (k + 8 + 1 + 1) s a = _ := nrt (k + 8 + 1 + 1) _ s a (impl_new (k + 8 + 1 + 1) s a (by omega)) h
    have e3 : impl_NewRuntime.f (k + 8 + 1) s a = _ := nrt (k + 8 + 1) _ s a (impl_new (k + 8 + 1) s a (by omega)) h
    refine st e1 (st e2 (st (eqR1 (k + 2) _ _) (ifp rfl ?_)))
    rw [laws_FnExactNewRuntime.j0]
    refine ifn (by simp) (st (mkR1 (k + 1) _ _) (st (hdR1 (k + 1) _ _) (ifn (by decide) (ifp rfl (st e3 (st (eqR1 (k + 1) _ _) (ifp rfl ?_)))))))
    rw [laws_FnExactNewRuntime.j1]
    exact ifn (by simp) (st (hdR1 k _ _) (ifn (by decide) (ifp rfl rfl)))
  · have e1 : spec_NewRuntime.f (k + 8 + 1 + 1) s a = _ := nrf (k + 8 + 1 + 1) _ s a (spec_new (k + 8 + 1 + 1) s a (by omega)) h
    have e2 : impl_NewRuntime.f (k + 8 + 1 + 1) s a = _ := nrf (k + 8 + 1 + 1) _ s a (impl_new (k + 8 + 1 + 1) s a (by omega)) h
    have e3 : impl_NewRuntime.f (k + 8 + 1) s a = _ := nrf (k + 8 + 1) _ s a (impl_new (k + 8 + 1) s a (by omega)) h
    refine st e1 (st e2 (st (eqR0 (k + 2)) (ifp rfl ?_)))
    rw [laws_FnExactNewRuntime.j0]
    refine ifn (by simp) (st (mkR0 (k + 1)) (st (hdR0 (k + 1)) (ifn (by decide) (ifp rfl (st e3 (st (eqR0 (k + 1)) (ifp rfl ?_)))))))
    rw [laws_FnExactNewRuntime.j1]
    exact ifn (by simp) (st (hdR0 k) (ifn (by decide) (ifp rfl rfl)))

end Go.Proofs.Ytljboinndpnefaa.Pure
