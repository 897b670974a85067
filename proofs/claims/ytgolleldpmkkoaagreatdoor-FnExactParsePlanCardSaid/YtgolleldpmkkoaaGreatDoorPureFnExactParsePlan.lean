/- What is left of the statement FnExactParsePlan once the Go functions are Lean functions: the program's ParsePlan and the reference's answer alike. No condition. -/
import Derived.Test.YtgolleldpmkkoaaGreatDoorQFnExactParsePlanx6
import Derived.Test.YtgolleldpmkkoaaGreatDoorAid
set_option linter.unusedVariables false
set_option linter.unusedSimpArgs false
namespace Go.Proofs.YtgolleldpmkkoaaGreatDoor.Pure
open Go.RowKit Go.Proofs.YtgolleldpmkkoaaGreatDoor.QFnExactParsePlan Go.Proofs.YtgolleldpmkkoaaGreatDoorW.PrintWords Go.Proofs.YtgolleldpmkkoaaGreatDoorW.PrintLast Go.Proofs.YtgolleldpmkkoaaGreatDoorW.PrintMore Go.Proofs.YtgolleldpmkkoaaGreatDoorW.Aid


theorem spec_in (x lo hi : Int) : spec_l01In.f x lo hi = some (decide (lo ≤ x ∧ x ≤ hi)) := by
  unfold spec_l01In.f
  split
  · simp_all
  · simp; omega
theorem impl_in_ (x lo hi : Int) : impl_in.f x lo hi = some (decide (lo ≤ x ∧ x ≤ hi)) := by
  unfold impl_in.f
  split
  · simp_all
  · simp; omega

def LB {α : Type} (P : α → Prop) (l : List α) : Prop := l.length ≤ 1048576 ∧ ∀ x ∈ l, P x
theorem LB.map {α β : Type} {P : α → Prop} {Q : β → Prop} {f : α → β} {l : List α} (hf : ∀ x, P x → Q (f x)) (h : LB P l) : LB Q (l.map f) := ⟨by simpa using h.1, fun y hy => by obtain ⟨x, hx, rfl⟩ := List.mem_map.1 hy; exact hf x (h.2 x hx)⟩
theorem eqShape_ (a0_0 : Int) (a0_1 : Int) (a0_2 : Int) : laws_eqShape.f a0_0 a0_1 a0_2 a0_0 a0_1 a0_2 = some true := by
  unfold laws_eqShape.f
  repeat (first | refine ifp rfl ?_ | refine ifp (by omega) ?_ | refine ifn (by rw [bne_self_eq_false]; exact Bool.false_ne_true) ?_ | refine ifp (by simp) ?_ | refine ifn (by simp) ?_ | rfl)
theorem eqIntS_l0 (l : List (Int)) (ho : LB (fun _ => True) l) : ∀ (d k i : Nat), i + d = l.length → d + 0 < k → laws_eqIntS.l0 k l l (i : Int) = some true := by
  have hm := ho.1
  intro d
  induction d with
  | zero =>
    intro k i hi hk
    obtain ⟨k, rfl⟩ : ∃ m, k = m + 1 := ⟨k - 1, by omega⟩
    simp only [laws_eqIntS.l0]
    rw [if_neg (by omega)]
  | succ d ih =>
    intro k i hi hk
    obtain ⟨k, rfl⟩ : ∃ m, k = m + 1 := ⟨k - 1, by omega⟩
    have hx := ho.2 _ (mem_getD l 0 i (by omega))
    simp only [laws_eqIntS.l0, rd_L4, rd_T23, rd_T55, rdOf, rd_natD, Int.toNat_natCast]
    repeat (first | refine ifp rfl ?_ | refine ifp (by omega) ?_ | refine ifn (by rw [bne_self_eq_false]; exact Bool.false_ne_true) ?_ | refine ifp (by simp) ?_ | refine ifn (by simp) ?_)
    rw [w64_succ i (by omega)]
    exact ih k (i + 1) (by omega) (by omega)
theorem eqIntS_ (k : Nat) (l : List (Int)) (ho : LB (fun _ => True) l) (hk : 1048580 ≤ k) : laws_eqIntS.f k l l = some true := by
  have hm := ho.1
  unfold laws_eqIntS.f
  rw [if_pos rfl]
  exact eqIntS_l0 l ho l.length k 0 (by omega) (by omega)
theorem eqLayer_ (k : Nat) (a0_0 : Int) (a0_1 : Int) (a0_2 : Int) (a0_3 : Int) (a0_4 : Int) (a0_5 : Int) (a0_6 : Int) (l0_7 : List (Int)) (l0_8 : List (Int)) (hl0_7 : LB (fun _ => True) l0_7) (hl0_8 : LB (fun _ => True) l0_8) (hk : 1048580 ≤ k) : laws_eqLayer.f k a0_0 a0_1 a0_2 a0_3 a0_4 a0_5 a0_6 l0_7 l0_8 a0_0 a0_1 a0_2 a0_3 a0_4 a0_5 a0_6 l0_7 l0_8 = some true := by
  unfold laws_eqLayer.f
  repeat (first | (refine st (eqIntS_ _ _ (by assumption) (by omega)) ?_; (try dsimp only)) | refine ifp rfl ?_ | refine ifp (by omega) ?_ | refine ifn (by rw [bne_self_eq_false]; exact Bool.false_ne_true) ?_ | refine ifp (by simp) ?_ | refine ifn (by simp) ?_ | rfl)
def Ok55 (x : S55) : Prop := (LB (fun _ => True)) x.f7 ∧ (LB (fun _ => True)) x.f8
theorem eqLayerS_l0 (l : List (S55)) (ho : LB Ok55 l) : ∀ (d k i : Nat), i + d = l.length → d + 1048580 < k → laws_eqLayerS.l0 k l l (i : Int) = some true := by
  have hm := ho.1
  intro d
  induction d with
  | zero =>
    intro k i hi hk
    obtain ⟨k, rfl⟩ : ∃ m, k = m + 1 := ⟨k - 1, by omega⟩
    simp only [laws_eqLayerS.l0]
    rw [if_neg (by omega)]
  | succ d ih =>
    intro k i hi hk
    obtain ⟨k, rfl⟩ : ∃ m, k = m + 1 := ⟨k - 1, by omega⟩
    have hx := ho.2 _ (mem_getD l z55 i (by omega))
    have hx0 : (LB (fun _ => True)) (l.getD i z55).f7 := hx.1
    have hx1 : (LB (fun _ => True)) (l.getD i z55).f8 := hx.2
    simp only [laws_eqLayerS.l0, rd_L4, rd_T23, rd_T55, rdOf, rd_natD, Int.toNat_natCast]
    repeat (first | (refine st (eqLayer_ _ _ _ _ _ _ _ _ _ _ (by assumption) (by assumption) (by omega)) ?_; (try dsimp only)) | refine ifp rfl ?_ | refine ifp (by omega) ?_ | refine ifn (by rw [bne_self_eq_false]; exact Bool.false_ne_true) ?_ | refine ifp (by simp) ?_ | refine ifn (by simp) ?_)
    rw [w64_succ i (by omega)]
    exact ih k (i + 1) (by omega) (by omega)
theorem eqLayerS_ (k : Nat) (l : List (S55)) (ho : LB Ok55 l) (hk : 2097160 ≤ k) : laws_eqLayerS.f k l l = some true := by
  have hm := ho.1
  unfold laws_eqLayerS.f
  rw [if_pos rfl]
  exact eqLayerS_l0 l ho l.length k 0 (by omega) (by omega)
theorem eqModel_ (k : Nat) (a0_0 : Int) (a0_1 : Int) (a0_2 : Int) (l0_3 : List (S55)) (hl0_3 : LB Ok55 l0_3) (hk : 2097160 ≤ k) : laws_eqModel.f k a0_0 a0_1 a0_2 l0_3 a0_0 a0_1 a0_2 l0_3 = some true := by
  unfold laws_eqModel.f
  repeat (first | (refine st (eqShape_ _ _ _) ?_; (try dsimp only)) | (refine st (eqLayerS_ _ _ (by assumption) (by omega)) ?_; (try dsimp only)) | refine ifp rfl ?_ | refine ifp (by omega) ?_ | refine ifn (by rw [bne_self_eq_false]; exact Bool.false_ne_true) ?_ | refine ifp (by simp) ?_ | refine ifn (by simp) ?_ | rfl)

def shOk (h w c : Int) : Bool := decide ((1 ≤ h ∧ h ≤ 8) ∧ (1 ≤ w ∧ w ≤ 8) ∧ (1 ≤ c ∧ c ≤ 8))
theorem shOk_iff {h w c : Int} : shOk h w c = true ↔ ((1 ≤ h ∧ h ≤ 8) ∧ (1 ≤ w ∧ w ≤ 8) ∧ (1 ≤ c ∧ c ≤ 8)) := by simp [shOk]
theorem spec_shapeOk (h w c : Int) : spec_ShapeOk.f h w c = some (shOk h w c) := by
  unfold spec_ShapeOk.f
  simp only [spec_in, Option.bind_some]
  by_cases h1 : 1 ≤ h ∧ h ≤ 8 <;> by_cases h2 : 1 ≤ w ∧ w ≤ 8 <;> simp [shOk, h1, h2]
theorem impl_shapeOk (h w c : Int) : impl_ShapeOk.f h w c = some (shOk h w c) := by
  unfold impl_ShapeOk.f
  simp only [impl_in_, Option.bind_some]
  by_cases h1 : 1 ≤ h ∧ h ≤ 8 <;> by_cases h2 : 1 ≤ w ∧ w ≤ 8 <;> simp [shOk, h1, h2]
def szN (h w c : Int) : Int := if shOk h w c = true then h * w * c else 0
theorem prod_bd {h w c : Int} (hs : shOk h w c = true) : (1 ≤ h * w ∧ h * w ≤ 64) ∧ 1 ≤ h * w * c ∧ h * w * c ≤ 512 := by
  obtain ⟨⟨a, b⟩, ⟨d, e⟩, f, g⟩ := shOk_iff.1 hs
  have h1 : 1 * w ≤ h * w := Int.mul_le_mul_of_nonneg_right a (by omega)
  have h2 : h * w ≤ 8 * w := Int.mul_le_mul_of_nonneg_right b (by omega)
  have h3 : h * w * 1 ≤ h * w * c := Int.mul_le_mul_of_nonneg_left f (by omega)
  have h4 : h * w * c ≤ h * w * 8 := Int.mul_le_mul_of_nonneg_left g (by omega)
  omega
theorem spec_sizeOf_ (h w c : Int) : spec_SizeOf.f h w c = some (szN h w c) := by
  unfold spec_SizeOf.f szN
  simp only [spec_shapeOk, Option.bind_some]
  split
  · rename_i hs
    have := prod_bd hs
    rw [w64 (x := h * w) (by omega) (by omega), w64 (by omega) (by omega)]
  · rfl
theorem impl_sizeOf_ (h w c : Int) : impl_SizeOf.f h w c = some (szN h w c) := by
  unfold impl_SizeOf.f szN
  simp only [impl_shapeOk, Option.bind_some]
  split
  · rename_i hs
    have := prod_bd hs
    rw [w64 (x := h * w) (by omega) (by omega), w64 (by omega) (by omega)]
  · rfl
def is8 (x : Int) : Bool := decide (-128 ≤ x ∧ x ≤ 127)
def tOk (h w c : Int) (l : List Int) : Bool := shOk h w c && (decide ((l.length : Int) = szN h w c) && l.all is8)
theorem spec_int8 (x : Int) : spec_l02Int8.f x = some (is8 x) := by unfold spec_l02Int8.f; rw [spec_in]; rfl
theorem all_drop8 (l : List Int) (i : Nat) (h : i < l.length) : (l.drop i).all is8 = (is8 (l.getD i 0) && (l.drop (i + 1)).all is8) := by
  rw [drop_getD l 0 i h]; rfl
theorem area_l0 (l : List Int) (hm : l.length ≤ 9223372036854775806) : ∀ (d k i : Nat), i + d = l.length → d < k →
    ∃ r, slices_IndexFunc_int_int_at_135.l0 k l (l.length : Int) (i : Int) = some r ∧ (0 ≤ r ↔ (l.drop i).all is8 = false) := by
  intro d
  induction d with
  | zero =>
    intro k i hi hk
    obtain ⟨k, rfl⟩ : ∃ m, k = m + 1 := ⟨k - 1, by omega⟩
    simp only [slices_IndexFunc_int_int_at_135.l0]
    rw [if_neg (by omega), List.drop_of_length_le (by omega)]
    exact ⟨-1, rfl, by simp⟩
  | succ d ih =>
    intro k i hi hk
    obtain ⟨k, rfl⟩ : ∃ m, k = m + 1 := ⟨k - 1, by omega⟩
    simp only [slices_IndexFunc_int_int_at_135.l0]
    rw [if_pos (by omega), if_pos (by omega), if_pos (by omega), all_drop8 l i (by omega)]
    unfold impl_areItems_1.f
    simp only [impl_in_, Option.bind_some, rd_natD]
    cases hr : is8 (l.getD i 0) with
    | false =>
      have : ¬ (-128 ≤ l.getD i 0 ∧ l.getD i 0 ≤ 127) := by simpa [is8] using hr
      exact ⟨i, by simp only [this]; simp, by simp⟩
    | true =>
      have : (-128 ≤ l.getD i 0 ∧ l.getD i 0 ≤ 127) := by simpa [is8] using hr
      obtain ⟨r, h1, h2⟩ := ih k (i + 1) (by omega) (by omega)
      refine ⟨r, ?_, by simpa using h2⟩
      rw [w64_succ i (by omega)]
      simp only [this, and_self]
      simpa using h1
theorem impl_area (k : Nat) (l : List Int) (hm : l.length ≤ 9223372036854775806) (hk : l.length < k) : impl_areItems.f k l = some (l.all is8) := by
  obtain ⟨r, h1, h2⟩ := area_l0 l hm l.length k 0 (by omega) hk
  have h1' : slices_IndexFunc_int_int_at_135.f k l = some r := h1
  unfold impl_areItems.f slices_ContainsFunc_int_int_at_135.f
  rw [h1']
  rw [List.drop_zero] at h2
  simp only [Option.bind_some]
  cases ha : l.all is8 with
  | false => rw [ha] at h2; have := h2.2 rfl; simp [this]
  | true => rw [ha] at h2; have : ¬ 0 ≤ r := fun z => absurd (h2.1 z) (by simp); simp; omega
def tx (l : List UInt8) : ByteArray := ⟨l.toArray⟩
theorem tx_append (a b : List UInt8) : tx a ++ tx b = tx (a ++ b) := by
  apply ByteArray.ext
  simp [tx, ByteArray.data_append]
theorem tx_size (a : List UInt8) : (tx a).size = a.length := by simp [tx, ByteArray.size]
def digs (u : Nat) : List UInt8 := if u = 0 then [] else Go.Lib.decDigits u
theorem digs_step {u : Nat} (h : u ≠ 0) : digs u = digs (u / 10) ++ [UInt8.ofNat (48 + u % 10)] := by
  unfold digs
  rw [if_neg h]
  by_cases c : u < 10
  · rw [if_pos (by omega), Go.Lib.decDigits, dif_pos c, Nat.mod_eq_of_lt c]
    rfl
  · rw [if_neg (by omega), Go.Lib.decDigits, dif_neg c]
theorem one_digit (d : Int) (h0 : 0 ≤ d) (h1 : d ≤ 9) : strOfNums [(wrap64 (48 + d)) % 256] = tx [UInt8.ofNat (48 + d.toNat)] := by
  rw [w64 (by omega) (by omega), Int.emod_eq_of_lt (by omega) (by omega)]
  have : (48 + d).toNat = 48 + d.toNat := by omega
  simp [strOfNums, tx, this]
theorem num_l0 (neg : Bool) : ∀ (n k u : Nat) (x : Int) (s : List UInt8), n < k → u < 10 ^ n → u ≤ 9223372036854775808 → x.natAbs = u → n + s.length ≤ 1000 →
    spec_l01Num.l0 k x (tx s) neg = some (tx ((if neg = true then [45] else []) ++ (digs u ++ s))) := by
  intro n
  induction n with
  | zero =>
    intro k u x s hk hu hu2 hx hs
    obtain ⟨k, rfl⟩ : ∃ m, k = m + 1 := ⟨k - 1, by omega⟩
    have hu0 : u = 0 := by omega
    subst hu0
    rw [spec_l01Num.l0]
    refine ifp (by omega) ?_
    cases neg with
    | true =>
      refine ifp rfl (ifp (by rw [tx_size]; omega) ?_)
      rw [show (⟨#[45]⟩ : ByteArray) = tx [45] from rfl, tx_append]
      rfl
    | false => exact ifn (by simp) rfl
  | succ n ih =>
    intro k u x s hk hu hu2 hx hs
    obtain ⟨k, rfl⟩ : ∃ m, k = m + 1 := ⟨k - 1, by omega⟩
    by_cases h0 : u = 0
    · subst h0
      rw [spec_l01Num.l0]
      refine ifp (by omega) ?_
      cases neg with
      | true =>
        refine ifp rfl (ifp (by rw [tx_size]; omega) ?_)
        rw [show (⟨#[45]⟩ : ByteArray) = tx [45] from rfl, tx_append]
        rfl
      | false => exact ifn (by simp) rfl
    · have hp : u < 10 ^ n * 10 := by rw [← Nat.pow_succ]; exact hu
      have hq : u / 10 < 10 ^ n := Nat.div_lt_of_lt_mul (by rw [Nat.mul_comm]; exact hp)
      have e : (if neg = true then [45] else []) ++ (digs u ++ s) = (if neg = true then [45] else []) ++ (digs (u / 10) ++ (UInt8.ofNat (48 + u % 10) :: s)) := by
        rw [digs_step h0]; simp
      have hx0 : ¬ x = 0 := by omega
      have ht : (Int.tdiv x 10).natAbs = x.natAbs / 10 := Int.natAbs_tdiv x 10
      have hm : (Int.tmod x 10).natAbs = x.natAbs % 10 := Int.natAbs_tmod x 10
      have g := ih k (u / 10) (Int.tdiv x 10) (UInt8.ofNat (48 + u % 10) :: s) (by omega) hq (by omega) (by omega) (by simp; omega)
      have hw : wrap64 (Int.tdiv x 10) = Int.tdiv x 10 := w64 (by omega) (by omega)
      rw [spec_l01Num.l0, e, hw]
      refine ifn hx0 ?_
      by_cases c : Int.tmod x 10 < 0
      · have hd : -(Int.tmod x 10) = ((u % 10 : Nat) : Int) := by omega
        refine ifp c (st rfl ?_)
        rw [w64 (x := -(Int.tmod x 10)) (by omega) (by omega), hd, one_digit _ (by omega) (by omega)]
        refine ifp (by rw [tx_size, tx_size]; simp; omega) ?_
        rw [tx_append]
        exact g
      · have hd : Int.tmod x 10 = ((u % 10 : Nat) : Int) := by omega
        refine ifn c (st rfl ?_)
        rw [hd, one_digit _ (by omega) (by omega)]
        refine ifp (by rw [tx_size, tx_size]; simp; omega) ?_
        rw [tx_append]
        exact g
theorem spec_num (k : Nat) (x : Int) (h0 : -9223372036854775808 ≤ x) (h1 : x ≤ 9223372036854775807) (hk : 100 ≤ k) : spec_l01Num.f k x = some (itoaS x) := by
  unfold spec_l01Num.f itoaS Go.Lib.itoa
  by_cases c : x = 0
  · subst c
    refine ifp rfl ?_
    rw [if_neg (by omega), Go.Lib.decDigits, dif_pos (by decide)]
    rfl
  · refine ifn c ?_
    have g := num_l0 (decide (x < 0)) 20 k x.natAbs x [] (by omega) (by omega) (by omega) rfl (by simp)
    refine (show spec_l01Num.l0 k x (tx []) _ = _ from g).trans ?_
    have hd : digs x.natAbs = Go.Lib.decDigits x.natAbs := by unfold digs; rw [if_neg (by omega)]
    rw [hd, List.append_nil]
    by_cases c2 : x < 0
    · rw [decide_eq_true c2, if_pos rfl, if_pos c2]
      rfl
    · rw [decide_eq_false c2, if_neg (by simp), if_neg c2, show x.natAbs = x.toNat by omega]
      rfl
theorem splitL_miss {L sep : List UInt8} {f : Nat} (h : ∀ j, f ≤ j → j ≤ L.length → Go.Lib.occAt L sep j = false) (hf : f ≤ L.length) : Go.Lib.split (L.drop f) sep = [L.drop f] := by
  have hi : Go.Lib.index (L.drop f) sep = -1 := Go.Lib.index_none fun j hj => by
    have := h (f + j) (by omega) (by rw [List.length_drop] at hj; omega)
    unfold Go.Lib.occAt at this ⊢
    rw [List.drop_drop]; exact this
  unfold Go.Lib.split
  rw [Go.Lib.count_miss hi]
  rfl
theorem splitL_hit {L sep : List UInt8} {f i : Nat} (hs : sep ≠ []) (hf : f ≤ i) (hi : i ≤ L.length) (ho : Go.Lib.occAt L sep i = true) (h : ∀ j, f ≤ j → j < i → Go.Lib.occAt L sep j = false) :
    Go.Lib.split (L.drop f) sep = (L.drop f).take (i - f) :: Go.Lib.split (L.drop (i + sep.length)) sep := by
  have hx : Go.Lib.index (L.drop f) sep = (i - f : Nat) := by
    refine Go.Lib.index_first (by rw [List.length_drop]; omega) ?_ fun j hj => ?_
    · unfold Go.Lib.occAt at ho ⊢; rw [List.drop_drop, show f + (i - f) = i by omega]; exact ho
    · have := h (f + j) (by omega) (by omega)
      unfold Go.Lib.occAt at this ⊢; rw [List.drop_drop]; exact this
  have hm : ¬ (Go.Lib.index (L.drop f) sep == -1) = true := fun e => by have := beq_iff_eq.1 e; omega
  have e : (Go.Lib.index (L.drop f) sep).toNat = i - f := by omega
  unfold Go.Lib.split
  rw [Go.Lib.count_hit hs hx, Nat.add_comm 1, Go.Lib.splitK, if_neg hm, e, List.drop_drop, show f + (i - f + sep.length) = i + sep.length by omega, Nat.add_zero]
theorem mk_toList (s : ByteArray) : (⟨s.data.toList.toArray⟩ : ByteArray) = s := by
  apply ByteArray.ext; simp
theorem splitS_L (s sep : ByteArray) : splitS s sep = (Go.Lib.split s.data.toList sep.data.toList).map fun l => (⟨l.toArray⟩ : ByteArray) := by
  unfold splitS Go.Lib.split
  rw [← Go.Lib.splitB_data, List.map_map]
  conv => lhs; rw [← List.map_id (Go.Lib.splitB _ _ _ _)]
  exact List.map_congr_left fun x _ => (mk_toList x).symm
theorem extract_L (s : ByteArray) (a b : Nat) : s.extract a b = ⟨((s.data.toList.drop a).take (b - a)).toArray⟩ := by
  apply ByteArray.ext
  have := Go.Lib.extract_data s a b
  apply Array.toList_inj.1
  rw [this]
theorem extract_L2 (s : ByteArray) (a : Nat) : (⟨(s.data.toList.drop a).toArray⟩ : ByteArray) = s.extract a s.size := by
  rw [extract_L, List.take_of_length_le]
  rw [List.length_drop]; exact Nat.le_refl _
theorem splitS_last {t sep : ByteArray} {f : Nat} (hf : f ≤ t.size) (h : ∀ j, f ≤ j → j ≤ t.size → Go.Lib.occAt t.data.toList sep.data.toList j = false) : (Go.Lib.split (t.data.toList.drop f) sep.data.toList).map (fun l => (⟨l.toArray⟩ : ByteArray)) = [t.extract f t.size] := by
  rw [splitL_miss (fun j h1 h2 => h j h1 h2) hf, List.map_cons, List.map_nil, extract_L2]
theorem splitS_next {t sep : ByteArray} {f i : Nat} (hs : 1 ≤ sep.size) (hf : f ≤ i) (hi : i ≤ t.size) (ho : Go.Lib.occAt t.data.toList sep.data.toList i = true) (h : ∀ j, f ≤ j → j < i → Go.Lib.occAt t.data.toList sep.data.toList j = false) :
    (Go.Lib.split (t.data.toList.drop f) sep.data.toList).map (fun l => (⟨l.toArray⟩ : ByteArray)) = t.extract f i :: (Go.Lib.split (t.data.toList.drop (i + sep.size)) sep.data.toList).map (fun l => (⟨l.toArray⟩ : ByteArray)) := by
  have hn : sep.data.toList ≠ [] := fun e => by
    have : sep.size = 0 := by show sep.data.size = 0; rw [← Array.length_toList, e]; rfl
    omega
  rw [splitL_hit hn hf hi ho h, List.map_cons, ← extract_L]
  rfl

def isDg (c : UInt8) : Prop := 48 ≤ c.toNat ∧ c.toNat ≤ 57
instance (c : UInt8) : Decidable (isDg c) := by unfold isDg; infer_instance
theorem dg_of (d : Nat) (h : d < 10) : isDg (UInt8.ofNat (48 + d)) ∧ (UInt8.ofNat (48 + d)).toNat = 48 + d := by
  have e : (UInt8.ofNat (48 + d)).toNat = 48 + d := by rw [UInt8.toNat_ofNat']; omega
  exact ⟨⟨by omega, by omega⟩, e⟩
def dv : Nat → List UInt8 → Option Nat
  | acc, [] => some acc
  | acc, c :: r => if isDg c then dv (acc * 10 + (c.toNat - 48)) r else none
theorem dv_snoc : ∀ (l : List UInt8) (acc u : Nat) (c : UInt8), dv acc l = some u → isDg c → dv acc (l ++ [c]) = some (u * 10 + (c.toNat - 48))
  | [], acc, u, c, h, hc => by
    obtain rfl := Option.some.inj h
    show (if isDg c then some _ else none) = _
    rw [if_pos hc]
  | b :: r, acc, u, c, h, hc => by
    rw [List.cons_append, dv]
    rw [dv] at h
    by_cases hb : isDg b
    · rw [if_pos hb] at h ⊢; exact dv_snoc r _ u c h hc
    · rw [if_neg hb] at h; cases h
theorem dv_dec (u : Nat) : dv 0 (Go.Lib.decDigits u) = some u := by
  induction u using Nat.strongRecOn with
  | _ u ih =>
    by_cases h : u < 10
    · rw [Go.Lib.decDigits, dif_pos h]
      have := dg_of u h
      show (if isDg _ then some _ else none) = _
      rw [if_pos this.1, this.2]
      congr 1; omega
    · rw [Go.Lib.decDigits, dif_neg h]
      have := dg_of (u % 10) (by omega)
      rw [dv_snoc _ _ _ _ (ih (u / 10) (by omega)) this.1, this.2]
      congr 1; omega
theorem dv_pos : ∀ (l : List UInt8) (acc u : Nat), dv acc l = some u → u < (acc + 1) * 10 ^ l.length
  | [], acc, u, h => by
    obtain rfl := Option.some.inj h
    simp
  | c :: r, acc, u, h => by
    rw [dv] at h
    by_cases hc : isDg c
    · rw [if_pos hc] at h
      have := dv_pos r _ u h
      obtain ⟨h1, h2⟩ := hc
      have e : (acc * 10 + (c.toNat - 48) + 1) * 10 ^ r.length ≤ ((acc + 1) * 10) * 10 ^ r.length := Nat.mul_le_mul_right _ (by omega)
      rw [List.length_cons, Nat.pow_succ, Nat.mul_comm (10 ^ r.length) 10, ← Nat.mul_assoc]
      omega
    · rw [if_neg hc] at h; cases h
theorem dec_all (u : Nat) : ∀ c ∈ Go.Lib.decDigits u, isDg c := by
  induction u using Nat.strongRecOn with
  | _ u ih =>
    intro c hc
    by_cases h : u < 10
    · rw [Go.Lib.decDigits, dif_pos h, List.mem_singleton] at hc
      rw [hc]; exact (dg_of u h).1
    · rw [Go.Lib.decDigits, dif_neg h, List.mem_append, List.mem_singleton] at hc
      rcases hc with hc | hc
      · exact ih (u / 10) (by omega) c hc
      · rw [hc]; exact (dg_of _ (by omega)).1
theorem dec_len (u : Nat) : 1 ≤ (Go.Lib.decDigits u).length := by
  rw [Go.Lib.decDigits]
  split <;> simp
theorem dec_le : ∀ (n u : Nat), u < 10 ^ (n + 1) → (Go.Lib.decDigits u).length ≤ n + 1
  | 0, u, h => by rw [Go.Lib.decDigits, dif_pos (by simpa using h)]; simp
  | n + 1, u, h => by
    by_cases hu : u < 10
    · rw [Go.Lib.decDigits, dif_pos hu]; simp
    · rw [Go.Lib.decDigits, dif_neg hu, List.length_append]
      have := dec_le n (u / 10) (Nat.div_lt_of_lt_mul (by rw [Nat.mul_comm, ← Nat.pow_succ]; exact h))
      simp; omega
theorem dec_lt (u n : Nat) (h : (Go.Lib.decDigits u).length ≤ n) : u < 10 ^ n := by
  have h1 := dv_pos _ _ _ (dv_dec u)
  rw [Nat.zero_add, Nat.one_mul] at h1
  exact Nat.lt_of_lt_of_le h1 (Nat.pow_le_pow_right (by omega) h)
theorem dec_cons (u : Nat) : ∃ c r, Go.Lib.decDigits u = c :: r ∧ isDg c := by
  have h1 := dec_len u
  have h2 := dec_all u
  cases h : Go.Lib.decDigits u with
  | nil => rw [h] at h1; simp at h1
  | cons c r => exact ⟨c, r, rfl, h2 c (by rw [h]; simp)⟩
theorem par_dv : ∀ (l : List UInt8) (acc u j : Nat), dv acc l = some u → acc < 10 ^ j → j + l.length ≤ 18 → Go.Lib.parseUint10 acc l = .ok u
  | [], acc, u, j, h, _, _ => by
    obtain rfl := Option.some.inj h
    rfl
  | c :: r, acc, u, j, h, ha, hl => by
    rw [dv] at h
    by_cases hc : isDg c
    · rw [if_pos hc] at h
      rw [List.length_cons] at hl
      obtain ⟨h1, h2⟩ := hc
      have hq : 10 ^ (j + 1) = 10 ^ j * 10 := Nat.pow_succ ..
      have hj : 10 ^ (j + 1) ≤ 10 ^ 18 := Nat.pow_le_pow_right (by omega) (by omega)
      rw [Go.Lib.parseUint10, if_pos ⟨h1, h2⟩, if_neg (by omega), if_neg (by omega)]
      exact par_dv r _ u (j + 1) h (by omega) (by omega)
    · rw [if_neg hc] at h; cases h
theorem par_dec (u : Nat) (h : u < 1000000000) : Go.Lib.parseMag (Go.Lib.decDigits u) = .ok u := by
  have h1 := dec_len u
  have h2 := dec_le 8 u h
  unfold Go.Lib.parseMag
  rw [if_neg (by intro e; rw [e] at h1; simp at h1)]
  exact par_dv _ 0 u 0 (dv_dec u) (by omega) (by omega)
theorem atoi_ok (c : UInt8) (r : List UInt8) (u : Nat) (h : Go.Lib.parseMag (if c.toNat = 43 ∨ c.toNat = 45 then r else c :: r) = .ok u) : Go.Lib.atoiAll (c :: r) = (if ¬ c.toNat = 45 ∧ 9223372036854775808 ≤ u then .range else if c.toNat = 45 ∧ 9223372036854775808 < u then .range else .ok (if c.toNat = 45 then -(u : Int) else u)) := by
  unfold Go.Lib.atoiAll
  dsimp only
  rw [h]
theorem atoi_itoa (x : Int) (h : x.natAbs < 1000000000) : Go.Lib.atoiAll (Go.Lib.itoa x) = .ok x := by
  unfold Go.Lib.itoa
  by_cases c : x < 0
  · rw [if_pos c]
    rw [atoi_ok 45 _ x.natAbs (by rw [if_pos (by decide)]; exact par_dec _ h)]
    rw [if_neg (by simp), if_neg (by omega), if_pos (by decide)]
    congr 1; omega
  · rw [if_neg c]
    have e : x.toNat = x.natAbs := by omega
    rw [e]
    obtain ⟨b, r, hb, hd⟩ := dec_cons x.natAbs
    have hp := par_dec _ h
    rw [hb] at hp ⊢
    obtain ⟨d1, d2⟩ := hd
    rw [atoi_ok b r x.natAbs (by rw [if_neg (by omega)]; exact hp)]
    rw [if_neg (by omega), if_neg (by omega), if_neg (by omega)]
    congr 1; omega
theorem atoiX_bd (s : ByteArray) : -9223372036854775808 ≤ atoiX s ∧ atoiX s ≤ 9223372036854775807 := by
  unfold atoiX
  rcases h : Go.Lib.atoiAll s.data.toList with v | _ | _
  ·
    dsimp only
    unfold Go.Lib.atoiAll at h
    split at h
    · cases h
    · dsimp only at h
      split at h
      · cases h
      · cases h
      · split at h
        · cases h
        · split at h
          · cases h
          · injection h with h
            subst h
            split <;> omega
  · dsimp only; omega
  · unfold Go.Lib.atoiSat; dsimp only; split <;> exact ⟨by decide, by decide⟩
theorem itoaS_list (x : Int) : (itoaS x).data.toList = Go.Lib.itoa x := by simp [itoaS]
theorem atoi_S (x : Int) (h : x.natAbs < 1000000000) : atoiX (itoaS x) = x ∧ atoiOk (itoaS x) = true := by
  unfold atoiX atoiOk
  rw [itoaS_list, atoi_itoa x h]
  exact ⟨rfl, rfl⟩
theorem trim_itoa (x : Int) : trimS (itoaS x) ⟨#[45]⟩ = ⟨(Go.Lib.decDigits x.natAbs).toArray⟩ := by
  unfold trimS
  rw [itoaS_list]
  congr 2
  show Go.Lib.trimPrefix (Go.Lib.itoa x) [45] = _
  unfold Go.Lib.trimPrefix Go.Lib.itoa Go.Lib.hasPrefix
  by_cases c : x < 0
  · rw [if_pos c]; simp
  · rw [if_neg c, show x.toNat = x.natAbs by omega]
    obtain ⟨b, r, hb, hd⟩ := dec_cons x.natAbs
    rw [hb]
    have : ((45 : UInt8) == b) = false := by
      rw [beq_eq_false_iff_ne]
      rintro rfl
      exact absurd hd.1 (by decide)
    simp [List.isPrefixOf, this]
theorem ba_toList (s : ByteArray) : s.toList = s.data.toList := by
  exact ByteArray.toList_eq s
theorem bt_L {s : ByteArray} {i : Nat} {c : UInt8} (h : s.data.toList[i]? = some c) : bt s (i : Int) = (c.toNat : Int) ∧ i < s.size := by
  have hi : i < s.data.toList.length := by
    rcases Nat.lt_or_ge i s.data.toList.length with h1 | h1
    · exact h1
    · rw [List.getElem?_eq_none h1] at h; cases h
  have hs : i < s.size := by rw [Array.length_toList] at hi; exact hi
  refine ⟨?_, hs⟩
  unfold bt
  rw [dif_pos (by simpa using hs)]
  rw [List.getElem?_eq_getElem hi] at h
  have := Option.some.inj h
  rw [← this]
  simp
  rfl
theorem size_L (s : ByteArray) : s.data.toList.length = s.size := by rw [Array.length_toList]; rfl
def okN (s : ByteArray) : Bool := atoiOk s && (decide (((trimS s ⟨#[45]⟩).size : Int) ≤ 9) && ((itoaS (atoiX s)).toList == s.toList))
def IsN (s : ByteArray) (x : Int) : Prop := x.natAbs < 1000000000 ∧ s = itoaS x
theorem ba_ext {a b : ByteArray} (h : a.toList = b.toList) : a = b := ByteArray.ext (Array.toList_inj.1 (by rw [← ba_toList, ← ba_toList]; exact h))
theorem isN_ok {s : ByteArray} {x : Int} (h : IsN s x) : atoiX s = x ∧ okN s = true := by
  obtain ⟨h1, rfl⟩ := h
  obtain ⟨a1, a2⟩ := atoi_S x h1
  refine ⟨a1, ?_⟩
  unfold okN
  rw [a1, a2, trim_itoa]
  have h2 := dec_le 8 x.natAbs h1
  simp [ByteArray.size]
  omega
theorem okN_is {s : ByteArray} (h : okN s = true) : IsN s (atoiX s) := by
  unfold okN at h
  simp only [Bool.and_eq_true, decide_eq_true_eq, beq_iff_eq] at h
  obtain ⟨_, h2, h3⟩ := h
  have e := ba_ext h3
  have h4 : (trimS (itoaS (atoiX s)) ⟨#[45]⟩).size ≤ 9 := by rw [e]; omega
  rw [trim_itoa] at h4
  refine ⟨dec_lt _ 9 (by simpa [ByteArray.size] using h4), e.symm⟩
theorem impl_number (s : ByteArray) (h : s.size ≤ 1000000000) : impl_numberOf.f s = some (atoiX s, okN s) := by
  unfold impl_numberOf.f okN
  rw [if_pos h, if_pos (atoiX_bd s).1, if_pos (atoiX_bd s).2]
def rdD (l : List UInt8) : List UInt8 := match l with
  | [] => []
  | c :: r => if c.toNat = 45 then r else l
theorem rdD_cons (c : UInt8) (r : List UInt8) : rdD (c :: r) = if c.toNat = 45 then r else c :: r := rfl
def rdX (s : ByteArray) (u : Nat) : Int := if (rdD s.data.toList).length < s.size then -(u : Int) else u
def rdV (s : ByteArray) : Int × Bool := if 1 ≤ (rdD s.data.toList).length ∧ (rdD s.data.toList).length ≤ 9 then (match dv 0 (rdD s.data.toList) with
  | none => (0, false)
  | some u => (rdX s u, ((itoaS (rdX s u)).toList == s.toList))) else (0, false)
theorem read_l0 (s ds : ByteArray) (hd : ds.size ≤ 9) : ∀ (d k i : Nat) (acc : Nat), i + d = ds.size → d + 120 ≤ k → acc < 10 ^ i →
    spec_l02Read.l0 k s ds (acc : Int) (i : Int) = some (match dv acc (ds.data.toList.drop i) with
      | none => (0, false)
      | some u => if ds.size < s.size then (-(u : Int), ((itoaS (-(u : Int))).toList == s.toList)) else ((u : Int), ((itoaS (u : Int)).toList == s.toList))) := by
  intro d
  induction d with
  | zero =>
    intro k i acc hi hk ha
    obtain ⟨k, rfl⟩ : ∃ m, k = m + 1 := ⟨k - 1, by omega⟩
    have hp : 10 ^ i ≤ 10 ^ 9 := Nat.pow_le_pow_right (by omega) (by omega)
    rw [spec_l02Read.l0, List.drop_of_length_le (by rw [size_L]; omega)]
    refine ifn (by omega) ?_
    dsimp only [dv]
    by_cases c : ds.size < s.size
    · refine ifp (by omega) ?_
      rw [w64 (x := -(acc : Int)) (by omega) (by omega), spec_num k _ (by omega) (by omega) (by omega)]
      rw [if_pos c]; rfl
    · refine ifn (by omega) ?_
      rw [spec_num k _ (by omega) (by omega) (by omega)]
      rw [if_neg c]; rfl
  | succ d ih =>
    intro k i acc hi hk ha
    obtain ⟨k, rfl⟩ : ∃ m, k = m + 1 := ⟨k - 1, by omega⟩
    have hil : i < ds.data.toList.length := by rw [size_L]; omega
    have hb := bt_L (s := ds) (List.getElem?_eq_getElem hil)
    have hp : 10 ^ (i + 1) = 10 ^ i * 10 := Nat.pow_succ ..
    have hq : 10 ^ (i + 1) ≤ 10 ^ 9 := Nat.pow_le_pow_right (by omega) (by omega)
    rw [spec_l02Read.l0, List.drop_eq_getElem_cons hil]
    refine ifp (by omega) (ifp (by omega) ?_)
    rw [hb.1, dv]
    generalize ds.data.toList[i] = c at hb
    by_cases h1 : c.toNat < 48
    · refine ifp (by omega) ?_
      rw [if_neg (by unfold isDg; omega)]
    · refine ifn (by omega) ?_
      by_cases h2 : 57 < c.toNat
      · refine ifp (by omega) ?_
        rw [if_neg (by unfold isDg; omega)]
      · refine ifn (by omega) ?_
        rw [if_pos (show isDg c from ⟨by omega, by omega⟩)]
        have g := ih k (i + 1) (acc * 10 + (c.toNat - 48)) (by omega) (by omega) (by omega)
        rw [w64 (x := 10 * (acc : Int)) (by omega) (by omega), w64 (x := (c.toNat : Int)) (by omega) (by omega), w64 (x := 10 * (acc : Int) + (c.toNat : Int)) (by omega) (by omega), w64 (x := 10 * (acc : Int) + (c.toNat : Int) - 48) (by omega) (by omega), w64 (x := (i : Int) + 1) (by omega) (by omega)]
        rw [show 10 * (acc : Int) + (c.toNat : Int) - 48 = ((acc * 10 + (c.toNat - 48) : Nat) : Int) by omega, show (i : Int) + 1 = ((i + 1 : Nat) : Int) by omega]
        exact g
theorem spec_read_j1 (k : Nat) (s ds : ByteArray) (hk : 200 ≤ k) (hds : ds.data.toList = rdD s.data.toList) : spec_l02Read.j1 k s ds = some (rdV s) := by
  obtain ⟨k, rfl⟩ : ∃ m, k = m + 1 := ⟨k - 1, by omega⟩
  have hl : (rdD s.data.toList).length = ds.size := by rw [← hds, size_L]
  rw [spec_l02Read.j1, spec_in, Option.bind_some]
  unfold rdV rdX
  rw [hl]
  by_cases c : (1 : Int) ≤ (ds.size : Int) ∧ (ds.size : Int) ≤ 9
  · rw [decide_eq_true c, if_pos rfl, if_pos (by omega)]
    have g := read_l0 s ds (by omega) ds.size k 0 0 (by omega) (by omega) (by simp)
    rw [List.drop_zero, hds] at g
    refine g.trans ?_
    congr 1
    cases dv 0 (rdD s.data.toList) with
    | none => rfl
    | some u =>
      dsimp only
      split <;> rfl
  · rw [decide_eq_false c, if_neg (by simp), if_neg (by omega)]
theorem spec_read (k : Nat) (s : ByteArray) (hk : 300 ≤ k) (hs : s.size ≤ 1000000000) : spec_l02Read.f k s = some (rdV s) := by
  unfold spec_l02Read.f
  obtain ⟨k, rfl⟩ : ∃ m, k = m + 1 := ⟨k - 1, by omega⟩
  cases h : s.data.toList with
  | nil =>
    have h0 : s.size = 0 := by rw [← size_L, h]; rfl
    refine ifn (by omega) ?_
    rw [spec_l02Read.j0, if_neg (by simp)]
    exact spec_read_j1 k s s (by omega) (by rw [h]; rfl)
  | cons c r =>
    have h0 : s.size = r.length + 1 := by rw [← size_L, h]; rfl
    have hb := bt_L (s := s) (i := 0) (c := c) (by rw [h]; rfl)
    refine ifp (by omega) (ifp (by omega) ?_)
    rw [spec_l02Read.j0, show bt s 0 = (c.toNat : Int) from hb.1]
    by_cases c0 : c.toNat = 45
    · refine ifp (by rw [c0]; rfl) (ifp (by omega) ?_)
      refine spec_read_j1 k s _ (by omega) ?_
      rw [Go.Lib.extract_data, h]
      rw [rdD_cons, if_pos c0, h0]
      simp
    · refine ifn (by simp; omega) ?_
      refine spec_read_j1 k s s (by omega) ?_
      rw [h]
      rw [rdD_cons, if_neg c0]
theorem rdV_is {s : ByteArray} (h : (rdV s).2 = true) : IsN s (rdV s).1 := by
  unfold rdV at h ⊢
  split at h
  · rename_i hl
    rw [if_pos hl]
    cases hu : dv 0 (rdD s.data.toList) with
    | none => rw [hu] at h; cases h
    | some u =>
      rw [hu] at h
      dsimp only at h ⊢
      have := dv_pos _ _ _ hu
      have hp : 10 ^ (rdD s.data.toList).length ≤ 10 ^ 9 := Nat.pow_le_pow_right (by omega) hl.2
      refine ⟨?_, (ba_ext (beq_iff_eq.1 h)).symm⟩
      unfold rdX
      split <;> omega
  · cases h
theorem isN_rd {s : ByteArray} {x : Int} (h : IsN s x) : rdV s = (x, true) := by
  obtain ⟨h1, rfl⟩ := h
  have hd : rdD (itoaS x).data.toList = Go.Lib.decDigits x.natAbs := by
    rw [itoaS_list]
    unfold Go.Lib.itoa
    by_cases c : x < 0
    · rw [if_pos c]; rfl
    · rw [if_neg c, show x.toNat = x.natAbs by omega]
      obtain ⟨b, r, hb, hg⟩ := dec_cons x.natAbs
      obtain ⟨g1, g2⟩ := hg
      rw [hb]
      rw [rdD_cons, if_neg (by omega)]
  have hs : (itoaS x).size = (Go.Lib.itoa x).length := by rw [← size_L, itoaS_list]
  have hx : rdX (itoaS x) x.natAbs = x := by
    unfold rdX
    rw [hd, hs]
    unfold Go.Lib.itoa
    by_cases c : x < 0
    · rw [if_pos c, if_pos (by simp)]; omega
    · rw [if_neg c, show x.toNat = x.natAbs by omega, if_neg (by omega)]; omega
  unfold rdV
  rw [hd, if_pos ⟨dec_len _, dec_le 8 _ h1⟩, dv_dec]
  dsimp only
  rw [hx, beq_self_eq_true]
theorem rd_okN (s : ByteArray) : (rdV s).2 = okN s ∧ (okN s = true → (rdV s).1 = atoiX s) := by
  by_cases h : okN s = true
  · have := isN_rd (okN_is h)
    rw [this, h]
    exact ⟨rfl, fun _ => rfl⟩
  · refine ⟨?_, fun c => absurd c h⟩
    by_cases h2 : (rdV s).2 = true
    · exact absurd (isN_ok (rdV_is h2)).2 h
    · rw [Bool.not_eq_true] at h h2
      rw [h, h2]
def numW (s : ByteArray) : Option Int := if (rdV s).2 = true then some (rdV s).1 else none
def numsW : List ByteArray → Option (List Int)
  | [] => some []
  | s :: r => (numW s).bind fun x => (numsW r).bind fun l => some (x :: l)
theorem spec_nums_l0 (ws : List ByteArray) (hl : ws.length ≤ 2000000000) (hs : ∀ s ∈ ws, s.size ≤ 1000000000) : ∀ (d k i : Nat) (acc : List Int), i + d = ws.length → d + 400 ≤ k → acc.length = i →
    spec_l10Numbers.l0 k ws acc (i : Int) = some (match numsW (ws.drop i) with
      | none => ([], false)
      | some l => (acc ++ l, true)) := by
  intro d
  induction d with
  | zero =>
    intro k i acc hi hk ha
    obtain ⟨k, rfl⟩ : ∃ m, k = m + 1 := ⟨k - 1, by omega⟩
    rw [spec_l10Numbers.l0, List.drop_of_length_le (by omega)]
    refine ifn (by omega) ?_
    simp [numsW]
  | succ d ih =>
    intro k i acc hi hk ha
    obtain ⟨k, rfl⟩ : ∃ m, k = m + 1 := ⟨k - 1, by omega⟩
    have hil : i < ws.length := by omega
    have hr : rdOf ByteArray.empty ws (i : Int) = ws[i] := by simp [rdOf, List.getD_eq_getElem?_getD, hil]
    rw [spec_l10Numbers.l0, List.drop_eq_getElem_cons hil]
    refine ifp (by omega) (ifp (by omega) ?_)
    rw [hr, spec_read k _ (by omega) (hs _ (List.getElem_mem hil)), Option.bind_some]
    unfold numsW numW
    by_cases c : (rdV ws[i]).2 = true
    · refine ifp c (ifp (by omega) ?_)
      rw [if_pos c, Option.bind_some, w64 (x := (i : Int) + 1) (by omega) (by omega), show (i : Int) + 1 = ((i + 1 : Nat) : Int) by omega, ih k (i + 1) _ (by omega) (by omega) (by simp [ha])]
      cases numsW (ws.drop (i + 1)) with
      | none => rfl
      | some l => simp
    · refine ifn c ?_
      rw [if_neg c]
      rfl
theorem spec_nums (k : Nat) (ws : List ByteArray) (hl : ws.length ≤ 2000000000) (hs : ∀ s ∈ ws, s.size ≤ 1000000000) (hk : 2000000500 ≤ k) : spec_l10Numbers.f k ws = some (match numsW ws with
      | none => ([], false)
      | some l => (l, true)) := by
  have := spec_nums_l0 ws hl hs ws.length k 0 [] (by omega) (by omega) rfl
  unfold spec_l10Numbers.f
  simpa using this
theorem impl_nums_l0 (m : Int) (ws : List ByteArray) (hl : ws.length ≤ 2000000000) (hs : ∀ s ∈ ws, s.size ≤ 1000000000) : ∀ (d k i : Nat) (acc : List Int), i + d = ws.length → d + 400 ≤ k → acc.length = i →
    impl_numbersOf.l0 k m acc ws (ws.length : Int) (i : Int) = some (match numsW (ws.drop i) with
      | none => ([], false)
      | some l => (acc ++ l, (((acc ++ l).length : Int) == m))) := by
  intro d
  induction d with
  | zero =>
    intro k i acc hi hk ha
    obtain ⟨k, rfl⟩ : ∃ m, k = m + 1 := ⟨k - 1, by omega⟩
    rw [impl_numbersOf.l0, List.drop_of_length_le (by omega)]
    refine ifn (by omega) ?_
    simp [numsW]
  | succ d ih =>
    intro k i acc hi hk ha
    obtain ⟨k, rfl⟩ : ∃ m, k = m + 1 := ⟨k - 1, by omega⟩
    have hil : i < ws.length := by omega
    have hr : rdOf ByteArray.empty ws (i : Int) = ws[i] := by simp [rdOf, List.getD_eq_getElem?_getD, hil]
    rw [impl_numbersOf.l0, List.drop_eq_getElem_cons hil]
    refine ifp (by omega) (ifp (by omega) (ifp (by omega) ?_))
    rw [hr, impl_number _ (hs _ (List.getElem_mem hil)), Option.bind_some]
    obtain ⟨r1, r2⟩ := rd_okN ws[i]
    unfold numsW numW
    by_cases c : okN ws[i] = true
    · refine ifp c (ifp (by omega) ?_)
      rw [r1, if_pos c, Option.bind_some, r2 c, w64 (x := (i : Int) + 1) (by omega) (by omega), show (i : Int) + 1 = ((i + 1 : Nat) : Int) by omega, ih k (i + 1) _ (by omega) (by omega) (by simp [ha])]
      cases numsW (ws.drop (i + 1)) with
      | none => rfl
      | some l => simp
    · refine ifn c ?_
      rw [r1, if_neg c]
      rfl
theorem impl_nums (k : Nat) (m : Int) (ws : List ByteArray) (hl : ws.length ≤ 2000000000) (hs : ∀ s ∈ ws, s.size ≤ 1000000000) (hk : 2000000500 ≤ k) : impl_numbersOf.f k ws m = some (match numsW ws with
      | none => ([], false)
      | some l => (l, ((l.length : Int) == m))) := by
  have := impl_nums_l0 m ws hl hs ws.length k 0 [] (by omega) (by omega) rfl
  unfold impl_numbersOf.f
  simpa using this

abbrev mkB (l : List UInt8) : ByteArray := ⟨l.toArray⟩
theorem occ1 (L : List UInt8) (b : UInt8) (j : Nat) : Go.Lib.occAt L [b] j = true ↔ L[j]? = some b := by
  unfold Go.Lib.occAt
  rcases Nat.lt_or_ge j L.length with h | h
  · rw [List.drop_eq_getElem_cons h, List.getElem?_eq_getElem h]
    simp only [List.isPrefixOf, Bool.and_true, beq_iff_eq, Option.some.injEq]
    exact ⟨Eq.symm, Eq.symm⟩
  · rw [List.drop_of_length_le h, List.getElem?_eq_none h]
    simp [List.isPrefixOf]
theorem parts_l0 (t : ByteArray) (b : UInt8) (hm : t.size ≤ 1000000000) : ∀ (d k i a : Nat) (acc : List ByteArray), i + d = t.size → a ≤ i → d + 5 ≤ k → acc.length ≤ i → (∀ j, a ≤ j → j < i → Go.Lib.occAt t.data.toList [b] j = false) →
    spec_l02Parts.l0 k t (b.toNat : Int) acc (a : Int) (i : Int) = some (acc ++ (Go.Lib.split (t.data.toList.drop a) [b]).map mkB) := by
  intro d
  induction d with
  | zero =>
    intro k i a acc hi ha hk hl ho
    obtain ⟨k, rfl⟩ : ∃ m, k = m + 1 := ⟨k - 1, by omega⟩
    obtain ⟨k, rfl⟩ : ∃ m, k = m + 1 := ⟨k - 1, by omega⟩
    have e := splitS_last (t := t) (sep := ⟨#[b]⟩) (f := a) (by omega) (fun j h1 h2 => by
      rcases Nat.lt_or_ge j i with h | h
      · exact ho j h1 h
      · rw [Bool.eq_false_iff]
        intro h3
        have h4 := (occ1 t.data.toList b j).1 h3
        rw [List.getElem?_eq_none (by rw [size_L]; omega)] at h4
        cases h4)
    rw [spec_l02Parts.l0]
    refine ifp (by omega) (ifp (by omega) (ifp (by omega) (ifp (by omega) (ifp (by omega) ?_))))
    rw [spec_l02Parts.l0, w64 (x := (i : Int) + 1) (by omega) (by omega)]
    refine ifn (by omega) ?_
    have e2 : (Go.Lib.split (t.data.toList.drop a) [b]).map mkB = [t.extract a t.size] := e
    rw [e2, Int.toNat_natCast, Int.toNat_natCast, show i = t.size by omega]
  | succ d ih =>
    intro k i a acc hi ha hk hl ho
    obtain ⟨k, rfl⟩ : ∃ m, k = m + 1 := ⟨k - 1, by omega⟩
    have hil : i < t.data.toList.length := by rw [size_L]; omega
    have hb := bt_L (s := t) (List.getElem?_eq_getElem hil)
    rw [spec_l02Parts.l0]
    refine ifp (by omega) (ifn (by omega) (ifp (by omega) (ifp (by omega) ?_)))
    rw [hb.1]
    by_cases c : t.data.toList[i] = b
    · refine ifp (by rw [c]) (ifp (by omega) (ifp (by omega) (ifp (by omega) ?_)))
      have e := splitS_next (t := t) (sep := ⟨#[b]⟩) (f := a) (i := i) (by simp [ByteArray.size]) ha (by omega) ((occ1 t.data.toList b i).2 (by rw [List.getElem?_eq_getElem hil, c])) ho
      have e2 : (Go.Lib.split (t.data.toList.drop a) [b]).map mkB = t.extract a i :: (Go.Lib.split (t.data.toList.drop (i + 1)) [b]).map mkB := e
      rw [w64 (x := (i : Int) + 1) (by omega) (by omega), show (i : Int) + 1 = ((i + 1 : Nat) : Int) by omega, ih k (i + 1) (i + 1) _ (by omega) (Nat.le_refl _) (by omega) (by simp; omega) (fun j h1 h2 => by omega), e2, Int.toNat_natCast, Int.toNat_natCast]
      simp
    · refine ifn (by intro h; exact c (UInt8.toNat_inj.1 (by omega))) ?_
      rw [w64 (x := (i : Int) + 1) (by omega) (by omega), show (i : Int) + 1 = ((i + 1 : Nat) : Int) by omega]
      refine ih k (i + 1) a acc (by omega) (by omega) (by omega) (by omega) fun j h1 h2 => ?_
      by_cases hj : j = i
      · subst hj
        rw [Bool.eq_false_iff]
        intro h3
        have h4 := (occ1 t.data.toList b j).1 h3
        rw [List.getElem?_eq_getElem hil] at h4
        exact c (Option.some.inj h4)
      · exact ho j h1 (by omega)
theorem spec_parts (k : Nat) (t : ByteArray) (b : UInt8) (hm : t.size ≤ 1000000000) (hk : t.size + 10 ≤ k) : spec_l02Parts.f k t (b.toNat : Int) = some (splitS t ⟨#[b]⟩) := by
  have := parts_l0 t b hm t.size k 0 0 [] (by omega) (by omega) (by omega) (by simp) (fun j h1 h2 => by omega)
  unfold spec_l02Parts.f
  rw [splitS_L]
  refine this.trans ?_
  simp
theorem impl_split (t sep : ByteArray) (h1 : t.size < 4294967281) (h2 : 1 ≤ sep.size) : strings_Split.f t sep = some (splitS t sep) := by
  unfold strings_Split.f
  rw [if_pos h1, if_pos h2]
def S3 : ByteArray := ⟨#[32, 62, 32]⟩
theorem occ3 (t : ByteArray) (j : Nat) (hj : j + 3 ≤ t.size) : Go.Lib.occAt t.data.toList [32, 62, 32] j = decide ((t.extract j (j + 3)).toList = [32, 62, 32]) := by
  rw [ba_toList, Go.Lib.extract_data]
  unfold Go.Lib.occAt
  rw [show j + 3 - j = 3 by omega]
  have hl : 3 ≤ (t.data.toList.drop j).length := by rw [List.length_drop, size_L]; omega
  generalize t.data.toList.drop j = l at hl
  match l, hl with
  | a :: b :: c :: r, _ => simp [List.isPrefixOf, eq_comm, Bool.and_assoc, Bool.beq_eq_decide_eq]
theorem occ3_end (t : ByteArray) (j : Nat) (hj : t.size < j + 3) : Go.Lib.occAt t.data.toList [32, 62, 32] j = false := by
  unfold Go.Lib.occAt
  have hl : (t.data.toList.drop j).length < 3 := by rw [List.length_drop, size_L]; omega
  generalize t.data.toList.drop j = l at hl
  match l, hl with
  | [], _ => rfl
  | [a], _ => simp [List.isPrefixOf]
  | [a, b], _ => simp [List.isPrefixOf]
def ppC (k : Nat) (ps : List ByteArray) : Option (Int × Int × Int × (List S55) × Bool) := if 0 < (ps.length : Int) then ((spec_l02Parts.f k (rdOf ByteArray.empty ps 0) 120).bind fun t272 => ((spec_l10Numbers.f k t272).bind fun bt275 => (if bt275.2 = true then (spec_ParsePlan.j1 k ps bt275.1 ((bt275.1.length : Int) != 3) 0 0 0) else (spec_ParsePlan.j1 k ps bt275.1 true 0 0 0)))) else none
theorem pieces_l0 (t : ByteArray) (hm : t.size ≤ 1000000) (r : Option (Int × Int × Int × (List S55) × Bool)) (K : Nat) (hC : ∀ k, K ≤ k → ppC k (splitS t S3) = r) : ∀ (d k i a : Nat) (acc : List ByteArray), t.size ≤ i + d → a ≤ i → i ≤ t.size → d + 5 + K ≤ k → acc.length ≤ i →
    (∀ j, a ≤ j → j < i → Go.Lib.occAt t.data.toList [32, 62, 32] j = false) → acc ++ (Go.Lib.split (t.data.toList.drop a) [32, 62, 32]).map mkB = splitS t S3 → spec_ParsePlan.l0 k t acc (a : Int) (i : Int) 0 0 0 = r := by
  intro d
  induction d with
  | zero =>
    intro k i a acc hi ha hit hk hl ho he
    obtain ⟨k, rfl⟩ : ∃ m, k = m + 1 := ⟨k - 1, by omega⟩
    have e := splitS_last (t := t) (sep := S3) (f := a) (by omega) (fun j h1 h2 => by
      rcases Nat.lt_or_ge j i with h | h
      · exact ho j h1 h
      · exact occ3_end t j (by omega))
    have e2 : (Go.Lib.split (t.data.toList.drop a) [32, 62, 32]).map mkB = [t.extract a t.size] := e
    rw [spec_ParsePlan.l0, w64 (x := (i : Int) + 3) (by omega) (by omega)]
    refine ifn (by omega) (ifp (by omega) (ifp (by omega) (ifp (by omega) ?_)))
    rw [Option.bind_some, Int.toNat_natCast, ← e2, he]
    exact hC k (by omega)
  | succ d ih =>
    intro k i a acc hi ha hit hk hl ho he
    obtain ⟨k, rfl⟩ : ∃ m, k = m + 1 := ⟨k - 1, by omega⟩
    by_cases c : i + 3 ≤ t.size
    · rw [spec_ParsePlan.l0, w64 (x := (i : Int) + 3) (by omega) (by omega)]
      have h3 := occ3 t i c
      refine ifp (by omega) (ifp (by omega) (ifp (by omega) ?_))
      rw [Int.toNat_natCast, show ((i : Int) + 3).toNat = i + 3 by omega]
      by_cases c3 : (t.extract i (i + 3)).toList = [32, 62, 32]
      · refine ifp c3 (ifp (by omega) (ifp (by omega) (ifp (by omega) (ifp (by omega) ?_))))
        rw [decide_eq_true c3] at h3
        have e := splitS_next (t := t) (sep := S3) (f := a) (i := i) (by decide) ha (by omega) h3 ho
        have e2 : (Go.Lib.split (t.data.toList.drop a) [32, 62, 32]).map mkB = t.extract a i :: (Go.Lib.split (t.data.toList.drop (i + 3)) [32, 62, 32]).map mkB := e
        rw [w64 (x := (i : Int) + 2) (by omega) (by omega), w64 (x := (i : Int) + 2 + 1) (by omega) (by omega), show (i : Int) + 2 + 1 = ((i + 3 : Nat) : Int) by omega, show (i : Int) + 3 = ((i + 3 : Nat) : Int) by omega, Int.toNat_natCast]
        refine ih k (i + 3) (i + 3) _ (by omega) (Nat.le_refl _) c (by omega) (by simp; omega) (fun j h1 h2 => by omega) ?_
        rw [← he, e2]
        simp
      · refine ifn c3 ?_
        rw [decide_eq_false c3] at h3
        rw [w64 (x := (i : Int) + 1) (by omega) (by omega), show (i : Int) + 1 = ((i + 1 : Nat) : Int) by omega]
        refine ih k (i + 1) a acc (by omega) (by omega) (by omega) (by omega) (by omega) (fun j h1 h2 => ?_) he
        by_cases hj : j = i
        · subst hj; exact h3
        · exact ho j h1 (by omega)
    · have e := splitS_last (t := t) (sep := S3) (f := a) (by omega) (fun j h1 h2 => by
        rcases Nat.lt_or_ge j i with h | h
        · exact ho j h1 h
        · exact occ3_end t j (by omega))
      have e2 : (Go.Lib.split (t.data.toList.drop a) [32, 62, 32]).map mkB = [t.extract a t.size] := e
      rw [spec_ParsePlan.l0, w64 (x := (i : Int) + 3) (by omega) (by omega)]
      refine ifn (by omega) (ifp (by omega) (ifp (by omega) (ifp (by omega) ?_)))
      rw [Option.bind_some, Int.toNat_natCast, ← e2, he]
      exact hC k (by omega)

def isB (x : Int) : Bool := decide (-1000000 ≤ x ∧ x ≤ 1000000)
def scV (o mu sh z : Int) (ws bs : List Int) : Bool := decide (1 ≤ o ∧ o ≤ 8) && (decide (0 ≤ mu ∧ mu ≤ 2147483647) && (decide (0 ≤ sh ∧ sh ≤ 31) && (is8 z && (decide ((bs.length : Int) = o) && (bs.all isB && ws.all is8)))))
def brV (o mu sh : Int) (ws bs : List Int) : Bool := decide (o = 0) && (decide (mu = 0) && (decide (sh = 0) && (decide (ws.length = 0) && decide (bs.length = 0))))
theorem all_dropB (l : List Int) (i : Nat) (h : i < l.length) : (l.drop i).all isB = (isB (l.getD i 0) && (l.drop (i + 1)).all isB) := by
  rw [drop_getD l 0 i h]; rfl
theorem spec_plain_l1 (kd o s sp mu sh z : Int) (ws bs : List Int) (hm : ws.length ≤ 1048576) : ∀ (d k i : Nat), i + d = ws.length → d < k → spec_l03Plain.l1 k (i : Int) kd o s sp mu sh z ws bs = some ((ws.drop i).all is8) := by
  intro d
  induction d with
  | zero =>
    intro k i hi hk
    obtain ⟨k, rfl⟩ : ∃ m, k = m + 1 := ⟨k - 1, by omega⟩
    rw [spec_l03Plain.l1, List.drop_of_length_le (by omega)]
    exact ifn (by omega) rfl
  | succ d ih =>
    intro k i hi hk
    obtain ⟨k, rfl⟩ : ∃ m, k = m + 1 := ⟨k - 1, by omega⟩
    rw [spec_l03Plain.l1, all_drop8 ws i (by omega), w64_succ i (by omega), rd_natD, spec_int8]
    refine ifp (by omega) (ifp (by omega) (st rfl ?_))
    cases is8 (ws.getD i 0) with
    | true => rw [Bool.true_and]; exact ifp rfl (ih k (i + 1) (by omega) (by omega))
    | false => exact ifn (by simp) rfl
theorem spec_plain_l0 (kd o s sp mu sh z : Int) (ws bs : List Int) (hm : ws.length ≤ 1048576) (hb : bs.length ≤ 1048576) : ∀ (d k i : Nat), i + d = bs.length → d + ws.length + 2 < k → spec_l03Plain.l0 k (i : Int) kd o s sp mu sh z ws bs = some ((bs.drop i).all isB && ws.all is8) := by
  intro d
  induction d with
  | zero =>
    intro k i hi hk
    obtain ⟨k, rfl⟩ : ∃ m, k = m + 1 := ⟨k - 1, by omega⟩
    rw [spec_l03Plain.l0, List.drop_of_length_le (by omega)]
    exact ifn (by omega) (spec_plain_l1 kd o s sp mu sh z ws bs hm ws.length k 0 (by omega) (by omega))
  | succ d ih =>
    intro k i hi hk
    obtain ⟨k, rfl⟩ : ∃ m, k = m + 1 := ⟨k - 1, by omega⟩
    rw [spec_l03Plain.l0, all_dropB bs i (by omega), w64_succ i (by omega), rd_natD, spec_in]
    refine ifp (by omega) (ifp (by omega) (st rfl ?_))
    have e : isB (bs.getD i 0) = decide (-1000000 ≤ bs.getD i 0 ∧ bs.getD i 0 ≤ 1000000) := rfl
    rw [← e]
    cases isB (bs.getD i 0) with
    | true => rw [Bool.true_and]; exact ifp rfl (ih k (i + 1) (by omega) (by omega))
    | false => exact ifn (by simp) rfl
def plV (kd o s sp mu sh z : Int) (ws bs : List Int) (win wei : Bool) : Bool :=
  (if win = true then decide (1 ≤ s ∧ s ≤ 3) && decide (1 ≤ sp ∧ sp ≤ 2) else decide (s = 0) && decide (sp = 0)) && (if wei = true then scV o mu sh z ws bs else brV o mu sh ws bs && (if kd = 4 then is8 z else decide (z = 0)))
theorem spec_plain_j1 (k : Nat) (kd o s sp mu sh z : Int) (ws bs : List Int) (hm : ws.length ≤ 1048576) (hb : bs.length ≤ 1048576) (hk : bs.length + ws.length + 5 < k) (x : Bool) : spec_l03Plain.j1 k x kd o s sp mu sh z ws bs = some (!x && (bs.all isB && ws.all is8)) := by
  obtain ⟨k, rfl⟩ : ∃ m, k = m + 1 := ⟨k - 1, by omega⟩
  rw [spec_l03Plain.j1]
  cases x with
  | true => exact ifp rfl rfl
  | false =>
    refine ifn (by simp) ?_
    have h := spec_plain_l0 kd o s sp mu sh z ws bs hm hb bs.length k 0 (by omega) (by omega)
    rw [List.drop_zero] at h
    exact h
theorem spec_plain_j4 (k : Nat) (hk : 1 ≤ k) (kd o s sp mu sh z : Int) (ws bs : List Int) (x : Bool) : spec_l03Plain.j4 k x kd o s sp mu sh z ws bs = some (!x && (if kd = 4 then is8 z else decide (z = 0))) := by
  obtain ⟨k, rfl⟩ : ∃ m, k = m + 1 := ⟨k - 1, by omega⟩
  rw [spec_l03Plain.j4]
  cases x with
  | true => exact ifp rfl rfl
  | false =>
    refine ifn (by simp) ?_
    by_cases c : kd = 4
    · rw [if_pos c, if_pos c, spec_int8]; rfl
    · rw [if_neg c, if_neg c]
      by_cases e : z = 0
      · subst e; rfl
      · rw [decide_eq_false e]; simp [e]
theorem spec_plain_j0 (k : Nat) (kd o s sp mu sh z : Int) (ws bs : List Int) (hm : ws.length ≤ 1048576) (hb : bs.length ≤ 1048576) (hk : bs.length + ws.length + 10 < k) (x : Bool) : spec_l03Plain.j0 k x kd o s sp mu sh z ws bs = some (if x = true then scV o mu sh z ws bs else brV o mu sh ws bs && (if kd = 4 then is8 z else decide (z = 0))) := by
  obtain ⟨k, rfl⟩ : ∃ m, k = m + 1 := ⟨k - 1, by omega⟩
  have J1 := spec_plain_j1 k kd o s sp mu sh z ws bs hm hb (by omega)
  have J4 := spec_plain_j4 k (by omega) kd o s sp mu sh z ws bs
  rw [spec_l03Plain.j0]
  simp only [J1, J4, spec_in, spec_int8, Option.bind_some, scV, brV]
  cases x with
  | true =>
    rw [if_pos rfl, if_pos rfl]
    by_cases h1 : 1 ≤ o ∧ o ≤ 8
    · by_cases h2 : 0 ≤ mu ∧ mu ≤ 2147483647
      · by_cases h3 : 0 ≤ sh ∧ sh ≤ 31
        · cases h4 : is8 z with
          | true =>
            by_cases h5 : (bs.length : Int) = o
            · simp only [h1, h2, h3, h5, decide_true, and_self, if_true, Bool.true_and, bne_self_eq_false, Bool.not_false]
            · have e : ((bs.length : Int) != o) = true := by simp [h5]
              simp only [h1, h2, h3, h5, e, decide_true, decide_false, and_self, if_true, Bool.true_and, Bool.false_and, Bool.not_true]
          | false => simp only [h1, h2, h3, decide_true, and_self, if_true, Bool.true_and, Bool.false_and, Bool.not_true, Bool.false_eq_true, if_false]
        · simp only [h1, h2, h3, decide_true, decide_false, and_self, if_true, Bool.true_and, Bool.false_and, Bool.not_true, Bool.false_eq_true, if_false]
      · simp only [h1, h2, decide_true, decide_false, and_self, if_true, Bool.true_and, Bool.false_and, Bool.not_true, Bool.false_eq_true, if_false]
    · simp only [h1, decide_false, Bool.false_and, Bool.not_true, Bool.false_eq_true, if_false]
  | false =>
    simp only [Bool.false_eq_true, if_false]
    by_cases h1 : o = 0
    · by_cases h2 : mu = 0
      · by_cases h3 : sh = 0
        · by_cases h4 : ws.length = 0
          · have e4 : ¬ (ws.length : Int) > 0 := by omega
            by_cases h5 : bs.length = 0
            · have e5 : ¬ (bs.length : Int) > 0 := by omega
              simp only [h1, h2, h3, h4, h5, e4, e5, decide_true, decide_false, if_true, if_false, Bool.true_and, Bool.not_false]
              simp
            · have e5 : (bs.length : Int) > 0 := by omega
              simp only [h1, h2, h3, h4, h5, e4, e5, decide_true, decide_false, if_true, if_false, Bool.true_and, Bool.false_and, Bool.not_true]
              simp
          · have e4 : (ws.length : Int) > 0 := by omega
            simp only [h1, h2, h3, h4, e4, decide_true, decide_false, if_true, Bool.true_and, Bool.false_and, Bool.not_true]
        · simp only [h1, h2, h3, decide_true, decide_false, if_true, if_false, Bool.true_and, Bool.false_and, Bool.not_true]
      · simp only [h1, h2, decide_true, decide_false, if_true, if_false, Bool.true_and, Bool.false_and, Bool.not_true]
    · simp only [h1, decide_false, if_false, Bool.false_and, Bool.not_true]
theorem spec_plain (k : Nat) (kd o s sp mu sh z : Int) (ws bs : List Int) (hm : ws.length ≤ 1048576) (hb : bs.length ≤ 1048576) (hk : bs.length + ws.length + 10 < k) (win wei : Bool) : spec_l03Plain.f k kd o s sp mu sh z ws bs win wei = some (plV kd o s sp mu sh z ws bs win wei) := by
  have J0 := spec_plain_j0 k kd o s sp mu sh z ws bs hm hb hk wei
  unfold spec_l03Plain.f plV
  simp only [J0, spec_in, Option.bind_some]
  cases win with
  | true =>
    rw [if_pos rfl, if_pos rfl]
    by_cases h1 : 1 ≤ s ∧ s ≤ 3
    · by_cases h2 : 1 ≤ sp ∧ sp ≤ 2
      · simp only [h1, h2, decide_true, and_self, if_true, Bool.true_and]
      · simp only [h1, h2, decide_true, decide_false, and_self, if_true, Bool.true_and, Bool.false_and, Bool.false_eq_true, if_false]
    · simp only [h1, decide_false, Bool.false_and, Bool.false_eq_true, if_false]
  | false =>
    simp only [Bool.false_eq_true, if_false]
    by_cases h1 : s = 0
    · by_cases h2 : sp = 0
      · simp only [h1, h2, decide_true, if_true, Bool.true_and]
      · simp only [h1, h2, decide_true, decide_false, if_true, if_false, Bool.true_and, Bool.false_and]
    · simp only [h1, decide_false, if_false, Bool.false_and]
def wn (h s sp : Int) : Int := wrap64 (wrap64 (Int.tdiv (wrap64 (h - s)) sp) + 1)
def winV (h w s sp : Int) : Bool := decide (1 ≤ s ∧ s ≤ 3) && (decide (1 ≤ sp ∧ sp ≤ 2) && (decide (s ≤ h) && decide (s ≤ w)))
def outOk (h w c kd o s sp mu sh z : Int) (ws bs : List Int) : Bool :=
  shOk h w c && (if kd = 0 then (decide (s = 0) && decide (sp = 0)) && (scV o mu sh z ws bs && (decide (szN h w c ≤ 64) && decide ((ws.length : Int) = o * szN h w c)))
  else if kd = 1 then winV h w s sp && (scV o mu sh z ws bs && (decide ((ws.length : Int) = o * (s * s * c)) && decide ((ws.length : Int) ≤ 600)))
  else if kd = 2 ∨ kd = 3 then winV h w s sp && (brV o mu sh ws bs && decide (z = 0))
  else if kd = 4 then (decide (s = 0) && decide (sp = 0)) && (brV o mu sh ws bs && is8 z)
  else if kd = 5 then (decide (s = 0) && decide (sp = 0)) && (brV o mu sh ws bs && (decide (z = 0) && decide (szN h w c ≤ 8)))
  else false)
def outS (h w c kd o s sp : Int) : Int × Int × Int :=
  if kd = 0 then (1, 1, o) else if kd = 1 then (wn h s sp, wn w s sp, o) else if kd = 2 ∨ kd = 3 then (wn h s sp, wn w s sp, c) else if kd = 4 then (h, w, c) else (1, 1, szN h w c)
def outV (h w c kd o s sp mu sh z : Int) (ws bs : List Int) : Int × Int × Int × Bool :=
  if outOk h w c kd o s sp mu sh z ws bs = true then ((outS h w c kd o s sp).1, (outS h w c kd o s sp).2.1, (outS h w c kd o s sp).2.2, true) else (0, 0, 0, false)
theorem scV_o {o mu sh z : Int} {ws bs : List Int} (h : scV o mu sh z ws bs = true) : 1 ≤ o ∧ o ≤ 8 := by
  unfold scV at h
  simp only [Bool.and_eq_true, decide_eq_true_eq] at h
  exact h.1
theorem winV_iff {h w s sp : Int} : winV h w s sp = true ↔ ((1 ≤ s ∧ s ≤ 3) ∧ (1 ≤ sp ∧ sp ≤ 2) ∧ s ≤ h ∧ s ≤ w) := by
  unfold winV
  simp only [Bool.and_eq_true, decide_eq_true_eq]
theorem szN_pos {h w c : Int} (hs : shOk h w c = true) : szN h w c = h * w * c ∧ 1 ≤ szN h w c ∧ szN h w c ≤ 512 := by
  have := prod_bd hs
  have e : szN h w c = h * w * c := by unfold szN; rw [if_pos hs]
  omega
theorem spec_out_j1 (k : Nat) (hk : 1 ≤ k) (h w c kd o s sp mu sh z : Int) (ws bs : List Int) (a b d : Int) (x y e : Int) : spec_OutShape.j1 k h w c kd o s sp mu sh z ws bs a b d x y e =
    some (if kd = 0 then (if szN h w c ≤ 64 ∧ (ws.length : Int) = wrap64 (o * szN h w c) then (1, 1, o, true) else (a, b, d, false))
      else if kd = 1 then (if (ws.length : Int) = wrap64 (wrap64 (wrap64 (o * s) * s) * c) ∧ (ws.length : Int) ≤ 600 then (x, y, o, true) else (a, b, d, false))
      else if kd = 5 then (if szN h w c ≤ 8 then (1, 1, szN h w c, true) else (a, b, d, false)) else (x, y, e, true)) := by
  obtain ⟨k, rfl⟩ : ∃ m, k = m + 1 := ⟨k - 1, by omega⟩
  rw [spec_OutShape.j1]
  by_cases c0 : kd = 0
  · rw [if_pos c0, if_pos c0, spec_sizeOf_]
    simp only [Option.bind_some]
    by_cases h1 : szN h w c > 64
    · rw [if_pos h1, if_neg (fun q => by omega)]
    · rw [if_neg h1]
      by_cases h2 : (ws.length : Int) = wrap64 (o * szN h w c)
      · rw [if_pos h2, if_pos ⟨by omega, h2⟩]
      · rw [if_neg h2, if_neg (fun q => h2 q.2)]
  rw [if_neg c0, if_neg c0]
  by_cases c1 : kd = 1
  · rw [if_pos c1, if_pos c1]
    by_cases h2 : (ws.length : Int) = wrap64 (wrap64 (wrap64 (o * s) * s) * c)
    · rw [if_pos h2]
      by_cases h1 : (ws.length : Int) > 600
      · rw [if_pos h1, if_neg (fun q => by omega)]
      · rw [if_neg h1, if_pos ⟨h2, by omega⟩]
    · rw [if_neg h2, if_neg (fun q => h2 q.1)]
  rw [if_neg c1, if_neg c1]
  by_cases c5 : kd = 5
  · rw [if_pos c5, if_pos c5, spec_sizeOf_]
    simp only [Option.bind_some]
    by_cases h1 : szN h w c > 8
    · rw [if_pos h1, if_neg (by omega)]
    · rw [if_neg h1, if_pos (by omega)]
  · rw [if_neg c5, if_neg c5]
theorem mul_w {o n : Int} (h0 : 1 ≤ o ∧ o ≤ 8) (h1 : 0 ≤ n ∧ n ≤ 512) : wrap64 (o * n) = o * n := by
  have a : 0 ≤ o * n := Int.mul_nonneg (by omega) (by omega)
  have b : o * n ≤ 8 * n := Int.mul_le_mul_of_nonneg_right h0.2 (by omega)
  exact w64 (by omega) (by omega)
theorem ssc_bd {s c : Int} (h1 : 1 ≤ s ∧ s ≤ 3) (h2 : 1 ≤ c ∧ c ≤ 8) : (1 ≤ s * s * c ∧ s * s * c ≤ 72) ∧ wrap64 (wrap64 (s * s) * c) = s * s * c := by
  obtain rfl | rfl | rfl : s = 1 ∨ s = 2 ∨ s = 3 := by omega
  all_goals
    obtain rfl | rfl | rfl | rfl | rfl | rfl | rfl | rfl : c = 1 ∨ c = 2 ∨ c = 3 ∨ c = 4 ∨ c = 5 ∨ c = 6 ∨ c = 7 ∨ c = 8 := by omega
    all_goals (unfold wrap64; decide)
theorem mul3_w {o s c : Int} (h0 : 1 ≤ o ∧ o ≤ 8) (h1 : 1 ≤ s ∧ s ≤ 3) (h2 : 1 ≤ c ∧ c ≤ 8) : wrap64 (wrap64 (wrap64 (o * s) * s) * c) = o * (s * s * c) ∧ wrap64 (o * wrap64 (wrap64 (s * s) * c)) = o * (s * s * c) := by
  obtain ⟨b, e⟩ := ssc_bd h1 h2
  refine ⟨?_, by rw [e]; exact mul_w h0 (by omega)⟩
  clear b e
  have ea : wrap64 (wrap64 (o * s) * s) = o * s * s ∧ (1 ≤ o * s * s ∧ o * s * s ≤ 72) := by
    obtain rfl | rfl | rfl : s = 1 ∨ s = 2 ∨ s = 3 := by omega
    all_goals (unfold wrap64; omega)
  have a : 0 ≤ o * s * s * c := Int.mul_nonneg (by omega) (by omega)
  have b : o * s * s * c ≤ 72 * c := Int.mul_le_mul_of_nonneg_right ea.2.2 (by omega)
  rw [ea.1, w64 (by omega) (by omega), Int.mul_assoc, Int.mul_assoc, Int.mul_assoc]
theorem szN_bd (h w c : Int) : 0 ≤ szN h w c ∧ szN h w c ≤ 512 := by
  by_cases hs : shOk h w c = true
  · have := szN_pos hs; omega
  · unfold szN; rw [if_neg hs]; omega
theorem pool_ (h w c kd o s sp mu sh z : Int) (ws bs : List Int) (hkd : kd = 2 ∨ kd = 3) :
    (if ((if decide (1 ≤ kd ∧ kd ≤ 3) = true then decide (1 ≤ s ∧ s ≤ 3) && decide (1 ≤ sp ∧ sp ≤ 2) else decide (s = 0) && decide (sp = 0)) && (if decide (kd ≤ 1) = true then scV o mu sh z ws bs else brV o mu sh ws bs && (if kd = 4 then is8 z else decide (z = 0)))) = true then
      (if decide (1 ≤ kd ∧ kd ≤ 3) = true then (if s > h then some ((0 : Int), (0 : Int), (0 : Int), false) else if s > w then some (0, 0, 0, false) else if sp = 0 then none else
        some (if kd = 0 then (if szN h w c ≤ 64 ∧ (ws.length : Int) = wrap64 (o * szN h w c) then (1, 1, o, true) else (0, 0, 0, false))
          else if kd = 1 then (if (ws.length : Int) = wrap64 (wrap64 (wrap64 (o * s) * s) * c) ∧ (ws.length : Int) ≤ 600 then (wrap64 (wrap64 (Int.tdiv (wrap64 (h - s)) sp) + 1), wrap64 (wrap64 (Int.tdiv (wrap64 (w - s)) sp) + 1), o, true) else (0, 0, 0, false))
          else if kd = 5 then (if szN h w c ≤ 8 then (1, 1, szN h w c, true) else (0, 0, 0, false)) else (wrap64 (wrap64 (Int.tdiv (wrap64 (h - s)) sp) + 1), wrap64 (wrap64 (Int.tdiv (wrap64 (w - s)) sp) + 1), c, true)))
      else some (if kd = 0 then (if szN h w c ≤ 64 ∧ (ws.length : Int) = wrap64 (o * szN h w c) then (1, 1, o, true) else (0, 0, 0, false))
          else if kd = 1 then (if (ws.length : Int) = wrap64 (wrap64 (wrap64 (o * s) * s) * c) ∧ (ws.length : Int) ≤ 600 then (h, w, o, true) else (0, 0, 0, false))
          else if kd = 5 then (if szN h w c ≤ 8 then (1, 1, szN h w c, true) else (0, 0, 0, false)) else (h, w, c, true)))
    else some (0, 0, 0, false)) =
    some (if (if kd = 0 then (decide (s = 0) && decide (sp = 0)) && (scV o mu sh z ws bs && (decide (szN h w c ≤ 64) && decide ((ws.length : Int) = o * szN h w c)))
        else if kd = 1 then winV h w s sp && (scV o mu sh z ws bs && (decide ((ws.length : Int) = o * (s * s * c)) && decide ((ws.length : Int) ≤ 600)))
        else if kd = 2 ∨ kd = 3 then winV h w s sp && (brV o mu sh ws bs && decide (z = 0))
        else if kd = 4 then (decide (s = 0) && decide (sp = 0)) && (brV o mu sh ws bs && is8 z)
        else if kd = 5 then (decide (s = 0) && decide (sp = 0)) && (brV o mu sh ws bs && (decide (z = 0) && decide (szN h w c ≤ 8)))
        else false) = true then
      ((if kd = 0 then (1, 1, o) else if kd = 1 then (wn h s sp, wn w s sp, o) else if kd = 2 ∨ kd = 3 then (wn h s sp, wn w s sp, c) else if kd = 4 then (h, w, c) else (1, 1, szN h w c)).1,
       (if kd = 0 then (1, 1, o) else if kd = 1 then (wn h s sp, wn w s sp, o) else if kd = 2 ∨ kd = 3 then (wn h s sp, wn w s sp, c) else if kd = 4 then (h, w, c) else (1, 1, szN h w c)).2.1,
       (if kd = 0 then (1, 1, o) else if kd = 1 then (wn h s sp, wn w s sp, o) else if kd = 2 ∨ kd = 3 then (wn h s sp, wn w s sp, c) else if kd = 4 then (h, w, c) else (1, 1, szN h w c)).2.2, true) else (0, 0, 0, false)) := by
  have n0 : ¬ kd = 0 := by omega
  have n1 : ¬ kd = 1 := by omega
  have n4 : ¬ kd = 4 := by omega
  have n5 : ¬ kd = 5 := by omega
  rw [decide_eq_true (show 1 ≤ kd ∧ kd ≤ 3 by omega), decide_eq_false (show ¬ kd ≤ 1 by omega)]
  simp only [n0, n1, n4, n5, hkd, if_true, if_false, Bool.false_eq_true]
  cases h2 : (brV o mu sh ws bs && decide (z = 0)) with
  | false => simp
  | true =>
    by_cases a1 : 1 ≤ s ∧ s ≤ 3
    · by_cases a2 : 1 ≤ sp ∧ sp ≤ 2
      · simp only [winV, a1, a2, decide_true, and_self, Bool.true_and, if_true]
        by_cases a3 : s > h
        · rw [if_pos a3, decide_eq_false (show ¬ s ≤ h by omega)]; rfl
        rw [if_neg a3, decide_eq_true (show s ≤ h by omega)]
        by_cases a4 : s > w
        · rw [if_pos a4, decide_eq_false (show ¬ s ≤ w by omega)]; rfl
        rw [if_neg a4, decide_eq_true (show s ≤ w by omega), if_neg (show ¬ sp = 0 by omega)]
        rfl
      · simp [winV, a2]
    · simp [winV, a1]
theorem spec_out_j0 (k : Nat) (h w c kd o s sp mu sh z : Int) (ws bs : List Int) (hm : ws.length ≤ 1048576) (hb : bs.length ≤ 1048576) (hk : bs.length + ws.length + 12 < k) (hs : shOk h w c = true) (hkd : 0 ≤ kd ∧ kd ≤ 5) : spec_OutShape.j0 k false h w c kd o s sp mu sh z ws bs 0 0 0 = some (outV h w c kd o s sp mu sh z ws bs) := by
  obtain ⟨k, rfl⟩ : ∃ m, k = m + 1 := ⟨k - 1, by omega⟩
  have P := spec_plain k kd o s sp mu sh z ws bs hm hb (by omega)
  have J := spec_out_j1 k (by omega) h w c kd o s sp mu sh z ws bs 0 0 0
  have hb2 := szN_bd h w c
  have hs' := shOk_iff.1 hs
  rw [spec_OutShape.j0]
  simp only [spec_in, P, J, Option.bind_some, Bool.false_eq_true, if_false]
  unfold outV outOk outS plV
  rw [hs]
  simp only [Bool.true_and]
  obtain rfl | rfl | rfl | rfl | rfl | rfl : kd = 0 ∨ kd = 1 ∨ kd = 2 ∨ kd = 3 ∨ kd = 4 ∨ kd = 5 := by omega
  · rw [(by decide : decide ((1:Int) ≤ 0 ∧ (0:Int) ≤ 3) = false), (by decide : decide ((0:Int) ≤ 1) = true)]
    simp only [Bool.false_eq_true, if_false, if_true]
    cases h1 : (decide (s = 0) && decide (sp = 0)) with
    | false => simp
    | true =>
      cases h2 : scV o mu sh z ws bs with
      | false => simp
      | true =>
        have e := mul_w (scV_o h2) hb2
        simp only [Bool.true_and, if_true, e]
        by_cases q : szN h w c ≤ 64 ∧ (ws.length : Int) = o * szN h w c
        · rw [if_pos q, decide_eq_true q.1, decide_eq_true q.2]; rfl
        · rw [if_neg q]
          by_cases q1 : szN h w c ≤ 64
          · rw [decide_eq_true q1, decide_eq_false (fun z => q ⟨q1, z⟩)]; rfl
          · rw [decide_eq_false q1]; rfl
  · rw [(by decide : decide ((1:Int) ≤ 1 ∧ (1:Int) ≤ 3) = true), (by decide : decide ((1:Int) ≤ 1) = true)]
    simp only [if_true, (by decide : ((1 : Int) = 0) = False), if_false]
    cases h2 : scV o mu sh z ws bs with
    | false => simp
    | true =>
      by_cases a1 : 1 ≤ s ∧ s ≤ 3
      · by_cases a2 : 1 ≤ sp ∧ sp ≤ 2
        · have e := (mul3_w (scV_o h2) a1 hs'.2.2).1
          simp only [winV, a1, a2, decide_true, and_self, Bool.true_and, if_true, e]
          by_cases a3 : s > h
          · rw [if_pos a3, decide_eq_false (show ¬ s ≤ h by omega)]; rfl
          rw [if_neg a3, decide_eq_true (show s ≤ h by omega)]
          by_cases a4 : s > w
          · rw [if_pos a4, decide_eq_false (show ¬ s ≤ w by omega)]; rfl
          rw [if_neg a4, decide_eq_true (show s ≤ w by omega), if_neg (show ¬ sp = 0 by omega)]
          by_cases q : (ws.length : Int) = o * (s * s * c) ∧ (ws.length : Int) ≤ 600
          · rw [if_pos q, decide_eq_true q.1, decide_eq_true q.2]; rfl
          · rw [if_neg q]
            by_cases q1 : (ws.length : Int) = o * (s * s * c)
            · rw [decide_eq_true q1, decide_eq_false (fun z => q ⟨q1, z⟩)]; rfl
            · rw [decide_eq_false q1]; rfl
        · simp [winV, a2]
      · simp [winV, a1]
  · exact pool_ h w c 2 o s sp mu sh z ws bs (.inl rfl)
  · exact pool_ h w c 3 o s sp mu sh z ws bs (.inr rfl)
  · rw [(by decide : decide ((1:Int) ≤ 4 ∧ (4:Int) ≤ 3) = false), (by decide : decide ((4:Int) ≤ 1) = false)]
    simp only [if_true, (by decide : ((4 : Int) = 0) = False), (by decide : ((4 : Int) = 1) = False), (by decide : ((4 : Int) = 5) = False), (by decide : ((4 : Int) = 2 ∨ (4 : Int) = 3) = False), if_false, Bool.false_eq_true]
    cases h1 : ((decide (s = 0) && decide (sp = 0)) && (brV o mu sh ws bs && is8 z)) <;> simp
  · rw [(by decide : decide ((1:Int) ≤ 5 ∧ (5:Int) ≤ 3) = false), (by decide : decide ((5:Int) ≤ 1) = false)]
    simp only [if_true, (by decide : ((5 : Int) = 0) = False), (by decide : ((5 : Int) = 1) = False), (by decide : ((5 : Int) = 4) = False), (by decide : ((5 : Int) = 2 ∨ (5 : Int) = 3) = False), if_false, Bool.false_eq_true]
    cases h1 : (decide (s = 0) && decide (sp = 0)) with
    | false => simp
    | true =>
      cases h2 : brV o mu sh ws bs with
      | false => simp
      | true =>
        by_cases h3 : z = 0
        · by_cases q : szN h w c ≤ 8
          · simp [h3, q]
          · simp [h3, q]
        · simp [h3]
theorem spec_out (k : Nat) (h w c kd o s sp mu sh z : Int) (ws bs : List Int) (hm : ws.length ≤ 1048576) (hb : bs.length ≤ 1048576) (hk : bs.length + ws.length + 12 < k) : spec_OutShape.f k h w c kd o s sp mu sh z ws bs = some (outV h w c kd o s sp mu sh z ws bs) := by
  unfold spec_OutShape.f
  have no : ∀ (b : Bool), (shOk h w c = false ∨ b = true) → (b = true → outV h w c kd o s sp mu sh z ws bs = (0, 0, 0, false)) → b = true → spec_OutShape.j0 k b h w c kd o s sp mu sh z ws bs 0 0 0 = some (outV h w c kd o s sp mu sh z ws bs) := by
    intro b _ e hb
    obtain ⟨k, rfl⟩ : ∃ m, k = m + 1 := ⟨k - 1, by omega⟩
    rw [spec_OutShape.j0, if_pos hb, e hb]
  refine st (spec_shapeOk h w c) ?_
  by_cases hs : shOk h w c = true
  · refine ifp hs (st (spec_in kd 0 5) ?_)
    by_cases hkd : 0 ≤ kd ∧ kd ≤ 5
    · rw [decide_eq_true hkd]
      exact spec_out_j0 k h w c kd o s sp mu sh z ws bs hm hb hk hs hkd
    · rw [decide_eq_false hkd]
      refine no true (.inr rfl) (fun _ => ?_) rfl
      unfold outV outOk
      rw [if_neg (show ¬ kd = 0 by omega), if_neg (show ¬ kd = 1 by omega), if_neg (show ¬ (kd = 2 ∨ kd = 3) by omega), if_neg (show ¬ kd = 4 by omega), if_neg (show ¬ kd = 5 by omega), Bool.and_false]
      exact if_neg (by simp)
  · have hf : shOk h w c = false := by simpa using hs
    refine ifn hs (no true (.inl hf) (fun _ => ?_) rfl)
    unfold outV outOk
    rw [hf, Bool.false_and]
    exact if_neg (by simp)

theorem idxB_l0 (l : List Int) (hm : l.length ≤ 1048576) : ∀ (d k i : Nat), i + d = l.length → d < k →
    ∃ r, slices_IndexFunc_int_int_at_105.l0 k l (l.length : Int) (i : Int) = some r ∧ (0 ≤ r ↔ (l.drop i).all isB = false) := by
  intro d
  induction d with
  | zero =>
    intro k i hi hk
    obtain ⟨k, rfl⟩ : ∃ m, k = m + 1 := ⟨k - 1, by omega⟩
    simp only [slices_IndexFunc_int_int_at_105.l0]
    rw [if_neg (by omega), List.drop_of_length_le (by omega)]
    exact ⟨-1, rfl, by simp⟩
  | succ d ih =>
    intro k i hi hk
    obtain ⟨k, rfl⟩ : ∃ m, k = m + 1 := ⟨k - 1, by omega⟩
    simp only [slices_IndexFunc_int_int_at_105.l0]
    rw [if_pos (by omega), if_pos (by omega), if_pos (by omega), all_dropB l i (by omega)]
    unfold impl_Layer_isScaled_1.f
    simp only [impl_in_, Option.bind_some, rd_natD]
    cases hr : isB (l.getD i 0) with
    | false =>
      have : ¬ (-1000000 ≤ l.getD i 0 ∧ l.getD i 0 ≤ 1000000) := by simpa [isB] using hr
      exact ⟨i, by simp only [this]; simp, by simp⟩
    | true =>
      have : (-1000000 ≤ l.getD i 0 ∧ l.getD i 0 ≤ 1000000) := by simpa [isB] using hr
      obtain ⟨r, h1, h2⟩ := ih k (i + 1) (by omega) (by omega)
      refine ⟨r, ?_, by simpa using h2⟩
      rw [w64_succ i (by omega)]
      simp only [this, and_self]
      simpa using h1
theorem contB (k : Nat) (l : List Int) (hm : l.length ≤ 1048576) (hk : l.length < k) : slices_ContainsFunc_int_int_at_105.f k l = some (!(l.all isB)) := by
  obtain ⟨r, h1, h2⟩ := idxB_l0 l hm l.length k 0 (by omega) hk
  have h1' : slices_IndexFunc_int_int_at_105.f k l = some r := h1
  unfold slices_ContainsFunc_int_int_at_105.f
  rw [h1']
  rw [List.drop_zero] at h2
  simp only [Option.bind_some]
  cases ha : l.all isB with
  | false => rw [ha] at h2; have := h2.2 rfl; simp [this]
  | true => rw [ha] at h2; have : ¬ 0 ≤ r := fun z => absurd (h2.1 z) (by simp); simp; omega
theorem impl_scaled (k : Nat) (kd o s sp mu sh z : Int) (ws bs : List Int) (e : Int) (hm : ws.length ≤ 1048576) (hb : bs.length ≤ 1048576) (hk : bs.length + ws.length < k) : impl_Layer_isScaled.f k kd o s sp mu sh z ws bs e = some (scV o mu sh z ws bs && decide ((ws.length : Int) = wrap64 (o * e))) := by
  have A := impl_area k ws (by omega) (by omega)
  have B := contB k bs hb (by omega)
  unfold impl_Layer_isScaled.f scV
  have i8 : decide (-128 ≤ z ∧ z ≤ 127) = is8 z := rfl
  simp only [impl_in_, A, B, i8, Option.bind_some]
  by_cases h1 : 1 ≤ o ∧ o ≤ 8
  · by_cases h2 : 0 ≤ mu ∧ mu ≤ 2147483647
    · by_cases h3 : 0 ≤ sh ∧ sh ≤ 31
      · simp only [h1, h2, h3, decide_true, and_self, if_true, Bool.true_and]
        cases h4 : is8 z with
        | false => simp
        | true =>
          by_cases h5 : (ws.length : Int) = wrap64 (o * e)
          · by_cases h6 : (bs.length : Int) = o
            · cases h7 : ws.all is8 <;> cases h8 : bs.all isB <;> simp [h5, h6]
            · cases h7 : ws.all is8 <;> simp [h5, h6]
          · simp [h5]
      · simp [h1, h2, h3]
    · simp [h1, h2]
  · simp [h1]
theorem impl_none (kd o s sp mu sh z : Int) (ws bs : List Int) : impl_Layer_hasNone.f kd o s sp mu sh z ws bs = some (decide (s = 0) && decide (sp = 0)) := by
  unfold impl_Layer_hasNone.f
  by_cases h1 : s = 0 <;> by_cases h2 : sp = 0 <;> simp [h1, h2]
theorem impl_bare (kd o s sp mu sh z : Int) (ws bs : List Int) : impl_Layer_isBare.f kd o s sp mu sh z ws bs = some (brV o mu sh ws bs) := by
  unfold impl_Layer_isBare.f brV
  have e (l : List Int) : ((l.length : Int) = 0) = (l.length = 0) := by apply propext; omega
  by_cases h1 : o = 0
  · by_cases h2 : mu = 0
    · by_cases h3 : sh = 0
      · by_cases h4 : ws.length = 0
        · have h4' : (ws.length : Int) = 0 := by omega
          rw [if_pos h1, if_pos h2, if_pos h3, if_pos h4']
          by_cases h5 : bs.length = 0 <;> simp [h1, h2, h3, h4, h5]
        · have h4' : ¬ (ws.length : Int) = 0 := by omega
          rw [if_pos h1, if_pos h2, if_pos h3, if_neg h4', decide_eq_false h4]
          simp
      · simp [h1, h2, h3]
    · simp [h1, h2]
  · simp [h1]
theorem impl_window (kd o s sp mu sh z : Int) (ws bs : List Int) (h w c : Int) : impl_Layer_isWindow.f kd o s sp mu sh z ws bs h w c = some (winV h w s sp) := by
  unfold impl_Layer_isWindow.f winV
  simp only [impl_in_, Option.bind_some, mn_eq]
  by_cases h1 : 1 ≤ s ∧ s ≤ min (min 3 h) w
  · have a : 1 ≤ s ∧ s ≤ 3 := by omega
    have b : s ≤ h := by omega
    have d : s ≤ w := by omega
    rw [decide_eq_true h1, if_pos rfl, decide_eq_true a, decide_eq_true b, decide_eq_true d]
    simp
  · rw [decide_eq_false h1, if_neg (by simp)]
    by_cases a : 1 ≤ s ∧ s ≤ 3
    · by_cases b : s ≤ h
      · have d : ¬ s ≤ w := by omega
        rw [decide_eq_false d]; simp
      · rw [decide_eq_false b]; simp
    · rw [decide_eq_false a]; rfl
theorem impl_windows (kd o s sp mu sh z : Int) (ws bs : List Int) (h w c a : Int) (h0 : sp ≠ 0) : impl_Layer_windows.f kd o s sp mu sh z ws bs h w c a = some (wn h s sp, wn w s sp, a) := by
  unfold impl_Layer_windows.f
  exact ifn h0 rfl
theorem impl_out (k : Nat) (h w c kd o s sp mu sh z : Int) (ws bs : List Int) (hm : ws.length ≤ 1048576) (hb : bs.length ≤ 1048576) (hk : bs.length + ws.length + 12 < k) : impl_OutShape.f k h w c kd o s sp mu sh z ws bs = some (outV h w c kd o s sp mu sh z ws bs) := by
  obtain ⟨k, rfl⟩ : ∃ m, k = m + 1 + 1 := ⟨k - 2, by omega⟩
  have S := fun e => impl_scaled (k + 1 + 1) kd o s sp mu sh z ws bs e hm hb (by omega)
  unfold impl_OutShape.f
  refine st (impl_shapeOk h w c) ?_
  by_cases hs : shOk h w c = true
  · have hs' := shOk_iff.1 hs
    have hb2 := szN_bd h w c
    refine ifp hs (st (impl_sizeOf_ h w c) ?_)
    unfold outV outOk outS
    rw [hs, Bool.true_and]
    by_cases c0 : kd = 0
    · rw [if_pos c0, if_pos c0, if_pos c0]
      by_cases q : szN h w c ≤ 64
      · rw [if_pos q, impl_none]
        simp only [Option.bind_some, S]
        cases h1 : (decide (s = 0) && decide (sp = 0)) with
        | false => simp [impl_OutShape.j0]
        | true =>
          cases h2 : scV o mu sh z ws bs with
          | false => simp [impl_OutShape.j0]
          | true =>
            rw [mul_w (scV_o h2) hb2]
            by_cases q2 : (ws.length : Int) = o * szN h w c <;> simp [impl_OutShape.j0, q, q2]
      · rw [if_neg q]
        simp [impl_OutShape.j0, q]
    rw [if_neg c0, if_neg c0, if_neg c0]
    by_cases c1 : kd = 1
    · rw [if_pos c1, if_pos c1, if_pos c1, impl_window]
      simp only [Option.bind_some, S]
      cases h1 : winV h w s sp with
      | false => simp [impl_OutShape.j1]
      | true =>
        obtain ⟨a1, a2, _, _⟩ := winV_iff.1 h1
        by_cases q : (ws.length : Int) ≤ 600
        · cases h2 : scV o mu sh z ws bs with
          | false => simp [impl_OutShape.j1, q]
          | true =>
            have e := (mul3_w (scV_o h2) a1 hs'.2.2).2
            have W := impl_windows kd o s sp mu sh z ws bs h w c o (by omega)
            by_cases q2 : (ws.length : Int) = o * (s * s * c)
            · simp [impl_OutShape.j1, q, q2, e, W]
              rw [← q2, if_pos q, if_pos q]
            · simp [impl_OutShape.j1, q, q2, e]
        · simp [impl_OutShape.j1, q]
    rw [if_neg c1, if_neg c1, if_neg c1]
    have J2t : ∀ b : Bool, b = true → impl_OutShape.j2 (k + 1 + 1) (szN h w c) kd b h w c kd o s sp mu sh z ws bs = some (if (winV h w s sp && (brV o mu sh ws bs && decide (z = 0))) = true then (wn h s sp, wn w s sp, c, true) else (0, 0, 0, false)) := by
      intro b hb
      rw [impl_OutShape.j2, if_pos hb, impl_window]
      simp only [Option.bind_some, impl_bare]
      cases h1 : winV h w s sp with
      | false => simp [impl_OutShape.j3]
      | true =>
        obtain ⟨a1, a2, _, _⟩ := winV_iff.1 h1
        have W := impl_windows kd o s sp mu sh z ws bs h w c c (by omega)
        cases h2 : brV o mu sh ws bs with
        | false => simp [impl_OutShape.j3]
        | true =>
          by_cases h3 : z = 0
          · simp [impl_OutShape.j3, h3]
            rw [h3] at W
            rw [W]; rfl
          · simp [impl_OutShape.j3, h3]
    by_cases c2 : kd = 2
    · rw [if_pos c2, J2t _ (by simp [c2]), if_pos (Or.inl c2), if_pos (Or.inl c2)]
    rw [if_neg c2]
    by_cases c3 : kd = 3
    · rw [J2t _ (by simp [c3]), if_pos (Or.inr c3), if_pos (Or.inr c3)]
    rw [if_neg (show ¬ (kd = 2 ∨ kd = 3) by omega), if_neg (show ¬ (kd = 2 ∨ kd = 3) by omega), impl_OutShape.j2, if_neg (by simp [c3])]
    by_cases c4 : kd = 4
    · rw [if_pos c4, if_pos c4, if_pos c4, impl_none]
      simp only [Option.bind_some, impl_bare, impl_in_]
      have i8 : decide (-128 ≤ z ∧ z ≤ 127) = is8 z := rfl
      rw [i8]
      cases h1 : (decide (s = 0) && decide (sp = 0)) with
      | false => simp [impl_OutShape.j4]
      | true =>
        cases h2 : brV o mu sh ws bs with
        | false => simp [impl_OutShape.j4]
        | true => cases h3 : is8 z <;> simp [impl_OutShape.j4]
    rw [if_neg c4, if_neg c4, if_neg c4]
    by_cases c5 : kd = 5
    · rw [if_pos c5, if_pos c5, impl_none]
      simp only [Option.bind_some, impl_bare]
      cases h1 : (decide (s = 0) && decide (sp = 0)) with
      | false => simp [impl_OutShape.j5]
      | true =>
        cases h2 : brV o mu sh ws bs with
        | false => simp [impl_OutShape.j5]
        | true =>
          by_cases h3 : z = 0
          · by_cases h4 : szN h w c ≤ 8 <;> simp [impl_OutShape.j5, h3, h4]
          · simp [impl_OutShape.j5, h3]
    · rw [if_neg c5, if_neg c5, if_neg (by simp)]
  · have hf : shOk h w c = false := by simpa using hs
    refine ifn hs ?_
    unfold outV outOk
    rw [hf, Bool.false_and]
    rfl

def costV (h w c kd o s sp mu sh z : Int) (ws bs : List Int) : Int :=
  if outOk h w c kd o s sp mu sh z ws bs = true then
    wrap64 (1 + wrap64 (Int.tdiv (if kd = 0 then wrap64 (szN (outS h w c kd o s sp).1 (outS h w c kd o s sp).2.1 (outS h w c kd o s sp).2.2 * szN h w c)
      else if kd = 1 then wrap64 (wrap64 (wrap64 (szN (outS h w c kd o s sp).1 (outS h w c kd o s sp).2.1 (outS h w c kd o s sp).2.2 * s) * s) * c)
      else if kd = 2 ∨ kd = 3 then wrap64 (wrap64 (szN (outS h w c kd o s sp).1 (outS h w c kd o s sp).2.1 (outS h w c kd o s sp).2.2 * s) * s)
      else szN h w c) 16)) else 0
def okSL (s : S23) (x : S55) : Bool := outOk s.f0 s.f1 s.f2 x.f0 x.f1 x.f2 x.f3 x.f4 x.f5 x.f6 x.f7 x.f8
def stSL (s : S23) (x : S55) : S23 := ⟨(outS s.f0 s.f1 s.f2 x.f0 x.f1 x.f2 x.f3).1, (outS s.f0 s.f1 s.f2 x.f0 x.f1 x.f2 x.f3).2.1, (outS s.f0 s.f1 s.f2 x.f0 x.f1 x.f2 x.f3).2.2⟩
def coSL (s : S23) (x : S55) : Int := costV s.f0 s.f1 s.f2 x.f0 x.f1 x.f2 x.f3 x.f4 x.f5 x.f6 x.f7 x.f8
def okLs : S23 → List S55 → Bool
  | _, [] => true
  | s, x :: r => okSL s x && okLs (stSL s x) r
def shLs : S23 → List S55 → List S23
  | _, [] => []
  | s, x :: r => stSL s x :: shLs (stSL s x) r
def coLs : S23 → List S55 → List Int
  | _, [] => []
  | s, x :: r => coSL s x :: coLs (stSL s x) r
def SmL (x : S55) : Prop := x.f7.length ≤ 1048576 ∧ x.f8.length ≤ 1048576
theorem outV_ok {s : S23} {x : S55} (h : okSL s x = true) : outV s.f0 s.f1 s.f2 x.f0 x.f1 x.f2 x.f3 x.f4 x.f5 x.f6 x.f7 x.f8 = ((stSL s x).f0, (stSL s x).f1, (stSL s x).f2, true) := by
  unfold outV; exact if_pos h
theorem outV_no {s : S23} {x : S55} (h : ¬ okSL s x = true) : outV s.f0 s.f1 s.f2 x.f0 x.f1 x.f2 x.f3 x.f4 x.f5 x.f6 x.f7 x.f8 = (0, 0, 0, false) := by
  unfold outV; exact if_neg h
theorem impl_shapes_l0 (l : List S55) (hl : l.length ≤ 1048576) (hs : ∀ x ∈ l, SmL x) : ∀ (d k i : Nat) (acc : List S23) (s : S23), i + d = l.length → d + 2097200 ≤ k → acc.length ≤ i + 1 →
    impl_Model_shapes.l0 k acc l (l.length : Int) (i : Int) s.f0 s.f1 s.f2 = some (if okLs s (l.drop i) = true then (acc ++ shLs s (l.drop i), true) else ([], false)) := by
  intro d
  induction d with
  | zero =>
    intro k i acc s hi hk ha
    obtain ⟨k, rfl⟩ : ∃ m, k = m + 1 := ⟨k - 1, by omega⟩
    rw [impl_Model_shapes.l0, List.drop_of_length_le (by omega)]
    refine ifn (by omega) ?_
    rw [if_pos (show okLs s [] = true from rfl), shLs, List.append_nil]
  | succ d ih =>
    intro k i acc s hi hk ha
    obtain ⟨k, rfl⟩ : ∃ m, k = m + 1 := ⟨k - 1, by omega⟩
    rw [impl_Model_shapes.l0, drop_getD l z55 i (by omega), okLs, shLs, w64_succ i (by omega)]
    simp only [rd_T55, Int.toNat_natCast]
    have hx := hs _ (mem_getD l z55 i (by omega))
    generalize l.getD i z55 = x at hx ⊢
    have O := impl_out k s.f0 s.f1 s.f2 x.f0 x.f1 x.f2 x.f3 x.f4 x.f5 x.f6 x.f7 x.f8 hx.1 hx.2 (by have := hx.1; have := hx.2; omega)
    refine ifp (by omega) (ifp (by omega) (ifp (by omega) ?_))
    by_cases q : okSL s x = true
    · rw [outV_ok q] at O
      have g := ih k (i + 1) (acc ++ [stSL s x]) (stSL s x) (by omega) (by omega) (by simp; omega)
      rw [q, Bool.true_and, List.append_cons]
      exact st O (ifp rfl (ifp (by omega) g))
    · rw [outV_no q] at O
      have qf : okSL s x = false := by simpa using q
      rw [qf, Bool.false_and]
      exact st O (ifn (by simp) rfl)
theorem spec_shapes_l0 (a b c : Int) (l : List S55) (hl : l.length ≤ 1048576) (hs : ∀ x ∈ l, SmL x) : ∀ (d k i : Nat) (acc : List S23) (s : S23), i + d = l.length → d + 2097200 ≤ k → acc.length = i + 1 → acc.getD i z23 = s →
    spec_l04Shapes.l0 k acc (i : Int) a b c l = some (if okLs s (l.drop i) = true then (acc ++ shLs s (l.drop i), true) else ([], false)) := by
  intro d
  induction d with
  | zero =>
    intro k i acc s hi hk ha hs2
    obtain ⟨k, rfl⟩ : ∃ m, k = m + 1 := ⟨k - 1, by omega⟩
    rw [spec_l04Shapes.l0, List.drop_of_length_le (by omega)]
    refine ifn (by omega) ?_
    rw [if_pos (show okLs s [] = true from rfl), shLs, List.append_nil]
  | succ d ih =>
    intro k i acc s hi hk ha hs2
    obtain ⟨k, rfl⟩ : ∃ m, k = m + 1 := ⟨k - 1, by omega⟩
    rw [spec_l04Shapes.l0, drop_getD l z55 i (by omega), okLs, shLs, w64_succ i (by omega)]
    simp only [rd_T55, rd_T23, Int.toNat_natCast, hs2]
    have hx := hs _ (mem_getD l z55 i (by omega))
    generalize l.getD i z55 = x at hx ⊢
    have O := spec_out k s.f0 s.f1 s.f2 x.f0 x.f1 x.f2 x.f3 x.f4 x.f5 x.f6 x.f7 x.f8 hx.1 hx.2 (by have := hx.1; have := hx.2; omega)
    refine ifp (by omega) (ifp (by omega) (ifp (by omega) ?_))
    by_cases q : okSL s x = true
    · rw [outV_ok q] at O
      have g := ih k (i + 1) (acc ++ [stSL s x]) (stSL s x) (by omega) (by omega) (by simp; omega) (by
        rw [List.getD_eq_getElem?_getD, List.getElem?_append_right (by omega), ha]; simp)
      rw [q, Bool.true_and, List.append_cons]
      exact st O (ifp rfl (ifp (by omega) g))
    · rw [outV_no q] at O
      have qf : okSL s x = false := by simpa using q
      rw [qf, Bool.false_and]
      exact st O (ifn (by simp) rfl)
def mOk (s : S23) (l : List S55) : Bool := decide (1 ≤ (l.length : Int) ∧ (l.length : Int) ≤ 6) && okLs s l
theorem mOk_sh {s : S23} {l : List S55} (h : mOk s l = true) : shOk s.f0 s.f1 s.f2 = true := by
  unfold mOk at h
  rw [Bool.and_eq_true, decide_eq_true_eq] at h
  cases l with
  | nil => exact absurd h.1.1 (by simp)
  | cons x r =>
    have h2 := h.2
    rw [okLs, Bool.and_eq_true] at h2
    have h3 := h2.1
    unfold okSL outOk at h3
    rw [Bool.and_eq_true] at h3
    exact h3.1
theorem spec_shapes (k : Nat) (s : S23) (l : List S55) (hl : l.length ≤ 1048576) (hs : ∀ x ∈ l, SmL x) (hk : 3200000 ≤ k) : spec_l04Shapes.f k s.f0 s.f1 s.f2 l = some (if mOk s l = true then (s :: shLs s l, true) else ([], false)) := by
  obtain ⟨k, rfl⟩ : ∃ m, k = m + 1 := ⟨k - 1, by omega⟩
  unfold spec_l04Shapes.f
  have no : ¬ mOk s l = true → spec_l04Shapes.j0 (k + 1) [⟨s.f0, s.f1, s.f2⟩] true s.f0 s.f1 s.f2 l = some (if mOk s l = true then (s :: shLs s l, true) else ([], false)) := by
    intro q
    rw [spec_l04Shapes.j0, if_neg q]
    exact ifp rfl rfl
  refine st rfl (st (spec_shapeOk _ _ _) ?_)
  by_cases h1 : shOk s.f0 s.f1 s.f2 = true
  · refine ifp h1 (st (spec_in _ _ _) ?_)
    by_cases h2 : 1 ≤ (l.length : Int) ∧ (l.length : Int) ≤ 6
    · rw [decide_eq_true h2, spec_l04Shapes.j0]
      have g := spec_shapes_l0 s.f0 s.f1 s.f2 l hl hs l.length k 0 [⟨s.f0, s.f1, s.f2⟩] s (by omega) (by omega) rfl rfl
      have e : mOk s l = okLs s l := by unfold mOk; rw [decide_eq_true h2, Bool.true_and]
      rw [e]
      exact ifn (by simp) g
    · rw [decide_eq_false h2]
      exact no (fun q => h2 (by unfold mOk at q; rw [decide_eq_false h2] at q; exact absurd q (by simp)))
  · exact ifn h1 (no (fun q => h1 (mOk_sh q)))
theorem impl_shapes (k : Nat) (s : S23) (l : List S55) (hl : l.length ≤ 1048576) (hs : ∀ x ∈ l, SmL x) (hk : 3200000 ≤ k) : impl_Model_shapes.f k s.f0 s.f1 s.f2 l = some (if okLs s l = true then (s :: shLs s l, true) else ([], false)) := by
  unfold impl_Model_shapes.f
  exact impl_shapes_l0 l hl hs l.length k 0 [⟨s.f0, s.f1, s.f2⟩] s (by omega) (by omega) (by simp)
theorem impl_mOk (k : Nat) (s : S23) (l : List S55) (hl : l.length ≤ 1048576) (hs : ∀ x ∈ l, SmL x) (hk : 3200000 ≤ k) : impl_ModelOk.f k s.f0 s.f1 s.f2 l = some (mOk s l) := by
  unfold impl_ModelOk.f mOk
  refine st (impl_in_ _ _ _) ?_
  by_cases h2 : 1 ≤ (l.length : Int) ∧ (l.length : Int) ≤ 6
  · rw [decide_eq_true h2, Bool.true_and]
    refine ifp rfl (st (impl_shapes k s l hl hs hk) ?_)
    cases okLs s l <;> rfl
  · rw [decide_eq_false h2, Bool.false_and]
    exact ifn (by simp) rfl
def cosV (s : S23) (l : List S55) : List Int := if mOk s l = true then coLs s l else []

def sameV (x n : Int) : List Int := List.replicate (min n 601).toNat x
theorem same_l0 (x n : Int) : ∀ (d k i : Nat), i + d = 601 → d + 2 ≤ k → ((i : Int) ≤ n ∨ i = 0) → spec_l10Same.l0 k x n (List.replicate i x) (i : Int) = some (sameV x n) := by
  intro d
  induction d with
  | zero =>
    intro k i hi hk hn
    obtain ⟨k, rfl⟩ : ∃ m, k = m + 1 := ⟨k - 1, by omega⟩
    rw [spec_l10Same.l0]
    have e : sameV x n = List.replicate i x := by unfold sameV; congr 1; omega
    by_cases c : (i : Int) < n
    · exact ifp c (ifn (by omega) (by rw [e]))
    · exact ifn c (by rw [e])
  | succ d ih =>
    intro k i hi hk hn
    obtain ⟨k, rfl⟩ : ∃ m, k = m + 1 := ⟨k - 1, by omega⟩
    rw [spec_l10Same.l0]
    by_cases c : (i : Int) < n
    · refine ifp c (ifp (by omega) (ifp (by simp; omega) ?_))
      rw [w64 (x := (i : Int) + 1) (by omega) (by omega), show (i : Int) + 1 = ((i + 1 : Nat) : Int) by omega, ← List.replicate_succ']
      exact ih k (i + 1) (by omega) (by omega) (.inl (by omega))
    · refine ifn c ?_
      unfold sameV
      congr 2; omega
theorem spec_same (k : Nat) (x n : Int) (hk : 700 ≤ k) : spec_l10Same.f k x n = some (sameV x n) := same_l0 x n 601 k 0 (by omega) (by omega) (.inr rfl)
abbrev dB : ByteArray := ⟨#[100, 101, 110, 115, 101]⟩
abbrev cB : ByteArray := ⟨#[99, 111, 110, 118]⟩
abbrev mB : ByteArray := ⟨#[109, 97, 120]⟩
abbrev aB : ByteArray := ⟨#[97, 118, 103]⟩
abbrev rB : ByteArray := ⟨#[114, 101, 108, 117]⟩
abbrev fB : ByteArray := ⟨#[102, 108, 97, 116]⟩
def kindOf (s : ByteArray) : Option Nat := if s = dB then some 0 else if s = cB then some 1 else if s = mB then some 2 else if s = aB then some 3 else if s = rB then some 4 else if s = fB then some 5 else none
def szK : Nat → Int
  | 0 => 5
  | 1 => 7
  | 2 => 2
  | 3 => 2
  | 4 => 1
  | _ => 0
theorem kindOf_lt {s : ByteArray} {kd : Nat} (h : kindOf s = some kd) : kd ≤ 5 := by
  unfold kindOf at h
  split at h
  · injection h; omega
  split at h
  · injection h; omega
  split at h
  · injection h; omega
  split at h
  · injection h; omega
  split at h
  · injection h; omega
  split at h
  · injection h; omega
  · cases h
theorem kmany_kind (s : ByteArray) : kmany s = match kindOf s with
    | some kd => (szK kd, true)
    | none => (0, false) := by
  unfold kmany kindOf
  split
  · rfl
  split
  · rfl
  split
  · rfl
  split
  · rfl
  split
  · rfl
  split
  · rfl
  · rfl
def layS (kd : Nat) (l : List Int) (h w c : Int) : S55 := match kd with
  | 0 => ⟨0, rd l 0, 0, 0, wrap64 (rd l 1 * 1000), rd l 2, rd l 3, sameV (rd l 4) (wrap64 (rd l 0 * szN h w c)), sameV 0 (rd l 0)⟩
  | 1 => ⟨1, rd l 0, rd l 1, rd l 2, wrap64 (rd l 3 * 1000), rd l 4, rd l 5, sameV (rd l 6) (wrap64 (wrap64 (wrap64 (rd l 0 * rd l 1) * rd l 1) * c)), sameV 0 (rd l 0)⟩
  | 2 => ⟨2, 0, rd l 0, rd l 1, 0, 0, 0, [], []⟩
  | 3 => ⟨3, 0, rd l 0, rd l 1, 0, 0, 0, [], []⟩
  | 4 => ⟨4, 0, 0, 0, 0, 0, rd l 0, [], []⟩
  | _ => ⟨5, 0, 0, 0, 0, 0, 0, [], []⟩
def nilL : S55 := ⟨0, 0, 0, 0, 0, 0, 0, [], []⟩
def tupL (x : S55) (b : Bool) : Int × Int × Int × Int × Int × Int × Int × List Int × List Int × Bool := (x.f0, x.f1, x.f2, x.f3, x.f4, x.f5, x.f6, x.f7, x.f8, b)
def partV (ws : List ByteArray) : Option (Nat × List Int) := (kindOf (rdOf ByteArray.empty ws 0)).bind fun kd => (numsW (ws.drop 1)).bind fun l => if (l.length : Int) = szK kd then some (kd, l) else none
def nmL : List ByteArray := [(⟨#[100, 101, 110, 115, 101]⟩ : ByteArray), (⟨#[99, 111, 110, 118]⟩ : ByteArray), (⟨#[109, 97, 120]⟩ : ByteArray), (⟨#[97, 118, 103]⟩ : ByteArray), (⟨#[114, 101, 108, 117]⟩ : ByteArray), (⟨#[102, 108, 97, 116]⟩ : ByteArray)]
def szL : List Int := [5, 7, 2, 2, 1, 0]
theorem nm_kind : ∀ (kd : Nat), kd ≤ 5 → ∀ s : ByteArray, (s.toList = (rdOf ByteArray.empty nmL (kd : Int)).toList ↔ kindOf s = some kd) ∧ rd szL (kd : Int) = szK kd := by
  intro kd hk s
  have e : ∀ b : ByteArray, s.toList = b.toList ↔ s = b := fun b => ⟨ba_ext, fun h => by rw [h]⟩
  match kd, hk with
  | 0, _ => exact ⟨(e dB).trans (by unfold kindOf; constructor <;> intro h <;> revert h <;> repeat (first | split | simp_all)), rfl⟩
  | 1, _ => exact ⟨(e cB).trans (by unfold kindOf; constructor <;> intro h <;> revert h <;> repeat (first | split | simp_all)), rfl⟩
  | 2, _ => exact ⟨(e mB).trans (by unfold kindOf; constructor <;> intro h <;> revert h <;> repeat (first | split | simp_all)), rfl⟩
  | 3, _ => exact ⟨(e aB).trans (by unfold kindOf; constructor <;> intro h <;> revert h <;> repeat (first | split | simp_all)), rfl⟩
  | 4, _ => exact ⟨(e rB).trans (by unfold kindOf; constructor <;> intro h <;> revert h <;> repeat (first | split | simp_all)), rfl⟩
  | 5, _ => exact ⟨(e fB).trans (by unfold kindOf; constructor <;> intro h <;> revert h <;> repeat (first | split | simp_all)), rfl⟩

theorem lay_no (k : Nat) (ws : List ByteArray) (l : List Int) (ok : Bool) (h w c : Int) (i : Nat) (hi : i ≤ 5) (hw : 0 < ws.length) (hn : ¬ (ok = true ∧ kindOf (rdOf ByteArray.empty ws 0) = some i ∧ (l.length : Int) = szK i)) :
    spec_l10Layer.l0 (k + 2) ws nmL szL l ok (i : Int) h w c = spec_l10Layer.l0 k ws nmL szL l ok ((i + 1 : Nat) : Int) h w c := by
  obtain ⟨n1, n2⟩ := nm_kind i hi (rdOf ByteArray.empty ws 0)
  have hx : wrap64 ((i : Int) + 1) = ((i + 1 : Nat) : Int) := by rw [w64 (by omega) (by omega)]; omega
  have hj : ∀ m, spec_l10Layer.j1 (m + 1) ws nmL szL l ok (i : Int) true h w c = spec_l10Layer.l0 m ws nmL szL l ok ((i + 1 : Nat) : Int) h w c := fun m => by
    rw [spec_l10Layer.j1, if_pos rfl, hx]
  have hlen : ((nmL.length : Nat) : Int) = 6 := rfl
  have hsl : ((szL.length : Nat) : Int) = 6 := rfl
  rw [spec_l10Layer.l0, hlen, hsl]
  refine ifp (by omega) ?_
  by_cases c1 : ok = true
  · refine ifp c1 (ifp (by omega) (ifp (by omega) ?_))
    by_cases c2 : kindOf (rdOf ByteArray.empty ws 0) = some i
    · refine ifp (n1.2 c2) (ifp (by omega) ?_)
      have c3 : ¬ (l.length : Int) = szK i := fun e => hn ⟨c1, c2, e⟩
      rw [n2, show ((l.length : Int) != szK i) = true from bne_iff_ne.2 c3]
      exact hj k
    · refine ifn (fun e => c2 (n1.1 e)) ?_
      exact hj k
  · refine ifn c1 ?_
    exact hj k
theorem j1_val (k : Nat) (ws : List ByteArray) (l : List Int) (ok : Bool) (h w c : Int) (i : Nat) (hi : i ≤ 5) (hk : 1000 ≤ k) (hl : (l.length : Int) = szK i) :
    spec_l10Layer.j1 k ws nmL szL l ok (i : Int) false h w c = some (tupL (layS i l h w c) true) := by
  obtain ⟨k, rfl⟩ : ∃ m, k = m + 1 := ⟨k - 1, by omega⟩
  obtain ⟨k, rfl⟩ : ∃ m, k = m + 1 := ⟨k - 1, by omega⟩
  rw [spec_l10Layer.j1, if_neg (by simp)]
  match i, hi with
  | 0, _ =>
    have hl5 : (l.length : Int) = 5 := hl
    refine ifp rfl (ifp (by omega) (ifp (by omega) (ifp (by omega) (ifp (by omega) (ifp (by omega) ?_)))))
    rw [spec_sizeOf_, Option.bind_some, spec_same _ _ _ (by omega), Option.bind_some, spec_same _ _ _ (by omega), Option.bind_some]
    rfl
  | 1, _ =>
    have hl5 : (l.length : Int) = 7 := hl
    refine ifn (by decide) (ifp rfl (ifp (by omega) (ifp (by omega) (ifp (by omega) (ifp (by omega) (ifp (by omega) (ifp (by omega) (ifp (by omega) ?_))))))))
    rw [spec_same _ _ _ (by omega), Option.bind_some, spec_same _ _ _ (by omega), Option.bind_some]
    rfl
  | 2, _ =>
    have hl5 : (l.length : Int) = 2 := hl
    refine ifn (by decide) (ifn (by decide) (ifp rfl ?_))
    rw [spec_l10Layer.j2]
    refine ifp (by decide) (ifp (by omega) (ifp (by omega) ?_))
    rfl
  | 3, _ =>
    have hl5 : (l.length : Int) = 2 := hl
    refine ifn (by decide) (ifn (by decide) (ifn (by decide) ?_))
    rw [spec_l10Layer.j2]
    refine ifp (by decide) (ifp (by omega) (ifp (by omega) ?_))
    rfl
  | 4, _ =>
    have hl5 : (l.length : Int) = 1 := hl
    refine ifn (by decide) (ifn (by decide) (ifn (by decide) ?_))
    rw [spec_l10Layer.j2]
    refine ifn (by decide) (ifp rfl (ifp (by omega) ?_))
    rfl
  | 5, _ =>
    refine ifn (by decide) (ifn (by decide) (ifn (by decide) ?_))
    rw [spec_l10Layer.j2]
    refine ifn (by decide) (ifn (by decide) ?_)
    rfl
theorem lay_yes (k : Nat) (ws : List ByteArray) (l : List Int) (h w c : Int) (i : Nat) (hi : i ≤ 5) (hk : 1100 ≤ k) (hw : 0 < ws.length) (c2 : kindOf (rdOf ByteArray.empty ws 0) = some i) (c3 : (l.length : Int) = szK i) :
    spec_l10Layer.l0 k ws nmL szL l true (i : Int) h w c = some (tupL (layS i l h w c) true) := by
  obtain ⟨k, rfl⟩ : ∃ m, k = m + 1 := ⟨k - 1, by omega⟩
  obtain ⟨n1, n2⟩ := nm_kind i hi (rdOf ByteArray.empty ws 0)
  have hlen : ((nmL.length : Nat) : Int) = 6 := rfl
  have hsl : ((szL.length : Nat) : Int) = 6 := rfl
  rw [spec_l10Layer.l0, hlen, hsl]
  refine ifp (by omega) (ifp rfl (ifp (by omega) (ifp (by omega) (ifp (n1.2 c2) (ifp (by omega) ?_)))))
  rw [n2, c3, bne_self_eq_false]
  exact j1_val k ws l true h w c i hi (by omega) c3
theorem lay_find (ws : List ByteArray) (l : List Int) (h w c : Int) (kd : Nat) (hkd : kd ≤ 5) (hw : 0 < ws.length) (c2 : kindOf (rdOf ByteArray.empty ws 0) = some kd) (c3 : (l.length : Int) = szK kd) : ∀ (d k i : Nat), i + d = kd → 1100 + 2 * d ≤ k →
    spec_l10Layer.l0 k ws nmL szL l true (i : Int) h w c = some (tupL (layS kd l h w c) true) := by
  intro d
  induction d with
  | zero =>
    intro k i hi hk
    obtain rfl : i = kd := by omega
    exact lay_yes k ws l h w c i hkd (by omega) hw c2 c3
  | succ d ih =>
    intro k i hi hk
    obtain ⟨k, rfl⟩ : ∃ m, k = m + 2 := ⟨k - 2, by omega⟩
    rw [lay_no k ws l true h w c i (by omega) hw (fun e => by rw [c2] at e; have := Option.some.inj e.2.1; omega)]
    exact ih k (i + 1) (by omega) (by omega)
theorem lay_none (ws : List ByteArray) (l : List Int) (ok : Bool) (h w c : Int) (hw : 0 < ws.length) (hn : ∀ i, ¬ (ok = true ∧ kindOf (rdOf ByteArray.empty ws 0) = some i ∧ (l.length : Int) = szK i)) : ∀ (d k i : Nat), i + d = 6 → 1100 + 2 * d ≤ k →
    spec_l10Layer.l0 k ws nmL szL l ok (i : Int) h w c = some (tupL nilL false) := by
  intro d
  induction d with
  | zero =>
    intro k i hi hk
    obtain ⟨k, rfl⟩ : ∃ m, k = m + 1 := ⟨k - 1, by omega⟩
    have hlen : ((nmL.length : Nat) : Int) = 6 := rfl
    rw [spec_l10Layer.l0, hlen]
    exact ifn (by omega) rfl
  | succ d ih =>
    intro k i hi hk
    obtain ⟨k, rfl⟩ : ∃ m, k = m + 2 := ⟨k - 2, by omega⟩
    rw [lay_no k ws l ok h w c i (by omega) hw (hn i)]
    exact ih k (i + 1) (by omega) (by omega)
theorem spec_layer (k : Nat) (ws : List ByteArray) (h w c : Int) (hw : 0 < ws.length) (hl : ws.length ≤ 2000000000) (hs : ∀ s ∈ ws, s.size ≤ 1000000000) (hk : 2000000500 ≤ k) :
    spec_l10Layer.f k ws h w c = some (match partV ws with
      | some (kd, l) => tupL (layS kd l h w c) true
      | none => tupL nilL false) := by
  unfold spec_l10Layer.f
  refine ifp (by omega) ?_
  have hd : ∀ s ∈ ws.drop 1, s.size ≤ 1000000000 := fun s m => hs s (List.mem_of_mem_drop m)
  rw [spec_nums k (ws.drop 1) (by rw [List.length_drop]; omega) hd (by omega), Option.bind_some]
  show spec_l10Layer.l0 k ws nmL szL _ _ ((0 : Nat) : Int) h w c = _
  unfold partV
  cases h2 : numsW (ws.drop 1) with
  | none =>
    have e : ((kindOf (rdOf ByteArray.empty ws 0)).bind fun kd => ((none : Option (List Int)).bind fun l => if (l.length : Int) = szK kd then some (kd, l) else none)) = none := by cases kindOf (rdOf ByteArray.empty ws 0) <;> rfl
    rw [e]
    exact lay_none ws [] false h w c hw (fun i e => by simp at e) 6 k 0 rfl (by omega)
  | some l =>
    cases h1 : kindOf (rdOf ByteArray.empty ws 0) with
    | none =>
      rw [Option.bind_none]
      exact lay_none ws l true h w c hw (fun i e => by rw [h1] at e; simp at e) 6 k 0 rfl (by omega)
    | some kd =>
      rw [Option.bind_some, Option.bind_some]
      by_cases c3 : (l.length : Int) = szK kd
      · rw [if_pos c3]
        exact lay_find ws l h w c kd (kindOf_lt h1) hw h1 c3 kd k 0 (by omega) (by have := kindOf_lt h1; omega)
      · rw [if_neg c3]
        exact lay_none ws l true h w c hw (fun i e => by rw [h1] at e; obtain ⟨_, e1, e2⟩ := e; obtain rfl := Option.some.inj e1; exact c3 e2) 6 k 0 rfl (by omega)
def fillV (kd o s sp e m sh z wt : Int) : S55 × Bool := if 1 ≤ o ∧ o ≤ 8 then (if 1 ≤ wrap64 (o * e) ∧ wrap64 (o * e) ≤ 600 then (⟨kd, o, s, sp, wrap64 (m * 1000), sh, z, List.replicate (wrap64 (o * e)).toNat wt, List.replicate o.toNat 0⟩, true) else (nilL, false)) else (nilL, false)
theorem impl_fill (kd o s sp e : Int) (l : List Int) (hl : l.length = 4) : impl_filled.f kd o s sp 0 0 0 [] [] e l = some (tupL (fillV kd o s sp e (rd l 0) (rd l 1) (rd l 2) (rd l 3)).1 (fillV kd o s sp e (rd l 0) (rd l 1) (rd l 2) (rd l 3)).2) := by
  unfold impl_filled.f fillV
  rw [impl_in_, Option.bind_some, impl_in_, Option.bind_some]
  by_cases c1 : 1 ≤ o ∧ o ≤ 8
  · rw [decide_eq_true c1, if_pos rfl, if_pos c1]
    by_cases c2 : 1 ≤ wrap64 (o * e) ∧ wrap64 (o * e) ≤ 600
    · rw [decide_eq_true c2, if_pos rfl, if_pos c2]
      refine ifp (by omega) (ifp (by omega) (ifp (by omega) (ifp (by omega) ?_)))
      have hr : slices_Repeat.f [rd l 3] (wrap64 (o * e)) = some (List.replicate (wrap64 (o * e)).toNat (rd l 3)) := by
        unfold slices_Repeat.f
        rw [if_pos (by rfl), if_pos (by omega)]
        rfl
      rw [hr, Option.bind_some]
      refine ifp (by omega) (ifp (by omega) rfl)
    · rw [decide_eq_false c2, if_neg (by simp), if_neg c2]; rfl
  · rw [decide_eq_false c1, if_neg (by simp), if_neg c1]; rfl
def layI (kd : Nat) (l : List Int) (h w c : Int) : S55 × Bool := match kd with
  | 0 => fillV 0 (rd l 0) 0 0 (szN h w c) (rd l 1) (rd l 2) (rd l 3) (rd l 4)
  | 1 => if 1 ≤ rd l 1 ∧ rd l 1 ≤ 3 then fillV 1 (rd l 0) (rd l 1) (rd l 2) (wrap64 (wrap64 (rd l 1 * rd l 1) * c)) (rd l 3) (rd l 4) (rd l 5) (rd l 6) else (nilL, false)
  | n => (layS n l h w c, true)
theorem rd_drop (l : List Int) (n : Nat) (i j : Int) (h : j.toNat = n + i.toNat) : rd (l.drop n) i = rd l j := by simp [rd, List.getD_eq_getElem?_getD, List.getElem?_drop, h]
theorem ba_iff (s b : ByteArray) (l : List UInt8) (h : b.toList = l) : s.toList = l ↔ s = b := by
  rw [← h]; exact ⟨ba_ext, fun h => by rw [h]⟩
theorem impl_j0 (k : Nat) (ws : List ByteArray) (l : List Int) (h w c : Int) (kd : Nat) (hk : 1 ≤ k) (hw : 0 < ws.length) (c2 : kindOf (rdOf ByteArray.empty ws 0) = some kd) (c3 : (l.length : Int) = szK kd) :
    impl_planned.j0 k ws l false h w c = some (tupL (layI kd l h w c).1 (layI kd l h w c).2) := by
  obtain ⟨k, rfl⟩ : ∃ m, k = m + 1 := ⟨k - 1, by omega⟩
  have t0 : dB.toList = [100, 101, 110, 115, 101] := by rw [ba_toList]
  have t1 : cB.toList = [99, 111, 110, 118] := by rw [ba_toList]
  have t2 : mB.toList = [109, 97, 120] := by rw [ba_toList]
  have t3 : aB.toList = [97, 118, 103] := by rw [ba_toList]
  have t4 : rB.toList = [114, 101, 108, 117] := by rw [ba_toList]
  rw [impl_planned.j0, if_neg (by simp)]
  refine ifp (by omega) ?_
  generalize rdOf ByteArray.empty ws 0 = s at c2
  have hlt := kindOf_lt c2
  unfold kindOf at c2
  by_cases e0 : s = dB
  · rw [if_pos e0] at c2
    obtain rfl := Option.some.inj c2
    have hl : (l.length : Int) = 5 := c3
    refine ifp ((ba_iff s dB _ t0).2 e0) (ifp (by omega) ?_)
    rw [impl_sizeOf_, Option.bind_some]
    refine ifp (by omega) ?_
    rw [impl_fill 0 _ 0 0 _ _ (by rw [List.length_drop]; omega), Option.bind_some, rd_drop l 1 0 1 rfl, rd_drop l 1 1 2 rfl, rd_drop l 1 2 3 rfl, rd_drop l 1 3 4 rfl]
    rfl
  rw [if_neg e0] at c2
  refine ifn (fun e => e0 ((ba_iff s dB _ t0).1 e)) ?_
  by_cases e1 : s = cB
  · rw [if_pos e1] at c2
    obtain rfl := Option.some.inj c2
    have hl : (l.length : Int) = 7 := c3
    refine ifp ((ba_iff s cB _ t1).2 e1) (ifp (by omega) ?_)
    rw [impl_in_, Option.bind_some]
    have hL : layI 1 l h w c = if 1 ≤ rd l 1 ∧ rd l 1 ≤ 3 then fillV 1 (rd l 0) (rd l 1) (rd l 2) (wrap64 (wrap64 (rd l 1 * rd l 1) * c)) (rd l 3) (rd l 4) (rd l 5) (rd l 6) else (nilL, false) := rfl
    rw [hL]
    by_cases c4 : 1 ≤ rd l 1 ∧ rd l 1 ≤ 3
    · rw [decide_eq_true c4, if_pos rfl, if_pos c4]
      refine ifp (by omega) (ifp (by omega) (ifp (by omega) ?_))
      rw [impl_fill 1 _ _ _ _ _ (by rw [List.length_drop]; omega), Option.bind_some, rd_drop l 3 0 3 rfl, rd_drop l 3 1 4 rfl, rd_drop l 3 2 5 rfl, rd_drop l 3 3 6 rfl]
      try rfl
    · rw [decide_eq_false c4, if_neg (by simp), if_neg c4]
      try rfl
  rw [if_neg e1] at c2
  refine ifn (fun e => e1 ((ba_iff s cB _ t1).1 e)) ?_
  by_cases e2 : s = mB
  · rw [if_pos e2] at c2
    obtain rfl := Option.some.inj c2
    have hl : (l.length : Int) = 2 := c3
    exact ifp ((ba_iff s mB _ t2).2 e2) (ifp (by omega) (ifp (by omega) rfl))
  rw [if_neg e2] at c2
  refine ifn (fun e => e2 ((ba_iff s mB _ t2).1 e)) ?_
  by_cases e3 : s = aB
  · rw [if_pos e3] at c2
    obtain rfl := Option.some.inj c2
    have hl : (l.length : Int) = 2 := c3
    exact ifp ((ba_iff s aB _ t3).2 e3) (ifp (by omega) (ifp (by omega) rfl))
  rw [if_neg e3] at c2
  refine ifn (fun e => e3 ((ba_iff s aB _ t3).1 e)) ?_
  by_cases e4 : s = rB
  · rw [if_pos e4] at c2
    obtain rfl := Option.some.inj c2
    have hl : (l.length : Int) = 1 := c3
    exact ifp ((ba_iff s rB _ t4).2 e4) (ifp (by omega) rfl)
  rw [if_neg e4] at c2
  refine ifn (fun e => e4 ((ba_iff s rB _ t4).1 e)) ?_
  by_cases e5 : s = fB
  · rw [if_pos e5] at c2
    obtain rfl := Option.some.inj c2
    rfl
  · rw [if_neg e5] at c2
    cases c2
theorem impl_plan (k : Nat) (p : ByteArray) (h w c : Int) (hp : p.size ≤ 1000000000) (hw : 0 < (splitS p ⟨#[32]⟩).length) (hl : (splitS p ⟨#[32]⟩).length ≤ 2000000000) (hs : ∀ s ∈ splitS p ⟨#[32]⟩, s.size ≤ 1000000000) (hk : 2000000500 ≤ k) :
    impl_planned.f k h w c p = some (match partV (splitS p ⟨#[32]⟩) with
      | some (kd, l) => tupL (layI kd l h w c).1 (layI kd l h w c).2
      | none => tupL nilL false) := by
  unfold impl_planned.f kinds.f
  rw [impl_split p ⟨#[32]⟩ (by omega) (by decide), Option.bind_some, Option.bind_some]
  generalize splitS p ⟨#[32]⟩ = ws at hw hl hs
  refine ifp (by omega) ?_
  have hm0 : rdOf ByteArray.empty ws 0 ∈ ws := by
    cases ws with
    | nil => simp at hw
    | cons a r => exact List.mem_cons_self
  have hkl : kind_look.f (rdOf ByteArray.empty ws 0) = some (kmany (rdOf ByteArray.empty ws 0)) := by unfold kind_look.f; rw [if_pos (hs _ hm0)]
  rw [hkl, Option.bind_some]
  refine ifp (by omega) ?_
  have hd : ∀ s ∈ ws.drop 1, s.size ≤ 1000000000 := fun s m => hs s (List.mem_of_mem_drop m)
  rw [impl_nums k _ (ws.drop 1) (by rw [List.length_drop]; omega) hd (by omega), Option.bind_some, kmany_kind]
  have hf : ∀ (l : List Int), impl_planned.j0 k ws l true h w c = some (tupL nilL false) := fun l => by
    obtain ⟨k, rfl⟩ : ∃ m, k = m + 1 := ⟨k - 1, by omega⟩
    rw [impl_planned.j0, if_pos rfl]; rfl
  unfold partV
  cases h1 : kindOf (rdOf ByteArray.empty ws 0) with
  | none => exact ifn (by simp) (hf _)
  | some kd =>
    refine ifp rfl ?_
    rw [Option.bind_some]
    cases h2 : numsW (ws.drop 1) with
    | none => exact hf _
    | some l =>
      rw [Option.bind_some]
      by_cases c3 : (l.length : Int) = szK kd
      · rw [if_pos c3]
        show impl_planned.j0 k ws l (!((l.length : Int) == szK kd)) h w c = _
        rw [c3, beq_self_eq_true]
        exact impl_j0 k ws l h w c kd (by omega) hw h1 c3
      · rw [if_neg c3]
        show impl_planned.j0 k ws l (!((l.length : Int) == szK kd)) h w c = _
        rw [beq_eq_false_iff_ne.2 c3]
        exact hf _

theorem sameV_rep {x n : Int} (h0 : n ≤ 601) : sameV x n = List.replicate n.toNat x := by unfold sameV; congr 2; omega
theorem sameV_len (x n : Int) : ((sameV x n).length : Int) = max 0 (min n 601) := by unfold sameV; rw [List.length_replicate]; omega
theorem sameV_small (x n : Int) : (sameV x n).length ≤ 1048576 := by unfold sameV; rw [List.length_replicate]; omega
theorem layS_small (kd : Nat) (l : List Int) (h w c : Int) : SmL (layS kd l h w c) := by
  match kd with
  | 0 => exact ⟨sameV_small _ _, sameV_small _ _⟩
  | 1 => exact ⟨sameV_small _ _, sameV_small _ _⟩
  | 2 => exact ⟨Nat.zero_le _, Nat.zero_le _⟩
  | 3 => exact ⟨Nat.zero_le _, Nat.zero_le _⟩
  | 4 => exact ⟨Nat.zero_le _, Nat.zero_le _⟩
  | n + 5 => exact ⟨Nat.zero_le _, Nat.zero_le _⟩
theorem fill_eq {kd o s sp e m sh z wt : Int} (h1 : 1 ≤ o ∧ o ≤ 8) (h2 : 1 ≤ wrap64 (o * e) ∧ wrap64 (o * e) ≤ 600) : fillV kd o s sp e m sh z wt = (⟨kd, o, s, sp, wrap64 (m * 1000), sh, z, sameV wt (wrap64 (o * e)), sameV 0 o⟩, true) := by
  unfold fillV
  rw [if_pos h1, if_pos h2, sameV_rep (by omega), sameV_rep (by omega)]
theorem fill_true {kd o s sp e m sh z wt : Int} (h : (fillV kd o s sp e m sh z wt).2 = true) : (1 ≤ o ∧ o ≤ 8) ∧ (1 ≤ wrap64 (o * e) ∧ wrap64 (o * e) ≤ 600) := by
  unfold fillV at h
  by_cases h1 : 1 ≤ o ∧ o ≤ 8
  · rw [if_pos h1] at h
    by_cases h2 : 1 ≤ wrap64 (o * e) ∧ wrap64 (o * e) ≤ 600
    · exact ⟨h1, h2⟩
    · rw [if_neg h2] at h; cases h
  · rw [if_neg h1] at h; cases h
theorem lay_ok {kd : Nat} {l : List Int} {s : S23} (hk : okSL s (layS kd l s.f0 s.f1 s.f2) = true) : layI kd l s.f0 s.f1 s.f2 = (layS kd l s.f0 s.f1 s.f2, true) := by
  match kd with
  | 0 =>
    have hk2 : outOk s.f0 s.f1 s.f2 0 (rd l 0) 0 0 (wrap64 (rd l 1 * 1000)) (rd l 2) (rd l 3) (sameV (rd l 4) (wrap64 (rd l 0 * szN s.f0 s.f1 s.f2))) (sameV 0 (rd l 0)) = true := hk
    unfold outOk at hk2
    rw [if_pos rfl] at hk2
    simp only [Bool.and_eq_true, decide_eq_true_eq] at hk2
    obtain ⟨hs, _, hv, h64, _⟩ := hk2
    have ho := scV_o hv
    obtain ⟨_, z1, z2⟩ := szN_pos hs
    have hw := mul_w (o := rd l 0) (n := szN s.f0 s.f1 s.f2) ho ⟨by omega, z2⟩
    have hb1 : 1 * 1 ≤ rd l 0 * szN s.f0 s.f1 s.f2 := Int.mul_le_mul ho.1 z1 (by omega) (by omega)
    have hb2 : rd l 0 * szN s.f0 s.f1 s.f2 ≤ 8 * 64 := Int.mul_le_mul ho.2 h64 (by omega) (by omega)
    show fillV 0 (rd l 0) 0 0 (szN s.f0 s.f1 s.f2) (rd l 1) (rd l 2) (rd l 3) (rd l 4) = _
    rw [fill_eq ho (by rw [hw]; omega)]
    rfl
  | 1 =>
    have hk2 : outOk s.f0 s.f1 s.f2 1 (rd l 0) (rd l 1) (rd l 2) (wrap64 (rd l 3 * 1000)) (rd l 4) (rd l 5) (sameV (rd l 6) (wrap64 (wrap64 (wrap64 (rd l 0 * rd l 1) * rd l 1) * s.f2))) (sameV 0 (rd l 0)) = true := hk
    unfold outOk at hk2
    rw [if_neg (by decide), if_pos rfl] at hk2
    simp only [Bool.and_eq_true, decide_eq_true_eq] at hk2
    obtain ⟨hs, hwin, hv, hln, h600⟩ := hk2
    have ho := scV_o hv
    have hw1 := (winV_iff.1 hwin).1
    have hc := (shOk_iff.1 hs).2.2
    obtain ⟨m1, m2⟩ := mul3_w (o := rd l 0) (s := rd l 1) (c := s.f2) ho hw1 hc
    obtain ⟨⟨b1, b2⟩, _⟩ := ssc_bd (s := rd l 1) (c := s.f2) hw1 hc
    have hb1 : 1 * 1 ≤ rd l 0 * (rd l 1 * rd l 1 * s.f2) := Int.mul_le_mul ho.1 b1 (by omega) (by omega)
    rw [sameV_len, m1] at hln h600
    show (if 1 ≤ rd l 1 ∧ rd l 1 ≤ 3 then fillV 1 (rd l 0) (rd l 1) (rd l 2) (wrap64 (wrap64 (rd l 1 * rd l 1) * s.f2)) (rd l 3) (rd l 4) (rd l 5) (rd l 6) else (nilL, false)) = _
    rw [if_pos hw1, fill_eq ho (by rw [m2]; omega), m2]
    show _ = ((⟨1, rd l 0, rd l 1, rd l 2, wrap64 (rd l 3 * 1000), rd l 4, rd l 5, sameV (rd l 6) (wrap64 (wrap64 (wrap64 (rd l 0 * rd l 1) * rd l 1) * s.f2)), sameV 0 (rd l 0)⟩ : S55), true)
    rw [m1]
  | n + 2 => rfl
theorem lay_bad {kd : Nat} {l : List Int} {s : S23} (hk : ¬ okSL s (layS kd l s.f0 s.f1 s.f2) = true) : ¬ ((layI kd l s.f0 s.f1 s.f2).2 = true ∧ okSL s (layI kd l s.f0 s.f1 s.f2).1 = true) := by
  intro ⟨h1, h2⟩
  match kd with
  | 0 =>
    obtain ⟨ho, hn⟩ := fill_true (show (fillV 0 (rd l 0) 0 0 (szN s.f0 s.f1 s.f2) (rd l 1) (rd l 2) (rd l 3) (rd l 4)).2 = true from h1)
    refine hk ?_
    have e : layI 0 l s.f0 s.f1 s.f2 = (layS 0 l s.f0 s.f1 s.f2, true) := (fill_eq ho hn).trans rfl
    rw [e] at h2
    exact h2
  | 1 =>
    have hL : layI 1 l s.f0 s.f1 s.f2 = if 1 ≤ rd l 1 ∧ rd l 1 ≤ 3 then fillV 1 (rd l 0) (rd l 1) (rd l 2) (wrap64 (wrap64 (rd l 1 * rd l 1) * s.f2)) (rd l 3) (rd l 4) (rd l 5) (rd l 6) else (nilL, false) := rfl
    by_cases hw1 : 1 ≤ rd l 1 ∧ rd l 1 ≤ 3
    · rw [hL, if_pos hw1] at h1 h2
      obtain ⟨ho, hn⟩ := fill_true h1
      have hs : shOk s.f0 s.f1 s.f2 = true := by
        unfold okSL outOk at h2
        rw [Bool.and_eq_true] at h2
        exact h2.1
      have hc := (shOk_iff.1 hs).2.2
      obtain ⟨m1, m2⟩ := mul3_w (o := rd l 0) (s := rd l 1) (c := s.f2) ho hw1 hc
      refine hk ?_
      rw [fill_eq ho hn, m2] at h2
      show okSL s (⟨1, rd l 0, rd l 1, rd l 2, wrap64 (rd l 3 * 1000), rd l 4, rd l 5, sameV (rd l 6) (wrap64 (wrap64 (wrap64 (rd l 0 * rd l 1) * rd l 1) * s.f2)), sameV 0 (rd l 0)⟩ : S55) = true
      rw [m1]
      exact h2
    · rw [hL, if_neg hw1] at h1
      cases h1
  | n + 2 => exact hk h2
theorem fill_small (kd o s sp e m sh z wt : Int) : SmL (fillV kd o s sp e m sh z wt).1 := by
  unfold fillV
  split
  · split
    · rename_i h1 h2
      exact ⟨by show (List.replicate _ _).length ≤ _; rw [List.length_replicate]; omega, by show (List.replicate _ _).length ≤ _; rw [List.length_replicate]; omega⟩
    · exact ⟨by decide, by decide⟩
  · exact ⟨by decide, by decide⟩
theorem layI_small (kd : Nat) (l : List Int) (h w c : Int) : SmL (layI kd l h w c).1 := by
  match kd with
  | 0 => exact fill_small ..
  | 1 =>
    show SmL (if 1 ≤ rd l 1 ∧ rd l 1 ≤ 3 then fillV 1 (rd l 0) (rd l 1) (rd l 2) (wrap64 (wrap64 (rd l 1 * rd l 1) * c)) (rd l 3) (rd l 4) (rd l 5) (rd l 6) else (nilL, false)).1
    split
    · exact fill_small ..
    · exact ⟨by decide, by decide⟩
  | n + 2 => exact layS_small _ _ _ _ _
theorem splitK_mem (sep : List UInt8) : ∀ (k : Nat) (s : List UInt8), ∀ p ∈ Go.Lib.splitK sep 0 k s, p.length ≤ s.length
  | 0, s, p, h => by
    rw [Go.Lib.splitK, List.mem_singleton] at h
    rw [h]; exact Nat.le_refl _
  | k + 1, s, p, h => by
    rw [Go.Lib.splitK] at h
    split at h
    · rw [List.mem_singleton] at h
      rw [h]; exact Nat.le_refl _
    · rcases List.mem_cons.1 h with h | h
      · rw [h, List.length_take]; omega
      · have := splitK_mem sep k _ p h
        rw [List.length_drop] at this
        omega
theorem splitS_mem {s sep p : ByteArray} (h : p ∈ splitS s sep) : p.size ≤ s.size := by
  rw [splitS_L, List.mem_map] at h
  obtain ⟨l, hl, rfl⟩ := h
  have := splitK_mem _ _ _ l hl
  rw [size_L] at this
  show l.toArray.size ≤ s.size
  rw [List.size_toArray]
  exact this
theorem splitS_pos (s sep : ByteArray) (h : 1 ≤ sep.size) : 0 < (splitS s sep).length ∧ (splitS s sep).length ≤ s.size + 2 := by
  have h1 := splitS_len s sep h
  have h2 := Go.Lib.count_le s.data.toList sep.data.toList
  rw [size_L] at h2
  have h3 : Go.Lib.countB s sep ≤ s.size + 1 := h2
  omega

abbrev SP : ByteArray := ⟨#[32]⟩
abbrev SX : ByteArray := ⟨#[120]⟩
def planV : S23 → List ByteArray → Option (List S55)
  | _, [] => some []
  | s, p :: r => match partV (splitS p SP) with
    | none => none
    | some (kd, l) => if okSL s (layS kd l s.f0 s.f1 s.f2) = true then (planV (stSL s (layS kd l s.f0 s.f1 s.f2)) r).bind fun m => some (layS kd l s.f0 s.f1 s.f2 :: m) else none
theorem planV_len : ∀ {ps : List ByteArray} {s : S23} {m : List S55}, planV s ps = some m → m.length = ps.length ∧ ∀ x ∈ m, SmL x
  | [], s, m, h => by obtain rfl := Option.some.inj h; exact ⟨rfl, fun x hx => by cases hx⟩
  | p :: r, s, m, h => by
    unfold planV at h
    cases h1 : partV (splitS p SP) with
    | none => rw [h1] at h; cases h
    | some z =>
      obtain ⟨kd, l⟩ := z
      rw [h1] at h
      dsimp only at h
      split at h
      · cases h2 : planV (stSL s (layS kd l s.f0 s.f1 s.f2)) r with
        | none => rw [h2] at h; cases h
        | some n =>
          rw [h2] at h
          obtain rfl := Option.some.inj h
          obtain ⟨g1, g2⟩ := planV_len h2
          refine ⟨by rw [List.length_cons, List.length_cons, g1], fun x hx => ?_⟩
          rcases List.mem_cons.1 hx with rfl | hx
          · exact layS_small _ _ _ _ _
          · exact g2 x hx
      · cases h
def finV (s : S23) (m : List S55) : Int × Int × Int × (List S55) × Bool := if mOk s m = true then (s.f0, s.f1, s.f2, m, true) else (0, 0, 0, [], false)
theorem spec_mOk (k : Nat) (s : S23) (l : List S55) (hl : l.length ≤ 1048576) (hs : ∀ x ∈ l, SmL x) (hk : 3200000 ≤ k) : spec_ModelOk.f k s.f0 s.f1 s.f2 l = some (mOk s l) := by
  unfold spec_ModelOk.f
  rw [spec_shapes k s l hl hs hk, Option.bind_some]
  cases h : mOk s l <;> simp
theorem spec_plan_l1 (s0 : S23) (ps : List ByteArray) (hn : ps.length ≤ 1000000) (hp : ∀ p ∈ ps, p.size ≤ 1000000) : ∀ (d k i : Nat) (acc : List S55) (s : S23), i + d = ps.length → 2100000000 + d ≤ k → acc.length ≤ i → (∀ x ∈ acc, SmL x) →
    spec_ParsePlan.l1 k ps (i : Int) 0 0 0 s0.f0 s0.f1 s0.f2 acc s.f0 s.f1 s.f2 = some (match planV s (ps.drop i) with
      | none => (0, 0, 0, [], false)
      | some m => finV s0 (acc ++ m)) := by
  intro d
  induction d with
  | zero =>
    intro k i acc s hi hk ha hsm
    obtain ⟨k, rfl⟩ : ∃ m, k = m + 1 := ⟨k - 1, by omega⟩
    rw [spec_ParsePlan.l1, List.drop_of_length_le (by omega)]
    refine ifn (by omega) ?_
    rw [spec_mOk k s0 acc (by omega) hsm (by omega), Option.bind_some]
    unfold planV finV
    dsimp only
    rw [List.append_nil]
    split <;> rfl
  | succ d ih =>
    intro k i acc s hi hk ha hsm
    obtain ⟨k, rfl⟩ : ∃ m, k = m + 1 := ⟨k - 1, by omega⟩
    have hil : i < ps.length := by omega
    have hr : rdOf ByteArray.empty ps (i : Int) = ps[i] := by simp [rdOf, List.getD_eq_getElem?_getD, hil]
    have hpi := hp _ (List.getElem_mem hil)
    obtain ⟨w1, w2⟩ := splitS_pos ps[i] SP (by decide)
    rw [spec_ParsePlan.l1, List.drop_eq_getElem_cons hil]
    refine ifp (by omega) (ifp (by omega) ?_)
    rw [hr]
    generalize ps[i] = p at hpi w1 w2
    rw [show (32 : Int) = (((32 : UInt8).toNat : Nat) : Int) from rfl, spec_parts k p 32 (by omega) (by omega), Option.bind_some, spec_layer k _ _ _ _ w1 (by omega) (fun z hz => by have := splitS_mem hz; omega) (by omega), Option.bind_some]
    unfold planV
    cases h1 : partV (splitS p SP) with
    | none => exact ifn (by simp [tupL]) rfl
    | some z =>
      obtain ⟨kd, l⟩ := z
      dsimp only
      have hsl := layS_small kd l s.f0 s.f1 s.f2
      refine ifp rfl ?_
      show ((spec_OutShape.f k s.f0 s.f1 s.f2 (layS kd l s.f0 s.f1 s.f2).f0 (layS kd l s.f0 s.f1 s.f2).f1 (layS kd l s.f0 s.f1 s.f2).f2 (layS kd l s.f0 s.f1 s.f2).f3 (layS kd l s.f0 s.f1 s.f2).f4 (layS kd l s.f0 s.f1 s.f2).f5 (layS kd l s.f0 s.f1 s.f2).f6 (layS kd l s.f0 s.f1 s.f2).f7 (layS kd l s.f0 s.f1 s.f2).f8).bind _) = _
      rw [spec_out k _ _ _ _ _ _ _ _ _ _ _ _ hsl.1 hsl.2 (by have := hsl.1; have := hsl.2; omega), Option.bind_some]
      by_cases c : okSL s (layS kd l s.f0 s.f1 s.f2) = true
      · rw [outV_ok c, if_pos c]
        refine ifp rfl (ifp (by omega) ?_)
        rw [w64 (x := (i : Int) + 1) (by omega) (by omega), show (i : Int) + 1 = ((i + 1 : Nat) : Int) by omega]
        have g := ih k (i + 1) (acc ++ [layS kd l s.f0 s.f1 s.f2]) (stSL s (layS kd l s.f0 s.f1 s.f2)) (by omega) (by omega) (by simp; omega) (fun x hx => by
          rcases List.mem_append.1 hx with hx | hx
          · exact hsm x hx
          · rw [List.mem_singleton.1 hx]; exact hsl)
        refine g.trans ?_
        cases planV (stSL s (layS kd l s.f0 s.f1 s.f2)) (ps.drop (i + 1)) with
        | none => rfl
        | some m => simp
      · rw [outV_no c, if_neg c]
        exact ifn (by simp) rfl
theorem impl_plan_l0 (s0 : S23) (ps : List ByteArray) (hn : ps.length ≤ 1000000) (hp : ∀ p ∈ ps, p.size ≤ 1000000) : ∀ (d k i : Nat) (acc : List S55) (s : S23), i + 1 + d = ps.length → 2100000000 + d ≤ k → acc.length ≤ i → (∀ x ∈ acc, SmL x) →
    impl_ParsePlan.l0 k ps (i : Int) (wrap64 ((ps.length : Int) - 1)) s0.f0 s0.f1 s0.f2 acc s.f0 s.f1 s.f2 = some (match planV s (ps.drop (i + 1)) with
      | none => (0, 0, 0, [], false)
      | some m => finV s0 (acc ++ m)) := by
  intro d
  induction d with
  | zero =>
    intro k i acc s hi hk ha hsm
    obtain ⟨k, rfl⟩ : ∃ m, k = m + 1 := ⟨k - 1, by omega⟩
    rw [impl_ParsePlan.l0, List.drop_of_length_le (by omega), w64 (x := (ps.length : Int) - 1) (by omega) (by omega)]
    refine ifn (by omega) ?_
    rw [impl_mOk k s0 acc (by omega) hsm (by omega), Option.bind_some]
    unfold planV finV
    dsimp only
    rw [List.append_nil]
    split <;> rfl
  | succ d ih =>
    intro k i acc s hi hk ha hsm
    obtain ⟨k, rfl⟩ : ∃ m, k = m + 1 := ⟨k - 1, by omega⟩
    have hil : i + 1 < ps.length := by omega
    have hr : rdOf ByteArray.empty ps ((i + 1 : Nat) : Int) = ps[i + 1] := by
      show ps.getD _ _ = _
      rw [Int.toNat_natCast]; simp [List.getD_eq_getElem?_getD, hil]
    have hpi := hp _ (List.getElem_mem hil)
    obtain ⟨w1, w2⟩ := splitS_pos ps[i + 1] SP (by decide)
    rw [impl_ParsePlan.l0, List.drop_eq_getElem_cons hil, w64 (x := (i : Int) + 1) (by omega) (by omega), show (i : Int) + 1 = ((i + 1 : Nat) : Int) by omega]
    have hw : wrap64 ((ps.length : Int) - 1) = (ps.length : Int) - 1 := w64 (by omega) (by omega)
    refine ifp (by rw [hw]; omega) (ifp (by omega) (ifp (by omega) ?_))
    rw [hr]
    generalize ps[i + 1] = p at hpi w1 w2
    have w3 : (splitS p ⟨#[32]⟩).length ≤ p.size + 2 := w2
    have hpl := impl_plan k p s.f0 s.f1 s.f2 (by omega) w1 (by omega) (fun z hz => by have := splitS_mem hz; omega) (by omega)
    have hpl2 : impl_planned.f k s.f0 s.f1 s.f2 p = some (match partV (splitS p SP) with
      | some (kd, l) => tupL (layI kd l s.f0 s.f1 s.f2).1 (layI kd l s.f0 s.f1 s.f2).2
      | none => tupL nilL false) := hpl
    clear hpl
    unfold planV
    cases h1 : partV (splitS p SP) with
    | none =>
      rw [h1] at hpl2
      have hpl : impl_planned.f k s.f0 s.f1 s.f2 p = some (tupL nilL false) := hpl2
      rw [hpl, Option.bind_some]
      show ((impl_OutShape.f k s.f0 s.f1 s.f2 0 0 0 0 0 0 0 [] []).bind _) = _
      rw [impl_out k _ _ _ _ _ _ _ _ _ _ _ _ (by decide) (by decide) (by simp; omega), Option.bind_some]
      exact ifn (by simp [tupL]) rfl
    | some z =>
      obtain ⟨kd, l⟩ := z
      dsimp only
      rw [h1] at hpl2
      have hpl : impl_planned.f k s.f0 s.f1 s.f2 p = some (tupL (layI kd l s.f0 s.f1 s.f2).1 (layI kd l s.f0 s.f1 s.f2).2) := hpl2
      clear hpl2
      by_cases c : okSL s (layS kd l s.f0 s.f1 s.f2) = true
      · have hsl := layS_small kd l s.f0 s.f1 s.f2
        rw [lay_ok c] at hpl
        rw [hpl, Option.bind_some, if_pos c]
        show ((impl_OutShape.f k s.f0 s.f1 s.f2 (layS kd l s.f0 s.f1 s.f2).f0 (layS kd l s.f0 s.f1 s.f2).f1 (layS kd l s.f0 s.f1 s.f2).f2 (layS kd l s.f0 s.f1 s.f2).f3 (layS kd l s.f0 s.f1 s.f2).f4 (layS kd l s.f0 s.f1 s.f2).f5 (layS kd l s.f0 s.f1 s.f2).f6 (layS kd l s.f0 s.f1 s.f2).f7 (layS kd l s.f0 s.f1 s.f2).f8).bind _) = _
        rw [impl_out k _ _ _ _ _ _ _ _ _ _ _ _ hsl.1 hsl.2 (by have := hsl.1; have := hsl.2; omega), Option.bind_some, outV_ok c]
        refine ifp rfl (ifp rfl (ifp (by omega) ?_))
        have g := ih k (i + 1) (acc ++ [layS kd l s.f0 s.f1 s.f2]) (stSL s (layS kd l s.f0 s.f1 s.f2)) (by omega) (by omega) (by simp; omega) (fun x hx => by
          rcases List.mem_append.1 hx with hx | hx
          · exact hsm x hx
          · rw [List.mem_singleton.1 hx]; exact hsl)
        refine g.trans ?_
        cases planV (stSL s (layS kd l s.f0 s.f1 s.f2)) (ps.drop (i + 1 + 1)) with
        | none => rfl
        | some m => simp
      · rw [if_neg c]
        have hb := lay_bad c
        have hsI := layI_small kd l s.f0 s.f1 s.f2
        generalize layI kd l s.f0 s.f1 s.f2 = z at hpl hb hsI
        rw [hpl, Option.bind_some]
        show ((impl_OutShape.f k s.f0 s.f1 s.f2 z.1.f0 z.1.f1 z.1.f2 z.1.f3 z.1.f4 z.1.f5 z.1.f6 z.1.f7 z.1.f8).bind _) = _
        rw [impl_out k _ _ _ _ _ _ _ _ _ _ _ _ hsI.1 hsI.2 (by have := hsI.1; have := hsI.2; omega), Option.bind_some]
        by_cases c1 : z.2 = true
        · refine ifp c1 ?_
          rw [outV_no (fun e => hb ⟨c1, e⟩)]
          exact ifn (by simp) rfl
        · exact ifn c1 rfl
def ppV (t : ByteArray) : Int × Int × Int × (List S55) × Bool := if t.size ≤ 200 then (match numsW (splitS (rdOf ByteArray.empty (splitS t S3) 0) SX) with
    | none => (0, 0, 0, [], false)
    | some l => if (l.length : Int) = 3 then (match planV ⟨rd l 0, rd l 1, rd l 2⟩ ((splitS t S3).drop 1) with
      | none => (0, 0, 0, [], false)
      | some m => finV ⟨rd l 0, rd l 1, rd l 2⟩ m) else (0, 0, 0, [], false)) else (0, 0, 0, [], false)
theorem spec_parse (k : Nat) (t : ByteArray) (hk : 2200000000 ≤ k) : spec_ParsePlan.f k t = some (ppV t) := by
  unfold spec_ParsePlan.f ppV
  by_cases c : t.size ≤ 200
  · rw [if_pos c]
    refine ifn (by omega) ?_
    obtain ⟨p1, p2⟩ := splitS_pos t S3 (by decide)
    refine pieces_l0 t (by omega) _ 2150000000 (fun k hk => ?_) t.size k 0 0 [] (by omega) (by omega) (by omega) (by omega) (by simp) (fun j h1 h2 => by omega) (by rw [splitS_L, List.drop_zero, List.nil_append]; rfl)
    have hmem : ∀ p ∈ splitS t S3, p.size ≤ 200 := fun p hp => by have := splitS_mem hp; omega
    generalize splitS t S3 = ps at p1 p2 hmem
    unfold ppC
    refine ifp (by omega) ?_
    have hm0 : rdOf ByteArray.empty ps 0 ∈ ps := by
      cases ps with
      | nil => simp at p1
      | cons a r => exact List.mem_cons_self
    have h0 := hmem _ hm0
    generalize rdOf ByteArray.empty ps 0 = q at h0
    obtain ⟨q1, q2⟩ := splitS_pos q SX (by decide)
    have q3 : (splitS q ⟨#[120]⟩).length ≤ q.size + 2 := q2
    rw [show (120 : Int) = (((120 : UInt8).toNat : Nat) : Int) from rfl, spec_parts k q 120 (by omega) (by omega), Option.bind_some, spec_nums k _ (by omega) (fun z hz => by have := splitS_mem hz; omega) (by omega), Option.bind_some]
    have hf : ∀ l, spec_ParsePlan.j1 k ps l true 0 0 0 = some (0, 0, 0, [], false) := fun l => by
      obtain ⟨k, rfl⟩ : ∃ m, k = m + 1 := ⟨k - 1, by omega⟩
      rw [spec_ParsePlan.j1, if_pos rfl]
    cases numsW (splitS q SX) with
    | none => exact ifn (by simp) (hf _)
    | some l =>
      refine ifp rfl ?_
      dsimp only
      by_cases c3 : (l.length : Int) = 3
      · rw [c3, if_pos rfl, bne_self_eq_false]
        obtain ⟨k, rfl⟩ : ∃ m, k = m + 1 := ⟨k - 1, by omega⟩
        rw [spec_ParsePlan.j1, if_neg (by simp)]
        refine ifp (by omega) (ifp (by omega) (ifp (by omega) ?_))
        exact spec_plan_l1 ⟨rd l 0, rd l 1, rd l 2⟩ ps (by omega) (fun p hp => by have := hmem p hp; omega) (ps.length - 1) k 1 [] ⟨rd l 0, rd l 1, rd l 2⟩ (by omega) (by omega) (by simp) (fun x hx => by cases hx)
      · rw [if_neg c3, bne_iff_ne.2 c3]
        exact hf _
  · rw [if_neg c]
    exact ifp (by omega) rfl
theorem impl_parse (k : Nat) (t : ByteArray) (ht : t.size ≤ 1000000000) (hk : 2200000000 ≤ k) : impl_ParsePlan.f k t = some (ppV t) := by
  unfold impl_ParsePlan.f ppV
  obtain ⟨p1, p2⟩ := splitS_pos t S3 (by decide)
  have hmem : ∀ p ∈ splitS t S3, p.size ≤ t.size := fun p hp => splitS_mem hp
  rw [show (⟨#[32, 62, 32]⟩ : ByteArray) = S3 from rfl, impl_split t S3 (by omega) (by decide), Option.bind_some]
  generalize splitS t S3 = ps at p1 p2 hmem
  refine ifp (by omega) ?_
  have hm0 : rdOf ByteArray.empty ps 0 ∈ ps := by
    cases ps with
    | nil => simp at p1
    | cons a r => exact List.mem_cons_self
  have h0 := hmem _ hm0
  generalize rdOf ByteArray.empty ps 0 = q at h0
  obtain ⟨q1, q2⟩ := splitS_pos q SX (by decide)
  rw [show (⟨#[120]⟩ : ByteArray) = SX from rfl, impl_split q SX (by omega) (by decide), Option.bind_some, impl_nums k 3 _ (by omega) (fun z hz => by have := splitS_mem hz; omega) (by omega), Option.bind_some]
  obtain ⟨k, rfl⟩ : ∃ m, k = m + 1 := ⟨k - 1, by omega⟩
  have hf : ∀ l, impl_ParsePlan.j0 (k + 1) ps l true = some (0, 0, 0, [], false) := fun l => by
    rw [impl_ParsePlan.j0, if_pos rfl]
  cases numsW (splitS q SX) with
  | none =>
    refine ifn (by simp) ((hf _).trans ?_)
    split <;> rfl
  | some l =>
    dsimp only
    by_cases c3 : (l.length : Int) = 3
    · rw [if_pos c3]
      refine ifp (by rw [c3]; rfl) ?_
      by_cases c : t.size ≤ 200
      · rw [if_pos c]
        refine ifn (by omega) ?_
        by_cases c7 : (ps.length : Int) > 7
        · rw [decide_eq_true c7]
          refine (hf _).trans ?_
          cases hp : planV ⟨rd l 0, rd l 1, rd l 2⟩ (ps.drop 1) with
          | none => rfl
          | some m =>
            have hl := (planV_len hp).1
            rw [List.length_drop] at hl
            unfold finV mOk
            dsimp only
            rw [decide_eq_false (show ¬ (1 ≤ (m.length : Int) ∧ (m.length : Int) ≤ 6) by omega)]
            rfl
        · rw [decide_eq_false c7, impl_ParsePlan.j0, if_neg (by simp)]
          refine ifp (by omega) (ifp (by omega) (ifp (by omega) ?_))
          exact impl_plan_l0 ⟨rd l 0, rd l 1, rd l 2⟩ ps (by omega) (fun p hp => by have := hmem p hp; omega) (ps.length - 1) k 0 [] ⟨rd l 0, rd l 1, rd l 2⟩ (by omega) (by omega) (by simp) (fun x hx => by cases hx)
      · rw [if_neg c]
        exact ifp (by omega) (hf _)
    · rw [if_neg c3]
      refine ifn (by simp; omega) ((hf _).trans ?_)
      split <;> rfl

theorem ppV_small (t : ByteArray) : (ppV t).2.2.2.1.length ≤ 1000 ∧ ∀ x ∈ (ppV t).2.2.2.1, SmL x := by
  have nil_ : ∀ z : Int × Int × Int × (List S55) × Bool, z = (0, 0, 0, [], false) → z.2.2.2.1.length ≤ 1000 ∧ ∀ x ∈ z.2.2.2.1, SmL x := fun z hz => by rw [hz]; exact ⟨by simp, fun x hx => by cases hx⟩
  unfold ppV
  by_cases c : t.size ≤ 200
  · rw [if_pos c]
    obtain ⟨p1, p2⟩ := splitS_pos t S3 (by decide)
    cases numsW (splitS (rdOf ByteArray.empty (splitS t S3) 0) SX) with
    | none => exact nil_ _ rfl
    | some l =>
      dsimp only
      split
      · cases hp : planV ⟨rd l 0, rd l 1, rd l 2⟩ ((splitS t S3).drop 1) with
        | none => exact nil_ _ rfl
        | some m =>
          dsimp only
          unfold finV
          split
          · obtain ⟨q1, q2⟩ := planV_len hp
            rw [List.length_drop] at q1
            exact ⟨by show m.length ≤ 1000; omega, q2⟩
          · exact nil_ _ rfl
      · exact nil_ _ rfl
  · rw [if_neg c]; exact nil_ _ rfl

theorem mkI_eq : ∀ (n : Nat) (a : Int), 0 ≤ a → a + n ≤ 9223372036854775806 → mkI n a = a + n
  | 0, a, _, _ => by simp [mkI]
  | n + 1, a, h0, h1 => by
    rw [mkI, w64 (x := a + 1) (by omega) (by omega), mkI_eq n (a + 1) (by omega) (by omega)]; omega
theorem held_Il : ∀ (r p : List Int) (k : Nat) (x : Int), 0 ≤ x → x + r.length ≤ 9223372036854775806 → p.length + r.length ≤ 9000000000 → r.length < k → laws_heldIntS.l0 k (p ++ mkIl r x) x (p.length : Int) = some (mkI r.length x)
  | [], p, k, x, h0, h1, hp, hk => by
    obtain ⟨k, rfl⟩ : ∃ m, k = m + 1 := ⟨k - 1, by omega⟩
    simp only [laws_heldIntS.l0, mkIl, List.append_nil]
    exact ifn (by omega) rfl
  | y :: r, p, k, x, h0, h1, hp, hk => by
    obtain ⟨k, rfl⟩ : ∃ m, k = m + 1 := ⟨k - 1, by omega⟩
    have e1 : p ++ mkIl (y :: r) x = (p ++ [x]) ++ mkIl r (wrap64 (x + 1)) := by simp [mkIl]
    have e2 : rd ((p ++ [x]) ++ mkIl r (wrap64 (x + 1))) (p.length : Int) = x := by simp [rd]
    have h1' : x + (r.length + 1) ≤ 9223372036854775806 := by simpa using h1
    have hp' : p.length + (r.length + 1) ≤ 9000000000 := hp
    have hk' : r.length + 1 < k + 1 := hk
    have hw : wrap64 (x + 1) = x + 1 := w64 (by omega) (by omega)
    have ih := held_Il r (p ++ [x]) k (wrap64 (x + 1)) (by omega) (by omega) (by simp; omega) (by omega)
    have e3 : ((p ++ [x]).length : Int) = wrap64 ((p.length : Int) + 1) := by rw [w64 (by omega) (by omega)]; simp
    rw [e3] at ih
    rw [e1]
    simp only [laws_heldIntS.l0]
    rw [e2]
    exact ifp (by simp; omega) (ifp (by omega) (ifp rfl ih))
theorem held_I (l : List Int) (k : Nat) (x : Int) (h0 : 0 ≤ x) (h1 : x + l.length ≤ 9000000000) (hk : l.length < k) : laws_heldIntS.f k (mkIl l x) x = some (mkI l.length x) := held_Il l [] k x h0 (by omega) (by simp; omega) hk
theorem w7_eq (x : Int) (h0 : 0 ≤ x) (hx : x ≤ 8000000000) : wrap64 (wrap64 (wrap64 (wrap64 (wrap64 (wrap64 (wrap64 (x + 1) + 1) + 1) + 1) + 1) + 1) + 1) = x + 7 := by
  rw [w64 (x := x + 1) (by omega) (by omega), w64 (x := x + 1 + 1) (by omega) (by omega), w64 (x := x + 1 + 1 + 1) (by omega) (by omega), w64 (x := x + 1 + 1 + 1 + 1) (by omega) (by omega), w64 (x := x + 1 + 1 + 1 + 1 + 1) (by omega) (by omega), w64 (x := x + 1 + 1 + 1 + 1 + 1 + 1) (by omega) (by omega), w64 (x := x + 1 + 1 + 1 + 1 + 1 + 1 + 1) (by omega) (by omega)]
  omega
theorem mkLx_eq (y : S55) (x : Int) (h0 : 0 ≤ x) (hy : SmL y) (hx : x ≤ 8000000000) : mkLx y x = x + 7 + y.f7.length + y.f8.length := by
  obtain ⟨h7, h8⟩ := hy
  unfold mkLx
  rw [w7_eq x h0 hx, mkI_eq y.f7.length (x + 7) (by omega) (by omega), mkI_eq y.f8.length _ (by omega) (by omega)]
theorem held_Ll : ∀ (r p : List S55) (k : Nat) (x : Int), (∀ y ∈ r, SmL y) → 0 ≤ x → x + r.length * 2097160 ≤ 5000000000 → p.length + r.length ≤ 1000000 → r.length + 1048580 ≤ k → laws_heldLayerS.l0 k (p ++ mkLl r x) x (p.length : Int) = some (mkLn r x) ∧ x ≤ mkLn r x
  | [], p, k, x, hs, h0, h1, hp, hk => by
    obtain ⟨k, rfl⟩ : ∃ m, k = m + 1 := ⟨k - 1, by omega⟩
    simp only [laws_heldLayerS.l0, mkLl, List.append_nil]
    exact ⟨ifn (by omega) rfl, Int.le_refl _⟩
  | y :: r, p, k, x, hs, h0, h1, hp, hk => by
    obtain ⟨k, rfl⟩ : ∃ m, k = m + 1 := ⟨k - 1, by omega⟩
    have hy := hs y (by simp)
    have e1 : p ++ mkLl (y :: r) x = (p ++ [mkL1 y x]) ++ mkLl r (mkLx y x) := by simp [mkLl]
    have e2 : rd_T55 ((p ++ [mkL1 y x]) ++ mkLl r (mkLx y x)) (p.length : Int) = mkL1 y x := by simp [rd_T55]
    have h1' : x + (r.length + 1) * 2097160 ≤ 5000000000 := by simpa using h1
    have hp' : p.length + (r.length + 1) ≤ 1000000 := hp
    have hk' : r.length + 1 + 1048580 ≤ k + 1 := hk
    have hx8 : x ≤ 5000000000 := by
      have : (0 : Int) ≤ (r.length + 1) * 2097160 := by omega
      omega
    have hn := mkLx_eq y x h0 hy (by omega)
    obtain ⟨h7, h8⟩ := hy
    have ih := held_Ll r (p ++ [mkL1 y x]) k (mkLx y x) (fun z hz => hs z (by simp [hz])) (by omega) (by rw [hn]; omega) (by simp; omega) (by omega)
    have e3 : ((p ++ [mkL1 y x]).length : Int) = wrap64 ((p.length : Int) + 1) := by rw [w64 (by omega) (by omega)]; simp
    rw [e3] at ih
    have w7 := w7_eq x h0 (by omega)
    have a7 := held_I y.f7 k (x + 7) (by omega) (by omega) (by omega)
    have m7 := mkI_eq y.f7.length (x + 7) (by omega) (by omega)
    have a8 := held_I y.f8 k (x + 7 + y.f7.length) (by omega) (by omega) (by omega)
    have m8 := mkI_eq y.f8.length (x + 7 + y.f7.length) (by omega) (by omega)
    have ex : mkLx y x = mkI y.f8.length (x + 7 + y.f7.length) := by rw [hn, m8]
    refine ⟨?_, by rw [mkLn]; have := ih.2; omega⟩
    rw [e1]
    simp only [laws_heldLayerS.l0]
    rw [e2]
    have f7 : (mkL1 y x).f7 = mkIl y.f7 (x + 7) := by rw [mkL1, w7]
    have f8 : (mkL1 y x).f8 = mkIl y.f8 (x + 7 + y.f7.length) := by rw [mkL1, w7, m7]
    rw [f7, f8, w7]
    refine ifp (by simp; omega) (ifp (by omega) (ifp rfl (ifp rfl (ifp rfl (ifp rfl (ifp rfl (ifp rfl (ifp rfl (st a7 (ifn (by omega) ?_))))))))))
    rw [m7]
    refine st a8 (ifn (by omega) ?_)
    rw [← ex, mkLn]
    exact ih.1
theorem held_M (k : Nat) (h w c : Int) (l : List S55) (hs : ∀ y ∈ l, SmL y) (hl : l.length ≤ 1000) (hk : 1049590 ≤ k) : laws_heldModel.f k h w c (mkLl l 1) 1 = some (mkLn l 1) ∧ 0 ≤ mkLn l 1 := by
  obtain ⟨e, h1⟩ := held_Ll l [] k 1 hs (by omega) (by omega) (by simp; omega) (by omega)
  unfold laws_heldModel.f
  exact ⟨st e (ifn (by omega) rfl), by omega⟩


theorem FnExactParsePlan : laws_FnExactParsePlan.Pure := by
  intro a0 _
  obtain ⟨k, hk⟩ : ∃ k : Nat, 3000000000 ≤ k := ⟨_, Nat.le_refl _⟩
  refine ⟨k + 1 + 1, ?_⟩
  unfold laws_FnExactParsePlan.f
  by_cases c : (a0.size : Int) > 1048576
  · exact ifp c rfl
  refine ifn c ?_
  have e1 := spec_parse (k + 1 + 1) a0 (by omega)
  have e2 := impl_parse (k + 1 + 1) a0 (by omega) (by omega)
  have e3 := impl_parse (k + 1) a0 (by omega) (by omega)
  obtain ⟨hs1, hs2⟩ := ppV_small a0
  have ol : LB Ok55 (ppV a0).2.2.2.1 := ⟨by omega, fun x hx => ⟨⟨(hs2 x hx).1, fun _ _ => trivial⟩, ⟨(hs2 x hx).2, fun _ _ => trivial⟩⟩⟩
  have q1 := eqModel_ (k + 1 + 1) (ppV a0).1 (ppV a0).2.1 (ppV a0).2.2.1 _ ol (by omega)
  have q2 := eqModel_ (k + 1) (ppV a0).1 (ppV a0).2.1 (ppV a0).2.2.1 _ ol (by omega)
  obtain ⟨m1, p1⟩ := held_M (k + 1) (ppV a0).1 (ppV a0).2.1 (ppV a0).2.2.1 (ppV a0).2.2.2.1 hs2 hs1 (by omega)
  obtain ⟨m2, _⟩ := held_M k (ppV a0).1 (ppV a0).2.1 (ppV a0).2.2.1 (ppV a0).2.2.2.1 hs2 hs1 (by omega)
  refine st e1 (st e2 (st q1 (ifp rfl ?_)))
  rw [bne_self_eq_false, laws_FnExactParsePlan.j0]
  refine ifn (by simp) (st (a := (mkLn (ppV a0).2.2.2.1 1, mkLl (ppV a0).2.2.2.1 1)) rfl (st m1 (ifn (by omega) (ifp rfl (st e3 (st q2 (ifp rfl ?_)))))))
  rw [bne_self_eq_false, laws_FnExactParsePlan.j1]
  exact ifn (by simp) (st m2 (ifn (by omega) (ifp rfl rfl)))

end Go.Proofs.YtgolleldpmkkoaaGreatDoor.Pure
