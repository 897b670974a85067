/- What is left of the statement FnExactSlotsText once the Go functions are Lean functions: the program's SlotsText and the reference's answer alike. No condition. -/
import Derived.Test.YtecnioodkihceaaDoorQFnExactSlotsTextx2
import Derived.Test.YtecnioodkihceaaDoorAid
set_option linter.unusedVariables false
set_option linter.unusedSimpArgs false
namespace Go.Proofs.YtecnioodkihceaaDoor.Pure
open Go.RowKit Go.Proofs.YtecnioodkihceaaDoor.QFnExactSlotsText Go.Proofs.YtecnioodkihceaaDoorW.PrintWords Go.Proofs.YtecnioodkihceaaDoorW.PrintLast Go.Proofs.YtecnioodkihceaaDoorW.PrintMore Go.Proofs.YtecnioodkihceaaDoorW.Aid


def LB {α : Type} (P : α → Prop) (l : List α) : Prop := l.length ≤ 1048576 ∧ ∀ x ∈ l, P x
theorem LB.map {α β : Type} {P : α → Prop} {Q : β → Prop} {f : α → β} {l : List α} (hf : ∀ x, P x → Q (f x)) (h : LB P l) : LB Q (l.map f) := ⟨by simpa using h.1, fun y hy => by obtain ⟨x, hx, rfl⟩ := List.mem_map.1 hy; exact hf x (h.2 x hx)⟩
theorem map_getD {α β : Type} (f : α → β) (l : List α) (i : Nat) (h : i < l.length) (d : α) (d' : β) : (l.map f).getD i d' = f (l.getD i d) := by simp [h]
def Ok33 (x : S33) : Prop := True
theorem szSlotS_ (l : List (S33)) (a : Int) (hw : WL Wt33 l) (h0 : 0 ≤ a) (h1 : a ≤ 1048576) : ∃ r, laws_szSlotS.f l a = some r ∧ (r < 0 ∨ (0 ≤ r ∧ r ≤ a ∧ LB Ok33 l)) := by
  have hm : l.length ≤ 9223372036854775807 := hw.1
  have he : wrap64 (a - (l.length : Int)) = a - l.length := w64 (by omega) (by omega)
  unfold laws_szSlotS.f
  rw [he]
  by_cases h : a - (l.length : Int) < 0
  · exact ⟨-1, if_pos h, Or.inl (by omega)⟩
  · rw [if_neg h]
    exact ⟨_, rfl, Or.inr ⟨by omega, by omega, by omega, fun _ _ => trivial⟩⟩
theorem toSlot_ (a0_0 : Int) (a0_1 : Int) (a0_2 : Int) (a0_3 : Int) : laws_toSlot.f a0_0 a0_1 a0_2 a0_3 = some (a0_0, a0_1, a0_2, a0_3) := by
  unfold laws_toSlot.f
  repeat (first | refine ifp rfl ?_ | refine ifp (by omega) ?_ | refine ifp (by simp) ?_ | refine ifn (by simp) ?_ | rfl)
def cv33_30 (x : S33) : S30 := ⟨x.f0, x.f1, x.f2, x.f3⟩
def Ok30 (x : S30) : Prop := True
theorem ok_cv33_30 (x : S33) (h : Ok33 x) : Ok30 (cv33_30 x) := trivial
theorem toSlotS_l0 (l : List (S33)) (ho : LB Ok33 l) : ∀ (d k i : Nat) (y : List (S30)), i + d = l.length → d + 0 < k → y.length = l.length → y.take i = (l.map cv33_30).take i → laws_toSlotS.l0 k l y (i : Int) = some (l.map cv33_30) := by
  have hm := ho.1
  have hc : (l.map cv33_30).length = l.length := by simp
  intro d
  induction d with
  | zero =>
    intro k i y hi hk hy ht
    obtain ⟨k, rfl⟩ : ∃ m, k = m + 1 := ⟨k - 1, by omega⟩
    simp only [laws_toSlotS.l0]
    rw [if_neg (by omega), take_full hy hc (by rw [show l.length = i by omega]; exact ht)]
  | succ d ih =>
    intro k i y hi hk hy ht
    obtain ⟨k, rfl⟩ : ∃ m, k = m + 1 := ⟨k - 1, by omega⟩
    have hx := ho.2 _ (mem_getD l z33 i (by omega))
    simp only [laws_toSlotS.l0, rd_L5, rd_T30, rd_T33, rd_natD, Int.toNat_natCast]
    repeat (first | (refine st (toSlot_ _ _ _ _) ?_; (try dsimp only)) | refine ifp rfl ?_ | refine ifp (by omega) ?_ | refine ifp (by simp) ?_ | refine ifn (by simp) ?_)
    rw [w64_succ i (by omega)]
    refine ih k (i + 1) _ (by omega) (by omega) (by simpa using hy) ?_
    rw [take_set_succ _ _ _ (by omega), ht, take_succ_getD (l.map cv33_30) z30 i (by omega), map_getD _ _ _ (by omega) z33]
    rfl
theorem toSlotS_ (k : Nat) (l : List (S33)) (ho : LB Ok33 l) (hk : 1048580 ≤ k) : laws_toSlotS.f k l = some (l.map cv33_30) := by
  have hm := ho.1
  unfold laws_toSlotS.f
  rw [if_pos (by omega), if_pos (by simp; omega)]
  exact toSlotS_l0 l ho l.length k 0 _ (by omega) (by omega) (by simp) (by simp)
theorem eqSlot_ (a0_0 : Int) (a0_1 : Int) (a0_2 : Int) (a0_3 : Int) : laws_eqSlot.f a0_0 a0_1 a0_2 a0_3 a0_0 a0_1 a0_2 a0_3 = some true := by
  unfold laws_eqSlot.f
  repeat (first | refine ifp rfl ?_ | refine ifp (by omega) ?_ | refine ifp (by simp) ?_ | refine ifn (by simp) ?_ | rfl)
theorem eqSlotS_l0 (l : List (S30)) (ho : LB Ok30 l) : ∀ (d k i : Nat), i + d = l.length → d + 0 < k → laws_eqSlotS.l0 k l l (i : Int) = some true := by
  have hm := ho.1
  intro d
  induction d with
  | zero =>
    intro k i hi hk
    obtain ⟨k, rfl⟩ : ∃ m, k = m + 1 := ⟨k - 1, by omega⟩
    simp only [laws_eqSlotS.l0]
    rw [if_neg (by omega)]
  | succ d ih =>
    intro k i hi hk
    obtain ⟨k, rfl⟩ : ∃ m, k = m + 1 := ⟨k - 1, by omega⟩
    have hx := ho.2 _ (mem_getD l z30 i (by omega))
    simp only [laws_eqSlotS.l0, rd_L5, rd_T30, rd_T33, rd_natD, Int.toNat_natCast]
    repeat (first | (refine st (eqSlot_ _ _ _ _) ?_; (try dsimp only)) | refine ifp rfl ?_ | refine ifp (by omega) ?_ | refine ifp (by simp) ?_ | refine ifn (by simp) ?_)
    rw [w64_succ i (by omega)]
    exact ih k (i + 1) (by omega) (by omega)
theorem eqSlotS_ (k : Nat) (l : List (S30)) (ho : LB Ok30 l) (hk : 1048580 ≤ k) : laws_eqSlotS.f k l l = some true := by
  have hm := ho.1
  unfold laws_eqSlotS.f
  rw [if_pos rfl]
  exact eqSlotS_l0 l ho l.length k 0 (by omega) (by omega)

/-- A text of bytes. -/
def tx (l : List UInt8) : ByteArray := ⟨l.toArray⟩
theorem tx_append (a b : List UInt8) : tx a ++ tx b = tx (a ++ b) := by
  apply ByteArray.ext
  simp [tx, ByteArray.data_append]
theorem tx_size (a : List UInt8) : (tx a).size = a.length := by simp [tx, ByteArray.size]
/-- The digits of a number above 0; none of 0. -/
def digs (u : Nat) : List UInt8 := if u = 0 then [] else Go.Lib.decDigits u
theorem digs_step {u : Nat} (h : u ≠ 0) : digs u = digs (u / 10) ++ [UInt8.ofNat (48 + u % 10)] := by
  unfold digs
  rw [if_neg h]
  by_cases c : u < 10
  · rw [if_pos (by omega), Go.Lib.decDigits, dif_pos c, Nat.mod_eq_of_lt c]
    rfl
  · rw [if_neg (by omega), Go.Lib.decDigits, dif_neg c]
theorem one_digit (d : Int) (h0 : 0 ≤ d) (h1 : d ≤ 9) : strOfNums [(wrap64 (48 + d)) % 256] = tx [UInt8.ofNat (48 + d.toNat)] := by
  rw [w64 (by omega) (by omega), Int.emod_eq_of_lt (by omega) (by omega)]
  have : (48 + d).toNat = 48 + d.toNat := by omega
  simp [strOfNums, tx, this]
theorem num_l0 (neg : Bool) : ∀ (n k u : Nat) (x : Int) (s : List UInt8), n < k → u < 10 ^ n → u ≤ 9223372036854775808 → x.natAbs = u → n + s.length ≤ 1000 →
    spec_l01Num.l0 k x (tx s) neg = some (tx ((if neg = true then [45] else []) ++ (digs u ++ s))) := by
  intro n
  induction n with
  | zero =>
    intro k u x s hk hu hu2 hx hs
    obtain ⟨k, rfl⟩ : ∃ m, k = m + 1 := ⟨k - 1, by omega⟩
    have hu0 : u = 0 := by omega
    subst hu0
    rw [spec_l01Num.l0]
    refine ifp (by omega) ?_
    cases neg with
    | true =>
      refine ifp rfl (ifp (by rw [tx_size]; omega) ?_)
      rw [show (⟨#[45]⟩ : ByteArray) = tx [45] from rfl, tx_append]
      rfl
    | false => exact ifn (by simp) rfl
  | succ n ih =>
    intro k u x s hk hu hu2 hx hs
    obtain ⟨k, rfl⟩ : ∃ m, k = m + 1 := ⟨k - 1, by omega⟩
    by_cases h0 : u = 0
    · subst h0
      rw [spec_l01Num.l0]
      refine ifp (by omega) ?_
      cases neg with
      | true =>
        refine ifp rfl (ifp (by rw [tx_size]; omega) ?_)
        rw [show (⟨#[45]⟩ : ByteArray) = tx [45] from rfl, tx_append]
        rfl
      | false => exact ifn (by simp) rfl
    · have hp : u < 10 ^ n * 10 := by rw [← Nat.pow_succ]; exact hu
      have hq : u / 10 < 10 ^ n := Nat.div_lt_of_lt_mul (by rw [Nat.mul_comm]; exact hp)
      have e : (if neg = true then [45] else []) ++ (digs u ++ s) = (if neg = true then [45] else []) ++ (digs (u / 10) ++ (UInt8.ofNat (48 + u % 10) :: s)) := by
        rw [digs_step h0]; simp
      have hx0 : ¬ x = 0 := by omega
      have ht : (Int.tdiv x 10).natAbs = x.natAbs / 10 := Int.natAbs_tdiv x 10
      have hm : (Int.tmod x 10).natAbs = x.natAbs % 10 := Int.natAbs_tmod x 10
      have g := ih k (u / 10) (Int.tdiv x 10) (UInt8.ofNat (48 + u % 10) :: s) (by omega) hq (by omega) (by omega) (by simp; omega)
      have hw : wrap64 (Int.tdiv x 10) = Int.tdiv x 10 := w64 (by omega) (by omega)
      rw [spec_l01Num.l0, e, hw]
      refine ifn hx0 ?_
      by_cases c : Int.tmod x 10 < 0
      · have hd : -(Int.tmod x 10) = ((u % 10 : Nat) : Int) := by omega
        refine ifp c (st rfl ?_)
        rw [w64 (x := -(Int.tmod x 10)) (by omega) (by omega), hd, one_digit _ (by omega) (by omega)]
        refine ifp (by rw [tx_size, tx_size]; simp; omega) ?_
        rw [tx_append]
        exact g
      · have hd : Int.tmod x 10 = ((u % 10 : Nat) : Int) := by omega
        refine ifn c (st rfl ?_)
        rw [hd, one_digit _ (by omega) (by omega)]
        refine ifp (by rw [tx_size, tx_size]; simp; omega) ?_
        rw [tx_append]
        exact g
theorem spec_num (k : Nat) (x : Int) (h0 : -9223372036854775808 ≤ x) (h1 : x ≤ 9223372036854775807) (hk : 100 ≤ k) : spec_l01Num.f k x = some (itoaS x) := by
  unfold spec_l01Num.f itoaS Go.Lib.itoa
  by_cases c : x = 0
  · subst c
    refine ifp rfl ?_
    rw [if_neg (by omega), Go.Lib.decDigits, dif_pos (by decide)]
    rfl
  · refine ifn c ?_
    have g := num_l0 (decide (x < 0)) 20 k x.natAbs x [] (by omega) (by omega) (by omega) rfl (by simp)
    refine (show spec_l01Num.l0 k x (tx []) _ = _ from g).trans ?_
    have hd : digs x.natAbs = Go.Lib.decDigits x.natAbs := by unfold digs; rw [if_neg (by omega)]
    rw [hd, List.append_nil]
    by_cases c2 : x < 0
    · rw [decide_eq_true c2, if_pos rfl, if_pos c2]
      rfl
    · rw [decide_eq_false c2, if_neg (by simp), if_neg c2, show x.natAbs = x.toNat by omega]
      rfl
theorem impl_num (x : Int) (h0 : -9223372036854775808 ≤ x) (h1 : x ≤ 9223372036854775807) : strconv_Itoa.f x = some (itoaS x) := ifp h0 (ifp h1 rfl)
theorem itoaS_size (x : Int) (h0 : -9223372036854775808 ≤ x) (h1 : x ≤ 9223372036854775807) : (itoaS x).size ≤ 21 := by
  have := Go.Lib.itoa_length_le x h0 h1
  simpa [itoaS, ByteArray.size] using this

def In64 (x : Int) : Prop := -9223372036854775808 ≤ x ∧ x ≤ 9223372036854775807
def OkB (s : S30) : Prop := In64 s.f0 ∧ In64 s.f1 ∧ In64 s.f2 ∧ In64 s.f3
def slotB (s : S30) : List UInt8 := Go.Lib.itoa s.f0 ++ [64] ++ Go.Lib.itoa s.f1 ++ [58] ++ Go.Lib.itoa s.f2 ++ [45] ++ Go.Lib.itoa s.f3
def restB (l : List S30) : List UInt8 := (l.map fun s => (32 :: slotB s)).flatten
def textB (l : List S30) : List UInt8 := match l with | [] => [] | x :: r => slotB x ++ restB r
theorem it_tx (x : Int) : itoaS x = tx (Go.Lib.itoa x) := rfl
theorem b64_ : (⟨#[64]⟩ : ByteArray) = tx [64] := rfl
theorem b58_ : (⟨#[58]⟩ : ByteArray) = tx [58] := rfl
theorem b45_ : (⟨#[45]⟩ : ByteArray) = tx [45] := rfl
theorem b32_ : (⟨#[32]⟩ : ByteArray) = tx [32] := rfl
theorem itoa_len (x : Int) (h : In64 x) : (Go.Lib.itoa x).length ≤ 21 := by have := Go.Lib.itoa_length_le x h.1 h.2; omega
theorem slotB_len (s : S30) (h : OkB s) : (slotB s).length ≤ 87 := by
  obtain ⟨a, b, c, d⟩ := h
  have := itoa_len _ a; have := itoa_len _ b; have := itoa_len _ c; have := itoa_len _ d
  simp only [slotB, List.length_append, List.length_cons, List.length_nil]
  omega
theorem restB_len : ∀ (l : List S30), (∀ x ∈ l, OkB x) → (restB l).length ≤ 88 * l.length
  | [], _ => by simp [restB]
  | x :: r, h => by
    have h1 := slotB_len x (h x (by simp))
    have h2 := restB_len r (fun y hy => h y (by simp [hy]))
    have e : restB (x :: r) = 32 :: slotB x ++ restB r := by simp [restB]
    rw [e]
    simp only [List.length_append, List.length_cons]
    omega
theorem textB_len (l : List S30) (h : ∀ x ∈ l, OkB x) : (textB l).length ≤ 88 * l.length := by
  cases l with
  | nil => simp [textB]
  | cons x r =>
    have h1 := slotB_len x (h x (by simp))
    have h2 := restB_len r (fun y hy => h y (by simp [hy]))
    simp only [textB, List.length_append, List.length_cons]
    omega
theorem drop_at (l : List S30) (i : Nat) (h : i < l.length) : l.drop i = l.getD i z30 :: l.drop (i + 1) := by
  rw [List.drop_eq_getElem_cons h, List.getD_eq_getElem?_getD, List.getElem?_eq_getElem h]
  rfl
theorem spec_slot (k : Nat) (l : List S30) (i : Nat) (s : List UInt8) (hi : i < l.length) (ho : OkB (l.getD i z30)) (hk : 100 ≤ k) (hs : s.length ≤ 1000000000) (hl : l.length ≤ 1048576) :
    spec_SlotsText.j1 (k + 1) l (tx s) (i : Int) = spec_SlotsText.l0 k l (tx (s ++ slotB (l.getD i z30))) ((i + 1 : Nat) : Int) := by
  simp only [spec_SlotsText.j1, rd_T30, Int.toNat_natCast]
  generalize l.getD i z30 = x at ho ⊢
  obtain ⟨a, b, c, d⟩ := ho
  have l0 := itoa_len _ a; have l1 := itoa_len _ b; have l2 := itoa_len _ c; have l3 := itoa_len _ d
  obtain ⟨a0, a1⟩ := a; obtain ⟨b0, b1⟩ := b; obtain ⟨c0, c1⟩ := c; obtain ⟨d0, d1⟩ := d
  refine ifp (by omega) (ifp (by omega) ?_)
  repeat (first | refine ifp (by (try simp only [List.length_append, List.length_cons, List.length_nil]); omega) ?_ | (refine st (spec_num k _ (by assumption) (by assumption) hk) ?_; simp only [it_tx, b64_, b58_, b45_, tx_append, tx_size]))
  rw [w64_succ i (by omega)]
  simp only [slotB, List.append_assoc]
theorem spec_slots_l0 (l : List S30) (hl : l.length ≤ 1048576) (ho : ∀ x ∈ l, OkB x) : ∀ (d k i : Nat) (s : List UInt8), i + d = l.length → 2 * d + 200 < k → 1 ≤ i → s.length ≤ 100 * i →
    spec_SlotsText.l0 k l (tx s) (i : Int) = some (tx (s ++ restB (l.drop i))) := by
  intro d
  induction d with
  | zero =>
    intro k i s hi hk h1 hs
    obtain ⟨k, rfl⟩ : ∃ m, k = m + 1 := ⟨k - 1, by omega⟩
    rw [spec_SlotsText.l0, List.drop_eq_nil_of_le (by omega)]
    refine ifn (by omega) ?_
    simp [restB]
  | succ d ih =>
    intro k i s hi hk h1 hs
    obtain ⟨k, rfl⟩ : ∃ m, k = m + 2 := ⟨k - 2, by omega⟩
    have hx := ho _ (mem_getD l z30 i (by omega))
    have h2 := slotB_len _ hx
    rw [spec_SlotsText.l0]
    refine ifp (by omega) (ifp (by omega) (ifp (by rw [tx_size]; omega) ?_))
    rw [b32_, tx_append, spec_slot k l i (s ++ [32]) (by omega) hx (by omega) (by simp only [List.length_append, List.length_cons, List.length_nil]; omega) hl,
      ih k (i + 1) _ (by omega) (by omega) (by omega) (by simp only [List.length_append, List.length_cons, List.length_nil]; omega), drop_at l i (by omega)]
    simp [restB]
theorem spec_slots (k : Nat) (l : List S30) (hl : l.length ≤ 1048576) (ho : ∀ x ∈ l, OkB x) (hk : 3000000 ≤ k) : spec_SlotsText.f k l = some (tx (textB l)) := by
  unfold spec_SlotsText.f
  obtain ⟨k, rfl⟩ : ∃ m, k = m + 2 := ⟨k - 2, by omega⟩
  rw [spec_SlotsText.l0]
  cases l with
  | nil => exact ifn (by simp) rfl
  | cons x r =>
    refine ifp (by simp only [List.length_cons]; omega) (ifn (by omega) ?_)
    have hx := ho x (by simp)
    have h2 := slotB_len _ hx
    have e1 := spec_slot k (x :: r) 0 [] (by simp) hx (by omega) (by simp) hl
    have e2 := spec_slots_l0 (x :: r) hl ho r.length k 1 (slotB x) (by simp only [List.length_cons]; omega) (by simp only [List.length_cons] at hl; omega) (by omega) (by omega)
    exact e1.trans (e2.trans rfl)
theorem impl_slots_l0 (l : List S30) (hl : l.length ≤ 1048576) (ho : ∀ x ∈ l, OkB x) : ∀ (d k i : Nat) (y : List ByteArray), i + d = l.length → d + 100 < k → y.length = i →
    impl_SlotsText.l0 k y l (l.length : Int) (i : Int) = (strings_Join.f (y ++ (l.drop i).map fun s => tx (slotB s)) (⟨#[32]⟩ : ByteArray)).bind fun t => some t := by
  intro d
  induction d with
  | zero =>
    intro k i y hi hk hy
    obtain ⟨k, rfl⟩ : ∃ m, k = m + 1 := ⟨k - 1, by omega⟩
    rw [impl_SlotsText.l0, List.drop_eq_nil_of_le (by omega)]
    refine ifn (by omega) ?_
    simp
  | succ d ih =>
    intro k i y hi hk hy
    obtain ⟨k, rfl⟩ : ∃ m, k = m + 1 := ⟨k - 1, by omega⟩
    have hx := ho _ (mem_getD l z30 i (by omega))
    rw [drop_at l i (by omega)]
    simp only [impl_SlotsText.l0, rd_T30, Int.toNat_natCast]
    have e : y ++ (l.getD i z30 :: l.drop (i + 1)).map (fun s => tx (slotB s)) = (y ++ [tx (slotB (l.getD i z30))]) ++ (l.drop (i + 1)).map (fun s => tx (slotB s)) := by simp
    rw [e]
    generalize l.getD i z30 = x at hx ⊢
    obtain ⟨a, b, c, d'⟩ := hx
    have l0 := itoa_len _ a; have l1 := itoa_len _ b; have l2 := itoa_len _ c; have l3 := itoa_len _ d'
    obtain ⟨a0, a1⟩ := a; obtain ⟨b0, b1⟩ := b; obtain ⟨c0, c1⟩ := c; obtain ⟨d0, d1⟩ := d'
    refine ifp (by omega) (ifp (by omega) (ifp (by omega) ?_))
    repeat (first | refine ifp (by (try simp only [List.length_append, List.length_cons, List.length_nil]); omega) ?_ | (refine st (impl_num _ (by assumption) (by assumption)) ?_; simp only [it_tx, b64_, b58_, b45_, tx_append, tx_size]))
    rw [w64_succ i (by omega)]
    refine (ih k (i + 1) _ (by omega) (by omega) (by simp [hy])).trans ?_
    simp only [slotB, List.append_assoc]
theorem join_text (l : List S30) : joinS (l.map fun s => tx (slotB s)) (⟨#[32]⟩ : ByteArray) = tx (textB l) := by
  cases l with
  | nil => rfl
  | cons x r =>
    unfold joinS textB
    simp only [List.map_cons, Go.Lib.join_cons, Go.Lib.joinTail, List.map_map, restB, tx]
    rfl
theorem impl_slots (k : Nat) (l : List S30) (hl : l.length ≤ 1048576) (ho : ∀ x ∈ l, OkB x) (hk : 3000000 ≤ k) : impl_SlotsText.f k l = some (tx (textB l)) := by
  unfold impl_SlotsText.f
  have h := impl_slots_l0 l hl ho l.length k 0 [] (by omega) (by omega) rfl
  refine h.trans ?_
  have hb := textB_len l ho
  rw [List.drop_zero, List.nil_append]
  unfold strings_Join.f
  rw [join_text, if_pos (by rw [List.length_map]; omega), if_pos (by rw [tx_size]; omega)]
  rfl


theorem FnExactSlotsText : laws_FnExactSlotsText.Pure := by
  intro l hl
  obtain ⟨k, hk⟩ : ∃ k : Nat, 1000000000 ≤ k := ⟨_, Nat.le_refl _⟩
  refine ⟨k, ?_⟩
  unfold laws_FnExactSlotsText.f
  obtain ⟨r, e, h⟩ := szSlotS_ l 1048576 hl (by omega) (by omega)
  rw [e]; simp only [Option.bind_some]; clear e
  rcases h with h | ⟨h0, h1, ho⟩
  · rw [if_pos h]
  rw [if_neg (by omega)]

  have ho2 : LB Ok30 (l.map cv33_30) := ho.map ok_cv33_30
  have hB : ∀ x ∈ l.map cv33_30, OkB x := fun x hx => by
    obtain ⟨y, hy, rfl⟩ := List.mem_map.1 hx
    obtain ⟨a, b, c, d⟩ := hl.2 y hy
    exact ⟨WI.i64 a, WI.i64 b, WI.i64 c, WI.i64 d⟩
  have e1 := spec_slots k (l.map cv33_30) ho2.1 hB (by omega)
  have e2 := impl_slots k (l.map cv33_30) ho2.1 hB (by omega)
  repeat (first
    | (refine st e1 ?_; (try dsimp only))
    | (refine st e2 ?_; (try dsimp only))
    | (refine st (toSlotS_ _ _ (by assumption) (by omega)) ?_; (try dsimp only))
    | (refine st (eqSlotS_ _ _ (by assumption) (by omega)) ?_; (try dsimp only))
    | refine ifp rfl ?_
    | refine ifn (by omega) ?_
    | refine ifp (by omega) ?_
    | refine ifn (by simp) ?_
    | refine ifp (by simp) ?_
    | rfl)

end Go.Proofs.YtecnioodkihceaaDoor.Pure
