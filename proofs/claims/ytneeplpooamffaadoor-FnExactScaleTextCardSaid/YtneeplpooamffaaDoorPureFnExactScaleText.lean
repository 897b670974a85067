/- What is left of the statement FnExactScaleText once the Go functions are Lean functions: the program's ScaleText and the reference's answer alike. No condition. -/
import Derived.Test.YtneeplpooamffaaDoorQFnExactScaleTextx1
import Derived.Test.YtneeplpooamffaaDoorAid
set_option linter.unusedVariables false
set_option linter.unusedSimpArgs false
namespace Go.Proofs.YtneeplpooamffaaDoor.Pure
open Go.RowKit Go.Proofs.YtneeplpooamffaaDoor.QFnExactScaleText Go.Proofs.YtneeplpooamffaaDoorW.PrintWords Go.Proofs.YtneeplpooamffaaDoorW.PrintLast Go.Proofs.YtneeplpooamffaaDoorW.PrintMore Go.Proofs.YtneeplpooamffaaDoorW.Aid


theorem spec_in (x lo hi : Int) : spec_l01In.f x lo hi = some (decide (lo ≤ x ∧ x ≤ hi)) := by
  unfold spec_l01In.f
  split
  · simp_all
  · simp; omega
theorem impl_in_ (x lo hi : Int) : impl_in.f x lo hi = some (decide (lo ≤ x ∧ x ≤ hi)) := by
  unfold impl_in.f
  split
  · simp_all
  · simp; omega

def sOk (n z : Int) : Bool := decide ((1 ≤ n ∧ n ≤ 1000000000) ∧ (-128 ≤ z ∧ z ≤ 127))
theorem sOk_iff {n z : Int} : sOk n z = true ↔ ((1 ≤ n ∧ n ≤ 1000000000) ∧ (-128 ≤ z ∧ z ≤ 127)) := by simp [sOk]

theorem spec_scaleOk (n z : Int) : spec_ScaleOk.f n z = some (sOk n z) := by
  unfold spec_ScaleOk.f spec_l02Int8.f
  simp only [spec_in, Option.bind_some]
  by_cases h : 1 ≤ n ∧ n ≤ 1000000000 <;> simp [sOk, h]
theorem impl_scaleOk (n z : Int) : impl_ScaleOk.f n z = some (sOk n z) := by
  unfold impl_ScaleOk.f
  simp only [impl_in_, Option.bind_some]
  by_cases h : 1 ≤ n ∧ n ≤ 1000000000 <;> simp [sOk, h]

/-- A text of bytes. -/
def tx (l : List UInt8) : ByteArray := ⟨l.toArray⟩
theorem tx_append (a b : List UInt8) : tx a ++ tx b = tx (a ++ b) := by
  apply ByteArray.ext
  simp [tx, ByteArray.data_append]
theorem tx_size (a : List UInt8) : (tx a).size = a.length := by simp [tx, ByteArray.size]
/-- The digits of a number above 0; none of 0. -/
def digs (u : Nat) : List UInt8 := if u = 0 then [] else Go.Lib.decDigits u
theorem digs_step {u : Nat} (h : u ≠ 0) : digs u = digs (u / 10) ++ [UInt8.ofNat (48 + u % 10)] := by
  unfold digs
  rw [if_neg h]
  by_cases c : u < 10
  · rw [if_pos (by omega), Go.Lib.decDigits, dif_pos c, Nat.mod_eq_of_lt c]
    rfl
  · rw [if_neg (by omega), Go.Lib.decDigits, dif_neg c]
theorem one_digit (d : Int) (h0 : 0 ≤ d) (h1 : d ≤ 9) : strOfNums [(wrap64 (48 + d)) % 256] = tx [UInt8.ofNat (48 + d.toNat)] := by
  rw [w64 (by omega) (by omega), Int.emod_eq_of_lt (by omega) (by omega)]
  have : (48 + d).toNat = 48 + d.toNat := by omega
  simp [strOfNums, tx, this]
theorem num_l0 (neg : Bool) : ∀ (n k u : Nat) (x : Int) (s : List UInt8), n < k → u < 10 ^ n → u ≤ 9223372036854775808 → x.natAbs = u → n + s.length ≤ 1000 →
    spec_l01Num.l0 k x (tx s) neg = some (tx ((if neg = true then [45] else []) ++ (digs u ++ s))) := by
  intro n
  induction n with
  | zero =>
    intro k u x s hk hu hu2 hx hs
    obtain ⟨k, rfl⟩ : ∃ m, k = m + 1 := ⟨k - 1, by omega⟩
    have hu0 : u = 0 := by omega
    subst hu0
    rw [spec_l01Num.l0]
    refine ifp (by omega) ?_
    cases neg with
    | true =>
      refine ifp rfl (ifp (by rw [tx_size]; omega) ?_)
      rw [show (⟨#[45]⟩ : ByteArray) = tx [45] from rfl, tx_append]
      rfl
    | false => exact ifn (by simp) rfl
  | succ n ih =>
    intro k u x s hk hu hu2 hx hs
    obtain ⟨k, rfl⟩ : ∃ m, k = m + 1 := ⟨k - 1, by omega⟩
    by_cases h0 : u = 0
    · subst h0
      rw [spec_l01Num.l0]
      refine ifp (by omega) ?_
      cases neg with
      | true =>
        refine ifp rfl (ifp (by rw [tx_size]; omega) ?_)
        rw [show (⟨#[45]⟩ : ByteArray) = tx [45] from rfl, tx_append]
        rfl
      | false => exact ifn (by simp) rfl
    · have hp : u < 10 ^ n * 10 := by rw [← Nat.pow_succ]; exact hu
      have hq : u / 10 < 10 ^ n := Nat.div_lt_of_lt_mul (by rw [Nat.mul_comm]; exact hp)
      have e : (if neg = true then [45] else []) ++ (digs u ++ s) = (if neg = true then [45] else []) ++ (digs (u / 10) ++ (UInt8.ofNat (48 + u % 10) :: s)) := by
        rw [digs_step h0]; simp
      have hx0 : ¬ x = 0 := by omega
      have ht : (Int.tdiv x 10).natAbs = x.natAbs / 10 := Int.natAbs_tdiv x 10
      have hm : (Int.tmod x 10).natAbs = x.natAbs % 10 := Int.natAbs_tmod x 10
      have g := ih k (u / 10) (Int.tdiv x 10) (UInt8.ofNat (48 + u % 10) :: s) (by omega) hq (by omega) (by omega) (by simp; omega)
      have hw : wrap64 (Int.tdiv x 10) = Int.tdiv x 10 := w64 (by omega) (by omega)
      rw [spec_l01Num.l0, e, hw]
      refine ifn hx0 ?_
      by_cases c : Int.tmod x 10 < 0
      · have hd : -(Int.tmod x 10) = ((u % 10 : Nat) : Int) := by omega
        refine ifp c (st rfl ?_)
        rw [w64 (x := -(Int.tmod x 10)) (by omega) (by omega), hd, one_digit _ (by omega) (by omega)]
        refine ifp (by rw [tx_size, tx_size]; simp; omega) ?_
        rw [tx_append]
        exact g
      · have hd : Int.tmod x 10 = ((u % 10 : Nat) : Int) := by omega
        refine ifn c (st rfl ?_)
        rw [hd, one_digit _ (by omega) (by omega)]
        refine ifp (by rw [tx_size, tx_size]; simp; omega) ?_
        rw [tx_append]
        exact g
theorem spec_num (k : Nat) (x : Int) (h0 : -9223372036854775808 ≤ x) (h1 : x ≤ 9223372036854775807) (hk : 100 ≤ k) : spec_l01Num.f k x = some (itoaS x) := by
  unfold spec_l01Num.f itoaS Go.Lib.itoa
  by_cases c : x = 0
  · subst c
    refine ifp rfl ?_
    rw [if_neg (by omega), Go.Lib.decDigits, dif_pos (by decide)]
    rfl
  · refine ifn c ?_
    have g := num_l0 (decide (x < 0)) 20 k x.natAbs x [] (by omega) (by omega) (by omega) rfl (by simp)
    refine (show spec_l01Num.l0 k x (tx []) _ = _ from g).trans ?_
    have hd : digs x.natAbs = Go.Lib.decDigits x.natAbs := by unfold digs; rw [if_neg (by omega)]
    rw [hd, List.append_nil]
    by_cases c2 : x < 0
    · rw [decide_eq_true c2, if_pos rfl, if_pos c2]
      rfl
    · rw [decide_eq_false c2, if_neg (by simp), if_neg c2, show x.natAbs = x.toNat by omega]
      rfl
theorem impl_num (x : Int) (h0 : -9223372036854775808 ≤ x) (h1 : x ≤ 9223372036854775807) : strconv_Itoa.f x = some (itoaS x) := ifp h0 (ifp h1 rfl)
theorem itoaS_size (x : Int) (h0 : -9223372036854775808 ≤ x) (h1 : x ≤ 9223372036854775807) : (itoaS x).size ≤ 21 := by
  have := Go.Lib.itoa_length_le x h0 h1
  simpa [itoaS, ByteArray.size] using this

def scText (n z : Int) : ByteArray := if sOk n z = true then itoaS n ++ (⟨#[64]⟩ : ByteArray) ++ itoaS z else ⟨#[]⟩
theorem sctext (k : Nat) (n z : Int) (hk : 200 ≤ k) : spec_ScaleText.f k n z = some (scText n z) ∧ impl_ScaleText.f n z = some (scText n z) := by
  by_cases h : sOk n z = true
  · obtain ⟨⟨a, b⟩, c, d⟩ := sOk_iff.1 h
    have l1 := itoaS_size n (by omega) (by omega)
    have l2 := itoaS_size z (by omega) (by omega)
    have hv : scText n z = itoaS n ++ (⟨#[64]⟩ : ByteArray) ++ itoaS z := if_pos h
    have e1 : (itoaS n ++ (⟨#[64]⟩ : ByteArray)).size = (itoaS n).size + 1 := by rw [ByteArray.size_append]; rfl
    rw [hv]
    exact ⟨st (spec_scaleOk n z) (ifp h (st (spec_num k n (by omega) (by omega) (by omega)) (ifp (by omega) (st (spec_num k z (by omega) (by omega) (by omega)) (ifp (by omega) rfl))))),
      st (impl_scaleOk n z) (ifp h (st (impl_num n (by omega) (by omega)) (ifp (by omega) (st (impl_num z (by omega) (by omega)) (ifp (by omega) rfl)))))⟩
  · have hv : scText n z = ⟨#[]⟩ := if_neg h
    rw [hv]
    exact ⟨st (spec_scaleOk n z) (ifn h rfl), st (impl_scaleOk n z) (ifn h rfl)⟩


theorem FnExactScaleText : laws_FnExactScaleText.Pure := by
  intro n z _ _
  refine ⟨200, ?_⟩
  obtain ⟨e1, e2⟩ := sctext 200 n z (by omega)
  unfold laws_FnExactScaleText.f
  exact st rfl (st e1 (st rfl (st e2 (ifp (by first | rfl | simp) rfl))))

end Go.Proofs.YtneeplpooamffaaDoor.Pure
