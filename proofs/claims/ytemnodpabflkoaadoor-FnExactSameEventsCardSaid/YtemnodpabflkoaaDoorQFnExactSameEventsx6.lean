/- The Go functions that the statement FnExactSameEvents reaches, as Lean functions, each with a proof that the call does what its function says; laid by a program of this session. No condition. -/
import Derived.Test.YtemnodpabflkoaaDoorQFnExactSameEventsx0
import Derived.Test.YtemnodpabflkoaaDoorQFnExactSameEventsx4
import Derived.Test.YtemnodpabflkoaaDoorQFnExactSameEventsx5
namespace Go.Proofs.YtemnodpabflkoaaDoor.QFnExactSameEvents
open Go.RowKit Go.Proofs.YtemnodpabflkoaaDoorW.PrintWords Go.Proofs.YtemnodpabflkoaaDoorW.PrintLast Go.Proofs.YtemnodpabflkoaaDoorW.PrintMore
attribute [local go_sem] max2_int min2_int max_two min_two max_three min_three max_four min_four   -- for this text's walks alone
set_option linter.unusedVariables false
set_option linter.unusedSimpArgs false

/-! ### impl_EventText: function 9 -/
def impl_EventText.f (k : Nat) (a0_0 : Int) (a0_1 : Int) (a0_2 : Int) (a0_3 : Int) (a0_4 : Int) (a0_5 : Int) (l0_6 : List Int) : Option (ByteArray) := (strconv_Itoa.f a0_1).bind fun t204 => ((strconv_Itoa.f a0_2).bind fun t205 => (if a0_0 = 0 then (if 5 + t204.size ≤ 9223372036854775807 then (if ((⟨#[108, 111, 97, 100, 32]⟩ : ByteArray) ++ t204).size + 6 ≤ 9223372036854775807 then (if (((⟨#[108, 111, 97, 100, 32]⟩ : ByteArray) ++ t204) ++ (⟨#[32, 99, 111, 115, 116, 32]⟩ : ByteArray)).size + t205.size ≤ 9223372036854775807 then (some ((((⟨#[108, 111, 97, 100, 32]⟩ : ByteArray) ++ t204) ++ (⟨#[32, 99, 111, 115, 116, 32]⟩ : ByteArray)) ++ t205)) else (none)) else (none)) else (none)) else (if a0_0 = 1 then (if 5 + t204.size ≤ 9223372036854775807 then (some ((⟨#[100, 114, 111, 112, 32]⟩ : ByteArray) ++ t204)) else (none)) else (if a0_0 = 2 then (if 6 + t204.size ≤ 9223372036854775807 then (if ((⟨#[97, 100, 109, 105, 116, 32]⟩ : ByteArray) ++ t204).size + 5 ≤ 9223372036854775807 then (if (((⟨#[97, 100, 109, 105, 116, 32]⟩ : ByteArray) ++ t204) ++ (⟨#[32, 100, 117, 101, 32]⟩ : ByteArray)).size + t205.size ≤ 9223372036854775807 then (some ((((⟨#[97, 100, 109, 105, 116, 32]⟩ : ByteArray) ++ t204) ++ (⟨#[32, 100, 117, 101, 32]⟩ : ByteArray)) ++ t205)) else (none)) else (none)) else (none)) else (if a0_0 = 3 then (if 5 + t204.size ≤ 9223372036854775807 then (if ((⟨#[100, 111, 110, 101, 32]⟩ : ByteArray) ++ t204).size + 4 ≤ 9223372036854775807 then (if (((⟨#[100, 111, 110, 101, 32]⟩ : ByteArray) ++ t204) ++ (⟨#[32, 97, 116, 32]⟩ : ByteArray)).size + t205.size ≤ 9223372036854775807 then (if ((((⟨#[100, 111, 110, 101, 32]⟩ : ByteArray) ++ t204) ++ (⟨#[32, 97, 116, 32]⟩ : ByteArray)) ++ t205).size + 2 ≤ 9223372036854775807 then ((impl_TensorText.f k a0_3 a0_4 a0_5 l0_6).bind fun t206 => (if (((((⟨#[100, 111, 110, 101, 32]⟩ : ByteArray) ++ t204) ++ (⟨#[32, 97, 116, 32]⟩ : ByteArray)) ++ t205) ++ (⟨#[58, 32]⟩ : ByteArray)).size + t206.size ≤ 9223372036854775807 then (some ((((((⟨#[100, 111, 110, 101, 32]⟩ : ByteArray) ++ t204) ++ (⟨#[32, 97, 116, 32]⟩ : ByteArray)) ++ t205) ++ (⟨#[58, 32]⟩ : ByteArray)) ++ t206)) else (none))) else (none)) else (none)) else (none)) else (none)) else (if a0_0 = 4 then (if 7 + t204.size ≤ 9223372036854775807 then (some ((⟨#[99, 97, 110, 99, 101, 108, 32]⟩ : ByteArray) ++ t204)) else (none)) else (if a0_0 = 5 then (if 7 + t204.size ≤ 9223372036854775807 then (if ((⟨#[114, 101, 102, 117, 115, 101, 32]⟩ : ByteArray) ++ t204).size + 6 ≤ 9223372036854775807 then (if (((⟨#[114, 101, 102, 117, 115, 101, 32]⟩ : ByteArray) ++ t204) ++ (⟨#[32, 99, 111, 100, 101, 32]⟩ : ByteArray)).size + t205.size ≤ 9223372036854775807 then (some ((((⟨#[114, 101, 102, 117, 115, 101, 32]⟩ : ByteArray) ++ t204) ++ (⟨#[32, 99, 111, 100, 101, 32]⟩ : ByteArray)) ++ t205)) else (none)) else (none)) else (none)) else (some (⟨#[]⟩ : ByteArray)))))))))
theorem impl_EventText.mono : ∀ a0 a1 a2 a3 a4 a5 a6 k, LeO (impl_EventText.f k a0 a1 a2 a3 a4 a5 a6) (impl_EventText.f (k + 1) a0 a1 a2 a3 a4 a5 a6) := by
 intro a0 a1 a2 a3 a4 a5 a6 k
 unfold impl_EventText.f
 repeat' first
   | (with_reducible exact impl_TensorText.mono _ _ _ _ _)
   | (with_reducible exact LeO.refl _)
   | (with_reducible exact LeO.none _)
   | (with_reducible refine LeO.ite ?_ ?_)
   | (with_reducible refine LeO.bind ?_ (fun _ => ?_))
   | exact impl_TensorText.mono _ _ _ _ _
   | exact LeO.none _
   | refine LeO.ite ?_ ?_
   | refine LeO.bind ?_ (fun _ => ?_)
def impl_EventText.T1 : Bool × List (List Nat × List Nat) := (true, [([], []), ([0], [0]), ([1], [1]), ([], []), ([3], [3]), ([4, 2], [4]), ([2, 5, 0, 1, 2], [2]), ([5, 6, 0, 1, 2, 3, 4, 5, 6], [5])])
def impl_EventText.B1 : List Nat := [0, 1, 3, 0, 8, 31, 63, 127]
theorem impl_EventText.tab1 : rtab .any (opsOf Tryd.f9 1) = impl_EventText.T1 := by kernel_rfl
theorem impl_EventText.bits1 : waitsOk impl_EventText.T1.2 impl_EventText.B1 = true := by kernel_rfl
set_option maxHeartbeats 8000000 in
set_option maxRecDepth 100000 in
theorem impl_EventText.calls (k : Nat) (a0_0 : Int) (a0_1 : Int) (a0_2 : Int) (a0_3 : Int) (a0_4 : Int) (a0_5 : Int) (A0_6 : Option Addr) (c0_6 : Nat) (l0_6 : List Int) (r : ByteArray) (w : World) (hr0_6 : Kd.C (Kd.int .i64) w A0_6 l0_6.length l0_6) (hc0_6 : l0_6.length ≤ c0_6) (h : impl_EventText.f k a0_0 a0_1 a0_2 a0_3 a0_4 a0_5 l0_6 = some r) (tb_ : Tab w := by exact Tab.on HTab_.out (by repeat (first | exact HB.out | apply below_alloc | apply pw_below_drewN | apply below_drew1 | (refine below_cell_ ?_ (by apply Aside0.out; assumption))))) :
  Calls Tryd.prog 9 #[.agg #[.int .i64 a0_0, .int .i64 a0_1, .int .i64 a0_2, .int .i64 a0_3, .int .i64 a0_4, .int .i64 a0_5, .slice A0_6 l0_6.length c0_6]] w fun e w' => e = .returned (.string r) ∧ Below w.heap.size w w' := by
 have HTab_ := Aside0.mk tb_
 clear tb_
 have hu35 := Tryd.underlying35
 have hu33 := Tryd.underlying33
 have HR0_6 := Aside0.mk hr0_6
 have HC0_6 := Aside0.mk hc0_6
 clear hr0_6 hc0_6
 have HB := Aside0.mk (Below.refl w.heap.size w)
 have H : ((strconv_Itoa.f a0_1).bind fun t204 => ((strconv_Itoa.f a0_2).bind fun t205 => (if a0_0 = 0 then (if 5 + t204.size ≤ 9223372036854775807 then (if ((⟨#[108, 111, 97, 100, 32]⟩ : ByteArray) ++ t204).size + 6 ≤ 9223372036854775807 then (if (((⟨#[108, 111, 97, 100, 32]⟩ : ByteArray) ++ t204) ++ (⟨#[32, 99, 111, 115, 116, 32]⟩ : ByteArray)).size + t205.size ≤ 9223372036854775807 then (some ((((⟨#[108, 111, 97, 100, 32]⟩ : ByteArray) ++ t204) ++ (⟨#[32, 99, 111, 115, 116, 32]⟩ : ByteArray)) ++ t205)) else (none)) else (none)) else (none)) else (if a0_0 = 1 then (if 5 + t204.size ≤ 9223372036854775807 then (some ((⟨#[100, 114, 111, 112, 32]⟩ : ByteArray) ++ t204)) else (none)) else (if a0_0 = 2 then (if 6 + t204.size ≤ 9223372036854775807 then (if ((⟨#[97, 100, 109, 105, 116, 32]⟩ : ByteArray) ++ t204).size + 5 ≤ 9223372036854775807 then (if (((⟨#[97, 100, 109, 105, 116, 32]⟩ : ByteArray) ++ t204) ++ (⟨#[32, 100, 117, 101, 32]⟩ : ByteArray)).size + t205.size ≤ 9223372036854775807 then (some ((((⟨#[97, 100, 109, 105, 116, 32]⟩ : ByteArray) ++ t204) ++ (⟨#[32, 100, 117, 101, 32]⟩ : ByteArray)) ++ t205)) else (none)) else (none)) else (none)) else (if a0_0 = 3 then (if 5 + t204.size ≤ 9223372036854775807 then (if ((⟨#[100, 111, 110, 101, 32]⟩ : ByteArray) ++ t204).size + 4 ≤ 9223372036854775807 then (if (((⟨#[100, 111, 110, 101, 32]⟩ : ByteArray) ++ t204) ++ (⟨#[32, 97, 116, 32]⟩ : ByteArray)).size + t205.size ≤ 9223372036854775807 then (if ((((⟨#[100, 111, 110, 101, 32]⟩ : ByteArray) ++ t204) ++ (⟨#[32, 97, 116, 32]⟩ : ByteArray)) ++ t205).size + 2 ≤ 9223372036854775807 then ((impl_TensorText.f k a0_3 a0_4 a0_5 l0_6).bind fun t206 => (if (((((⟨#[100, 111, 110, 101, 32]⟩ : ByteArray) ++ t204) ++ (⟨#[32, 97, 116, 32]⟩ : ByteArray)) ++ t205) ++ (⟨#[58, 32]⟩ : ByteArray)).size + t206.size ≤ 9223372036854775807 then (some ((((((⟨#[100, 111, 110, 101, 32]⟩ : ByteArray) ++ t204) ++ (⟨#[32, 97, 116, 32]⟩ : ByteArray)) ++ t205) ++ (⟨#[58, 32]⟩ : ByteArray)) ++ t206)) else (none))) else (none)) else (none)) else (none)) else (none)) else (if a0_0 = 4 then (if 7 + t204.size ≤ 9223372036854775807 then (some ((⟨#[99, 97, 110, 99, 101, 108, 32]⟩ : ByteArray) ++ t204)) else (none)) else (if a0_0 = 5 then (if 7 + t204.size ≤ 9223372036854775807 then (if ((⟨#[114, 101, 102, 117, 115, 101, 32]⟩ : ByteArray) ++ t204).size + 6 ≤ 9223372036854775807 then (if (((⟨#[114, 101, 102, 117, 115, 101, 32]⟩ : ByteArray) ++ t204) ++ (⟨#[32, 99, 111, 100, 101, 32]⟩ : ByteArray)).size + t205.size ≤ 9223372036854775807 then (some ((((⟨#[114, 101, 102, 117, 115, 101, 32]⟩ : ByteArray) ++ t204) ++ (⟨#[32, 99, 111, 100, 101, 32]⟩ : ByteArray)) ++ t205)) else (none)) else (none)) else (none)) else (some (⟨#[]⟩ : ByteArray)))))))))) = some r := h
 clear h
 replace H := Option.bind_eq_some_iff.mp H
 obtain ⟨t204, A20, H⟩ := H
 replace H : ((strconv_Itoa.f a0_2).bind fun t205 => (if a0_0 = 0 then (if 5 + t204.size ≤ 9223372036854775807 then (if ((⟨#[108, 111, 97, 100, 32]⟩ : ByteArray) ++ t204).size + 6 ≤ 9223372036854775807 then (if (((⟨#[108, 111, 97, 100, 32]⟩ : ByteArray) ++ t204) ++ (⟨#[32, 99, 111, 115, 116, 32]⟩ : ByteArray)).size + t205.size ≤ 9223372036854775807 then (some ((((⟨#[108, 111, 97, 100, 32]⟩ : ByteArray) ++ t204) ++ (⟨#[32, 99, 111, 115, 116, 32]⟩ : ByteArray)) ++ t205)) else (none)) else (none)) else (none)) else (if a0_0 = 1 then (if 5 + t204.size ≤ 9223372036854775807 then (some ((⟨#[100, 114, 111, 112, 32]⟩ : ByteArray) ++ t204)) else (none)) else (if a0_0 = 2 then (if 6 + t204.size ≤ 9223372036854775807 then (if ((⟨#[97, 100, 109, 105, 116, 32]⟩ : ByteArray) ++ t204).size + 5 ≤ 9223372036854775807 then (if (((⟨#[97, 100, 109, 105, 116, 32]⟩ : ByteArray) ++ t204) ++ (⟨#[32, 100, 117, 101, 32]⟩ : ByteArray)).size + t205.size ≤ 9223372036854775807 then (some ((((⟨#[97, 100, 109, 105, 116, 32]⟩ : ByteArray) ++ t204) ++ (⟨#[32, 100, 117, 101, 32]⟩ : ByteArray)) ++ t205)) else (none)) else (none)) else (none)) else (if a0_0 = 3 then (if 5 + t204.size ≤ 9223372036854775807 then (if ((⟨#[100, 111, 110, 101, 32]⟩ : ByteArray) ++ t204).size + 4 ≤ 9223372036854775807 then (if (((⟨#[100, 111, 110, 101, 32]⟩ : ByteArray) ++ t204) ++ (⟨#[32, 97, 116, 32]⟩ : ByteArray)).size + t205.size ≤ 9223372036854775807 then (if ((((⟨#[100, 111, 110, 101, 32]⟩ : ByteArray) ++ t204) ++ (⟨#[32, 97, 116, 32]⟩ : ByteArray)) ++ t205).size + 2 ≤ 9223372036854775807 then ((impl_TensorText.f k a0_3 a0_4 a0_5 l0_6).bind fun t206 => (if (((((⟨#[100, 111, 110, 101, 32]⟩ : ByteArray) ++ t204) ++ (⟨#[32, 97, 116, 32]⟩ : ByteArray)) ++ t205) ++ (⟨#[58, 32]⟩ : ByteArray)).size + t206.size ≤ 9223372036854775807 then (some ((((((⟨#[100, 111, 110, 101, 32]⟩ : ByteArray) ++ t204) ++ (⟨#[32, 97, 116, 32]⟩ : ByteArray)) ++ t205) ++ (⟨#[58, 32]⟩ : ByteArray)) ++ t206)) else (none))) else (none)) else (none)) else (none)) else (none)) else (if a0_0 = 4 then (if 7 + t204.size ≤ 9223372036854775807 then (some ((⟨#[99, 97, 110, 99, 101, 108, 32]⟩ : ByteArray) ++ t204)) else (none)) else (if a0_0 = 5 then (if 7 + t204.size ≤ 9223372036854775807 then (if ((⟨#[114, 101, 102, 117, 115, 101, 32]⟩ : ByteArray) ++ t204).size + 6 ≤ 9223372036854775807 then (if (((⟨#[114, 101, 102, 117, 115, 101, 32]⟩ : ByteArray) ++ t204) ++ (⟨#[32, 99, 111, 100, 101, 32]⟩ : ByteArray)).size + t205.size ≤ 9223372036854775807 then (some ((((⟨#[114, 101, 102, 117, 115, 101, 32]⟩ : ByteArray) ++ t204) ++ (⟨#[32, 99, 111, 100, 101, 32]⟩ : ByteArray)) ++ t205)) else (none)) else (none)) else (none)) else (some (⟨#[]⟩ : ByteArray))))))))) = some r := H
 have A2 := Aside0.mk A20
 clear A20
 replace H := Option.bind_eq_some_iff.mp H
 obtain ⟨t205, A30, H⟩ := H
 replace H : (if a0_0 = 0 then (if 5 + t204.size ≤ 9223372036854775807 then (if ((⟨#[108, 111, 97, 100, 32]⟩ : ByteArray) ++ t204).size + 6 ≤ 9223372036854775807 then (if (((⟨#[108, 111, 97, 100, 32]⟩ : ByteArray) ++ t204) ++ (⟨#[32, 99, 111, 115, 116, 32]⟩ : ByteArray)).size + t205.size ≤ 9223372036854775807 then (some ((((⟨#[108, 111, 97, 100, 32]⟩ : ByteArray) ++ t204) ++ (⟨#[32, 99, 111, 115, 116, 32]⟩ : ByteArray)) ++ t205)) else (none)) else (none)) else (none)) else (if a0_0 = 1 then (if 5 + t204.size ≤ 9223372036854775807 then (some ((⟨#[100, 114, 111, 112, 32]⟩ : ByteArray) ++ t204)) else (none)) else (if a0_0 = 2 then (if 6 + t204.size ≤ 9223372036854775807 then (if ((⟨#[97, 100, 109, 105, 116, 32]⟩ : ByteArray) ++ t204).size + 5 ≤ 9223372036854775807 then (if (((⟨#[97, 100, 109, 105, 116, 32]⟩ : ByteArray) ++ t204) ++ (⟨#[32, 100, 117, 101, 32]⟩ : ByteArray)).size + t205.size ≤ 9223372036854775807 then (some ((((⟨#[97, 100, 109, 105, 116, 32]⟩ : ByteArray) ++ t204) ++ (⟨#[32, 100, 117, 101, 32]⟩ : ByteArray)) ++ t205)) else (none)) else (none)) else (none)) else (if a0_0 = 3 then (if 5 + t204.size ≤ 9223372036854775807 then (if ((⟨#[100, 111, 110, 101, 32]⟩ : ByteArray) ++ t204).size + 4 ≤ 9223372036854775807 then (if (((⟨#[100, 111, 110, 101, 32]⟩ : ByteArray) ++ t204) ++ (⟨#[32, 97, 116, 32]⟩ : ByteArray)).size + t205.size ≤ 9223372036854775807 then (if ((((⟨#[100, 111, 110, 101, 32]⟩ : ByteArray) ++ t204) ++ (⟨#[32, 97, 116, 32]⟩ : ByteArray)) ++ t205).size + 2 ≤ 9223372036854775807 then ((impl_TensorText.f k a0_3 a0_4 a0_5 l0_6).bind fun t206 => (if (((((⟨#[100, 111, 110, 101, 32]⟩ : ByteArray) ++ t204) ++ (⟨#[32, 97, 116, 32]⟩ : ByteArray)) ++ t205) ++ (⟨#[58, 32]⟩ : ByteArray)).size + t206.size ≤ 9223372036854775807 then (some ((((((⟨#[100, 111, 110, 101, 32]⟩ : ByteArray) ++ t204) ++ (⟨#[32, 97, 116, 32]⟩ : ByteArray)) ++ t205) ++ (⟨#[58, 32]⟩ : ByteArray)) ++ t206)) else (none))) else (none)) else (none)) else (none)) else (none)) else (if a0_0 = 4 then (if 7 + t204.size ≤ 9223372036854775807 then (some ((⟨#[99, 97, 110, 99, 101, 108, 32]⟩ : ByteArray) ++ t204)) else (none)) else (if a0_0 = 5 then (if 7 + t204.size ≤ 9223372036854775807 then (if ((⟨#[114, 101, 102, 117, 115, 101, 32]⟩ : ByteArray) ++ t204).size + 6 ≤ 9223372036854775807 then (if (((⟨#[114, 101, 102, 117, 115, 101, 32]⟩ : ByteArray) ++ t204) ++ (⟨#[32, 99, 111, 100, 101, 32]⟩ : ByteArray)).size + t205.size ≤ 9223372036854775807 then (some ((((⟨#[114, 101, 102, 117, 115, 101, 32]⟩ : ByteArray) ++ t204) ++ (⟨#[32, 99, 111, 100, 101, 32]⟩ : ByteArray)) ++ t205)) else (none)) else (none)) else (none)) else (some (⟨#[]⟩ : ByteArray)))))))) = some r := H
 have A3 := Aside0.mk A30
 clear A30
 by_cases c4 : a0_0 = 0
 ·
  rw [if_pos c4] at H
  have c4b0 : (a0_0 == 0) = true := beq_iff_eq.mpr c4
  have c4b1 : (a0_0 != 0) = false := bne_eq_false_iff_eq.mpr c4
  clear c4
  by_cases c5 : 5 + t204.size ≤ 9223372036854775807
  ·
   rw [if_pos c5] at H
   have c5b0 := eq_true c5
   have c5b1 : decide (5 + t204.size ≤ 9223372036854775807) = true := decide_eq_true c5
   try have c5b2 : (9223372036854775807 < 5 + t204.size) = False := eq_false (Nat.not_lt.2 c5)
   by_cases c6 : ((⟨#[108, 111, 97, 100, 32]⟩ : ByteArray) ++ t204).size + 6 ≤ 9223372036854775807
   ·
    rw [if_pos c6] at H
    have c6b0 := eq_true c6
    have c6b1 : decide (((⟨#[108, 111, 97, 100, 32]⟩ : ByteArray) ++ t204).size + 6 ≤ 9223372036854775807) = true := decide_eq_true c6
    try have c6b2 : (9223372036854775807 < ((⟨#[108, 111, 97, 100, 32]⟩ : ByteArray) ++ t204).size + 6) = False := eq_false (Nat.not_lt.2 c6)
    try have c6b3 : (9223372036854775807 < 5 + t204.size + 6) = False := by have e_ : 5 + t204.size + 6 = ((⟨#[108, 111, 97, 100, 32]⟩ : ByteArray) ++ t204).size + 6 := (by simp only [ByteArray.size_append] <;> rfl); rw [e_]; exact c6b2
    by_cases c7 : (((⟨#[108, 111, 97, 100, 32]⟩ : ByteArray) ++ t204) ++ (⟨#[32, 99, 111, 115, 116, 32]⟩ : ByteArray)).size + t205.size ≤ 9223372036854775807
    ·
     rw [if_pos c7] at H
     have c7b0 := eq_true c7
     have c7b1 : decide ((((⟨#[108, 111, 97, 100, 32]⟩ : ByteArray) ++ t204) ++ (⟨#[32, 99, 111, 115, 116, 32]⟩ : ByteArray)).size + t205.size ≤ 9223372036854775807) = true := decide_eq_true c7
     try have c7b2 : (9223372036854775807 < (((⟨#[108, 111, 97, 100, 32]⟩ : ByteArray) ++ t204) ++ (⟨#[32, 99, 111, 115, 116, 32]⟩ : ByteArray)).size + t205.size) = False := eq_false (Nat.not_lt.2 c7)
     try have c7b3 : (9223372036854775807 < 5 + t204.size + 6 + t205.size) = False := by have e_ : 5 + t204.size + 6 + t205.size = (((⟨#[108, 111, 97, 100, 32]⟩ : ByteArray) ++ t204) ++ (⟨#[32, 99, 111, 115, 116, 32]⟩ : ByteArray)).size + t205.size := (by simp only [ByteArray.size_append] <;> rfl); rw [e_]; exact c7b2
     obtain rfl := Option.some.inj H
     go_enter Tryd.func9, Tryd.ntmps9
     try go_wp2_with (first | ((with_reducible refine gate_dst (N := 1) rfl ?_); refine box_event ?hg (N := 1) ?hd (cs := #[.int .i64 a0_0, .int .i64 a0_1, .int .i64 a0_2, .int .i64 a0_3, .int .i64 a0_4, .int .i64 a0_5, .slice A0_6 l0_6.length c0_6]) (t := 35) ?hr ?_; (case hd => rfl); (case hg => rfl); (case hr => first | (go_simp; done) | (go_simp; rfl)); intro gb203 hg w8 hbox hb; have n0_ := Aside0.mk (below_step (by repeat (first | (with_reducible first | exact HB.out | apply below_alloc | apply pw_below_drewN | apply below_drew1) | exact HB.out)) hb); have n1_ := Aside0.mk (hbox); have n2_ := Aside0.mk ((by rw [hg]; exact (below_size (by repeat (first | (with_reducible first | exact HB.out | apply below_alloc | apply pw_below_drewN | apply below_drew1) | exact HB.out))) : w.heap.size ≤ gb203)); have n3_ := Aside0.mk ((by rw [hg]; exact (below_size (by repeat (first | (with_reducible first | exact HB.out | apply below_alloc | apply pw_below_drewN | apply below_drew1) | exact HB.out))) : w.heap.size ≤ gb203)); clear HB; have HB := n0_; have BK203 := n1_; have GW203 := n2_; have GE203 := n3_; clear n0_ n1_ n2_ n3_; clear hb hbox hg))
     have n0_ := Aside0.mk (blk_drew BK203.out)
     have n1_ := Aside0.mk (below_drew1 HB.out)
     clear BK203
     clear HB
     have BK203 := n0_
     have HB := n1_
     clear n0_ n1_
     refine start_ (n := 8) (S := fun w' => w'.cell? ⟨gb203, 0, none⟩ = some (.int .i64 a0_0) ∧ w'.cell? ⟨gb203, 1, none⟩ = some (.int .i64 a0_1) ∧ w'.cell? ⟨gb203, 2, none⟩ = some (.int .i64 a0_2) ∧ w'.cell? ⟨gb203, 3, none⟩ = some (.int .i64 a0_3) ∧ w'.cell? ⟨gb203, 4, none⟩ = some (.int .i64 a0_4) ∧ w'.cell? ⟨gb203, 5, none⟩ = some (.int .i64 a0_5) ∧ w'.cell? ⟨gb203, 6, none⟩ = some (.slice A0_6 l0_6.length c0_6)) (ds := []) #[false, false, false, false, false, false, false, false] (by kernel_rfl) rfl rfl ⟨(blk_cell BK203.out 0).trans rfl, (blk_cell BK203.out 1).trans rfl, (blk_cell BK203.out 2).trans rfl, (blk_cell BK203.out 3).trans rfl, (blk_cell BK203.out 4).trans rfl, (blk_cell BK203.out 5).trans rfl, (blk_cell BK203.out 6).trans rfl⟩ (fun hHeld => ?_); refine with_tabW impl_EventText.tab1 impl_EventText.bits1 (fun HT_ HW_ => ?_)
     generalize w8.drew = w9 at BK203 HB hHeld ⊢
     refine pure_ (i := 0) (N := some 5) (v := ?_) (a' := ?_) (bl_ 8 1) rfl rfl (any_of HT_.out (by kernel_rfl)) (fun _ _ _ h => h) (Or.inl ⟨by rfl, ?_⟩) ?_ ?_; rotate_left; (· intro w'; go_simp; with_reducible rfl); rotate_left; (· simp only [Act.put, List.setIfInBounds_toArray, List.set_cons_zero, List.set_cons_succ, i64_w, i32_w]; rfl)
     refine pure_ (i := 3) (N := some 8) (v := ?_) (a' := ?_) (bl_ 8 9) rfl rfl (any_of HT_.out (by kernel_rfl)) (fun _ _ _ h => h) (Or.inl ⟨by rfl, ?_⟩) ?_ ?_; rotate_left; (· intro w'; go_simp; with_reducible rfl); rotate_left; (· simp only [Act.put, List.setIfInBounds_toArray, List.set_cons_zero, List.set_cons_succ, i64_w, i32_w]; rfl)
     refine take_ (i := 1) (N := some 6) (v := ?_) (a' := ?_) (bl_ 8 11) rfl rfl (take_ofW HT_.out HW_.out (by kernel_rfl)) (fun _ _ _ h => h) (Or.inl ⟨by rfl, ?_⟩) hHeld ?_ ?_; rotate_left; (· rintro w' ⟨s0, s1, s2, s3, s4, s5, s6⟩; go_simp; with_reducible rfl); rotate_left; (· simp only [Act.put, List.setIfInBounds_toArray, List.set_cons_zero, List.set_cons_succ, i64_w, i32_w]; rfl)
     refine take_ (i := 4) (N := some 9) (v := ?_) (a' := ?_) (bl_ 8 27) rfl rfl (take_ofW HT_.out HW_.out (by kernel_rfl)) (fun _ _ _ h => h) (Or.inl ⟨by rfl, ?_⟩) hHeld ?_ ?_; rotate_left; (· rintro w' ⟨s0, s1, s2, s3, s4, s5, s6⟩; go_simp; with_reducible rfl); rotate_left; (· simp only [Act.put, List.setIfInBounds_toArray, List.set_cons_zero, List.set_cons_succ, i64_w, i32_w]; rfl)
     refine one_ (i := 2) (N := some 7) (bl_ 8 31) rfl rfl (one_of HT_.out (by kernel_rfl)) (by decide) (fun K hK => ?_)
     refine goes_ Tryd.func25 (by kernel_rfl) rfl #[.int .i64 a0_1] (by rfl) rfl rfl (by (try simp only [List.map_toArray, List.map_cons, List.map_nil]); first | done | rfl | (simp only [List.length_drop, List.length_take]; rfl)) ?_
     with_reducible refine (strconv_Itoa.calls a0_1 t204 _ A2.out).mono ?_
     rintro e w10 ⟨rfl, hb⟩
     refine ⟨_, rfl, ?_⟩
     have n0_ := Aside0.mk (blk_below (g := gb203) (o := .cells #[.int .i64 a0_0, .int .i64 a0_1, .int .i64 a0_2, .int .i64 a0_3, .int .i64 a0_4, .int .i64 a0_5, .slice A0_6 l0_6.length c0_6] 35 (0, 0)) (by (with_reducible repeat (first | refine blk_drewN ?_ _ | refine blk_drew ?_ | refine blk_alloc ?_ _)); exact BK203.out) hb)
     have n1_ := Aside0.mk (below_step (by repeat (first | (with_reducible first | exact HB.out | apply below_alloc | apply pw_below_drewN | apply below_drew1 | refine below_set ?_ GE203.out) | exact HB.out)) hb)
     clear BK203
     clear HB
     have BK203 := n0_
     have HB := n1_
     clear n0_ n1_
     (try clear hb)
     (try clear hb2)
     (try clear hk)
     (try clear hi)
     refine hK.out _ _ ⟨(blk_cell BK203.out 0).trans rfl, (blk_cell BK203.out 1).trans rfl, (blk_cell BK203.out 2).trans rfl, (blk_cell BK203.out 3).trans rfl, (blk_cell BK203.out 4).trans rfl, (blk_cell BK203.out 5).trans rfl, (blk_cell BK203.out 6).trans rfl⟩ (fun hHeld => ?_)
     clear hK K
     refine norm_ (a' := ?_) ?_ ?_; rotate_left; (· show Act.put _ (some 7) _ = _; simp only [Act.put, List.setIfInBounds_toArray, List.set_cons_zero, List.set_cons_succ, i64_w, i32_w]; rfl)
     refine one_ (i := 5) (N := some 10) (bl_ 8 63) rfl rfl (one_of HT_.out (by kernel_rfl)) (by decide) (fun K hK => ?_)
     refine goes_ Tryd.func25 (by kernel_rfl) rfl #[.int .i64 a0_2] (by rfl) rfl rfl (by (try simp only [List.map_toArray, List.map_cons, List.map_nil]); first | done | rfl | (simp only [List.length_drop, List.length_take]; rfl)) ?_
     with_reducible refine (strconv_Itoa.calls a0_2 t205 _ A3.out).mono ?_
     rintro e w11 ⟨rfl, hb⟩
     refine ⟨_, rfl, ?_⟩
     have n0_ := Aside0.mk (blk_below (g := gb203) (o := .cells #[.int .i64 a0_0, .int .i64 a0_1, .int .i64 a0_2, .int .i64 a0_3, .int .i64 a0_4, .int .i64 a0_5, .slice A0_6 l0_6.length c0_6] 35 (0, 0)) (by (with_reducible repeat (first | refine blk_drewN ?_ _ | refine blk_drew ?_ | refine blk_alloc ?_ _)); exact BK203.out) hb)
     have n1_ := Aside0.mk (below_step (by repeat (first | (with_reducible first | exact HB.out | apply below_alloc | apply pw_below_drewN | apply below_drew1 | refine below_set ?_ GE203.out) | exact HB.out)) hb)
     clear BK203
     clear HB
     have BK203 := n0_
     have HB := n1_
     clear n0_ n1_
     (try clear hb)
     (try clear hb2)
     (try clear hk)
     (try clear hi)
     refine hK.out _ _ ⟨(blk_cell BK203.out 0).trans rfl, (blk_cell BK203.out 1).trans rfl, (blk_cell BK203.out 2).trans rfl, (blk_cell BK203.out 3).trans rfl, (blk_cell BK203.out 4).trans rfl, (blk_cell BK203.out 5).trans rfl, (blk_cell BK203.out 6).trans rfl⟩ (fun hHeld => ?_)
     clear hK K
     refine norm_ (a' := ?_) ?_ ?_; rotate_left; (· show Act.put _ (some 10) _ = _; simp only [Act.put, List.setIfInBounds_toArray, List.set_cons_zero, List.set_cons_succ, i64_w, i32_w]; rfl)
     refine pure_ (i := 6) (N := some 3) (v := ?_) (a' := ?_) (bl_ 8 127) rfl rfl (any_of HT_.out (by kernel_rfl)) (fun _ _ _ h => h) (Or.inl ⟨by rfl, ?_⟩) ?_ ?_; rotate_left; (· intro w'; go_simp; with_reducible rfl); rotate_left; (· simp only [Act.put, List.setIfInBounds_toArray, List.set_cons_zero, List.set_cons_succ, i64_w, i32_w]; rfl)
     refine pure_ (i := 7) (N := some 4) (v := ?_) (a' := ?_) (bl_ 8 255) rfl rfl (any_of HT_.out (by kernel_rfl)) (fun _ _ _ h => h) (Or.inl ⟨by rfl, ?_⟩) ?_ ?_; rotate_left; (· intro w'; go_simp; with_reducible rfl); rotate_left; (· simp only [Act.put, List.setIfInBounds_toArray, List.set_cons_zero, List.set_cons_succ, i64_w, i32_w]; rfl)
     refine done_ (done_of HT_.out (by kernel_rfl)) ?_
     obtain ⟨hcz12_0, hcz12_1, hcz12_2, hcz12_3, hcz12_4, hcz12_5, hcz12_6, hfz12_0, hfz12_1, hfz12_2, hfz12_3, hfz12_4, hfz12_5, hfz12_6⟩ := box7_ BK203.out
     try go_wp2
     go_ret
     exact ⟨by first | rfl | (simp [errW_none, errW_some] <;> rfl) | (simp [*, errW_none, errW_some] <;> rfl), by repeat (first | (with_reducible first | exact HB.out | apply below_alloc | apply pw_below_drewN | apply below_drew1 | refine below_set ?_ GE203.out) | exact HB.out)⟩
    ·
     rw [if_neg c7] at H
     exact absurd H (by simp)
   ·
    rw [if_neg c6] at H
    exact absurd H (by simp)
  ·
   rw [if_neg c5] at H
   exact absurd H (by simp)
 ·
  rw [if_neg c4] at H
  have c4b0 : (a0_0 == 0) = false := beq_eq_false_iff_ne.mpr c4
  have c4b1 : (a0_0 != 0) = true := bne_iff_ne.mpr c4
  by_cases c13 : a0_0 = 1
  ·
   rw [if_pos c13] at H
   have c13b0 : (a0_0 == 1) = true := beq_iff_eq.mpr c13
   have c13b1 : (a0_0 != 1) = false := bne_eq_false_iff_eq.mpr c13
   clear c13
   by_cases c14 : 5 + t204.size ≤ 9223372036854775807
   ·
    rw [if_pos c14] at H
    have c14b0 := eq_true c14
    have c14b1 : decide (5 + t204.size ≤ 9223372036854775807) = true := decide_eq_true c14
    try have c14b2 : (9223372036854775807 < 5 + t204.size) = False := eq_false (Nat.not_lt.2 c14)
    obtain rfl := Option.some.inj H
    go_enter Tryd.func9, Tryd.ntmps9
    try go_wp2_with (first | ((with_reducible refine gate_dst (N := 1) rfl ?_); refine box_event ?hg (N := 1) ?hd (cs := #[.int .i64 a0_0, .int .i64 a0_1, .int .i64 a0_2, .int .i64 a0_3, .int .i64 a0_4, .int .i64 a0_5, .slice A0_6 l0_6.length c0_6]) (t := 35) ?hr ?_; (case hd => rfl); (case hg => rfl); (case hr => first | (go_simp; done) | (go_simp; rfl)); intro gb203 hg w15 hbox hb; have n0_ := Aside0.mk (below_step (by repeat (first | (with_reducible first | exact HB.out | apply below_alloc | apply pw_below_drewN | apply below_drew1) | exact HB.out)) hb); have n1_ := Aside0.mk (hbox); have n2_ := Aside0.mk ((by rw [hg]; exact (below_size (by repeat (first | (with_reducible first | exact HB.out | apply below_alloc | apply pw_below_drewN | apply below_drew1) | exact HB.out))) : w.heap.size ≤ gb203)); have n3_ := Aside0.mk ((by rw [hg]; exact (below_size (by repeat (first | (with_reducible first | exact HB.out | apply below_alloc | apply pw_below_drewN | apply below_drew1) | exact HB.out))) : w.heap.size ≤ gb203)); clear HB; have HB := n0_; have BK203 := n1_; have GW203 := n2_; have GE203 := n3_; clear n0_ n1_ n2_ n3_; clear hb hbox hg))
    have n0_ := Aside0.mk (blk_drew BK203.out)
    have n1_ := Aside0.mk (below_drew1 HB.out)
    clear BK203
    clear HB
    have BK203 := n0_
    have HB := n1_
    clear n0_ n1_
    refine start_ (n := 8) (S := fun w' => w'.cell? ⟨gb203, 0, none⟩ = some (.int .i64 a0_0) ∧ w'.cell? ⟨gb203, 1, none⟩ = some (.int .i64 a0_1) ∧ w'.cell? ⟨gb203, 2, none⟩ = some (.int .i64 a0_2) ∧ w'.cell? ⟨gb203, 3, none⟩ = some (.int .i64 a0_3) ∧ w'.cell? ⟨gb203, 4, none⟩ = some (.int .i64 a0_4) ∧ w'.cell? ⟨gb203, 5, none⟩ = some (.int .i64 a0_5) ∧ w'.cell? ⟨gb203, 6, none⟩ = some (.slice A0_6 l0_6.length c0_6)) (ds := []) #[false, false, false, false, false, false, false, false] (by kernel_rfl) rfl rfl ⟨(blk_cell BK203.out 0).trans rfl, (blk_cell BK203.out 1).trans rfl, (blk_cell BK203.out 2).trans rfl, (blk_cell BK203.out 3).trans rfl, (blk_cell BK203.out 4).trans rfl, (blk_cell BK203.out 5).trans rfl, (blk_cell BK203.out 6).trans rfl⟩ (fun hHeld => ?_); refine with_tabW impl_EventText.tab1 impl_EventText.bits1 (fun HT_ HW_ => ?_)
    generalize w15.drew = w16 at BK203 HB hHeld ⊢
    refine pure_ (i := 0) (N := some 5) (v := ?_) (a' := ?_) (bl_ 8 1) rfl rfl (any_of HT_.out (by kernel_rfl)) (fun _ _ _ h => h) (Or.inl ⟨by rfl, ?_⟩) ?_ ?_; rotate_left; (· intro w'; go_simp; with_reducible rfl); rotate_left; (· simp only [Act.put, List.setIfInBounds_toArray, List.set_cons_zero, List.set_cons_succ, i64_w, i32_w]; rfl)
    refine pure_ (i := 3) (N := some 8) (v := ?_) (a' := ?_) (bl_ 8 9) rfl rfl (any_of HT_.out (by kernel_rfl)) (fun _ _ _ h => h) (Or.inl ⟨by rfl, ?_⟩) ?_ ?_; rotate_left; (· intro w'; go_simp; with_reducible rfl); rotate_left; (· simp only [Act.put, List.setIfInBounds_toArray, List.set_cons_zero, List.set_cons_succ, i64_w, i32_w]; rfl)
    refine take_ (i := 1) (N := some 6) (v := ?_) (a' := ?_) (bl_ 8 11) rfl rfl (take_ofW HT_.out HW_.out (by kernel_rfl)) (fun _ _ _ h => h) (Or.inl ⟨by rfl, ?_⟩) hHeld ?_ ?_; rotate_left; (· rintro w' ⟨s0, s1, s2, s3, s4, s5, s6⟩; go_simp; with_reducible rfl); rotate_left; (· simp only [Act.put, List.setIfInBounds_toArray, List.set_cons_zero, List.set_cons_succ, i64_w, i32_w]; rfl)
    refine take_ (i := 4) (N := some 9) (v := ?_) (a' := ?_) (bl_ 8 27) rfl rfl (take_ofW HT_.out HW_.out (by kernel_rfl)) (fun _ _ _ h => h) (Or.inl ⟨by rfl, ?_⟩) hHeld ?_ ?_; rotate_left; (· rintro w' ⟨s0, s1, s2, s3, s4, s5, s6⟩; go_simp; with_reducible rfl); rotate_left; (· simp only [Act.put, List.setIfInBounds_toArray, List.set_cons_zero, List.set_cons_succ, i64_w, i32_w]; rfl)
    refine one_ (i := 2) (N := some 7) (bl_ 8 31) rfl rfl (one_of HT_.out (by kernel_rfl)) (by decide) (fun K hK => ?_)
    refine goes_ Tryd.func25 (by kernel_rfl) rfl #[.int .i64 a0_1] (by rfl) rfl rfl (by (try simp only [List.map_toArray, List.map_cons, List.map_nil]); first | done | rfl | (simp only [List.length_drop, List.length_take]; rfl)) ?_
    with_reducible refine (strconv_Itoa.calls a0_1 t204 _ A2.out).mono ?_
    rintro e w17 ⟨rfl, hb⟩
    refine ⟨_, rfl, ?_⟩
    have n0_ := Aside0.mk (blk_below (g := gb203) (o := .cells #[.int .i64 a0_0, .int .i64 a0_1, .int .i64 a0_2, .int .i64 a0_3, .int .i64 a0_4, .int .i64 a0_5, .slice A0_6 l0_6.length c0_6] 35 (0, 0)) (by (with_reducible repeat (first | refine blk_drewN ?_ _ | refine blk_drew ?_ | refine blk_alloc ?_ _)); exact BK203.out) hb)
    have n1_ := Aside0.mk (below_step (by repeat (first | (with_reducible first | exact HB.out | apply below_alloc | apply pw_below_drewN | apply below_drew1 | refine below_set ?_ GE203.out) | exact HB.out)) hb)
    clear BK203
    clear HB
    have BK203 := n0_
    have HB := n1_
    clear n0_ n1_
    (try clear hb)
    (try clear hb2)
    (try clear hk)
    (try clear hi)
    refine hK.out _ _ ⟨(blk_cell BK203.out 0).trans rfl, (blk_cell BK203.out 1).trans rfl, (blk_cell BK203.out 2).trans rfl, (blk_cell BK203.out 3).trans rfl, (blk_cell BK203.out 4).trans rfl, (blk_cell BK203.out 5).trans rfl, (blk_cell BK203.out 6).trans rfl⟩ (fun hHeld => ?_)
    clear hK K
    refine norm_ (a' := ?_) ?_ ?_; rotate_left; (· show Act.put _ (some 7) _ = _; simp only [Act.put, List.setIfInBounds_toArray, List.set_cons_zero, List.set_cons_succ, i64_w, i32_w]; rfl)
    refine one_ (i := 5) (N := some 10) (bl_ 8 63) rfl rfl (one_of HT_.out (by kernel_rfl)) (by decide) (fun K hK => ?_)
    refine goes_ Tryd.func25 (by kernel_rfl) rfl #[.int .i64 a0_2] (by rfl) rfl rfl (by (try simp only [List.map_toArray, List.map_cons, List.map_nil]); first | done | rfl | (simp only [List.length_drop, List.length_take]; rfl)) ?_
    with_reducible refine (strconv_Itoa.calls a0_2 t205 _ A3.out).mono ?_
    rintro e w18 ⟨rfl, hb⟩
    refine ⟨_, rfl, ?_⟩
    have n0_ := Aside0.mk (blk_below (g := gb203) (o := .cells #[.int .i64 a0_0, .int .i64 a0_1, .int .i64 a0_2, .int .i64 a0_3, .int .i64 a0_4, .int .i64 a0_5, .slice A0_6 l0_6.length c0_6] 35 (0, 0)) (by (with_reducible repeat (first | refine blk_drewN ?_ _ | refine blk_drew ?_ | refine blk_alloc ?_ _)); exact BK203.out) hb)
    have n1_ := Aside0.mk (below_step (by repeat (first | (with_reducible first | exact HB.out | apply below_alloc | apply pw_below_drewN | apply below_drew1 | refine below_set ?_ GE203.out) | exact HB.out)) hb)
    clear BK203
    clear HB
    have BK203 := n0_
    have HB := n1_
    clear n0_ n1_
    (try clear hb)
    (try clear hb2)
    (try clear hk)
    (try clear hi)
    refine hK.out _ _ ⟨(blk_cell BK203.out 0).trans rfl, (blk_cell BK203.out 1).trans rfl, (blk_cell BK203.out 2).trans rfl, (blk_cell BK203.out 3).trans rfl, (blk_cell BK203.out 4).trans rfl, (blk_cell BK203.out 5).trans rfl, (blk_cell BK203.out 6).trans rfl⟩ (fun hHeld => ?_)
    clear hK K
    refine norm_ (a' := ?_) ?_ ?_; rotate_left; (· show Act.put _ (some 10) _ = _; simp only [Act.put, List.setIfInBounds_toArray, List.set_cons_zero, List.set_cons_succ, i64_w, i32_w]; rfl)
    refine pure_ (i := 6) (N := some 3) (v := ?_) (a' := ?_) (bl_ 8 127) rfl rfl (any_of HT_.out (by kernel_rfl)) (fun _ _ _ h => h) (Or.inl ⟨by rfl, ?_⟩) ?_ ?_; rotate_left; (· intro w'; go_simp; with_reducible rfl); rotate_left; (· simp only [Act.put, List.setIfInBounds_toArray, List.set_cons_zero, List.set_cons_succ, i64_w, i32_w]; rfl)
    refine pure_ (i := 7) (N := some 4) (v := ?_) (a' := ?_) (bl_ 8 255) rfl rfl (any_of HT_.out (by kernel_rfl)) (fun _ _ _ h => h) (Or.inl ⟨by rfl, ?_⟩) ?_ ?_; rotate_left; (· intro w'; go_simp; with_reducible rfl); rotate_left; (· simp only [Act.put, List.setIfInBounds_toArray, List.set_cons_zero, List.set_cons_succ, i64_w, i32_w]; rfl)
    refine done_ (done_of HT_.out (by kernel_rfl)) ?_
    obtain ⟨hcz19_0, hcz19_1, hcz19_2, hcz19_3, hcz19_4, hcz19_5, hcz19_6, hfz19_0, hfz19_1, hfz19_2, hfz19_3, hfz19_4, hfz19_5, hfz19_6⟩ := box7_ BK203.out
    try go_wp2
    go_ret
    exact ⟨by first | rfl | (simp [errW_none, errW_some] <;> rfl) | (simp [*, errW_none, errW_some] <;> rfl), by repeat (first | (with_reducible first | exact HB.out | apply below_alloc | apply pw_below_drewN | apply below_drew1 | refine below_set ?_ GE203.out) | exact HB.out)⟩
   ·
    rw [if_neg c14] at H
    exact absurd H (by simp)
  ·
   rw [if_neg c13] at H
   have c13b0 : (a0_0 == 1) = false := beq_eq_false_iff_ne.mpr c13
   have c13b1 : (a0_0 != 1) = true := bne_iff_ne.mpr c13
   by_cases c20 : a0_0 = 2
   ·
    rw [if_pos c20] at H
    have c20b0 : (a0_0 == 2) = true := beq_iff_eq.mpr c20
    have c20b1 : (a0_0 != 2) = false := bne_eq_false_iff_eq.mpr c20
    clear c20
    by_cases c21 : 6 + t204.size ≤ 9223372036854775807
    ·
     rw [if_pos c21] at H
     have c21b0 := eq_true c21
     have c21b1 : decide (6 + t204.size ≤ 9223372036854775807) = true := decide_eq_true c21
     try have c21b2 : (9223372036854775807 < 6 + t204.size) = False := eq_false (Nat.not_lt.2 c21)
     by_cases c22 : ((⟨#[97, 100, 109, 105, 116, 32]⟩ : ByteArray) ++ t204).size + 5 ≤ 9223372036854775807
     ·
      rw [if_pos c22] at H
      have c22b0 := eq_true c22
      have c22b1 : decide (((⟨#[97, 100, 109, 105, 116, 32]⟩ : ByteArray) ++ t204).size + 5 ≤ 9223372036854775807) = true := decide_eq_true c22
      try have c22b2 : (9223372036854775807 < ((⟨#[97, 100, 109, 105, 116, 32]⟩ : ByteArray) ++ t204).size + 5) = False := eq_false (Nat.not_lt.2 c22)
      try have c22b3 : (9223372036854775807 < 6 + t204.size + 5) = False := by have e_ : 6 + t204.size + 5 = ((⟨#[97, 100, 109, 105, 116, 32]⟩ : ByteArray) ++ t204).size + 5 := (by simp only [ByteArray.size_append] <;> rfl); rw [e_]; exact c22b2
      by_cases c23 : (((⟨#[97, 100, 109, 105, 116, 32]⟩ : ByteArray) ++ t204) ++ (⟨#[32, 100, 117, 101, 32]⟩ : ByteArray)).size + t205.size ≤ 9223372036854775807
      ·
       rw [if_pos c23] at H
       have c23b0 := eq_true c23
       have c23b1 : decide ((((⟨#[97, 100, 109, 105, 116, 32]⟩ : ByteArray) ++ t204) ++ (⟨#[32, 100, 117, 101, 32]⟩ : ByteArray)).size + t205.size ≤ 9223372036854775807) = true := decide_eq_true c23
       try have c23b2 : (9223372036854775807 < (((⟨#[97, 100, 109, 105, 116, 32]⟩ : ByteArray) ++ t204) ++ (⟨#[32, 100, 117, 101, 32]⟩ : ByteArray)).size + t205.size) = False := eq_false (Nat.not_lt.2 c23)
       try have c23b3 : (9223372036854775807 < 6 + t204.size + 5 + t205.size) = False := by have e_ : 6 + t204.size + 5 + t205.size = (((⟨#[97, 100, 109, 105, 116, 32]⟩ : ByteArray) ++ t204) ++ (⟨#[32, 100, 117, 101, 32]⟩ : ByteArray)).size + t205.size := (by simp only [ByteArray.size_append] <;> rfl); rw [e_]; exact c23b2
       obtain rfl := Option.some.inj H
       go_enter Tryd.func9, Tryd.ntmps9
       try go_wp2_with (first | ((with_reducible refine gate_dst (N := 1) rfl ?_); refine box_event ?hg (N := 1) ?hd (cs := #[.int .i64 a0_0, .int .i64 a0_1, .int .i64 a0_2, .int .i64 a0_3, .int .i64 a0_4, .int .i64 a0_5, .slice A0_6 l0_6.length c0_6]) (t := 35) ?hr ?_; (case hd => rfl); (case hg => rfl); (case hr => first | (go_simp; done) | (go_simp; rfl)); intro gb203 hg w24 hbox hb; have n0_ := Aside0.mk (below_step (by repeat (first | (with_reducible first | exact HB.out | apply below_alloc | apply pw_below_drewN | apply below_drew1) | exact HB.out)) hb); have n1_ := Aside0.mk (hbox); have n2_ := Aside0.mk ((by rw [hg]; exact (below_size (by repeat (first | (with_reducible first | exact HB.out | apply below_alloc | apply pw_below_drewN | apply below_drew1) | exact HB.out))) : w.heap.size ≤ gb203)); have n3_ := Aside0.mk ((by rw [hg]; exact (below_size (by repeat (first | (with_reducible first | exact HB.out | apply below_alloc | apply pw_below_drewN | apply below_drew1) | exact HB.out))) : w.heap.size ≤ gb203)); clear HB; have HB := n0_; have BK203 := n1_; have GW203 := n2_; have GE203 := n3_; clear n0_ n1_ n2_ n3_; clear hb hbox hg))
       have n0_ := Aside0.mk (blk_drew BK203.out)
       have n1_ := Aside0.mk (below_drew1 HB.out)
       clear BK203
       clear HB
       have BK203 := n0_
       have HB := n1_
       clear n0_ n1_
       refine start_ (n := 8) (S := fun w' => w'.cell? ⟨gb203, 0, none⟩ = some (.int .i64 a0_0) ∧ w'.cell? ⟨gb203, 1, none⟩ = some (.int .i64 a0_1) ∧ w'.cell? ⟨gb203, 2, none⟩ = some (.int .i64 a0_2) ∧ w'.cell? ⟨gb203, 3, none⟩ = some (.int .i64 a0_3) ∧ w'.cell? ⟨gb203, 4, none⟩ = some (.int .i64 a0_4) ∧ w'.cell? ⟨gb203, 5, none⟩ = some (.int .i64 a0_5) ∧ w'.cell? ⟨gb203, 6, none⟩ = some (.slice A0_6 l0_6.length c0_6)) (ds := []) #[false, false, false, false, false, false, false, false] (by kernel_rfl) rfl rfl ⟨(blk_cell BK203.out 0).trans rfl, (blk_cell BK203.out 1).trans rfl, (blk_cell BK203.out 2).trans rfl, (blk_cell BK203.out 3).trans rfl, (blk_cell BK203.out 4).trans rfl, (blk_cell BK203.out 5).trans rfl, (blk_cell BK203.out 6).trans rfl⟩ (fun hHeld => ?_); refine with_tabW impl_EventText.tab1 impl_EventText.bits1 (fun HT_ HW_ => ?_)
       generalize w24.drew = w25 at BK203 HB hHeld ⊢
       refine pure_ (i := 0) (N := some 5) (v := ?_) (a' := ?_) (bl_ 8 1) rfl rfl (any_of HT_.out (by kernel_rfl)) (fun _ _ _ h => h) (Or.inl ⟨by rfl, ?_⟩) ?_ ?_; rotate_left; (· intro w'; go_simp; with_reducible rfl); rotate_left; (· simp only [Act.put, List.setIfInBounds_toArray, List.set_cons_zero, List.set_cons_succ, i64_w, i32_w]; rfl)
       refine pure_ (i := 3) (N := some 8) (v := ?_) (a' := ?_) (bl_ 8 9) rfl rfl (any_of HT_.out (by kernel_rfl)) (fun _ _ _ h => h) (Or.inl ⟨by rfl, ?_⟩) ?_ ?_; rotate_left; (· intro w'; go_simp; with_reducible rfl); rotate_left; (· simp only [Act.put, List.setIfInBounds_toArray, List.set_cons_zero, List.set_cons_succ, i64_w, i32_w]; rfl)
       refine take_ (i := 1) (N := some 6) (v := ?_) (a' := ?_) (bl_ 8 11) rfl rfl (take_ofW HT_.out HW_.out (by kernel_rfl)) (fun _ _ _ h => h) (Or.inl ⟨by rfl, ?_⟩) hHeld ?_ ?_; rotate_left; (· rintro w' ⟨s0, s1, s2, s3, s4, s5, s6⟩; go_simp; with_reducible rfl); rotate_left; (· simp only [Act.put, List.setIfInBounds_toArray, List.set_cons_zero, List.set_cons_succ, i64_w, i32_w]; rfl)
       refine take_ (i := 4) (N := some 9) (v := ?_) (a' := ?_) (bl_ 8 27) rfl rfl (take_ofW HT_.out HW_.out (by kernel_rfl)) (fun _ _ _ h => h) (Or.inl ⟨by rfl, ?_⟩) hHeld ?_ ?_; rotate_left; (· rintro w' ⟨s0, s1, s2, s3, s4, s5, s6⟩; go_simp; with_reducible rfl); rotate_left; (· simp only [Act.put, List.setIfInBounds_toArray, List.set_cons_zero, List.set_cons_succ, i64_w, i32_w]; rfl)
       refine one_ (i := 2) (N := some 7) (bl_ 8 31) rfl rfl (one_of HT_.out (by kernel_rfl)) (by decide) (fun K hK => ?_)
       refine goes_ Tryd.func25 (by kernel_rfl) rfl #[.int .i64 a0_1] (by rfl) rfl rfl (by (try simp only [List.map_toArray, List.map_cons, List.map_nil]); first | done | rfl | (simp only [List.length_drop, List.length_take]; rfl)) ?_
       with_reducible refine (strconv_Itoa.calls a0_1 t204 _ A2.out).mono ?_
       rintro e w26 ⟨rfl, hb⟩
       refine ⟨_, rfl, ?_⟩
       have n0_ := Aside0.mk (blk_below (g := gb203) (o := .cells #[.int .i64 a0_0, .int .i64 a0_1, .int .i64 a0_2, .int .i64 a0_3, .int .i64 a0_4, .int .i64 a0_5, .slice A0_6 l0_6.length c0_6] 35 (0, 0)) (by (with_reducible repeat (first | refine blk_drewN ?_ _ | refine blk_drew ?_ | refine blk_alloc ?_ _)); exact BK203.out) hb)
       have n1_ := Aside0.mk (below_step (by repeat (first | (with_reducible first | exact HB.out | apply below_alloc | apply pw_below_drewN | apply below_drew1 | refine below_set ?_ GE203.out) | exact HB.out)) hb)
       clear BK203
       clear HB
       have BK203 := n0_
       have HB := n1_
       clear n0_ n1_
       (try clear hb)
       (try clear hb2)
       (try clear hk)
       (try clear hi)
       refine hK.out _ _ ⟨(blk_cell BK203.out 0).trans rfl, (blk_cell BK203.out 1).trans rfl, (blk_cell BK203.out 2).trans rfl, (blk_cell BK203.out 3).trans rfl, (blk_cell BK203.out 4).trans rfl, (blk_cell BK203.out 5).trans rfl, (blk_cell BK203.out 6).trans rfl⟩ (fun hHeld => ?_)
       clear hK K
       refine norm_ (a' := ?_) ?_ ?_; rotate_left; (· show Act.put _ (some 7) _ = _; simp only [Act.put, List.setIfInBounds_toArray, List.set_cons_zero, List.set_cons_succ, i64_w, i32_w]; rfl)
       refine one_ (i := 5) (N := some 10) (bl_ 8 63) rfl rfl (one_of HT_.out (by kernel_rfl)) (by decide) (fun K hK => ?_)
       refine goes_ Tryd.func25 (by kernel_rfl) rfl #[.int .i64 a0_2] (by rfl) rfl rfl (by (try simp only [List.map_toArray, List.map_cons, List.map_nil]); first | done | rfl | (simp only [List.length_drop, List.length_take]; rfl)) ?_
       with_reducible refine (strconv_Itoa.calls a0_2 t205 _ A3.out).mono ?_
       rintro e w27 ⟨rfl, hb⟩
       refine ⟨_, rfl, ?_⟩
       have n0_ := Aside0.mk (blk_below (g := gb203) (o := .cells #[.int .i64 a0_0, .int .i64 a0_1, .int .i64 a0_2, .int .i64 a0_3, .int .i64 a0_4, .int .i64 a0_5, .slice A0_6 l0_6.length c0_6] 35 (0, 0)) (by (with_reducible repeat (first | refine blk_drewN ?_ _ | refine blk_drew ?_ | refine blk_alloc ?_ _)); exact BK203.out) hb)
       have n1_ := Aside0.mk (below_step (by repeat (first | (with_reducible first | exact HB.out | apply below_alloc | apply pw_below_drewN | apply below_drew1 | refine below_set ?_ GE203.out) | exact HB.out)) hb)
       clear BK203
       clear HB
       have BK203 := n0_
       have HB := n1_
       clear n0_ n1_
       (try clear hb)
       (try clear hb2)
       (try clear hk)
       (try clear hi)
       refine hK.out _ _ ⟨(blk_cell BK203.out 0).trans rfl, (blk_cell BK203.out 1).trans rfl, (blk_cell BK203.out 2).trans rfl, (blk_cell BK203.out 3).trans rfl, (blk_cell BK203.out 4).trans rfl, (blk_cell BK203.out 5).trans rfl, (blk_cell BK203.out 6).trans rfl⟩ (fun hHeld => ?_)
       clear hK K
       refine norm_ (a' := ?_) ?_ ?_; rotate_left; (· show Act.put _ (some 10) _ = _; simp only [Act.put, List.setIfInBounds_toArray, List.set_cons_zero, List.set_cons_succ, i64_w, i32_w]; rfl)
       refine pure_ (i := 6) (N := some 3) (v := ?_) (a' := ?_) (bl_ 8 127) rfl rfl (any_of HT_.out (by kernel_rfl)) (fun _ _ _ h => h) (Or.inl ⟨by rfl, ?_⟩) ?_ ?_; rotate_left; (· intro w'; go_simp; with_reducible rfl); rotate_left; (· simp only [Act.put, List.setIfInBounds_toArray, List.set_cons_zero, List.set_cons_succ, i64_w, i32_w]; rfl)
       refine pure_ (i := 7) (N := some 4) (v := ?_) (a' := ?_) (bl_ 8 255) rfl rfl (any_of HT_.out (by kernel_rfl)) (fun _ _ _ h => h) (Or.inl ⟨by rfl, ?_⟩) ?_ ?_; rotate_left; (· intro w'; go_simp; with_reducible rfl); rotate_left; (· simp only [Act.put, List.setIfInBounds_toArray, List.set_cons_zero, List.set_cons_succ, i64_w, i32_w]; rfl)
       refine done_ (done_of HT_.out (by kernel_rfl)) ?_
       obtain ⟨hcz28_0, hcz28_1, hcz28_2, hcz28_3, hcz28_4, hcz28_5, hcz28_6, hfz28_0, hfz28_1, hfz28_2, hfz28_3, hfz28_4, hfz28_5, hfz28_6⟩ := box7_ BK203.out
       try go_wp2
       go_ret
       exact ⟨by first | rfl | (simp [errW_none, errW_some] <;> rfl) | (simp [*, errW_none, errW_some] <;> rfl), by repeat (first | (with_reducible first | exact HB.out | apply below_alloc | apply pw_below_drewN | apply below_drew1 | refine below_set ?_ GE203.out) | exact HB.out)⟩
      ·
       rw [if_neg c23] at H
       exact absurd H (by simp)
     ·
      rw [if_neg c22] at H
      exact absurd H (by simp)
    ·
     rw [if_neg c21] at H
     exact absurd H (by simp)
   ·
    rw [if_neg c20] at H
    have c20b0 : (a0_0 == 2) = false := beq_eq_false_iff_ne.mpr c20
    have c20b1 : (a0_0 != 2) = true := bne_iff_ne.mpr c20
    by_cases c29 : a0_0 = 3
    ·
     rw [if_pos c29] at H
     have c29b0 : (a0_0 == 3) = true := beq_iff_eq.mpr c29
     have c29b1 : (a0_0 != 3) = false := bne_eq_false_iff_eq.mpr c29
     clear c29
     by_cases c30 : 5 + t204.size ≤ 9223372036854775807
     ·
      rw [if_pos c30] at H
      have c30b0 := eq_true c30
      have c30b1 : decide (5 + t204.size ≤ 9223372036854775807) = true := decide_eq_true c30
      try have c30b2 : (9223372036854775807 < 5 + t204.size) = False := eq_false (Nat.not_lt.2 c30)
      by_cases c31 : ((⟨#[100, 111, 110, 101, 32]⟩ : ByteArray) ++ t204).size + 4 ≤ 9223372036854775807
      ·
       rw [if_pos c31] at H
       have c31b0 := eq_true c31
       have c31b1 : decide (((⟨#[100, 111, 110, 101, 32]⟩ : ByteArray) ++ t204).size + 4 ≤ 9223372036854775807) = true := decide_eq_true c31
       try have c31b2 : (9223372036854775807 < ((⟨#[100, 111, 110, 101, 32]⟩ : ByteArray) ++ t204).size + 4) = False := eq_false (Nat.not_lt.2 c31)
       try have c31b3 : (9223372036854775807 < 5 + t204.size + 4) = False := by have e_ : 5 + t204.size + 4 = ((⟨#[100, 111, 110, 101, 32]⟩ : ByteArray) ++ t204).size + 4 := (by simp only [ByteArray.size_append] <;> rfl); rw [e_]; exact c31b2
       by_cases c32 : (((⟨#[100, 111, 110, 101, 32]⟩ : ByteArray) ++ t204) ++ (⟨#[32, 97, 116, 32]⟩ : ByteArray)).size + t205.size ≤ 9223372036854775807
       ·
        rw [if_pos c32] at H
        have c32b0 := eq_true c32
        have c32b1 : decide ((((⟨#[100, 111, 110, 101, 32]⟩ : ByteArray) ++ t204) ++ (⟨#[32, 97, 116, 32]⟩ : ByteArray)).size + t205.size ≤ 9223372036854775807) = true := decide_eq_true c32
        try have c32b2 : (9223372036854775807 < (((⟨#[100, 111, 110, 101, 32]⟩ : ByteArray) ++ t204) ++ (⟨#[32, 97, 116, 32]⟩ : ByteArray)).size + t205.size) = False := eq_false (Nat.not_lt.2 c32)
        try have c32b3 : (9223372036854775807 < 5 + t204.size + 4 + t205.size) = False := by have e_ : 5 + t204.size + 4 + t205.size = (((⟨#[100, 111, 110, 101, 32]⟩ : ByteArray) ++ t204) ++ (⟨#[32, 97, 116, 32]⟩ : ByteArray)).size + t205.size := (by simp only [ByteArray.size_append] <;> rfl); rw [e_]; exact c32b2
        by_cases c33 : ((((⟨#[100, 111, 110, 101, 32]⟩ : ByteArray) ++ t204) ++ (⟨#[32, 97, 116, 32]⟩ : ByteArray)) ++ t205).size + 2 ≤ 9223372036854775807
        ·
         rw [if_pos c33] at H
         have c33b0 := eq_true c33
         have c33b1 : decide (((((⟨#[100, 111, 110, 101, 32]⟩ : ByteArray) ++ t204) ++ (⟨#[32, 97, 116, 32]⟩ : ByteArray)) ++ t205).size + 2 ≤ 9223372036854775807) = true := decide_eq_true c33
         try have c33b2 : (9223372036854775807 < ((((⟨#[100, 111, 110, 101, 32]⟩ : ByteArray) ++ t204) ++ (⟨#[32, 97, 116, 32]⟩ : ByteArray)) ++ t205).size + 2) = False := eq_false (Nat.not_lt.2 c33)
         try have c33b3 : (9223372036854775807 < 5 + t204.size + 4 + t205.size + 2) = False := by have e_ : 5 + t204.size + 4 + t205.size + 2 = ((((⟨#[100, 111, 110, 101, 32]⟩ : ByteArray) ++ t204) ++ (⟨#[32, 97, 116, 32]⟩ : ByteArray)) ++ t205).size + 2 := (by simp only [ByteArray.size_append] <;> rfl); rw [e_]; exact c33b2
         replace H := Option.bind_eq_some_iff.mp H
         obtain ⟨t206, A340, H⟩ := H
         replace H : (if (((((⟨#[100, 111, 110, 101, 32]⟩ : ByteArray) ++ t204) ++ (⟨#[32, 97, 116, 32]⟩ : ByteArray)) ++ t205) ++ (⟨#[58, 32]⟩ : ByteArray)).size + t206.size ≤ 9223372036854775807 then (some ((((((⟨#[100, 111, 110, 101, 32]⟩ : ByteArray) ++ t204) ++ (⟨#[32, 97, 116, 32]⟩ : ByteArray)) ++ t205) ++ (⟨#[58, 32]⟩ : ByteArray)) ++ t206)) else (none)) = some r := H
         have A34 := Aside0.mk A340
         clear A340
         by_cases c35 : (((((⟨#[100, 111, 110, 101, 32]⟩ : ByteArray) ++ t204) ++ (⟨#[32, 97, 116, 32]⟩ : ByteArray)) ++ t205) ++ (⟨#[58, 32]⟩ : ByteArray)).size + t206.size ≤ 9223372036854775807
         ·
          rw [if_pos c35] at H
          have c35b0 := eq_true c35
          have c35b1 : decide ((((((⟨#[100, 111, 110, 101, 32]⟩ : ByteArray) ++ t204) ++ (⟨#[32, 97, 116, 32]⟩ : ByteArray)) ++ t205) ++ (⟨#[58, 32]⟩ : ByteArray)).size + t206.size ≤ 9223372036854775807) = true := decide_eq_true c35
          try have c35b2 : (9223372036854775807 < (((((⟨#[100, 111, 110, 101, 32]⟩ : ByteArray) ++ t204) ++ (⟨#[32, 97, 116, 32]⟩ : ByteArray)) ++ t205) ++ (⟨#[58, 32]⟩ : ByteArray)).size + t206.size) = False := eq_false (Nat.not_lt.2 c35)
          try have c35b3 : (9223372036854775807 < 5 + t204.size + 4 + t205.size + 2 + t206.size) = False := by have e_ : 5 + t204.size + 4 + t205.size + 2 + t206.size = (((((⟨#[100, 111, 110, 101, 32]⟩ : ByteArray) ++ t204) ++ (⟨#[32, 97, 116, 32]⟩ : ByteArray)) ++ t205) ++ (⟨#[58, 32]⟩ : ByteArray)).size + t206.size := (by simp only [ByteArray.size_append] <;> rfl); rw [e_]; exact c35b2
          obtain rfl := Option.some.inj H
          go_enter Tryd.func9, Tryd.ntmps9
          try go_wp2_with (first | ((with_reducible refine gate_dst (N := 1) rfl ?_); refine box_event ?hg (N := 1) ?hd (cs := #[.int .i64 a0_0, .int .i64 a0_1, .int .i64 a0_2, .int .i64 a0_3, .int .i64 a0_4, .int .i64 a0_5, .slice A0_6 l0_6.length c0_6]) (t := 35) ?hr ?_; (case hd => rfl); (case hg => rfl); (case hr => first | (go_simp; done) | (go_simp; rfl)); intro gb203 hg w36 hbox hb; have n0_ := Aside0.mk (below_step (by repeat (first | (with_reducible first | exact HB.out | apply below_alloc | apply pw_below_drewN | apply below_drew1) | exact HB.out)) hb); have n1_ := Aside0.mk (hbox); have n2_ := Aside0.mk ((by rw [hg]; exact (below_size (by repeat (first | (with_reducible first | exact HB.out | apply below_alloc | apply pw_below_drewN | apply below_drew1) | exact HB.out))) : w.heap.size ≤ gb203)); have n3_ := Aside0.mk ((by rw [hg]; exact (below_size (by repeat (first | (with_reducible first | exact HB.out | apply below_alloc | apply pw_below_drewN | apply below_drew1) | exact HB.out))) : w.heap.size ≤ gb203)); clear HB; have HB := n0_; have BK203 := n1_; have GW203 := n2_; have GE203 := n3_; clear n0_ n1_ n2_ n3_; clear hb hbox hg))
          have n0_ := Aside0.mk (blk_drew BK203.out)
          have n1_ := Aside0.mk (below_drew1 HB.out)
          clear BK203
          clear HB
          have BK203 := n0_
          have HB := n1_
          clear n0_ n1_
          refine start_ (n := 8) (S := fun w' => w'.cell? ⟨gb203, 0, none⟩ = some (.int .i64 a0_0) ∧ w'.cell? ⟨gb203, 1, none⟩ = some (.int .i64 a0_1) ∧ w'.cell? ⟨gb203, 2, none⟩ = some (.int .i64 a0_2) ∧ w'.cell? ⟨gb203, 3, none⟩ = some (.int .i64 a0_3) ∧ w'.cell? ⟨gb203, 4, none⟩ = some (.int .i64 a0_4) ∧ w'.cell? ⟨gb203, 5, none⟩ = some (.int .i64 a0_5) ∧ w'.cell? ⟨gb203, 6, none⟩ = some (.slice A0_6 l0_6.length c0_6)) (ds := []) #[false, false, false, false, false, false, false, false] (by kernel_rfl) rfl rfl ⟨(blk_cell BK203.out 0).trans rfl, (blk_cell BK203.out 1).trans rfl, (blk_cell BK203.out 2).trans rfl, (blk_cell BK203.out 3).trans rfl, (blk_cell BK203.out 4).trans rfl, (blk_cell BK203.out 5).trans rfl, (blk_cell BK203.out 6).trans rfl⟩ (fun hHeld => ?_); refine with_tabW impl_EventText.tab1 impl_EventText.bits1 (fun HT_ HW_ => ?_)
          generalize w36.drew = w37 at BK203 HB hHeld ⊢
          refine pure_ (i := 0) (N := some 5) (v := ?_) (a' := ?_) (bl_ 8 1) rfl rfl (any_of HT_.out (by kernel_rfl)) (fun _ _ _ h => h) (Or.inl ⟨by rfl, ?_⟩) ?_ ?_; rotate_left; (· intro w'; go_simp; with_reducible rfl); rotate_left; (· simp only [Act.put, List.setIfInBounds_toArray, List.set_cons_zero, List.set_cons_succ, i64_w, i32_w]; rfl)
          refine pure_ (i := 3) (N := some 8) (v := ?_) (a' := ?_) (bl_ 8 9) rfl rfl (any_of HT_.out (by kernel_rfl)) (fun _ _ _ h => h) (Or.inl ⟨by rfl, ?_⟩) ?_ ?_; rotate_left; (· intro w'; go_simp; with_reducible rfl); rotate_left; (· simp only [Act.put, List.setIfInBounds_toArray, List.set_cons_zero, List.set_cons_succ, i64_w, i32_w]; rfl)
          refine take_ (i := 1) (N := some 6) (v := ?_) (a' := ?_) (bl_ 8 11) rfl rfl (take_ofW HT_.out HW_.out (by kernel_rfl)) (fun _ _ _ h => h) (Or.inl ⟨by rfl, ?_⟩) hHeld ?_ ?_; rotate_left; (· rintro w' ⟨s0, s1, s2, s3, s4, s5, s6⟩; go_simp; with_reducible rfl); rotate_left; (· simp only [Act.put, List.setIfInBounds_toArray, List.set_cons_zero, List.set_cons_succ, i64_w, i32_w]; rfl)
          refine take_ (i := 4) (N := some 9) (v := ?_) (a' := ?_) (bl_ 8 27) rfl rfl (take_ofW HT_.out HW_.out (by kernel_rfl)) (fun _ _ _ h => h) (Or.inl ⟨by rfl, ?_⟩) hHeld ?_ ?_; rotate_left; (· rintro w' ⟨s0, s1, s2, s3, s4, s5, s6⟩; go_simp; with_reducible rfl); rotate_left; (· simp only [Act.put, List.setIfInBounds_toArray, List.set_cons_zero, List.set_cons_succ, i64_w, i32_w]; rfl)
          refine one_ (i := 2) (N := some 7) (bl_ 8 31) rfl rfl (one_of HT_.out (by kernel_rfl)) (by decide) (fun K hK => ?_)
          refine goes_ Tryd.func25 (by kernel_rfl) rfl #[.int .i64 a0_1] (by rfl) rfl rfl (by (try simp only [List.map_toArray, List.map_cons, List.map_nil]); first | done | rfl | (simp only [List.length_drop, List.length_take]; rfl)) ?_
          with_reducible refine (strconv_Itoa.calls a0_1 t204 _ A2.out).mono ?_
          rintro e w38 ⟨rfl, hb⟩
          refine ⟨_, rfl, ?_⟩
          have n0_ := Aside0.mk (blk_below (g := gb203) (o := .cells #[.int .i64 a0_0, .int .i64 a0_1, .int .i64 a0_2, .int .i64 a0_3, .int .i64 a0_4, .int .i64 a0_5, .slice A0_6 l0_6.length c0_6] 35 (0, 0)) (by (with_reducible repeat (first | refine blk_drewN ?_ _ | refine blk_drew ?_ | refine blk_alloc ?_ _)); exact BK203.out) hb)
          have n1_ := Aside0.mk (below_step (by repeat (first | (with_reducible first | exact HB.out | apply below_alloc | apply pw_below_drewN | apply below_drew1 | refine below_set ?_ GE203.out) | exact HB.out)) hb)
          clear BK203
          clear HB
          have BK203 := n0_
          have HB := n1_
          clear n0_ n1_
          (try clear hb)
          (try clear hb2)
          (try clear hk)
          (try clear hi)
          refine hK.out _ _ ⟨(blk_cell BK203.out 0).trans rfl, (blk_cell BK203.out 1).trans rfl, (blk_cell BK203.out 2).trans rfl, (blk_cell BK203.out 3).trans rfl, (blk_cell BK203.out 4).trans rfl, (blk_cell BK203.out 5).trans rfl, (blk_cell BK203.out 6).trans rfl⟩ (fun hHeld => ?_)
          clear hK K
          refine norm_ (a' := ?_) ?_ ?_; rotate_left; (· show Act.put _ (some 7) _ = _; simp only [Act.put, List.setIfInBounds_toArray, List.set_cons_zero, List.set_cons_succ, i64_w, i32_w]; rfl)
          refine one_ (i := 5) (N := some 10) (bl_ 8 63) rfl rfl (one_of HT_.out (by kernel_rfl)) (by decide) (fun K hK => ?_)
          refine goes_ Tryd.func25 (by kernel_rfl) rfl #[.int .i64 a0_2] (by rfl) rfl rfl (by (try simp only [List.map_toArray, List.map_cons, List.map_nil]); first | done | rfl | (simp only [List.length_drop, List.length_take]; rfl)) ?_
          with_reducible refine (strconv_Itoa.calls a0_2 t205 _ A3.out).mono ?_
          rintro e w39 ⟨rfl, hb⟩
          refine ⟨_, rfl, ?_⟩
          have n0_ := Aside0.mk (blk_below (g := gb203) (o := .cells #[.int .i64 a0_0, .int .i64 a0_1, .int .i64 a0_2, .int .i64 a0_3, .int .i64 a0_4, .int .i64 a0_5, .slice A0_6 l0_6.length c0_6] 35 (0, 0)) (by (with_reducible repeat (first | refine blk_drewN ?_ _ | refine blk_drew ?_ | refine blk_alloc ?_ _)); exact BK203.out) hb)
          have n1_ := Aside0.mk (below_step (by repeat (first | (with_reducible first | exact HB.out | apply below_alloc | apply pw_below_drewN | apply below_drew1 | refine below_set ?_ GE203.out) | exact HB.out)) hb)
          clear BK203
          clear HB
          have BK203 := n0_
          have HB := n1_
          clear n0_ n1_
          (try clear hb)
          (try clear hb2)
          (try clear hk)
          (try clear hi)
          refine hK.out _ _ ⟨(blk_cell BK203.out 0).trans rfl, (blk_cell BK203.out 1).trans rfl, (blk_cell BK203.out 2).trans rfl, (blk_cell BK203.out 3).trans rfl, (blk_cell BK203.out 4).trans rfl, (blk_cell BK203.out 5).trans rfl, (blk_cell BK203.out 6).trans rfl⟩ (fun hHeld => ?_)
          clear hK K
          refine norm_ (a' := ?_) ?_ ?_; rotate_left; (· show Act.put _ (some 10) _ = _; simp only [Act.put, List.setIfInBounds_toArray, List.set_cons_zero, List.set_cons_succ, i64_w, i32_w]; rfl)
          refine pure_ (i := 6) (N := some 3) (v := ?_) (a' := ?_) (bl_ 8 127) rfl rfl (any_of HT_.out (by kernel_rfl)) (fun _ _ _ h => h) (Or.inl ⟨by rfl, ?_⟩) ?_ ?_; rotate_left; (· intro w'; go_simp; with_reducible rfl); rotate_left; (· simp only [Act.put, List.setIfInBounds_toArray, List.set_cons_zero, List.set_cons_succ, i64_w, i32_w]; rfl)
          refine pure_ (i := 7) (N := some 4) (v := ?_) (a' := ?_) (bl_ 8 255) rfl rfl (any_of HT_.out (by kernel_rfl)) (fun _ _ _ h => h) (Or.inl ⟨by rfl, ?_⟩) ?_ ?_; rotate_left; (· intro w'; go_simp; with_reducible rfl); rotate_left; (· simp only [Act.put, List.setIfInBounds_toArray, List.set_cons_zero, List.set_cons_succ, i64_w, i32_w]; rfl)
          refine done_ (done_of HT_.out (by kernel_rfl)) ?_
          obtain ⟨hcz40_0, hcz40_1, hcz40_2, hcz40_3, hcz40_4, hcz40_5, hcz40_6, hfz40_0, hfz40_1, hfz40_2, hfz40_3, hfz40_4, hfz40_5, hfz40_6⟩ := box7_ BK203.out
          try go_wp2_with (first | ((with_reducible refine gate_callee (f := 26) rfl ?_); refine goesL_ (some 41) rfl rfl Tryd.func26 (by kernel_rfl) rfl #[.agg #[.int .i64 a0_3, .int .i64 a0_4, .int .i64 a0_5, .slice A0_6 l0_6.length c0_6]] rfl (by (try simp only [List.map_toArray, List.map_cons, List.map_nil]); first | done | rfl | (simp only [List.length_drop, List.length_take]; rfl)) ?_; (with_reducible refine (impl_TensorText.calls k a0_3 a0_4 a0_5 _ _ l0_6 t206 _ ?side1 ?side2 A34.out).mono ?_); (case side1 => repeat (first | exact (Kd.C_below HR0_6.out HB.out) | (with_reducible refine Kd.C_alloc ?_ _) | (with_reducible refine Kd.C_drewN ?_ _) | (with_reducible refine Kd.C_drew ?_))); (case side2 => exact HC0_6.out); rintro e w41 ⟨rfl, hb⟩; refine ⟨_, rfl, ?_⟩; have n0_ := Aside0.mk (blk_below (g := gb203) (o := .cells #[.int .i64 a0_0, .int .i64 a0_1, .int .i64 a0_2, .int .i64 a0_3, .int .i64 a0_4, .int .i64 a0_5, .slice A0_6 l0_6.length c0_6] 35 (0, 0)) (by (with_reducible repeat (first | refine blk_drewN ?_ _ | refine blk_drew ?_ | refine blk_alloc ?_ _)); exact BK203.out) hb); have n1_ := Aside0.mk (below_step (by repeat (first | (with_reducible first | exact HB.out | apply below_alloc | apply pw_below_drewN | apply below_drew1 | refine below_set ?_ GE203.out) | exact HB.out)) hb); clear BK203; clear HB; have BK203 := n0_; have HB := n1_; clear n0_ n1_; (try clear hb); (try clear hb2); (try clear hk); (try clear hi)))
          go_ret
          exact ⟨by first | rfl | (simp [errW_none, errW_some] <;> rfl) | (simp [*, errW_none, errW_some] <;> rfl), by repeat (first | (with_reducible first | exact HB.out | apply below_alloc | apply pw_below_drewN | apply below_drew1 | refine below_set ?_ GE203.out) | exact HB.out)⟩
         ·
          rw [if_neg c35] at H
          exact absurd H (by simp)
        ·
         rw [if_neg c33] at H
         exact absurd H (by simp)
       ·
        rw [if_neg c32] at H
        exact absurd H (by simp)
      ·
       rw [if_neg c31] at H
       exact absurd H (by simp)
     ·
      rw [if_neg c30] at H
      exact absurd H (by simp)
    ·
     rw [if_neg c29] at H
     have c29b0 : (a0_0 == 3) = false := beq_eq_false_iff_ne.mpr c29
     have c29b1 : (a0_0 != 3) = true := bne_iff_ne.mpr c29
     by_cases c42 : a0_0 = 4
     ·
      rw [if_pos c42] at H
      have c42b0 : (a0_0 == 4) = true := beq_iff_eq.mpr c42
      have c42b1 : (a0_0 != 4) = false := bne_eq_false_iff_eq.mpr c42
      clear c42
      by_cases c43 : 7 + t204.size ≤ 9223372036854775807
      ·
       rw [if_pos c43] at H
       have c43b0 := eq_true c43
       have c43b1 : decide (7 + t204.size ≤ 9223372036854775807) = true := decide_eq_true c43
       try have c43b2 : (9223372036854775807 < 7 + t204.size) = False := eq_false (Nat.not_lt.2 c43)
       obtain rfl := Option.some.inj H
       go_enter Tryd.func9, Tryd.ntmps9
       try go_wp2_with (first | ((with_reducible refine gate_dst (N := 1) rfl ?_); refine box_event ?hg (N := 1) ?hd (cs := #[.int .i64 a0_0, .int .i64 a0_1, .int .i64 a0_2, .int .i64 a0_3, .int .i64 a0_4, .int .i64 a0_5, .slice A0_6 l0_6.length c0_6]) (t := 35) ?hr ?_; (case hd => rfl); (case hg => rfl); (case hr => first | (go_simp; done) | (go_simp; rfl)); intro gb203 hg w44 hbox hb; have n0_ := Aside0.mk (below_step (by repeat (first | (with_reducible first | exact HB.out | apply below_alloc | apply pw_below_drewN | apply below_drew1) | exact HB.out)) hb); have n1_ := Aside0.mk (hbox); have n2_ := Aside0.mk ((by rw [hg]; exact (below_size (by repeat (first | (with_reducible first | exact HB.out | apply below_alloc | apply pw_below_drewN | apply below_drew1) | exact HB.out))) : w.heap.size ≤ gb203)); have n3_ := Aside0.mk ((by rw [hg]; exact (below_size (by repeat (first | (with_reducible first | exact HB.out | apply below_alloc | apply pw_below_drewN | apply below_drew1) | exact HB.out))) : w.heap.size ≤ gb203)); clear HB; have HB := n0_; have BK203 := n1_; have GW203 := n2_; have GE203 := n3_; clear n0_ n1_ n2_ n3_; clear hb hbox hg))
       have n0_ := Aside0.mk (blk_drew BK203.out)
       have n1_ := Aside0.mk (below_drew1 HB.out)
       clear BK203
       clear HB
       have BK203 := n0_
       have HB := n1_
       clear n0_ n1_
       refine start_ (n := 8) (S := fun w' => w'.cell? ⟨gb203, 0, none⟩ = some (.int .i64 a0_0) ∧ w'.cell? ⟨gb203, 1, none⟩ = some (.int .i64 a0_1) ∧ w'.cell? ⟨gb203, 2, none⟩ = some (.int .i64 a0_2) ∧ w'.cell? ⟨gb203, 3, none⟩ = some (.int .i64 a0_3) ∧ w'.cell? ⟨gb203, 4, none⟩ = some (.int .i64 a0_4) ∧ w'.cell? ⟨gb203, 5, none⟩ = some (.int .i64 a0_5) ∧ w'.cell? ⟨gb203, 6, none⟩ = some (.slice A0_6 l0_6.length c0_6)) (ds := []) #[false, false, false, false, false, false, false, false] (by kernel_rfl) rfl rfl ⟨(blk_cell BK203.out 0).trans rfl, (blk_cell BK203.out 1).trans rfl, (blk_cell BK203.out 2).trans rfl, (blk_cell BK203.out 3).trans rfl, (blk_cell BK203.out 4).trans rfl, (blk_cell BK203.out 5).trans rfl, (blk_cell BK203.out 6).trans rfl⟩ (fun hHeld => ?_); refine with_tabW impl_EventText.tab1 impl_EventText.bits1 (fun HT_ HW_ => ?_)
       generalize w44.drew = w45 at BK203 HB hHeld ⊢
       refine pure_ (i := 0) (N := some 5) (v := ?_) (a' := ?_) (bl_ 8 1) rfl rfl (any_of HT_.out (by kernel_rfl)) (fun _ _ _ h => h) (Or.inl ⟨by rfl, ?_⟩) ?_ ?_; rotate_left; (· intro w'; go_simp; with_reducible rfl); rotate_left; (· simp only [Act.put, List.setIfInBounds_toArray, List.set_cons_zero, List.set_cons_succ, i64_w, i32_w]; rfl)
       refine pure_ (i := 3) (N := some 8) (v := ?_) (a' := ?_) (bl_ 8 9) rfl rfl (any_of HT_.out (by kernel_rfl)) (fun _ _ _ h => h) (Or.inl ⟨by rfl, ?_⟩) ?_ ?_; rotate_left; (· intro w'; go_simp; with_reducible rfl); rotate_left; (· simp only [Act.put, List.setIfInBounds_toArray, List.set_cons_zero, List.set_cons_succ, i64_w, i32_w]; rfl)
       refine take_ (i := 1) (N := some 6) (v := ?_) (a' := ?_) (bl_ 8 11) rfl rfl (take_ofW HT_.out HW_.out (by kernel_rfl)) (fun _ _ _ h => h) (Or.inl ⟨by rfl, ?_⟩) hHeld ?_ ?_; rotate_left; (· rintro w' ⟨s0, s1, s2, s3, s4, s5, s6⟩; go_simp; with_reducible rfl); rotate_left; (· simp only [Act.put, List.setIfInBounds_toArray, List.set_cons_zero, List.set_cons_succ, i64_w, i32_w]; rfl)
       refine take_ (i := 4) (N := some 9) (v := ?_) (a' := ?_) (bl_ 8 27) rfl rfl (take_ofW HT_.out HW_.out (by kernel_rfl)) (fun _ _ _ h => h) (Or.inl ⟨by rfl, ?_⟩) hHeld ?_ ?_; rotate_left; (· rintro w' ⟨s0, s1, s2, s3, s4, s5, s6⟩; go_simp; with_reducible rfl); rotate_left; (· simp only [Act.put, List.setIfInBounds_toArray, List.set_cons_zero, List.set_cons_succ, i64_w, i32_w]; rfl)
       refine one_ (i := 2) (N := some 7) (bl_ 8 31) rfl rfl (one_of HT_.out (by kernel_rfl)) (by decide) (fun K hK => ?_)
       refine goes_ Tryd.func25 (by kernel_rfl) rfl #[.int .i64 a0_1] (by rfl) rfl rfl (by (try simp only [List.map_toArray, List.map_cons, List.map_nil]); first | done | rfl | (simp only [List.length_drop, List.length_take]; rfl)) ?_
       with_reducible refine (strconv_Itoa.calls a0_1 t204 _ A2.out).mono ?_
       rintro e w46 ⟨rfl, hb⟩
       refine ⟨_, rfl, ?_⟩
       have n0_ := Aside0.mk (blk_below (g := gb203) (o := .cells #[.int .i64 a0_0, .int .i64 a0_1, .int .i64 a0_2, .int .i64 a0_3, .int .i64 a0_4, .int .i64 a0_5, .slice A0_6 l0_6.length c0_6] 35 (0, 0)) (by (with_reducible repeat (first | refine blk_drewN ?_ _ | refine blk_drew ?_ | refine blk_alloc ?_ _)); exact BK203.out) hb)
       have n1_ := Aside0.mk (below_step (by repeat (first | (with_reducible first | exact HB.out | apply below_alloc | apply pw_below_drewN | apply below_drew1 | refine below_set ?_ GE203.out) | exact HB.out)) hb)
       clear BK203
       clear HB
       have BK203 := n0_
       have HB := n1_
       clear n0_ n1_
       (try clear hb)
       (try clear hb2)
       (try clear hk)
       (try clear hi)
       refine hK.out _ _ ⟨(blk_cell BK203.out 0).trans rfl, (blk_cell BK203.out 1).trans rfl, (blk_cell BK203.out 2).trans rfl, (blk_cell BK203.out 3).trans rfl, (blk_cell BK203.out 4).trans rfl, (blk_cell BK203.out 5).trans rfl, (blk_cell BK203.out 6).trans rfl⟩ (fun hHeld => ?_)
       clear hK K
       refine norm_ (a' := ?_) ?_ ?_; rotate_left; (· show Act.put _ (some 7) _ = _; simp only [Act.put, List.setIfInBounds_toArray, List.set_cons_zero, List.set_cons_succ, i64_w, i32_w]; rfl)
       refine one_ (i := 5) (N := some 10) (bl_ 8 63) rfl rfl (one_of HT_.out (by kernel_rfl)) (by decide) (fun K hK => ?_)
       refine goes_ Tryd.func25 (by kernel_rfl) rfl #[.int .i64 a0_2] (by rfl) rfl rfl (by (try simp only [List.map_toArray, List.map_cons, List.map_nil]); first | done | rfl | (simp only [List.length_drop, List.length_take]; rfl)) ?_
       with_reducible refine (strconv_Itoa.calls a0_2 t205 _ A3.out).mono ?_
       rintro e w47 ⟨rfl, hb⟩
       refine ⟨_, rfl, ?_⟩
       have n0_ := Aside0.mk (blk_below (g := gb203) (o := .cells #[.int .i64 a0_0, .int .i64 a0_1, .int .i64 a0_2, .int .i64 a0_3, .int .i64 a0_4, .int .i64 a0_5, .slice A0_6 l0_6.length c0_6] 35 (0, 0)) (by (with_reducible repeat (first | refine blk_drewN ?_ _ | refine blk_drew ?_ | refine blk_alloc ?_ _)); exact BK203.out) hb)
       have n1_ := Aside0.mk (below_step (by repeat (first | (with_reducible first | exact HB.out | apply below_alloc | apply pw_below_drewN | apply below_drew1 | refine below_set ?_ GE203.out) | exact HB.out)) hb)
       clear BK203
       clear HB
       have BK203 := n0_
       have HB := n1_
       clear n0_ n1_
       (try clear hb)
       (try clear hb2)
       (try clear hk)
       (try clear hi)
       refine hK.out _ _ ⟨(blk_cell BK203.out 0).trans rfl, (blk_cell BK203.out 1).trans rfl, (blk_cell BK203.out 2).trans rfl, (blk_cell BK203.out 3).trans rfl, (blk_cell BK203.out 4).trans rfl, (blk_cell BK203.out 5).trans rfl, (blk_cell BK203.out 6).trans rfl⟩ (fun hHeld => ?_)
       clear hK K
       refine norm_ (a' := ?_) ?_ ?_; rotate_left; (· show Act.put _ (some 10) _ = _; simp only [Act.put, List.setIfInBounds_toArray, List.set_cons_zero, List.set_cons_succ, i64_w, i32_w]; rfl)
       refine pure_ (i := 6) (N := some 3) (v := ?_) (a' := ?_) (bl_ 8 127) rfl rfl (any_of HT_.out (by kernel_rfl)) (fun _ _ _ h => h) (Or.inl ⟨by rfl, ?_⟩) ?_ ?_; rotate_left; (· intro w'; go_simp; with_reducible rfl); rotate_left; (· simp only [Act.put, List.setIfInBounds_toArray, List.set_cons_zero, List.set_cons_succ, i64_w, i32_w]; rfl)
       refine pure_ (i := 7) (N := some 4) (v := ?_) (a' := ?_) (bl_ 8 255) rfl rfl (any_of HT_.out (by kernel_rfl)) (fun _ _ _ h => h) (Or.inl ⟨by rfl, ?_⟩) ?_ ?_; rotate_left; (· intro w'; go_simp; with_reducible rfl); rotate_left; (· simp only [Act.put, List.setIfInBounds_toArray, List.set_cons_zero, List.set_cons_succ, i64_w, i32_w]; rfl)
       refine done_ (done_of HT_.out (by kernel_rfl)) ?_
       obtain ⟨hcz48_0, hcz48_1, hcz48_2, hcz48_3, hcz48_4, hcz48_5, hcz48_6, hfz48_0, hfz48_1, hfz48_2, hfz48_3, hfz48_4, hfz48_5, hfz48_6⟩ := box7_ BK203.out
       try go_wp2
       go_ret
       exact ⟨by first | rfl | (simp [errW_none, errW_some] <;> rfl) | (simp [*, errW_none, errW_some] <;> rfl), by repeat (first | (with_reducible first | exact HB.out | apply below_alloc | apply pw_below_drewN | apply below_drew1 | refine below_set ?_ GE203.out) | exact HB.out)⟩
      ·
       rw [if_neg c43] at H
       exact absurd H (by simp)
     ·
      rw [if_neg c42] at H
      have c42b0 : (a0_0 == 4) = false := beq_eq_false_iff_ne.mpr c42
      have c42b1 : (a0_0 != 4) = true := bne_iff_ne.mpr c42
      by_cases c49 : a0_0 = 5
      ·
       rw [if_pos c49] at H
       have c49b0 : (a0_0 == 5) = true := beq_iff_eq.mpr c49
       have c49b1 : (a0_0 != 5) = false := bne_eq_false_iff_eq.mpr c49
       clear c49
       by_cases c50 : 7 + t204.size ≤ 9223372036854775807
       ·
        rw [if_pos c50] at H
        have c50b0 := eq_true c50
        have c50b1 : decide (7 + t204.size ≤ 9223372036854775807) = true := decide_eq_true c50
        try have c50b2 : (9223372036854775807 < 7 + t204.size) = False := eq_false (Nat.not_lt.2 c50)
        by_cases c51 : ((⟨#[114, 101, 102, 117, 115, 101, 32]⟩ : ByteArray) ++ t204).size + 6 ≤ 9223372036854775807
        ·
         rw [if_pos c51] at H
         have c51b0 := eq_true c51
         have c51b1 : decide (((⟨#[114, 101, 102, 117, 115, 101, 32]⟩ : ByteArray) ++ t204).size + 6 ≤ 9223372036854775807) = true := decide_eq_true c51
         try have c51b2 : (9223372036854775807 < ((⟨#[114, 101, 102, 117, 115, 101, 32]⟩ : ByteArray) ++ t204).size + 6) = False := eq_false (Nat.not_lt.2 c51)
         try have c51b3 : (9223372036854775807 < 7 + t204.size + 6) = False := by have e_ : 7 + t204.size + 6 = ((⟨#[114, 101, 102, 117, 115, 101, 32]⟩ : ByteArray) ++ t204).size + 6 := (by simp only [ByteArray.size_append] <;> rfl); rw [e_]; exact c51b2
         by_cases c52 : (((⟨#[114, 101, 102, 117, 115, 101, 32]⟩ : ByteArray) ++ t204) ++ (⟨#[32, 99, 111, 100, 101, 32]⟩ : ByteArray)).size + t205.size ≤ 9223372036854775807
         ·
          rw [if_pos c52] at H
          have c52b0 := eq_true c52
          have c52b1 : decide ((((⟨#[114, 101, 102, 117, 115, 101, 32]⟩ : ByteArray) ++ t204) ++ (⟨#[32, 99, 111, 100, 101, 32]⟩ : ByteArray)).size + t205.size ≤ 9223372036854775807) = true := decide_eq_true c52
          try have c52b2 : (9223372036854775807 < (((⟨#[114, 101, 102, 117, 115, 101, 32]⟩ : ByteArray) ++ t204) ++ (⟨#[32, 99, 111, 100, 101, 32]⟩ : ByteArray)).size + t205.size) = False := eq_false (Nat.not_lt.2 c52)
          try have c52b3 : (9223372036854775807 < 7 + t204.size + 6 + t205.size) = False := by have e_ : 7 + t204.size + 6 + t205.size = (((⟨#[114, 101, 102, 117, 115, 101, 32]⟩ : ByteArray) ++ t204) ++ (⟨#[32, 99, 111, 100, 101, 32]⟩ : ByteArray)).size + t205.size := (by simp only [ByteArray.size_append] <;> rfl); rw [e_]; exact c52b2
          obtain rfl := Option.some.inj H
          go_enter Tryd.func9, Tryd.ntmps9
          try go_wp2_with (first | ((with_reducible refine gate_dst (N := 1) rfl ?_); refine box_event ?hg (N := 1) ?hd (cs := #[.int .i64 a0_0, .int .i64 a0_1, .int .i64 a0_2, .int .i64 a0_3, .int .i64 a0_4, .int .i64 a0_5, .slice A0_6 l0_6.length c0_6]) (t := 35) ?hr ?_; (case hd => rfl); (case hg => rfl); (case hr => first | (go_simp; done) | (go_simp; rfl)); intro gb203 hg w53 hbox hb; have n0_ := Aside0.mk (below_step (by repeat (first | (with_reducible first | exact HB.out | apply below_alloc | apply pw_below_drewN | apply below_drew1) | exact HB.out)) hb); have n1_ := Aside0.mk (hbox); have n2_ := Aside0.mk ((by rw [hg]; exact (below_size (by repeat (first | (with_reducible first | exact HB.out | apply below_alloc | apply pw_below_drewN | apply below_drew1) | exact HB.out))) : w.heap.size ≤ gb203)); have n3_ := Aside0.mk ((by rw [hg]; exact (below_size (by repeat (first | (with_reducible first | exact HB.out | apply below_alloc | apply pw_below_drewN | apply below_drew1) | exact HB.out))) : w.heap.size ≤ gb203)); clear HB; have HB := n0_; have BK203 := n1_; have GW203 := n2_; have GE203 := n3_; clear n0_ n1_ n2_ n3_; clear hb hbox hg))
          have n0_ := Aside0.mk (blk_drew BK203.out)
          have n1_ := Aside0.mk (below_drew1 HB.out)
          clear BK203
          clear HB
          have BK203 := n0_
          have HB := n1_
          clear n0_ n1_
          refine start_ (n := 8) (S := fun w' => w'.cell? ⟨gb203, 0, none⟩ = some (.int .i64 a0_0) ∧ w'.cell? ⟨gb203, 1, none⟩ = some (.int .i64 a0_1) ∧ w'.cell? ⟨gb203, 2, none⟩ = some (.int .i64 a0_2) ∧ w'.cell? ⟨gb203, 3, none⟩ = some (.int .i64 a0_3) ∧ w'.cell? ⟨gb203, 4, none⟩ = some (.int .i64 a0_4) ∧ w'.cell? ⟨gb203, 5, none⟩ = some (.int .i64 a0_5) ∧ w'.cell? ⟨gb203, 6, none⟩ = some (.slice A0_6 l0_6.length c0_6)) (ds := []) #[false, false, false, false, false, false, false, false] (by kernel_rfl) rfl rfl ⟨(blk_cell BK203.out 0).trans rfl, (blk_cell BK203.out 1).trans rfl, (blk_cell BK203.out 2).trans rfl, (blk_cell BK203.out 3).trans rfl, (blk_cell BK203.out 4).trans rfl, (blk_cell BK203.out 5).trans rfl, (blk_cell BK203.out 6).trans rfl⟩ (fun hHeld => ?_); refine with_tabW impl_EventText.tab1 impl_EventText.bits1 (fun HT_ HW_ => ?_)
          generalize w53.drew = w54 at BK203 HB hHeld ⊢
          refine pure_ (i := 0) (N := some 5) (v := ?_) (a' := ?_) (bl_ 8 1) rfl rfl (any_of HT_.out (by kernel_rfl)) (fun _ _ _ h => h) (Or.inl ⟨by rfl, ?_⟩) ?_ ?_; rotate_left; (· intro w'; go_simp; with_reducible rfl); rotate_left; (· simp only [Act.put, List.setIfInBounds_toArray, List.set_cons_zero, List.set_cons_succ, i64_w, i32_w]; rfl)
          refine pure_ (i := 3) (N := some 8) (v := ?_) (a' := ?_) (bl_ 8 9) rfl rfl (any_of HT_.out (by kernel_rfl)) (fun _ _ _ h => h) (Or.inl ⟨by rfl, ?_⟩) ?_ ?_; rotate_left; (· intro w'; go_simp; with_reducible rfl); rotate_left; (· simp only [Act.put, List.setIfInBounds_toArray, List.set_cons_zero, List.set_cons_succ, i64_w, i32_w]; rfl)
          refine take_ (i := 1) (N := some 6) (v := ?_) (a' := ?_) (bl_ 8 11) rfl rfl (take_ofW HT_.out HW_.out (by kernel_rfl)) (fun _ _ _ h => h) (Or.inl ⟨by rfl, ?_⟩) hHeld ?_ ?_; rotate_left; (· rintro w' ⟨s0, s1, s2, s3, s4, s5, s6⟩; go_simp; with_reducible rfl); rotate_left; (· simp only [Act.put, List.setIfInBounds_toArray, List.set_cons_zero, List.set_cons_succ, i64_w, i32_w]; rfl)
          refine take_ (i := 4) (N := some 9) (v := ?_) (a' := ?_) (bl_ 8 27) rfl rfl (take_ofW HT_.out HW_.out (by kernel_rfl)) (fun _ _ _ h => h) (Or.inl ⟨by rfl, ?_⟩) hHeld ?_ ?_; rotate_left; (· rintro w' ⟨s0, s1, s2, s3, s4, s5, s6⟩; go_simp; with_reducible rfl); rotate_left; (· simp only [Act.put, List.setIfInBounds_toArray, List.set_cons_zero, List.set_cons_succ, i64_w, i32_w]; rfl)
          refine one_ (i := 2) (N := some 7) (bl_ 8 31) rfl rfl (one_of HT_.out (by kernel_rfl)) (by decide) (fun K hK => ?_)
          refine goes_ Tryd.func25 (by kernel_rfl) rfl #[.int .i64 a0_1] (by rfl) rfl rfl (by (try simp only [List.map_toArray, List.map_cons, List.map_nil]); first | done | rfl | (simp only [List.length_drop, List.length_take]; rfl)) ?_
          with_reducible refine (strconv_Itoa.calls a0_1 t204 _ A2.out).mono ?_
          rintro e w55 ⟨rfl, hb⟩
          refine ⟨_, rfl, ?_⟩
          have n0_ := Aside0.mk (blk_below (g := gb203) (o := .cells #[.int .i64 a0_0, .int .i64 a0_1, .int .i64 a0_2, .int .i64 a0_3, .int .i64 a0_4, .int .i64 a0_5, .slice A0_6 l0_6.length c0_6] 35 (0, 0)) (by (with_reducible repeat (first | refine blk_drewN ?_ _ | refine blk_drew ?_ | refine blk_alloc ?_ _)); exact BK203.out) hb)
          have n1_ := Aside0.mk (below_step (by repeat (first | (with_reducible first | exact HB.out | apply below_alloc | apply pw_below_drewN | apply below_drew1 | refine below_set ?_ GE203.out) | exact HB.out)) hb)
          clear BK203
          clear HB
          have BK203 := n0_
          have HB := n1_
          clear n0_ n1_
          (try clear hb)
          (try clear hb2)
          (try clear hk)
          (try clear hi)
          refine hK.out _ _ ⟨(blk_cell BK203.out 0).trans rfl, (blk_cell BK203.out 1).trans rfl, (blk_cell BK203.out 2).trans rfl, (blk_cell BK203.out 3).trans rfl, (blk_cell BK203.out 4).trans rfl, (blk_cell BK203.out 5).trans rfl, (blk_cell BK203.out 6).trans rfl⟩ (fun hHeld => ?_)
          clear hK K
          refine norm_ (a' := ?_) ?_ ?_; rotate_left; (· show Act.put _ (some 7) _ = _; simp only [Act.put, List.setIfInBounds_toArray, List.set_cons_zero, List.set_cons_succ, i64_w, i32_w]; rfl)
          refine one_ (i := 5) (N := some 10) (bl_ 8 63) rfl rfl (one_of HT_.out (by kernel_rfl)) (by decide) (fun K hK => ?_)
          refine goes_ Tryd.func25 (by kernel_rfl) rfl #[.int .i64 a0_2] (by rfl) rfl rfl (by (try simp only [List.map_toArray, List.map_cons, List.map_nil]); first | done | rfl | (simp only [List.length_drop, List.length_take]; rfl)) ?_
          with_reducible refine (strconv_Itoa.calls a0_2 t205 _ A3.out).mono ?_
          rintro e w56 ⟨rfl, hb⟩
          refine ⟨_, rfl, ?_⟩
          have n0_ := Aside0.mk (blk_below (g := gb203) (o := .cells #[.int .i64 a0_0, .int .i64 a0_1, .int .i64 a0_2, .int .i64 a0_3, .int .i64 a0_4, .int .i64 a0_5, .slice A0_6 l0_6.length c0_6] 35 (0, 0)) (by (with_reducible repeat (first | refine blk_drewN ?_ _ | refine blk_drew ?_ | refine blk_alloc ?_ _)); exact BK203.out) hb)
          have n1_ := Aside0.mk (below_step (by repeat (first | (with_reducible first | exact HB.out | apply below_alloc | apply pw_below_drewN | apply below_drew1 | refine below_set ?_ GE203.out) | exact HB.out)) hb)
          clear BK203
          clear HB
          have BK203 := n0_
          have HB := n1_
          clear n0_ n1_
          (try clear hb)
          (try clear hb2)
          (try clear hk)
          (try clear hi)
          refine hK.out _ _ ⟨(blk_cell BK203.out 0).trans rfl, (blk_cell BK203.out 1).trans rfl, (blk_cell BK203.out 2).trans rfl, (blk_cell BK203.out 3).trans rfl, (blk_cell BK203.out 4).trans rfl, (blk_cell BK203.out 5).trans rfl, (blk_cell BK203.out 6).trans rfl⟩ (fun hHeld => ?_)
          clear hK K
          refine norm_ (a' := ?_) ?_ ?_; rotate_left; (· show Act.put _ (some 10) _ = _; simp only [Act.put, List.setIfInBounds_toArray, List.set_cons_zero, List.set_cons_succ, i64_w, i32_w]; rfl)
          refine pure_ (i := 6) (N := some 3) (v := ?_) (a' := ?_) (bl_ 8 127) rfl rfl (any_of HT_.out (by kernel_rfl)) (fun _ _ _ h => h) (Or.inl ⟨by rfl, ?_⟩) ?_ ?_; rotate_left; (· intro w'; go_simp; with_reducible rfl); rotate_left; (· simp only [Act.put, List.setIfInBounds_toArray, List.set_cons_zero, List.set_cons_succ, i64_w, i32_w]; rfl)
          refine pure_ (i := 7) (N := some 4) (v := ?_) (a' := ?_) (bl_ 8 255) rfl rfl (any_of HT_.out (by kernel_rfl)) (fun _ _ _ h => h) (Or.inl ⟨by rfl, ?_⟩) ?_ ?_; rotate_left; (· intro w'; go_simp; with_reducible rfl); rotate_left; (· simp only [Act.put, List.setIfInBounds_toArray, List.set_cons_zero, List.set_cons_succ, i64_w, i32_w]; rfl)
          refine done_ (done_of HT_.out (by kernel_rfl)) ?_
          obtain ⟨hcz57_0, hcz57_1, hcz57_2, hcz57_3, hcz57_4, hcz57_5, hcz57_6, hfz57_0, hfz57_1, hfz57_2, hfz57_3, hfz57_4, hfz57_5, hfz57_6⟩ := box7_ BK203.out
          try go_wp2
          go_ret
          exact ⟨by first | rfl | (simp [errW_none, errW_some] <;> rfl) | (simp [*, errW_none, errW_some] <;> rfl), by repeat (first | (with_reducible first | exact HB.out | apply below_alloc | apply pw_below_drewN | apply below_drew1 | refine below_set ?_ GE203.out) | exact HB.out)⟩
         ·
          rw [if_neg c52] at H
          exact absurd H (by simp)
        ·
         rw [if_neg c51] at H
         exact absurd H (by simp)
       ·
        rw [if_neg c50] at H
        exact absurd H (by simp)
      ·
       rw [if_neg c49] at H
       have c49b0 : (a0_0 == 5) = false := beq_eq_false_iff_ne.mpr c49
       have c49b1 : (a0_0 != 5) = true := bne_iff_ne.mpr c49
       obtain rfl := Option.some.inj H
       go_enter Tryd.func9, Tryd.ntmps9
       try go_wp2_with (first | ((with_reducible refine gate_dst (N := 1) rfl ?_); refine box_event ?hg (N := 1) ?hd (cs := #[.int .i64 a0_0, .int .i64 a0_1, .int .i64 a0_2, .int .i64 a0_3, .int .i64 a0_4, .int .i64 a0_5, .slice A0_6 l0_6.length c0_6]) (t := 35) ?hr ?_; (case hd => rfl); (case hg => rfl); (case hr => first | (go_simp; done) | (go_simp; rfl)); intro gb203 hg w58 hbox hb; have n0_ := Aside0.mk (below_step (by repeat (first | (with_reducible first | exact HB.out | apply below_alloc | apply pw_below_drewN | apply below_drew1) | exact HB.out)) hb); have n1_ := Aside0.mk (hbox); have n2_ := Aside0.mk ((by rw [hg]; exact (below_size (by repeat (first | (with_reducible first | exact HB.out | apply below_alloc | apply pw_below_drewN | apply below_drew1) | exact HB.out))) : w.heap.size ≤ gb203)); have n3_ := Aside0.mk ((by rw [hg]; exact (below_size (by repeat (first | (with_reducible first | exact HB.out | apply below_alloc | apply pw_below_drewN | apply below_drew1) | exact HB.out))) : w.heap.size ≤ gb203)); clear HB; have HB := n0_; have BK203 := n1_; have GW203 := n2_; have GE203 := n3_; clear n0_ n1_ n2_ n3_; clear hb hbox hg))
       have n0_ := Aside0.mk (blk_drew BK203.out)
       have n1_ := Aside0.mk (below_drew1 HB.out)
       clear BK203
       clear HB
       have BK203 := n0_
       have HB := n1_
       clear n0_ n1_
       refine start_ (n := 8) (S := fun w' => w'.cell? ⟨gb203, 0, none⟩ = some (.int .i64 a0_0) ∧ w'.cell? ⟨gb203, 1, none⟩ = some (.int .i64 a0_1) ∧ w'.cell? ⟨gb203, 2, none⟩ = some (.int .i64 a0_2) ∧ w'.cell? ⟨gb203, 3, none⟩ = some (.int .i64 a0_3) ∧ w'.cell? ⟨gb203, 4, none⟩ = some (.int .i64 a0_4) ∧ w'.cell? ⟨gb203, 5, none⟩ = some (.int .i64 a0_5) ∧ w'.cell? ⟨gb203, 6, none⟩ = some (.slice A0_6 l0_6.length c0_6)) (ds := []) #[false, false, false, false, false, false, false, false] (by kernel_rfl) rfl rfl ⟨(blk_cell BK203.out 0).trans rfl, (blk_cell BK203.out 1).trans rfl, (blk_cell BK203.out 2).trans rfl, (blk_cell BK203.out 3).trans rfl, (blk_cell BK203.out 4).trans rfl, (blk_cell BK203.out 5).trans rfl, (blk_cell BK203.out 6).trans rfl⟩ (fun hHeld => ?_); refine with_tabW impl_EventText.tab1 impl_EventText.bits1 (fun HT_ HW_ => ?_)
       generalize w58.drew = w59 at BK203 HB hHeld ⊢
       refine pure_ (i := 0) (N := some 5) (v := ?_) (a' := ?_) (bl_ 8 1) rfl rfl (any_of HT_.out (by kernel_rfl)) (fun _ _ _ h => h) (Or.inl ⟨by rfl, ?_⟩) ?_ ?_; rotate_left; (· intro w'; go_simp; with_reducible rfl); rotate_left; (· simp only [Act.put, List.setIfInBounds_toArray, List.set_cons_zero, List.set_cons_succ, i64_w, i32_w]; rfl)
       refine pure_ (i := 3) (N := some 8) (v := ?_) (a' := ?_) (bl_ 8 9) rfl rfl (any_of HT_.out (by kernel_rfl)) (fun _ _ _ h => h) (Or.inl ⟨by rfl, ?_⟩) ?_ ?_; rotate_left; (· intro w'; go_simp; with_reducible rfl); rotate_left; (· simp only [Act.put, List.setIfInBounds_toArray, List.set_cons_zero, List.set_cons_succ, i64_w, i32_w]; rfl)
       refine take_ (i := 1) (N := some 6) (v := ?_) (a' := ?_) (bl_ 8 11) rfl rfl (take_ofW HT_.out HW_.out (by kernel_rfl)) (fun _ _ _ h => h) (Or.inl ⟨by rfl, ?_⟩) hHeld ?_ ?_; rotate_left; (· rintro w' ⟨s0, s1, s2, s3, s4, s5, s6⟩; go_simp; with_reducible rfl); rotate_left; (· simp only [Act.put, List.setIfInBounds_toArray, List.set_cons_zero, List.set_cons_succ, i64_w, i32_w]; rfl)
       refine take_ (i := 4) (N := some 9) (v := ?_) (a' := ?_) (bl_ 8 27) rfl rfl (take_ofW HT_.out HW_.out (by kernel_rfl)) (fun _ _ _ h => h) (Or.inl ⟨by rfl, ?_⟩) hHeld ?_ ?_; rotate_left; (· rintro w' ⟨s0, s1, s2, s3, s4, s5, s6⟩; go_simp; with_reducible rfl); rotate_left; (· simp only [Act.put, List.setIfInBounds_toArray, List.set_cons_zero, List.set_cons_succ, i64_w, i32_w]; rfl)
       refine one_ (i := 2) (N := some 7) (bl_ 8 31) rfl rfl (one_of HT_.out (by kernel_rfl)) (by decide) (fun K hK => ?_)
       refine goes_ Tryd.func25 (by kernel_rfl) rfl #[.int .i64 a0_1] (by rfl) rfl rfl (by (try simp only [List.map_toArray, List.map_cons, List.map_nil]); first | done | rfl | (simp only [List.length_drop, List.length_take]; rfl)) ?_
       with_reducible refine (strconv_Itoa.calls a0_1 t204 _ A2.out).mono ?_
       rintro e w60 ⟨rfl, hb⟩
       refine ⟨_, rfl, ?_⟩
       have n0_ := Aside0.mk (blk_below (g := gb203) (o := .cells #[.int .i64 a0_0, .int .i64 a0_1, .int .i64 a0_2, .int .i64 a0_3, .int .i64 a0_4, .int .i64 a0_5, .slice A0_6 l0_6.length c0_6] 35 (0, 0)) (by (with_reducible repeat (first | refine blk_drewN ?_ _ | refine blk_drew ?_ | refine blk_alloc ?_ _)); exact BK203.out) hb)
       have n1_ := Aside0.mk (below_step (by repeat (first | (with_reducible first | exact HB.out | apply below_alloc | apply pw_below_drewN | apply below_drew1 | refine below_set ?_ GE203.out) | exact HB.out)) hb)
       clear BK203
       clear HB
       have BK203 := n0_
       have HB := n1_
       clear n0_ n1_
       (try clear hb)
       (try clear hb2)
       (try clear hk)
       (try clear hi)
       refine hK.out _ _ ⟨(blk_cell BK203.out 0).trans rfl, (blk_cell BK203.out 1).trans rfl, (blk_cell BK203.out 2).trans rfl, (blk_cell BK203.out 3).trans rfl, (blk_cell BK203.out 4).trans rfl, (blk_cell BK203.out 5).trans rfl, (blk_cell BK203.out 6).trans rfl⟩ (fun hHeld => ?_)
       clear hK K
       refine norm_ (a' := ?_) ?_ ?_; rotate_left; (· show Act.put _ (some 7) _ = _; simp only [Act.put, List.setIfInBounds_toArray, List.set_cons_zero, List.set_cons_succ, i64_w, i32_w]; rfl)
       refine one_ (i := 5) (N := some 10) (bl_ 8 63) rfl rfl (one_of HT_.out (by kernel_rfl)) (by decide) (fun K hK => ?_)
       refine goes_ Tryd.func25 (by kernel_rfl) rfl #[.int .i64 a0_2] (by rfl) rfl rfl (by (try simp only [List.map_toArray, List.map_cons, List.map_nil]); first | done | rfl | (simp only [List.length_drop, List.length_take]; rfl)) ?_
       with_reducible refine (strconv_Itoa.calls a0_2 t205 _ A3.out).mono ?_
       rintro e w61 ⟨rfl, hb⟩
       refine ⟨_, rfl, ?_⟩
       have n0_ := Aside0.mk (blk_below (g := gb203) (o := .cells #[.int .i64 a0_0, .int .i64 a0_1, .int .i64 a0_2, .int .i64 a0_3, .int .i64 a0_4, .int .i64 a0_5, .slice A0_6 l0_6.length c0_6] 35 (0, 0)) (by (with_reducible repeat (first | refine blk_drewN ?_ _ | refine blk_drew ?_ | refine blk_alloc ?_ _)); exact BK203.out) hb)
       have n1_ := Aside0.mk (below_step (by repeat (first | (with_reducible first | exact HB.out | apply below_alloc | apply pw_below_drewN | apply below_drew1 | refine below_set ?_ GE203.out) | exact HB.out)) hb)
       clear BK203
       clear HB
       have BK203 := n0_
       have HB := n1_
       clear n0_ n1_
       (try clear hb)
       (try clear hb2)
       (try clear hk)
       (try clear hi)
       refine hK.out _ _ ⟨(blk_cell BK203.out 0).trans rfl, (blk_cell BK203.out 1).trans rfl, (blk_cell BK203.out 2).trans rfl, (blk_cell BK203.out 3).trans rfl, (blk_cell BK203.out 4).trans rfl, (blk_cell BK203.out 5).trans rfl, (blk_cell BK203.out 6).trans rfl⟩ (fun hHeld => ?_)
       clear hK K
       refine norm_ (a' := ?_) ?_ ?_; rotate_left; (· show Act.put _ (some 10) _ = _; simp only [Act.put, List.setIfInBounds_toArray, List.set_cons_zero, List.set_cons_succ, i64_w, i32_w]; rfl)
       refine pure_ (i := 6) (N := some 3) (v := ?_) (a' := ?_) (bl_ 8 127) rfl rfl (any_of HT_.out (by kernel_rfl)) (fun _ _ _ h => h) (Or.inl ⟨by rfl, ?_⟩) ?_ ?_; rotate_left; (· intro w'; go_simp; with_reducible rfl); rotate_left; (· simp only [Act.put, List.setIfInBounds_toArray, List.set_cons_zero, List.set_cons_succ, i64_w, i32_w]; rfl)
       refine pure_ (i := 7) (N := some 4) (v := ?_) (a' := ?_) (bl_ 8 255) rfl rfl (any_of HT_.out (by kernel_rfl)) (fun _ _ _ h => h) (Or.inl ⟨by rfl, ?_⟩) ?_ ?_; rotate_left; (· intro w'; go_simp; with_reducible rfl); rotate_left; (· simp only [Act.put, List.setIfInBounds_toArray, List.set_cons_zero, List.set_cons_succ, i64_w, i32_w]; rfl)
       refine done_ (done_of HT_.out (by kernel_rfl)) ?_
       obtain ⟨hcz62_0, hcz62_1, hcz62_2, hcz62_3, hcz62_4, hcz62_5, hcz62_6, hfz62_0, hfz62_1, hfz62_2, hfz62_3, hfz62_4, hfz62_5, hfz62_6⟩ := box7_ BK203.out
       try go_wp2
       go_ret
       exact ⟨by first | rfl | (simp [errW_none, errW_some] <;> rfl) | (simp [*, errW_none, errW_some] <;> rfl), by repeat (first | (with_reducible first | exact HB.out | apply below_alloc | apply pw_below_drewN | apply below_drew1 | refine below_set ?_ GE203.out) | exact HB.out)⟩

end Go.Proofs.YtemnodpabflkoaaDoor.QFnExactSameEvents
