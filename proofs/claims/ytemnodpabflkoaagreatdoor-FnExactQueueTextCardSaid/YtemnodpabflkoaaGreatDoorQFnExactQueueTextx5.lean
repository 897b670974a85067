/- The Go functions that the statement FnExactQueueText reaches, as Lean functions, each with a proof that the call does what its function says; laid by a program of this session. No condition. -/
import Derived.Test.YtemnodpabflkoaaGreatDoorQFnExactQueueTextx0
import Derived.Test.YtemnodpabflkoaaGreatDoorQFnExactQueueTextx4
namespace Go.Proofs.YtemnodpabflkoaaGreatDoor.QFnExactQueueText
open Go.RowKit Go.Proofs.YtemnodpabflkoaaGreatDoorW.PrintWords Go.Proofs.YtemnodpabflkoaaGreatDoorW.PrintLast Go.Proofs.YtemnodpabflkoaaGreatDoorW.PrintMore
attribute [local go_sem] max2_int min2_int max_two min_two max_three min_three max_four min_four   -- for this text's walks alone
set_option linter.unusedVariables false
set_option linter.unusedSimpArgs false

def slices_IndexFunc_int_int_at_98.l0 : Nat → List Int → Int → Int → Option (Int)
 | 0, _, _, _ => none
 | k + 1, x0, x7, x8 => if x8 < x7 then (if 0 ≤ x8 then (if x8 < (x0.length : Int) then ((impl_areItems_1.f (rd x0 x8)).bind fun t416 => (if t416 = true then (some x8) else (slices_IndexFunc_int_int_at_98.l0 k x0 x7 (wrap64 (x8 + 1))))) else (none)) else (none)) else (some (-1))
def slices_IndexFunc_int_int_at_98.f (k : Nat) (l0 : List Int)  : Option (Int) := slices_IndexFunc_int_int_at_98.l0 k l0 (l0.length : Int) 0
set_option maxHeartbeats 8000000 in
set_option maxRecDepth 100000 in
theorem slices_IndexFunc_int_int_at_98.calls {k : Nat} {A0 : Option Addr} {c0 : Nat} {l0 : List Int}  {r : Int} {w : World} (hr0 : Kd.C (Kd.int .i64) w A0 l0.length l0) (hc0 : l0.length ≤ c0) (h : slices_IndexFunc_int_int_at_98.f k l0 = some r) :
  Calls Tryz.prog 106 #[.slice A0 l0.length c0, .func (.func 98) #[] #[]] w fun e w' => e = .returned (.int .i64 r) ∧ Drawn0 w w' := by
 have HR0 := Aside0.mk hr0; have HC0 := Aside0.mk hc0; clear hr0 hc0; have H : (slices_IndexFunc_int_int_at_98.l0 k l0 (l0.length : Int) 0) = some r := h; clear h; have H' := Aside0.mk H; clear H
 go_enter Tryz.func106, Tryz.ntmps106
 go_wp2
 go_loopg [8] k (fun kq v8 w' => ∃ (x8_1 : Int), v8 = .int .i64 x8_1 ∧ Aside0 (slices_IndexFunc_int_int_at_98.l0 kq l0 (l0.length : Int) x8_1 = some r) ∧ Aside0 (kq ≤ k) ∧ Drawn0 w w')
 case atStart => exact ⟨(0), (by first | rfl | (simp; done) | (simp [*]; done)), H', ⟨Nat.le_refl _⟩, by repeat (first | exact Drawn0.refl _ | apply Drawn0.step)⟩
 case round =>
  clear H'; (try clear p2); obtain ⟨x8_1, rfl, HA, HK1, ⟨m1, rfl⟩⟩ := hrel
  cases gk with
  | zero => exact absurd HA.out (by simp [slices_IndexFunc_int_int_at_98.l0])
  | succ k1 =>
   have H := HA.out; clear HA; simp only [slices_IndexFunc_int_int_at_98.l0] at H
   by_cases c3 : x8_1 < (l0.length : Int)
   ·
    rw [if_pos c3] at H; have c3b0 : decide (x8_1 < (l0.length : Int)) = true := decide_eq_true c3; clear c3
    by_cases c4 : 0 ≤ x8_1
    ·
     rw [if_pos c4] at H; have c4b0 : decide (0 ≤ x8_1) = true := decide_eq_true c4; clear c4
     by_cases c5 : x8_1 < (l0.length : Int)
     ·
      rw [if_pos c5] at H; have c5b0 : decide (x8_1 < (l0.length : Int)) = true := decide_eq_true c5; clear c5; obtain ⟨t416, A6, H⟩ := bo_ H; (try dsimp only at H)
      by_cases c7 : t416 = true
      ·
       subst c7; rw [if_pos rfl] at H; obtain rfl := Option.some.inj H; have p415 : 0 ≤ (x8_1 : Int) := od_; have q415 : x8_1 < (l0.length : Int) := od_; obtain ⟨ad415, e415, hx415_0⟩ := Kd.at_int HR0.out x8_1 p415 q415
       cases e415
       replace p415 := eq_true p415; replace q415 := eq_true q415
       go_wp2_with (first | (refine goesV_ 11 (some 16) rfl rfl Tryz.func98 (by kernel_rfl) rfl #[.int .i64 (rd l0 x8_1)] rfl rfl ar_ ?_; (with_reducible refine (impl_areItems_1.calls A6.out).mono ?_); rintro e w' ⟨rfl, ⟨nd, rfl⟩⟩; refine ⟨_, rfl, ?_⟩))
       go_ret
       exact ⟨by first | rfl | (simp; done) | (simp [*]; done), by repeat (first | exact Drawn0.refl _ | apply Drawn0.step)⟩
      ·
       replace c7 := Bool.eq_false_iff.mpr c7; subst c7; have H1 : (slices_IndexFunc_int_int_at_98.l0 k1 l0 (l0.length : Int) (wrap64 (x8_1 + 1))) = some r := by rw [if_neg (show ¬ (false = true) by decide)] at H; exact H
       clear H; have H := H1; clear H1; have H' := Aside0.mk H; clear H; have p415 : 0 ≤ (x8_1 : Int) := od_; have q415 : x8_1 < (l0.length : Int) := od_; obtain ⟨ad415, e415, hx415_0⟩ := Kd.at_int HR0.out x8_1 p415 q415
       cases e415
       replace p415 := eq_true p415; replace q415 := eq_true q415
       go_wp2_with (first | (refine goesV_ 11 (some 16) rfl rfl Tryz.func98 (by kernel_rfl) rfl #[.int .i64 (rd l0 x8_1)] rfl rfl ar_ ?_; (with_reducible refine (impl_areItems_1.calls A6.out).mono ?_); rintro e w' ⟨rfl, ⟨nd, rfl⟩⟩; refine ⟨_, rfl, ?_⟩))
       go_roundg k1
       case measure => have := HK1.out; omega
       case rel => exact ⟨(wrap64 (x8_1 + 1)), (by first | rfl | (simp; done) | (simp [*]; done)), H', ⟨by have := HK1.out; omega⟩, by repeat (first | exact Drawn0.refl _ | apply Drawn0.step)⟩
     ·
      rw [if_neg c5] at H; exact absurd H (by simp)
    ·
     rw [if_neg c4] at H; exact absurd H (by simp)
   ·
    rw [if_neg c3] at H; have c3b0 : decide (x8_1 < (l0.length : Int)) = false := decide_eq_false c3; clear c3; obtain rfl := Option.some.inj H
    go_wp2
    go_ret
    exact ⟨by first | rfl | (simp; done) | (simp [*]; done), by repeat (first | exact Drawn0.refl _ | apply Drawn0.step)⟩

def slices_ContainsFunc_int_int_at_98.f (k : Nat) (l0 : List Int)  : Option (Bool) := (slices_IndexFunc_int_int_at_98.f k l0).bind fun t417 => (some (decide (t417 ≥ 0)))
set_option maxHeartbeats 8000000 in
set_option maxRecDepth 100000 in
theorem slices_ContainsFunc_int_int_at_98.calls {k : Nat} {A0 : Option Addr} {c0 : Nat} {l0 : List Int}  {r : Bool} {w : World} (hr0 : Kd.C (Kd.int .i64) w A0 l0.length l0) (hc0 : l0.length ≤ c0) (h : slices_ContainsFunc_int_int_at_98.f k l0 = some r) :
  Calls Tryz.prog 97 #[.slice A0 l0.length c0, .func (.func 98) #[] #[]] w fun e w' => e = .returned (.bool r) ∧ Drawn0 w w' := by
 have HR0 := Aside0.mk hr0; have HC0 := Aside0.mk hc0; clear hr0 hc0; have H : ((slices_IndexFunc_int_int_at_98.f k l0).bind fun t417 => (some (decide (t417 ≥ 0)))) = some r := h; clear h; obtain ⟨t417, A3, H⟩ := bo_ H; (try dsimp only at H); obtain rfl := Option.some.inj H
 go_enter Tryz.func97, Tryz.ntmps97
 go_wp2_with (first | ((with_reducible refine gc_ 106 ?_); refine gl_ (some 7) Tryz.func106 #[.slice A0 l0.length c0, .func (.func 98) #[] #[]] ?_; (with_reducible refine (slices_IndexFunc_int_int_at_98.calls ?side1 ?side2 A3.out).mono ?_); (case side1 => repeat (first | exact HR0.out | (with_reducible refine Kd.C_alloc ?_ _) | (with_reducible refine Kd.C_drewN ?_ _) | (with_reducible refine Kd.C_drew ?_))); (case side2 => exact HC0.out); rintro e w' ⟨rfl, ⟨nd, rfl⟩⟩; refine ⟨_, rfl, ?_⟩))
 go_ret
 exact ⟨by first | rfl | (simp; done) | (simp [*]; done), by repeat (first | exact Drawn0.refl _ | apply Drawn0.step)⟩

def impl_areItems.f (k : Nat) (l0 : List Int) : Option (Bool) := (slices_ContainsFunc_int_int_at_98.f k l0).bind fun t418 => (some (!t418))
set_option maxHeartbeats 8000000 in
set_option maxRecDepth 100000 in
theorem impl_areItems.calls {k : Nat} {A0 : Option Addr} {c0 : Nat} {l0 : List Int} {r : Bool} {w : World} (hr0 : Kd.C (Kd.int .i64) w A0 l0.length l0) (hc0 : l0.length ≤ c0) (h : impl_areItems.f k l0 = some r) :
  Calls Tryz.prog 83 #[.slice A0 l0.length c0] w fun e w' => e = .returned (.bool r) ∧ Drawn0 w w' := by
 have HR0 := Aside0.mk hr0; have HC0 := Aside0.mk hc0; clear hr0 hc0; have H : ((slices_ContainsFunc_int_int_at_98.f k l0).bind fun t418 => (some (!t418))) = some r := h; clear h; obtain ⟨t418, A2, H⟩ := bo_ H; (try dsimp only at H); obtain rfl := Option.some.inj H
 go_enter Tryz.func83, Tryz.ntmps83
 go_wp2_with (first | ((with_reducible refine gc_ 97 ?_); refine gl_ (some 4) Tryz.func97 #[.slice A0 l0.length c0, .func (.func 98) #[] #[]] ?_; (with_reducible refine (slices_ContainsFunc_int_int_at_98.calls ?side1 ?side2 A2.out).mono ?_); (case side1 => repeat (first | exact HR0.out | (with_reducible refine Kd.C_alloc ?_ _) | (with_reducible refine Kd.C_drewN ?_ _) | (with_reducible refine Kd.C_drew ?_))); (case side2 => exact HC0.out); rintro e w' ⟨rfl, ⟨nd, rfl⟩⟩; refine ⟨_, rfl, ?_⟩))
 go_ret
 exact ⟨by first | rfl | (simp; done) | (simp [*]; done), by repeat (first | exact Drawn0.refl _ | apply Drawn0.step)⟩

def impl_Layer_isScaled_1.f (a0 : Int) : Option (Bool) := (impl_in.f a0 (-1000000) 1000000).bind fun t419 => (some (!t419))
set_option maxHeartbeats 8000000 in
set_option maxRecDepth 100000 in
theorem impl_Layer_isScaled_1.calls {a0 : Int} {r : Bool} {w : World} (h : impl_Layer_isScaled_1.f a0 = some r) :
  Calls Tryz.prog 107 #[.int .i64 a0] w fun e w' => e = .returned (.bool r) ∧ Drawn0 w w' := by
 have H : ((impl_in.f a0 (-1000000) 1000000).bind fun t419 => (some (!t419))) = some r := h; clear h; obtain ⟨t419, A2, H⟩ := bo_ H; (try dsimp only at H); obtain rfl := Option.some.inj H
 go_enter Tryz.func107, Tryz.ntmps107
 go_wp2_with (first | ((with_reducible refine gc_ 54 ?_); refine gl_ (some 4) Tryz.func54 #[.int .i64 a0, .int .i64 (-1000000), .int .i64 1000000] ?_; (with_reducible refine (impl_in.calls A2.out).mono ?_); rintro e w' ⟨rfl, ⟨nd, rfl⟩⟩; refine ⟨_, rfl, ?_⟩))
 go_ret
 exact ⟨by first | rfl | (simp; done) | (simp [*]; done), by repeat (first | exact Drawn0.refl _ | apply Drawn0.step)⟩

def slices_IndexFunc_int_int_at_107.l0 : Nat → List Int → Int → Int → Option (Int)
 | 0, _, _, _ => none
 | k + 1, x0, x7, x8 => if x8 < x7 then (if 0 ≤ x8 then (if x8 < (x0.length : Int) then ((impl_Layer_isScaled_1.f (rd x0 x8)).bind fun t421 => (if t421 = true then (some x8) else (slices_IndexFunc_int_int_at_107.l0 k x0 x7 (wrap64 (x8 + 1))))) else (none)) else (none)) else (some (-1))
def slices_IndexFunc_int_int_at_107.f (k : Nat) (l0 : List Int)  : Option (Int) := slices_IndexFunc_int_int_at_107.l0 k l0 (l0.length : Int) 0
set_option maxHeartbeats 8000000 in
set_option maxRecDepth 100000 in
theorem slices_IndexFunc_int_int_at_107.calls {k : Nat} {A0 : Option Addr} {c0 : Nat} {l0 : List Int}  {r : Int} {w : World} (hr0 : Kd.C (Kd.int .i64) w A0 l0.length l0) (hc0 : l0.length ≤ c0) (h : slices_IndexFunc_int_int_at_107.f k l0 = some r) :
  Calls Tryz.prog 106 #[.slice A0 l0.length c0, .func (.func 107) #[] #[]] w fun e w' => e = .returned (.int .i64 r) ∧ Drawn0 w w' := by
 have HR0 := Aside0.mk hr0; have HC0 := Aside0.mk hc0; clear hr0 hc0; have H : (slices_IndexFunc_int_int_at_107.l0 k l0 (l0.length : Int) 0) = some r := h; clear h; have H' := Aside0.mk H; clear H
 go_enter Tryz.func106, Tryz.ntmps106
 go_wp2
 go_loopg [8] k (fun kq v8 w' => ∃ (x8_1 : Int), v8 = .int .i64 x8_1 ∧ Aside0 (slices_IndexFunc_int_int_at_107.l0 kq l0 (l0.length : Int) x8_1 = some r) ∧ Aside0 (kq ≤ k) ∧ Drawn0 w w')
 case atStart => exact ⟨(0), (by first | rfl | (simp; done) | (simp [*]; done)), H', ⟨Nat.le_refl _⟩, by repeat (first | exact Drawn0.refl _ | apply Drawn0.step)⟩
 case round =>
  clear H'; (try clear p2); obtain ⟨x8_1, rfl, HA, HK1, ⟨m1, rfl⟩⟩ := hrel
  cases gk with
  | zero => exact absurd HA.out (by simp [slices_IndexFunc_int_int_at_107.l0])
  | succ k1 =>
   have H := HA.out; clear HA; simp only [slices_IndexFunc_int_int_at_107.l0] at H
   by_cases c3 : x8_1 < (l0.length : Int)
   ·
    rw [if_pos c3] at H; have c3b0 : decide (x8_1 < (l0.length : Int)) = true := decide_eq_true c3; clear c3
    by_cases c4 : 0 ≤ x8_1
    ·
     rw [if_pos c4] at H; have c4b0 : decide (0 ≤ x8_1) = true := decide_eq_true c4; clear c4
     by_cases c5 : x8_1 < (l0.length : Int)
     ·
      rw [if_pos c5] at H; have c5b0 : decide (x8_1 < (l0.length : Int)) = true := decide_eq_true c5; clear c5; obtain ⟨t421, A6, H⟩ := bo_ H; (try dsimp only at H)
      by_cases c7 : t421 = true
      ·
       subst c7; rw [if_pos rfl] at H; obtain rfl := Option.some.inj H; have p420 : 0 ≤ (x8_1 : Int) := od_; have q420 : x8_1 < (l0.length : Int) := od_; obtain ⟨ad420, e420, hx420_0⟩ := Kd.at_int HR0.out x8_1 p420 q420
       cases e420
       replace p420 := eq_true p420; replace q420 := eq_true q420
       go_wp2_with (first | (refine goesV_ 11 (some 16) rfl rfl Tryz.func107 (by kernel_rfl) rfl #[.int .i64 (rd l0 x8_1)] rfl rfl ar_ ?_; (with_reducible refine (impl_Layer_isScaled_1.calls A6.out).mono ?_); rintro e w' ⟨rfl, ⟨nd, rfl⟩⟩; refine ⟨_, rfl, ?_⟩))
       go_ret
       exact ⟨by first | rfl | (simp; done) | (simp [*]; done), by repeat (first | exact Drawn0.refl _ | apply Drawn0.step)⟩
      ·
       replace c7 := Bool.eq_false_iff.mpr c7; subst c7; have H1 : (slices_IndexFunc_int_int_at_107.l0 k1 l0 (l0.length : Int) (wrap64 (x8_1 + 1))) = some r := by rw [if_neg (show ¬ (false = true) by decide)] at H; exact H
       clear H; have H := H1; clear H1; have H' := Aside0.mk H; clear H; have p420 : 0 ≤ (x8_1 : Int) := od_; have q420 : x8_1 < (l0.length : Int) := od_; obtain ⟨ad420, e420, hx420_0⟩ := Kd.at_int HR0.out x8_1 p420 q420
       cases e420
       replace p420 := eq_true p420; replace q420 := eq_true q420
       go_wp2_with (first | (refine goesV_ 11 (some 16) rfl rfl Tryz.func107 (by kernel_rfl) rfl #[.int .i64 (rd l0 x8_1)] rfl rfl ar_ ?_; (with_reducible refine (impl_Layer_isScaled_1.calls A6.out).mono ?_); rintro e w' ⟨rfl, ⟨nd, rfl⟩⟩; refine ⟨_, rfl, ?_⟩))
       go_roundg k1
       case measure => have := HK1.out; omega
       case rel => exact ⟨(wrap64 (x8_1 + 1)), (by first | rfl | (simp; done) | (simp [*]; done)), H', ⟨by have := HK1.out; omega⟩, by repeat (first | exact Drawn0.refl _ | apply Drawn0.step)⟩
     ·
      rw [if_neg c5] at H; exact absurd H (by simp)
    ·
     rw [if_neg c4] at H; exact absurd H (by simp)
   ·
    rw [if_neg c3] at H; have c3b0 : decide (x8_1 < (l0.length : Int)) = false := decide_eq_false c3; clear c3; obtain rfl := Option.some.inj H
    go_wp2
    go_ret
    exact ⟨by first | rfl | (simp; done) | (simp [*]; done), by repeat (first | exact Drawn0.refl _ | apply Drawn0.step)⟩

def slices_ContainsFunc_int_int_at_107.f (k : Nat) (l0 : List Int)  : Option (Bool) := (slices_IndexFunc_int_int_at_107.f k l0).bind fun t422 => (some (decide (t422 ≥ 0)))
set_option maxHeartbeats 8000000 in
set_option maxRecDepth 100000 in
theorem slices_ContainsFunc_int_int_at_107.calls {k : Nat} {A0 : Option Addr} {c0 : Nat} {l0 : List Int}  {r : Bool} {w : World} (hr0 : Kd.C (Kd.int .i64) w A0 l0.length l0) (hc0 : l0.length ≤ c0) (h : slices_ContainsFunc_int_int_at_107.f k l0 = some r) :
  Calls Tryz.prog 97 #[.slice A0 l0.length c0, .func (.func 107) #[] #[]] w fun e w' => e = .returned (.bool r) ∧ Drawn0 w w' := by
 have HR0 := Aside0.mk hr0; have HC0 := Aside0.mk hc0; clear hr0 hc0; have H : ((slices_IndexFunc_int_int_at_107.f k l0).bind fun t422 => (some (decide (t422 ≥ 0)))) = some r := h; clear h; obtain ⟨t422, A3, H⟩ := bo_ H; (try dsimp only at H); obtain rfl := Option.some.inj H
 go_enter Tryz.func97, Tryz.ntmps97
 go_wp2_with (first | ((with_reducible refine gc_ 106 ?_); refine gl_ (some 7) Tryz.func106 #[.slice A0 l0.length c0, .func (.func 107) #[] #[]] ?_; (with_reducible refine (slices_IndexFunc_int_int_at_107.calls ?side1 ?side2 A3.out).mono ?_); (case side1 => repeat (first | exact HR0.out | (with_reducible refine Kd.C_alloc ?_ _) | (with_reducible refine Kd.C_drewN ?_ _) | (with_reducible refine Kd.C_drew ?_))); (case side2 => exact HC0.out); rintro e w' ⟨rfl, ⟨nd, rfl⟩⟩; refine ⟨_, rfl, ?_⟩))
 go_ret
 exact ⟨by first | rfl | (simp; done) | (simp [*]; done), by repeat (first | exact Drawn0.refl _ | apply Drawn0.step)⟩

def impl_Layer_isScaled.f (k : Nat) (a0_0 : Int) (a0_1 : Int) (a0_2 : Int) (a0_3 : Int) (a0_4 : Int) (a0_5 : Int) (a0_6 : Int) (l0_7 : List Int) (l0_8 : List Int) (a1 : Int) : Option (Bool) := (impl_in.f a0_1 1 8).bind fun t424 => (if t424 = true then ((impl_in.f a0_4 0 2147483647).bind fun t425 => (if t425 = true then ((impl_in.f a0_5 0 31).bind fun t426 => (if t426 = true then ((impl_in.f a0_6 (-128) 127).bind fun t427 => (if t427 = true then (if (l0_7.length : Int) = (wrap64 (a0_1 * a1)) then ((impl_areItems.f k l0_7).bind fun t428 => (if t428 = true then (if (l0_8.length : Int) = a0_1 then ((slices_ContainsFunc_int_int_at_107.f k l0_8).bind fun t429 => (some (!t429))) else (some false)) else (some false))) else (some false)) else (some false))) else (some false))) else (some false))) else (some false))
set_option maxHeartbeats 8000000 in
set_option maxRecDepth 100000 in
theorem impl_Layer_isScaled.calls {k : Nat} {a0_0 : Int} {a0_1 : Int} {a0_2 : Int} {a0_3 : Int} {a0_4 : Int} {a0_5 : Int} {a0_6 : Int} {A0_7 : Option Addr} {c0_7 : Nat} {l0_7 : List Int} {A0_8 : Option Addr} {c0_8 : Nat} {l0_8 : List Int} {a1 : Int} {r : Bool} {w : World} (hr0_7 : Kd.C (Kd.int .i64) w A0_7 l0_7.length l0_7) (hc0_7 : l0_7.length ≤ c0_7) (hr0_8 : Kd.C (Kd.int .i64) w A0_8 l0_8.length l0_8) (hc0_8 : l0_8.length ≤ c0_8) (h : impl_Layer_isScaled.f k a0_0 a0_1 a0_2 a0_3 a0_4 a0_5 a0_6 l0_7 l0_8 a1 = some r) :
  Calls Tryz.prog 102 #[.agg #[.int .i64 a0_0, .int .i64 a0_1, .int .i64 a0_2, .int .i64 a0_3, .int .i64 a0_4, .int .i64 a0_5, .int .i64 a0_6, .slice A0_7 l0_7.length c0_7, .slice A0_8 l0_8.length c0_8], .int .i64 a1] w fun e w' => e = .returned (.bool r) ∧ Below w.heap.size w w' := by
 have hu133 := Tryz.underlying133; have HR0_7 := Aside0.mk hr0_7; have HC0_7 := Aside0.mk hc0_7; clear hr0_7 hc0_7; have HR0_8 := Aside0.mk hr0_8; have HC0_8 := Aside0.mk hc0_8; clear hr0_8 hc0_8; have HB := Aside0.mk (Below.refl w.heap.size w); have H : ((impl_in.f a0_1 1 8).bind fun t424 => (if t424 = true then ((impl_in.f a0_4 0 2147483647).bind fun t425 => (if t425 = true then ((impl_in.f a0_5 0 31).bind fun t426 => (if t426 = true then ((impl_in.f a0_6 (-128) 127).bind fun t427 => (if t427 = true then (if (l0_7.length : Int) = (wrap64 (a0_1 * a1)) then ((impl_areItems.f k l0_7).bind fun t428 => (if t428 = true then (if (l0_8.length : Int) = a0_1 then ((slices_ContainsFunc_int_int_at_107.f k l0_8).bind fun t429 => (some (!t429))) else (some false)) else (some false))) else (some false)) else (some false))) else (some false))) else (some false))) else (some false))) = some r := h; clear h; obtain ⟨t424, A3, H⟩ := bo_ H; (try dsimp only at H)
 by_cases c4 : t424 = true
 ·
  subst c4; rw [if_pos rfl] at H; obtain ⟨t425, A5, H⟩ := bo_ H; (try dsimp only at H)
  by_cases c6 : t425 = true
  ·
   subst c6; rw [if_pos rfl] at H; obtain ⟨t426, A7, H⟩ := bo_ H; (try dsimp only at H)
   by_cases c8 : t426 = true
   ·
    subst c8; rw [if_pos rfl] at H; obtain ⟨t427, A9, H⟩ := bo_ H; (try dsimp only at H)
    by_cases c10 : t427 = true
    ·
     subst c10; rw [if_pos rfl] at H
     by_cases c11 : (l0_7.length : Int) = (wrap64 (a0_1 * a1))
     ·
      rw [if_pos c11] at H; have c11b0 : ((l0_7.length : Int) == (wrap64 (a0_1 * a1))) = true := beq_iff_eq.mpr c11; have c11b1 : ((l0_7.length : Int) != (wrap64 (a0_1 * a1))) = false := bne_eq_false_iff_eq.mpr c11; clear c11; obtain ⟨t428, A12, H⟩ := bo_ H; (try dsimp only at H)
      by_cases c13 : t428 = true
      ·
       subst c13; rw [if_pos rfl] at H
       by_cases c14 : (l0_8.length : Int) = a0_1
       ·
        rw [if_pos c14] at H; have c14b0 : ((l0_8.length : Int) == a0_1) = true := beq_iff_eq.mpr c14; have c14b1 : ((l0_8.length : Int) != a0_1) = false := bne_eq_false_iff_eq.mpr c14; clear c14; obtain ⟨t429, A15, H⟩ := bo_ H; (try dsimp only at H); obtain rfl := Option.some.inj H
        go_enter Tryz.func102, Tryz.ntmps102
        go_wp2_with (first | ((with_reducible refine gate_dst (N := 2) rfl ?_); (try (refine gate_guard (by rfl) ?_; dsimp only)); refine bz_ 2 ?_; intro gb423 hg w16 hbox hb; obtain ⟨BK423, GW423, GE423, HB⟩ := nb_ hg hbox HB hb; clear hb hbox hg; have hcz17 := box9_ BK423.out) | ((with_reducible refine gc_ 54 ?_); refine gl_ (some 7) Tryz.func54 #[.int .i64 a0_1, .int .i64 1, .int .i64 8] ?_; (with_reducible refine (impl_in.calls A3.out).mono ?_); rintro e w' ⟨rfl, ⟨nd, rfl⟩⟩; refine ⟨_, rfl, ?_⟩) | (go_at_call 54; (with_reducible refine (impl_in.calls A5.out).mono ?_); rintro e w' ⟨rfl, ⟨nd, rfl⟩⟩) | (go_at_call 54; (with_reducible refine (impl_in.calls A7.out).mono ?_); rintro e w' ⟨rfl, ⟨nd, rfl⟩⟩) | (go_at_call 54; (with_reducible refine (impl_in.calls A9.out).mono ?_); rintro e w' ⟨rfl, ⟨nd, rfl⟩⟩) | (go_at_call 83; (with_reducible refine (impl_areItems.calls ?_ ?_ A12.out).mono ?_); exact cu_ HR0_7.out HB.out; exact HC0_7.out; rintro e w' ⟨rfl, ⟨nd, rfl⟩⟩) | (go_at_call 97; (with_reducible refine (slices_ContainsFunc_int_int_at_107.calls ?_ ?_ A15.out).mono ?_); exact cu_ HR0_8.out HB.out; exact HC0_8.out; rintro e w' ⟨rfl, ⟨nd, rfl⟩⟩))
        go_ret
        exact rt_ HB.out
       ·
        rw [if_neg c14] at H; have c14b0 : ((l0_8.length : Int) == a0_1) = false := beq_eq_false_iff_ne.mpr c14; have c14b1 : ((l0_8.length : Int) != a0_1) = true := bne_iff_ne.mpr c14; obtain rfl := Option.some.inj H
        go_enter Tryz.func102, Tryz.ntmps102
        go_wp2_with (first | ((with_reducible refine gate_dst (N := 2) rfl ?_); (try (refine gate_guard (by rfl) ?_; dsimp only)); refine bz_ 2 ?_; intro gb423 hg w18 hbox hb; obtain ⟨BK423, GW423, GE423, HB⟩ := nb_ hg hbox HB hb; clear hb hbox hg; have hcz19 := box9_ BK423.out) | ((with_reducible refine gc_ 54 ?_); refine gl_ (some 7) Tryz.func54 #[.int .i64 a0_1, .int .i64 1, .int .i64 8] ?_; (with_reducible refine (impl_in.calls A3.out).mono ?_); rintro e w' ⟨rfl, ⟨nd, rfl⟩⟩; refine ⟨_, rfl, ?_⟩) | (go_at_call 54; (with_reducible refine (impl_in.calls A5.out).mono ?_); rintro e w' ⟨rfl, ⟨nd, rfl⟩⟩) | (go_at_call 54; (with_reducible refine (impl_in.calls A7.out).mono ?_); rintro e w' ⟨rfl, ⟨nd, rfl⟩⟩) | (go_at_call 54; (with_reducible refine (impl_in.calls A9.out).mono ?_); rintro e w' ⟨rfl, ⟨nd, rfl⟩⟩) | (go_at_call 83; (with_reducible refine (impl_areItems.calls ?_ ?_ A12.out).mono ?_); exact cu_ HR0_7.out HB.out; exact HC0_7.out; rintro e w' ⟨rfl, ⟨nd, rfl⟩⟩))
        go_ret
        exact rt_ HB.out
      ·
       replace c13 := Bool.eq_false_iff.mpr c13; subst c13; have H1 : (some false) = some r := by rw [if_neg (show ¬ (false = true) by decide)] at H; exact H
       clear H; have H := H1; clear H1; obtain rfl := Option.some.inj H
       go_enter Tryz.func102, Tryz.ntmps102
       go_wp2_with (first | ((with_reducible refine gate_dst (N := 2) rfl ?_); (try (refine gate_guard (by rfl) ?_; dsimp only)); refine bz_ 2 ?_; intro gb423 hg w20 hbox hb; obtain ⟨BK423, GW423, GE423, HB⟩ := nb_ hg hbox HB hb; clear hb hbox hg; have hcz21 := box9_ BK423.out) | ((with_reducible refine gc_ 54 ?_); refine gl_ (some 7) Tryz.func54 #[.int .i64 a0_1, .int .i64 1, .int .i64 8] ?_; (with_reducible refine (impl_in.calls A3.out).mono ?_); rintro e w' ⟨rfl, ⟨nd, rfl⟩⟩; refine ⟨_, rfl, ?_⟩) | (go_at_call 54; (with_reducible refine (impl_in.calls A5.out).mono ?_); rintro e w' ⟨rfl, ⟨nd, rfl⟩⟩) | (go_at_call 54; (with_reducible refine (impl_in.calls A7.out).mono ?_); rintro e w' ⟨rfl, ⟨nd, rfl⟩⟩) | (go_at_call 54; (with_reducible refine (impl_in.calls A9.out).mono ?_); rintro e w' ⟨rfl, ⟨nd, rfl⟩⟩) | (go_at_call 83; (with_reducible refine (impl_areItems.calls ?_ ?_ A12.out).mono ?_); exact cu_ HR0_7.out HB.out; exact HC0_7.out; rintro e w' ⟨rfl, ⟨nd, rfl⟩⟩))
       go_ret
       exact rt_ HB.out
     ·
      rw [if_neg c11] at H; have c11b0 : ((l0_7.length : Int) == (wrap64 (a0_1 * a1))) = false := beq_eq_false_iff_ne.mpr c11; have c11b1 : ((l0_7.length : Int) != (wrap64 (a0_1 * a1))) = true := bne_iff_ne.mpr c11; obtain rfl := Option.some.inj H
      go_enter Tryz.func102, Tryz.ntmps102
      go_wp2_with (first | ((with_reducible refine gate_dst (N := 2) rfl ?_); (try (refine gate_guard (by rfl) ?_; dsimp only)); refine bz_ 2 ?_; intro gb423 hg w22 hbox hb; obtain ⟨BK423, GW423, GE423, HB⟩ := nb_ hg hbox HB hb; clear hb hbox hg; have hcz23 := box9_ BK423.out) | ((with_reducible refine gc_ 54 ?_); refine gl_ (some 7) Tryz.func54 #[.int .i64 a0_1, .int .i64 1, .int .i64 8] ?_; (with_reducible refine (impl_in.calls A3.out).mono ?_); rintro e w' ⟨rfl, ⟨nd, rfl⟩⟩; refine ⟨_, rfl, ?_⟩) | (go_at_call 54; (with_reducible refine (impl_in.calls A5.out).mono ?_); rintro e w' ⟨rfl, ⟨nd, rfl⟩⟩) | (go_at_call 54; (with_reducible refine (impl_in.calls A7.out).mono ?_); rintro e w' ⟨rfl, ⟨nd, rfl⟩⟩) | (go_at_call 54; (with_reducible refine (impl_in.calls A9.out).mono ?_); rintro e w' ⟨rfl, ⟨nd, rfl⟩⟩))
      go_ret
      exact rt_ HB.out
    ·
     replace c10 := Bool.eq_false_iff.mpr c10; subst c10; have H1 : (some false) = some r := by rw [if_neg (show ¬ (false = true) by decide)] at H; exact H
     clear H; have H := H1; clear H1; obtain rfl := Option.some.inj H
     go_enter Tryz.func102, Tryz.ntmps102
     go_wp2_with (first | ((with_reducible refine gate_dst (N := 2) rfl ?_); (try (refine gate_guard (by rfl) ?_; dsimp only)); refine bz_ 2 ?_; intro gb423 hg w24 hbox hb; obtain ⟨BK423, GW423, GE423, HB⟩ := nb_ hg hbox HB hb; clear hb hbox hg; have hcz25 := box9_ BK423.out) | ((with_reducible refine gc_ 54 ?_); refine gl_ (some 7) Tryz.func54 #[.int .i64 a0_1, .int .i64 1, .int .i64 8] ?_; (with_reducible refine (impl_in.calls A3.out).mono ?_); rintro e w' ⟨rfl, ⟨nd, rfl⟩⟩; refine ⟨_, rfl, ?_⟩) | (go_at_call 54; (with_reducible refine (impl_in.calls A5.out).mono ?_); rintro e w' ⟨rfl, ⟨nd, rfl⟩⟩) | (go_at_call 54; (with_reducible refine (impl_in.calls A7.out).mono ?_); rintro e w' ⟨rfl, ⟨nd, rfl⟩⟩) | (go_at_call 54; (with_reducible refine (impl_in.calls A9.out).mono ?_); rintro e w' ⟨rfl, ⟨nd, rfl⟩⟩))
     go_ret
     exact rt_ HB.out
   ·
    replace c8 := Bool.eq_false_iff.mpr c8; subst c8; have H1 : (some false) = some r := by rw [if_neg (show ¬ (false = true) by decide)] at H; exact H
    clear H; have H := H1; clear H1; obtain rfl := Option.some.inj H
    go_enter Tryz.func102, Tryz.ntmps102
    go_wp2_with (first | ((with_reducible refine gate_dst (N := 2) rfl ?_); (try (refine gate_guard (by rfl) ?_; dsimp only)); refine bz_ 2 ?_; intro gb423 hg w26 hbox hb; obtain ⟨BK423, GW423, GE423, HB⟩ := nb_ hg hbox HB hb; clear hb hbox hg; have hcz27 := box9_ BK423.out) | ((with_reducible refine gc_ 54 ?_); refine gl_ (some 7) Tryz.func54 #[.int .i64 a0_1, .int .i64 1, .int .i64 8] ?_; (with_reducible refine (impl_in.calls A3.out).mono ?_); rintro e w' ⟨rfl, ⟨nd, rfl⟩⟩; refine ⟨_, rfl, ?_⟩) | (go_at_call 54; (with_reducible refine (impl_in.calls A5.out).mono ?_); rintro e w' ⟨rfl, ⟨nd, rfl⟩⟩) | (go_at_call 54; (with_reducible refine (impl_in.calls A7.out).mono ?_); rintro e w' ⟨rfl, ⟨nd, rfl⟩⟩))
    go_ret
    exact rt_ HB.out
  ·
   replace c6 := Bool.eq_false_iff.mpr c6; subst c6; have H1 : (some false) = some r := by rw [if_neg (show ¬ (false = true) by decide)] at H; exact H
   clear H; have H := H1; clear H1; obtain rfl := Option.some.inj H
   go_enter Tryz.func102, Tryz.ntmps102
   go_wp2_with (first | ((with_reducible refine gate_dst (N := 2) rfl ?_); (try (refine gate_guard (by rfl) ?_; dsimp only)); refine bz_ 2 ?_; intro gb423 hg w28 hbox hb; obtain ⟨BK423, GW423, GE423, HB⟩ := nb_ hg hbox HB hb; clear hb hbox hg; have hcz29 := box9_ BK423.out) | ((with_reducible refine gc_ 54 ?_); refine gl_ (some 7) Tryz.func54 #[.int .i64 a0_1, .int .i64 1, .int .i64 8] ?_; (with_reducible refine (impl_in.calls A3.out).mono ?_); rintro e w' ⟨rfl, ⟨nd, rfl⟩⟩; refine ⟨_, rfl, ?_⟩) | (go_at_call 54; (with_reducible refine (impl_in.calls A5.out).mono ?_); rintro e w' ⟨rfl, ⟨nd, rfl⟩⟩))
   go_ret
   exact rt_ HB.out
 ·
  replace c4 := Bool.eq_false_iff.mpr c4; subst c4; have H1 : (some false) = some r := by rw [if_neg (show ¬ (false = true) by decide)] at H; exact H
  clear H; have H := H1; clear H1; obtain rfl := Option.some.inj H
  go_enter Tryz.func102, Tryz.ntmps102
  go_wp2_with (first | ((with_reducible refine gate_dst (N := 2) rfl ?_); (try (refine gate_guard (by rfl) ?_; dsimp only)); refine bz_ 2 ?_; intro gb423 hg w30 hbox hb; obtain ⟨BK423, GW423, GE423, HB⟩ := nb_ hg hbox HB hb; clear hb hbox hg; have hcz31 := box9_ BK423.out) | ((with_reducible refine gc_ 54 ?_); refine gl_ (some 7) Tryz.func54 #[.int .i64 a0_1, .int .i64 1, .int .i64 8] ?_; (with_reducible refine (impl_in.calls A3.out).mono ?_); rintro e w' ⟨rfl, ⟨nd, rfl⟩⟩; refine ⟨_, rfl, ?_⟩))
  go_ret
  exact rt_ HB.out

def impl_Layer_isWindow.f (a0_0 : Int) (a0_1 : Int) (a0_2 : Int) (a0_3 : Int) (a0_4 : Int) (a0_5 : Int) (a0_6 : Int) (l0_7 : List Int) (l0_8 : List Int) (a1_0 : Int) (a1_1 : Int) (a1_2 : Int) : Option (Bool) := (impl_in.f a0_2 1 (mn (mn 3 a1_0) a1_1)).bind fun t432 => (if t432 = true then ((impl_in.f a0_3 1 2).bind fun t433 => (some t433)) else (some false))
set_option maxHeartbeats 8000000 in
set_option maxRecDepth 100000 in
theorem impl_Layer_isWindow.calls {a0_0 : Int} {a0_1 : Int} {a0_2 : Int} {a0_3 : Int} {a0_4 : Int} {a0_5 : Int} {a0_6 : Int} {A0_7 : Option Addr} {c0_7 : Nat} {l0_7 : List Int} {A0_8 : Option Addr} {c0_8 : Nat} {l0_8 : List Int} {a1_0 : Int} {a1_1 : Int} {a1_2 : Int} {r : Bool} {w : World} (hr0_7 : Kd.C (Kd.int .i64) w A0_7 l0_7.length l0_7) (hc0_7 : l0_7.length ≤ c0_7) (hr0_8 : Kd.C (Kd.int .i64) w A0_8 l0_8.length l0_8) (hc0_8 : l0_8.length ≤ c0_8) (h : impl_Layer_isWindow.f a0_0 a0_1 a0_2 a0_3 a0_4 a0_5 a0_6 l0_7 l0_8 a1_0 a1_1 a1_2 = some r) :
  Calls Tryz.prog 103 #[.agg #[.int .i64 a0_0, .int .i64 a0_1, .int .i64 a0_2, .int .i64 a0_3, .int .i64 a0_4, .int .i64 a0_5, .int .i64 a0_6, .slice A0_7 l0_7.length c0_7, .slice A0_8 l0_8.length c0_8], .agg #[.int .i64 a1_0, .int .i64 a1_1, .int .i64 a1_2]] w fun e w' => e = .returned (.bool r) ∧ Below w.heap.size w w' := by
 have hu133 := Tryz.underlying133; have hu47 := Tryz.underlying47; have HR0_7 := Aside0.mk hr0_7; have HC0_7 := Aside0.mk hc0_7; clear hr0_7 hc0_7; have HR0_8 := Aside0.mk hr0_8; have HC0_8 := Aside0.mk hc0_8; clear hr0_8 hc0_8; have HB := Aside0.mk (Below.refl w.heap.size w); have H : ((impl_in.f a0_2 1 (mn (mn 3 a1_0) a1_1)).bind fun t432 => (if t432 = true then ((impl_in.f a0_3 1 2).bind fun t433 => (some t433)) else (some false))) = some r := h; clear h; obtain ⟨ji3, hji3⟩ : ∃ j_ : Int, (mn 3 a1_0) = j_ := ⟨_, rfl⟩; replace H : ((impl_in.f a0_2 1 (mn (ji3) a1_1)).bind fun t432 => (if t432 = true then ((impl_in.f a0_3 1 2).bind fun t433 => (some t433)) else (some false))) = some r := by first | (rw [hji3] at H; exact H) | (simp only [hji3] at H ⊢; exact H)
 (try (have hji3h : ji3 ≤ 3 := by (rw [← hji3]; unfold mn; (repeat' split) <;> omega))); (try (have hji3g : ji3 ≤ 64 := by omega)); have hji3_ : (if a1_0 < 3 then a1_0 else 3) = ji3 := hji3; obtain ⟨ji4, hji4⟩ : ∃ j_ : Int, (mn (ji3) a1_1) = j_ := ⟨_, rfl⟩; replace H : ((impl_in.f a0_2 1 (ji4)).bind fun t432 => (if t432 = true then ((impl_in.f a0_3 1 2).bind fun t433 => (some t433)) else (some false))) = some r := by first | (rw [hji4] at H; exact H) | (simp only [hji4] at H ⊢; exact H)
 have hji4_ : (if a1_1 < (ji3) then a1_1 else (ji3)) = ji4 := hji4; obtain ⟨t432, A5, H⟩ := bo_ H; (try dsimp only at H)
 by_cases c6 : t432 = true
 ·
  subst c6; rw [if_pos rfl] at H; obtain ⟨t433, A7, H⟩ := bo_ H; (try dsimp only at H); obtain rfl := Option.some.inj H
  go_enter Tryz.func103, Tryz.ntmps103
  go_wp2_with (first | ((with_reducible refine gate_dst (N := 2) rfl ?_); refine bz_ 2 ?_; intro gb430 hg w8 hbox hb; obtain ⟨BK430, GW430, GE430, HB⟩ := nb_ hg hbox HB hb; clear hb hbox hg) | ((with_reducible refine gate_dst (N := 3) rfl ?_); refine bz_ 3 ?_; intro gb431 hg w9 hbox hb; obtain ⟨BK431, GW431, GE431, HB⟩ := nb_ hg hbox HB hb; have NB430_431 := nx_ hg BK430; have NB431_430 := ny_ hg BK430; replace BK430 := bb_ BK430 hb; clear hb hbox hg; have hnb10 := NB430_431.out; have hnc10 := NB431_430.out; have hcz11 := box9_ BK430.out; have hcz12 := box3_ BK431.out) | ((with_reducible refine gc_ 54 ?_); refine gl_ (some 12) Tryz.func54 #[.int .i64 a0_2, .int .i64 1, .int .i64 ji4] ?_ (hargs := (by (try simp only [List.map_toArray, List.map_cons, List.map_nil]); first | done | (simp only [hji4]; rfl) | rfl | (simp only [List.length_drop, List.length_take]; rfl))); (with_reducible refine (impl_in.calls A5.out).mono ?_); rintro e w' ⟨rfl, ⟨nd, rfl⟩⟩; refine ⟨_, rfl, ?_⟩) | (go_at_call 54; (with_reducible refine (impl_in.calls A7.out).mono ?_); rintro e w' ⟨rfl, ⟨nd, rfl⟩⟩))
  go_ret
  exact ⟨by first | rfl | (simp [errW_none, errW_some] <;> rfl) | (simp only [← hji3, ← hji4]; first | rfl | (simp [errW_none, errW_some] <;> rfl)) | (simp [*, errW_none, errW_some] <;> rfl), be_ HB.out⟩
 ·
  replace c6 := Bool.eq_false_iff.mpr c6; subst c6; have H1 : (some false) = some r := by rw [if_neg (show ¬ (false = true) by decide)] at H; exact H
  clear H; have H := H1; clear H1; obtain rfl := Option.some.inj H
  go_enter Tryz.func103, Tryz.ntmps103
  go_wp2_with (first | ((with_reducible refine gate_dst (N := 2) rfl ?_); refine bz_ 2 ?_; intro gb430 hg w13 hbox hb; obtain ⟨BK430, GW430, GE430, HB⟩ := nb_ hg hbox HB hb; clear hb hbox hg) | ((with_reducible refine gate_dst (N := 3) rfl ?_); refine bz_ 3 ?_; intro gb431 hg w14 hbox hb; obtain ⟨BK431, GW431, GE431, HB⟩ := nb_ hg hbox HB hb; have NB430_431 := nx_ hg BK430; have NB431_430 := ny_ hg BK430; replace BK430 := bb_ BK430 hb; clear hb hbox hg; have hnb15 := NB430_431.out; have hnc15 := NB431_430.out; have hcz16 := box9_ BK430.out; have hcz17 := box3_ BK431.out) | ((with_reducible refine gc_ 54 ?_); refine gl_ (some 12) Tryz.func54 #[.int .i64 a0_2, .int .i64 1, .int .i64 ji4] ?_ (hargs := (by (try simp only [List.map_toArray, List.map_cons, List.map_nil]); first | done | (simp only [hji4]; rfl) | rfl | (simp only [List.length_drop, List.length_take]; rfl))); (with_reducible refine (impl_in.calls A5.out).mono ?_); rintro e w' ⟨rfl, ⟨nd, rfl⟩⟩; refine ⟨_, rfl, ?_⟩))
  go_ret
  exact ⟨by first | rfl | (simp [errW_none, errW_some] <;> rfl) | (simp only [← hji3, ← hji4]; first | rfl | (simp [errW_none, errW_some] <;> rfl)) | (simp [*, errW_none, errW_some] <;> rfl), be_ HB.out⟩

def impl_Layer_windows.f (a0_0 : Int) (a0_1 : Int) (a0_2 : Int) (a0_3 : Int) (a0_4 : Int) (a0_5 : Int) (a0_6 : Int) (l0_7 : List Int) (l0_8 : List Int) (a1_0 : Int) (a1_1 : Int) (a1_2 : Int) (a2 : Int) : Option (Int × Int × Int) := if a0_3 = 0 then (none) else (some (wrap64 ((wrap64 (Int.tdiv (wrap64 (a1_0 - a0_2)) a0_3)) + 1), wrap64 ((wrap64 (Int.tdiv (wrap64 (a1_1 - a0_2)) a0_3)) + 1), a2))
def impl_Layer_windows.T1 : Bool × List (List Nat × List Nat) := (true, [([], []), ([0], [0]), ([], []), ([2], [2]), ([1, 3], [1, 3]), ([], []), ([5], [5]), ([4, 6], [4, 6]), ([7], [7]), ([], []), ([9], [9]), ([], []), ([11], [11]), ([10, 12], [10, 12]), ([], []), ([14], [14]), ([13, 15], [13, 15]), ([16], [16]), ([], []), ([8, 17, 18], [8, 17, 18]), ([19, 0, 1, 2, 3, 4, 5, 6, 7, 8, 9, 10, 11, 12, 13, 14, 15, 16, 17, 18, 19], [19])])
def impl_Layer_windows.B1 : List Nat := [0, 1, 0, 4, 15, 0, 32, 127, 255, 0, 512, 0, 2048, 7680, 0, 16384, 65024, 130560, 0, 524287, 1048575]
theorem impl_Layer_windows.tab1 : rtab .any (opsOf Tryz.f104 1) = impl_Layer_windows.T1 := by kernel_rfl
theorem impl_Layer_windows.bits1 : waitsOk impl_Layer_windows.T1.2 impl_Layer_windows.B1 = true := by kernel_rfl
set_option maxHeartbeats 8000000 in
set_option maxRecDepth 100000 in
theorem impl_Layer_windows.calls {a0_0 : Int} {a0_1 : Int} {a0_2 : Int} {a0_3 : Int} {a0_4 : Int} {a0_5 : Int} {a0_6 : Int} {A0_7 : Option Addr} {c0_7 : Nat} {l0_7 : List Int} {A0_8 : Option Addr} {c0_8 : Nat} {l0_8 : List Int} {a1_0 : Int} {a1_1 : Int} {a1_2 : Int} {a2 : Int} {r1 : Int} {r2 : Int} {r3 : Int} {w : World} (hr0_7 : Kd.C (Kd.int .i64) w A0_7 l0_7.length l0_7) (hc0_7 : l0_7.length ≤ c0_7) (hr0_8 : Kd.C (Kd.int .i64) w A0_8 l0_8.length l0_8) (hc0_8 : l0_8.length ≤ c0_8) (h : impl_Layer_windows.f a0_0 a0_1 a0_2 a0_3 a0_4 a0_5 a0_6 l0_7 l0_8 a1_0 a1_1 a1_2 a2 = some (r1, r2, r3)) :
  Calls Tryz.prog 104 #[.agg #[.int .i64 a0_0, .int .i64 a0_1, .int .i64 a0_2, .int .i64 a0_3, .int .i64 a0_4, .int .i64 a0_5, .int .i64 a0_6, .slice A0_7 l0_7.length c0_7, .slice A0_8 l0_8.length c0_8], .agg #[.int .i64 a1_0, .int .i64 a1_1, .int .i64 a1_2], .int .i64 a2] w fun e w' => e = .returned (.agg #[.int .i64 r1, .int .i64 r2, .int .i64 r3]) ∧ Below w.heap.size w w' := by
 have hu133 := Tryz.underlying133; have hu47 := Tryz.underlying47; have HR0_7 := Aside0.mk hr0_7; have HC0_7 := Aside0.mk hc0_7; clear hr0_7 hc0_7; have HR0_8 := Aside0.mk hr0_8; have HC0_8 := Aside0.mk hc0_8; clear hr0_8 hc0_8; have HB := Aside0.mk (Below.refl w.heap.size w); have H : (if a0_3 = 0 then (none) else (some (wrap64 ((wrap64 (Int.tdiv (wrap64 (a1_0 - a0_2)) a0_3)) + 1), wrap64 ((wrap64 (Int.tdiv (wrap64 (a1_1 - a0_2)) a0_3)) + 1), a2))) = some (r1, r2, r3) := h; clear h
 by_cases c4 : a0_3 = 0
 ·
  rw [if_pos c4] at H; exact absurd H (by simp)
 ·
  rw [if_neg c4] at H; have c4b0 : (a0_3 == 0) = false := beq_eq_false_iff_ne.mpr c4; have c4b1 : (a0_3 != 0) = true := bne_iff_ne.mpr c4; simp only [Option.some.injEq, Prod.mk.injEq] at H; obtain ⟨rfl, rfl, rfl⟩ := H
  go_enter Tryz.func104, Tryz.ntmps104
  try go_wp2_with (first | ((with_reducible refine gate_dst (N := 3) rfl ?_); refine bz_ 3 ?_; intro gb434 hg w5 hbox hb; obtain ⟨BK434, GW434, GE434, HB⟩ := nb_ hg hbox HB hb; clear hb hbox hg) | ((with_reducible refine gate_dst (N := 4) rfl ?_); refine bz_ 4 ?_; intro gb435 hg w6 hbox hb; obtain ⟨BK435, GW435, GE435, HB⟩ := nb_ hg hbox HB hb; have NB434_435 := nx_ hg BK434; have NB435_434 := ny_ hg BK434; replace BK434 := bb_ BK434 hb; clear hb hbox hg) | ((with_reducible refine gate_dst (N := 6) rfl ?_); refine bz_ 6 ?_; intro gb436 hg w7 hbox hb; obtain ⟨BK436, GW436, GE436, HB⟩ := nb_ hg hbox HB hb; have NB434_436 := nx_ hg BK434; have NB436_434 := ny_ hg BK434; replace BK434 := bb_ BK434 hb; have NB435_436 := nx_ hg BK435; have NB436_435 := ny_ hg BK435; replace BK435 := bb_ BK435 hb; clear hb hbox hg))
  replace BK434 := Aside0.mk (blk_drew BK434.out); replace BK435 := Aside0.mk (blk_drew BK435.out); replace BK436 := Aside0.mk (blk_drew BK436.out); replace HB := Aside0.mk (below_drew1 HB.out); refine sta_ 21 (fun w' => CE_ w' gb435 0 (.int .i64 a1_0) ∧ CE_ w' gb435 1 (.int .i64 a1_1) ∧ CE_ w' gb435 2 (.int .i64 a1_2) ∧ CE_ w' gb434 0 (.int .i64 a0_0) ∧ CE_ w' gb434 1 (.int .i64 a0_1) ∧ CE_ w' gb434 2 (.int .i64 a0_2) ∧ CE_ w' gb434 3 (.int .i64 a0_3) ∧ CE_ w' gb434 4 (.int .i64 a0_4) ∧ CE_ w' gb434 5 (.int .i64 a0_5) ∧ CE_ w' gb434 6 (.int .i64 a0_6) ∧ CE_ w' gb434 7 (.slice A0_7 l0_7.length c0_7) ∧ CE_ w' gb434 8 (.slice A0_8 l0_8.length c0_8)) ⟨bk_ BK435 0, bk_ BK435 1, bk_ BK435 2, bk_ BK434 0, bk_ BK434 1, bk_ BK434 2, bk_ BK434 3, bk_ BK434 4, bk_ BK434 5, bk_ BK434 6, bk_ BK434 7, bk_ BK434 8⟩ (fun hHeld => ?_); refine with_tabW impl_Layer_windows.tab1 impl_Layer_windows.bits1 (fun HT_ HW_ => ?_); generalize w7.drew = w8 at BK434 BK435 BK436 HB hHeld ⊢; refine pv_ 0 21 1 HT_.out ?_; refine pv_ 2 21 5 HT_.out ?_; refine pv_ 5 21 37 HT_.out ?_; refine pv_ 9 21 549 HT_.out ?_; refine pv_ 11 21 2597 HT_.out ?_; refine pv_ 14 21 18981 HT_.out ?_; refine pv_ 18 21 281125 HT_.out ?_; refine tv_ 1 21 281127 HT_.out HW_.out hHeld ?_; refine tv_ 3 21 281135 HT_.out HW_.out hHeld ?_; refine pv_ 4 21 281151 HT_.out ?_; refine tv_ 6 21 281215 HT_.out HW_.out hHeld ?_; refine pv_ 7 21 281343 HT_.out ?_; refine pv_ 8 21 281599 HT_.out ?_; refine tv_ 10 21 282623 HT_.out HW_.out hHeld ?_; refine tv_ 12 21 286719 HT_.out HW_.out hHeld ?_; refine pv_ 13 21 294911 HT_.out ?_; refine tv_ 15 21 327679 HT_.out HW_.out hHeld ?_; refine pv_ 16 21 393215 HT_.out ?_; refine pv_ 17 21 524287 HT_.out ?_; refine pv_ 19 21 1048575 HT_.out ?_; refine one_ (i := 20) (N := none) (bl_ 21 2097151) rfl rfl (one_of HT_.out (by kernel_rfl)) (by decide) (fun K hK => ?_); have hs9 : w8.cell? ⟨gb436, 0, none⟩ = some (.int .i64 0) := bk_ BK436 0; have hfs9 := blk_frozen BK436.out 0; have hns9_0 := NB434_436.out; have hns9_1 := NB435_436.out; have hms9_0 := NB436_434.out; have hms9_1 := NB436_435.out; have hs10 : w8.cell? ⟨gb436, 1, none⟩ = some (.int .i64 0) := bk_ BK436 1; have hfs10 := blk_frozen BK436.out 1; have hns10_0 := NB434_436.out; have hns10_1 := NB435_436.out; have hms10_0 := NB436_434.out; have hms10_1 := NB436_435.out; have hs11 : w8.cell? ⟨gb436, 2, none⟩ = some (.int .i64 0) := bk_ BK436 2; have hfs11 := blk_frozen BK436.out 2; have hns11_0 := NB434_436.out; have hns11_1 := NB435_436.out; have hms11_0 := NB436_434.out; have hms11_1 := NB436_435.out; refine skip_ (w1 := ?_) (by rfl) rfl ?_ ?_
  rotate_left
  ·
   go_simp
   rfl
  refine hK.out _ _ ⟨(cfn_ NB435_436.out ((cfn_ NB435_436.out ((cfn_ NB435_436.out (hHeld.1)))))), (cfn_ NB435_436.out ((cfn_ NB435_436.out ((cfn_ NB435_436.out (hHeld.2.1)))))), (cfn_ NB435_436.out ((cfn_ NB435_436.out ((cfn_ NB435_436.out (hHeld.2.2.1)))))), (cfn_ NB434_436.out ((cfn_ NB434_436.out ((cfn_ NB434_436.out (hHeld.2.2.2.1)))))), (cfn_ NB434_436.out ((cfn_ NB434_436.out ((cfn_ NB434_436.out (hHeld.2.2.2.2.1)))))), (cfn_ NB434_436.out ((cfn_ NB434_436.out ((cfn_ NB434_436.out (hHeld.2.2.2.2.2.1)))))), (cfn_ NB434_436.out ((cfn_ NB434_436.out ((cfn_ NB434_436.out (hHeld.2.2.2.2.2.2.1)))))), (cfn_ NB434_436.out ((cfn_ NB434_436.out ((cfn_ NB434_436.out (hHeld.2.2.2.2.2.2.2.1)))))), (cfn_ NB434_436.out ((cfn_ NB434_436.out ((cfn_ NB434_436.out (hHeld.2.2.2.2.2.2.2.2.1)))))), (cfn_ NB434_436.out ((cfn_ NB434_436.out ((cfn_ NB434_436.out (hHeld.2.2.2.2.2.2.2.2.2.1)))))), (cfn_ NB434_436.out ((cfn_ NB434_436.out ((cfn_ NB434_436.out (hHeld.2.2.2.2.2.2.2.2.2.2.1)))))), (cfn_ NB434_436.out ((cfn_ NB434_436.out ((cfn_ NB434_436.out (hHeld.2.2.2.2.2.2.2.2.2.2.2))))))⟩ (fun hHeld => ?_); clear hK K; refine done_ (done_of HT_.out (by kernel_rfl)) ?_
  try go_wp2
  refine bodyPost_ret (results_cell_row rfl _ _ gb436 47 #[.int .i64 (wrap64 ((wrap64 (Int.tdiv (wrap64 (a1_0 - a0_2)) a0_3)) + 1)), .int .i64 (wrap64 ((wrap64 (Int.tdiv (wrap64 (a1_1 - a0_2)) a0_3)) + 1)), .int .i64 a2] (0, 0) _ rfl (bq_ BK436.out) Tryz.underlying47 rfl (by kernel_rfl)) rfl ?_; exact rt_ HB.out

def impl_Layer_isBare.f (a0_0 : Int) (a0_1 : Int) (a0_2 : Int) (a0_3 : Int) (a0_4 : Int) (a0_5 : Int) (a0_6 : Int) (l0_7 : List Int) (l0_8 : List Int) : Option (Bool) := if a0_1 = 0 then (if a0_4 = 0 then (if a0_5 = 0 then (if (l0_7.length : Int) = 0 then (some ((l0_8.length : Int) == 0)) else (some false)) else (some false)) else (some false)) else (some false)
set_option maxHeartbeats 8000000 in
set_option maxRecDepth 100000 in
theorem impl_Layer_isBare.calls {a0_0 : Int} {a0_1 : Int} {a0_2 : Int} {a0_3 : Int} {a0_4 : Int} {a0_5 : Int} {a0_6 : Int} {A0_7 : Option Addr} {c0_7 : Nat} {l0_7 : List Int} {A0_8 : Option Addr} {c0_8 : Nat} {l0_8 : List Int} {r : Bool} {w : World} (hr0_7 : Kd.C (Kd.int .i64) w A0_7 l0_7.length l0_7) (hc0_7 : l0_7.length ≤ c0_7) (hr0_8 : Kd.C (Kd.int .i64) w A0_8 l0_8.length l0_8) (hc0_8 : l0_8.length ≤ c0_8) (h : impl_Layer_isBare.f a0_0 a0_1 a0_2 a0_3 a0_4 a0_5 a0_6 l0_7 l0_8 = some r) :
  Calls Tryz.prog 105 #[.agg #[.int .i64 a0_0, .int .i64 a0_1, .int .i64 a0_2, .int .i64 a0_3, .int .i64 a0_4, .int .i64 a0_5, .int .i64 a0_6, .slice A0_7 l0_7.length c0_7, .slice A0_8 l0_8.length c0_8]] w fun e w' => e = .returned (.bool r) ∧ Below w.heap.size w w' := by
 have hu133 := Tryz.underlying133; have HR0_7 := Aside0.mk hr0_7; have HC0_7 := Aside0.mk hc0_7; clear hr0_7 hc0_7; have HR0_8 := Aside0.mk hr0_8; have HC0_8 := Aside0.mk hc0_8; clear hr0_8 hc0_8; have HB := Aside0.mk (Below.refl w.heap.size w); have H : (if a0_1 = 0 then (if a0_4 = 0 then (if a0_5 = 0 then (if (l0_7.length : Int) = 0 then (some ((l0_8.length : Int) == 0)) else (some false)) else (some false)) else (some false)) else (some false)) = some r := h; clear h
 by_cases c2 : a0_1 = 0
 ·
  rw [if_pos c2] at H; have c2b0 : (a0_1 == 0) = true := beq_iff_eq.mpr c2; have c2b1 : (a0_1 != 0) = false := bne_eq_false_iff_eq.mpr c2; clear c2
  by_cases c3 : a0_4 = 0
  ·
   rw [if_pos c3] at H; have c3b0 : (a0_4 == 0) = true := beq_iff_eq.mpr c3; have c3b1 : (a0_4 != 0) = false := bne_eq_false_iff_eq.mpr c3; clear c3
   by_cases c4 : a0_5 = 0
   ·
    rw [if_pos c4] at H; have c4b0 : (a0_5 == 0) = true := beq_iff_eq.mpr c4; have c4b1 : (a0_5 != 0) = false := bne_eq_false_iff_eq.mpr c4; clear c4
    by_cases c5 : (l0_7.length : Int) = 0
    ·
     rw [if_pos c5] at H; have c5b0 : ((l0_7.length : Int) == 0) = true := beq_iff_eq.mpr c5; have c5b1 : ((l0_7.length : Int) != 0) = false := bne_eq_false_iff_eq.mpr c5; clear c5; obtain rfl := Option.some.inj H
     go_enter Tryz.func105, Tryz.ntmps105
     go_wp2_with (first | ((with_reducible refine gate_dst (N := 1) rfl ?_); (try (refine gate_guard (by rfl) ?_; dsimp only)); refine bz_ 1 ?_; intro gb437 hg w6 hbox hb; obtain ⟨BK437, GW437, GE437, HB⟩ := nb_ hg hbox HB hb; clear hb hbox hg; have hcz7 := box9_ BK437.out))
     go_ret
     exact rt_ HB.out
    ·
     rw [if_neg c5] at H; have c5b0 : ((l0_7.length : Int) == 0) = false := beq_eq_false_iff_ne.mpr c5; have c5b1 : ((l0_7.length : Int) != 0) = true := bne_iff_ne.mpr c5; have c5b2 : ¬ (l0_7 = []) := fun h_ => c5 (by rw [h_]; rfl); obtain rfl := Option.some.inj H
     go_enter Tryz.func105, Tryz.ntmps105
     go_wp2_with (first | ((with_reducible refine gate_dst (N := 1) rfl ?_); (try (refine gate_guard (by rfl) ?_; dsimp only)); refine bz_ 1 ?_; intro gb437 hg w8 hbox hb; obtain ⟨BK437, GW437, GE437, HB⟩ := nb_ hg hbox HB hb; clear hb hbox hg; have hcz9 := box9_ BK437.out))
     go_ret
     exact rt_ HB.out
   ·
    rw [if_neg c4] at H; have c4b0 : (a0_5 == 0) = false := beq_eq_false_iff_ne.mpr c4; have c4b1 : (a0_5 != 0) = true := bne_iff_ne.mpr c4; obtain rfl := Option.some.inj H
    go_enter Tryz.func105, Tryz.ntmps105
    go_wp2_with (first | ((with_reducible refine gate_dst (N := 1) rfl ?_); (try (refine gate_guard (by rfl) ?_; dsimp only)); refine bz_ 1 ?_; intro gb437 hg w10 hbox hb; obtain ⟨BK437, GW437, GE437, HB⟩ := nb_ hg hbox HB hb; clear hb hbox hg; have hcz11 := box9_ BK437.out))
    go_ret
    exact rt_ HB.out
  ·
   rw [if_neg c3] at H; have c3b0 : (a0_4 == 0) = false := beq_eq_false_iff_ne.mpr c3; have c3b1 : (a0_4 != 0) = true := bne_iff_ne.mpr c3; obtain rfl := Option.some.inj H
   go_enter Tryz.func105, Tryz.ntmps105
   go_wp2_with (first | ((with_reducible refine gate_dst (N := 1) rfl ?_); (try (refine gate_guard (by rfl) ?_; dsimp only)); refine bz_ 1 ?_; intro gb437 hg w12 hbox hb; obtain ⟨BK437, GW437, GE437, HB⟩ := nb_ hg hbox HB hb; clear hb hbox hg; have hcz13 := box9_ BK437.out))
   go_ret
   exact rt_ HB.out
 ·
  rw [if_neg c2] at H; have c2b0 : (a0_1 == 0) = false := beq_eq_false_iff_ne.mpr c2; have c2b1 : (a0_1 != 0) = true := bne_iff_ne.mpr c2; obtain rfl := Option.some.inj H
  go_enter Tryz.func105, Tryz.ntmps105
  go_wp2_with (first | ((with_reducible refine gate_dst (N := 1) rfl ?_); (try (refine gate_guard (by rfl) ?_; dsimp only)); refine bz_ 1 ?_; intro gb437 hg w14 hbox hb; obtain ⟨BK437, GW437, GE437, HB⟩ := nb_ hg hbox HB hb; clear hb hbox hg; have hcz15 := box9_ BK437.out))
  go_ret
  exact rt_ HB.out

mutual
def impl_OutShape.j0 : Nat → Bool → Int → Int → Int → Int → Int → Int → Int → List Int → List Int → Option (Int × Int × Int × Bool)
 | 0, _, _, _, _, _, _, _, _, _, _ => none
 | k + 1, x27, x440000, x440001, x440002, x440003, x440004, x440005, x440006, x440007, x440008 => if x27 = true then (some (1, 1, x440001, true)) else (some (0, 0, 0, false))
def impl_OutShape.j1 : Nat → Bool → Int → Int → Int → Int → Int → Int → Int → Int → Int → Int → List Int → List Int → Option (Int × Int × Int × Bool)
 | 0, _, _, _, _, _, _, _, _, _, _, _, _, _ => none
 | k + 1, x53, x439000, x439001, x439002, x440000, x440001, x440002, x440003, x440004, x440005, x440006, x440007, x440008 => if x53 = true then ((impl_Layer_windows.f x440000 x440001 x440002 x440003 x440004 x440005 x440006 x440007 x440008 x439000 x439001 x439002 x440001).bind fun bt447 => (some (bt447.1, bt447.2.1, bt447.2.2, true))) else (some (0, 0, 0, false))
def impl_OutShape.j2 : Nat → Int → Int → Bool → Int → Int → Int → Int → Int → Int → Int → Int → Int → Int → List Int → List Int → Option (Int × Int × Int × Bool)
 | 0, _, _, _, _, _, _, _, _, _, _, _, _, _, _, _ => none
 | k + 1, x6, x14, x59, x439000, x439001, x439002, x440000, x440001, x440002, x440003, x440004, x440005, x440006, x440007, x440008 => if x59 = true then ((impl_Layer_isWindow.f x440000 x440001 x440002 x440003 x440004 x440005 x440006 x440007 x440008 x439000 x439001 x439002).bind fun t450 => (if t450 = true then ((impl_Layer_isBare.f x440000 x440001 x440002 x440003 x440004 x440005 x440006 x440007 x440008).bind fun t451 => (if t451 = true then (impl_OutShape.j3 k (x440006 == 0) x439000 x439001 x439002 x440000 x440001 x440002 x440003 x440004 x440005 x440006 x440007 x440008) else (impl_OutShape.j3 k false x439000 x439001 x439002 x440000 x440001 x440002 x440003 x440004 x440005 x440006 x440007 x440008))) else (impl_OutShape.j3 k false x439000 x439001 x439002 x440000 x440001 x440002 x440003 x440004 x440005 x440006 x440007 x440008))) else (if x14 = 4 then ((impl_Layer_hasNone.f x440000 x440001 x440002 x440003 x440004 x440005 x440006 x440007 x440008).bind fun t455 => (if t455 = true then ((impl_Layer_isBare.f x440000 x440001 x440002 x440003 x440004 x440005 x440006 x440007 x440008).bind fun t456 => (if t456 = true then ((impl_in.f x440006 (-128) 127).bind fun t457 => (impl_OutShape.j4 k t457 x439000 x439001 x439002)) else (impl_OutShape.j4 k false x439000 x439001 x439002))) else (impl_OutShape.j4 k false x439000 x439001 x439002))) else (if x14 = 5 then ((impl_Layer_hasNone.f x440000 x440001 x440002 x440003 x440004 x440005 x440006 x440007 x440008).bind fun t458 => (if t458 = true then ((impl_Layer_isBare.f x440000 x440001 x440002 x440003 x440004 x440005 x440006 x440007 x440008).bind fun t459 => (if t459 = true then (if x440006 = 0 then (impl_OutShape.j5 k x6 (decide (x6 ≤ 8))) else (impl_OutShape.j5 k x6 false)) else (impl_OutShape.j5 k x6 false))) else (impl_OutShape.j5 k x6 false))) else (some (0, 0, 0, false))))
def impl_OutShape.j3 : Nat → Bool → Int → Int → Int → Int → Int → Int → Int → Int → Int → Int → List Int → List Int → Option (Int × Int × Int × Bool)
 | 0, _, _, _, _, _, _, _, _, _, _, _, _, _ => none
 | k + 1, x73, x439000, x439001, x439002, x440000, x440001, x440002, x440003, x440004, x440005, x440006, x440007, x440008 => if x73 = true then ((impl_Layer_windows.f x440000 x440001 x440002 x440003 x440004 x440005 x440006 x440007 x440008 x439000 x439001 x439002 x439002).bind fun bt452 => (some (bt452.1, bt452.2.1, bt452.2.2, true))) else (some (0, 0, 0, false))
def impl_OutShape.j4 : Nat → Bool → Int → Int → Int → Option (Int × Int × Int × Bool)
 | 0, _, _, _, _ => none
 | k + 1, x91, x439000, x439001, x439002 => if x91 = true then (some (x439000, x439001, x439002, true)) else (some (0, 0, 0, false))
def impl_OutShape.j5 : Nat → Int → Bool → Option (Int × Int × Int × Bool)
 | 0, _, _ => none
 | k + 1, x6, x109 => if x109 = true then (some (1, 1, x6, true)) else (some (0, 0, 0, false))
end
def impl_OutShape.f (k : Nat) (a0_0 : Int) (a0_1 : Int) (a0_2 : Int) (a1_0 : Int) (a1_1 : Int) (a1_2 : Int) (a1_3 : Int) (a1_4 : Int) (a1_5 : Int) (a1_6 : Int) (l1_7 : List Int) (l1_8 : List Int) : Option (Int × Int × Int × Bool) := (impl_ShapeOk.f a0_0 a0_1 a0_2).bind fun t441 => (if t441 = true then ((impl_SizeOf.f a0_0 a0_1 a0_2).bind fun t442 => (if a1_0 = 0 then (if t442 ≤ 64 then ((impl_Layer_hasNone.f a1_0 a1_1 a1_2 a1_3 a1_4 a1_5 a1_6 l1_7 l1_8).bind fun t443 => (if t443 = true then ((impl_Layer_isScaled.f k a1_0 a1_1 a1_2 a1_3 a1_4 a1_5 a1_6 l1_7 l1_8 t442).bind fun t444 => (impl_OutShape.j0 k t444 a1_0 a1_1 a1_2 a1_3 a1_4 a1_5 a1_6 l1_7 l1_8)) else (impl_OutShape.j0 k false a1_0 a1_1 a1_2 a1_3 a1_4 a1_5 a1_6 l1_7 l1_8))) else (impl_OutShape.j0 k false a1_0 a1_1 a1_2 a1_3 a1_4 a1_5 a1_6 l1_7 l1_8)) else (if a1_0 = 1 then ((impl_Layer_isWindow.f a1_0 a1_1 a1_2 a1_3 a1_4 a1_5 a1_6 l1_7 l1_8 a0_0 a0_1 a0_2).bind fun t445 => (if t445 = true then (if (l1_7.length : Int) ≤ 600 then ((impl_Layer_isScaled.f k a1_0 a1_1 a1_2 a1_3 a1_4 a1_5 a1_6 l1_7 l1_8 (wrap64 ((wrap64 (a1_2 * a1_2)) * a0_2))).bind fun t446 => (impl_OutShape.j1 k t446 a0_0 a0_1 a0_2 a1_0 a1_1 a1_2 a1_3 a1_4 a1_5 a1_6 l1_7 l1_8)) else (impl_OutShape.j1 k false a0_0 a0_1 a0_2 a1_0 a1_1 a1_2 a1_3 a1_4 a1_5 a1_6 l1_7 l1_8)) else (impl_OutShape.j1 k false a0_0 a0_1 a0_2 a1_0 a1_1 a1_2 a1_3 a1_4 a1_5 a1_6 l1_7 l1_8))) else (if a1_0 = 2 then (impl_OutShape.j2 k t442 a1_0 (a1_0 == 2) a0_0 a0_1 a0_2 a1_0 a1_1 a1_2 a1_3 a1_4 a1_5 a1_6 l1_7 l1_8) else (impl_OutShape.j2 k t442 a1_0 (a1_0 == 3) a0_0 a0_1 a0_2 a1_0 a1_1 a1_2 a1_3 a1_4 a1_5 a1_6 l1_7 l1_8))))) else (some (0, 0, 0, false)))
set_option maxHeartbeats 8000000 in
set_option maxRecDepth 100000 in
theorem impl_OutShape.calls {k : Nat} {a0_0 : Int} {a0_1 : Int} {a0_2 : Int} {a1_0 : Int} {a1_1 : Int} {a1_2 : Int} {a1_3 : Int} {a1_4 : Int} {a1_5 : Int} {a1_6 : Int} {A1_7 : Option Addr} {c1_7 : Nat} {l1_7 : List Int} {A1_8 : Option Addr} {c1_8 : Nat} {l1_8 : List Int} {r1 : Int} {r2 : Int} {r3 : Int} {r4 : Bool} {w : World} (hr1_7 : Kd.C (Kd.int .i64) w A1_7 l1_7.length l1_7) (hc1_7 : l1_7.length ≤ c1_7) (hr1_8 : Kd.C (Kd.int .i64) w A1_8 l1_8.length l1_8) (hc1_8 : l1_8.length ≤ c1_8) (h : impl_OutShape.f k a0_0 a0_1 a0_2 a1_0 a1_1 a1_2 a1_3 a1_4 a1_5 a1_6 l1_7 l1_8 = some (r1, r2, r3, r4)) :
  Calls Tryz.prog 96 #[.agg #[.int .i64 a0_0, .int .i64 a0_1, .int .i64 a0_2], .agg #[.int .i64 a1_0, .int .i64 a1_1, .int .i64 a1_2, .int .i64 a1_3, .int .i64 a1_4, .int .i64 a1_5, .int .i64 a1_6, .slice A1_7 l1_7.length c1_7, .slice A1_8 l1_8.length c1_8]] w fun e w' => e = .returned (.tuple #[.agg #[.int .i64 r1, .int .i64 r2, .int .i64 r3], .bool r4]) ∧ Below w.heap.size w w' := by
 have hu47 := Tryz.underlying47; have hu133 := Tryz.underlying133; have HR1_7 := Aside0.mk hr1_7; have HC1_7 := Aside0.mk hc1_7; clear hr1_7 hc1_7; have HR1_8 := Aside0.mk hr1_8; have HC1_8 := Aside0.mk hc1_8; clear hr1_8 hc1_8; have HB := Aside0.mk (Below.refl w.heap.size w); have H : ((impl_ShapeOk.f a0_0 a0_1 a0_2).bind fun t441 => (if t441 = true then ((impl_SizeOf.f a0_0 a0_1 a0_2).bind fun t442 => (if a1_0 = 0 then (if t442 ≤ 64 then ((impl_Layer_hasNone.f a1_0 a1_1 a1_2 a1_3 a1_4 a1_5 a1_6 l1_7 l1_8).bind fun t443 => (if t443 = true then ((impl_Layer_isScaled.f k a1_0 a1_1 a1_2 a1_3 a1_4 a1_5 a1_6 l1_7 l1_8 t442).bind fun t444 => (impl_OutShape.j0 k t444 a1_0 a1_1 a1_2 a1_3 a1_4 a1_5 a1_6 l1_7 l1_8)) else (impl_OutShape.j0 k false a1_0 a1_1 a1_2 a1_3 a1_4 a1_5 a1_6 l1_7 l1_8))) else (impl_OutShape.j0 k false a1_0 a1_1 a1_2 a1_3 a1_4 a1_5 a1_6 l1_7 l1_8)) else (if a1_0 = 1 then ((impl_Layer_isWindow.f a1_0 a1_1 a1_2 a1_3 a1_4 a1_5 a1_6 l1_7 l1_8 a0_0 a0_1 a0_2).bind fun t445 => (if t445 = true then (if (l1_7.length : Int) ≤ 600 then ((impl_Layer_isScaled.f k a1_0 a1_1 a1_2 a1_3 a1_4 a1_5 a1_6 l1_7 l1_8 (wrap64 ((wrap64 (a1_2 * a1_2)) * a0_2))).bind fun t446 => (impl_OutShape.j1 k t446 a0_0 a0_1 a0_2 a1_0 a1_1 a1_2 a1_3 a1_4 a1_5 a1_6 l1_7 l1_8)) else (impl_OutShape.j1 k false a0_0 a0_1 a0_2 a1_0 a1_1 a1_2 a1_3 a1_4 a1_5 a1_6 l1_7 l1_8)) else (impl_OutShape.j1 k false a0_0 a0_1 a0_2 a1_0 a1_1 a1_2 a1_3 a1_4 a1_5 a1_6 l1_7 l1_8))) else (if a1_0 = 2 then (impl_OutShape.j2 k t442 a1_0 (a1_0 == 2) a0_0 a0_1 a0_2 a1_0 a1_1 a1_2 a1_3 a1_4 a1_5 a1_6 l1_7 l1_8) else (impl_OutShape.j2 k t442 a1_0 (a1_0 == 3) a0_0 a0_1 a0_2 a1_0 a1_1 a1_2 a1_3 a1_4 a1_5 a1_6 l1_7 l1_8))))) else (some (0, 0, 0, false)))) = some (r1, r2, r3, r4) := h; clear h; obtain ⟨t441, A3, H⟩ := bo_ H; (try dsimp only at H)
 by_cases c4 : t441 = true
 ·
  subst c4; rw [if_pos rfl] at H; obtain ⟨t442, A5, H⟩ := bo_ H; (try dsimp only at H)
  by_cases c6 : a1_0 = 0
  ·
   rw [if_pos c6] at H; have c6b0 : (a1_0 == 0) = true := beq_iff_eq.mpr c6; have c6b1 : (a1_0 != 0) = false := bne_eq_false_iff_eq.mpr c6; clear c6; have HC7 := Aside0.mk H; clear H
   go_enter Tryz.func96, Tryz.ntmps96
   go_upto_region 6 with (first | ((with_reducible refine gate_dst (N := 2) rfl ?_); (try (refine gate_guard (by rfl) ?_; dsimp only)); refine bz_ 2 ?_; intro gb438 hg w8 hbox hb; obtain ⟨BK438, GW438, GE438, HB⟩ := nb_ hg hbox HB hb; clear hb hbox hg) | ((with_reducible refine gate_dst (N := 3) rfl ?_); (try (refine gate_guard (by rfl) ?_; dsimp only)); refine bz_ 3 ?_; intro gb439 hg w9 hbox hb; obtain ⟨BK439, GW439, GE439, HB⟩ := nb_ hg hbox HB hb; have NB438_439 := nx_ hg BK438; have NB439_438 := ny_ hg BK438; replace BK438 := bb_ BK438 hb; clear hb hbox hg) | ((with_reducible refine gate_dst (N := 4) rfl ?_); (try (refine gate_guard (by rfl) ?_; dsimp only)); refine bz_ 4 ?_; intro gb440 hg w10 hbox hb; obtain ⟨BK440, GW440, GE440, HB⟩ := nb_ hg hbox HB hb; have NB438_440 := nx_ hg BK438; have NB440_438 := ny_ hg BK438; replace BK438 := bb_ BK438 hb; have NB439_440 := nx_ hg BK439; have NB440_439 := ny_ hg BK439; replace BK439 := bb_ BK439 hb; clear hb hbox hg; have hnb11 := NB438_439.out; have hnc11 := NB439_438.out; have hnb12 := NB438_440.out; have hnc12 := NB440_438.out; have hcz13 := box3_ BK438.out) | ((with_reducible refine gc_ 81 ?_); refine gl_ (some 8) Tryz.func81 #[.agg #[.int .i64 a0_0, .int .i64 a0_1, .int .i64 a0_2]] ?_; (with_reducible refine (impl_ShapeOk.calls A3.out).mono ?_); rintro e w14 ⟨rfl, hb⟩; refine ⟨_, rfl, ?_⟩; replace BK438 := bb_ BK438 hb; replace BK439 := bb_ BK439 hb; replace BK440 := bb_ BK440 hb; replace HB := hb_ HB hb; (try clear hb); have hcz15 := box3_ BK438.out) | ((with_reducible refine gc_ 82 ?_); refine gl_ (some 12) Tryz.func82 #[.agg #[.int .i64 a0_0, .int .i64 a0_1, .int .i64 a0_2]] ?_; (with_reducible refine (impl_SizeOf.calls A5.out).mono ?_); rintro e w16 ⟨rfl, hb⟩; refine ⟨_, rfl, ?_⟩; replace BK438 := bb_ BK438 hb; replace BK439 := bb_ BK439 hb; replace BK440 := bb_ BK440 hb; replace HB := hb_ HB hb; (try clear hb); have hnb17 := NB439_440.out; have hnc17 := NB440_439.out; have hcz18 := box9_ BK439.out))
   (try simp only [Act.put, List.setIfInBounds_toArray, List.set_cons_zero, List.set_cons_succ])
   go_cut [27] (fun v27 wc => ∃ (kq : Nat) (x27_6 : Bool), v27 = .bool x27_6 ∧ Aside0 (impl_OutShape.j0 kq x27_6 a1_0 a1_1 a1_2 a1_3 a1_4 a1_5 a1_6 l1_7 l1_8 = some (r1, r2, r3, r4)) ∧ Aside0 (kq ≤ k) ∧ Aside0 (wc.heap[gb438]? = some (.cells #[.int .i64 a0_0, .int .i64 a0_1, .int .i64 a0_2] 47 (0, 0))) ∧ Aside0 (wc.heap[gb439]? = some (.cells #[.int .i64 a1_0, .int .i64 a1_1, .int .i64 a1_2, .int .i64 a1_3, .int .i64 a1_4, .int .i64 a1_5, .int .i64 a1_6, (.slice A1_7 l1_7.length c1_7), (.slice A1_8 l1_8.length c1_8)] 133 (0, 0))) ∧ Aside0 (wc.heap[gb440]? = some (.cells #[.int .i64 0, .int .i64 0, .int .i64 0] 47 (0, 0))) ∧ Aside0 (Below w.heap.size w wc))
   case first =>
    have H := HC7.out; clear HC7
    by_cases c19 : t442 ≤ 64
    ·
     rw [if_pos c19] at H; have c19b0 : decide (t442 ≤ 64) = true := decide_eq_true c19; clear c19; (first | rw [c19b0] | (simp only [i64_w, i32_w]; rw [c19b0]) | skip); obtain ⟨t443, A20, H⟩ := bo_ H; (try dsimp only at H)
     by_cases c21 : t443 = true
     ·
      subst c21; rw [if_pos rfl] at H; obtain ⟨t444, A22, H⟩ := bo_ H; (try dsimp only at H); have H' := Aside0.mk H; clear H; have hnb23 := NB439_438.out; have hnc23 := NB438_439.out; have hnb24 := NB439_440.out; have hnc24 := NB440_439.out; have hcz25 := box9_ BK439.out
      go_wp2_with (first | (go_at_call 101; (with_reducible refine (impl_Layer_hasNone.calls ?_ ?_ ?_ ?_ A20.out).mono ?_); exact cu_ HR1_7.out HB.out; exact HC1_7.out; exact cu_ HR1_8.out HB.out; exact HC1_8.out; rintro e w26 ⟨rfl, hb⟩; replace BK438 := bb_ BK438 hb; replace BK439 := bb_ BK439 hb; replace BK440 := bb_ BK440 hb; replace HB := hb_ HB hb; (try clear hb); have hcz27 := box9_ BK439.out) | (go_at_call 102; (with_reducible refine (impl_Layer_isScaled.calls ?_ ?_ ?_ ?_ A22.out).mono ?_); exact cu_ HR1_7.out HB.out; exact HC1_7.out; exact cu_ HR1_8.out HB.out; exact HC1_8.out; rintro e w28 ⟨rfl, hb⟩; replace BK438 := bb_ BK438 hb; replace BK439 := bb_ BK439 hb; replace BK440 := bb_ BK440 hb; replace HB := hb_ HB hb; (try clear hb)))
      go_meet
      case rel => exact ⟨_, (t444), (by first | rfl | (simp; done) | (simp [*]; done)), H', ⟨by first | omega | exact Nat.le_refl _⟩, ⟨bu_ BK438.out⟩, ⟨bu_ BK439.out⟩, ⟨bu_ BK440.out⟩, ⟨be_ HB.out⟩⟩
     ·
      replace c21 := Bool.eq_false_iff.mpr c21; subst c21; have H1 : (impl_OutShape.j0 k false a1_0 a1_1 a1_2 a1_3 a1_4 a1_5 a1_6 l1_7 l1_8) = some (r1, r2, r3, r4) := by rw [if_neg (show ¬ (false = true) by decide)] at H; exact H
      clear H; have H := H1; clear H1; have H' := Aside0.mk H; clear H; have hnb29 := NB439_438.out; have hnc29 := NB438_439.out; have hnb30 := NB439_440.out; have hnc30 := NB440_439.out; have hcz31 := box9_ BK439.out
      go_wp2_with (first | (go_at_call 101; (with_reducible refine (impl_Layer_hasNone.calls ?_ ?_ ?_ ?_ A20.out).mono ?_); exact cu_ HR1_7.out HB.out; exact HC1_7.out; exact cu_ HR1_8.out HB.out; exact HC1_8.out; rintro e w32 ⟨rfl, hb⟩; replace BK438 := bb_ BK438 hb; replace BK439 := bb_ BK439 hb; replace BK440 := bb_ BK440 hb; replace HB := hb_ HB hb; (try clear hb)))
      go_meet
      case rel => exact ⟨_, (false), (by first | rfl | (simp; done) | (simp [*]; done)), H', ⟨by first | omega | exact Nat.le_refl _⟩, ⟨bu_ BK438.out⟩, ⟨bu_ BK439.out⟩, ⟨bu_ BK440.out⟩, ⟨be_ HB.out⟩⟩
    ·
     rw [if_neg c19] at H; have c19b0 : decide (t442 ≤ 64) = false := decide_eq_false c19; clear c19; (first | rw [c19b0] | (simp only [i64_w, i32_w]; rw [c19b0]) | skip); have H' := Aside0.mk H; clear H
     go_wp2
     go_meet
     case rel => exact ⟨_, (false), (by first | rfl | (simp; done) | (simp [*]; done)), H', ⟨by first | omega | exact Nat.le_refl _⟩, ⟨bu_ BK438.out⟩, ⟨bu_ BK439.out⟩, ⟨bu_ BK440.out⟩, ⟨be_ HB.out⟩⟩
   case rest =>
    clear HC7; (try clear c1); (try clear c2); (try clear p2); (try clear c3); (try clear c4); (try clear c6); (try clear c6b0); (try clear c6b1); (try clear p6); (try clear c8); (try clear c9); (try clear c11); (try clear c12); (try clear c17); (try clear c19); (try clear c19b0); (try clear c21); (try clear c23); (try clear c24); (try clear c29); (try clear c30); (try clear hcz13); (try clear hcz15); (try clear hcz18); (try clear hcz25); (try clear hcz27); (try clear hcz31); obtain ⟨kq, x27_6, rfl, HA, HJ6, BK438, BK439, BK440, HB⟩ := hcut
    cases kq with
    | zero => exact absurd HA.out (by simp [impl_OutShape.j0])
    | succ kj6 =>
     have H := HA.out; clear HA; simp only [impl_OutShape.j0] at H
     by_cases c33 : x27_6 = true
     ·
      subst c33; rw [if_pos rfl] at H; simp only [Option.some.injEq, Prod.mk.injEq] at H; obtain ⟨rfl, rfl, rfl, rfl⟩ := H; have hnb34 := NB439_438.out; have hnc34 := NB438_439.out; have hnb35 := NB439_440.out; have hnc35 := NB440_439.out; have hcz36 := box9_ BK439.out; have hnb37 := NB440_438.out; have hnc37 := NB438_440.out; have hcz38 := box3_ BK440.out
      go_wp2
      refine bodyPost_ret (results_ct rfl _ _ gb440 47 #[.int .i64 1, .int .i64 1, .int .i64 a1_1] (0, 0) _ rfl (bq_ BK440.out) Tryz.underlying47 rfl (by kernel_rfl)) rfl ?_; exact rt_ HB.out
     ·
      replace c33 := Bool.eq_false_iff.mpr c33; subst c33; have H1 : (some (0, 0, 0, false)) = some (r1, r2, r3, r4) := by rw [if_neg (show ¬ (false = true) by decide)] at H; exact H
      clear H; have H := H1; clear H1; simp only [Option.some.injEq, Prod.mk.injEq] at H; obtain ⟨rfl, rfl, rfl, rfl⟩ := H; have hnb39 := NB440_438.out; have hnc39 := NB438_440.out; have hnb40 := NB440_439.out; have hnc40 := NB439_440.out; have hcz41 := box3_ BK440.out
      go_wp2
      refine bodyPost_ret (results_ct rfl _ _ gb440 47 #[.int .i64 0, .int .i64 0, .int .i64 0] (0, 0) _ rfl (bq_ BK440.out) Tryz.underlying47 rfl (by kernel_rfl)) rfl ?_; exact rt_ HB.out
  ·
   rw [if_neg c6] at H; have c6b0 : (a1_0 == 0) = false := beq_eq_false_iff_ne.mpr c6; have c6b1 : (a1_0 != 0) = true := bne_iff_ne.mpr c6
   by_cases c42 : a1_0 = 1
   ·
    rw [if_pos c42] at H; have c42b0 : (a1_0 == 1) = true := beq_iff_eq.mpr c42; have c42b1 : (a1_0 != 1) = false := bne_eq_false_iff_eq.mpr c42; clear c42; have HC43 := Aside0.mk H; clear H
    go_enter Tryz.func96, Tryz.ntmps96
    go_upto_region 9 with (first | ((with_reducible refine gate_dst (N := 2) rfl ?_); (try (refine gate_guard (by rfl) ?_; dsimp only)); refine bz_ 2 ?_; intro gb438 hg w44 hbox hb; obtain ⟨BK438, GW438, GE438, HB⟩ := nb_ hg hbox HB hb; clear hb hbox hg) | ((with_reducible refine gate_dst (N := 3) rfl ?_); (try (refine gate_guard (by rfl) ?_; dsimp only)); refine bz_ 3 ?_; intro gb439 hg w45 hbox hb; obtain ⟨BK439, GW439, GE439, HB⟩ := nb_ hg hbox HB hb; have NB438_439 := nx_ hg BK438; have NB439_438 := ny_ hg BK438; replace BK438 := bb_ BK438 hb; clear hb hbox hg) | ((with_reducible refine gate_dst (N := 4) rfl ?_); (try (refine gate_guard (by rfl) ?_; dsimp only)); refine bz_ 4 ?_; intro gb440 hg w46 hbox hb; obtain ⟨BK440, GW440, GE440, HB⟩ := nb_ hg hbox HB hb; have NB438_440 := nx_ hg BK438; have NB440_438 := ny_ hg BK438; replace BK438 := bb_ BK438 hb; have NB439_440 := nx_ hg BK439; have NB440_439 := ny_ hg BK439; replace BK439 := bb_ BK439 hb; clear hb hbox hg; have hnb47 := NB438_439.out; have hnc47 := NB439_438.out; have hnb48 := NB438_440.out; have hnc48 := NB440_438.out; have hcz49 := box3_ BK438.out) | ((with_reducible refine gc_ 81 ?_); refine gl_ (some 8) Tryz.func81 #[.agg #[.int .i64 a0_0, .int .i64 a0_1, .int .i64 a0_2]] ?_; (with_reducible refine (impl_ShapeOk.calls A3.out).mono ?_); rintro e w50 ⟨rfl, hb⟩; refine ⟨_, rfl, ?_⟩; replace BK438 := bb_ BK438 hb; replace BK439 := bb_ BK439 hb; replace BK440 := bb_ BK440 hb; replace HB := hb_ HB hb; (try clear hb); have hcz51 := box3_ BK438.out) | ((with_reducible refine gc_ 82 ?_); refine gl_ (some 12) Tryz.func82 #[.agg #[.int .i64 a0_0, .int .i64 a0_1, .int .i64 a0_2]] ?_; (with_reducible refine (impl_SizeOf.calls A5.out).mono ?_); rintro e w52 ⟨rfl, hb⟩; refine ⟨_, rfl, ?_⟩; replace BK438 := bb_ BK438 hb; replace BK439 := bb_ BK439 hb; replace BK440 := bb_ BK440 hb; replace HB := hb_ HB hb; (try clear hb); have hnb53 := NB439_440.out; have hnc53 := NB440_439.out; have hcz54 := box9_ BK439.out))
    (try simp only [Act.put, List.setIfInBounds_toArray, List.set_cons_zero, List.set_cons_succ])
    go_cut [53] (fun v53 wc => ∃ (kq : Nat) (x53_42 : Bool), v53 = .bool x53_42 ∧ Aside0 (impl_OutShape.j1 kq x53_42 a0_0 a0_1 a0_2 a1_0 a1_1 a1_2 a1_3 a1_4 a1_5 a1_6 l1_7 l1_8 = some (r1, r2, r3, r4)) ∧ Aside0 (kq ≤ k) ∧ Aside0 (wc.heap[gb438]? = some (.cells #[.int .i64 a0_0, .int .i64 a0_1, .int .i64 a0_2] 47 (0, 0))) ∧ Aside0 (wc.heap[gb439]? = some (.cells #[.int .i64 a1_0, .int .i64 a1_1, .int .i64 a1_2, .int .i64 a1_3, .int .i64 a1_4, .int .i64 a1_5, .int .i64 a1_6, (.slice A1_7 l1_7.length c1_7), (.slice A1_8 l1_8.length c1_8)] 133 (0, 0))) ∧ Aside0 (wc.heap[gb440]? = some (.cells #[.int .i64 0, .int .i64 0, .int .i64 0] 47 (0, 0))) ∧ Aside0 (Below w.heap.size w wc))
    case first =>
     have H := HC43.out; clear HC43; obtain ⟨t445, A55, H⟩ := bo_ H; (try dsimp only at H)
     by_cases c56 : t445 = true
     ·
      subst c56; rw [if_pos rfl] at H
      by_cases c57 : (l1_7.length : Int) ≤ 600
      ·
       rw [if_pos c57] at H; have c57b0 : decide ((l1_7.length : Int) ≤ 600) = true := decide_eq_true c57; have c57b1 : decide (l1_7.length ≤ 600) = true := decide_eq_true (by omega); clear c57; (first | rw [c57b0] | (simp only [i64_w, i32_w]; rw [c57b0]) | skip); obtain ⟨t446, A58, H⟩ := bo_ H; (try dsimp only at H); have H' := Aside0.mk H; clear H; have hnb59 := NB439_438.out; have hnc59 := NB438_439.out; have hnb60 := NB439_440.out; have hnc60 := NB440_439.out; have hcz61 := box9_ BK439.out; have hnb62 := NB438_440.out; have hnc62 := NB440_438.out; have hcz63 := box3_ BK438.out
       go_wp2_with (first | ((with_reducible refine gc_ 103 ?_); refine gl_ (some 35) Tryz.func103 #[.agg #[.int .i64 a1_0, .int .i64 a1_1, .int .i64 a1_2, .int .i64 a1_3, .int .i64 a1_4, .int .i64 a1_5, .int .i64 a1_6, .slice A1_7 l1_7.length c1_7, .slice A1_8 l1_8.length c1_8], .agg #[.int .i64 a0_0, .int .i64 a0_1, .int .i64 a0_2]] ?_; (with_reducible refine (impl_Layer_isWindow.calls ?_ ?_ ?_ ?_ A55.out).mono ?_); exact cu_ HR1_7.out HB.out; exact HC1_7.out; exact cu_ HR1_8.out HB.out; exact HC1_8.out; rintro e w64 ⟨rfl, hb⟩; refine ⟨_, rfl, ?_⟩; replace BK438 := bb_ BK438 hb; replace BK439 := bb_ BK439 hb; replace BK440 := bb_ BK440 hb; replace HB := hb_ HB hb; (try clear hb); have hcz65 := box9_ BK439.out; have hcz66 := box3_ BK438.out) | (go_at_call 102; (with_reducible refine (impl_Layer_isScaled.calls ?_ ?_ ?_ ?_ A58.out).mono ?_); exact cu_ HR1_7.out HB.out; exact HC1_7.out; exact cu_ HR1_8.out HB.out; exact HC1_8.out; rintro e w67 ⟨rfl, hb⟩; replace BK438 := bb_ BK438 hb; replace BK439 := bb_ BK439 hb; replace BK440 := bb_ BK440 hb; replace HB := hb_ HB hb; (try clear hb)))
       go_meet
       case rel => exact ⟨_, (t446), (by first | rfl | (simp; done) | (simp [*]; done)), H', ⟨by first | omega | exact Nat.le_refl _⟩, ⟨bu_ BK438.out⟩, ⟨bu_ BK439.out⟩, ⟨bu_ BK440.out⟩, ⟨be_ HB.out⟩⟩
      ·
       rw [if_neg c57] at H; have c57b0 : decide ((l1_7.length : Int) ≤ 600) = false := decide_eq_false c57; have c57b1 : decide (l1_7.length ≤ 600) = false := decide_eq_false (by omega); clear c57; (first | rw [c57b0] | (simp only [i64_w, i32_w]; rw [c57b0]) | skip); have H' := Aside0.mk H; clear H; have hnb68 := NB439_438.out; have hnc68 := NB438_439.out; have hnb69 := NB439_440.out; have hnc69 := NB440_439.out; have hcz70 := box9_ BK439.out; have hnb71 := NB438_440.out; have hnc71 := NB440_438.out; have hcz72 := box3_ BK438.out
       go_wp2_with (first | ((with_reducible refine gc_ 103 ?_); refine gl_ (some 35) Tryz.func103 #[.agg #[.int .i64 a1_0, .int .i64 a1_1, .int .i64 a1_2, .int .i64 a1_3, .int .i64 a1_4, .int .i64 a1_5, .int .i64 a1_6, .slice A1_7 l1_7.length c1_7, .slice A1_8 l1_8.length c1_8], .agg #[.int .i64 a0_0, .int .i64 a0_1, .int .i64 a0_2]] ?_; (with_reducible refine (impl_Layer_isWindow.calls ?_ ?_ ?_ ?_ A55.out).mono ?_); exact cu_ HR1_7.out HB.out; exact HC1_7.out; exact cu_ HR1_8.out HB.out; exact HC1_8.out; rintro e w73 ⟨rfl, hb⟩; refine ⟨_, rfl, ?_⟩; replace BK438 := bb_ BK438 hb; replace BK439 := bb_ BK439 hb; replace BK440 := bb_ BK440 hb; replace HB := hb_ HB hb; (try clear hb); have hcz74 := box9_ BK439.out))
       go_meet
       case rel => exact ⟨_, (false), (by first | rfl | (simp; done) | (simp [*]; done)), H', ⟨by first | omega | exact Nat.le_refl _⟩, ⟨bu_ BK438.out⟩, ⟨bu_ BK439.out⟩, ⟨bu_ BK440.out⟩, ⟨be_ HB.out⟩⟩
     ·
      replace c56 := Bool.eq_false_iff.mpr c56; subst c56; have H1 : (impl_OutShape.j1 k false a0_0 a0_1 a0_2 a1_0 a1_1 a1_2 a1_3 a1_4 a1_5 a1_6 l1_7 l1_8) = some (r1, r2, r3, r4) := by rw [if_neg (show ¬ (false = true) by decide)] at H; exact H
      clear H; have H := H1; clear H1; have H' := Aside0.mk H; clear H; have hnb75 := NB439_438.out; have hnc75 := NB438_439.out; have hnb76 := NB439_440.out; have hnc76 := NB440_439.out; have hcz77 := box9_ BK439.out; have hnb78 := NB438_440.out; have hnc78 := NB440_438.out; have hcz79 := box3_ BK438.out
      go_wp2_with (first | ((with_reducible refine gc_ 103 ?_); refine gl_ (some 35) Tryz.func103 #[.agg #[.int .i64 a1_0, .int .i64 a1_1, .int .i64 a1_2, .int .i64 a1_3, .int .i64 a1_4, .int .i64 a1_5, .int .i64 a1_6, .slice A1_7 l1_7.length c1_7, .slice A1_8 l1_8.length c1_8], .agg #[.int .i64 a0_0, .int .i64 a0_1, .int .i64 a0_2]] ?_; (with_reducible refine (impl_Layer_isWindow.calls ?_ ?_ ?_ ?_ A55.out).mono ?_); exact cu_ HR1_7.out HB.out; exact HC1_7.out; exact cu_ HR1_8.out HB.out; exact HC1_8.out; rintro e w80 ⟨rfl, hb⟩; refine ⟨_, rfl, ?_⟩; replace BK438 := bb_ BK438 hb; replace BK439 := bb_ BK439 hb; replace BK440 := bb_ BK440 hb; replace HB := hb_ HB hb; (try clear hb)))
      go_meet
      case rel => exact ⟨_, (false), (by first | rfl | (simp; done) | (simp [*]; done)), H', ⟨by first | omega | exact Nat.le_refl _⟩, ⟨bu_ BK438.out⟩, ⟨bu_ BK439.out⟩, ⟨bu_ BK440.out⟩, ⟨be_ HB.out⟩⟩
    case rest =>
     clear HC43; (try clear c1); (try clear c2); (try clear p2); (try clear c3); (try clear c4); (try clear c5); (try clear c6); (try clear c6b0); (try clear c6b1); (try clear p6); (try clear c7); (try clear c8); (try clear c9); (try clear c10); (try clear c11); (try clear c12); (try clear c17); (try clear c19); (try clear c19b0); (try clear c21); (try clear c23); (try clear c24); (try clear c29); (try clear c30); (try clear c33); (try clear c34); (try clear c35); (try clear c37); (try clear c39); (try clear c40); (try clear c42); (try clear c42b0); (try clear c42b1); (try clear c47); (try clear c48); (try clear c53); (try clear c56); (try clear c57); (try clear c57b0); (try clear c57b1); (try clear c59); (try clear c60); (try clear c62); (try clear p64); (try clear c68); (try clear c69); (try clear c71); (try clear c75); (try clear c76); (try clear c78); (try clear hcz13); (try clear hcz15); (try clear hcz18); (try clear hcz25); (try clear hcz27); (try clear hcz31); (try clear hcz36); (try clear hcz38); (try clear hcz41); (try clear hcz49); (try clear hcz51); (try clear hcz54); (try clear hcz61); (try clear hcz63); (try clear hcz65); (try clear hcz66); (try clear hcz70); (try clear hcz72); (try clear hcz74); (try clear hcz77); (try clear hcz79); (try clear p2); (try clear p6); obtain ⟨kq, x53_42, rfl, HA, HJ42, BK438, BK439, BK440, HB⟩ := hcut
     cases kq with
     | zero => exact absurd HA.out (by simp [impl_OutShape.j1])
     | succ kj42 =>
      have H := HA.out; clear HA; simp only [impl_OutShape.j1] at H
      by_cases c81 : x53_42 = true
      ·
       subst c81; rw [if_pos rfl] at H; obtain ⟨⟨t447, t448, t449⟩, A82, H⟩ := bo_ H; (try dsimp only at H); simp only [Option.some.injEq, Prod.mk.injEq] at H; obtain ⟨rfl, rfl, rfl, rfl⟩ := H; have hnb83 := NB439_438.out; have hnc83 := NB438_439.out; have hnb84 := NB439_440.out; have hnc84 := NB440_439.out; have hcz85 := box9_ BK439.out; have hnb86 := NB438_440.out; have hnc86 := NB440_438.out; have hcz87 := box3_ BK438.out
       go_wp2_with (first | ((with_reducible refine gc_ 104 ?_); refine gl_ (some 58) Tryz.func104 #[.agg #[.int .i64 a1_0, .int .i64 a1_1, .int .i64 a1_2, .int .i64 a1_3, .int .i64 a1_4, .int .i64 a1_5, .int .i64 a1_6, .slice A1_7 l1_7.length c1_7, .slice A1_8 l1_8.length c1_8], .agg #[.int .i64 a0_0, .int .i64 a0_1, .int .i64 a0_2], .int .i64 a1_1] ?_; (with_reducible refine (impl_Layer_windows.calls ?_ ?_ ?_ ?_ A82.out).mono ?_); exact cu_ HR1_7.out HB.out; exact HC1_7.out; exact cu_ HR1_8.out HB.out; exact HC1_8.out; rintro e w88 ⟨rfl, hb⟩; refine ⟨_, rfl, ?_⟩; replace BK438 := bb_ BK438 hb; replace BK439 := bb_ BK439 hb; replace BK440 := bb_ BK440 hb; replace HB := hb_ HB hb; (try clear hb); have hcz89 := box3_ BK440.out))
       refine bodyPost_ret (results_ct rfl _ _ gb440 47 #[.int .i64 t447, .int .i64 t448, .int .i64 t449] (0, 0) _ rfl (bq_ BK440.out) Tryz.underlying47 rfl (by kernel_rfl)) rfl ?_; exact rt_ HB.out
      ·
       replace c81 := Bool.eq_false_iff.mpr c81; subst c81; have H1 : (some (0, 0, 0, false)) = some (r1, r2, r3, r4) := by rw [if_neg (show ¬ (false = true) by decide)] at H; exact H
       clear H; have H := H1; clear H1; simp only [Option.some.injEq, Prod.mk.injEq] at H; obtain ⟨rfl, rfl, rfl, rfl⟩ := H; have hnb90 := NB440_438.out; have hnc90 := NB438_440.out; have hnb91 := NB440_439.out; have hnc91 := NB439_440.out; have hcz92 := box3_ BK440.out
       go_wp2
       refine bodyPost_ret (results_ct rfl _ _ gb440 47 #[.int .i64 0, .int .i64 0, .int .i64 0] (0, 0) _ rfl (bq_ BK440.out) Tryz.underlying47 rfl (by kernel_rfl)) rfl ?_; exact rt_ HB.out
   ·
    rw [if_neg c42] at H; have c42b0 : (a1_0 == 1) = false := beq_eq_false_iff_ne.mpr c42; have c42b1 : (a1_0 != 1) = true := bne_iff_ne.mpr c42; have HC93 := Aside0.mk H; clear H
    go_enter Tryz.func96, Tryz.ntmps96
    go_upto_if 59 with (first | ((with_reducible refine gate_dst (N := 2) rfl ?_); (try (refine gate_guard (by rfl) ?_; dsimp only)); refine bz_ 2 ?_; intro gb438 hg w94 hbox hb; obtain ⟨BK438, GW438, GE438, HB⟩ := nb_ hg hbox HB hb; clear hb hbox hg) | ((with_reducible refine gate_dst (N := 3) rfl ?_); (try (refine gate_guard (by rfl) ?_; dsimp only)); refine bz_ 3 ?_; intro gb439 hg w95 hbox hb; obtain ⟨BK439, GW439, GE439, HB⟩ := nb_ hg hbox HB hb; have NB438_439 := nx_ hg BK438; have NB439_438 := ny_ hg BK438; replace BK438 := bb_ BK438 hb; clear hb hbox hg) | ((with_reducible refine gate_dst (N := 4) rfl ?_); (try (refine gate_guard (by rfl) ?_; dsimp only)); refine bz_ 4 ?_; intro gb440 hg w96 hbox hb; obtain ⟨BK440, GW440, GE440, HB⟩ := nb_ hg hbox HB hb; have NB438_440 := nx_ hg BK438; have NB440_438 := ny_ hg BK438; replace BK438 := bb_ BK438 hb; have NB439_440 := nx_ hg BK439; have NB440_439 := ny_ hg BK439; replace BK439 := bb_ BK439 hb; clear hb hbox hg; have hnb97 := NB438_439.out; have hnc97 := NB439_438.out; have hnb98 := NB438_440.out; have hnc98 := NB440_438.out; have hcz99 := box3_ BK438.out) | ((with_reducible refine gc_ 81 ?_); refine gl_ (some 8) Tryz.func81 #[.agg #[.int .i64 a0_0, .int .i64 a0_1, .int .i64 a0_2]] ?_; (with_reducible refine (impl_ShapeOk.calls A3.out).mono ?_); rintro e w100 ⟨rfl, hb⟩; refine ⟨_, rfl, ?_⟩; replace BK438 := bb_ BK438 hb; replace BK439 := bb_ BK439 hb; replace BK440 := bb_ BK440 hb; replace HB := hb_ HB hb; (try clear hb); have hcz101 := box3_ BK438.out) | ((with_reducible refine gc_ 82 ?_); refine gl_ (some 12) Tryz.func82 #[.agg #[.int .i64 a0_0, .int .i64 a0_1, .int .i64 a0_2]] ?_; (with_reducible refine (impl_SizeOf.calls A5.out).mono ?_); rintro e w102 ⟨rfl, hb⟩; refine ⟨_, rfl, ?_⟩; replace BK438 := bb_ BK438 hb; replace BK439 := bb_ BK439 hb; replace BK440 := bb_ BK440 hb; replace HB := hb_ HB hb; (try clear hb); have hnb103 := NB439_440.out; have hnc103 := NB440_439.out; have hcz104 := box9_ BK439.out))
    (try simp only [Act.put, List.setIfInBounds_toArray, List.set_cons_zero, List.set_cons_succ])
    go_cut [59] (fun v59 wc => ∃ (kq : Nat) (x59_92 : Bool), v59 = .bool x59_92 ∧ Aside0 (impl_OutShape.j2 kq t442 a1_0 x59_92 a0_0 a0_1 a0_2 a1_0 a1_1 a1_2 a1_3 a1_4 a1_5 a1_6 l1_7 l1_8 = some (r1, r2, r3, r4)) ∧ Aside0 (kq ≤ k) ∧ Aside0 (wc.heap[gb438]? = some (.cells #[.int .i64 a0_0, .int .i64 a0_1, .int .i64 a0_2] 47 (0, 0))) ∧ Aside0 (wc.heap[gb439]? = some (.cells #[.int .i64 a1_0, .int .i64 a1_1, .int .i64 a1_2, .int .i64 a1_3, .int .i64 a1_4, .int .i64 a1_5, .int .i64 a1_6, (.slice A1_7 l1_7.length c1_7), (.slice A1_8 l1_8.length c1_8)] 133 (0, 0))) ∧ Aside0 (wc.heap[gb440]? = some (.cells #[.int .i64 0, .int .i64 0, .int .i64 0] 47 (0, 0))) ∧ Aside0 (Below w.heap.size w wc))
    case first =>
     have H := HC93.out; clear HC93
     by_cases c105 : a1_0 = 2
     ·
      rw [if_pos c105] at H; have c105b0 : (a1_0 == 2) = true := beq_iff_eq.mpr c105; have c105b1 : (a1_0 != 2) = false := bne_eq_false_iff_eq.mpr c105; clear c105; (first | rw [c105b0] | (simp only [i64_w, i32_w]; rw [c105b0]) | skip); have H' := Aside0.mk H; clear H
      go_wp2
      go_meet
      case rel => exact ⟨_, ((a1_0 == 2)), (by first | rfl | (simp; done) | (simp [*]; done)), H', ⟨by first | omega | exact Nat.le_refl _⟩, ⟨bu_ BK438.out⟩, ⟨bu_ BK439.out⟩, ⟨bu_ BK440.out⟩, ⟨be_ HB.out⟩⟩
     ·
      rw [if_neg c105] at H; have c105b0 : (a1_0 == 2) = false := beq_eq_false_iff_ne.mpr c105; have c105b1 : (a1_0 != 2) = true := bne_iff_ne.mpr c105; (first | rw [c105b0] | (simp only [i64_w, i32_w]; rw [c105b0]) | skip); have H' := Aside0.mk H; clear H
      go_wp2
      go_meet
      case rel => exact ⟨_, ((a1_0 == 3)), (by first | rfl | (simp; done) | (simp [*]; done)), H', ⟨by first | omega | exact Nat.le_refl _⟩, ⟨bu_ BK438.out⟩, ⟨bu_ BK439.out⟩, ⟨bu_ BK440.out⟩, ⟨be_ HB.out⟩⟩
    case rest =>
     clear HC93; (try clear c1); (try clear c2); (try clear p2); (try clear c3); (try clear c4); (try clear c5); (try clear c6); (try clear c6b0); (try clear c6b1); (try clear p6); (try clear c7); (try clear c8); (try clear c9); (try clear c10); (try clear c11); (try clear c12); (try clear c17); (try clear c19); (try clear c19b0); (try clear c21); (try clear c23); (try clear c24); (try clear c29); (try clear c30); (try clear c33); (try clear c34); (try clear c35); (try clear c37); (try clear c39); (try clear c40); (try clear c42); (try clear c42b0); (try clear c42b1); (try clear c47); (try clear c48); (try clear c53); (try clear c56); (try clear c57); (try clear c57b0); (try clear c57b1); (try clear c59); (try clear c60); (try clear c62); (try clear p64); (try clear c68); (try clear c69); (try clear c71); (try clear c75); (try clear c76); (try clear c78); (try clear c81); (try clear c82); (try clear c83); (try clear c84); (try clear c86); (try clear c90); (try clear c91); (try clear c96); (try clear c97); (try clear c98); (try clear c103); (try clear c104); (try clear c105); (try clear c105b0); (try clear c105b1); (try clear hcz101); (try clear hcz104); (try clear hcz13); (try clear hcz15); (try clear hcz18); (try clear hcz25); (try clear hcz27); (try clear hcz31); (try clear hcz36); (try clear hcz38); (try clear hcz41); (try clear hcz49); (try clear hcz51); (try clear hcz54); (try clear hcz61); (try clear hcz63); (try clear hcz65); (try clear hcz66); (try clear hcz70); (try clear hcz72); (try clear hcz74); (try clear hcz77); (try clear hcz79); (try clear hcz85); (try clear hcz87); (try clear hcz89); (try clear hcz92); (try clear hcz99); (try clear p2); (try clear p6); (try clear p64); obtain ⟨kq, x59_92, rfl, HA, HJ92, BK438, BK439, BK440, HB⟩ := hcut
     cases kq with
     | zero => exact absurd HA.out (by simp [impl_OutShape.j2])
     | succ kj92 =>
      have H := HA.out; clear HA; simp only [impl_OutShape.j2] at H
      by_cases c106 : x59_92 = true
      ·
       subst c106; rw [if_pos rfl] at H; have HC107 := Aside0.mk H; clear H
       go_upto_region 13 with (fail)
       go_cut [73] (fun v73 wc => ∃ (kq : Nat) (x73_106 : Bool), v73 = .bool x73_106 ∧ Aside0 (impl_OutShape.j3 kq x73_106 a0_0 a0_1 a0_2 a1_0 a1_1 a1_2 a1_3 a1_4 a1_5 a1_6 l1_7 l1_8 = some (r1, r2, r3, r4)) ∧ Aside0 (kq ≤ kj92) ∧ Aside0 (wc.heap[gb438]? = some (.cells #[.int .i64 a0_0, .int .i64 a0_1, .int .i64 a0_2] 47 (0, 0))) ∧ Aside0 (wc.heap[gb439]? = some (.cells #[.int .i64 a1_0, .int .i64 a1_1, .int .i64 a1_2, .int .i64 a1_3, .int .i64 a1_4, .int .i64 a1_5, .int .i64 a1_6, (.slice A1_7 l1_7.length c1_7), (.slice A1_8 l1_8.length c1_8)] 133 (0, 0))) ∧ Aside0 (wc.heap[gb440]? = some (.cells #[.int .i64 0, .int .i64 0, .int .i64 0] 47 (0, 0))) ∧ Aside0 (Below w.heap.size w wc))
       case first =>
        have H := HC107.out; clear HC107; obtain ⟨t450, A108, H⟩ := bo_ H; (try dsimp only at H)
        by_cases c109 : t450 = true
        ·
         subst c109; rw [if_pos rfl] at H; obtain ⟨t451, A110, H⟩ := bo_ H; (try dsimp only at H)
         by_cases c111 : t451 = true
         ·
          subst c111; rw [if_pos rfl] at H; have H' := Aside0.mk H; clear H; have hnb112 := NB439_438.out; have hnc112 := NB438_439.out; have hnb113 := NB439_440.out; have hnc113 := NB440_439.out; have hcz114 := box9_ BK439.out; have hnb115 := NB438_440.out; have hnc115 := NB440_438.out; have hcz116 := box3_ BK438.out
          go_wp2_with (first | ((with_reducible refine gc_ 103 ?_); refine gl_ (some 64) Tryz.func103 #[.agg #[.int .i64 a1_0, .int .i64 a1_1, .int .i64 a1_2, .int .i64 a1_3, .int .i64 a1_4, .int .i64 a1_5, .int .i64 a1_6, .slice A1_7 l1_7.length c1_7, .slice A1_8 l1_8.length c1_8], .agg #[.int .i64 a0_0, .int .i64 a0_1, .int .i64 a0_2]] ?_; (with_reducible refine (impl_Layer_isWindow.calls ?_ ?_ ?_ ?_ A108.out).mono ?_); exact cu_ HR1_7.out HB.out; exact HC1_7.out; exact cu_ HR1_8.out HB.out; exact HC1_8.out; rintro e w117 ⟨rfl, hb⟩; refine ⟨_, rfl, ?_⟩; replace BK438 := bb_ BK438 hb; replace BK439 := bb_ BK439 hb; replace BK440 := bb_ BK440 hb; replace HB := hb_ HB hb; (try clear hb); have hcz118 := box9_ BK439.out) | (go_at_call 105; (with_reducible refine (impl_Layer_isBare.calls ?_ ?_ ?_ ?_ A110.out).mono ?_); exact cu_ HR1_7.out HB.out; exact HC1_7.out; exact cu_ HR1_8.out HB.out; exact HC1_8.out; rintro e w119 ⟨rfl, hb⟩; replace BK438 := bb_ BK438 hb; replace BK439 := bb_ BK439 hb; replace BK440 := bb_ BK440 hb; replace HB := hb_ HB hb; (try clear hb); have hcz120 := box9_ BK439.out))
          go_meet
          case rel => exact ⟨_, ((a1_6 == 0)), (by first | rfl | (simp; done) | (simp [*]; done)), H', ⟨by have := HJ92.out; first | omega | exact Nat.le_refl _⟩, ⟨bu_ BK438.out⟩, ⟨bu_ BK439.out⟩, ⟨bu_ BK440.out⟩, ⟨be_ HB.out⟩⟩
         ·
          replace c111 := Bool.eq_false_iff.mpr c111; subst c111; have H1 : (impl_OutShape.j3 kj92 false a0_0 a0_1 a0_2 a1_0 a1_1 a1_2 a1_3 a1_4 a1_5 a1_6 l1_7 l1_8) = some (r1, r2, r3, r4) := by rw [if_neg (show ¬ (false = true) by decide)] at H; exact H
          clear H; have H := H1; clear H1; have H' := Aside0.mk H; clear H; have hnb121 := NB439_438.out; have hnc121 := NB438_439.out; have hnb122 := NB439_440.out; have hnc122 := NB440_439.out; have hcz123 := box9_ BK439.out; have hnb124 := NB438_440.out; have hnc124 := NB440_438.out; have hcz125 := box3_ BK438.out
          go_wp2_with (first | ((with_reducible refine gc_ 103 ?_); refine gl_ (some 64) Tryz.func103 #[.agg #[.int .i64 a1_0, .int .i64 a1_1, .int .i64 a1_2, .int .i64 a1_3, .int .i64 a1_4, .int .i64 a1_5, .int .i64 a1_6, .slice A1_7 l1_7.length c1_7, .slice A1_8 l1_8.length c1_8], .agg #[.int .i64 a0_0, .int .i64 a0_1, .int .i64 a0_2]] ?_; (with_reducible refine (impl_Layer_isWindow.calls ?_ ?_ ?_ ?_ A108.out).mono ?_); exact cu_ HR1_7.out HB.out; exact HC1_7.out; exact cu_ HR1_8.out HB.out; exact HC1_8.out; rintro e w126 ⟨rfl, hb⟩; refine ⟨_, rfl, ?_⟩; replace BK438 := bb_ BK438 hb; replace BK439 := bb_ BK439 hb; replace BK440 := bb_ BK440 hb; replace HB := hb_ HB hb; (try clear hb); have hcz127 := box9_ BK439.out) | (go_at_call 105; (with_reducible refine (impl_Layer_isBare.calls ?_ ?_ ?_ ?_ A110.out).mono ?_); exact cu_ HR1_7.out HB.out; exact HC1_7.out; exact cu_ HR1_8.out HB.out; exact HC1_8.out; rintro e w128 ⟨rfl, hb⟩; replace BK438 := bb_ BK438 hb; replace BK439 := bb_ BK439 hb; replace BK440 := bb_ BK440 hb; replace HB := hb_ HB hb; (try clear hb)))
          go_meet
          case rel => exact ⟨_, (false), (by first | rfl | (simp; done) | (simp [*]; done)), H', ⟨by have := HJ92.out; first | omega | exact Nat.le_refl _⟩, ⟨bu_ BK438.out⟩, ⟨bu_ BK439.out⟩, ⟨bu_ BK440.out⟩, ⟨be_ HB.out⟩⟩
        ·
         replace c109 := Bool.eq_false_iff.mpr c109; subst c109; have H1 : (impl_OutShape.j3 kj92 false a0_0 a0_1 a0_2 a1_0 a1_1 a1_2 a1_3 a1_4 a1_5 a1_6 l1_7 l1_8) = some (r1, r2, r3, r4) := by rw [if_neg (show ¬ (false = true) by decide)] at H; exact H
         clear H; have H := H1; clear H1; have H' := Aside0.mk H; clear H; have hnb129 := NB439_438.out; have hnc129 := NB438_439.out; have hnb130 := NB439_440.out; have hnc130 := NB440_439.out; have hcz131 := box9_ BK439.out; have hnb132 := NB438_440.out; have hnc132 := NB440_438.out; have hcz133 := box3_ BK438.out
         go_wp2_with (first | ((with_reducible refine gc_ 103 ?_); refine gl_ (some 64) Tryz.func103 #[.agg #[.int .i64 a1_0, .int .i64 a1_1, .int .i64 a1_2, .int .i64 a1_3, .int .i64 a1_4, .int .i64 a1_5, .int .i64 a1_6, .slice A1_7 l1_7.length c1_7, .slice A1_8 l1_8.length c1_8], .agg #[.int .i64 a0_0, .int .i64 a0_1, .int .i64 a0_2]] ?_; (with_reducible refine (impl_Layer_isWindow.calls ?_ ?_ ?_ ?_ A108.out).mono ?_); exact cu_ HR1_7.out HB.out; exact HC1_7.out; exact cu_ HR1_8.out HB.out; exact HC1_8.out; rintro e w134 ⟨rfl, hb⟩; refine ⟨_, rfl, ?_⟩; replace BK438 := bb_ BK438 hb; replace BK439 := bb_ BK439 hb; replace BK440 := bb_ BK440 hb; replace HB := hb_ HB hb; (try clear hb)))
         go_meet
         case rel => exact ⟨_, (false), (by first | rfl | (simp; done) | (simp [*]; done)), H', ⟨by have := HJ92.out; first | omega | exact Nat.le_refl _⟩, ⟨bu_ BK438.out⟩, ⟨bu_ BK439.out⟩, ⟨bu_ BK440.out⟩, ⟨be_ HB.out⟩⟩
       case rest =>
        clear HC107; (try clear c1); (try clear c2); (try clear p2); (try clear c3); (try clear c4); (try clear c5); (try clear c6); (try clear c6b0); (try clear c6b1); (try clear p6); (try clear c7); (try clear c8); (try clear c9); (try clear c10); (try clear c11); (try clear c12); (try clear c13); (try clear c17); (try clear c19); (try clear c19b0); (try clear c21); (try clear c23); (try clear c24); (try clear c29); (try clear c30); (try clear c33); (try clear c34); (try clear c35); (try clear c37); (try clear c39); (try clear c40); (try clear c42); (try clear c42b0); (try clear c42b1); (try clear c47); (try clear c48); (try clear c53); (try clear c56); (try clear c57); (try clear c57b0); (try clear c57b1); (try clear c59); (try clear c60); (try clear c62); (try clear p64); (try clear c68); (try clear c69); (try clear c71); (try clear c75); (try clear c76); (try clear c78); (try clear c81); (try clear c82); (try clear c83); (try clear c84); (try clear c86); (try clear c90); (try clear c91); (try clear c96); (try clear c97); (try clear c98); (try clear c103); (try clear c104); (try clear c105); (try clear c105b0); (try clear c105b1); (try clear c106); (try clear c109); (try clear c111); (try clear c112); (try clear c113); (try clear c115); (try clear c121); (try clear c122); (try clear c124); (try clear c129); (try clear c130); (try clear c132); (try clear hcz101); (try clear hcz104); (try clear hcz114); (try clear hcz116); (try clear hcz118); (try clear hcz120); (try clear hcz123); (try clear hcz125); (try clear hcz127); (try clear hcz131); (try clear hcz133); (try clear hcz13); (try clear hcz15); (try clear hcz18); (try clear hcz25); (try clear hcz27); (try clear hcz31); (try clear hcz36); (try clear hcz38); (try clear hcz41); (try clear hcz49); (try clear hcz51); (try clear hcz54); (try clear hcz61); (try clear hcz63); (try clear hcz65); (try clear hcz66); (try clear hcz70); (try clear hcz72); (try clear hcz74); (try clear hcz77); (try clear hcz79); (try clear hcz85); (try clear hcz87); (try clear hcz89); (try clear hcz92); (try clear hcz99); (try clear p2); (try clear p6); (try clear p64); obtain ⟨kq, x73_106, rfl, HA, HJ106, BK438, BK439, BK440, HB⟩ := hcut
        cases kq with
        | zero => exact absurd HA.out (by simp [impl_OutShape.j3])
        | succ kj106 =>
         have H := HA.out; clear HA; simp only [impl_OutShape.j3] at H
         by_cases c135 : x73_106 = true
         ·
          subst c135; rw [if_pos rfl] at H; obtain ⟨⟨t452, t453, t454⟩, A136, H⟩ := bo_ H; (try dsimp only at H); simp only [Option.some.injEq, Prod.mk.injEq] at H; obtain ⟨rfl, rfl, rfl, rfl⟩ := H; have hnb137 := NB439_438.out; have hnc137 := NB438_439.out; have hnb138 := NB439_440.out; have hnc138 := NB440_439.out; have hcz139 := box9_ BK439.out; have hnb140 := NB438_440.out; have hnc140 := NB440_438.out; have hcz141 := box3_ BK438.out
          go_wp2_with (first | ((with_reducible refine gc_ 104 ?_); refine gl_ (some 78) Tryz.func104 #[.agg #[.int .i64 a1_0, .int .i64 a1_1, .int .i64 a1_2, .int .i64 a1_3, .int .i64 a1_4, .int .i64 a1_5, .int .i64 a1_6, .slice A1_7 l1_7.length c1_7, .slice A1_8 l1_8.length c1_8], .agg #[.int .i64 a0_0, .int .i64 a0_1, .int .i64 a0_2], .int .i64 a0_2] ?_; (with_reducible refine (impl_Layer_windows.calls ?_ ?_ ?_ ?_ A136.out).mono ?_); exact cu_ HR1_7.out HB.out; exact HC1_7.out; exact cu_ HR1_8.out HB.out; exact HC1_8.out; rintro e w142 ⟨rfl, hb⟩; refine ⟨_, rfl, ?_⟩; replace BK438 := bb_ BK438 hb; replace BK439 := bb_ BK439 hb; replace BK440 := bb_ BK440 hb; replace HB := hb_ HB hb; (try clear hb); have hcz143 := box3_ BK440.out))
          refine bodyPost_ret (results_ct rfl _ _ gb440 47 #[.int .i64 t452, .int .i64 t453, .int .i64 t454] (0, 0) _ rfl (bq_ BK440.out) Tryz.underlying47 rfl (by kernel_rfl)) rfl ?_; exact rt_ HB.out
         ·
          replace c135 := Bool.eq_false_iff.mpr c135; subst c135; have H1 : (some (0, 0, 0, false)) = some (r1, r2, r3, r4) := by rw [if_neg (show ¬ (false = true) by decide)] at H; exact H
          clear H; have H := H1; clear H1; simp only [Option.some.injEq, Prod.mk.injEq] at H; obtain ⟨rfl, rfl, rfl, rfl⟩ := H; have hnb144 := NB440_438.out; have hnc144 := NB438_440.out; have hnb145 := NB440_439.out; have hnc145 := NB439_440.out; have hcz146 := box3_ BK440.out
          go_wp2
          refine bodyPost_ret (results_ct rfl _ _ gb440 47 #[.int .i64 0, .int .i64 0, .int .i64 0] (0, 0) _ rfl (bq_ BK440.out) Tryz.underlying47 rfl (by kernel_rfl)) rfl ?_; exact rt_ HB.out
      ·
       replace c106 := Bool.eq_false_iff.mpr c106; subst c106; have H1 : (if a1_0 = 4 then ((impl_Layer_hasNone.f a1_0 a1_1 a1_2 a1_3 a1_4 a1_5 a1_6 l1_7 l1_8).bind fun t455 => (if t455 = true then ((impl_Layer_isBare.f a1_0 a1_1 a1_2 a1_3 a1_4 a1_5 a1_6 l1_7 l1_8).bind fun t456 => (if t456 = true then ((impl_in.f a1_6 (-128) 127).bind fun t457 => (impl_OutShape.j4 kj92 t457 a0_0 a0_1 a0_2)) else (impl_OutShape.j4 kj92 false a0_0 a0_1 a0_2))) else (impl_OutShape.j4 kj92 false a0_0 a0_1 a0_2))) else (if a1_0 = 5 then ((impl_Layer_hasNone.f a1_0 a1_1 a1_2 a1_3 a1_4 a1_5 a1_6 l1_7 l1_8).bind fun t458 => (if t458 = true then ((impl_Layer_isBare.f a1_0 a1_1 a1_2 a1_3 a1_4 a1_5 a1_6 l1_7 l1_8).bind fun t459 => (if t459 = true then (if a1_6 = 0 then (impl_OutShape.j5 kj92 t442 (decide (t442 ≤ 8))) else (impl_OutShape.j5 kj92 t442 false)) else (impl_OutShape.j5 kj92 t442 false))) else (impl_OutShape.j5 kj92 t442 false))) else (some (0, 0, 0, false)))) = some (r1, r2, r3, r4) := by rw [if_neg (show ¬ (false = true) by decide)] at H; exact H
       clear H; have H := H1; clear H1
       by_cases c147 : a1_0 = 4
       ·
        rw [if_pos c147] at H; have c147b0 : (a1_0 == 4) = true := beq_iff_eq.mpr c147; have c147b1 : (a1_0 != 4) = false := bne_eq_false_iff_eq.mpr c147; clear c147; have HC148 := Aside0.mk H; clear H
        go_upto_region 16 with (fail)
        go_cut [91] (fun v91 wc => ∃ (kq : Nat) (x91_147 : Bool), v91 = .bool x91_147 ∧ Aside0 (impl_OutShape.j4 kq x91_147 a0_0 a0_1 a0_2 = some (r1, r2, r3, r4)) ∧ Aside0 (kq ≤ kj92) ∧ Aside0 (wc.heap[gb438]? = some (.cells #[.int .i64 a0_0, .int .i64 a0_1, .int .i64 a0_2] 47 (0, 0))) ∧ Aside0 (wc.heap[gb439]? = some (.cells #[.int .i64 a1_0, .int .i64 a1_1, .int .i64 a1_2, .int .i64 a1_3, .int .i64 a1_4, .int .i64 a1_5, .int .i64 a1_6, (.slice A1_7 l1_7.length c1_7), (.slice A1_8 l1_8.length c1_8)] 133 (0, 0))) ∧ Aside0 (wc.heap[gb440]? = some (.cells #[.int .i64 0, .int .i64 0, .int .i64 0] 47 (0, 0))) ∧ Aside0 (Below w.heap.size w wc))
        case first =>
         have H := HC148.out; clear HC148; obtain ⟨t455, A149, H⟩ := bo_ H; (try dsimp only at H)
         by_cases c150 : t455 = true
         ·
          subst c150; rw [if_pos rfl] at H; obtain ⟨t456, A151, H⟩ := bo_ H; (try dsimp only at H)
          by_cases c152 : t456 = true
          ·
           subst c152; rw [if_pos rfl] at H; obtain ⟨t457, A153, H⟩ := bo_ H; (try dsimp only at H); have H' := Aside0.mk H; clear H; have hnb154 := NB439_438.out; have hnc154 := NB438_439.out; have hnb155 := NB439_440.out; have hnc155 := NB440_439.out; have hcz156 := box9_ BK439.out
           go_wp2_with (first | ((with_reducible refine gc_ 101 ?_); refine gl_ (some 82) Tryz.func101 #[.agg #[.int .i64 a1_0, .int .i64 a1_1, .int .i64 a1_2, .int .i64 a1_3, .int .i64 a1_4, .int .i64 a1_5, .int .i64 a1_6, .slice A1_7 l1_7.length c1_7, .slice A1_8 l1_8.length c1_8]] ?_; (with_reducible refine (impl_Layer_hasNone.calls ?_ ?_ ?_ ?_ A149.out).mono ?_); exact cu_ HR1_7.out HB.out; exact HC1_7.out; exact cu_ HR1_8.out HB.out; exact HC1_8.out; rintro e w157 ⟨rfl, hb⟩; refine ⟨_, rfl, ?_⟩; replace BK438 := bb_ BK438 hb; replace BK439 := bb_ BK439 hb; replace BK440 := bb_ BK440 hb; replace HB := hb_ HB hb; (try clear hb); have hcz158 := box9_ BK439.out) | (go_at_call 105; (with_reducible refine (impl_Layer_isBare.calls ?_ ?_ ?_ ?_ A151.out).mono ?_); exact cu_ HR1_7.out HB.out; exact HC1_7.out; exact cu_ HR1_8.out HB.out; exact HC1_8.out; rintro e w159 ⟨rfl, hb⟩; replace BK438 := bb_ BK438 hb; replace BK439 := bb_ BK439 hb; replace BK440 := bb_ BK440 hb; replace HB := hb_ HB hb; (try clear hb); have hcz160 := box9_ BK439.out) | (go_at_call 54; (with_reducible refine (impl_in.calls A153.out).mono ?_); rintro e w' ⟨rfl, ⟨nd, rfl⟩⟩))
           go_meet
           case rel => exact ⟨_, (t457), (by first | rfl | (simp; done) | (simp [*]; done)), H', ⟨by have := HJ92.out; first | omega | exact Nat.le_refl _⟩, ⟨bu_ BK438.out⟩, ⟨bu_ BK439.out⟩, ⟨bu_ BK440.out⟩, ⟨be_ HB.out⟩⟩
          ·
           replace c152 := Bool.eq_false_iff.mpr c152; subst c152; have H1 : (impl_OutShape.j4 kj92 false a0_0 a0_1 a0_2) = some (r1, r2, r3, r4) := by rw [if_neg (show ¬ (false = true) by decide)] at H; exact H
           clear H; have H := H1; clear H1; have H' := Aside0.mk H; clear H; have hnb161 := NB439_438.out; have hnc161 := NB438_439.out; have hnb162 := NB439_440.out; have hnc162 := NB440_439.out; have hcz163 := box9_ BK439.out
           go_wp2_with (first | ((with_reducible refine gc_ 101 ?_); refine gl_ (some 82) Tryz.func101 #[.agg #[.int .i64 a1_0, .int .i64 a1_1, .int .i64 a1_2, .int .i64 a1_3, .int .i64 a1_4, .int .i64 a1_5, .int .i64 a1_6, .slice A1_7 l1_7.length c1_7, .slice A1_8 l1_8.length c1_8]] ?_; (with_reducible refine (impl_Layer_hasNone.calls ?_ ?_ ?_ ?_ A149.out).mono ?_); exact cu_ HR1_7.out HB.out; exact HC1_7.out; exact cu_ HR1_8.out HB.out; exact HC1_8.out; rintro e w164 ⟨rfl, hb⟩; refine ⟨_, rfl, ?_⟩; replace BK438 := bb_ BK438 hb; replace BK439 := bb_ BK439 hb; replace BK440 := bb_ BK440 hb; replace HB := hb_ HB hb; (try clear hb); have hcz165 := box9_ BK439.out) | (go_at_call 105; (with_reducible refine (impl_Layer_isBare.calls ?_ ?_ ?_ ?_ A151.out).mono ?_); exact cu_ HR1_7.out HB.out; exact HC1_7.out; exact cu_ HR1_8.out HB.out; exact HC1_8.out; rintro e w166 ⟨rfl, hb⟩; replace BK438 := bb_ BK438 hb; replace BK439 := bb_ BK439 hb; replace BK440 := bb_ BK440 hb; replace HB := hb_ HB hb; (try clear hb)))
           go_meet
           case rel => exact ⟨_, (false), (by first | rfl | (simp; done) | (simp [*]; done)), H', ⟨by have := HJ92.out; first | omega | exact Nat.le_refl _⟩, ⟨bu_ BK438.out⟩, ⟨bu_ BK439.out⟩, ⟨bu_ BK440.out⟩, ⟨be_ HB.out⟩⟩
         ·
          replace c150 := Bool.eq_false_iff.mpr c150; subst c150; have H1 : (impl_OutShape.j4 kj92 false a0_0 a0_1 a0_2) = some (r1, r2, r3, r4) := by rw [if_neg (show ¬ (false = true) by decide)] at H; exact H
          clear H; have H := H1; clear H1; have H' := Aside0.mk H; clear H; have hnb167 := NB439_438.out; have hnc167 := NB438_439.out; have hnb168 := NB439_440.out; have hnc168 := NB440_439.out; have hcz169 := box9_ BK439.out
          go_wp2_with (first | ((with_reducible refine gc_ 101 ?_); refine gl_ (some 82) Tryz.func101 #[.agg #[.int .i64 a1_0, .int .i64 a1_1, .int .i64 a1_2, .int .i64 a1_3, .int .i64 a1_4, .int .i64 a1_5, .int .i64 a1_6, .slice A1_7 l1_7.length c1_7, .slice A1_8 l1_8.length c1_8]] ?_; (with_reducible refine (impl_Layer_hasNone.calls ?_ ?_ ?_ ?_ A149.out).mono ?_); exact cu_ HR1_7.out HB.out; exact HC1_7.out; exact cu_ HR1_8.out HB.out; exact HC1_8.out; rintro e w170 ⟨rfl, hb⟩; refine ⟨_, rfl, ?_⟩; replace BK438 := bb_ BK438 hb; replace BK439 := bb_ BK439 hb; replace BK440 := bb_ BK440 hb; replace HB := hb_ HB hb; (try clear hb)))
          go_meet
          case rel => exact ⟨_, (false), (by first | rfl | (simp; done) | (simp [*]; done)), H', ⟨by have := HJ92.out; first | omega | exact Nat.le_refl _⟩, ⟨bu_ BK438.out⟩, ⟨bu_ BK439.out⟩, ⟨bu_ BK440.out⟩, ⟨be_ HB.out⟩⟩
        case rest =>
         clear HC148; (try clear c1); (try clear p2); (try clear p6); (try clear c10); (try clear c13); (try clear c14); (try clear c15); (try clear c16); (try clear p64); (try clear c101); (try clear c104); (try clear c106); (try clear c135); (try clear c137); (try clear c138); (try clear c140); (try clear c144); (try clear c145); (try clear c147); (try clear c147b0); (try clear c147b1); (try clear c150); (try clear c152); (try clear c154); (try clear c155); (try clear c161); (try clear c162); (try clear c167); (try clear c168); (try clear hcz131); (try clear hcz133); (try clear hcz139); (try clear hcz13); (try clear hcz141); (try clear hcz143); (try clear hcz146); (try clear hcz156); (try clear hcz158); (try clear hcz15); (try clear hcz160); (try clear hcz163); (try clear hcz165); (try clear hcz169); (try clear hcz18); (try clear hcz25); (try clear hcz27); (try clear hcz31); (try clear hcz36); (try clear hcz38); (try clear hcz41); (try clear hcz49); (try clear hcz51); (try clear hcz54); (try clear hcz61); (try clear hcz63); (try clear hcz65); (try clear hcz66); (try clear hcz70); (try clear hcz72); (try clear hcz74); (try clear hcz77); (try clear hcz79); (try clear hcz85); (try clear hcz87); (try clear hcz89); (try clear hcz92); (try clear hcz99); (try clear p2); (try clear p6); (try clear p64); obtain ⟨kq, x91_147, rfl, HA, HJ147, BK438, BK439, BK440, HB⟩ := hcut
         cases kq with
         | zero => exact absurd HA.out (by simp [impl_OutShape.j4])
         | succ kj147 =>
          have H := HA.out; clear HA; simp only [impl_OutShape.j4] at H
          by_cases c171 : x91_147 = true
          ·
           subst c171; rw [if_pos rfl] at H; simp only [Option.some.injEq, Prod.mk.injEq] at H; obtain ⟨rfl, rfl, rfl, rfl⟩ := H; have hnb172 := NB438_439.out; have hnc172 := NB439_438.out; have hnb173 := NB438_440.out; have hnc173 := NB440_438.out; have hcz174 := box3_ BK438.out; have hnb175 := NB440_439.out; have hnc175 := NB439_440.out; have hcz176 := box3_ BK440.out
           go_wp2
           refine bodyPost_ret (results_ct rfl _ _ gb440 47 #[.int .i64 a0_0, .int .i64 a0_1, .int .i64 a0_2] (0, 0) _ rfl (bq_ BK440.out) Tryz.underlying47 rfl (by kernel_rfl)) rfl ?_; exact rt_ HB.out
          ·
           replace c171 := Bool.eq_false_iff.mpr c171; subst c171; have H1 : (some (0, 0, 0, false)) = some (r1, r2, r3, r4) := by rw [if_neg (show ¬ (false = true) by decide)] at H; exact H
           clear H; have H := H1; clear H1; simp only [Option.some.injEq, Prod.mk.injEq] at H; obtain ⟨rfl, rfl, rfl, rfl⟩ := H; have hnb177 := NB440_438.out; have hnc177 := NB438_440.out; have hnb178 := NB440_439.out; have hnc178 := NB439_440.out; have hcz179 := box3_ BK440.out
           go_wp2
           refine bodyPost_ret (results_ct rfl _ _ gb440 47 #[.int .i64 0, .int .i64 0, .int .i64 0] (0, 0) _ rfl (bq_ BK440.out) Tryz.underlying47 rfl (by kernel_rfl)) rfl ?_; exact rt_ HB.out
       ·
        rw [if_neg c147] at H; have c147b0 : (a1_0 == 4) = false := beq_eq_false_iff_ne.mpr c147; have c147b1 : (a1_0 != 4) = true := bne_iff_ne.mpr c147
        by_cases c180 : a1_0 = 5
        ·
         rw [if_pos c180] at H; have c180b0 : (a1_0 == 5) = true := beq_iff_eq.mpr c180; have c180b1 : (a1_0 != 5) = false := bne_eq_false_iff_eq.mpr c180; clear c180; have HC181 := Aside0.mk H; clear H
         go_upto_region 19 with (fail)
         go_cut [109] (fun v109 wc => ∃ (kq : Nat) (x109_180 : Bool), v109 = .bool x109_180 ∧ Aside0 (impl_OutShape.j5 kq t442 x109_180 = some (r1, r2, r3, r4)) ∧ Aside0 (kq ≤ kj92) ∧ Aside0 (wc.heap[gb438]? = some (.cells #[.int .i64 a0_0, .int .i64 a0_1, .int .i64 a0_2] 47 (0, 0))) ∧ Aside0 (wc.heap[gb439]? = some (.cells #[.int .i64 a1_0, .int .i64 a1_1, .int .i64 a1_2, .int .i64 a1_3, .int .i64 a1_4, .int .i64 a1_5, .int .i64 a1_6, (.slice A1_7 l1_7.length c1_7), (.slice A1_8 l1_8.length c1_8)] 133 (0, 0))) ∧ Aside0 (wc.heap[gb440]? = some (.cells #[.int .i64 0, .int .i64 0, .int .i64 0] 47 (0, 0))) ∧ Aside0 (Below w.heap.size w wc))
         case first =>
          have H := HC181.out; clear HC181; obtain ⟨t458, A182, H⟩ := bo_ H; (try dsimp only at H)
          by_cases c183 : t458 = true
          ·
           subst c183; rw [if_pos rfl] at H; obtain ⟨t459, A184, H⟩ := bo_ H; (try dsimp only at H)
           by_cases c185 : t459 = true
           ·
            subst c185; rw [if_pos rfl] at H
            by_cases c186 : a1_6 = 0
            ·
             rw [if_pos c186] at H; have c186b0 : (a1_6 == 0) = true := beq_iff_eq.mpr c186; have c186b1 : (a1_6 != 0) = false := bne_eq_false_iff_eq.mpr c186; clear c186; (first | rw [c186b0] | (simp only [i64_w, i32_w]; rw [c186b0]) | skip); have H' := Aside0.mk H; clear H; have hnb187 := NB439_438.out; have hnc187 := NB438_439.out; have hnb188 := NB439_440.out; have hnc188 := NB440_439.out; have hcz189 := box9_ BK439.out
             go_wp2_with (first | ((with_reducible refine gc_ 101 ?_); refine gl_ (some 96) Tryz.func101 #[.agg #[.int .i64 a1_0, .int .i64 a1_1, .int .i64 a1_2, .int .i64 a1_3, .int .i64 a1_4, .int .i64 a1_5, .int .i64 a1_6, .slice A1_7 l1_7.length c1_7, .slice A1_8 l1_8.length c1_8]] ?_; (with_reducible refine (impl_Layer_hasNone.calls ?_ ?_ ?_ ?_ A182.out).mono ?_); exact cu_ HR1_7.out HB.out; exact HC1_7.out; exact cu_ HR1_8.out HB.out; exact HC1_8.out; rintro e w190 ⟨rfl, hb⟩; refine ⟨_, rfl, ?_⟩; replace BK438 := bb_ BK438 hb; replace BK439 := bb_ BK439 hb; replace BK440 := bb_ BK440 hb; replace HB := hb_ HB hb; (try clear hb); have hcz191 := box9_ BK439.out) | (go_at_call 105; (with_reducible refine (impl_Layer_isBare.calls ?_ ?_ ?_ ?_ A184.out).mono ?_); exact cu_ HR1_7.out HB.out; exact HC1_7.out; exact cu_ HR1_8.out HB.out; exact HC1_8.out; rintro e w192 ⟨rfl, hb⟩; replace BK438 := bb_ BK438 hb; replace BK439 := bb_ BK439 hb; replace BK440 := bb_ BK440 hb; replace HB := hb_ HB hb; (try clear hb); have hcz193 := box9_ BK439.out))
             go_meet
             case rel => exact ⟨_, (decide (t442 ≤ 8)), (by first | rfl | (simp; done) | (simp [*]; done)), H', ⟨by have := HJ92.out; first | omega | exact Nat.le_refl _⟩, ⟨bu_ BK438.out⟩, ⟨bu_ BK439.out⟩, ⟨bu_ BK440.out⟩, ⟨be_ HB.out⟩⟩
            ·
             rw [if_neg c186] at H; have c186b0 : (a1_6 == 0) = false := beq_eq_false_iff_ne.mpr c186; have c186b1 : (a1_6 != 0) = true := bne_iff_ne.mpr c186; (first | rw [c186b0] | (simp only [i64_w, i32_w]; rw [c186b0]) | skip); have H' := Aside0.mk H; clear H; have hnb194 := NB439_438.out; have hnc194 := NB438_439.out; have hnb195 := NB439_440.out; have hnc195 := NB440_439.out; have hcz196 := box9_ BK439.out
             go_wp2_with (first | ((with_reducible refine gc_ 101 ?_); refine gl_ (some 96) Tryz.func101 #[.agg #[.int .i64 a1_0, .int .i64 a1_1, .int .i64 a1_2, .int .i64 a1_3, .int .i64 a1_4, .int .i64 a1_5, .int .i64 a1_6, .slice A1_7 l1_7.length c1_7, .slice A1_8 l1_8.length c1_8]] ?_; (with_reducible refine (impl_Layer_hasNone.calls ?_ ?_ ?_ ?_ A182.out).mono ?_); exact cu_ HR1_7.out HB.out; exact HC1_7.out; exact cu_ HR1_8.out HB.out; exact HC1_8.out; rintro e w197 ⟨rfl, hb⟩; refine ⟨_, rfl, ?_⟩; replace BK438 := bb_ BK438 hb; replace BK439 := bb_ BK439 hb; replace BK440 := bb_ BK440 hb; replace HB := hb_ HB hb; (try clear hb); have hcz198 := box9_ BK439.out) | (go_at_call 105; (with_reducible refine (impl_Layer_isBare.calls ?_ ?_ ?_ ?_ A184.out).mono ?_); exact cu_ HR1_7.out HB.out; exact HC1_7.out; exact cu_ HR1_8.out HB.out; exact HC1_8.out; rintro e w199 ⟨rfl, hb⟩; replace BK438 := bb_ BK438 hb; replace BK439 := bb_ BK439 hb; replace BK440 := bb_ BK440 hb; replace HB := hb_ HB hb; (try clear hb); have hcz200 := box9_ BK439.out))
             go_meet
             case rel => exact ⟨_, (false), (by first | rfl | (simp; done) | (simp [*]; done)), H', ⟨by have := HJ92.out; first | omega | exact Nat.le_refl _⟩, ⟨bu_ BK438.out⟩, ⟨bu_ BK439.out⟩, ⟨bu_ BK440.out⟩, ⟨be_ HB.out⟩⟩
           ·
            replace c185 := Bool.eq_false_iff.mpr c185; subst c185; have H1 : (impl_OutShape.j5 kj92 t442 false) = some (r1, r2, r3, r4) := by rw [if_neg (show ¬ (false = true) by decide)] at H; exact H
            clear H; have H := H1; clear H1; have H' := Aside0.mk H; clear H; have hnb201 := NB439_438.out; have hnc201 := NB438_439.out; have hnb202 := NB439_440.out; have hnc202 := NB440_439.out; have hcz203 := box9_ BK439.out
            go_wp2_with (first | ((with_reducible refine gc_ 101 ?_); refine gl_ (some 96) Tryz.func101 #[.agg #[.int .i64 a1_0, .int .i64 a1_1, .int .i64 a1_2, .int .i64 a1_3, .int .i64 a1_4, .int .i64 a1_5, .int .i64 a1_6, .slice A1_7 l1_7.length c1_7, .slice A1_8 l1_8.length c1_8]] ?_; (with_reducible refine (impl_Layer_hasNone.calls ?_ ?_ ?_ ?_ A182.out).mono ?_); exact cu_ HR1_7.out HB.out; exact HC1_7.out; exact cu_ HR1_8.out HB.out; exact HC1_8.out; rintro e w204 ⟨rfl, hb⟩; refine ⟨_, rfl, ?_⟩; replace BK438 := bb_ BK438 hb; replace BK439 := bb_ BK439 hb; replace BK440 := bb_ BK440 hb; replace HB := hb_ HB hb; (try clear hb); have hcz205 := box9_ BK439.out) | (go_at_call 105; (with_reducible refine (impl_Layer_isBare.calls ?_ ?_ ?_ ?_ A184.out).mono ?_); exact cu_ HR1_7.out HB.out; exact HC1_7.out; exact cu_ HR1_8.out HB.out; exact HC1_8.out; rintro e w206 ⟨rfl, hb⟩; replace BK438 := bb_ BK438 hb; replace BK439 := bb_ BK439 hb; replace BK440 := bb_ BK440 hb; replace HB := hb_ HB hb; (try clear hb)))
            go_meet
            case rel => exact ⟨_, (false), (by first | rfl | (simp; done) | (simp [*]; done)), H', ⟨by have := HJ92.out; first | omega | exact Nat.le_refl _⟩, ⟨bu_ BK438.out⟩, ⟨bu_ BK439.out⟩, ⟨bu_ BK440.out⟩, ⟨be_ HB.out⟩⟩
          ·
           replace c183 := Bool.eq_false_iff.mpr c183; subst c183; have H1 : (impl_OutShape.j5 kj92 t442 false) = some (r1, r2, r3, r4) := by rw [if_neg (show ¬ (false = true) by decide)] at H; exact H
           clear H; have H := H1; clear H1; have H' := Aside0.mk H; clear H; have hnb207 := NB439_438.out; have hnc207 := NB438_439.out; have hnb208 := NB439_440.out; have hnc208 := NB440_439.out; have hcz209 := box9_ BK439.out
           go_wp2_with (first | ((with_reducible refine gc_ 101 ?_); refine gl_ (some 96) Tryz.func101 #[.agg #[.int .i64 a1_0, .int .i64 a1_1, .int .i64 a1_2, .int .i64 a1_3, .int .i64 a1_4, .int .i64 a1_5, .int .i64 a1_6, .slice A1_7 l1_7.length c1_7, .slice A1_8 l1_8.length c1_8]] ?_; (with_reducible refine (impl_Layer_hasNone.calls ?_ ?_ ?_ ?_ A182.out).mono ?_); exact cu_ HR1_7.out HB.out; exact HC1_7.out; exact cu_ HR1_8.out HB.out; exact HC1_8.out; rintro e w210 ⟨rfl, hb⟩; refine ⟨_, rfl, ?_⟩; replace BK438 := bb_ BK438 hb; replace BK439 := bb_ BK439 hb; replace BK440 := bb_ BK440 hb; replace HB := hb_ HB hb; (try clear hb)))
           go_meet
           case rel => exact ⟨_, (false), (by first | rfl | (simp; done) | (simp [*]; done)), H', ⟨by have := HJ92.out; first | omega | exact Nat.le_refl _⟩, ⟨bu_ BK438.out⟩, ⟨bu_ BK439.out⟩, ⟨bu_ BK440.out⟩, ⟨be_ HB.out⟩⟩
         case rest =>
          clear HC181; (try clear c1); (try clear c2); (try clear p2); (try clear p6); (try clear c10); (try clear c14); (try clear c17); (try clear c18); (try clear c19); (try clear c20); (try clear p64); (try clear c101); (try clear c147); (try clear c147b0); (try clear c147b1); (try clear c171); (try clear c172); (try clear c173); (try clear c175); (try clear c177); (try clear c178); (try clear c180); (try clear c180b0); (try clear c180b1); (try clear c183); (try clear c185); (try clear c186); (try clear c186b0); (try clear c186b1); (try clear c187); (try clear c188); (try clear c194); (try clear c195); (try clear c201); (try clear c202); (try clear c207); (try clear c208); (try clear hcz174); (try clear hcz176); (try clear hcz179); (try clear hcz189); (try clear hcz191); (try clear hcz193); (try clear hcz196); (try clear hcz198); (try clear hcz200); (try clear hcz203); (try clear hcz205); (try clear hcz209); (try clear hcz61); (try clear hcz63); (try clear hcz65); (try clear hcz66); (try clear hcz70); (try clear hcz72); (try clear hcz74); (try clear hcz77); (try clear hcz79); (try clear hcz85); (try clear hcz87); (try clear hcz89); (try clear hcz92); (try clear hcz99); (try clear p2); (try clear p6); (try clear p64); obtain ⟨kq, x109_180, rfl, HA, HJ180, BK438, BK439, BK440, HB⟩ := hcut
          cases kq with
          | zero => exact absurd HA.out (by simp [impl_OutShape.j5])
          | succ kj180 =>
           have H := HA.out; clear HA; simp only [impl_OutShape.j5] at H
           by_cases c211 : x109_180 = true
           ·
            subst c211; rw [if_pos rfl] at H; simp only [Option.some.injEq, Prod.mk.injEq] at H; obtain ⟨rfl, rfl, rfl, rfl⟩ := H; have hnb212 := NB440_438.out; have hnc212 := NB438_440.out; have hnb213 := NB440_439.out; have hnc213 := NB439_440.out; have hcz214 := box3_ BK440.out
            go_wp2
            refine bodyPost_ret (results_ct rfl _ _ gb440 47 #[.int .i64 1, .int .i64 1, .int .i64 t442] (0, 0) _ rfl (bq_ BK440.out) Tryz.underlying47 rfl (by kernel_rfl)) rfl ?_; exact rt_ HB.out
           ·
            replace c211 := Bool.eq_false_iff.mpr c211; subst c211; have H1 : (some (0, 0, 0, false)) = some (r1, r2, r3, r4) := by rw [if_neg (show ¬ (false = true) by decide)] at H; exact H
            clear H; have H := H1; clear H1; simp only [Option.some.injEq, Prod.mk.injEq] at H; obtain ⟨rfl, rfl, rfl, rfl⟩ := H; have hnb215 := NB440_438.out; have hnc215 := NB438_440.out; have hnb216 := NB440_439.out; have hnc216 := NB439_440.out; have hcz217 := box3_ BK440.out
            go_wp2
            refine bodyPost_ret (results_ct rfl _ _ gb440 47 #[.int .i64 0, .int .i64 0, .int .i64 0] (0, 0) _ rfl (bq_ BK440.out) Tryz.underlying47 rfl (by kernel_rfl)) rfl ?_; exact rt_ HB.out
        ·
         rw [if_neg c180] at H; have c180b0 : (a1_0 == 5) = false := beq_eq_false_iff_ne.mpr c180; have c180b1 : (a1_0 != 5) = true := bne_iff_ne.mpr c180; simp only [Option.some.injEq, Prod.mk.injEq] at H; obtain ⟨rfl, rfl, rfl, rfl⟩ := H; have hnb218 := NB440_438.out; have hnc218 := NB438_440.out; have hnb219 := NB440_439.out; have hnc219 := NB439_440.out; have hcz220 := box3_ BK440.out
         go_wp2
         refine bodyPost_ret (results_ct rfl _ _ gb440 47 #[.int .i64 0, .int .i64 0, .int .i64 0] (0, 0) _ rfl (bq_ BK440.out) Tryz.underlying47 rfl (by kernel_rfl)) rfl ?_; exact rt_ HB.out
 ·
  replace c4 := Bool.eq_false_iff.mpr c4; subst c4; have H1 : (some (0, 0, 0, false)) = some (r1, r2, r3, r4) := by rw [if_neg (show ¬ (false = true) by decide)] at H; exact H
  clear H; have H := H1; clear H1; simp only [Option.some.injEq, Prod.mk.injEq] at H; obtain ⟨rfl, rfl, rfl, rfl⟩ := H
  go_enter Tryz.func96, Tryz.ntmps96
  go_wp2_with (first | ((with_reducible refine gate_dst (N := 2) rfl ?_); (try (refine gate_guard (by rfl) ?_; dsimp only)); refine bz_ 2 ?_; intro gb438 hg w221 hbox hb; obtain ⟨BK438, GW438, GE438, HB⟩ := nb_ hg hbox HB hb; clear hb hbox hg) | ((with_reducible refine gate_dst (N := 3) rfl ?_); (try (refine gate_guard (by rfl) ?_; dsimp only)); refine bz_ 3 ?_; intro gb439 hg w222 hbox hb; obtain ⟨BK439, GW439, GE439, HB⟩ := nb_ hg hbox HB hb; have NB438_439 := nx_ hg BK438; have NB439_438 := ny_ hg BK438; replace BK438 := bb_ BK438 hb; clear hb hbox hg) | ((with_reducible refine gate_dst (N := 4) rfl ?_); (try (refine gate_guard (by rfl) ?_; dsimp only)); refine bz_ 4 ?_; intro gb440 hg w223 hbox hb; obtain ⟨BK440, GW440, GE440, HB⟩ := nb_ hg hbox HB hb; have NB438_440 := nx_ hg BK438; have NB440_438 := ny_ hg BK438; replace BK438 := bb_ BK438 hb; have NB439_440 := nx_ hg BK439; have NB440_439 := ny_ hg BK439; replace BK439 := bb_ BK439 hb; clear hb hbox hg; have hnb224 := NB438_439.out; have hnc224 := NB439_438.out; have hnb225 := NB438_440.out; have hnc225 := NB440_438.out; have hcz226 := box3_ BK438.out) | ((with_reducible refine gc_ 81 ?_); refine gl_ (some 8) Tryz.func81 #[.agg #[.int .i64 a0_0, .int .i64 a0_1, .int .i64 a0_2]] ?_; (with_reducible refine (impl_ShapeOk.calls A3.out).mono ?_); rintro e w227 ⟨rfl, hb⟩; refine ⟨_, rfl, ?_⟩; replace BK438 := bb_ BK438 hb; replace BK439 := bb_ BK439 hb; replace BK440 := bb_ BK440 hb; replace HB := hb_ HB hb; (try clear hb); have hnb228 := NB440_439.out; have hnc228 := NB439_440.out; have hcz229 := box3_ BK440.out))
  refine bodyPost_ret (results_ct rfl _ _ gb440 47 #[.int .i64 0, .int .i64 0, .int .i64 0] (0, 0) _ rfl (bq_ BK440.out) Tryz.underlying47 rfl (by kernel_rfl)) rfl ?_; exact rt_ HB.out

def impl_Model_shapes.l0 : Nat → List (S47) → List (S133) → Int → Int → Int → Int → Int → Option ((List (S47)) × Bool)
 | 0, _, _, _, _, _, _, _ => none
 | k + 1, x4, x16, x17, x18, x465000, x465001, x465002 => if x18 < x17 then (if 0 ≤ x18 then (if x18 < (x16.length : Int) then ((impl_OutShape.f k x465000 x465001 x465002 ((rd_T133 x16 x18).f0) ((rd_T133 x16 x18).f1) ((rd_T133 x16 x18).f2) ((rd_T133 x16 x18).f3) ((rd_T133 x16 x18).f4) ((rd_T133 x16 x18).f5) ((rd_T133 x16 x18).f6) ((rd_T133 x16 x18).f7) ((rd_T133 x16 x18).f8)).bind fun bt467 => (if bt467.2.2.2 = true then (if x4.length < 5864062014805 then (impl_Model_shapes.l0 k (x4 ++ [(⟨bt467.1, bt467.2.1, bt467.2.2.1⟩ : S47)]) x16 x17 (wrap64 (x18 + 1)) bt467.1 bt467.2.1 bt467.2.2.1) else (none)) else (some (([] : List (S47)), false)))) else (none)) else (none)) else (some (x4, true))
def impl_Model_shapes.f (k : Nat) (a0_0 : Int) (a0_1 : Int) (a0_2 : Int) (l0_3 : List (S133)) : Option ((List (S47)) × Bool) := impl_Model_shapes.l0 k (([(⟨a0_0, a0_1, a0_2⟩ : S47)] : List (S47))) l0_3 (l0_3.length : Int) 0 a0_0 a0_1 a0_2
def impl_Model_shapes.T1 : Bool × List (List Nat × List Nat) := (true, [([], []), ([0], [0]), ([1], [1]), ([], []), ([3], [3]), ([], []), ([2, 0, 1, 2, 5], [2]), ([5, 4, 6, 0, 1, 2, 3, 4, 5, 6], [4, 5])])
def impl_Model_shapes.B1 : List Nat := [0, 1, 3, 0, 8, 0, 39, 127]
theorem impl_Model_shapes.tab1 : rtab .any (opsOf Tryz.f80 1) = impl_Model_shapes.T1 := by kernel_rfl
theorem impl_Model_shapes.bits1 : waitsOk impl_Model_shapes.T1.2 impl_Model_shapes.B1 = true := by kernel_rfl
set_option maxHeartbeats 8000000 in
set_option maxRecDepth 100000 in
theorem impl_Model_shapes.calls {k : Nat} {a0_0 : Int} {a0_1 : Int} {a0_2 : Int} {A0_3 : Option Addr} {c0_3 : Nat} {l0_3 : List (S133)} {r1 : List (S47)} {r2 : Bool} {w : World} (hr0_3 : Kd.C k133 w A0_3 l0_3.length l0_3) (hc0_3 : l0_3.length ≤ c0_3) (h : impl_Model_shapes.f k a0_0 a0_1 a0_2 l0_3 = some (r1, r2)) :
  Calls Tryz.prog 80 #[.agg #[.int .i64 a0_0, .int .i64 a0_1, .int .i64 a0_2, .slice A0_3 l0_3.length c0_3]] w fun e w' => ∃ v0_ : Value, e = .returned (.tuple #[v0_, .bool r2]) ∧ Kd.R k47 47 w' w.heap.size (fun _ => True) v0_ r1 ∧ Below w.heap.size w w' := by
 have hu50 := Tryz.underlying50; have hu47 := Tryz.underlying47; have hu133 := Tryz.underlying133; have HR0_3 := Aside0.mk hr0_3; have HC0_3 := Aside0.mk hc0_3; clear hr0_3 hc0_3; have HB := Aside0.mk (Below.refl w.heap.size w); have H : (impl_Model_shapes.l0 k (([(⟨a0_0, a0_1, a0_2⟩ : S47)] : List (S47))) l0_3 (l0_3.length : Int) 0 a0_0 a0_1 a0_2) = some (r1, r2) := h; clear h; obtain ⟨y461, hy461⟩ : ∃ y_ : List (S47), y_ = (([(⟨a0_0, a0_1, a0_2⟩ : S47)] : List (S47))) := ⟨_, rfl⟩; replace H : (impl_Model_shapes.l0 k y461 l0_3 (l0_3.length : Int) 0 a0_0 a0_1 a0_2) = some (r1, r2) := by first | (rw [hy461]; with_reducible exact H) | (have H2_ := (Option.bind_some _ _).symm.trans H; rw [hy461]; with_reducible exact H2_) | (have H2_ := (Option.bind_some _ _).symm.trans H; with_reducible exact H2_) | with_reducible exact H | (rw [hy461]; exact H) | exact H
 have Ny461 := Aside0.mk hy461; clear hy461; have H' := Aside0.mk H; clear H
 go_enter Tryz.func80, Tryz.ntmps80
 try go_wp2_with (first | ((with_reducible refine gate_dst (N := 1) rfl ?_); refine bz_ 1 ?_; intro gb460 hg w2 hbox hb; obtain ⟨BK460, GW460, GE460, HB⟩ := nb_ hg hbox HB hb; clear hb hbox hg))
 replace BK460 := Aside0.mk (blk_drew BK460.out); replace HB := Aside0.mk (below_drew1 HB.out); refine sta_ 8 (fun w' => CE_ w' gb460 0 (.int .i64 a0_0) ∧ CE_ w' gb460 1 (.int .i64 a0_1) ∧ CE_ w' gb460 2 (.int .i64 a0_2) ∧ CE_ w' gb460 3 (.slice A0_3 l0_3.length c0_3)) (cel4_ (bu_ BK460.out)) (fun hHeld => ?_); refine with_tabW impl_Model_shapes.tab1 impl_Model_shapes.bits1 (fun HT_ HW_ => ?_); generalize w2.drew = w3 at BK460 HB hHeld ⊢; refine pv_ 0 8 1 HT_.out ?_; refine pv_ 3 8 9 HT_.out ?_; refine tv_ 1 8 11 HT_.out HW_.out hHeld ?_; refine tv_ 4 8 27 HT_.out HW_.out hHeld ?_; refine join_ (σ := Value × Nat) 2 (bl_ 8 63) (fun s_ => [(12, s_.1), (5, .pointer (some ⟨s_.2, 0, none⟩))]) (fun s_ w' => (w'.cell? ⟨gb460, 0, none⟩ = some (.int .i64 a0_0) ∧ w'.cell? ⟨gb460, 1, none⟩ = some (.int .i64 a0_1) ∧ w'.cell? ⟨gb460, 2, none⟩ = some (.int .i64 a0_2) ∧ w'.cell? ⟨gb460, 3, none⟩ = some (.slice A0_3 l0_3.length c0_3)) ∧ (Kd.R k47 47 w' w.heap.size (fun k_ => k_ ≠ s_.2) s_.1 y461) ∧ (w'.heap[gb460]? = some (.cells #[.int .i64 a0_0, .int .i64 a0_1, .int .i64 a0_2, .slice A0_3 l0_3.length c0_3] 50 (0, 0))) ∧ (w'.heap[s_.2]? = some (.cells #[.int .i64 0, .int .i64 0, .int .i64 0] 47 (0, 0))) ∧ (w.heap.size ≤ s_.2) ∧ (w.heap.size ≤ s_.2) ∧ (gb460 ≠ s_.2) ∧ (s_.2 ≠ gb460) ∧ (Below w.heap.size w w')) ?_ ?_
 rotate_left
 ·
  intro hCont; refine two_ (i := 2) (j := 5) (Ni := some 12) (Nj := some 5) (bl_ 8 31) (bl_ 8 59) rfl rfl rfl rfl (two_of HT_.out (by kernel_rfl)) (by decide) (by decide) (fun K hK => ?_) (fun K hK => ?_)
  ·
   refine Kd.R_lit_step k47 _ 47 ?hg (N := 12) ?hd (xs := ([(⟨a0_0, a0_1, a0_2⟩ : S47)] : List (S47))) (inner := [.int .i64 a0_0, .int .i64 a0_1, .int .i64 a0_2]) (ok := fun _ => True) (okp := fun _ => True) ?hr ?hp (fun _ hk => hk) trivial (Below.refl _ _) (Nat.le_refl _) (by simp) ?_; (case hd => rfl); (case hg => rfl); (case hr => first | (go_simp; done) | (go_simp; rfl)); (case hp => exact (Reps.c3 (show Kd.M k47 _ _ _ (⟨a0_0, a0_1, a0_2⟩ : S47) [.int .i64 a0_0, .int .i64 a0_1, .int .i64 a0_2] from (k47_mkM _ _ _ (⟨a0_0, a0_1, a0_2⟩ : S47) )) (Reps.none _ _))); intro v462 w4 ho5 hb hg_ hnew_; clear hg_ hnew_; (first | rw [← Ny461.out] at ho5 | (simp only [Int.reduceToNat] at ho5; rw [← Ny461.out] at ho5)); have HO463 := Aside0.mk (Kd.R_lower ho5 (below_size (be_ HB.out))); replace BK460 := bb_ BK460 hb; replace HB := hb_ HB hb; clear hb ho5; refine hK.out _ _ (cel4_ (bu_ BK460.out)) (fun hHeld => ?_); clear hK K; refine nm_ 12 (h := ?_); refine one_ (i := 5) (N := some 5) (bl_ 8 63) rfl rfl (one_of HT_.out (by kernel_rfl)) (by decide) (fun K hK => ?_); refine bs_ 5 #[.int .i64 0, .int .i64 0, .int .i64 0] 47 ?_; intro gb464 hg w6 hbox hb; replace HO463 := Aside0.mk (Kd.R_below (Kd.R_elderB (ra_ HO463.out) gb464 (Nat.le_of_eq hg.symm)) hb); obtain ⟨BK464, GW464, GE464, HB⟩ := nb_ hg hbox HB hb; have NB460_464 := nx_ hg BK460; have NB464_460 := ny_ hg BK460; replace BK460 := bb_ BK460 hb; clear hb hbox hg; refine hK.out _ _ (cel4_ (bu_ BK460.out)) (fun hHeld => ?_); clear hK K; refine nm_ 5 (h := ?_); exact norm_ (by simp only [putAll, Act.put, List.setIfInBounds_toArray, List.set_cons_zero, List.set_cons_succ]) (hCont (v462, gb464) _ ⟨hHeld, (by (with_reducible repeat (first | apply Kd.R_alloc | apply Kd.R_drewN | apply Kd.R_drew)); exact Kd.R_mono HO463.out (fun _ hk => hk.2)), (bu_ BK460.out), (bu_ BK464.out), GW464.out, GE464.out, NB460_464.out, NB464_460.out, (be_ HB.out)⟩)
  ·
   refine bs_ 5 #[.int .i64 0, .int .i64 0, .int .i64 0] 47 ?_; intro gb464 hg w4 hbox hb; obtain ⟨BK464, GW464, GE464, HB⟩ := nb_ hg hbox HB hb; have NB460_464 := nx_ hg BK460; have NB464_460 := ny_ hg BK460; replace BK460 := bb_ BK460 hb; clear hb hbox hg; refine hK.out _ _ (cel4_ (bu_ BK460.out)) (fun hHeld => ?_); clear hK K; refine nm_ 5 (h := ?_); refine one_ (i := 2) (N := some 12) (bl_ 8 63) rfl rfl (one_of HT_.out (by kernel_rfl)) (by decide) (fun K hK => ?_); refine Kd.R_lit_step k47 _ 47 ?hg (N := 12) ?hd (xs := ([(⟨a0_0, a0_1, a0_2⟩ : S47)] : List (S47))) (inner := [.int .i64 a0_0, .int .i64 a0_1, .int .i64 a0_2]) (ok := fun _ => True) (okp := fun _ => True) ?hr ?hp (fun _ hk => hk) trivial (Below.refl _ _) (Nat.le_refl _) (by simp) ?_; (case hd => rfl); (case hg => rfl); (case hr => first | (go_simp; done) | (go_simp; rfl)); (case hp => exact (Reps.c3 (show Kd.M k47 _ _ _ (⟨a0_0, a0_1, a0_2⟩ : S47) [.int .i64 a0_0, .int .i64 a0_1, .int .i64 a0_2] from (k47_mkM _ _ _ (⟨a0_0, a0_1, a0_2⟩ : S47) )) (Reps.none _ _))); intro v462 w5 ho6 hb hg_ hnew_; clear hg_ hnew_; (first | rw [← Ny461.out] at ho6 | (simp only [Int.reduceToNat] at ho6; rw [← Ny461.out] at ho6)); have HO463 := Aside0.mk (Kd.R_lower (Kd.R_newB ho6 (g := gb464) (o := .cells #[.int .i64 0, .int .i64 0, .int .i64 0] 47 (0, 0)) (bu_ BK464.out)) (below_size (be_ HB.out))); replace BK460 := bb_ BK460 hb; replace BK464 := bb_ BK464 hb; replace HB := hb_ HB hb; clear hb ho6; refine hK.out _ _ (cel4_ (bu_ BK460.out)) (fun hHeld => ?_); clear hK K; refine nm_ 12 (h := ?_); exact norm_ (by simp only [putAll, Act.put, List.setIfInBounds_toArray, List.set_cons_zero, List.set_cons_succ]) (hCont (v462, gb464) _ ⟨hHeld, (by (with_reducible repeat (first | apply Kd.R_alloc | apply Kd.R_drewN | apply Kd.R_drew)); exact Kd.R_mono HO463.out (fun _ hk => hk.2)), (bu_ BK460.out), (bu_ BK464.out), GW464.out, GE464.out, NB460_464.out, NB464_460.out, (be_ HB.out)⟩)
 rintro ⟨v462, gb464⟩ w7 ⟨hS_, h0_, h1_, h2_, h3_, h4_, h5_, h6_, h7_⟩; (try dsimp only at h0_ h1_ h2_ h3_ h4_ h5_ h6_ h7_); have HO463 := Aside0.mk h0_; replace BK460 := Aside0.mk h1_; have BK464 := Aside0.mk h2_; have GW464 := Aside0.mk h3_; have GE464 := Aside0.mk h4_; have NB460_464 := Aside0.mk h5_; have NB464_460 := Aside0.mk h6_; replace HB := Aside0.mk h7_; clear h0_ h1_ h2_ h3_ h4_ h5_ h6_ h7_; have hHeld : w7.cell? ⟨gb460, 0, none⟩ = some (.int .i64 a0_0) ∧ w7.cell? ⟨gb460, 1, none⟩ = some (.int .i64 a0_1) ∧ w7.cell? ⟨gb460, 2, none⟩ = some (.int .i64 a0_2) ∧ w7.cell? ⟨gb460, 3, none⟩ = some (.slice A0_3 l0_3.length c0_3) := hS_; refine nf_ ?_; refine pv_ 6 8 127 HT_.out ?_; refine one_ (i := 7) (N := none) (bl_ 8 255) rfl rfl (one_of HT_.out (by kernel_rfl)) (by decide) (fun K hK => ?_); have hs8 : w7.cell? ⟨gb464, 0, none⟩ = some (.int .i64 0) := bk_ BK464 0; have hfs8 := blk_frozen BK464.out 0; have hns8_0 := NB460_464.out; have hms8_0 := NB464_460.out; have hs9 : w7.cell? ⟨gb464, 1, none⟩ = some (.int .i64 0) := bk_ BK464 1; have hfs9 := blk_frozen BK464.out 1; have hns9_0 := NB460_464.out; have hms9_0 := NB464_460.out; have hs10 : w7.cell? ⟨gb464, 2, none⟩ = some (.int .i64 0) := bk_ BK464 2; have hfs10 := blk_frozen BK464.out 2; have hns10_0 := NB460_464.out; have hms10_0 := NB464_460.out; refine skip_ (w1 := ?_) (by rfl) rfl ?_ ?_
 rotate_left
 ·
  go_simp
  rfl
 refine hK.out _ _ ⟨(cfn_ NB460_464.out ((cfn_ NB460_464.out ((cfn_ NB460_464.out (hHeld.1)))))), (cfn_ NB460_464.out ((cfn_ NB460_464.out ((cfn_ NB460_464.out (hHeld.2.1)))))), (cfn_ NB460_464.out ((cfn_ NB460_464.out ((cfn_ NB460_464.out (hHeld.2.2.1)))))), (cfn_ NB460_464.out ((cfn_ NB460_464.out ((cfn_ NB460_464.out (hHeld.2.2.2))))))⟩ (fun hHeld => ?_); clear hK K; refine done_ (done_of HT_.out (by kernel_rfl)) ?_; have hnb11 := NB460_464.out; have hnc11 := NB464_460.out; have hcz12 := box4_ BK460.out
 try go_wp2
 go_loopg [4, 18] k (fun kq v4 v18 w' => ∃ (x4_1 : List (S47)) (x18_1 : Int) (x465000_1 : Int) (x465001_1 : Int) (x465002_1 : Int), v18 = .int .i64 x18_1 ∧ Aside0 (impl_Model_shapes.l0 kq x4_1 l0_3 (l0_3.length : Int) x18_1 x465000_1 x465001_1 x465002_1 = some (r1, r2)) ∧ Aside0 (kq ≤ k) ∧ Aside0 (Kd.R k47 47 w' w.heap.size (fun k_ => k_ ≠ gb464) v4 x4_1) ∧ Aside0 (w'.heap[gb460]? = some (.cells #[.int .i64 a0_0, .int .i64 a0_1, .int .i64 a0_2, (.slice A0_3 l0_3.length c0_3)] 50 (0, 0))) ∧ Aside0 (w'.heap[gb464]? = some (.cells #[.int .i64 x465000_1, .int .i64 x465001_1, .int .i64 x465002_1] 47 (0, 0))) ∧ Aside0 (Below w.heap.size w w'))
 case atStart => exact ⟨(y461), (0), (a0_0), (a0_1), (a0_2), (by first | rfl | (simp; done) | (simp [*]; done)), H', ⟨Nat.le_refl _⟩, ⟨by (with_reducible repeat (first | apply Kd.R_alloc | apply Kd.R_drewN | apply Kd.R_drew)); exact Kd.R_mono (Kd.R_far (p := ⟨gb464, 2, none⟩) (Kd.R_far (p := ⟨gb464, 1, none⟩) (Kd.R_far (p := ⟨gb464, 0, none⟩) (Kd.R_mono HO463.out (fun k_ hk => (⟨hk, hk⟩ : _ ∧ k_ ≠ gb464))) (fun _ hk => hk.2) (.int .i64 a0_0)) (fun _ hk => hk.2) (.int .i64 a0_1)) (fun _ hk => hk.2) (.int .i64 a0_2)) (fun _ hk => hk.1)⟩, ⟨by (with_reducible repeat (first | refine blk_drewN ?_ _ | refine blk_drew ?_ | refine blk_alloc ?_ _)); refine blk_far ?_ NB460_464.out _; (with_reducible repeat (first | refine blk_drewN ?_ _ | refine blk_drew ?_ | refine blk_alloc ?_ _)); refine blk_far ?_ NB460_464.out _; (with_reducible repeat (first | refine blk_drewN ?_ _ | refine blk_drew ?_ | refine blk_alloc ?_ _)); refine blk_far ?_ NB460_464.out _; (with_reducible repeat (first | refine blk_drewN ?_ _ | refine blk_drew ?_ | refine blk_alloc ?_ _)); exact BK460.out⟩, ⟨by (with_reducible repeat (first | refine blk_drewN ?_ _ | refine blk_drew ?_ | refine blk_alloc ?_ _)); refine blk_put (cs := #[.int .i64 a0_0, .int .i64 a0_1, .int .i64 0]) ?_ 2 _ rfl; (with_reducible repeat (first | refine blk_drewN ?_ _ | refine blk_drew ?_ | refine blk_alloc ?_ _)); refine blk_put (cs := #[.int .i64 a0_0, .int .i64 0, .int .i64 0]) ?_ 1 _ rfl; (with_reducible repeat (first | refine blk_drewN ?_ _ | refine blk_drew ?_ | refine blk_alloc ?_ _)); refine blk_put (cs := #[.int .i64 0, .int .i64 0, .int .i64 0]) ?_ 0 _ rfl; (with_reducible repeat (first | refine blk_drewN ?_ _ | refine blk_drew ?_ | refine blk_alloc ?_ _)); exact BK464.out⟩, ⟨be_ HB.out⟩⟩
 case round =>
  clear H'; (try clear c1); (try clear p2); (try clear c3); (try clear c8); (try clear c11); (try clear hcz12); obtain ⟨x4_1, x18_1, x465000_1, x465001_1, x465002_1, rfl, HA, HK1, HO_4, BK460, BK464, HB⟩ := hrel
  cases gk with
  | zero => exact absurd HA.out (by simp [impl_Model_shapes.l0])
  | succ k1 =>
   have H := HA.out; clear HA; simp only [impl_Model_shapes.l0] at H
   by_cases c13 : x18_1 < (l0_3.length : Int)
   ·
    rw [if_pos c13] at H; have c13b0 : decide (x18_1 < (l0_3.length : Int)) = true := decide_eq_true c13; clear c13
    by_cases c14 : 0 ≤ x18_1
    ·
     rw [if_pos c14] at H; have c14b0 : decide (0 ≤ x18_1) = true := decide_eq_true c14; clear c14
     by_cases c15 : x18_1 < (l0_3.length : Int)
     ·
      rw [if_pos c15] at H; have c15b0 : decide (x18_1 < (l0_3.length : Int)) = true := decide_eq_true c15; clear c15; obtain ⟨⟨t467, t468, t469, t470⟩, A16, H⟩ := bo_ H; (try dsimp only at H)
      by_cases c17 : t470 = true
      ·
       subst c17; rw [if_pos rfl] at H
       by_cases c18 : x4_1.length < 5864062014805
       ·
        rw [if_pos c18] at H; have LMc18 := Aside0.mk c18; clear c18; obtain ⟨y472, hy472⟩ : ∃ y_ : List (S47), y_ = (x4_1 ++ [(⟨t467, t468, t469⟩ : S47)]) := ⟨_, rfl⟩; replace H : (impl_Model_shapes.l0 k1 y472 l0_3 (l0_3.length : Int) (wrap64 (x18_1 + 1)) t467 t468 t469) = some (r1, r2) := by first | (rw [hy472]; with_reducible exact H) | (have H2_ := (Option.bind_some _ _).symm.trans H; rw [hy472]; with_reducible exact H2_) | (have H2_ := (Option.bind_some _ _).symm.trans H; with_reducible exact H2_) | with_reducible exact H | (rw [hy472]; exact H) | exact H
        have Ny472 := Aside0.mk hy472; clear hy472; have H' := Aside0.mk H; clear H; have p465 : 0 ≤ (x18_1 : Int) := od_; have q465 : x18_1 < (l0_3.length : Int) := od_; obtain ⟨ad465, A465_7, c465_7, A465_8, c465_8, e465, hx465_0, hx465_1, hx465_2, hx465_3, hx465_4, hx465_5, hx465_6, hx465_7, hx465_8, hl465_7, hi465_7, hl465_8, hi465_8⟩ := at_T133 HR0_3.out x18_1 p465 q465
        cases e465
        replace hx465_0 := cw_ HB.out hx465_0; replace hx465_1 := cw_ HB.out hx465_1; replace hx465_2 := cw_ HB.out hx465_2; replace hx465_3 := cw_ HB.out hx465_3; replace hx465_4 := cw_ HB.out hx465_4; replace hx465_5 := cw_ HB.out hx465_5; replace hx465_6 := cw_ HB.out hx465_6; replace hx465_7 := cw_ HB.out hx465_7; replace hx465_8 := cw_ HB.out hx465_8; have HR465_7 := Aside0.mk hi465_7; have HC465_7 := Aside0.mk hl465_7; clear hi465_7 hl465_7; have HR465_8 := Aside0.mk hi465_8; have HC465_8 := Aside0.mk hl465_8; clear hi465_8 hl465_8; replace p465 := eq_true p465; replace q465 := eq_true q465
        go_wp2_with (first | ((with_reducible refine gate_dst (N := 7) rfl ?_); refine bz_ 7 ?_; intro gb466 hg w19 hbox hb; replace HO_4 := rb_ HO_4 hb; obtain ⟨BK466, GW466, GE466, HB⟩ := nb_ hg hbox HB hb; have NB460_466 := nx_ hg BK460; have NB466_460 := ny_ hg BK460; replace BK460 := bb_ BK460 hb; have NB464_466 := nx_ hg BK464; have NB466_464 := ny_ hg BK464; replace BK464 := bb_ BK464 hb; clear hb hbox hg; have hnb20 := NB466_460.out; have hnc20 := NB460_466.out; have hnb21 := NB466_464.out; have hnc21 := NB464_466.out; have hcz22 := box9_ BK466.out; have hnb23 := NB464_460.out; have hnc23 := NB460_464.out; have hcz24 := box3_ BK464.out) | ((with_reducible refine gc_ 96 ?_); refine gl_ (some 25) Tryz.func96 #[.agg #[.int .i64 x465000_1, .int .i64 x465001_1, .int .i64 x465002_1], .agg #[.int .i64 ((rd_T133 l0_3 x18_1).f0), .int .i64 ((rd_T133 l0_3 x18_1).f1), .int .i64 ((rd_T133 l0_3 x18_1).f2), .int .i64 ((rd_T133 l0_3 x18_1).f3), .int .i64 ((rd_T133 l0_3 x18_1).f4), .int .i64 ((rd_T133 l0_3 x18_1).f5), .int .i64 ((rd_T133 l0_3 x18_1).f6), .slice A465_7 ((rd_T133 l0_3 x18_1).f7).length c465_7, .slice A465_8 ((rd_T133 l0_3 x18_1).f8).length c465_8]] ?_; (with_reducible refine (impl_OutShape.calls ?_ ?_ ?_ ?_ A16.out).mono ?_); exact Kd.C_below HR465_7.out (be_ HB.out); exact HC465_7.out; exact Kd.C_below HR465_8.out (be_ HB.out); exact HC465_8.out; rintro e w25 ⟨rfl, hb⟩; refine ⟨_, rfl, ?_⟩; replace HO_4 := rg_ HO_4 hb; replace BK460 := bc_ BK460 hb; replace BK464 := bc_ BK464 hb; replace BK466 := bp_ (#[.int .i64 ((rd_T133 l0_3 x18_1).f0), .int .i64 ((rd_T133 l0_3 x18_1).f1), .int .i64 ((rd_T133 l0_3 x18_1).f2), .int .i64 ((rd_T133 l0_3 x18_1).f3), .int .i64 ((rd_T133 l0_3 x18_1).f4), .int .i64 ((rd_T133 l0_3 x18_1).f5), .int .i64 ((rd_T133 l0_3 x18_1).f6), .slice A465_7 ((rd_T133 l0_3 x18_1).f7).length c465_7, .slice A465_8 ((rd_T133 l0_3 x18_1).f8).length c465_8]) BK466 hb; replace HB := hb_ HB hb; (try clear hb)) | ((with_reducible refine gate_dst (N := 8) rfl ?_); refine bz_ 8 ?_; intro gb471 hg w26 hbox hb; replace HO_4 := Aside0.mk (Kd.R_below (Kd.R_elderB (ra_ HO_4.out) gb471 (Nat.le_of_eq hg.symm)) hb); obtain ⟨BK471, GW471, GE471, HB⟩ := nb_ hg hbox HB hb; have NB460_471 := nx_ hg BK460; have NB471_460 := ny_ hg BK460; replace BK460 := bb_ BK460 hb; have NB464_471 := nx_ hg BK464; have NB471_464 := ny_ hg BK464; replace BK464 := bb_ BK464 hb; have NB466_471 := nx_ hg BK466; have NB471_466 := ny_ hg BK466; replace BK466 := bb_ BK466 hb; clear hb hbox hg; have hnb27 := NB471_460.out; have hnc27 := NB460_471.out; have hnb28 := NB471_464.out; have hnc28 := NB464_471.out; have hnb29 := NB471_466.out; have hnc29 := NB466_471.out; have hcz30 := box3_ BK471.out; have hcz31 := box3_ BK464.out) | ((with_reducible refine gate_builtin (b := .append) (xs := #[.tmp 31, .tmp 33]) rfl ?_); at_builtin; refine Kd.R_append k47 (w0 := w) w.heap.size rfl (.tmp 31) (.tmp 33) 105 47 (.agg #[(.int .i64 0), (.int .i64 0), (.int .i64 0)]) 24 rfl Tryz.underlying105 info47 rfl (by decide) (by omega) u4 x4_1 (⟨t467, t468, t469⟩ : S47) [.int .i64 t467, .int .i64 t468, .int .i64 t469] (fun k_ => k_ ≠ gb464 ∧ k_ ≠ gb471) (fun _ => False) rfl (by first | (go_simp; done) | (go_simp; rfl)) ?aP (fun _ hk => hk.elim) ?aF ?aO ?aB ?aS ?aL ?_; (case aP => exact k47_mkM _ _ _ (⟨t467, t468, t469⟩ : S47)); (case aB => exact (be_ HB.out)); (case aF => exact (fun k_ hk => ⟨Kd.freshB (g := gb464) (o := .cells #[.int .i64 t467, .int .i64 t468, .int .i64 t469] 47 (0, 0)) (bq_ BK464.out) k_ hk, Kd.freshB (g := gb471) (o := .cells #[.int .i64 t467, .int .i64 t468, .int .i64 t469] 47 (0, 0)) (bq_ BK471.out) k_ hk⟩)); (case aO => exact (by (with_reducible repeat (first | apply Kd.R_alloc | apply Kd.R_drewN | apply Kd.R_drew)); exact Kd.R_mono (Kd.R_far (p := ⟨gb464, 2, none⟩) (Kd.R_far (p := ⟨gb464, 1, none⟩) (Kd.R_far (p := ⟨gb464, 0, none⟩) (Kd.R_far (p := ⟨gb471, 2, none⟩) (Kd.R_far (p := ⟨gb471, 1, none⟩) (Kd.R_far (p := ⟨gb471, 0, none⟩) (Kd.R_mono (Kd.R_mono HO_4.out (fun k_ hk => (⟨hk, hk.2⟩ : _ ∧ k_ ≠ gb471))) (fun k_ hk => (⟨hk, hk.1.1⟩ : _ ∧ k_ ≠ gb464))) (fun _ hk => hk.1.2) (.int .i64 t467)) (fun _ hk => hk.1.2) (.int .i64 t468)) (fun _ hk => hk.1.2) (.int .i64 t469)) (fun _ hk => hk.2) (.int .i64 t467)) (fun _ hk => hk.2) (.int .i64 t468)) (fun _ hk => hk.2) (.int .i64 t469)) (fun _ hk => ⟨hk.1.1.1, hk.1.1.2⟩))); (case aS => exact (below_size (be_ HB.out))); (case aL => have := LMc18.out; omega); intro v473 w32 ho hb hg hat; rw [← Ny472.out] at ho; replace BK460 := Aside0.mk (blk_grown (g := gb460) (o := .cells #[.int .i64 a0_0, .int .i64 a0_1, .int .i64 a0_2, .slice (some ad465) l0_3.length c0_3] 50 (0, 0)) (bf_ BK460.out) hg (Kd.R_ne HO_4.out BK460.out (by decide))); replace BK464 := Aside0.mk (blk_grown (g := gb464) (o := .cells #[.int .i64 t467, .int .i64 t468, .int .i64 t469] 47 (0, 0)) (bq_ BK464.out) hg (Kd.R_away HO_4.out (fun _ hk => hk.1))); replace BK466 := Aside0.mk (blk_grown (g := gb466) (o := .cells #[.int .i64 ((rd_T133 l0_3 x18_1).f0), .int .i64 ((rd_T133 l0_3 x18_1).f1), .int .i64 ((rd_T133 l0_3 x18_1).f2), .int .i64 ((rd_T133 l0_3 x18_1).f3), .int .i64 ((rd_T133 l0_3 x18_1).f4), .int .i64 ((rd_T133 l0_3 x18_1).f5), .int .i64 ((rd_T133 l0_3 x18_1).f6), .slice A465_7 ((rd_T133 l0_3 x18_1).f7).length c465_7, .slice A465_8 ((rd_T133 l0_3 x18_1).f8).length c465_8] 133 (0, 0)) (bf_ BK466.out) hg (Kd.R_ne HO_4.out BK466.out (by decide))); replace BK471 := Aside0.mk (blk_grown (g := gb471) (o := .cells #[.int .i64 t467, .int .i64 t468, .int .i64 t469] 47 (0, 0)) (bq_ BK471.out) hg (Kd.R_away HO_4.out (fun _ hk => hk.2))); replace HB := Aside0.mk (hb); have HO474 := Aside0.mk (ho); clear HO_4; clear ho hb hg hat))
        go_roundg k1
        case measure => have := HK1.out; omega
        case rel => exact ⟨(y472), (wrap64 (x18_1 + 1)), (t467), (t468), (t469), (by first | rfl | (simp; done) | (simp [*]; done)), H', ⟨by have := HK1.out; omega⟩, ⟨by (with_reducible repeat (first | apply Kd.R_alloc | apply Kd.R_drewN | apply Kd.R_drew)); exact Kd.R_mono HO474.out (fun _ hk => hk.1)⟩, ⟨bu_ BK460.out⟩, ⟨bu_ BK464.out⟩, ⟨be_ HB.out⟩⟩
       ·
        rw [if_neg c18] at H; exact absurd H (by simp)
      ·
       replace c17 := Bool.eq_false_iff.mpr c17; subst c17; have H1 : (some (([] : List (S47)), false)) = some (r1, r2) := by rw [if_neg (show ¬ (false = true) by decide)] at H; exact H
       clear H; have H := H1; clear H1; simp only [Option.some.injEq, Prod.mk.injEq] at H; obtain ⟨rfl, rfl⟩ := H; have p465 : 0 ≤ (x18_1 : Int) := od_; have q465 : x18_1 < (l0_3.length : Int) := od_; obtain ⟨ad465, A465_7, c465_7, A465_8, c465_8, e465, hx465_0, hx465_1, hx465_2, hx465_3, hx465_4, hx465_5, hx465_6, hx465_7, hx465_8, hl465_7, hi465_7, hl465_8, hi465_8⟩ := at_T133 HR0_3.out x18_1 p465 q465
       cases e465
       replace hx465_0 := cw_ HB.out hx465_0; replace hx465_1 := cw_ HB.out hx465_1; replace hx465_2 := cw_ HB.out hx465_2; replace hx465_3 := cw_ HB.out hx465_3; replace hx465_4 := cw_ HB.out hx465_4; replace hx465_5 := cw_ HB.out hx465_5; replace hx465_6 := cw_ HB.out hx465_6; replace hx465_7 := cw_ HB.out hx465_7; replace hx465_8 := cw_ HB.out hx465_8; have HR465_7 := Aside0.mk hi465_7; have HC465_7 := Aside0.mk hl465_7; clear hi465_7 hl465_7; have HR465_8 := Aside0.mk hi465_8; have HC465_8 := Aside0.mk hl465_8; clear hi465_8 hl465_8; replace p465 := eq_true p465; replace q465 := eq_true q465
       go_wp2_with (first | ((with_reducible refine gate_dst (N := 7) rfl ?_); refine bz_ 7 ?_; intro gb466 hg w33 hbox hb; replace HO_4 := rb_ HO_4 hb; obtain ⟨BK466, GW466, GE466, HB⟩ := nb_ hg hbox HB hb; have NB460_466 := nx_ hg BK460; have NB466_460 := ny_ hg BK460; replace BK460 := bb_ BK460 hb; have NB464_466 := nx_ hg BK464; have NB466_464 := ny_ hg BK464; replace BK464 := bb_ BK464 hb; clear hb hbox hg; have hnb34 := NB466_460.out; have hnc34 := NB460_466.out; have hnb35 := NB466_464.out; have hnc35 := NB464_466.out; have hcz36 := box9_ BK466.out; have hnb37 := NB464_460.out; have hnc37 := NB460_464.out; have hcz38 := box3_ BK464.out) | ((with_reducible refine gc_ 96 ?_); refine gl_ (some 25) Tryz.func96 #[.agg #[.int .i64 x465000_1, .int .i64 x465001_1, .int .i64 x465002_1], .agg #[.int .i64 ((rd_T133 l0_3 x18_1).f0), .int .i64 ((rd_T133 l0_3 x18_1).f1), .int .i64 ((rd_T133 l0_3 x18_1).f2), .int .i64 ((rd_T133 l0_3 x18_1).f3), .int .i64 ((rd_T133 l0_3 x18_1).f4), .int .i64 ((rd_T133 l0_3 x18_1).f5), .int .i64 ((rd_T133 l0_3 x18_1).f6), .slice A465_7 ((rd_T133 l0_3 x18_1).f7).length c465_7, .slice A465_8 ((rd_T133 l0_3 x18_1).f8).length c465_8]] ?_; (with_reducible refine (impl_OutShape.calls ?_ ?_ ?_ ?_ A16.out).mono ?_); exact Kd.C_below HR465_7.out (be_ HB.out); exact HC465_7.out; exact Kd.C_below HR465_8.out (be_ HB.out); exact HC465_8.out; rintro e w39 ⟨rfl, hb⟩; refine ⟨_, rfl, ?_⟩; replace HO_4 := rg_ HO_4 hb; replace BK460 := bc_ BK460 hb; replace BK464 := bc_ BK464 hb; replace BK466 := bp_ (#[.int .i64 ((rd_T133 l0_3 x18_1).f0), .int .i64 ((rd_T133 l0_3 x18_1).f1), .int .i64 ((rd_T133 l0_3 x18_1).f2), .int .i64 ((rd_T133 l0_3 x18_1).f3), .int .i64 ((rd_T133 l0_3 x18_1).f4), .int .i64 ((rd_T133 l0_3 x18_1).f5), .int .i64 ((rd_T133 l0_3 x18_1).f6), .slice A465_7 ((rd_T133 l0_3 x18_1).f7).length c465_7, .slice A465_8 ((rd_T133 l0_3 x18_1).f8).length c465_8]) BK466 hb; replace HB := hb_ HB hb; (try clear hb)) | ((with_reducible refine gate_dst (N := 8) rfl ?_); refine bz_ 8 ?_; intro gb471 hg w40 hbox hb; replace HO_4 := Aside0.mk (Kd.R_below (Kd.R_elderB (ra_ HO_4.out) gb471 (Nat.le_of_eq hg.symm)) hb); obtain ⟨BK471, GW471, GE471, HB⟩ := nb_ hg hbox HB hb; have NB460_471 := nx_ hg BK460; have NB471_460 := ny_ hg BK460; replace BK460 := bb_ BK460 hb; have NB464_471 := nx_ hg BK464; have NB471_464 := ny_ hg BK464; replace BK464 := bb_ BK464 hb; have NB466_471 := nx_ hg BK466; have NB471_466 := ny_ hg BK466; replace BK466 := bb_ BK466 hb; clear hb hbox hg; have hnb41 := NB471_460.out; have hnc41 := NB460_471.out; have hnb42 := NB471_464.out; have hnc42 := NB464_471.out; have hnb43 := NB471_466.out; have hnc43 := NB466_471.out; have hcz44 := box3_ BK471.out))
       go_ret2
       exact ⟨_, by first | rfl | (simp [errW_none, errW_some] <;> rfl) | (simp [*, errW_none, errW_some] <;> rfl), by first | exact Kd.R_nil _ _ _ _ _ | exact Kd.N_nil _ _ _ _ _ | exact Kd.V_nil _ _ _ _ _ | exact Kd.Q_nil _ _ _ _ _ | exact Kd.S_nil _ _ _ _ _, be_ HB.out⟩
     ·
      rw [if_neg c15] at H; exact absurd H (by simp)
    ·
     rw [if_neg c14] at H; exact absurd H (by simp)
   ·
    rw [if_neg c13] at H; have c13b0 : decide (x18_1 < (l0_3.length : Int)) = false := decide_eq_false c13; clear c13; simp only [Option.some.injEq, Prod.mk.injEq] at H; obtain ⟨rfl, rfl⟩ := H
    go_wp2
    go_ret2
    exact ⟨_, by first | rfl | (simp [errW_none, errW_some] <;> rfl) | (simp [*, errW_none, errW_some] <;> rfl), by (with_reducible repeat (first | apply Kd.R_alloc | apply Kd.R_drewN | apply Kd.R_drew)); exact Kd.R_mono HO_4.out (fun _ hk => trivial), be_ HB.out⟩

def impl_ModelOk.f (k : Nat) (a0_0 : Int) (a0_1 : Int) (a0_2 : Int) (l0_3 : List (S133)) : Option (Bool) := (impl_in.f (l0_3.length : Int) 1 6).bind fun t476 => (if t476 = true then ((impl_Model_shapes.f k a0_0 a0_1 a0_2 l0_3).bind fun bt477 => (some bt477.2)) else (some false))
set_option maxHeartbeats 8000000 in
set_option maxRecDepth 100000 in
theorem impl_ModelOk.calls {k : Nat} {a0_0 : Int} {a0_1 : Int} {a0_2 : Int} {A0_3 : Option Addr} {c0_3 : Nat} {l0_3 : List (S133)} {r : Bool} {w : World} (hr0_3 : Kd.C k133 w A0_3 l0_3.length l0_3) (hc0_3 : l0_3.length ≤ c0_3) (h : impl_ModelOk.f k a0_0 a0_1 a0_2 l0_3 = some r) :
  Calls Tryz.prog 53 #[.agg #[.int .i64 a0_0, .int .i64 a0_1, .int .i64 a0_2, .slice A0_3 l0_3.length c0_3]] w fun e w' => e = .returned (.bool r) ∧ Below w.heap.size w w' := by
 have hu50 := Tryz.underlying50; have HR0_3 := Aside0.mk hr0_3; have HC0_3 := Aside0.mk hc0_3; clear hr0_3 hc0_3; have HB := Aside0.mk (Below.refl w.heap.size w); have H : ((impl_in.f (l0_3.length : Int) 1 6).bind fun t476 => (if t476 = true then ((impl_Model_shapes.f k a0_0 a0_1 a0_2 l0_3).bind fun bt477 => (some bt477.2)) else (some false))) = some r := h; clear h; obtain ⟨t476, A2, H⟩ := bo_ H; (try dsimp only at H)
 by_cases c3 : t476 = true
 ·
  subst c3; rw [if_pos rfl] at H; obtain ⟨⟨t477, t480⟩, A4, H⟩ := bo_ H; (try dsimp only at H); obtain rfl := Option.some.inj H
  go_enter Tryz.func53, Tryz.ntmps53
  go_wp2_with (first | ((with_reducible refine gate_dst (N := 1) rfl ?_); refine bz_ 1 ?_; intro gb475 hg w5 hbox hb; obtain ⟨BK475, GW475, GE475, HB⟩ := nb_ hg hbox HB hb; clear hb hbox hg; have hcz6 := box4_ BK475.out) | ((with_reducible refine gc_ 54 ?_); refine gl_ (some 8) Tryz.func54 #[.int .i64 (l0_3.length : Int), .int .i64 1, .int .i64 6] ?_; (with_reducible refine (impl_in.calls A2.out).mono ?_); rintro e w' ⟨rfl, ⟨nd, rfl⟩⟩; refine ⟨_, rfl, ?_⟩) | ((with_reducible refine gc_ 80 ?_); refine gl_ (some 12) Tryz.func80 #[.agg #[.int .i64 a0_0, .int .i64 a0_1, .int .i64 a0_2, .slice A0_3 l0_3.length c0_3]] ?_; (with_reducible refine (impl_Model_shapes.calls ?_ ?_ A4.out).mono ?_); exact cu_ HR0_3.out HB.out; exact HC0_3.out; rintro e w7 ⟨v478, rfl, ho0, hb⟩; refine ⟨_, rfl, ?_⟩; have HO479 := Aside0.mk (Kd.R_lower ho0 (below_size (be_ HB.out))); replace BK475 := bb_ BK475 hb; replace HB := hb_ HB hb; (try clear hb ho0)))
  go_ret
  exact rt_ HB.out
 ·
  replace c3 := Bool.eq_false_iff.mpr c3; subst c3; have H1 : (some false) = some r := by rw [if_neg (show ¬ (false = true) by decide)] at H; exact H
  clear H; have H := H1; clear H1; obtain rfl := Option.some.inj H
  go_enter Tryz.func53, Tryz.ntmps53
  go_wp2_with (first | ((with_reducible refine gate_dst (N := 1) rfl ?_); refine bz_ 1 ?_; intro gb475 hg w8 hbox hb; obtain ⟨BK475, GW475, GE475, HB⟩ := nb_ hg hbox HB hb; clear hb hbox hg; have hcz9 := box4_ BK475.out) | ((with_reducible refine gc_ 54 ?_); refine gl_ (some 8) Tryz.func54 #[.int .i64 (l0_3.length : Int), .int .i64 1, .int .i64 6] ?_; (with_reducible refine (impl_in.calls A2.out).mono ?_); rintro e w' ⟨rfl, ⟨nd, rfl⟩⟩; refine ⟨_, rfl, ?_⟩))
  go_ret
  exact rt_ HB.out

def impl_TensorOk.f (k : Nat) (a0_0 : Int) (a0_1 : Int) (a0_2 : Int) (l0_3 : List Int) : Option (Bool) := (impl_ShapeOk.f a0_0 a0_1 a0_2).bind fun t482 => (if t482 = true then ((impl_SizeOf.f a0_0 a0_1 a0_2).bind fun t483 => (if (l0_3.length : Int) = t483 then ((impl_areItems.f k l0_3).bind fun t484 => (some t484)) else (some false))) else (some false))
def impl_TensorOk.T1 : Bool × List (List Nat × List Nat) := (true, [([], []), ([0], [0]), ([1], [1]), ([2, 2], [2]), ([3], [3]), ([4, 3], [3, 4]), ([5, 3], [3, 5]), ([3], [3]), ([7, 3], [3, 7]), ([8, 3, 3], [3, 8]), ([6, 9, 3], [3, 6, 9]), ([3, 10], [3, 10]), ([11, 9], [11]), ([12], [12]), ([13, 12], [12, 13]), ([14, 12, 12], [12, 14]), ([12, 15], [12, 15]), ([16, 15, 0, 1, 2, 3, 4, 5, 6, 7, 8, 9, 10, 11, 12, 13, 14, 15, 16], [16])])
def impl_TensorOk.B1 : List Nat := [0, 1, 3, 7, 15, 31, 63, 15, 143, 399, 1023, 2047, 4095, 8191, 16383, 32767, 65535, 131071]
theorem impl_TensorOk.tab1 : rtab .any (opsOf Tryz.f55 1) = impl_TensorOk.T1 := by kernel_rfl
theorem impl_TensorOk.bits1 : waitsOk impl_TensorOk.T1.2 impl_TensorOk.B1 = true := by kernel_rfl
set_option maxHeartbeats 8000000 in
set_option maxRecDepth 100000 in
theorem impl_TensorOk.calls {k : Nat} {a0_0 : Int} {a0_1 : Int} {a0_2 : Int} {A0_3 : Option Addr} {c0_3 : Nat} {l0_3 : List Int} {r : Bool} {w : World} (hr0_3 : Kd.C (Kd.int .i64) w A0_3 l0_3.length l0_3) (hc0_3 : l0_3.length ≤ c0_3) (h : impl_TensorOk.f k a0_0 a0_1 a0_2 l0_3 = some r) :
  Calls Tryz.prog 55 #[.agg #[.int .i64 a0_0, .int .i64 a0_1, .int .i64 a0_2, .slice A0_3 l0_3.length c0_3]] w fun e w' => e = .returned (.bool r) ∧ Below w.heap.size w w' := by
 have hu53 := Tryz.underlying53; have hu47 := Tryz.underlying47; have HR0_3 := Aside0.mk hr0_3; have HC0_3 := Aside0.mk hc0_3; clear hr0_3 hc0_3; have HB := Aside0.mk (Below.refl w.heap.size w); have H : ((impl_ShapeOk.f a0_0 a0_1 a0_2).bind fun t482 => (if t482 = true then ((impl_SizeOf.f a0_0 a0_1 a0_2).bind fun t483 => (if (l0_3.length : Int) = t483 then ((impl_areItems.f k l0_3).bind fun t484 => (some t484)) else (some false))) else (some false))) = some r := h; clear h; obtain ⟨t482, A2, H⟩ := bo_ H; (try dsimp only at H)
 by_cases c3 : t482 = true
 ·
  subst c3; rw [if_pos rfl] at H; obtain ⟨t483, A4, H⟩ := bo_ H; (try dsimp only at H)
  by_cases c5 : (l0_3.length : Int) = t483
  ·
   rw [if_pos c5] at H; have c5b0 : ((l0_3.length : Int) == t483) = true := beq_iff_eq.mpr c5; have c5b1 : ((l0_3.length : Int) != t483) = false := bne_eq_false_iff_eq.mpr c5; clear c5; obtain ⟨t484, A6, H⟩ := bo_ H; (try dsimp only at H); obtain rfl := Option.some.inj H
   go_enter Tryz.func55, Tryz.ntmps55
   try go_wp2_with (first | ((with_reducible refine gate_dst (N := 1) rfl ?_); (try (refine gate_guard (by rfl) ?_; dsimp only)); refine bz_ 1 ?_; intro gb481 hg w7 hbox hb; obtain ⟨BK481, GW481, GE481, HB⟩ := nb_ hg hbox HB hb; clear hb hbox hg))
   replace BK481 := Aside0.mk (blk_drew BK481.out); replace HB := Aside0.mk (below_drew1 HB.out); refine sta_ 18 (fun w' => CE_ w' gb481 0 (.int .i64 a0_0) ∧ CE_ w' gb481 1 (.int .i64 a0_1) ∧ CE_ w' gb481 2 (.int .i64 a0_2) ∧ CE_ w' gb481 3 (.slice A0_3 l0_3.length c0_3)) (cel4_ (bu_ BK481.out)) (fun hHeld => ?_); refine with_tabW impl_TensorOk.tab1 impl_TensorOk.bits1 (fun HT_ HW_ => ?_); generalize w7.drew = w8 at BK481 HB hHeld ⊢; refine pv_ 0 18 1 HT_.out ?_; refine tv_ 1 18 3 HT_.out HW_.out hHeld ?_; refine one_ (i := 2) (N := some 5) (bl_ 18 7) rfl rfl (one_of HT_.out (by kernel_rfl)) (by decide) (fun K hK => ?_); refine ge_ Tryz.func81 #[.agg #[.int .i64 a0_0, .int .i64 a0_1, .int .i64 a0_2]] ?_
   (with_reducible refine (impl_ShapeOk.calls A2.out).mono ?_)
   rintro e w9 ⟨rfl, hb⟩; refine ⟨_, rfl, ?_⟩; replace BK481 := bb_ BK481 hb; replace HB := hb_ HB hb; (try clear hb); refine hK.out _ _ (cel4_ (bu_ BK481.out)) (fun hHeld => ?_); clear hK K; refine nm_ 5 (h := ?_); refine pv_ 3 18 15 HT_.out ?_; refine pv_ 4 18 31 HT_.out ?_; refine pv_ 7 18 159 HT_.out ?_; refine tv_ 5 18 191 HT_.out HW_.out hHeld ?_; refine pv_ 6 18 255 HT_.out ?_; refine tv_ 8 18 511 HT_.out HW_.out hHeld ?_; refine one_ (i := 9) (N := some 12) (bl_ 18 1023) rfl rfl (one_of HT_.out (by kernel_rfl)) (by decide) (fun K hK => ?_); refine ge_ Tryz.func82 #[.agg #[.int .i64 a0_0, .int .i64 a0_1, .int .i64 a0_2]] ?_
   (with_reducible refine (impl_SizeOf.calls A4.out).mono ?_)
   rintro e w10 ⟨rfl, hb⟩; refine ⟨_, rfl, ?_⟩; replace BK481 := bb_ BK481 hb; replace HB := hb_ HB hb; (try clear hb); refine hK.out _ _ (cel4_ (bu_ BK481.out)) (fun hHeld => ?_); clear hK K; refine nm_ 12 (h := ?_); refine pv_ 10 18 2047 HT_.out ?_; refine pv_ 11 18 4095 HT_.out ?_; refine pv_ 12 18 8191 HT_.out ?_; refine pv_ 13 18 16383 HT_.out ?_; refine tv_ 14 18 32767 HT_.out HW_.out hHeld ?_; refine one_ (i := 15) (N := some 18) (bl_ 18 65535) rfl rfl (one_of HT_.out (by kernel_rfl)) (by decide) (fun K hK => ?_); refine ge_ Tryz.func83 #[.slice A0_3 l0_3.length c0_3] ?_
   (with_reducible refine (impl_areItems.calls ?_ ?_ A6.out).mono ?_); exact cu_ HR0_3.out HB.out; exact HC0_3.out; rintro e w' ⟨rfl, ⟨nd, rfl⟩⟩; refine ⟨_, rfl, ?_⟩; refine hK.out _ _ (cel4_ (bu_ BK481.out)) (fun hHeld => ?_); clear hK K; refine nm_ 18 (h := ?_); refine pv_ 16 18 131071 HT_.out ?_; refine pv_ 17 18 262143 HT_.out ?_; refine done_ (done_of HT_.out (by kernel_rfl)) ?_
   try go_wp2
   go_ret
   exact rt_ HB.out
  ·
   rw [if_neg c5] at H; have c5b0 : ((l0_3.length : Int) == t483) = false := beq_eq_false_iff_ne.mpr c5; have c5b1 : ((l0_3.length : Int) != t483) = true := bne_iff_ne.mpr c5; obtain rfl := Option.some.inj H
   go_enter Tryz.func55, Tryz.ntmps55
   try go_wp2_with (first | ((with_reducible refine gate_dst (N := 1) rfl ?_); (try (refine gate_guard (by rfl) ?_; dsimp only)); refine bz_ 1 ?_; intro gb481 hg w11 hbox hb; obtain ⟨BK481, GW481, GE481, HB⟩ := nb_ hg hbox HB hb; clear hb hbox hg))
   replace BK481 := Aside0.mk (blk_drew BK481.out); replace HB := Aside0.mk (below_drew1 HB.out); refine sta_ 18 (fun w' => CE_ w' gb481 0 (.int .i64 a0_0) ∧ CE_ w' gb481 1 (.int .i64 a0_1) ∧ CE_ w' gb481 2 (.int .i64 a0_2) ∧ CE_ w' gb481 3 (.slice A0_3 l0_3.length c0_3)) (cel4_ (bu_ BK481.out)) (fun hHeld => ?_); refine with_tabW impl_TensorOk.tab1 impl_TensorOk.bits1 (fun HT_ HW_ => ?_); generalize w11.drew = w12 at BK481 HB hHeld ⊢; refine pv_ 0 18 1 HT_.out ?_; refine tv_ 1 18 3 HT_.out HW_.out hHeld ?_; refine one_ (i := 2) (N := some 5) (bl_ 18 7) rfl rfl (one_of HT_.out (by kernel_rfl)) (by decide) (fun K hK => ?_); refine ge_ Tryz.func81 #[.agg #[.int .i64 a0_0, .int .i64 a0_1, .int .i64 a0_2]] ?_
   (with_reducible refine (impl_ShapeOk.calls A2.out).mono ?_)
   rintro e w13 ⟨rfl, hb⟩; refine ⟨_, rfl, ?_⟩; replace BK481 := bb_ BK481 hb; replace HB := hb_ HB hb; (try clear hb); refine hK.out _ _ (cel4_ (bu_ BK481.out)) (fun hHeld => ?_); clear hK K; refine nm_ 5 (h := ?_); refine pv_ 3 18 15 HT_.out ?_; refine pv_ 4 18 31 HT_.out ?_; refine pv_ 7 18 159 HT_.out ?_; refine tv_ 5 18 191 HT_.out HW_.out hHeld ?_; refine pv_ 6 18 255 HT_.out ?_; refine tv_ 8 18 511 HT_.out HW_.out hHeld ?_; refine one_ (i := 9) (N := some 12) (bl_ 18 1023) rfl rfl (one_of HT_.out (by kernel_rfl)) (by decide) (fun K hK => ?_); refine ge_ Tryz.func82 #[.agg #[.int .i64 a0_0, .int .i64 a0_1, .int .i64 a0_2]] ?_
   (with_reducible refine (impl_SizeOf.calls A4.out).mono ?_)
   rintro e w14 ⟨rfl, hb⟩; refine ⟨_, rfl, ?_⟩; replace BK481 := bb_ BK481 hb; replace HB := hb_ HB hb; (try clear hb); refine hK.out _ _ (cel4_ (bu_ BK481.out)) (fun hHeld => ?_); clear hK K; refine nm_ 12 (h := ?_); refine pv_ 10 18 2047 HT_.out ?_; refine pv_ 11 18 4095 HT_.out ?_; refine pv_ 12 18 8191 HT_.out ?_; refine pw_ 13 18 16383 HT_.out ?_; refine pw_ 14 18 32767 HT_.out ?_; refine pw_ 15 18 65535 HT_.out ?_; refine pv_ 16 18 131071 HT_.out ?_; refine pv_ 17 18 262143 HT_.out ?_; refine done_ (done_of HT_.out (by kernel_rfl)) ?_
   try go_wp2
   go_ret
   exact rt_ HB.out
 ·
  replace c3 := Bool.eq_false_iff.mpr c3; subst c3; have H1 : (some false) = some r := by rw [if_neg (show ¬ (false = true) by decide)] at H; exact H
  clear H; have H := H1; clear H1; obtain rfl := Option.some.inj H
  go_enter Tryz.func55, Tryz.ntmps55
  try go_wp2_with (first | ((with_reducible refine gate_dst (N := 1) rfl ?_); (try (refine gate_guard (by rfl) ?_; dsimp only)); refine bz_ 1 ?_; intro gb481 hg w15 hbox hb; obtain ⟨BK481, GW481, GE481, HB⟩ := nb_ hg hbox HB hb; clear hb hbox hg))
  replace BK481 := Aside0.mk (blk_drew BK481.out); replace HB := Aside0.mk (below_drew1 HB.out); refine sta_ 18 (fun w' => CE_ w' gb481 0 (.int .i64 a0_0) ∧ CE_ w' gb481 1 (.int .i64 a0_1) ∧ CE_ w' gb481 2 (.int .i64 a0_2) ∧ CE_ w' gb481 3 (.slice A0_3 l0_3.length c0_3)) (cel4_ (bu_ BK481.out)) (fun hHeld => ?_); refine with_tabW impl_TensorOk.tab1 impl_TensorOk.bits1 (fun HT_ HW_ => ?_); generalize w15.drew = w16 at BK481 HB hHeld ⊢; refine pv_ 0 18 1 HT_.out ?_; refine tv_ 1 18 3 HT_.out HW_.out hHeld ?_; refine one_ (i := 2) (N := some 5) (bl_ 18 7) rfl rfl (one_of HT_.out (by kernel_rfl)) (by decide) (fun K hK => ?_); refine ge_ Tryz.func81 #[.agg #[.int .i64 a0_0, .int .i64 a0_1, .int .i64 a0_2]] ?_
  (with_reducible refine (impl_ShapeOk.calls A2.out).mono ?_)
  rintro e w17 ⟨rfl, hb⟩; refine ⟨_, rfl, ?_⟩; replace BK481 := bb_ BK481 hb; replace HB := hb_ HB hb; (try clear hb); refine hK.out _ _ (cel4_ (bu_ BK481.out)) (fun hHeld => ?_); clear hK K; refine nm_ 5 (h := ?_); refine pv_ 3 18 15 HT_.out ?_; refine pw_ 4 18 31 HT_.out ?_; refine pw_ 5 18 63 HT_.out ?_; refine pw_ 6 18 127 HT_.out ?_; refine pw_ 7 18 255 HT_.out ?_; refine pw_ 8 18 511 HT_.out ?_; refine pw_ 9 18 1023 HT_.out ?_; refine pw_ 10 18 2047 HT_.out ?_; refine pv_ 11 18 4095 HT_.out ?_; refine pv_ 12 18 8191 HT_.out ?_; refine pw_ 13 18 16383 HT_.out ?_; refine pw_ 14 18 32767 HT_.out ?_; refine pw_ 15 18 65535 HT_.out ?_; refine pv_ 16 18 131071 HT_.out ?_; refine pv_ 17 18 262143 HT_.out ?_; refine done_ (done_of HT_.out (by kernel_rfl)) ?_
  try go_wp2
  go_ret
  exact rt_ HB.out

def impl_ShapesOf.f (k : Nat) (a0_0 : Int) (a0_1 : Int) (a0_2 : Int) (l0_3 : List (S133)) : Option ((List (S47))) := (impl_ModelOk.f k a0_0 a0_1 a0_2 l0_3).bind fun t486 => (if t486 = true then ((impl_Model_shapes.f k a0_0 a0_1 a0_2 l0_3).bind fun bt487 => (some bt487.1)) else (some ([] : List (S47))))
set_option maxHeartbeats 8000000 in
set_option maxRecDepth 100000 in
theorem impl_ShapesOf.calls {k : Nat} {a0_0 : Int} {a0_1 : Int} {a0_2 : Int} {A0_3 : Option Addr} {c0_3 : Nat} {l0_3 : List (S133)} {r : List (S47)} {w : World} (hr0_3 : Kd.C k133 w A0_3 l0_3.length l0_3) (hc0_3 : l0_3.length ≤ c0_3) (h : impl_ShapesOf.f k a0_0 a0_1 a0_2 l0_3 = some r) :
  Calls Tryz.prog 56 #[.agg #[.int .i64 a0_0, .int .i64 a0_1, .int .i64 a0_2, .slice A0_3 l0_3.length c0_3]] w fun e w' => ∃ v0_ : Value, e = .returned (v0_) ∧ Kd.R k47 47 w' w.heap.size (fun _ => True) v0_ r ∧ Below w.heap.size w w' := by
 have hu50 := Tryz.underlying50; have HR0_3 := Aside0.mk hr0_3; have HC0_3 := Aside0.mk hc0_3; clear hr0_3 hc0_3; have HB := Aside0.mk (Below.refl w.heap.size w); have H : ((impl_ModelOk.f k a0_0 a0_1 a0_2 l0_3).bind fun t486 => (if t486 = true then ((impl_Model_shapes.f k a0_0 a0_1 a0_2 l0_3).bind fun bt487 => (some bt487.1)) else (some ([] : List (S47))))) = some r := h; clear h; obtain ⟨t486, A2, H⟩ := bo_ H; (try dsimp only at H)
 by_cases c3 : t486 = true
 ·
  subst c3; rw [if_pos rfl] at H; obtain ⟨⟨t487, t490⟩, A4, H⟩ := bo_ H; (try dsimp only at H); obtain rfl := Option.some.inj H
  go_enter Tryz.func56, Tryz.ntmps56
  go_wp2_with (first | ((with_reducible refine gate_dst (N := 1) rfl ?_); refine bz_ 1 ?_; intro gb485 hg w5 hbox hb; obtain ⟨BK485, GW485, GE485, HB⟩ := nb_ hg hbox HB hb; clear hb hbox hg; have hcz6 := box4_ BK485.out) | ((with_reducible refine gc_ 53 ?_); refine gl_ (some 6) Tryz.func53 #[.agg #[.int .i64 a0_0, .int .i64 a0_1, .int .i64 a0_2, .slice A0_3 l0_3.length c0_3]] ?_; (with_reducible refine (impl_ModelOk.calls ?_ ?_ A2.out).mono ?_); exact cu_ HR0_3.out HB.out; exact HC0_3.out; rintro e w7 ⟨rfl, hb⟩; refine ⟨_, rfl, ?_⟩; replace BK485 := bb_ BK485 hb; replace HB := hb_ HB hb; (try clear hb); have hcz8 := box4_ BK485.out) | ((with_reducible refine gc_ 80 ?_); refine gl_ (some 10) Tryz.func80 #[.agg #[.int .i64 a0_0, .int .i64 a0_1, .int .i64 a0_2, .slice A0_3 l0_3.length c0_3]] ?_; (with_reducible refine (impl_Model_shapes.calls ?_ ?_ A4.out).mono ?_); exact cu_ HR0_3.out HB.out; exact HC0_3.out; rintro e w9 ⟨v488, rfl, ho0, hb⟩; refine ⟨_, rfl, ?_⟩; have HO489 := Aside0.mk (Kd.R_lower ho0 (below_size (be_ HB.out))); replace BK485 := bb_ BK485 hb; replace HB := hb_ HB hb; (try clear hb ho0)))
  go_ret
  exact ⟨_, by first | rfl | (simp [errW_none, errW_some] <;> rfl) | (simp [*, errW_none, errW_some] <;> rfl), by (with_reducible repeat (first | apply Kd.R_alloc | apply Kd.R_drewN | apply Kd.R_drew)); exact HO489.out, be_ HB.out⟩
 ·
  replace c3 := Bool.eq_false_iff.mpr c3; subst c3; have H1 : (some ([] : List (S47))) = some r := by rw [if_neg (show ¬ (false = true) by decide)] at H; exact H
  clear H; have H := H1; clear H1; obtain rfl := Option.some.inj H
  go_enter Tryz.func56, Tryz.ntmps56
  go_wp2_with (first | ((with_reducible refine gate_dst (N := 1) rfl ?_); refine bz_ 1 ?_; intro gb485 hg w10 hbox hb; obtain ⟨BK485, GW485, GE485, HB⟩ := nb_ hg hbox HB hb; clear hb hbox hg; have hcz11 := box4_ BK485.out) | ((with_reducible refine gc_ 53 ?_); refine gl_ (some 6) Tryz.func53 #[.agg #[.int .i64 a0_0, .int .i64 a0_1, .int .i64 a0_2, .slice A0_3 l0_3.length c0_3]] ?_; (with_reducible refine (impl_ModelOk.calls ?_ ?_ A2.out).mono ?_); exact cu_ HR0_3.out HB.out; exact HC0_3.out; rintro e w12 ⟨rfl, hb⟩; refine ⟨_, rfl, ?_⟩; replace BK485 := bb_ BK485 hb; replace HB := hb_ HB hb; (try clear hb)))
  go_ret
  exact ⟨_, by first | rfl | (simp [errW_none, errW_some] <;> rfl) | (simp [*, errW_none, errW_some] <;> rfl), by first | exact Kd.R_nil _ _ _ _ _ | exact Kd.N_nil _ _ _ _ _ | exact Kd.V_nil _ _ _ _ _ | exact Kd.Q_nil _ _ _ _ _ | exact Kd.S_nil _ _ _ _ _, be_ HB.out⟩

def impl_sum.l0 : Nat → Int → List Int → Int → Int → Option (Int)
 | 0, _, _, _, _ => none
 | k + 1, x3, x6, x7, x8 => if x8 < x7 then (if 0 ≤ x8 then (if x8 < (x6.length : Int) then (impl_sum.l0 k (wrap64 (x3 + (rd x6 x8))) x6 x7 (wrap64 (x8 + 1))) else (none)) else (none)) else (some x3)
def impl_sum.f (k : Nat) (l0 : List Int) : Option (Int) := impl_sum.l0 k 0 l0 (l0.length : Int) 0
set_option maxHeartbeats 8000000 in
set_option maxRecDepth 100000 in
theorem impl_sum.calls {k : Nat} {A0 : Option Addr} {c0 : Nat} {l0 : List Int} {r : Int} {w : World} (hr0 : Kd.C (Kd.int .i64) w A0 l0.length l0) (hc0 : l0.length ≤ c0) (h : impl_sum.f k l0 = some r) :
  Calls Tryz.prog 57 #[.slice A0 l0.length c0] w fun e w' => e = .returned (.int .i64 r) ∧ Drawn0 w w' := by
 have HR0 := Aside0.mk hr0; have HC0 := Aside0.mk hc0; clear hr0 hc0; have H : (impl_sum.l0 k 0 l0 (l0.length : Int) 0) = some r := h; clear h; have H' := Aside0.mk H; clear H
 go_enter Tryz.func57, Tryz.ntmps57
 go_wp2
 go_loopg [3, 8] k (fun kq v3 v8 w' => ∃ (x3_1 : Int) (x8_1 : Int), v3 = .int .i64 x3_1 ∧ v8 = .int .i64 x8_1 ∧ Aside0 (impl_sum.l0 kq x3_1 l0 (l0.length : Int) x8_1 = some r) ∧ Aside0 (kq ≤ k) ∧ Drawn0 w w')
 case atStart => exact ⟨(0), (0), (by first | rfl | (simp; done) | (simp [*]; done)), (by first | rfl | (simp; done) | (simp [*]; done)), H', ⟨Nat.le_refl _⟩, by repeat (first | exact Drawn0.refl _ | apply Drawn0.step)⟩
 case round =>
  clear H'; obtain ⟨x3_1, x8_1, rfl, rfl, HA, HK1, ⟨m1, rfl⟩⟩ := hrel
  cases gk with
  | zero => exact absurd HA.out (by simp [impl_sum.l0])
  | succ k1 =>
   have H := HA.out; clear HA; simp only [impl_sum.l0] at H
   by_cases c2 : x8_1 < (l0.length : Int)
   ·
    rw [if_pos c2] at H; have c2b0 : decide (x8_1 < (l0.length : Int)) = true := decide_eq_true c2; clear c2
    by_cases c3 : 0 ≤ x8_1
    ·
     rw [if_pos c3] at H; have c3b0 : decide (0 ≤ x8_1) = true := decide_eq_true c3; clear c3
     by_cases c4 : x8_1 < (l0.length : Int)
     ·
      rw [if_pos c4] at H; have c4b0 : decide (x8_1 < (l0.length : Int)) = true := decide_eq_true c4; clear c4; have H' := Aside0.mk H; clear H; have p491 : 0 ≤ (x8_1 : Int) := od_; have q491 : x8_1 < (l0.length : Int) := od_; obtain ⟨ad491, e491, hx491_0⟩ := Kd.at_int HR0.out x8_1 p491 q491
      cases e491
      replace p491 := eq_true p491; replace q491 := eq_true q491
      go_wp2
      go_roundg k1
      case measure => have := HK1.out; omega
      case rel => exact ⟨(wrap64 (x3_1 + (rd l0 x8_1))), (wrap64 (x8_1 + 1)), (by first | rfl | (simp; done) | (simp [*]; done)), (by first | rfl | (simp; done) | (simp [*]; done)), H', ⟨by have := HK1.out; omega⟩, by repeat (first | exact Drawn0.refl _ | apply Drawn0.step)⟩
     ·
      rw [if_neg c4] at H; exact absurd H (by simp)
    ·
     rw [if_neg c3] at H; exact absurd H (by simp)
   ·
    rw [if_neg c2] at H; have c2b0 : decide (x8_1 < (l0.length : Int)) = false := decide_eq_false c2; clear c2; obtain rfl := Option.some.inj H
    go_wp2
    go_ret
    exact ⟨by first | rfl | (simp; done) | (simp [*]; done), by repeat (first | exact Drawn0.refl _ | apply Drawn0.step)⟩

end Go.Proofs.YtemnodpabflkoaaGreatDoor.QFnExactQueueText
