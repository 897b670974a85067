/- The Go functions that the statement FnExactQueueText reaches, as Lean functions, each with a proof that the call does what its function says; laid by a program of this session. No condition. -/
import Derived.Test.YtemnodpabflkoaaGreatDoorQFnExactQueueTextx0
namespace Go.Proofs.YtemnodpabflkoaaGreatDoor.QFnExactQueueText
open Go.RowKit Go.Proofs.YtemnodpabflkoaaGreatDoorW.PrintWords Go.Proofs.YtemnodpabflkoaaGreatDoorW.PrintLast Go.Proofs.YtemnodpabflkoaaGreatDoorW.PrintMore
attribute [local go_sem] max2_int min2_int max_two min_two max_three min_three max_four min_four   -- for this text's walks alone
set_option linter.unusedVariables false
set_option linter.unusedSimpArgs false

def laws_szIntS.f (l0 : List Int) (a1 : Int) : Option (Int) := if (wrap64 (a1 - (l0.length : Int))) < 0 then (some (-1)) else (some (wrap64 (a1 - (l0.length : Int))))
set_option maxHeartbeats 8000000 in
set_option maxRecDepth 100000 in
theorem laws_szIntS.calls {A0 : Option Addr} {c0 : Nat} {l0 : List Int} {a1 : Int} {r : Int} {w : World} (hr0 : Kd.C (Kd.int .i64) w A0 l0.length l0) (hc0 : l0.length ≤ c0) (h : laws_szIntS.f l0 a1 = some r) :
  Calls Tryz.prog 65 #[.slice A0 l0.length c0, .int .i64 a1] w fun e w' => e = .returned (.int .i64 r) ∧ Drawn0 w w' := by
 have HR0 := Aside0.mk hr0; have HC0 := Aside0.mk hc0; clear hr0 hc0; have H : (if (wrap64 (a1 - (l0.length : Int))) < 0 then (some (-1)) else (some (wrap64 (a1 - (l0.length : Int))))) = some r := h; clear h
 by_cases c3 : (wrap64 (a1 - (l0.length : Int))) < 0
 ·
  rw [if_pos c3] at H; have c3b0 : decide ((wrap64 (a1 - (l0.length : Int))) < 0) = true := decide_eq_true c3; clear c3; obtain rfl := Option.some.inj H
  go_enter Tryz.func65, Tryz.ntmps65
  go_wp2
  go_ret
  exact ⟨by first | rfl | (simp; done) | (simp [*]; done), by repeat (first | exact Drawn0.refl _ | apply Drawn0.step)⟩
 ·
  rw [if_neg c3] at H; have c3b0 : decide ((wrap64 (a1 - (l0.length : Int))) < 0) = false := decide_eq_false c3; clear c3; obtain rfl := Option.some.inj H
  go_enter Tryz.func65, Tryz.ntmps65
  go_wp2
  go_ret
  exact ⟨by first | rfl | (simp; done) | (simp [*]; done), by repeat (first | exact Drawn0.refl _ | apply Drawn0.step)⟩

def laws_szTask.f (a0_0 : Int) (l0_1 : List Int) (a0_2 : Int) (a0_3 : Int) (a0_4 : Int) (a1 : Int) : Option (Int) := (laws_szIntS.f l0_1 a1).bind fun t102 => (if t102 < 0 then (some (-1)) else (some t102))
set_option maxHeartbeats 8000000 in
set_option maxRecDepth 100000 in
theorem laws_szTask.calls {a0_0 : Int} {A0_1 : Option Addr} {c0_1 : Nat} {l0_1 : List Int} {a0_2 : Int} {a0_3 : Int} {a0_4 : Int} {a1 : Int} {r : Int} {w : World} (hr0_1 : Kd.C (Kd.int .i64) w A0_1 l0_1.length l0_1) (hc0_1 : l0_1.length ≤ c0_1) (h : laws_szTask.f a0_0 l0_1 a0_2 a0_3 a0_4 a1 = some r) :
  Calls Tryz.prog 41 #[.agg #[.int .i64 a0_0, .slice A0_1 l0_1.length c0_1, .int .i64 a0_2, .int .i64 a0_3, .int .i64 a0_4], .int .i64 a1] w fun e w' => e = .returned (.int .i64 r) ∧ Below w.heap.size w w' := by
 have hu102 := Tryz.underlying102; have HR0_1 := Aside0.mk hr0_1; have HC0_1 := Aside0.mk hc0_1; clear hr0_1 hc0_1; have HB := Aside0.mk (Below.refl w.heap.size w); have H : ((laws_szIntS.f l0_1 a1).bind fun t102 => (if t102 < 0 then (some (-1)) else (some t102))) = some r := h; clear h; obtain ⟨t102, A3, H⟩ := bo_ H; (try dsimp only at H)
 by_cases c4 : t102 < 0
 ·
  rw [if_pos c4] at H; have c4b0 : decide (t102 < 0) = true := decide_eq_true c4; clear c4; obtain rfl := Option.some.inj H
  go_enter Tryz.func41, Tryz.ntmps41
  go_wp2_with (first | ((with_reducible refine gate_dst (N := 2) rfl ?_); refine bz_ 2 ?_; intro gb101 hg w5 hbox hb; obtain ⟨BK101, GW101, GE101, HB⟩ := nb_ hg hbox HB hb; clear hb hbox hg; have hcz6 := box5_ BK101.out) | ((with_reducible refine gc_ 65 ?_); refine gl_ (some 8) Tryz.func65 #[.slice A0_1 l0_1.length c0_1, .int .i64 a1] ?_; (with_reducible refine (laws_szIntS.calls ?_ ?_ A3.out).mono ?_); exact cu_ HR0_1.out HB.out; exact HC0_1.out; rintro e w' ⟨rfl, ⟨nd, rfl⟩⟩; refine ⟨_, rfl, ?_⟩))
  go_ret
  exact rt_ HB.out
 ·
  rw [if_neg c4] at H; have c4b0 : decide (t102 < 0) = false := decide_eq_false c4; clear c4; obtain rfl := Option.some.inj H
  go_enter Tryz.func41, Tryz.ntmps41
  go_wp2_with (first | ((with_reducible refine gate_dst (N := 2) rfl ?_); refine bz_ 2 ?_; intro gb101 hg w7 hbox hb; obtain ⟨BK101, GW101, GE101, HB⟩ := nb_ hg hbox HB hb; clear hb hbox hg; have hcz8 := box5_ BK101.out) | ((with_reducible refine gc_ 65 ?_); refine gl_ (some 8) Tryz.func65 #[.slice A0_1 l0_1.length c0_1, .int .i64 a1] ?_; (with_reducible refine (laws_szIntS.calls ?_ ?_ A3.out).mono ?_); exact cu_ HR0_1.out HB.out; exact HC0_1.out; rintro e w' ⟨rfl, ⟨nd, rfl⟩⟩; refine ⟨_, rfl, ?_⟩))
  go_ret
  exact rt_ HB.out

def laws_szTaskS.l0 : Nat → List (S102) → Int → Int → Option (Int)
 | 0, _, _, _ => none
 | k + 1, x0, x1, x5 => if x5 < (x0.length : Int) then (if 0 ≤ x5 then ((laws_szTask.f ((rd_T102 x0 x5).f0) ((rd_T102 x0 x5).f1) ((rd_T102 x0 x5).f2) ((rd_T102 x0 x5).f3) ((rd_T102 x0 x5).f4) x1).bind fun t104 => (if t104 < 0 then (some (-1)) else (laws_szTaskS.l0 k x0 t104 (wrap64 (x5 + 1))))) else (none)) else (some x1)
def laws_szTaskS.f (k : Nat) (l0 : List (S102)) (a1 : Int) : Option (Int) := if (wrap64 (a1 - (l0.length : Int))) < 0 then (some (-1)) else (laws_szTaskS.l0 k l0 (wrap64 (a1 - (l0.length : Int))) 0)
set_option maxHeartbeats 8000000 in
set_option maxRecDepth 100000 in
theorem laws_szTaskS.calls {k : Nat} {A0 : Option Addr} {c0 : Nat} {l0 : List (S102)} {a1 : Int} {r : Int} {w : World} (hr0 : Kd.C k102 w A0 l0.length l0) (hc0 : l0.length ≤ c0) (h : laws_szTaskS.f k l0 a1 = some r) :
  Calls Tryz.prog 26 #[.slice A0 l0.length c0, .int .i64 a1] w fun e w' => e = .returned (.int .i64 r) ∧ Below w.heap.size w w' := by
 have hu102 := Tryz.underlying102; have HR0 := Aside0.mk hr0; have HC0 := Aside0.mk hc0; clear hr0 hc0; have HB := Aside0.mk (Below.refl w.heap.size w); have H : (if (wrap64 (a1 - (l0.length : Int))) < 0 then (some (-1)) else (laws_szTaskS.l0 k l0 (wrap64 (a1 - (l0.length : Int))) 0)) = some r := h; clear h
 by_cases c3 : (wrap64 (a1 - (l0.length : Int))) < 0
 ·
  rw [if_pos c3] at H; have c3b0 : decide ((wrap64 (a1 - (l0.length : Int))) < 0) = true := decide_eq_true c3; clear c3; obtain rfl := Option.some.inj H
  go_enter Tryz.func26, Tryz.ntmps26
  go_wp2
  go_ret
  exact rt_ HB.out
 ·
  rw [if_neg c3] at H; have c3b0 : decide ((wrap64 (a1 - (l0.length : Int))) < 0) = false := decide_eq_false c3; clear c3; have H' := Aside0.mk H; clear H
  go_enter Tryz.func26, Tryz.ntmps26
  go_wp2
  go_loopg [1, 5] k (fun kq v1 v5 w' => ∃ (x1_1 : Int) (x5_1 : Int), v1 = .int .i64 x1_1 ∧ v5 = .int .i64 x5_1 ∧ Aside0 (laws_szTaskS.l0 kq l0 x1_1 x5_1 = some r) ∧ Aside0 (kq ≤ k) ∧ Aside0 (Below w.heap.size w w'))
  case atStart => exact ⟨(wrap64 (a1 - (l0.length : Int))), (0), (by first | rfl | (simp; done) | (simp [*]; done)), (by first | rfl | (simp; done) | (simp [*]; done)), H', ⟨Nat.le_refl _⟩, ⟨be_ HB.out⟩⟩
  case round =>
   clear H'; (try clear c2); (try clear p2); (try clear c3); (try clear c3b0); obtain ⟨x1_1, x5_1, rfl, rfl, HA, HK1, HB⟩ := hrel
   cases gk with
   | zero => exact absurd HA.out (by simp [laws_szTaskS.l0])
   | succ k1 =>
    have H := HA.out; clear HA; simp only [laws_szTaskS.l0] at H
    by_cases c4 : x5_1 < (l0.length : Int)
    ·
     rw [if_pos c4] at H; have c4b0 : decide (x5_1 < (l0.length : Int)) = true := decide_eq_true c4; clear c4
     by_cases c5 : 0 ≤ x5_1
     ·
      rw [if_pos c5] at H; have c5b0 : decide (0 ≤ x5_1) = true := decide_eq_true c5; clear c5; obtain ⟨t104, A6, H⟩ := bo_ H; (try dsimp only at H)
      by_cases c7 : t104 < 0
      ·
       rw [if_pos c7] at H; have c7b0 : decide (t104 < 0) = true := decide_eq_true c7; clear c7; obtain rfl := Option.some.inj H; have p103 : 0 ≤ (x5_1 : Int) := od_; have q103 : x5_1 < (l0.length : Int) := od_; obtain ⟨ad103, A103_1, c103_1, e103, hx103_0, hx103_1, hx103_2, hx103_3, hx103_4, hl103_1, hi103_1⟩ := at_T102 HR0.out x5_1 p103 q103
       cases e103
       replace hx103_0 := cw_ HB.out hx103_0; replace hx103_1 := cw_ HB.out hx103_1; replace hx103_2 := cw_ HB.out hx103_2; replace hx103_3 := cw_ HB.out hx103_3; replace hx103_4 := cw_ HB.out hx103_4; have HR103_1 := Aside0.mk hi103_1; have HC103_1 := Aside0.mk hl103_1; clear hi103_1 hl103_1; replace p103 := eq_true p103; replace q103 := eq_true q103
       go_wp2_with (first | ((with_reducible refine gc_ 41 ?_); refine gl_ (some 23) Tryz.func41 #[.agg #[.int .i64 ((rd_T102 l0 x5_1).f0), .slice A103_1 ((rd_T102 l0 x5_1).f1).length c103_1, .int .i64 ((rd_T102 l0 x5_1).f2), .int .i64 ((rd_T102 l0 x5_1).f3), .int .i64 ((rd_T102 l0 x5_1).f4)], .int .i64 x1_1] ?_; (with_reducible refine (laws_szTask.calls ?_ ?_ A6.out).mono ?_); exact cu_ HR103_1.out HB.out; exact HC103_1.out; rintro e w8 ⟨rfl, hb⟩; refine ⟨_, rfl, ?_⟩; replace HB := hb_ HB hb; (try clear hb)))
       go_ret
       exact rt_ HB.out
      ·
       rw [if_neg c7] at H; have c7b0 : decide (t104 < 0) = false := decide_eq_false c7; clear c7; have H' := Aside0.mk H; clear H; have p103 : 0 ≤ (x5_1 : Int) := od_; have q103 : x5_1 < (l0.length : Int) := od_; obtain ⟨ad103, A103_1, c103_1, e103, hx103_0, hx103_1, hx103_2, hx103_3, hx103_4, hl103_1, hi103_1⟩ := at_T102 HR0.out x5_1 p103 q103
       cases e103
       replace hx103_0 := cw_ HB.out hx103_0; replace hx103_1 := cw_ HB.out hx103_1; replace hx103_2 := cw_ HB.out hx103_2; replace hx103_3 := cw_ HB.out hx103_3; replace hx103_4 := cw_ HB.out hx103_4; have HR103_1 := Aside0.mk hi103_1; have HC103_1 := Aside0.mk hl103_1; clear hi103_1 hl103_1; replace p103 := eq_true p103; replace q103 := eq_true q103
       go_wp2_with (first | ((with_reducible refine gc_ 41 ?_); refine gl_ (some 23) Tryz.func41 #[.agg #[.int .i64 ((rd_T102 l0 x5_1).f0), .slice A103_1 ((rd_T102 l0 x5_1).f1).length c103_1, .int .i64 ((rd_T102 l0 x5_1).f2), .int .i64 ((rd_T102 l0 x5_1).f3), .int .i64 ((rd_T102 l0 x5_1).f4)], .int .i64 x1_1] ?_; (with_reducible refine (laws_szTask.calls ?_ ?_ A6.out).mono ?_); exact cu_ HR103_1.out HB.out; exact HC103_1.out; rintro e w9 ⟨rfl, hb⟩; refine ⟨_, rfl, ?_⟩; replace HB := hb_ HB hb; (try clear hb)))
       go_roundg k1
       case measure => have := HK1.out; omega
       case rel => exact ⟨(t104), (wrap64 (x5_1 + 1)), (by first | rfl | (simp; done) | (simp [*]; done)), (by first | rfl | (simp; done) | (simp [*]; done)), H', ⟨by have := HK1.out; omega⟩, ⟨be_ HB.out⟩⟩
     ·
      rw [if_neg c5] at H; exact absurd H (by simp)
    ·
     rw [if_neg c4] at H; have c4b0 : decide (x5_1 < (l0.length : Int)) = false := decide_eq_false c4; clear c4; obtain rfl := Option.some.inj H
     go_wp2
     go_ret
     exact rt_ HB.out

def laws_szSched.f (k : Nat) (a0_0 : Int) (a0_1 : Int) (a0_2 : Int) (l0_3 : List (S102)) (a0_4 : Int) (a0_5 : Int) (a0_6 : Int) (a0_7 : Int) (a1 : Int) : Option (Int) := (laws_szTaskS.f k l0_3 a1).bind fun t106 => (if t106 < 0 then (some (-1)) else (some t106))
set_option maxHeartbeats 8000000 in
set_option maxRecDepth 100000 in
theorem laws_szSched.calls {k : Nat} {a0_0 : Int} {a0_1 : Int} {a0_2 : Int} {A0_3 : Option Addr} {c0_3 : Nat} {l0_3 : List (S102)} {a0_4 : Int} {a0_5 : Int} {a0_6 : Int} {a0_7 : Int} {a1 : Int} {r : Int} {w : World} (hr0_3 : Kd.C k102 w A0_3 l0_3.length l0_3) (hc0_3 : l0_3.length ≤ c0_3) (h : laws_szSched.f k a0_0 a0_1 a0_2 l0_3 a0_4 a0_5 a0_6 a0_7 a1 = some r) :
  Calls Tryz.prog 9 #[.agg #[.int .i64 a0_0, .int .i64 a0_1, .int .i64 a0_2, .slice A0_3 l0_3.length c0_3, .int .i64 a0_4, .int .i64 a0_5, .int .i64 a0_6, .int .i64 a0_7], .int .i64 a1] w fun e w' => e = .returned (.int .i64 r) ∧ Below w.heap.size w w' := by
 have hu24 := Tryz.underlying24; have HR0_3 := Aside0.mk hr0_3; have HC0_3 := Aside0.mk hc0_3; clear hr0_3 hc0_3; have HB := Aside0.mk (Below.refl w.heap.size w); have H : ((laws_szTaskS.f k l0_3 a1).bind fun t106 => (if t106 < 0 then (some (-1)) else (some t106))) = some r := h; clear h; obtain ⟨t106, A3, H⟩ := bo_ H; (try dsimp only at H)
 by_cases c4 : t106 < 0
 ·
  rw [if_pos c4] at H; have c4b0 : decide (t106 < 0) = true := decide_eq_true c4; clear c4; obtain rfl := Option.some.inj H
  go_enter Tryz.func9, Tryz.ntmps9
  go_wp2_with (first | ((with_reducible refine gate_dst (N := 2) rfl ?_); refine bz_ 2 ?_; intro gb105 hg w5 hbox hb; obtain ⟨BK105, GW105, GE105, HB⟩ := nb_ hg hbox HB hb; clear hb hbox hg; have hcz6 := box8_ BK105.out) | ((with_reducible refine gc_ 26 ?_); refine gl_ (some 8) Tryz.func26 #[.slice A0_3 l0_3.length c0_3, .int .i64 a1] ?_; (with_reducible refine (laws_szTaskS.calls ?_ ?_ A3.out).mono ?_); exact cu_ HR0_3.out HB.out; exact HC0_3.out; rintro e w7 ⟨rfl, hb⟩; refine ⟨_, rfl, ?_⟩; replace BK105 := bb_ BK105 hb; replace HB := hb_ HB hb; (try clear hb)))
  go_ret
  exact rt_ HB.out
 ·
  rw [if_neg c4] at H; have c4b0 : decide (t106 < 0) = false := decide_eq_false c4; clear c4; obtain rfl := Option.some.inj H
  go_enter Tryz.func9, Tryz.ntmps9
  go_wp2_with (first | ((with_reducible refine gate_dst (N := 2) rfl ?_); refine bz_ 2 ?_; intro gb105 hg w8 hbox hb; obtain ⟨BK105, GW105, GE105, HB⟩ := nb_ hg hbox HB hb; clear hb hbox hg; have hcz9 := box8_ BK105.out) | ((with_reducible refine gc_ 26 ?_); refine gl_ (some 8) Tryz.func26 #[.slice A0_3 l0_3.length c0_3, .int .i64 a1] ?_; (with_reducible refine (laws_szTaskS.calls ?_ ?_ A3.out).mono ?_); exact cu_ HR0_3.out HB.out; exact HC0_3.out; rintro e w10 ⟨rfl, hb⟩; refine ⟨_, rfl, ?_⟩; replace BK105 := bb_ BK105 hb; replace HB := hb_ HB hb; (try clear hb)))
  go_ret
  exact rt_ HB.out

def laws_szLayer.f (a0_0 : Int) (a0_1 : Int) (a0_2 : Int) (a0_3 : Int) (a0_4 : Int) (a0_5 : Int) (a0_6 : Int) (l0_7 : List Int) (l0_8 : List Int) (a1 : Int) : Option (Int) := (laws_szIntS.f l0_7 a1).bind fun t108 => (if t108 < 0 then (some (-1)) else ((laws_szIntS.f l0_8 t108).bind fun t109 => (if t109 < 0 then (some (-1)) else (some t109))))
set_option maxHeartbeats 8000000 in
set_option maxRecDepth 100000 in
theorem laws_szLayer.calls {a0_0 : Int} {a0_1 : Int} {a0_2 : Int} {a0_3 : Int} {a0_4 : Int} {a0_5 : Int} {a0_6 : Int} {A0_7 : Option Addr} {c0_7 : Nat} {l0_7 : List Int} {A0_8 : Option Addr} {c0_8 : Nat} {l0_8 : List Int} {a1 : Int} {r : Int} {w : World} (hr0_7 : Kd.C (Kd.int .i64) w A0_7 l0_7.length l0_7) (hc0_7 : l0_7.length ≤ c0_7) (hr0_8 : Kd.C (Kd.int .i64) w A0_8 l0_8.length l0_8) (hc0_8 : l0_8.length ≤ c0_8) (h : laws_szLayer.f a0_0 a0_1 a0_2 a0_3 a0_4 a0_5 a0_6 l0_7 l0_8 a1 = some r) :
  Calls Tryz.prog 66 #[.agg #[.int .i64 a0_0, .int .i64 a0_1, .int .i64 a0_2, .int .i64 a0_3, .int .i64 a0_4, .int .i64 a0_5, .int .i64 a0_6, .slice A0_7 l0_7.length c0_7, .slice A0_8 l0_8.length c0_8], .int .i64 a1] w fun e w' => e = .returned (.int .i64 r) ∧ Below w.heap.size w w' := by
 have hu128 := Tryz.underlying128; have HR0_7 := Aside0.mk hr0_7; have HC0_7 := Aside0.mk hc0_7; clear hr0_7 hc0_7; have HR0_8 := Aside0.mk hr0_8; have HC0_8 := Aside0.mk hc0_8; clear hr0_8 hc0_8; have HB := Aside0.mk (Below.refl w.heap.size w); have H : ((laws_szIntS.f l0_7 a1).bind fun t108 => (if t108 < 0 then (some (-1)) else ((laws_szIntS.f l0_8 t108).bind fun t109 => (if t109 < 0 then (some (-1)) else (some t109))))) = some r := h; clear h; obtain ⟨t108, A3, H⟩ := bo_ H; (try dsimp only at H)
 by_cases c4 : t108 < 0
 ·
  rw [if_pos c4] at H; have c4b0 : decide (t108 < 0) = true := decide_eq_true c4; clear c4; obtain rfl := Option.some.inj H
  go_enter Tryz.func66, Tryz.ntmps66
  go_wp2_with (first | ((with_reducible refine gate_dst (N := 2) rfl ?_); refine bz_ 2 ?_; intro gb107 hg w5 hbox hb; obtain ⟨BK107, GW107, GE107, HB⟩ := nb_ hg hbox HB hb; clear hb hbox hg; have hcz6 := box9_ BK107.out) | ((with_reducible refine gc_ 65 ?_); refine gl_ (some 8) Tryz.func65 #[.slice A0_7 l0_7.length c0_7, .int .i64 a1] ?_; (with_reducible refine (laws_szIntS.calls ?_ ?_ A3.out).mono ?_); exact cu_ HR0_7.out HB.out; exact HC0_7.out; rintro e w' ⟨rfl, ⟨nd, rfl⟩⟩; refine ⟨_, rfl, ?_⟩))
  go_ret
  exact rt_ HB.out
 ·
  rw [if_neg c4] at H; have c4b0 : decide (t108 < 0) = false := decide_eq_false c4; clear c4; obtain ⟨t109, A7, H⟩ := bo_ H; (try dsimp only at H)
  by_cases c8 : t109 < 0
  ·
   rw [if_pos c8] at H; have c8b0 : decide (t109 < 0) = true := decide_eq_true c8; clear c8; obtain rfl := Option.some.inj H
   go_enter Tryz.func66, Tryz.ntmps66
   go_wp2_with (first | ((with_reducible refine gate_dst (N := 2) rfl ?_); refine bz_ 2 ?_; intro gb107 hg w9 hbox hb; obtain ⟨BK107, GW107, GE107, HB⟩ := nb_ hg hbox HB hb; clear hb hbox hg; have hcz10 := box9_ BK107.out) | ((with_reducible refine gc_ 65 ?_); refine gl_ (some 8) Tryz.func65 #[.slice A0_7 l0_7.length c0_7, .int .i64 a1] ?_; (with_reducible refine (laws_szIntS.calls ?_ ?_ A3.out).mono ?_); exact cu_ HR0_7.out HB.out; exact HC0_7.out; rintro e w' ⟨rfl, ⟨nd, rfl⟩⟩; refine ⟨_, rfl, ?_⟩) | ((with_reducible refine gc_ 65 ?_); refine gl_ (some 14) Tryz.func65 #[.slice A0_8 l0_8.length c0_8, .int .i64 t108] ?_; (with_reducible refine (laws_szIntS.calls ?_ ?_ A7.out).mono ?_); exact cu_ HR0_8.out HB.out; exact HC0_8.out; rintro e w' ⟨rfl, ⟨nd, rfl⟩⟩; refine ⟨_, rfl, ?_⟩))
   go_ret
   exact rt_ HB.out
  ·
   rw [if_neg c8] at H; have c8b0 : decide (t109 < 0) = false := decide_eq_false c8; clear c8; obtain rfl := Option.some.inj H
   go_enter Tryz.func66, Tryz.ntmps66
   go_wp2_with (first | ((with_reducible refine gate_dst (N := 2) rfl ?_); refine bz_ 2 ?_; intro gb107 hg w11 hbox hb; obtain ⟨BK107, GW107, GE107, HB⟩ := nb_ hg hbox HB hb; clear hb hbox hg; have hcz12 := box9_ BK107.out) | ((with_reducible refine gc_ 65 ?_); refine gl_ (some 8) Tryz.func65 #[.slice A0_7 l0_7.length c0_7, .int .i64 a1] ?_; (with_reducible refine (laws_szIntS.calls ?_ ?_ A3.out).mono ?_); exact cu_ HR0_7.out HB.out; exact HC0_7.out; rintro e w' ⟨rfl, ⟨nd, rfl⟩⟩; refine ⟨_, rfl, ?_⟩) | ((with_reducible refine gc_ 65 ?_); refine gl_ (some 14) Tryz.func65 #[.slice A0_8 l0_8.length c0_8, .int .i64 t108] ?_; (with_reducible refine (laws_szIntS.calls ?_ ?_ A7.out).mono ?_); exact cu_ HR0_8.out HB.out; exact HC0_8.out; rintro e w' ⟨rfl, ⟨nd, rfl⟩⟩; refine ⟨_, rfl, ?_⟩))
   go_ret
   exact rt_ HB.out

def laws_szLayerS.l0 : Nat → List (S128) → Int → Int → Option (Int)
 | 0, _, _, _ => none
 | k + 1, x0, x1, x5 => if x5 < (x0.length : Int) then (if 0 ≤ x5 then ((laws_szLayer.f ((rd_T128 x0 x5).f0) ((rd_T128 x0 x5).f1) ((rd_T128 x0 x5).f2) ((rd_T128 x0 x5).f3) ((rd_T128 x0 x5).f4) ((rd_T128 x0 x5).f5) ((rd_T128 x0 x5).f6) ((rd_T128 x0 x5).f7) ((rd_T128 x0 x5).f8) x1).bind fun t111 => (if t111 < 0 then (some (-1)) else (laws_szLayerS.l0 k x0 t111 (wrap64 (x5 + 1))))) else (none)) else (some x1)
def laws_szLayerS.f (k : Nat) (l0 : List (S128)) (a1 : Int) : Option (Int) := if (wrap64 (a1 - (l0.length : Int))) < 0 then (some (-1)) else (laws_szLayerS.l0 k l0 (wrap64 (a1 - (l0.length : Int))) 0)
set_option maxHeartbeats 8000000 in
set_option maxRecDepth 100000 in
theorem laws_szLayerS.calls {k : Nat} {A0 : Option Addr} {c0 : Nat} {l0 : List (S128)} {a1 : Int} {r : Int} {w : World} (hr0 : Kd.C k128 w A0 l0.length l0) (hc0 : l0.length ≤ c0) (h : laws_szLayerS.f k l0 a1 = some r) :
  Calls Tryz.prog 42 #[.slice A0 l0.length c0, .int .i64 a1] w fun e w' => e = .returned (.int .i64 r) ∧ Below w.heap.size w w' := by
 have hu128 := Tryz.underlying128; have HR0 := Aside0.mk hr0; have HC0 := Aside0.mk hc0; clear hr0 hc0; have HB := Aside0.mk (Below.refl w.heap.size w); have H : (if (wrap64 (a1 - (l0.length : Int))) < 0 then (some (-1)) else (laws_szLayerS.l0 k l0 (wrap64 (a1 - (l0.length : Int))) 0)) = some r := h; clear h
 by_cases c3 : (wrap64 (a1 - (l0.length : Int))) < 0
 ·
  rw [if_pos c3] at H; have c3b0 : decide ((wrap64 (a1 - (l0.length : Int))) < 0) = true := decide_eq_true c3; clear c3; obtain rfl := Option.some.inj H
  go_enter Tryz.func42, Tryz.ntmps42
  go_wp2
  go_ret
  exact rt_ HB.out
 ·
  rw [if_neg c3] at H; have c3b0 : decide ((wrap64 (a1 - (l0.length : Int))) < 0) = false := decide_eq_false c3; clear c3; have H' := Aside0.mk H; clear H
  go_enter Tryz.func42, Tryz.ntmps42
  go_wp2
  go_loopg [1, 5] k (fun kq v1 v5 w' => ∃ (x1_1 : Int) (x5_1 : Int), v1 = .int .i64 x1_1 ∧ v5 = .int .i64 x5_1 ∧ Aside0 (laws_szLayerS.l0 kq l0 x1_1 x5_1 = some r) ∧ Aside0 (kq ≤ k) ∧ Aside0 (Below w.heap.size w w'))
  case atStart => exact ⟨(wrap64 (a1 - (l0.length : Int))), (0), (by first | rfl | (simp; done) | (simp [*]; done)), (by first | rfl | (simp; done) | (simp [*]; done)), H', ⟨Nat.le_refl _⟩, ⟨be_ HB.out⟩⟩
  case round =>
   clear H'; (try clear p2); (try clear c3); (try clear c3b0); obtain ⟨x1_1, x5_1, rfl, rfl, HA, HK1, HB⟩ := hrel
   cases gk with
   | zero => exact absurd HA.out (by simp [laws_szLayerS.l0])
   | succ k1 =>
    have H := HA.out; clear HA; simp only [laws_szLayerS.l0] at H
    by_cases c4 : x5_1 < (l0.length : Int)
    ·
     rw [if_pos c4] at H; have c4b0 : decide (x5_1 < (l0.length : Int)) = true := decide_eq_true c4; clear c4
     by_cases c5 : 0 ≤ x5_1
     ·
      rw [if_pos c5] at H; have c5b0 : decide (0 ≤ x5_1) = true := decide_eq_true c5; clear c5; obtain ⟨t111, A6, H⟩ := bo_ H; (try dsimp only at H)
      by_cases c7 : t111 < 0
      ·
       rw [if_pos c7] at H; have c7b0 : decide (t111 < 0) = true := decide_eq_true c7; clear c7; obtain rfl := Option.some.inj H; have p110 : 0 ≤ (x5_1 : Int) := od_; have q110 : x5_1 < (l0.length : Int) := od_; obtain ⟨ad110, A110_7, c110_7, A110_8, c110_8, e110, hx110_0, hx110_1, hx110_2, hx110_3, hx110_4, hx110_5, hx110_6, hx110_7, hx110_8, hl110_7, hi110_7, hl110_8, hi110_8⟩ := at_T128 HR0.out x5_1 p110 q110
       cases e110
       replace hx110_0 := cw_ HB.out hx110_0; replace hx110_1 := cw_ HB.out hx110_1; replace hx110_2 := cw_ HB.out hx110_2; replace hx110_3 := cw_ HB.out hx110_3; replace hx110_4 := cw_ HB.out hx110_4; replace hx110_5 := cw_ HB.out hx110_5; replace hx110_6 := cw_ HB.out hx110_6; replace hx110_7 := cw_ HB.out hx110_7; replace hx110_8 := cw_ HB.out hx110_8; have HR110_7 := Aside0.mk hi110_7; have HC110_7 := Aside0.mk hl110_7; clear hi110_7 hl110_7; have HR110_8 := Aside0.mk hi110_8; have HC110_8 := Aside0.mk hl110_8; clear hi110_8 hl110_8; replace p110 := eq_true p110; replace q110 := eq_true q110
       go_wp2_with (first | ((with_reducible refine gc_ 66 ?_); refine gl_ (some 23) Tryz.func66 #[.agg #[.int .i64 ((rd_T128 l0 x5_1).f0), .int .i64 ((rd_T128 l0 x5_1).f1), .int .i64 ((rd_T128 l0 x5_1).f2), .int .i64 ((rd_T128 l0 x5_1).f3), .int .i64 ((rd_T128 l0 x5_1).f4), .int .i64 ((rd_T128 l0 x5_1).f5), .int .i64 ((rd_T128 l0 x5_1).f6), .slice A110_7 ((rd_T128 l0 x5_1).f7).length c110_7, .slice A110_8 ((rd_T128 l0 x5_1).f8).length c110_8], .int .i64 x1_1] ?_; (with_reducible refine (laws_szLayer.calls ?_ ?_ ?_ ?_ A6.out).mono ?_); exact cu_ HR110_7.out HB.out; exact HC110_7.out; exact cu_ HR110_8.out HB.out; exact HC110_8.out; rintro e w8 ⟨rfl, hb⟩; refine ⟨_, rfl, ?_⟩; replace HB := hb_ HB hb; (try clear hb)))
       go_ret
       exact rt_ HB.out
      ·
       rw [if_neg c7] at H; have c7b0 : decide (t111 < 0) = false := decide_eq_false c7; clear c7; have H' := Aside0.mk H; clear H; have p110 : 0 ≤ (x5_1 : Int) := od_; have q110 : x5_1 < (l0.length : Int) := od_; obtain ⟨ad110, A110_7, c110_7, A110_8, c110_8, e110, hx110_0, hx110_1, hx110_2, hx110_3, hx110_4, hx110_5, hx110_6, hx110_7, hx110_8, hl110_7, hi110_7, hl110_8, hi110_8⟩ := at_T128 HR0.out x5_1 p110 q110
       cases e110
       replace hx110_0 := cw_ HB.out hx110_0; replace hx110_1 := cw_ HB.out hx110_1; replace hx110_2 := cw_ HB.out hx110_2; replace hx110_3 := cw_ HB.out hx110_3; replace hx110_4 := cw_ HB.out hx110_4; replace hx110_5 := cw_ HB.out hx110_5; replace hx110_6 := cw_ HB.out hx110_6; replace hx110_7 := cw_ HB.out hx110_7; replace hx110_8 := cw_ HB.out hx110_8; have HR110_7 := Aside0.mk hi110_7; have HC110_7 := Aside0.mk hl110_7; clear hi110_7 hl110_7; have HR110_8 := Aside0.mk hi110_8; have HC110_8 := Aside0.mk hl110_8; clear hi110_8 hl110_8; replace p110 := eq_true p110; replace q110 := eq_true q110
       go_wp2_with (first | ((with_reducible refine gc_ 66 ?_); refine gl_ (some 23) Tryz.func66 #[.agg #[.int .i64 ((rd_T128 l0 x5_1).f0), .int .i64 ((rd_T128 l0 x5_1).f1), .int .i64 ((rd_T128 l0 x5_1).f2), .int .i64 ((rd_T128 l0 x5_1).f3), .int .i64 ((rd_T128 l0 x5_1).f4), .int .i64 ((rd_T128 l0 x5_1).f5), .int .i64 ((rd_T128 l0 x5_1).f6), .slice A110_7 ((rd_T128 l0 x5_1).f7).length c110_7, .slice A110_8 ((rd_T128 l0 x5_1).f8).length c110_8], .int .i64 x1_1] ?_; (with_reducible refine (laws_szLayer.calls ?_ ?_ ?_ ?_ A6.out).mono ?_); exact cu_ HR110_7.out HB.out; exact HC110_7.out; exact cu_ HR110_8.out HB.out; exact HC110_8.out; rintro e w9 ⟨rfl, hb⟩; refine ⟨_, rfl, ?_⟩; replace HB := hb_ HB hb; (try clear hb)))
       go_roundg k1
       case measure => have := HK1.out; omega
       case rel => exact ⟨(t111), (wrap64 (x5_1 + 1)), (by first | rfl | (simp; done) | (simp [*]; done)), (by first | rfl | (simp; done) | (simp [*]; done)), H', ⟨by have := HK1.out; omega⟩, ⟨be_ HB.out⟩⟩
     ·
      rw [if_neg c5] at H; exact absurd H (by simp)
    ·
     rw [if_neg c4] at H; have c4b0 : decide (x5_1 < (l0.length : Int)) = false := decide_eq_false c4; clear c4; obtain rfl := Option.some.inj H
     go_wp2
     go_ret
     exact rt_ HB.out

def laws_szModel.f (k : Nat) (a0_0 : Int) (a0_1 : Int) (a0_2 : Int) (l0_3 : List (S128)) (a1 : Int) : Option (Int) := (laws_szLayerS.f k l0_3 a1).bind fun t113 => (if t113 < 0 then (some (-1)) else (some t113))
set_option maxHeartbeats 8000000 in
set_option maxRecDepth 100000 in
theorem laws_szModel.calls {k : Nat} {a0_0 : Int} {a0_1 : Int} {a0_2 : Int} {A0_3 : Option Addr} {c0_3 : Nat} {l0_3 : List (S128)} {a1 : Int} {r : Int} {w : World} (hr0_3 : Kd.C k128 w A0_3 l0_3.length l0_3) (hc0_3 : l0_3.length ≤ c0_3) (h : laws_szModel.f k a0_0 a0_1 a0_2 l0_3 a1 = some r) :
  Calls Tryz.prog 27 #[.agg #[.int .i64 a0_0, .int .i64 a0_1, .int .i64 a0_2, .slice A0_3 l0_3.length c0_3], .int .i64 a1] w fun e w' => e = .returned (.int .i64 r) ∧ Below w.heap.size w w' := by
 have hu75 := Tryz.underlying75; have HR0_3 := Aside0.mk hr0_3; have HC0_3 := Aside0.mk hc0_3; clear hr0_3 hc0_3; have HB := Aside0.mk (Below.refl w.heap.size w); have H : ((laws_szLayerS.f k l0_3 a1).bind fun t113 => (if t113 < 0 then (some (-1)) else (some t113))) = some r := h; clear h; obtain ⟨t113, A3, H⟩ := bo_ H; (try dsimp only at H)
 by_cases c4 : t113 < 0
 ·
  rw [if_pos c4] at H; have c4b0 : decide (t113 < 0) = true := decide_eq_true c4; clear c4; obtain rfl := Option.some.inj H
  go_enter Tryz.func27, Tryz.ntmps27
  go_wp2_with (first | ((with_reducible refine gate_dst (N := 2) rfl ?_); refine bz_ 2 ?_; intro gb112 hg w5 hbox hb; obtain ⟨BK112, GW112, GE112, HB⟩ := nb_ hg hbox HB hb; clear hb hbox hg; have hcz6 := box4_ BK112.out) | ((with_reducible refine gc_ 42 ?_); refine gl_ (some 8) Tryz.func42 #[.slice A0_3 l0_3.length c0_3, .int .i64 a1] ?_; (with_reducible refine (laws_szLayerS.calls ?_ ?_ A3.out).mono ?_); exact cu_ HR0_3.out HB.out; exact HC0_3.out; rintro e w7 ⟨rfl, hb⟩; refine ⟨_, rfl, ?_⟩; replace BK112 := bb_ BK112 hb; replace HB := hb_ HB hb; (try clear hb)))
  go_ret
  exact rt_ HB.out
 ·
  rw [if_neg c4] at H; have c4b0 : decide (t113 < 0) = false := decide_eq_false c4; clear c4; obtain rfl := Option.some.inj H
  go_enter Tryz.func27, Tryz.ntmps27
  go_wp2_with (first | ((with_reducible refine gate_dst (N := 2) rfl ?_); refine bz_ 2 ?_; intro gb112 hg w8 hbox hb; obtain ⟨BK112, GW112, GE112, HB⟩ := nb_ hg hbox HB hb; clear hb hbox hg; have hcz9 := box4_ BK112.out) | ((with_reducible refine gc_ 42 ?_); refine gl_ (some 8) Tryz.func42 #[.slice A0_3 l0_3.length c0_3, .int .i64 a1] ?_; (with_reducible refine (laws_szLayerS.calls ?_ ?_ A3.out).mono ?_); exact cu_ HR0_3.out HB.out; exact HC0_3.out; rintro e w10 ⟨rfl, hb⟩; refine ⟨_, rfl, ?_⟩; replace BK112 := bb_ BK112 hb; replace HB := hb_ HB hb; (try clear hb)))
  go_ret
  exact rt_ HB.out

def laws_szModelS.l0 : Nat → List (S75) → Int → Int → Option (Int)
 | 0, _, _, _ => none
 | k + 1, x0, x1, x5 => if x5 < (x0.length : Int) then (if 0 ≤ x5 then ((laws_szModel.f k ((rd_T75 x0 x5).f0.f0) ((rd_T75 x0 x5).f0.f1) ((rd_T75 x0 x5).f0.f2) ((rd_T75 x0 x5).f1) x1).bind fun t115 => (if t115 < 0 then (some (-1)) else (laws_szModelS.l0 k x0 t115 (wrap64 (x5 + 1))))) else (none)) else (some x1)
def laws_szModelS.f (k : Nat) (l0 : List (S75)) (a1 : Int) : Option (Int) := if (wrap64 (a1 - (l0.length : Int))) < 0 then (some (-1)) else (laws_szModelS.l0 k l0 (wrap64 (a1 - (l0.length : Int))) 0)
set_option maxHeartbeats 8000000 in
set_option maxRecDepth 100000 in
theorem laws_szModelS.calls {k : Nat} {A0 : Option Addr} {c0 : Nat} {l0 : List (S75)} {a1 : Int} {r : Int} {w : World} (hr0 : Kd.C k75 w A0 l0.length l0) (hc0 : l0.length ≤ c0) (h : laws_szModelS.f k l0 a1 = some r) :
  Calls Tryz.prog 10 #[.slice A0 l0.length c0, .int .i64 a1] w fun e w' => e = .returned (.int .i64 r) ∧ Below w.heap.size w w' := by
 have hu75 := Tryz.underlying75; have HR0 := Aside0.mk hr0; have HC0 := Aside0.mk hc0; clear hr0 hc0; have HB := Aside0.mk (Below.refl w.heap.size w); have H : (if (wrap64 (a1 - (l0.length : Int))) < 0 then (some (-1)) else (laws_szModelS.l0 k l0 (wrap64 (a1 - (l0.length : Int))) 0)) = some r := h; clear h
 by_cases c3 : (wrap64 (a1 - (l0.length : Int))) < 0
 ·
  rw [if_pos c3] at H; have c3b0 : decide ((wrap64 (a1 - (l0.length : Int))) < 0) = true := decide_eq_true c3; clear c3; obtain rfl := Option.some.inj H
  go_enter Tryz.func10, Tryz.ntmps10
  go_wp2
  go_ret
  exact rt_ HB.out
 ·
  rw [if_neg c3] at H; have c3b0 : decide ((wrap64 (a1 - (l0.length : Int))) < 0) = false := decide_eq_false c3; clear c3; have H' := Aside0.mk H; clear H
  go_enter Tryz.func10, Tryz.ntmps10
  go_wp2
  go_loopg [1, 5] k (fun kq v1 v5 w' => ∃ (x1_1 : Int) (x5_1 : Int), v1 = .int .i64 x1_1 ∧ v5 = .int .i64 x5_1 ∧ Aside0 (laws_szModelS.l0 kq l0 x1_1 x5_1 = some r) ∧ Aside0 (kq ≤ k) ∧ Aside0 (Below w.heap.size w w'))
  case atStart => exact ⟨(wrap64 (a1 - (l0.length : Int))), (0), (by first | rfl | (simp; done) | (simp [*]; done)), (by first | rfl | (simp; done) | (simp [*]; done)), H', ⟨Nat.le_refl _⟩, ⟨be_ HB.out⟩⟩
  case round =>
   clear H'; (try clear c1); (try clear p2); (try clear c3); (try clear c3b0); obtain ⟨x1_1, x5_1, rfl, rfl, HA, HK1, HB⟩ := hrel
   cases gk with
   | zero => exact absurd HA.out (by simp [laws_szModelS.l0])
   | succ k1 =>
    have H := HA.out; clear HA; simp only [laws_szModelS.l0] at H
    by_cases c4 : x5_1 < (l0.length : Int)
    ·
     rw [if_pos c4] at H; have c4b0 : decide (x5_1 < (l0.length : Int)) = true := decide_eq_true c4; clear c4
     by_cases c5 : 0 ≤ x5_1
     ·
      rw [if_pos c5] at H; have c5b0 : decide (0 ≤ x5_1) = true := decide_eq_true c5; clear c5; obtain ⟨t115, A6, H⟩ := bo_ H; (try dsimp only at H)
      by_cases c7 : t115 < 0
      ·
       rw [if_pos c7] at H; have c7b0 : decide (t115 < 0) = true := decide_eq_true c7; clear c7; obtain rfl := Option.some.inj H; have p114 : 0 ≤ (x5_1 : Int) := od_; have q114 : x5_1 < (l0.length : Int) := od_; obtain ⟨ad114, A114_3, c114_3, e114, hx114_0, hx114_1, hx114_2, hx114_3, hl114_3, hi114_3⟩ := at_T75 HR0.out x5_1 p114 q114
       cases e114
       replace hx114_0 := cw_ HB.out hx114_0; replace hx114_1 := cw_ HB.out hx114_1; replace hx114_2 := cw_ HB.out hx114_2; replace hx114_3 := cw_ HB.out hx114_3; have HR114_3 := Aside0.mk hi114_3; have HC114_3 := Aside0.mk hl114_3; clear hi114_3 hl114_3; replace p114 := eq_true p114; replace q114 := eq_true q114
       go_wp2_with (first | ((with_reducible refine gc_ 27 ?_); refine gl_ (some 23) Tryz.func27 #[.agg #[.int .i64 ((rd_T75 l0 x5_1).f0.f0), .int .i64 ((rd_T75 l0 x5_1).f0.f1), .int .i64 ((rd_T75 l0 x5_1).f0.f2), .slice A114_3 ((rd_T75 l0 x5_1).f1).length c114_3], .int .i64 x1_1] ?_; (with_reducible refine (laws_szModel.calls ?_ ?_ A6.out).mono ?_); exact cu_ HR114_3.out HB.out; exact HC114_3.out; rintro e w8 ⟨rfl, hb⟩; refine ⟨_, rfl, ?_⟩; replace HB := hb_ HB hb; (try clear hb)))
       go_ret
       exact rt_ HB.out
      ·
       rw [if_neg c7] at H; have c7b0 : decide (t115 < 0) = false := decide_eq_false c7; clear c7; have H' := Aside0.mk H; clear H; have p114 : 0 ≤ (x5_1 : Int) := od_; have q114 : x5_1 < (l0.length : Int) := od_; obtain ⟨ad114, A114_3, c114_3, e114, hx114_0, hx114_1, hx114_2, hx114_3, hl114_3, hi114_3⟩ := at_T75 HR0.out x5_1 p114 q114
       cases e114
       replace hx114_0 := cw_ HB.out hx114_0; replace hx114_1 := cw_ HB.out hx114_1; replace hx114_2 := cw_ HB.out hx114_2; replace hx114_3 := cw_ HB.out hx114_3; have HR114_3 := Aside0.mk hi114_3; have HC114_3 := Aside0.mk hl114_3; clear hi114_3 hl114_3; replace p114 := eq_true p114; replace q114 := eq_true q114
       go_wp2_with (first | ((with_reducible refine gc_ 27 ?_); refine gl_ (some 23) Tryz.func27 #[.agg #[.int .i64 ((rd_T75 l0 x5_1).f0.f0), .int .i64 ((rd_T75 l0 x5_1).f0.f1), .int .i64 ((rd_T75 l0 x5_1).f0.f2), .slice A114_3 ((rd_T75 l0 x5_1).f1).length c114_3], .int .i64 x1_1] ?_; (with_reducible refine (laws_szModel.calls ?_ ?_ A6.out).mono ?_); exact cu_ HR114_3.out HB.out; exact HC114_3.out; rintro e w9 ⟨rfl, hb⟩; refine ⟨_, rfl, ?_⟩; replace HB := hb_ HB hb; (try clear hb)))
       go_roundg k1
       case measure => have := HK1.out; omega
       case rel => exact ⟨(t115), (wrap64 (x5_1 + 1)), (by first | rfl | (simp; done) | (simp [*]; done)), (by first | rfl | (simp; done) | (simp [*]; done)), H', ⟨by have := HK1.out; omega⟩, ⟨be_ HB.out⟩⟩
     ·
      rw [if_neg c5] at H; exact absurd H (by simp)
    ·
     rw [if_neg c4] at H; have c4b0 : decide (x5_1 < (l0.length : Int)) = false := decide_eq_false c4; clear c4; obtain rfl := Option.some.inj H
     go_wp2
     go_ret
     exact rt_ HB.out

def laws_szBoolS.f (l0 : List Bool) (a1 : Int) : Option (Int) := if (wrap64 (a1 - (l0.length : Int))) < 0 then (some (-1)) else (some (wrap64 (a1 - (l0.length : Int))))
set_option maxHeartbeats 8000000 in
set_option maxRecDepth 100000 in
theorem laws_szBoolS.calls {A0 : Option Addr} {c0 : Nat} {l0 : List Bool} {a1 : Int} {r : Int} {w : World} (hr0 : Kd.C Kd.bool w A0 l0.length l0) (hc0 : l0.length ≤ c0) (h : laws_szBoolS.f l0 a1 = some r) :
  Calls Tryz.prog 11 #[.slice A0 l0.length c0, .int .i64 a1] w fun e w' => e = .returned (.int .i64 r) ∧ Drawn0 w w' := by
 have HR0 := Aside0.mk hr0; have HC0 := Aside0.mk hc0; clear hr0 hc0; have H : (if (wrap64 (a1 - (l0.length : Int))) < 0 then (some (-1)) else (some (wrap64 (a1 - (l0.length : Int))))) = some r := h; clear h
 by_cases c3 : (wrap64 (a1 - (l0.length : Int))) < 0
 ·
  rw [if_pos c3] at H; have c3b0 : decide ((wrap64 (a1 - (l0.length : Int))) < 0) = true := decide_eq_true c3; clear c3; obtain rfl := Option.some.inj H
  go_enter Tryz.func11, Tryz.ntmps11
  go_wp2
  go_ret
  exact ⟨by first | rfl | (simp; done) | (simp [*]; done), by repeat (first | exact Drawn0.refl _ | apply Drawn0.step)⟩
 ·
  rw [if_neg c3] at H; have c3b0 : decide ((wrap64 (a1 - (l0.length : Int))) < 0) = false := decide_eq_false c3; clear c3; obtain rfl := Option.some.inj H
  go_enter Tryz.func11, Tryz.ntmps11
  go_wp2
  go_ret
  exact ⟨by first | rfl | (simp; done) | (simp [*]; done), by repeat (first | exact Drawn0.refl _ | apply Drawn0.step)⟩

def laws_szTensor.f (a0_0 : Int) (a0_1 : Int) (a0_2 : Int) (l0_3 : List Int) (a1 : Int) : Option (Int) := (laws_szIntS.f l0_3 a1).bind fun t117 => (if t117 < 0 then (some (-1)) else (some t117))
set_option maxHeartbeats 8000000 in
set_option maxRecDepth 100000 in
theorem laws_szTensor.calls {a0_0 : Int} {a0_1 : Int} {a0_2 : Int} {A0_3 : Option Addr} {c0_3 : Nat} {l0_3 : List Int} {a1 : Int} {r : Int} {w : World} (hr0_3 : Kd.C (Kd.int .i64) w A0_3 l0_3.length l0_3) (hc0_3 : l0_3.length ≤ c0_3) (h : laws_szTensor.f a0_0 a0_1 a0_2 l0_3 a1 = some r) :
  Calls Tryz.prog 67 #[.agg #[.int .i64 a0_0, .int .i64 a0_1, .int .i64 a0_2, .slice A0_3 l0_3.length c0_3], .int .i64 a1] w fun e w' => e = .returned (.int .i64 r) ∧ Below w.heap.size w w' := by
 have hu78 := Tryz.underlying78; have HR0_3 := Aside0.mk hr0_3; have HC0_3 := Aside0.mk hc0_3; clear hr0_3 hc0_3; have HB := Aside0.mk (Below.refl w.heap.size w); have H : ((laws_szIntS.f l0_3 a1).bind fun t117 => (if t117 < 0 then (some (-1)) else (some t117))) = some r := h; clear h; obtain ⟨t117, A3, H⟩ := bo_ H; (try dsimp only at H)
 by_cases c4 : t117 < 0
 ·
  rw [if_pos c4] at H; have c4b0 : decide (t117 < 0) = true := decide_eq_true c4; clear c4; obtain rfl := Option.some.inj H
  go_enter Tryz.func67, Tryz.ntmps67
  go_wp2_with (first | ((with_reducible refine gate_dst (N := 2) rfl ?_); refine bz_ 2 ?_; intro gb116 hg w5 hbox hb; obtain ⟨BK116, GW116, GE116, HB⟩ := nb_ hg hbox HB hb; clear hb hbox hg; have hcz6 := box4_ BK116.out) | ((with_reducible refine gc_ 65 ?_); refine gl_ (some 8) Tryz.func65 #[.slice A0_3 l0_3.length c0_3, .int .i64 a1] ?_; (with_reducible refine (laws_szIntS.calls ?_ ?_ A3.out).mono ?_); exact cu_ HR0_3.out HB.out; exact HC0_3.out; rintro e w' ⟨rfl, ⟨nd, rfl⟩⟩; refine ⟨_, rfl, ?_⟩))
  go_ret
  exact rt_ HB.out
 ·
  rw [if_neg c4] at H; have c4b0 : decide (t117 < 0) = false := decide_eq_false c4; clear c4; obtain rfl := Option.some.inj H
  go_enter Tryz.func67, Tryz.ntmps67
  go_wp2_with (first | ((with_reducible refine gate_dst (N := 2) rfl ?_); refine bz_ 2 ?_; intro gb116 hg w7 hbox hb; obtain ⟨BK116, GW116, GE116, HB⟩ := nb_ hg hbox HB hb; clear hb hbox hg; have hcz8 := box4_ BK116.out) | ((with_reducible refine gc_ 65 ?_); refine gl_ (some 8) Tryz.func65 #[.slice A0_3 l0_3.length c0_3, .int .i64 a1] ?_; (with_reducible refine (laws_szIntS.calls ?_ ?_ A3.out).mono ?_); exact cu_ HR0_3.out HB.out; exact HC0_3.out; rintro e w' ⟨rfl, ⟨nd, rfl⟩⟩; refine ⟨_, rfl, ?_⟩))
  go_ret
  exact rt_ HB.out

def laws_szJob.f (k : Nat) (a0_0 : Int) (a0_1 : Int) (a0_2 : Int) (l0_3 : List (S128)) (a0_4 : Int) (a0_5 : Int) (a0_6 : Int) (a0_7 : Int) (l0_8 : List Int) (a0_9 : Int) (a1 : Int) : Option (Int) := (laws_szModel.f k a0_0 a0_1 a0_2 l0_3 a1).bind fun t119 => (if t119 < 0 then (some (-1)) else ((laws_szTensor.f a0_5 a0_6 a0_7 l0_8 t119).bind fun t120 => (if t120 < 0 then (some (-1)) else (some t120))))
set_option maxHeartbeats 8000000 in
set_option maxRecDepth 100000 in
theorem laws_szJob.calls {k : Nat} {a0_0 : Int} {a0_1 : Int} {a0_2 : Int} {A0_3 : Option Addr} {c0_3 : Nat} {l0_3 : List (S128)} {a0_4 : Int} {a0_5 : Int} {a0_6 : Int} {a0_7 : Int} {A0_8 : Option Addr} {c0_8 : Nat} {l0_8 : List Int} {a0_9 : Int} {a1 : Int} {r : Int} {w : World} (hr0_3 : Kd.C k128 w A0_3 l0_3.length l0_3) (hc0_3 : l0_3.length ≤ c0_3) (hr0_8 : Kd.C (Kd.int .i64) w A0_8 l0_8.length l0_8) (hc0_8 : l0_8.length ≤ c0_8) (h : laws_szJob.f k a0_0 a0_1 a0_2 l0_3 a0_4 a0_5 a0_6 a0_7 l0_8 a0_9 a1 = some r) :
  Calls Tryz.prog 43 #[.agg #[.int .i64 a0_0, .int .i64 a0_1, .int .i64 a0_2, .slice A0_3 l0_3.length c0_3, .int .i64 a0_4, .int .i64 a0_5, .int .i64 a0_6, .int .i64 a0_7, .slice A0_8 l0_8.length c0_8, .int .i64 a0_9], .int .i64 a1] w fun e w' => e = .returned (.int .i64 r) ∧ Below w.heap.size w w' := by
 have hu80 := Tryz.underlying80; have hu75 := Tryz.underlying75; have hu78 := Tryz.underlying78; have HR0_3 := Aside0.mk hr0_3; have HC0_3 := Aside0.mk hc0_3; clear hr0_3 hc0_3; have HR0_8 := Aside0.mk hr0_8; have HC0_8 := Aside0.mk hc0_8; clear hr0_8 hc0_8; have HB := Aside0.mk (Below.refl w.heap.size w); have H : ((laws_szModel.f k a0_0 a0_1 a0_2 l0_3 a1).bind fun t119 => (if t119 < 0 then (some (-1)) else ((laws_szTensor.f a0_5 a0_6 a0_7 l0_8 t119).bind fun t120 => (if t120 < 0 then (some (-1)) else (some t120))))) = some r := h; clear h; obtain ⟨t119, A3, H⟩ := bo_ H; (try dsimp only at H)
 by_cases c4 : t119 < 0
 ·
  rw [if_pos c4] at H; have c4b0 : decide (t119 < 0) = true := decide_eq_true c4; clear c4; obtain rfl := Option.some.inj H
  go_enter Tryz.func43, Tryz.ntmps43
  go_wp2_with (first | ((with_reducible refine gate_dst (N := 2) rfl ?_); refine bz_ 2 ?_; intro gb118 hg w5 hbox hb; obtain ⟨BK118, GW118, GE118, HB⟩ := nb_ hg hbox HB hb; clear hb hbox hg; have hcz6 := box10_ BK118.out) | ((with_reducible refine gc_ 27 ?_); refine gl_ (some 8) Tryz.func27 #[.agg #[.int .i64 a0_0, .int .i64 a0_1, .int .i64 a0_2, .slice A0_3 l0_3.length c0_3], .int .i64 a1] ?_; (with_reducible refine (laws_szModel.calls ?_ ?_ A3.out).mono ?_); exact cu_ HR0_3.out HB.out; exact HC0_3.out; rintro e w7 ⟨rfl, hb⟩; refine ⟨_, rfl, ?_⟩; replace BK118 := bb_ BK118 hb; replace HB := hb_ HB hb; (try clear hb)))
  go_ret
  exact rt_ HB.out
 ·
  rw [if_neg c4] at H; have c4b0 : decide (t119 < 0) = false := decide_eq_false c4; clear c4; obtain ⟨t120, A8, H⟩ := bo_ H; (try dsimp only at H)
  by_cases c9 : t120 < 0
  ·
   rw [if_pos c9] at H; have c9b0 : decide (t120 < 0) = true := decide_eq_true c9; clear c9; obtain rfl := Option.some.inj H
   go_enter Tryz.func43, Tryz.ntmps43
   go_wp2_with (first | ((with_reducible refine gate_dst (N := 2) rfl ?_); refine bz_ 2 ?_; intro gb118 hg w10 hbox hb; obtain ⟨BK118, GW118, GE118, HB⟩ := nb_ hg hbox HB hb; clear hb hbox hg; have hcz11 := box10_ BK118.out) | ((with_reducible refine gc_ 27 ?_); refine gl_ (some 8) Tryz.func27 #[.agg #[.int .i64 a0_0, .int .i64 a0_1, .int .i64 a0_2, .slice A0_3 l0_3.length c0_3], .int .i64 a1] ?_; (with_reducible refine (laws_szModel.calls ?_ ?_ A3.out).mono ?_); exact cu_ HR0_3.out HB.out; exact HC0_3.out; rintro e w12 ⟨rfl, hb⟩; refine ⟨_, rfl, ?_⟩; replace BK118 := bb_ BK118 hb; replace HB := hb_ HB hb; (try clear hb); have hcz13 := box10_ BK118.out) | ((with_reducible refine gc_ 67 ?_); refine gl_ (some 14) Tryz.func67 #[.agg #[.int .i64 a0_5, .int .i64 a0_6, .int .i64 a0_7, .slice A0_8 l0_8.length c0_8], .int .i64 t119] ?_; (with_reducible refine (laws_szTensor.calls ?_ ?_ A8.out).mono ?_); exact cu_ HR0_8.out HB.out; exact HC0_8.out; rintro e w14 ⟨rfl, hb⟩; refine ⟨_, rfl, ?_⟩; replace BK118 := bb_ BK118 hb; replace HB := hb_ HB hb; (try clear hb)))
   go_ret
   exact rt_ HB.out
  ·
   rw [if_neg c9] at H; have c9b0 : decide (t120 < 0) = false := decide_eq_false c9; clear c9; obtain rfl := Option.some.inj H
   go_enter Tryz.func43, Tryz.ntmps43
   go_wp2_with (first | ((with_reducible refine gate_dst (N := 2) rfl ?_); refine bz_ 2 ?_; intro gb118 hg w15 hbox hb; obtain ⟨BK118, GW118, GE118, HB⟩ := nb_ hg hbox HB hb; clear hb hbox hg; have hcz16 := box10_ BK118.out) | ((with_reducible refine gc_ 27 ?_); refine gl_ (some 8) Tryz.func27 #[.agg #[.int .i64 a0_0, .int .i64 a0_1, .int .i64 a0_2, .slice A0_3 l0_3.length c0_3], .int .i64 a1] ?_; (with_reducible refine (laws_szModel.calls ?_ ?_ A3.out).mono ?_); exact cu_ HR0_3.out HB.out; exact HC0_3.out; rintro e w17 ⟨rfl, hb⟩; refine ⟨_, rfl, ?_⟩; replace BK118 := bb_ BK118 hb; replace HB := hb_ HB hb; (try clear hb); have hcz18 := box10_ BK118.out) | ((with_reducible refine gc_ 67 ?_); refine gl_ (some 14) Tryz.func67 #[.agg #[.int .i64 a0_5, .int .i64 a0_6, .int .i64 a0_7, .slice A0_8 l0_8.length c0_8], .int .i64 t119] ?_; (with_reducible refine (laws_szTensor.calls ?_ ?_ A8.out).mono ?_); exact cu_ HR0_8.out HB.out; exact HC0_8.out; rintro e w19 ⟨rfl, hb⟩; refine ⟨_, rfl, ?_⟩; replace BK118 := bb_ BK118 hb; replace HB := hb_ HB hb; (try clear hb)))
   go_ret
   exact rt_ HB.out

def laws_szRequest.f (k : Nat) (a0_0 : Int) (a0_1 : Int) (a0_2 : Int) (a0_3 : Int) (a0_4 : Int) (l0_5 : List (S128)) (a0_6 : Int) (a0_7 : Int) (a0_8 : Int) (a0_9 : Int) (l0_10 : List Int) (a0_11 : Int) (a0_12 : Int) (a1 : Int) : Option (Int) := (laws_szJob.f k a0_2 a0_3 a0_4 l0_5 a0_6 a0_7 a0_8 a0_9 l0_10 a0_11 a1).bind fun t122 => (if t122 < 0 then (some (-1)) else (some t122))
set_option maxHeartbeats 8000000 in
set_option maxRecDepth 100000 in
theorem laws_szRequest.calls {k : Nat} {a0_0 : Int} {a0_1 : Int} {a0_2 : Int} {a0_3 : Int} {a0_4 : Int} {A0_5 : Option Addr} {c0_5 : Nat} {l0_5 : List (S128)} {a0_6 : Int} {a0_7 : Int} {a0_8 : Int} {a0_9 : Int} {A0_10 : Option Addr} {c0_10 : Nat} {l0_10 : List Int} {a0_11 : Int} {a0_12 : Int} {a1 : Int} {r : Int} {w : World} (hr0_5 : Kd.C k128 w A0_5 l0_5.length l0_5) (hc0_5 : l0_5.length ≤ c0_5) (hr0_10 : Kd.C (Kd.int .i64) w A0_10 l0_10.length l0_10) (hc0_10 : l0_10.length ≤ c0_10) (h : laws_szRequest.f k a0_0 a0_1 a0_2 a0_3 a0_4 l0_5 a0_6 a0_7 a0_8 a0_9 l0_10 a0_11 a0_12 a1 = some r) :
  Calls Tryz.prog 28 #[.agg #[.int .i64 a0_0, .int .i64 a0_1, .int .i64 a0_2, .int .i64 a0_3, .int .i64 a0_4, .slice A0_5 l0_5.length c0_5, .int .i64 a0_6, .int .i64 a0_7, .int .i64 a0_8, .int .i64 a0_9, .slice A0_10 l0_10.length c0_10, .int .i64 a0_11, .int .i64 a0_12], .int .i64 a1] w fun e w' => e = .returned (.int .i64 r) ∧ Below w.heap.size w w' := by
 have hu82 := Tryz.underlying82; have hu80 := Tryz.underlying80; have HR0_5 := Aside0.mk hr0_5; have HC0_5 := Aside0.mk hc0_5; clear hr0_5 hc0_5; have HR0_10 := Aside0.mk hr0_10; have HC0_10 := Aside0.mk hc0_10; clear hr0_10 hc0_10; have HB := Aside0.mk (Below.refl w.heap.size w); have H : ((laws_szJob.f k a0_2 a0_3 a0_4 l0_5 a0_6 a0_7 a0_8 a0_9 l0_10 a0_11 a1).bind fun t122 => (if t122 < 0 then (some (-1)) else (some t122))) = some r := h; clear h; obtain ⟨t122, A3, H⟩ := bo_ H; (try dsimp only at H)
 by_cases c4 : t122 < 0
 ·
  rw [if_pos c4] at H; have c4b0 : decide (t122 < 0) = true := decide_eq_true c4; clear c4; obtain rfl := Option.some.inj H
  go_enter Tryz.func28, Tryz.ntmps28
  go_wp2_with (first | ((with_reducible refine gate_dst (N := 2) rfl ?_); refine bz_ 2 ?_; intro gb121 hg w5 hbox hb; obtain ⟨BK121, GW121, GE121, HB⟩ := nb_ hg hbox HB hb; clear hb hbox hg; have hcz6 := box13_ BK121.out) | ((with_reducible refine gc_ 43 ?_); refine gl_ (some 8) Tryz.func43 #[.agg #[.int .i64 a0_2, .int .i64 a0_3, .int .i64 a0_4, .slice A0_5 l0_5.length c0_5, .int .i64 a0_6, .int .i64 a0_7, .int .i64 a0_8, .int .i64 a0_9, .slice A0_10 l0_10.length c0_10, .int .i64 a0_11], .int .i64 a1] ?_; (with_reducible refine (laws_szJob.calls ?_ ?_ ?_ ?_ A3.out).mono ?_); exact cu_ HR0_5.out HB.out; exact HC0_5.out; exact cu_ HR0_10.out HB.out; exact HC0_10.out; rintro e w7 ⟨rfl, hb⟩; refine ⟨_, rfl, ?_⟩; replace BK121 := bb_ BK121 hb; replace HB := hb_ HB hb; (try clear hb)))
  go_ret
  exact rt_ HB.out
 ·
  rw [if_neg c4] at H; have c4b0 : decide (t122 < 0) = false := decide_eq_false c4; clear c4; obtain rfl := Option.some.inj H
  go_enter Tryz.func28, Tryz.ntmps28
  go_wp2_with (first | ((with_reducible refine gate_dst (N := 2) rfl ?_); refine bz_ 2 ?_; intro gb121 hg w8 hbox hb; obtain ⟨BK121, GW121, GE121, HB⟩ := nb_ hg hbox HB hb; clear hb hbox hg; have hcz9 := box13_ BK121.out) | ((with_reducible refine gc_ 43 ?_); refine gl_ (some 8) Tryz.func43 #[.agg #[.int .i64 a0_2, .int .i64 a0_3, .int .i64 a0_4, .slice A0_5 l0_5.length c0_5, .int .i64 a0_6, .int .i64 a0_7, .int .i64 a0_8, .int .i64 a0_9, .slice A0_10 l0_10.length c0_10, .int .i64 a0_11], .int .i64 a1] ?_; (with_reducible refine (laws_szJob.calls ?_ ?_ ?_ ?_ A3.out).mono ?_); exact cu_ HR0_5.out HB.out; exact HC0_5.out; exact cu_ HR0_10.out HB.out; exact HC0_10.out; rintro e w10 ⟨rfl, hb⟩; refine ⟨_, rfl, ?_⟩; replace BK121 := bb_ BK121 hb; replace HB := hb_ HB hb; (try clear hb)))
  go_ret
  exact rt_ HB.out

def laws_szRequestS.l0 : Nat → List (S82) → Int → Int → Option (Int)
 | 0, _, _, _ => none
 | k + 1, x0, x1, x5 => if x5 < (x0.length : Int) then (if 0 ≤ x5 then ((laws_szRequest.f k ((rd_T82 x0 x5).f0) ((rd_T82 x0 x5).f1) ((rd_T82 x0 x5).f2.f0.f0.f0) ((rd_T82 x0 x5).f2.f0.f0.f1) ((rd_T82 x0 x5).f2.f0.f0.f2) ((rd_T82 x0 x5).f2.f0.f1) ((rd_T82 x0 x5).f2.f1) ((rd_T82 x0 x5).f2.f2.f0.f0) ((rd_T82 x0 x5).f2.f2.f0.f1) ((rd_T82 x0 x5).f2.f2.f0.f2) ((rd_T82 x0 x5).f2.f2.f1) ((rd_T82 x0 x5).f2.f3) ((rd_T82 x0 x5).f3) x1).bind fun t124 => (if t124 < 0 then (some (-1)) else (laws_szRequestS.l0 k x0 t124 (wrap64 (x5 + 1))))) else (none)) else (some x1)
def laws_szRequestS.f (k : Nat) (l0 : List (S82)) (a1 : Int) : Option (Int) := if (wrap64 (a1 - (l0.length : Int))) < 0 then (some (-1)) else (laws_szRequestS.l0 k l0 (wrap64 (a1 - (l0.length : Int))) 0)
set_option maxHeartbeats 8000000 in
set_option maxRecDepth 100000 in
theorem laws_szRequestS.calls {k : Nat} {A0 : Option Addr} {c0 : Nat} {l0 : List (S82)} {a1 : Int} {r : Int} {w : World} (hr0 : Kd.C k82 w A0 l0.length l0) (hc0 : l0.length ≤ c0) (h : laws_szRequestS.f k l0 a1 = some r) :
  Calls Tryz.prog 12 #[.slice A0 l0.length c0, .int .i64 a1] w fun e w' => e = .returned (.int .i64 r) ∧ Below w.heap.size w w' := by
 have hu82 := Tryz.underlying82; have HR0 := Aside0.mk hr0; have HC0 := Aside0.mk hc0; clear hr0 hc0; have HB := Aside0.mk (Below.refl w.heap.size w); have H : (if (wrap64 (a1 - (l0.length : Int))) < 0 then (some (-1)) else (laws_szRequestS.l0 k l0 (wrap64 (a1 - (l0.length : Int))) 0)) = some r := h; clear h
 by_cases c3 : (wrap64 (a1 - (l0.length : Int))) < 0
 ·
  rw [if_pos c3] at H; have c3b0 : decide ((wrap64 (a1 - (l0.length : Int))) < 0) = true := decide_eq_true c3; clear c3; obtain rfl := Option.some.inj H
  go_enter Tryz.func12, Tryz.ntmps12
  go_wp2
  go_ret
  exact rt_ HB.out
 ·
  rw [if_neg c3] at H; have c3b0 : decide ((wrap64 (a1 - (l0.length : Int))) < 0) = false := decide_eq_false c3; clear c3; have H' := Aside0.mk H; clear H
  go_enter Tryz.func12, Tryz.ntmps12
  go_wp2
  go_loopg [1, 5] k (fun kq v1 v5 w' => ∃ (x1_1 : Int) (x5_1 : Int), v1 = .int .i64 x1_1 ∧ v5 = .int .i64 x5_1 ∧ Aside0 (laws_szRequestS.l0 kq l0 x1_1 x5_1 = some r) ∧ Aside0 (kq ≤ k) ∧ Aside0 (Below w.heap.size w w'))
  case atStart => exact ⟨(wrap64 (a1 - (l0.length : Int))), (0), (by first | rfl | (simp; done) | (simp [*]; done)), (by first | rfl | (simp; done) | (simp [*]; done)), H', ⟨Nat.le_refl _⟩, ⟨be_ HB.out⟩⟩
  case round =>
   clear H'; (try clear c1); (try clear p2); (try clear c3); (try clear c3b0); obtain ⟨x1_1, x5_1, rfl, rfl, HA, HK1, HB⟩ := hrel
   cases gk with
   | zero => exact absurd HA.out (by simp [laws_szRequestS.l0])
   | succ k1 =>
    have H := HA.out; clear HA; simp only [laws_szRequestS.l0] at H
    by_cases c4 : x5_1 < (l0.length : Int)
    ·
     rw [if_pos c4] at H; have c4b0 : decide (x5_1 < (l0.length : Int)) = true := decide_eq_true c4; clear c4
     by_cases c5 : 0 ≤ x5_1
     ·
      rw [if_pos c5] at H; have c5b0 : decide (0 ≤ x5_1) = true := decide_eq_true c5; clear c5; obtain ⟨t124, A6, H⟩ := bo_ H; (try dsimp only at H)
      by_cases c7 : t124 < 0
      ·
       rw [if_pos c7] at H; have c7b0 : decide (t124 < 0) = true := decide_eq_true c7; clear c7; obtain rfl := Option.some.inj H; have p123 : 0 ≤ (x5_1 : Int) := od_; have q123 : x5_1 < (l0.length : Int) := od_; obtain ⟨ad123, A123_5, c123_5, A123_10, c123_10, e123, hx123_0, hx123_1, hx123_2, hx123_3, hx123_4, hx123_5, hx123_6, hx123_7, hx123_8, hx123_9, hx123_10, hx123_11, hx123_12, hl123_5, hi123_5, hl123_10, hi123_10⟩ := at_T82 HR0.out x5_1 p123 q123
       cases e123
       replace hx123_0 := cw_ HB.out hx123_0; replace hx123_1 := cw_ HB.out hx123_1; replace hx123_2 := cw_ HB.out hx123_2; replace hx123_3 := cw_ HB.out hx123_3; replace hx123_4 := cw_ HB.out hx123_4; replace hx123_5 := cw_ HB.out hx123_5; replace hx123_6 := cw_ HB.out hx123_6; replace hx123_7 := cw_ HB.out hx123_7; replace hx123_8 := cw_ HB.out hx123_8; replace hx123_9 := cw_ HB.out hx123_9; replace hx123_10 := cw_ HB.out hx123_10; replace hx123_11 := cw_ HB.out hx123_11; replace hx123_12 := cw_ HB.out hx123_12; have HR123_5 := Aside0.mk hi123_5; have HC123_5 := Aside0.mk hl123_5; clear hi123_5 hl123_5; have HR123_10 := Aside0.mk hi123_10; have HC123_10 := Aside0.mk hl123_10; clear hi123_10 hl123_10; replace p123 := eq_true p123; replace q123 := eq_true q123
       go_wp2_with (first | ((with_reducible refine gc_ 28 ?_); refine gl_ (some 23) Tryz.func28 #[.agg #[.int .i64 ((rd_T82 l0 x5_1).f0), .int .i64 ((rd_T82 l0 x5_1).f1), .int .i64 ((rd_T82 l0 x5_1).f2.f0.f0.f0), .int .i64 ((rd_T82 l0 x5_1).f2.f0.f0.f1), .int .i64 ((rd_T82 l0 x5_1).f2.f0.f0.f2), .slice A123_5 ((rd_T82 l0 x5_1).f2.f0.f1).length c123_5, .int .i64 ((rd_T82 l0 x5_1).f2.f1), .int .i64 ((rd_T82 l0 x5_1).f2.f2.f0.f0), .int .i64 ((rd_T82 l0 x5_1).f2.f2.f0.f1), .int .i64 ((rd_T82 l0 x5_1).f2.f2.f0.f2), .slice A123_10 ((rd_T82 l0 x5_1).f2.f2.f1).length c123_10, .int .i64 ((rd_T82 l0 x5_1).f2.f3), .int .i64 ((rd_T82 l0 x5_1).f3)], .int .i64 x1_1] ?_; (with_reducible refine (laws_szRequest.calls ?_ ?_ ?_ ?_ A6.out).mono ?_); exact cu_ HR123_5.out HB.out; exact HC123_5.out; exact cu_ HR123_10.out HB.out; exact HC123_10.out; rintro e w8 ⟨rfl, hb⟩; refine ⟨_, rfl, ?_⟩; replace HB := hb_ HB hb; (try clear hb)))
       go_ret
       exact rt_ HB.out
      ·
       rw [if_neg c7] at H; have c7b0 : decide (t124 < 0) = false := decide_eq_false c7; clear c7; have H' := Aside0.mk H; clear H; have p123 : 0 ≤ (x5_1 : Int) := od_; have q123 : x5_1 < (l0.length : Int) := od_; obtain ⟨ad123, A123_5, c123_5, A123_10, c123_10, e123, hx123_0, hx123_1, hx123_2, hx123_3, hx123_4, hx123_5, hx123_6, hx123_7, hx123_8, hx123_9, hx123_10, hx123_11, hx123_12, hl123_5, hi123_5, hl123_10, hi123_10⟩ := at_T82 HR0.out x5_1 p123 q123
       cases e123
       replace hx123_0 := cw_ HB.out hx123_0; replace hx123_1 := cw_ HB.out hx123_1; replace hx123_2 := cw_ HB.out hx123_2; replace hx123_3 := cw_ HB.out hx123_3; replace hx123_4 := cw_ HB.out hx123_4; replace hx123_5 := cw_ HB.out hx123_5; replace hx123_6 := cw_ HB.out hx123_6; replace hx123_7 := cw_ HB.out hx123_7; replace hx123_8 := cw_ HB.out hx123_8; replace hx123_9 := cw_ HB.out hx123_9; replace hx123_10 := cw_ HB.out hx123_10; replace hx123_11 := cw_ HB.out hx123_11; replace hx123_12 := cw_ HB.out hx123_12; have HR123_5 := Aside0.mk hi123_5; have HC123_5 := Aside0.mk hl123_5; clear hi123_5 hl123_5; have HR123_10 := Aside0.mk hi123_10; have HC123_10 := Aside0.mk hl123_10; clear hi123_10 hl123_10; replace p123 := eq_true p123; replace q123 := eq_true q123
       go_wp2_with (first | ((with_reducible refine gc_ 28 ?_); refine gl_ (some 23) Tryz.func28 #[.agg #[.int .i64 ((rd_T82 l0 x5_1).f0), .int .i64 ((rd_T82 l0 x5_1).f1), .int .i64 ((rd_T82 l0 x5_1).f2.f0.f0.f0), .int .i64 ((rd_T82 l0 x5_1).f2.f0.f0.f1), .int .i64 ((rd_T82 l0 x5_1).f2.f0.f0.f2), .slice A123_5 ((rd_T82 l0 x5_1).f2.f0.f1).length c123_5, .int .i64 ((rd_T82 l0 x5_1).f2.f1), .int .i64 ((rd_T82 l0 x5_1).f2.f2.f0.f0), .int .i64 ((rd_T82 l0 x5_1).f2.f2.f0.f1), .int .i64 ((rd_T82 l0 x5_1).f2.f2.f0.f2), .slice A123_10 ((rd_T82 l0 x5_1).f2.f2.f1).length c123_10, .int .i64 ((rd_T82 l0 x5_1).f2.f3), .int .i64 ((rd_T82 l0 x5_1).f3)], .int .i64 x1_1] ?_; (with_reducible refine (laws_szRequest.calls ?_ ?_ ?_ ?_ A6.out).mono ?_); exact cu_ HR123_5.out HB.out; exact HC123_5.out; exact cu_ HR123_10.out HB.out; exact HC123_10.out; rintro e w9 ⟨rfl, hb⟩; refine ⟨_, rfl, ?_⟩; replace HB := hb_ HB hb; (try clear hb)))
       go_roundg k1
       case measure => have := HK1.out; omega
       case rel => exact ⟨(t124), (wrap64 (x5_1 + 1)), (by first | rfl | (simp; done) | (simp [*]; done)), (by first | rfl | (simp; done) | (simp [*]; done)), H', ⟨by have := HK1.out; omega⟩, ⟨be_ HB.out⟩⟩
     ·
      rw [if_neg c5] at H; exact absurd H (by simp)
    ·
     rw [if_neg c4] at H; have c4b0 : decide (x5_1 < (l0.length : Int)) = false := decide_eq_false c4; clear c4; obtain rfl := Option.some.inj H
     go_wp2
     go_ret
     exact rt_ HB.out

def laws_szRuntime.f (k : Nat) (a0_0 : Int) (a0_1 : Int) (a0_2 : Int) (l0_3 : List (S102)) (a0_4 : Int) (a0_5 : Int) (a0_6 : Int) (a0_7 : Int) (l0_8 : List (S75)) (l0_9 : List Bool) (l0_10 : List (S82)) (a1 : Int) : Option (Int) := (laws_szSched.f k a0_0 a0_1 a0_2 l0_3 a0_4 a0_5 a0_6 a0_7 a1).bind fun t126 => (if t126 < 0 then (some (-1)) else ((laws_szModelS.f k l0_8 t126).bind fun t127 => (if t127 < 0 then (some (-1)) else ((laws_szBoolS.f l0_9 t127).bind fun t128 => (if t128 < 0 then (some (-1)) else ((laws_szRequestS.f k l0_10 t128).bind fun t129 => (if t129 < 0 then (some (-1)) else (some t129))))))))
set_option maxHeartbeats 8000000 in
set_option maxRecDepth 100000 in
theorem laws_szRuntime.calls {k : Nat} {a0_0 : Int} {a0_1 : Int} {a0_2 : Int} {A0_3 : Option Addr} {c0_3 : Nat} {l0_3 : List (S102)} {a0_4 : Int} {a0_5 : Int} {a0_6 : Int} {a0_7 : Int} {A0_8 : Option Addr} {c0_8 : Nat} {l0_8 : List (S75)} {A0_9 : Option Addr} {c0_9 : Nat} {l0_9 : List Bool} {A0_10 : Option Addr} {c0_10 : Nat} {l0_10 : List (S82)} {a1 : Int} {r : Int} {w : World} (hr0_3 : Kd.C k102 w A0_3 l0_3.length l0_3) (hc0_3 : l0_3.length ≤ c0_3) (hr0_8 : Kd.C k75 w A0_8 l0_8.length l0_8) (hc0_8 : l0_8.length ≤ c0_8) (hr0_9 : Kd.C Kd.bool w A0_9 l0_9.length l0_9) (hc0_9 : l0_9.length ≤ c0_9) (hr0_10 : Kd.C k82 w A0_10 l0_10.length l0_10) (hc0_10 : l0_10.length ≤ c0_10) (h : laws_szRuntime.f k a0_0 a0_1 a0_2 l0_3 a0_4 a0_5 a0_6 a0_7 l0_8 l0_9 l0_10 a1 = some r) :
  Calls Tryz.prog 4 #[.agg #[.int .i64 a0_0, .int .i64 a0_1, .int .i64 a0_2, .slice A0_3 l0_3.length c0_3, .int .i64 a0_4, .int .i64 a0_5, .int .i64 a0_6, .int .i64 a0_7, .slice A0_8 l0_8.length c0_8, .slice A0_9 l0_9.length c0_9, .slice A0_10 l0_10.length c0_10], .int .i64 a1] w fun e w' => e = .returned (.int .i64 r) ∧ Below w.heap.size w w' := by
 have hu29 := Tryz.underlying29; have hu24 := Tryz.underlying24; have HR0_3 := Aside0.mk hr0_3; have HC0_3 := Aside0.mk hc0_3; clear hr0_3 hc0_3; have HR0_8 := Aside0.mk hr0_8; have HC0_8 := Aside0.mk hc0_8; clear hr0_8 hc0_8; have HR0_9 := Aside0.mk hr0_9; have HC0_9 := Aside0.mk hc0_9; clear hr0_9 hc0_9; have HR0_10 := Aside0.mk hr0_10; have HC0_10 := Aside0.mk hc0_10; clear hr0_10 hc0_10; have HB := Aside0.mk (Below.refl w.heap.size w); have H : ((laws_szSched.f k a0_0 a0_1 a0_2 l0_3 a0_4 a0_5 a0_6 a0_7 a1).bind fun t126 => (if t126 < 0 then (some (-1)) else ((laws_szModelS.f k l0_8 t126).bind fun t127 => (if t127 < 0 then (some (-1)) else ((laws_szBoolS.f l0_9 t127).bind fun t128 => (if t128 < 0 then (some (-1)) else ((laws_szRequestS.f k l0_10 t128).bind fun t129 => (if t129 < 0 then (some (-1)) else (some t129))))))))) = some r := h; clear h; obtain ⟨t126, A3, H⟩ := bo_ H; (try dsimp only at H)
 by_cases c4 : t126 < 0
 ·
  rw [if_pos c4] at H; have c4b0 : decide (t126 < 0) = true := decide_eq_true c4; clear c4; obtain rfl := Option.some.inj H
  go_enter Tryz.func4, Tryz.ntmps4
  go_wp2_with (first | ((with_reducible refine gate_dst (N := 2) rfl ?_); refine bz_ 2 ?_; intro gb125 hg w5 hbox hb; obtain ⟨BK125, GW125, GE125, HB⟩ := nb_ hg hbox HB hb; clear hb hbox hg; have hcz6 := box11_ BK125.out) | ((with_reducible refine gc_ 9 ?_); refine gl_ (some 8) Tryz.func9 #[.agg #[.int .i64 a0_0, .int .i64 a0_1, .int .i64 a0_2, .slice A0_3 l0_3.length c0_3, .int .i64 a0_4, .int .i64 a0_5, .int .i64 a0_6, .int .i64 a0_7], .int .i64 a1] ?_; (with_reducible refine (laws_szSched.calls ?_ ?_ A3.out).mono ?_); exact cu_ HR0_3.out HB.out; exact HC0_3.out; rintro e w7 ⟨rfl, hb⟩; refine ⟨_, rfl, ?_⟩; replace BK125 := bb_ BK125 hb; replace HB := hb_ HB hb; (try clear hb)))
  go_ret
  exact rt_ HB.out
 ·
  rw [if_neg c4] at H; have c4b0 : decide (t126 < 0) = false := decide_eq_false c4; clear c4; obtain ⟨t127, A8, H⟩ := bo_ H; (try dsimp only at H)
  by_cases c9 : t127 < 0
  ·
   rw [if_pos c9] at H; have c9b0 : decide (t127 < 0) = true := decide_eq_true c9; clear c9; obtain rfl := Option.some.inj H
   go_enter Tryz.func4, Tryz.ntmps4
   go_wp2_with (first | ((with_reducible refine gate_dst (N := 2) rfl ?_); refine bz_ 2 ?_; intro gb125 hg w10 hbox hb; obtain ⟨BK125, GW125, GE125, HB⟩ := nb_ hg hbox HB hb; clear hb hbox hg; have hcz11 := box11_ BK125.out) | ((with_reducible refine gc_ 9 ?_); refine gl_ (some 8) Tryz.func9 #[.agg #[.int .i64 a0_0, .int .i64 a0_1, .int .i64 a0_2, .slice A0_3 l0_3.length c0_3, .int .i64 a0_4, .int .i64 a0_5, .int .i64 a0_6, .int .i64 a0_7], .int .i64 a1] ?_; (with_reducible refine (laws_szSched.calls ?_ ?_ A3.out).mono ?_); exact cu_ HR0_3.out HB.out; exact HC0_3.out; rintro e w12 ⟨rfl, hb⟩; refine ⟨_, rfl, ?_⟩; replace BK125 := bb_ BK125 hb; replace HB := hb_ HB hb; (try clear hb); have hcz13 := box11_ BK125.out) | ((with_reducible refine gc_ 10 ?_); refine gl_ (some 14) Tryz.func10 #[.slice A0_8 l0_8.length c0_8, .int .i64 t126] ?_; (with_reducible refine (laws_szModelS.calls ?_ ?_ A8.out).mono ?_); exact cu_ HR0_8.out HB.out; exact HC0_8.out; rintro e w14 ⟨rfl, hb⟩; refine ⟨_, rfl, ?_⟩; replace BK125 := bb_ BK125 hb; replace HB := hb_ HB hb; (try clear hb)))
   go_ret
   exact rt_ HB.out
  ·
   rw [if_neg c9] at H; have c9b0 : decide (t127 < 0) = false := decide_eq_false c9; clear c9; obtain ⟨t128, A15, H⟩ := bo_ H; (try dsimp only at H)
   by_cases c16 : t128 < 0
   ·
    rw [if_pos c16] at H; have c16b0 : decide (t128 < 0) = true := decide_eq_true c16; clear c16; obtain rfl := Option.some.inj H
    go_enter Tryz.func4, Tryz.ntmps4
    go_wp2_with (first | ((with_reducible refine gate_dst (N := 2) rfl ?_); refine bz_ 2 ?_; intro gb125 hg w17 hbox hb; obtain ⟨BK125, GW125, GE125, HB⟩ := nb_ hg hbox HB hb; clear hb hbox hg; have hcz18 := box11_ BK125.out) | ((with_reducible refine gc_ 9 ?_); refine gl_ (some 8) Tryz.func9 #[.agg #[.int .i64 a0_0, .int .i64 a0_1, .int .i64 a0_2, .slice A0_3 l0_3.length c0_3, .int .i64 a0_4, .int .i64 a0_5, .int .i64 a0_6, .int .i64 a0_7], .int .i64 a1] ?_; (with_reducible refine (laws_szSched.calls ?_ ?_ A3.out).mono ?_); exact cu_ HR0_3.out HB.out; exact HC0_3.out; rintro e w19 ⟨rfl, hb⟩; refine ⟨_, rfl, ?_⟩; replace BK125 := bb_ BK125 hb; replace HB := hb_ HB hb; (try clear hb); have hcz20 := box11_ BK125.out) | ((with_reducible refine gc_ 10 ?_); refine gl_ (some 14) Tryz.func10 #[.slice A0_8 l0_8.length c0_8, .int .i64 t126] ?_; (with_reducible refine (laws_szModelS.calls ?_ ?_ A8.out).mono ?_); exact cu_ HR0_8.out HB.out; exact HC0_8.out; rintro e w21 ⟨rfl, hb⟩; refine ⟨_, rfl, ?_⟩; replace BK125 := bb_ BK125 hb; replace HB := hb_ HB hb; (try clear hb); have hcz22 := box11_ BK125.out) | ((with_reducible refine gc_ 11 ?_); refine gl_ (some 20) Tryz.func11 #[.slice A0_9 l0_9.length c0_9, .int .i64 t127] ?_; (with_reducible refine (laws_szBoolS.calls ?_ ?_ A15.out).mono ?_); exact cu_ HR0_9.out HB.out; exact HC0_9.out; rintro e w' ⟨rfl, ⟨nd, rfl⟩⟩; refine ⟨_, rfl, ?_⟩))
    go_ret
    exact rt_ HB.out
   ·
    rw [if_neg c16] at H; have c16b0 : decide (t128 < 0) = false := decide_eq_false c16; clear c16; obtain ⟨t129, A23, H⟩ := bo_ H; (try dsimp only at H)
    by_cases c24 : t129 < 0
    ·
     rw [if_pos c24] at H; have c24b0 : decide (t129 < 0) = true := decide_eq_true c24; clear c24; obtain rfl := Option.some.inj H
     go_enter Tryz.func4, Tryz.ntmps4
     go_wp2_with (first | ((with_reducible refine gate_dst (N := 2) rfl ?_); refine bz_ 2 ?_; intro gb125 hg w25 hbox hb; obtain ⟨BK125, GW125, GE125, HB⟩ := nb_ hg hbox HB hb; clear hb hbox hg; have hcz26 := box11_ BK125.out) | ((with_reducible refine gc_ 9 ?_); refine gl_ (some 8) Tryz.func9 #[.agg #[.int .i64 a0_0, .int .i64 a0_1, .int .i64 a0_2, .slice A0_3 l0_3.length c0_3, .int .i64 a0_4, .int .i64 a0_5, .int .i64 a0_6, .int .i64 a0_7], .int .i64 a1] ?_; (with_reducible refine (laws_szSched.calls ?_ ?_ A3.out).mono ?_); exact cu_ HR0_3.out HB.out; exact HC0_3.out; rintro e w27 ⟨rfl, hb⟩; refine ⟨_, rfl, ?_⟩; replace BK125 := bb_ BK125 hb; replace HB := hb_ HB hb; (try clear hb); have hcz28 := box11_ BK125.out) | ((with_reducible refine gc_ 10 ?_); refine gl_ (some 14) Tryz.func10 #[.slice A0_8 l0_8.length c0_8, .int .i64 t126] ?_; (with_reducible refine (laws_szModelS.calls ?_ ?_ A8.out).mono ?_); exact cu_ HR0_8.out HB.out; exact HC0_8.out; rintro e w29 ⟨rfl, hb⟩; refine ⟨_, rfl, ?_⟩; replace BK125 := bb_ BK125 hb; replace HB := hb_ HB hb; (try clear hb); have hcz30 := box11_ BK125.out) | ((with_reducible refine gc_ 11 ?_); refine gl_ (some 20) Tryz.func11 #[.slice A0_9 l0_9.length c0_9, .int .i64 t127] ?_; (with_reducible refine (laws_szBoolS.calls ?_ ?_ A15.out).mono ?_); exact cu_ HR0_9.out HB.out; exact HC0_9.out; rintro e w' ⟨rfl, ⟨nd, rfl⟩⟩; refine ⟨_, rfl, ?_⟩) | ((with_reducible refine gc_ 12 ?_); refine gl_ (some 26) Tryz.func12 #[.slice A0_10 l0_10.length c0_10, .int .i64 t128] ?_; (with_reducible refine (laws_szRequestS.calls ?_ ?_ A23.out).mono ?_); exact cu_ HR0_10.out HB.out; exact HC0_10.out; rintro e w31 ⟨rfl, hb⟩; refine ⟨_, rfl, ?_⟩; replace BK125 := bb_ BK125 hb; replace HB := hb_ HB hb; (try clear hb)))
     go_ret
     exact rt_ HB.out
    ·
     rw [if_neg c24] at H; have c24b0 : decide (t129 < 0) = false := decide_eq_false c24; clear c24; obtain rfl := Option.some.inj H
     go_enter Tryz.func4, Tryz.ntmps4
     go_wp2_with (first | ((with_reducible refine gate_dst (N := 2) rfl ?_); refine bz_ 2 ?_; intro gb125 hg w32 hbox hb; obtain ⟨BK125, GW125, GE125, HB⟩ := nb_ hg hbox HB hb; clear hb hbox hg; have hcz33 := box11_ BK125.out) | ((with_reducible refine gc_ 9 ?_); refine gl_ (some 8) Tryz.func9 #[.agg #[.int .i64 a0_0, .int .i64 a0_1, .int .i64 a0_2, .slice A0_3 l0_3.length c0_3, .int .i64 a0_4, .int .i64 a0_5, .int .i64 a0_6, .int .i64 a0_7], .int .i64 a1] ?_; (with_reducible refine (laws_szSched.calls ?_ ?_ A3.out).mono ?_); exact cu_ HR0_3.out HB.out; exact HC0_3.out; rintro e w34 ⟨rfl, hb⟩; refine ⟨_, rfl, ?_⟩; replace BK125 := bb_ BK125 hb; replace HB := hb_ HB hb; (try clear hb); have hcz35 := box11_ BK125.out) | ((with_reducible refine gc_ 10 ?_); refine gl_ (some 14) Tryz.func10 #[.slice A0_8 l0_8.length c0_8, .int .i64 t126] ?_; (with_reducible refine (laws_szModelS.calls ?_ ?_ A8.out).mono ?_); exact cu_ HR0_8.out HB.out; exact HC0_8.out; rintro e w36 ⟨rfl, hb⟩; refine ⟨_, rfl, ?_⟩; replace BK125 := bb_ BK125 hb; replace HB := hb_ HB hb; (try clear hb); have hcz37 := box11_ BK125.out) | ((with_reducible refine gc_ 11 ?_); refine gl_ (some 20) Tryz.func11 #[.slice A0_9 l0_9.length c0_9, .int .i64 t127] ?_; (with_reducible refine (laws_szBoolS.calls ?_ ?_ A15.out).mono ?_); exact cu_ HR0_9.out HB.out; exact HC0_9.out; rintro e w' ⟨rfl, ⟨nd, rfl⟩⟩; refine ⟨_, rfl, ?_⟩) | ((with_reducible refine gc_ 12 ?_); refine gl_ (some 26) Tryz.func12 #[.slice A0_10 l0_10.length c0_10, .int .i64 t128] ?_; (with_reducible refine (laws_szRequestS.calls ?_ ?_ A23.out).mono ?_); exact cu_ HR0_10.out HB.out; exact HC0_10.out; rintro e w38 ⟨rfl, hb⟩; refine ⟨_, rfl, ?_⟩; replace BK125 := bb_ BK125 hb; replace HB := hb_ HB hb; (try clear hb)))
     go_ret
     exact rt_ HB.out

def spec_l01Num.l0 : Nat → Int → ByteArray → Bool → Option (ByteArray)
 | 0, _, _, _ => none
 | k + 1, x0, x3, x4 => if x0 = 0 then (if x4 = true then (if 1 + x3.size ≤ 9223372036854775807 then (some ((⟨#[45]⟩ : ByteArray) ++ x3)) else (none)) else (some x3)) else (if (Int.tmod x0 10) < 0 then ((some (([(wrap64 (48 + (wrap64 (-(Int.tmod x0 10))))) % 256] : List Int) : List Int)).bind fun y130 => (if (strOfNums y130).size + x3.size ≤ 9223372036854775807 then (spec_l01Num.l0 k (wrap64 (Int.tdiv x0 10)) ((strOfNums y130) ++ x3) x4) else (none))) else ((some (([(wrap64 (48 + (Int.tmod x0 10))) % 256] : List Int) : List Int)).bind fun y133 => (if (strOfNums y133).size + x3.size ≤ 9223372036854775807 then (spec_l01Num.l0 k (wrap64 (Int.tdiv x0 10)) ((strOfNums y133) ++ x3) x4) else (none))))
def spec_l01Num.f (k : Nat) (a0 : Int) : Option (ByteArray) := if a0 = 0 then (some (⟨#[48]⟩ : ByteArray)) else (spec_l01Num.l0 k a0 (⟨#[]⟩ : ByteArray) (decide (a0 < 0)))
set_option maxHeartbeats 8000000 in
set_option maxRecDepth 100000 in
theorem spec_l01Num.calls {k : Nat} {a0 : Int} {r : ByteArray} {w : World} (h : spec_l01Num.f k a0 = some r) :
  Calls Tryz.prog 13 #[.int .i64 a0] w fun e w' => e = .returned (.string r) ∧ Below w.heap.size w w' := by
 have HB := Aside0.mk (Below.refl w.heap.size w); have H : (if a0 = 0 then (some (⟨#[48]⟩ : ByteArray)) else (spec_l01Num.l0 k a0 (⟨#[]⟩ : ByteArray) (decide (a0 < 0)))) = some r := h; clear h
 by_cases c2 : a0 = 0
 ·
  rw [if_pos c2] at H; have c2b0 : (a0 == 0) = true := beq_iff_eq.mpr c2; have c2b1 : (a0 != 0) = false := bne_eq_false_iff_eq.mpr c2; clear c2; obtain rfl := Option.some.inj H
  go_enter Tryz.func13, Tryz.ntmps13
  go_wp2
  go_ret
  exact rt_ HB.out
 ·
  rw [if_neg c2] at H; have c2b0 : (a0 == 0) = false := beq_eq_false_iff_ne.mpr c2; have c2b1 : (a0 != 0) = true := bne_iff_ne.mpr c2; have H' := Aside0.mk H; clear H
  go_enter Tryz.func13, Tryz.ntmps13
  go_wp2
  go_loopg [0, 3] k (fun kq v0 v3 w' => ∃ (x0_1 : Int) (x3_1 : ByteArray), v0 = .int .i64 x0_1 ∧ v3 = .string x3_1 ∧ Aside0 (spec_l01Num.l0 kq x0_1 x3_1 (decide (a0 < 0)) = some r) ∧ Aside0 (kq ≤ k) ∧ Aside0 (Below w.heap.size w w'))
  case atStart => exact ⟨(a0), ((⟨#[]⟩ : ByteArray)), (by first | rfl | (simp; done) | (simp [*]; done)), (by first | rfl | (simp; done) | (simp [*]; done)), H', ⟨Nat.le_refl _⟩, ⟨be_ HB.out⟩⟩
  case round =>
   clear H'; (try clear c1); (try clear c2); (try clear c2b0); (try clear c2b1); (try clear p2); obtain ⟨x0_1, x3_1, rfl, rfl, HA, HK1, HB⟩ := hrel
   cases gk with
   | zero => exact absurd HA.out (by simp [spec_l01Num.l0])
   | succ k1 =>
    have H := HA.out; clear HA; simp only [spec_l01Num.l0] at H
    by_cases c3 : x0_1 = 0
    ·
     rw [if_pos c3] at H; have c3b0 : (x0_1 == 0) = true := beq_iff_eq.mpr c3; have c3b1 : (x0_1 != 0) = false := bne_eq_false_iff_eq.mpr c3; clear c3
     by_cases c4 : (decide (a0 < 0)) = true
     ·
      rw [if_pos c4] at H; have c4b0 : (decide (a0 < 0)) = true := c4; have c4p0 := of_decide_eq_true c4b0; clear c4
      by_cases c5 : 1 + x3_1.size ≤ 9223372036854775807
      ·
       rw [if_pos c5] at H; have c5b0 := eq_true c5; have c5b1 : decide (1 + x3_1.size ≤ 9223372036854775807) = true := decide_eq_true c5; (try have c5b2 : (9223372036854775807 < 1 + x3_1.size) = False := eq_false (Nat.not_lt.2 c5)); obtain rfl := Option.some.inj H
       go_wp2
       go_ret
       exact rt_ HB.out
      ·
       rw [if_neg c5] at H; exact absurd H (by simp)
     ·
      rw [if_neg c4] at H; have c4b0 : (decide (a0 < 0)) = false := by simpa using c4
      have c4p0 := of_decide_eq_false c4b0; clear c4; obtain rfl := Option.some.inj H
      go_wp2
      go_ret
      exact rt_ HB.out
    ·
     rw [if_neg c3] at H; have c3b0 : (x0_1 == 0) = false := beq_eq_false_iff_ne.mpr c3; have c3b1 : (x0_1 != 0) = true := bne_iff_ne.mpr c3
     by_cases c6 : (Int.tmod x0_1 10) < 0
     ·
      rw [if_pos c6] at H; have c6b0 : decide ((Int.tmod x0_1 10) < 0) = true := decide_eq_true c6; clear c6; obtain ⟨y130, hy130⟩ : ∃ y_ : List Int, y_ = (([(wrap64 (48 + (wrap64 (-(Int.tmod x0_1 10))))) % 256] : List Int)) := ⟨_, rfl⟩; replace H : (if (strOfNums y130).size + x3_1.size ≤ 9223372036854775807 then (spec_l01Num.l0 k1 (wrap64 (Int.tdiv x0_1 10)) ((strOfNums y130) ++ x3_1) (decide (a0 < 0))) else (none)) = some r := by first | (rw [hy130]; with_reducible exact H) | (have H2_ := (Option.bind_some _ _).symm.trans H; rw [hy130]; with_reducible exact H2_) | (have H2_ := (Option.bind_some _ _).symm.trans H; with_reducible exact H2_) | with_reducible exact H | (rw [hy130]; exact H) | exact H
      have Ny130 := Aside0.mk hy130; clear hy130
      by_cases c7 : (strOfNums y130).size + x3_1.size ≤ 9223372036854775807
      ·
       rw [if_pos c7] at H; have c7b0 := eq_true c7; have c7b1 : decide ((strOfNums y130).size + x3_1.size ≤ 9223372036854775807) = true := decide_eq_true c7; (try have c7b2 : (9223372036854775807 < (strOfNums y130).size + x3_1.size) = False := eq_false (Nat.not_lt.2 c7)); have H' := Aside0.mk H; clear H
       go_wp2_with (first | ((with_reducible refine gate_dst (N := 21) rfl ?_); refine Kd.R_lit (Kd.int .u8) _ 5 ?hg (N := 21) ?hd (xs := ([(wrap64 (48 + (wrap64 (-(Int.tmod x0_1 10))))) % 256] : List Int)) (inner := [.int .u8 ((wrap64 (48 + (wrap64 (-(Int.tmod x0_1 10))))) % 256)]) (ok := fun _ => True) (okp := fun _ => True) ?hr ?hp (fun _ hk => hk) trivial (Below.refl _ _) (Nat.le_refl _) (by simp) ?_; (case hd => rfl); (case hg => rfl); (case hr => first | (go_simp; done) | (go_simp; rfl)); (case hp => exact (Reps.one (show Kd.M (Kd.int .u8) _ _ _ ((wrap64 (48 + (wrap64 (-(Int.tmod x0_1 10))))) % 256) [.int .u8 ((wrap64 (48 + (wrap64 (-(Int.tmod x0_1 10))))) % 256)] from rfl) (Reps.none _ _))); intro v131 w8 ho9 hb hg_ hnew_; clear hg_ hnew_; (first | rw [← Ny130.out] at ho9 | (simp only [Int.reduceToNat] at ho9; rw [← Ny130.out] at ho9)); have HO132 := Aside0.mk (Kd.R_lower ho9 (below_size (be_ HB.out))); replace HB := hb_ HB hb; clear hb ho9; have hcv10 := own_string (P := Tryz.prog) Tryz.underlying83 Tryz.underlying5 Tryz.underlying9 (Kd.own_of_R HO132.out)))
       go_roundg k1
       case measure => have := HK1.out; omega
       case rel => exact ⟨(wrap64 (Int.tdiv x0_1 10)), ((strOfNums y130) ++ x3_1), (by first | rfl | (simp; done) | (simp [*]; done)), (by first | rfl | (simp; done) | (simp [*]; done)), H', ⟨by have := HK1.out; omega⟩, ⟨be_ HB.out⟩⟩
      ·
       rw [if_neg c7] at H; exact absurd H (by simp)
     ·
      rw [if_neg c6] at H; have c6b0 : decide ((Int.tmod x0_1 10) < 0) = false := decide_eq_false c6; clear c6; obtain ⟨y133, hy133⟩ : ∃ y_ : List Int, y_ = (([(wrap64 (48 + (Int.tmod x0_1 10))) % 256] : List Int)) := ⟨_, rfl⟩; replace H : (if (strOfNums y133).size + x3_1.size ≤ 9223372036854775807 then (spec_l01Num.l0 k1 (wrap64 (Int.tdiv x0_1 10)) ((strOfNums y133) ++ x3_1) (decide (a0 < 0))) else (none)) = some r := by first | (rw [hy133]; with_reducible exact H) | (have H2_ := (Option.bind_some _ _).symm.trans H; rw [hy133]; with_reducible exact H2_) | (have H2_ := (Option.bind_some _ _).symm.trans H; with_reducible exact H2_) | with_reducible exact H | (rw [hy133]; exact H) | exact H
      have Ny133 := Aside0.mk hy133; clear hy133
      by_cases c11 : (strOfNums y133).size + x3_1.size ≤ 9223372036854775807
      ·
       rw [if_pos c11] at H; have c11b0 := eq_true c11; have c11b1 : decide ((strOfNums y133).size + x3_1.size ≤ 9223372036854775807) = true := decide_eq_true c11; (try have c11b2 : (9223372036854775807 < (strOfNums y133).size + x3_1.size) = False := eq_false (Nat.not_lt.2 c11)); have H' := Aside0.mk H; clear H
       go_wp2_with (first | ((with_reducible refine gate_dst (N := 21) rfl ?_); refine Kd.R_lit (Kd.int .u8) _ 5 ?hg (N := 21) ?hd (xs := ([(wrap64 (48 + (Int.tmod x0_1 10))) % 256] : List Int)) (inner := [.int .u8 ((wrap64 (48 + (Int.tmod x0_1 10))) % 256)]) (ok := fun _ => True) (okp := fun _ => True) ?hr ?hp (fun _ hk => hk) trivial (Below.refl _ _) (Nat.le_refl _) (by simp) ?_; (case hd => rfl); (case hg => rfl); (case hr => first | (go_simp; done) | (go_simp; rfl)); (case hp => exact (Reps.one (show Kd.M (Kd.int .u8) _ _ _ ((wrap64 (48 + (Int.tmod x0_1 10))) % 256) [.int .u8 ((wrap64 (48 + (Int.tmod x0_1 10))) % 256)] from rfl) (Reps.none _ _))); intro v134 w12 ho13 hb hg_ hnew_; clear hg_ hnew_; (first | rw [← Ny133.out] at ho13 | (simp only [Int.reduceToNat] at ho13; rw [← Ny133.out] at ho13)); have HO135 := Aside0.mk (Kd.R_lower ho13 (below_size (be_ HB.out))); replace HB := hb_ HB hb; clear hb ho13; have hcv14 := own_string (P := Tryz.prog) Tryz.underlying83 Tryz.underlying5 Tryz.underlying9 (Kd.own_of_R HO135.out)))
       go_roundg k1
       case measure => have := HK1.out; omega
       case rel => exact ⟨(wrap64 (Int.tdiv x0_1 10)), ((strOfNums y133) ++ x3_1), (by first | rfl | (simp; done) | (simp [*]; done)), (by first | rfl | (simp; done) | (simp [*]; done)), H', ⟨by have := HK1.out; omega⟩, ⟨be_ HB.out⟩⟩
      ·
       rw [if_neg c11] at H; exact absurd H (by simp)

def spec_l01In.f (a0 : Int) (a1 : Int) (a2 : Int) : Option (Bool) := if a1 ≤ a0 then (some (decide (a0 ≤ a2))) else (some false)
set_option maxHeartbeats 8000000 in
set_option maxRecDepth 100000 in
theorem spec_l01In.calls {a0 : Int} {a1 : Int} {a2 : Int} {r : Bool} {w : World} (h : spec_l01In.f a0 a1 a2 = some r) :
  Calls Tryz.prog 45 #[.int .i64 a0, .int .i64 a1, .int .i64 a2] w fun e w' => e = .returned (.bool r) ∧ Drawn0 w w' := by
 have H : (if a1 ≤ a0 then (some (decide (a0 ≤ a2))) else (some false)) = some r := h; clear h
 by_cases c4 : a1 ≤ a0
 ·
  rw [if_pos c4] at H; have c4b0 : decide (a1 ≤ a0) = true := decide_eq_true c4; clear c4; obtain rfl := Option.some.inj H
  go_enter Tryz.func45, Tryz.ntmps45
  go_wp2
  go_ret
  exact ⟨by first | rfl | (simp; done) | (simp [*]; done), by repeat (first | exact Drawn0.refl _ | apply Drawn0.step)⟩
 ·
  rw [if_neg c4] at H; have c4b0 : decide (a1 ≤ a0) = false := decide_eq_false c4; clear c4; obtain rfl := Option.some.inj H
  go_enter Tryz.func45, Tryz.ntmps45
  go_wp2
  go_ret
  exact ⟨by first | rfl | (simp; done) | (simp [*]; done), by repeat (first | exact Drawn0.refl _ | apply Drawn0.step)⟩

def spec_ShapeOk.f (a0_0 : Int) (a0_1 : Int) (a0_2 : Int) : Option (Bool) := (spec_l01In.f a0_0 1 8).bind fun t137 => (if t137 = true then ((spec_l01In.f a0_1 1 8).bind fun t138 => (if t138 = true then ((spec_l01In.f a0_2 1 8).bind fun t139 => (some t139)) else (some false))) else (some false))
set_option maxHeartbeats 8000000 in
set_option maxRecDepth 100000 in
theorem spec_ShapeOk.calls {a0_0 : Int} {a0_1 : Int} {a0_2 : Int} {r : Bool} {w : World} (h : spec_ShapeOk.f a0_0 a0_1 a0_2 = some r) :
  Calls Tryz.prog 68 #[.agg #[.int .i64 a0_0, .int .i64 a0_1, .int .i64 a0_2]] w fun e w' => e = .returned (.bool r) ∧ Below w.heap.size w w' := by
 have hu47 := Tryz.underlying47; have HB := Aside0.mk (Below.refl w.heap.size w); have H : ((spec_l01In.f a0_0 1 8).bind fun t137 => (if t137 = true then ((spec_l01In.f a0_1 1 8).bind fun t138 => (if t138 = true then ((spec_l01In.f a0_2 1 8).bind fun t139 => (some t139)) else (some false))) else (some false))) = some r := h; clear h; obtain ⟨t137, A2, H⟩ := bo_ H; (try dsimp only at H)
 by_cases c3 : t137 = true
 ·
  subst c3; rw [if_pos rfl] at H; obtain ⟨t138, A4, H⟩ := bo_ H; (try dsimp only at H)
  by_cases c5 : t138 = true
  ·
   subst c5; rw [if_pos rfl] at H; obtain ⟨t139, A6, H⟩ := bo_ H; (try dsimp only at H); obtain rfl := Option.some.inj H
   go_enter Tryz.func68, Tryz.ntmps68
   go_wp2_with (first | ((with_reducible refine gate_dst (N := 1) rfl ?_); refine bz_ 1 ?_; intro gb136 hg w7 hbox hb; obtain ⟨BK136, GW136, GE136, HB⟩ := nb_ hg hbox HB hb; clear hb hbox hg; have hcz8 := box3_ BK136.out) | ((with_reducible refine gc_ 45 ?_); refine gl_ (some 5) Tryz.func45 #[.int .i64 a0_0, .int .i64 1, .int .i64 8] ?_; (with_reducible refine (spec_l01In.calls A2.out).mono ?_); rintro e w' ⟨rfl, ⟨nd, rfl⟩⟩; refine ⟨_, rfl, ?_⟩) | (go_at_call 45; (with_reducible refine (spec_l01In.calls A4.out).mono ?_); rintro e w' ⟨rfl, ⟨nd, rfl⟩⟩) | (go_at_call 45; (with_reducible refine (spec_l01In.calls A6.out).mono ?_); rintro e w' ⟨rfl, ⟨nd, rfl⟩⟩))
   go_ret
   exact rt_ HB.out
  ·
   replace c5 := Bool.eq_false_iff.mpr c5; subst c5; have H1 : (some false) = some r := by rw [if_neg (show ¬ (false = true) by decide)] at H; exact H
   clear H; have H := H1; clear H1; obtain rfl := Option.some.inj H
   go_enter Tryz.func68, Tryz.ntmps68
   go_wp2_with (first | ((with_reducible refine gate_dst (N := 1) rfl ?_); refine bz_ 1 ?_; intro gb136 hg w9 hbox hb; obtain ⟨BK136, GW136, GE136, HB⟩ := nb_ hg hbox HB hb; clear hb hbox hg; have hcz10 := box3_ BK136.out) | ((with_reducible refine gc_ 45 ?_); refine gl_ (some 5) Tryz.func45 #[.int .i64 a0_0, .int .i64 1, .int .i64 8] ?_; (with_reducible refine (spec_l01In.calls A2.out).mono ?_); rintro e w' ⟨rfl, ⟨nd, rfl⟩⟩; refine ⟨_, rfl, ?_⟩) | (go_at_call 45; (with_reducible refine (spec_l01In.calls A4.out).mono ?_); rintro e w' ⟨rfl, ⟨nd, rfl⟩⟩))
   go_ret
   exact rt_ HB.out
 ·
  replace c3 := Bool.eq_false_iff.mpr c3; subst c3; have H1 : (some false) = some r := by rw [if_neg (show ¬ (false = true) by decide)] at H; exact H
  clear H; have H := H1; clear H1; obtain rfl := Option.some.inj H
  go_enter Tryz.func68, Tryz.ntmps68
  go_wp2_with (first | ((with_reducible refine gate_dst (N := 1) rfl ?_); refine bz_ 1 ?_; intro gb136 hg w11 hbox hb; obtain ⟨BK136, GW136, GE136, HB⟩ := nb_ hg hbox HB hb; clear hb hbox hg; have hcz12 := box3_ BK136.out) | ((with_reducible refine gc_ 45 ?_); refine gl_ (some 5) Tryz.func45 #[.int .i64 a0_0, .int .i64 1, .int .i64 8] ?_; (with_reducible refine (spec_l01In.calls A2.out).mono ?_); rintro e w' ⟨rfl, ⟨nd, rfl⟩⟩; refine ⟨_, rfl, ?_⟩))
  go_ret
  exact rt_ HB.out

def spec_SizeOf.f (a0_0 : Int) (a0_1 : Int) (a0_2 : Int) : Option (Int) := (spec_ShapeOk.f a0_0 a0_1 a0_2).bind fun t141 => (if t141 = true then (some (wrap64 ((wrap64 (a0_0 * a0_1)) * a0_2))) else (some 0))
set_option maxHeartbeats 8000000 in
set_option maxRecDepth 100000 in
theorem spec_SizeOf.calls {a0_0 : Int} {a0_1 : Int} {a0_2 : Int} {r : Int} {w : World} (h : spec_SizeOf.f a0_0 a0_1 a0_2 = some r) :
  Calls Tryz.prog 70 #[.agg #[.int .i64 a0_0, .int .i64 a0_1, .int .i64 a0_2]] w fun e w' => e = .returned (.int .i64 r) ∧ Below w.heap.size w w' := by
 have hu47 := Tryz.underlying47; have HB := Aside0.mk (Below.refl w.heap.size w); have H : ((spec_ShapeOk.f a0_0 a0_1 a0_2).bind fun t141 => (if t141 = true then (some (wrap64 ((wrap64 (a0_0 * a0_1)) * a0_2))) else (some 0))) = some r := h; clear h; obtain ⟨t141, A2, H⟩ := bo_ H; (try dsimp only at H)
 by_cases c3 : t141 = true
 ·
  subst c3; rw [if_pos rfl] at H; obtain rfl := Option.some.inj H
  go_enter Tryz.func70, Tryz.ntmps70
  go_wp2_with (first | ((with_reducible refine gate_dst (N := 1) rfl ?_); refine bz_ 1 ?_; intro gb140 hg w4 hbox hb; obtain ⟨BK140, GW140, GE140, HB⟩ := nb_ hg hbox HB hb; clear hb hbox hg; have hcz5 := box3_ BK140.out) | ((with_reducible refine gc_ 68 ?_); refine gl_ (some 4) Tryz.func68 #[.agg #[.int .i64 a0_0, .int .i64 a0_1, .int .i64 a0_2]] ?_; (with_reducible refine (spec_ShapeOk.calls A2.out).mono ?_); rintro e w6 ⟨rfl, hb⟩; refine ⟨_, rfl, ?_⟩; replace BK140 := bb_ BK140 hb; replace HB := hb_ HB hb; (try clear hb); have hcz7 := box3_ BK140.out))
  go_ret
  exact rt_ HB.out
 ·
  replace c3 := Bool.eq_false_iff.mpr c3; subst c3; have H1 : (some 0) = some r := by rw [if_neg (show ¬ (false = true) by decide)] at H; exact H
  clear H; have H := H1; clear H1; obtain rfl := Option.some.inj H
  go_enter Tryz.func70, Tryz.ntmps70
  go_wp2_with (first | ((with_reducible refine gate_dst (N := 1) rfl ?_); refine bz_ 1 ?_; intro gb140 hg w8 hbox hb; obtain ⟨BK140, GW140, GE140, HB⟩ := nb_ hg hbox HB hb; clear hb hbox hg; have hcz9 := box3_ BK140.out) | ((with_reducible refine gc_ 68 ?_); refine gl_ (some 4) Tryz.func68 #[.agg #[.int .i64 a0_0, .int .i64 a0_1, .int .i64 a0_2]] ?_; (with_reducible refine (spec_ShapeOk.calls A2.out).mono ?_); rintro e w10 ⟨rfl, hb⟩; refine ⟨_, rfl, ?_⟩; replace BK140 := bb_ BK140 hb; replace HB := hb_ HB hb; (try clear hb)))
  go_ret
  exact rt_ HB.out

def spec_l02Int8.f (a0 : Int) : Option (Bool) := (spec_l01In.f a0 (-128) 127).bind fun t142 => (some t142)
set_option maxHeartbeats 8000000 in
set_option maxRecDepth 100000 in
theorem spec_l02Int8.calls {a0 : Int} {r : Bool} {w : World} (h : spec_l02Int8.f a0 = some r) :
  Calls Tryz.prog 71 #[.int .i64 a0] w fun e w' => e = .returned (.bool r) ∧ Drawn0 w w' := by
 have H : ((spec_l01In.f a0 (-128) 127).bind fun t142 => (some t142)) = some r := h; clear h; obtain ⟨t142, A2, H⟩ := bo_ H; (try dsimp only at H); obtain rfl := Option.some.inj H
 go_enter Tryz.func71, Tryz.ntmps71
 go_wp2_with (first | ((with_reducible refine gc_ 45 ?_); refine gl_ (some 4) Tryz.func45 #[.int .i64 a0, .int .i64 (-128), .int .i64 127] ?_; (with_reducible refine (spec_l01In.calls A2.out).mono ?_); rintro e w' ⟨rfl, ⟨nd, rfl⟩⟩; refine ⟨_, rfl, ?_⟩))
 go_ret
 exact ⟨by first | rfl | (simp; done) | (simp [*]; done), by repeat (first | exact Drawn0.refl _ | apply Drawn0.step)⟩

end Go.Proofs.YtemnodpabflkoaaGreatDoor.QFnExactQueueText
