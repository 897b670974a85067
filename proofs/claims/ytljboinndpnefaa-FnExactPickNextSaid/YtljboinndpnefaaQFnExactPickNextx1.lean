/- The Go functions that the statement FnExactPickNext reaches, as Lean functions, each with a proof that the call does what its function says; laid by a program of this session. No condition. -/
import Derived.Test.YtljboinndpnefaaQFnExactPickNextx0
namespace Go.Proofs.Ytljboinndpnefaa.QFnExactPickNext
open Go.RowKit Go.Proofs.YtljboinndpnefaaW.PrintWords Go.Proofs.YtljboinndpnefaaW.PrintLast Go.Proofs.YtljboinndpnefaaW.PrintMore
attribute [local go_sem] max2_int min2_int max_two min_two max_three min_three max_four min_four   -- for this text's walks alone
set_option linter.unusedVariables false
set_option linter.unusedSimpArgs false

/-! ### laws_szIntS: function 50 -/
def laws_szIntS.f (l0 : List Int) (a1 : Int) : Option (Int) := if (wrap64 (a1 - (l0.length : Int))) < 0 then (some (-1)) else (some (wrap64 (a1 - (l0.length : Int))))
set_option maxHeartbeats 8000000 in
set_option maxRecDepth 100000 in
theorem laws_szIntS.calls {A0 : Option Addr} {c0 : Nat} {l0 : List Int} {a1 : Int} {r : Int} {w : World} (hr0 : Kd.C (Kd.int .i64) w A0 l0.length l0) (hc0 : l0.length ≤ c0) (h : laws_szIntS.f l0 a1 = some r) :
  Calls Try.prog 50 #[.slice A0 l0.length c0, .int .i64 a1] w fun e w' => e = .returned (.int .i64 r) ∧ Drawn0 w w' := by
 have HR0 := Aside0.mk hr0; have HC0 := Aside0.mk hc0; clear hr0 hc0; have H : (if (wrap64 (a1 - (l0.length : Int))) < 0 then (some (-1)) else (some (wrap64 (a1 - (l0.length : Int))))) = some r := h; clear h
 by_cases c3 : (wrap64 (a1 - (l0.length : Int))) < 0
 ·
  rw [if_pos c3] at H; have c3b0 : decide ((wrap64 (a1 - (l0.length : Int))) < 0) = true := decide_eq_true c3; clear c3; obtain rfl := Option.some.inj H
  go_enter Try.func50, Try.ntmps50
  go_wp2
  go_ret
  exact ⟨by first | rfl | (simp; done) | (simp [*]; done), by repeat (first | exact Drawn0.refl _ | apply Drawn0.step)⟩
 ·
  rw [if_neg c3] at H; have c3b0 : decide ((wrap64 (a1 - (l0.length : Int))) < 0) = false := decide_eq_false c3; clear c3; obtain rfl := Option.some.inj H
  go_enter Try.func50, Try.ntmps50
  go_wp2
  go_ret
  exact ⟨by first | rfl | (simp; done) | (simp [*]; done), by repeat (first | exact Drawn0.refl _ | apply Drawn0.step)⟩

/-! ### laws_szTask: function 14 -/
def laws_szTask.f (a0_0 : Int) (l0_1 : List Int) (a0_2 : Int) (a0_3 : Int) (a0_4 : Int) (a1 : Int) : Option (Int) := (laws_szIntS.f l0_1 a1).bind fun t102 => (if t102 < 0 then (some (-1)) else (some t102))
set_option maxHeartbeats 8000000 in
set_option maxRecDepth 100000 in
theorem laws_szTask.calls {a0_0 : Int} {A0_1 : Option Addr} {c0_1 : Nat} {l0_1 : List Int} {a0_2 : Int} {a0_3 : Int} {a0_4 : Int} {a1 : Int} {r : Int} {w : World} (hr0_1 : Kd.C (Kd.int .i64) w A0_1 l0_1.length l0_1) (hc0_1 : l0_1.length ≤ c0_1) (h : laws_szTask.f a0_0 l0_1 a0_2 a0_3 a0_4 a1 = some r) :
  Calls Try.prog 14 #[.agg #[.int .i64 a0_0, .slice A0_1 l0_1.length c0_1, .int .i64 a0_2, .int .i64 a0_3, .int .i64 a0_4], .int .i64 a1] w fun e w' => e = .returned (.int .i64 r) ∧ Below w.heap.size w w' := by
 have hu24 := Try.underlying24; have HR0_1 := Aside0.mk hr0_1; have HC0_1 := Aside0.mk hc0_1; clear hr0_1 hc0_1; have HB := Aside0.mk (Below.refl w.heap.size w); have H : ((laws_szIntS.f l0_1 a1).bind fun t102 => (if t102 < 0 then (some (-1)) else (some t102))) = some r := h; clear h; obtain ⟨t102, A3, H⟩ := bo_ H; (try dsimp only at H)
 by_cases c4 : t102 < 0
 ·
  rw [if_pos c4] at H; have c4b0 : decide (t102 < 0) = true := decide_eq_true c4; clear c4; obtain rfl := Option.some.inj H
  go_enter Try.func14, Try.ntmps14
  go_wp2_with (first | ((with_reducible refine gate_dst (N := 2) rfl ?_); refine bz_ 2 ?_; intro gb101 hg w5 hbox hb; obtain ⟨BK101, GW101, GE101, HB⟩ := nb_ hg hbox HB hb; clear hb hbox hg; have hcz6 := box5_ BK101.out) | ((with_reducible refine gc_ 50 ?_); refine gl_ (some 8) Try.func50 #[.slice A0_1 l0_1.length c0_1, .int .i64 a1] ?_; (with_reducible refine (laws_szIntS.calls ?_ ?_ A3.out).mono ?_); exact cu_ HR0_1.out HB.out; exact HC0_1.out; rintro e w' ⟨rfl, ⟨nd, rfl⟩⟩; refine ⟨_, rfl, ?_⟩))
  go_ret
  exact rt_ HB.out
 ·
  rw [if_neg c4] at H; have c4b0 : decide (t102 < 0) = false := decide_eq_false c4; clear c4; obtain rfl := Option.some.inj H
  go_enter Try.func14, Try.ntmps14
  go_wp2_with (first | ((with_reducible refine gate_dst (N := 2) rfl ?_); refine bz_ 2 ?_; intro gb101 hg w7 hbox hb; obtain ⟨BK101, GW101, GE101, HB⟩ := nb_ hg hbox HB hb; clear hb hbox hg; have hcz8 := box5_ BK101.out) | ((with_reducible refine gc_ 50 ?_); refine gl_ (some 8) Try.func50 #[.slice A0_1 l0_1.length c0_1, .int .i64 a1] ?_; (with_reducible refine (laws_szIntS.calls ?_ ?_ A3.out).mono ?_); exact cu_ HR0_1.out HB.out; exact HC0_1.out; rintro e w' ⟨rfl, ⟨nd, rfl⟩⟩; refine ⟨_, rfl, ?_⟩))
  go_ret
  exact rt_ HB.out

/-! ### laws_szTaskS: function 58 -/
def laws_szTaskS.l0 : Nat → List (S24) → Int → Int → Option (Int)
 | 0, _, _, _ => none
 | k + 1, x0, x1, x5 => if x5 < (x0.length : Int) then (if 0 ≤ x5 then ((laws_szTask.f ((rd_T24 x0 x5).f0) ((rd_T24 x0 x5).f1) ((rd_T24 x0 x5).f2) ((rd_T24 x0 x5).f3) ((rd_T24 x0 x5).f4) x1).bind fun t104 => (if t104 < 0 then (some (-1)) else (laws_szTaskS.l0 k x0 t104 (wrap64 (x5 + 1))))) else (none)) else (some x1)
def laws_szTaskS.f (k : Nat) (l0 : List (S24)) (a1 : Int) : Option (Int) := if (wrap64 (a1 - (l0.length : Int))) < 0 then (some (-1)) else (laws_szTaskS.l0 k l0 (wrap64 (a1 - (l0.length : Int))) 0)
set_option maxHeartbeats 8000000 in
set_option maxRecDepth 100000 in
theorem laws_szTaskS.calls {k : Nat} {A0 : Option Addr} {c0 : Nat} {l0 : List (S24)} {a1 : Int} {r : Int} {w : World} (hr0 : Kd.C k24 w A0 l0.length l0) (hc0 : l0.length ≤ c0) (h : laws_szTaskS.f k l0 a1 = some r) :
  Calls Try.prog 58 #[.slice A0 l0.length c0, .int .i64 a1] w fun e w' => e = .returned (.int .i64 r) ∧ Below w.heap.size w w' := by
 have hu24 := Try.underlying24; have HR0 := Aside0.mk hr0; have HC0 := Aside0.mk hc0; clear hr0 hc0; have HB := Aside0.mk (Below.refl w.heap.size w); have H : (if (wrap64 (a1 - (l0.length : Int))) < 0 then (some (-1)) else (laws_szTaskS.l0 k l0 (wrap64 (a1 - (l0.length : Int))) 0)) = some r := h; clear h
 by_cases c3 : (wrap64 (a1 - (l0.length : Int))) < 0
 ·
  rw [if_pos c3] at H; have c3b0 : decide ((wrap64 (a1 - (l0.length : Int))) < 0) = true := decide_eq_true c3; clear c3; obtain rfl := Option.some.inj H
  go_enter Try.func58, Try.ntmps58
  go_wp2
  go_ret
  exact rt_ HB.out
 ·
  rw [if_neg c3] at H; have c3b0 : decide ((wrap64 (a1 - (l0.length : Int))) < 0) = false := decide_eq_false c3; clear c3; have H' := Aside0.mk H; clear H
  go_enter Try.func58, Try.ntmps58
  go_wp2
  go_loopg [1, 5] k (fun kq v1 v5 w' => ∃ (x1_1 : Int) (x5_1 : Int), v1 = .int .i64 x1_1 ∧ v5 = .int .i64 x5_1 ∧ Aside0 (laws_szTaskS.l0 kq l0 x1_1 x5_1 = some r) ∧ Aside0 (kq ≤ k) ∧ Aside0 (Below w.heap.size w w'))
  case atStart => exact ⟨(wrap64 (a1 - (l0.length : Int))), (0), (by first | rfl | (simp; done) | (simp [*]; done)), (by first | rfl | (simp; done) | (simp [*]; done)), H', ⟨Nat.le_refl _⟩, ⟨be_ HB.out⟩⟩
  case round =>
   clear H'; (try clear p2); (try clear c3); (try clear c3b0); obtain ⟨x1_1, x5_1, rfl, rfl, HA, HK1, HB⟩ := hrel
   cases gk with
   | zero => exact absurd HA.out (by simp [laws_szTaskS.l0])
   | succ k1 =>
    have H := HA.out; clear HA; simp only [laws_szTaskS.l0] at H
    by_cases c4 : x5_1 < (l0.length : Int)
    ·
     rw [if_pos c4] at H; have c4b0 : decide (x5_1 < (l0.length : Int)) = true := decide_eq_true c4; clear c4
     by_cases c5 : 0 ≤ x5_1
     ·
      rw [if_pos c5] at H; have c5b0 : decide (0 ≤ x5_1) = true := decide_eq_true c5; clear c5; obtain ⟨t104, A6, H⟩ := bo_ H; (try dsimp only at H)
      by_cases c7 : t104 < 0
      ·
       rw [if_pos c7] at H; have c7b0 : decide (t104 < 0) = true := decide_eq_true c7; clear c7; obtain rfl := Option.some.inj H; have p103 : 0 ≤ (x5_1 : Int) := od_; have q103 : x5_1 < (l0.length : Int) := od_; obtain ⟨ad103, A103_1, c103_1, e103, hx103_0, hx103_1, hx103_2, hx103_3, hx103_4, hl103_1, hi103_1⟩ := at_T24 HR0.out x5_1 p103 q103
       cases e103
       replace hx103_0 := cw_ HB.out hx103_0; replace hx103_1 := cw_ HB.out hx103_1; replace hx103_2 := cw_ HB.out hx103_2; replace hx103_3 := cw_ HB.out hx103_3; replace hx103_4 := cw_ HB.out hx103_4; have HR103_1 := Aside0.mk hi103_1; have HC103_1 := Aside0.mk hl103_1; clear hi103_1 hl103_1; replace p103 := eq_true p103; replace q103 := eq_true q103
       go_wp2_with (first | ((with_reducible refine gc_ 14 ?_); refine gl_ (some 23) Try.func14 #[.agg #[.int .i64 ((rd_T24 l0 x5_1).f0), .slice A103_1 ((rd_T24 l0 x5_1).f1).length c103_1, .int .i64 ((rd_T24 l0 x5_1).f2), .int .i64 ((rd_T24 l0 x5_1).f3), .int .i64 ((rd_T24 l0 x5_1).f4)], .int .i64 x1_1] ?_; (with_reducible refine (laws_szTask.calls ?_ ?_ A6.out).mono ?_); exact cu_ HR103_1.out HB.out; exact HC103_1.out; rintro e w8 ⟨rfl, hb⟩; refine ⟨_, rfl, ?_⟩; replace HB := hb_ HB hb; (try clear hb)))
       go_ret
       exact rt_ HB.out
      ·
       rw [if_neg c7] at H; have c7b0 : decide (t104 < 0) = false := decide_eq_false c7; clear c7; have H' := Aside0.mk H; clear H; have p103 : 0 ≤ (x5_1 : Int) := od_; have q103 : x5_1 < (l0.length : Int) := od_; obtain ⟨ad103, A103_1, c103_1, e103, hx103_0, hx103_1, hx103_2, hx103_3, hx103_4, hl103_1, hi103_1⟩ := at_T24 HR0.out x5_1 p103 q103
       cases e103
       replace hx103_0 := cw_ HB.out hx103_0; replace hx103_1 := cw_ HB.out hx103_1; replace hx103_2 := cw_ HB.out hx103_2; replace hx103_3 := cw_ HB.out hx103_3; replace hx103_4 := cw_ HB.out hx103_4; have HR103_1 := Aside0.mk hi103_1; have HC103_1 := Aside0.mk hl103_1; clear hi103_1 hl103_1; replace p103 := eq_true p103; replace q103 := eq_true q103
       go_wp2_with (first | ((with_reducible refine gc_ 14 ?_); refine gl_ (some 23) Try.func14 #[.agg #[.int .i64 ((rd_T24 l0 x5_1).f0), .slice A103_1 ((rd_T24 l0 x5_1).f1).length c103_1, .int .i64 ((rd_T24 l0 x5_1).f2), .int .i64 ((rd_T24 l0 x5_1).f3), .int .i64 ((rd_T24 l0 x5_1).f4)], .int .i64 x1_1] ?_; (with_reducible refine (laws_szTask.calls ?_ ?_ A6.out).mono ?_); exact cu_ HR103_1.out HB.out; exact HC103_1.out; rintro e w9 ⟨rfl, hb⟩; refine ⟨_, rfl, ?_⟩; replace HB := hb_ HB hb; (try clear hb)))
       go_roundg k1
       case measure => have := HK1.out; omega
       case rel => exact ⟨(t104), (wrap64 (x5_1 + 1)), (by first | rfl | (simp; done) | (simp [*]; done)), (by first | rfl | (simp; done) | (simp [*]; done)), H', ⟨by have := HK1.out; omega⟩, ⟨be_ HB.out⟩⟩
     ·
      rw [if_neg c5] at H; exact absurd H (by simp)
    ·
     rw [if_neg c4] at H; have c4b0 : decide (x5_1 < (l0.length : Int)) = false := decide_eq_false c4; clear c4; obtain rfl := Option.some.inj H
     go_wp2
     go_ret
     exact rt_ HB.out

/-! ### laws_szSched: function 19 -/
def laws_szSched.f (k : Nat) (a0_0 : Int) (a0_1 : Int) (a0_2 : Int) (l0_3 : List (S24)) (a0_4 : Int) (a0_5 : Int) (a0_6 : Int) (a0_7 : Int) (a1 : Int) : Option (Int) := (laws_szTaskS.f k l0_3 a1).bind fun t106 => (if t106 < 0 then (some (-1)) else (some t106))
set_option maxHeartbeats 8000000 in
set_option maxRecDepth 100000 in
theorem laws_szSched.calls {k : Nat} {a0_0 : Int} {a0_1 : Int} {a0_2 : Int} {A0_3 : Option Addr} {c0_3 : Nat} {l0_3 : List (S24)} {a0_4 : Int} {a0_5 : Int} {a0_6 : Int} {a0_7 : Int} {a1 : Int} {r : Int} {w : World} (hr0_3 : Kd.C k24 w A0_3 l0_3.length l0_3) (hc0_3 : l0_3.length ≤ c0_3) (h : laws_szSched.f k a0_0 a0_1 a0_2 l0_3 a0_4 a0_5 a0_6 a0_7 a1 = some r) :
  Calls Try.prog 19 #[.agg #[.int .i64 a0_0, .int .i64 a0_1, .int .i64 a0_2, .slice A0_3 l0_3.length c0_3, .int .i64 a0_4, .int .i64 a0_5, .int .i64 a0_6, .int .i64 a0_7], .int .i64 a1] w fun e w' => e = .returned (.int .i64 r) ∧ Below w.heap.size w w' := by
 have hu33 := Try.underlying33; have HR0_3 := Aside0.mk hr0_3; have HC0_3 := Aside0.mk hc0_3; clear hr0_3 hc0_3; have HB := Aside0.mk (Below.refl w.heap.size w); have H : ((laws_szTaskS.f k l0_3 a1).bind fun t106 => (if t106 < 0 then (some (-1)) else (some t106))) = some r := h; clear h; obtain ⟨t106, A3, H⟩ := bo_ H; (try dsimp only at H)
 by_cases c4 : t106 < 0
 ·
  rw [if_pos c4] at H; have c4b0 : decide (t106 < 0) = true := decide_eq_true c4; clear c4; obtain rfl := Option.some.inj H
  go_enter Try.func19, Try.ntmps19
  go_wp2_with (first | ((with_reducible refine gate_dst (N := 2) rfl ?_); refine bz_ 2 ?_; intro gb105 hg w5 hbox hb; obtain ⟨BK105, GW105, GE105, HB⟩ := nb_ hg hbox HB hb; clear hb hbox hg; have hcz6 := box8_ BK105.out) | ((with_reducible refine gc_ 58 ?_); refine gl_ (some 8) Try.func58 #[.slice A0_3 l0_3.length c0_3, .int .i64 a1] ?_; (with_reducible refine (laws_szTaskS.calls ?_ ?_ A3.out).mono ?_); exact cu_ HR0_3.out HB.out; exact HC0_3.out; rintro e w7 ⟨rfl, hb⟩; refine ⟨_, rfl, ?_⟩; replace BK105 := bb_ BK105 hb; replace HB := hb_ HB hb; (try clear hb)))
  go_ret
  exact rt_ HB.out
 ·
  rw [if_neg c4] at H; have c4b0 : decide (t106 < 0) = false := decide_eq_false c4; clear c4; obtain rfl := Option.some.inj H
  go_enter Try.func19, Try.ntmps19
  go_wp2_with (first | ((with_reducible refine gate_dst (N := 2) rfl ?_); refine bz_ 2 ?_; intro gb105 hg w8 hbox hb; obtain ⟨BK105, GW105, GE105, HB⟩ := nb_ hg hbox HB hb; clear hb hbox hg; have hcz9 := box8_ BK105.out) | ((with_reducible refine gc_ 58 ?_); refine gl_ (some 8) Try.func58 #[.slice A0_3 l0_3.length c0_3, .int .i64 a1] ?_; (with_reducible refine (laws_szTaskS.calls ?_ ?_ A3.out).mono ?_); exact cu_ HR0_3.out HB.out; exact HC0_3.out; rintro e w10 ⟨rfl, hb⟩; refine ⟨_, rfl, ?_⟩; replace BK105 := bb_ BK105 hb; replace HB := hb_ HB hb; (try clear hb)))
  go_ret
  exact rt_ HB.out

/-! ### laws_toIntS: function 53 -/
def laws_toIntS.l0 : Nat → List Int → List Int → Int → Option (List Int)
 | 0, _, _, _ => none
 | k + 1, x0, x3, x4 => if x4 < (x0.length : Int) then (if 0 ≤ x4 then (if x4 < (x3.length : Int) then (laws_toIntS.l0 k x0 (x3.set (x4 : Int).toNat (rd x0 x4)) (wrap64 (x4 + 1))) else (none)) else (none)) else (some x3)
def laws_toIntS.f (k : Nat) (l0 : List Int) : Option (List Int) := if 0 ≤ (l0.length : Int) then (if ((l0.length : Int) : Int).toNat ≤ 35184372088832 then (laws_toIntS.l0 k l0 (List.replicate ((l0.length : Int) : Int).toNat 0) 0) else (none)) else (none)
set_option maxHeartbeats 8000000 in
set_option maxRecDepth 100000 in
theorem laws_toIntS.calls {k : Nat} {A0 : Option Addr} {c0 : Nat} {l0 : List Int} {r : List Int} {w : World} (hr0 : Kd.C (Kd.int .i64) w A0 l0.length l0) (hc0 : l0.length ≤ c0) (h : laws_toIntS.f k l0 = some r) :
  Calls Try.prog 53 #[.slice A0 l0.length c0] w fun e w' => ∃ v0_ : Value, e = .returned (v0_) ∧ Kd.R (Kd.int .i64) 3 w' w.heap.size (fun _ => True) v0_ r ∧ Below w.heap.size w w' := by
 have HR0 := Aside0.mk hr0; have HC0 := Aside0.mk hc0; clear hr0 hc0; have HB := Aside0.mk (Below.refl w.heap.size w); have H : (if 0 ≤ (l0.length : Int) then (if ((l0.length : Int) : Int).toNat ≤ 35184372088832 then (laws_toIntS.l0 k l0 (List.replicate ((l0.length : Int) : Int).toNat 0) 0) else (none)) else (none)) = some r := h; clear h
 by_cases c2 : 0 ≤ (l0.length : Int)
 ·
  rw [if_pos c2] at H; have c2b0 := eq_true c2; have c2b1 : decide (0 ≤ (l0.length : Int)) = true := decide_eq_true c2; clear c2
  by_cases c3 : ((l0.length : Int) : Int).toNat ≤ 35184372088832
  ·
   rw [if_pos c3] at H; have c3b0 := eq_true c3; have c3b1 : decide (((l0.length : Int) : Int).toNat ≤ 35184372088832) = true := decide_eq_true c3; clear c3; obtain ⟨y107, hy107⟩ : ∃ y_ : List Int, y_ = (List.replicate ((l0.length : Int) : Int).toNat 0) := ⟨_, rfl⟩; replace H : (laws_toIntS.l0 k l0 y107 0) = some r := by first | (rw [hy107]; with_reducible exact H) | (have H2_ := (Option.bind_some _ _).symm.trans H; rw [hy107]; with_reducible exact H2_) | (have H2_ := (Option.bind_some _ _).symm.trans H; with_reducible exact H2_) | with_reducible exact H | (rw [hy107]; exact H) | exact H
   have Ny107 := Aside0.mk hy107; clear hy107; have H' := Aside0.mk H; clear H
   go_enter Try.func53, Try.ntmps53
   go_wp2_with (first | ((with_reducible refine gate_dst (N := 7) rfl ?_); refine Kd.R_make (Kd.int .i64) _ 3 rfl (N := 7) rfl 22 _ _ rfl (l0.length : Int) rfl rfl Try.underlying22 (.int .i64 0) 8 info3 rfl (by decide) (by omega) 0 (ok := fun _ => True) (okp := fun _ => True) rfl (fun _ hk => hk) trivial (od_) (Nat.le_trans (Nat.mul_le_mul_right _ (od_ : (l0.length : Int).toNat ≤ 35184372088832)) (by omega)) (Below.refl _ _) (Nat.le_refl _) ?_; intro v108 w4 ho5 hb hg_ hnew_; clear hg_ hnew_; (first | rw [← Ny107.out] at ho5 | (simp only [Int.reduceToNat] at ho5; rw [← Ny107.out] at ho5)); have HO109 := Aside0.mk (Kd.R_lower ho5 (below_size (be_ HB.out))); replace HB := hb_ HB hb; clear hb ho5))
   (try simp only [Act.put, List.setIfInBounds_toArray, List.set_cons_zero, List.set_cons_succ])
   go_loopg [4] k (fun kq v4 w' => ∃ (x3_1 : List Int) (x4_1 : Int), v4 = .int .i64 x4_1 ∧ Aside0 (laws_toIntS.l0 kq l0 x3_1 x4_1 = some r) ∧ Aside0 (kq ≤ k) ∧ Aside0 (Kd.R (Kd.int .i64) 3 w' w.heap.size (fun _ => True) v108 x3_1) ∧ Aside0 (Below w.heap.size w w'))
   case atStart => exact ⟨(y107), (0), (by first | rfl | (simp; done) | (simp [*]; done)), H', ⟨Nat.le_refl _⟩, ⟨by (with_reducible repeat (first | apply Kd.R_alloc | apply Kd.R_drewN | apply Kd.R_drew)); exact HO109.out⟩, ⟨be_ HB.out⟩⟩
   case round =>
    clear H'; (try clear c2); (try clear c2b0); (try clear c2b1); (try clear p2); (try clear c3); (try clear c3b0); (try clear c3b1); (try clear c5); obtain ⟨x3_1, x4_1, rfl, HA, HK1, HO_3, HB⟩ := hrel
    cases gk with
    | zero => exact absurd HA.out (by simp [laws_toIntS.l0])
    | succ k1 =>
     have H := HA.out; clear HA; simp only [laws_toIntS.l0] at H
     by_cases c6 : x4_1 < (l0.length : Int)
     ·
      rw [if_pos c6] at H; have c6b0 : decide (x4_1 < (l0.length : Int)) = true := decide_eq_true c6; clear c6
      by_cases c7 : 0 ≤ x4_1
      ·
       rw [if_pos c7] at H; have c7b0 : decide (0 ≤ x4_1) = true := decide_eq_true c7; clear c7
       by_cases c8 : x4_1 < (x3_1.length : Int)
       ·
        rw [if_pos c8] at H; have c8b0 : decide (x4_1 < (x3_1.length : Int)) = true := decide_eq_true c8; clear c8; obtain ⟨y111, hy111⟩ : ∃ y_ : List Int, y_ = (x3_1.set (x4_1 : Int).toNat (rd l0 x4_1)) := ⟨_, rfl⟩; replace H : (laws_toIntS.l0 k1 l0 y111 (wrap64 (x4_1 + 1))) = some r := by first | (rw [hy111]; with_reducible exact H) | (have H2_ := (Option.bind_some _ _).symm.trans H; rw [hy111]; with_reducible exact H2_) | (have H2_ := (Option.bind_some _ _).symm.trans H; with_reducible exact H2_) | with_reducible exact H | (rw [hy111]; exact H) | exact H
        have Ny111 := Aside0.mk hy111; clear hy111; have H' := Aside0.mk H; clear H; have p110 : 0 ≤ (x4_1 : Int) := od_; have q110 : x4_1 < (l0.length : Int) := od_; obtain ⟨ad110, e110, hx110_0⟩ := Kd.at_int HR0.out x4_1 p110 q110
        cases e110
        replace hx110_0 := cw_ HB.out hx110_0; replace p110 := eq_true p110; replace q110 := eq_true q110; have p9 : 0 ≤ (x4_1 : Int) := od_; have q9 : (x4_1 : Int) < ((x3_1.length : Int) : Int) := od_; obtain ⟨go9, co9, eo9, gb9, gl9, cl9, HG9⟩ := Kd.R_form HO_3.out (by omega); (first | cases eo9 | (injection eo9 with ea_ en_ ec_; (first | subst ea_ | (injection ea_ with ea_; subst ea_)); subst ec_; clear en_)); have GB9 := Aside0.mk gb9; have GG9 := Aside0.mk HG9; clear gb9 gl9 HG9; obtain ⟨hx9_0, hf9_0⟩ := Kd.R_celln 0 HO_3.out (x4_1 : Int) p9 q9; replace p9 := eq_true p9; replace q9 := eq_true q9; have HP10 := Kd.R_putg HO_3.out (x4_1 : Int) (rd l0 x4_1)
        go_wp2_with (first | ((with_reducible refine gate_store (t := 3) (p := 20) rfl ?_); refine store_event (t := 3) (p := 20) (v := ?vo_w11) (w1 := (wr.setCell ⟨go9, (x4_1 : Int).toNat, none⟩ (.int .i64 (rd l0 x4_1)))) ?hg ?ho ?hn ?hr ?_; (case ho => rfl); (case hg => rfl); (case hn => rfl); (case hr => first | (go_simp; done) | (go_simp; rfl)); intro w11 hw; have hg : wr.grownBy w11 (some go9) := (by rw [hw]; exact HP10.2); have hp_ : Kd.R (Kd.int .i64) 3 w11 w.heap.size (fun _ => True) (.slice (some ⟨go9, 0, none⟩) x3_1.length co9) y111 := (by rw [hw, Ny111.out]; exact HP10.1); clear HP10; replace HO_3 := Aside0.mk (hp_); replace HB := Aside0.mk ((by rw [hw]; exact below_set (HB.out) GB9.out : Below w.heap.size w w11)); clear hg hw hp_))
        go_roundg k1
        case measure => have := HK1.out; omega
        case rel => exact ⟨(y111), (wrap64 (x4_1 + 1)), (by first | rfl | (simp; done) | (simp [*]; done)), H', ⟨by have := HK1.out; omega⟩, ⟨by (with_reducible repeat (first | apply Kd.R_alloc | apply Kd.R_drewN | apply Kd.R_drew)); exact HO_3.out⟩, ⟨be_ HB.out⟩⟩
       ·
        rw [if_neg c8] at H; exact absurd H (by simp)
      ·
       rw [if_neg c7] at H; exact absurd H (by simp)
     ·
      rw [if_neg c6] at H; have c6b0 : decide (x4_1 < (l0.length : Int)) = false := decide_eq_false c6; clear c6; obtain rfl := Option.some.inj H
      go_wp2
      go_ret
      exact ⟨_, by first | rfl | (simp [errW_none, errW_some] <;> rfl) | (simp [*, errW_none, errW_some] <;> rfl), by (with_reducible repeat (first | apply Kd.R_alloc | apply Kd.R_drewN | apply Kd.R_drew)); exact HO_3.out, be_ HB.out⟩
  ·
   rw [if_neg c3] at H; exact absurd H (by simp)
 ·
  rw [if_neg c2] at H; exact absurd H (by simp)

/-! ### laws_toTask: function 16 -/
def laws_toTask.f (k : Nat) (a0_0 : Int) (l0_1 : List Int) (a0_2 : Int) (a0_3 : Int) (a0_4 : Int) : Option (Int × List Int × Int × Int × Int) := (laws_toIntS.f k l0_1).bind fun t115 => (some (a0_0, t115, a0_2, a0_3, a0_4))
set_option maxHeartbeats 8000000 in
set_option maxRecDepth 100000 in
theorem laws_toTask.calls {k : Nat} {a0_0 : Int} {A0_1 : Option Addr} {c0_1 : Nat} {l0_1 : List Int} {a0_2 : Int} {a0_3 : Int} {a0_4 : Int} {r1 : Int} {r2 : List Int} {r3 : Int} {r4 : Int} {r5 : Int} {w : World} (hr0_1 : Kd.C (Kd.int .i64) w A0_1 l0_1.length l0_1) (hc0_1 : l0_1.length ≤ c0_1) (h : laws_toTask.f k a0_0 l0_1 a0_2 a0_3 a0_4 = some (r1, r2, r3, r4, r5)) :
  Calls Try.prog 16 #[.agg #[.int .i64 a0_0, .slice A0_1 l0_1.length c0_1, .int .i64 a0_2, .int .i64 a0_3, .int .i64 a0_4]] w fun e w' => ∃ v1_ : Value, e = .returned (.agg #[.int .i64 r1, v1_, .int .i64 r3, .int .i64 r4, .int .i64 r5]) ∧ Kd.R (Kd.int .i64) 3 w' w.heap.size (fun _ => True) v1_ r2 ∧ Below w.heap.size w w' := by
 have hu24 := Try.underlying24; have hu27 := Try.underlying27; have HR0_1 := Aside0.mk hr0_1; have HC0_1 := Aside0.mk hc0_1; clear hr0_1 hc0_1; have HB := Aside0.mk (Below.refl w.heap.size w); have H : ((laws_toIntS.f k l0_1).bind fun t115 => (some (a0_0, t115, a0_2, a0_3, a0_4))) = some (r1, r2, r3, r4, r5) := h; clear h; obtain ⟨t115, A2, H⟩ := bo_ H; (try dsimp only at H); simp only [Option.some.injEq, Prod.mk.injEq] at H; obtain ⟨rfl, rfl, rfl, rfl, rfl⟩ := H
 go_enter Try.func16, Try.ntmps16
 go_wp2_with (first | ((with_reducible refine gate_dst (N := 1) rfl ?_); refine bz_ 1 ?_; intro gb112 hg w3 hbox hb; obtain ⟨BK112, GW112, GE112, HB⟩ := nb_ hg hbox HB hb; clear hb hbox hg) | ((with_reducible refine gate_dst (N := 2) rfl ?_); refine bz_ 2 ?_; intro gb113 hg w4 hbox hb; obtain ⟨BK113, GW113, GE113, HB⟩ := nb_ hg hbox HB hb; have NB112_113 := nx_ hg BK112; have NB113_112 := ny_ hg BK112; replace BK112 := bb_ BK112 hb; clear hb hbox hg) | ((with_reducible refine gate_dst (N := 3) rfl ?_); refine bz_ 3 ?_; intro gb114 hg w5 hbox hb; obtain ⟨BK114, GW114, GE114, HB⟩ := nb_ hg hbox HB hb; have NB112_114 := nx_ hg BK112; have NB114_112 := ny_ hg BK112; replace BK112 := bb_ BK112 hb; have NB113_114 := nx_ hg BK113; have NB114_113 := ny_ hg BK113; replace BK113 := bb_ BK113 hb; clear hb hbox hg; have hnb6 := NB112_113.out; have hnc6 := NB113_112.out; have hnb7 := NB112_114.out; have hnc7 := NB114_112.out; have hcz8 := box5_ BK112.out; have hnb9 := NB114_113.out; have hnc9 := NB113_114.out; have hcz10 := box5_ BK114.out) | ((with_reducible refine gc_ 53 ?_); refine gl_ (some 9) Try.func53 #[.slice A0_1 l0_1.length c0_1] ?_; (with_reducible refine (laws_toIntS.calls ?_ ?_ A2.out).mono ?_); exact Kd.C_below HR0_1.out (be_ HB.out); exact HC0_1.out; rintro e w11 ⟨v116, rfl, ho0, hb⟩; refine ⟨_, rfl, ?_⟩; have HO117 := Aside0.mk (Kd.R_lower ho0 (below_size (be_ HB.out))); replace BK112 := bc_ BK112 hb; replace BK113 := bc_ BK113 hb; replace BK114 := bp_ (#[.int .i64 a0_0, .slice none 0 0, .int .i64 0, .int .i64 0, .int .i64 0]) BK114 hb; replace HB := hb_ HB hb; (try clear hb ho0); obtain ⟨Ao12, co12, eo12⟩ := Kd.R_slice HO117.out; subst eo12; have hcz13 := box5_ BK114.out; have hcz14 := box5_ BK112.out; have hcz15 := box5_ BK113.out))
 refine bodyPost_ret (results_cell_row rfl _ _ gb113 27 #[.int .i64 a0_0, .slice Ao12 t115.length co12, .int .i64 a0_2, .int .i64 a0_3, .int .i64 a0_4] (0, 0) _ rfl (bq_ BK113.out) Try.underlying27 rfl (by kernel_rfl)) rfl ?_; exact ⟨_, by first | rfl | (simp [errW_none, errW_some] <;> rfl) | (simp [*, errW_none, errW_some] <;> rfl), by (with_reducible repeat (first | apply Kd.R_alloc | apply Kd.R_drewN | apply Kd.R_drew)); exact Kd.R_mono (Kd.R_far (p := ⟨gb113, 4, none⟩) (Kd.R_far (p := ⟨gb113, 3, none⟩) (Kd.R_far (p := ⟨gb113, 2, none⟩) (Kd.R_far (p := ⟨gb113, 1, none⟩) (Kd.R_far (p := ⟨gb113, 0, none⟩) (Kd.R_far (p := ⟨gb114, 4, none⟩) (Kd.R_far (p := ⟨gb114, 3, none⟩) (Kd.R_far (p := ⟨gb114, 2, none⟩) (Kd.R_far (p := ⟨gb114, 1, none⟩) (Kd.R_types (Kd.R_types HO117.out BK114.out (by decide)) BK113.out (by decide)) (fun _ hk => hk.1.2) (.slice Ao12 t115.length co12)) (fun _ hk => hk.1.2) (.int .i64 a0_2)) (fun _ hk => hk.1.2) (.int .i64 a0_3)) (fun _ hk => hk.1.2) (.int .i64 a0_4)) (fun _ hk => hk.2) (.int .i64 a0_0)) (fun _ hk => hk.2) (.slice Ao12 t115.length co12)) (fun _ hk => hk.2) (.int .i64 a0_2)) (fun _ hk => hk.2) (.int .i64 a0_3)) (fun _ hk => hk.2) (.int .i64 a0_4)) (fun _ hk => trivial), be_ HB.out⟩

/-! ### laws_toTaskS: function 60 -/
def laws_toTaskS.l0 : Nat → List (S24) → List (S27) → Int → Option ((List (S27)))
 | 0, _, _, _ => none
 | k + 1, x0, x3, x4 => if x4 < (x0.length : Int) then (if 0 ≤ x4 then ((laws_toTask.f k ((rd_T24 x0 x4).f0) ((rd_T24 x0 x4).f1) ((rd_T24 x0 x4).f2) ((rd_T24 x0 x4).f3) ((rd_T24 x0 x4).f4)).bind fun bt122 => (if x4 < (x3.length : Int) then (laws_toTaskS.l0 k x0 (x3.set (x4 : Int).toNat (⟨bt122.1, bt122.2.1, bt122.2.2.1, bt122.2.2.2.1, bt122.2.2.2.2⟩ : S27)) (wrap64 (x4 + 1))) else (none))) else (none)) else (some x3)
def laws_toTaskS.f (k : Nat) (l0 : List (S24)) : Option ((List (S27))) := if 0 ≤ (l0.length : Int) then (if ((l0.length : Int) : Int).toNat ≤ 5026338869833 then (laws_toTaskS.l0 k l0 (List.replicate ((l0.length : Int) : Int).toNat z27) 0) else (none)) else (none)
set_option maxHeartbeats 8000000 in
set_option maxRecDepth 100000 in
theorem laws_toTaskS.calls {k : Nat} {A0 : Option Addr} {c0 : Nat} {l0 : List (S24)} {r : List (S27)} {w : World} (hr0 : Kd.C k24 w A0 l0.length l0) (hc0 : l0.length ≤ c0) (h : laws_toTaskS.f k l0 = some r) :
  Calls Try.prog 60 #[.slice A0 l0.length c0] w fun e w' => ∃ v0_ : Value, e = .returned (v0_) ∧ Kd.S k27 27 w' w.heap.size (fun _ => True) v0_ r ∧ Below w.heap.size w w' := by
 have hu24 := Try.underlying24; have hu27 := Try.underlying27; have HR0 := Aside0.mk hr0; have HC0 := Aside0.mk hc0; clear hr0 hc0; have HB := Aside0.mk (Below.refl w.heap.size w); have H : (if 0 ≤ (l0.length : Int) then (if ((l0.length : Int) : Int).toNat ≤ 5026338869833 then (laws_toTaskS.l0 k l0 (List.replicate ((l0.length : Int) : Int).toNat z27) 0) else (none)) else (none)) = some r := h; clear h
 by_cases c2 : 0 ≤ (l0.length : Int)
 ·
  rw [if_pos c2] at H; have c2b0 := eq_true c2; have c2b1 : decide (0 ≤ (l0.length : Int)) = true := decide_eq_true c2; clear c2
  by_cases c3 : ((l0.length : Int) : Int).toNat ≤ 5026338869833
  ·
   rw [if_pos c3] at H; have c3b0 := eq_true c3; have c3b1 : decide (((l0.length : Int) : Int).toNat ≤ 5026338869833) = true := decide_eq_true c3; clear c3; obtain ⟨y118, hy118⟩ : ∃ y_ : List (S27), y_ = (List.replicate ((l0.length : Int) : Int).toNat z27) := ⟨_, rfl⟩; replace H : (laws_toTaskS.l0 k l0 y118 0) = some r := by first | (rw [hy118]; with_reducible exact H) | (have H2_ := (Option.bind_some _ _).symm.trans H; rw [hy118]; with_reducible exact H2_) | (have H2_ := (Option.bind_some _ _).symm.trans H; with_reducible exact H2_) | with_reducible exact H | (rw [hy118]; exact H) | exact H
   have Ny118 := Aside0.mk hy118; clear hy118; have H' := Aside0.mk H; clear H
   go_enter Try.func60, Try.ntmps60
   go_wp2_with (first | ((with_reducible refine gate_dst (N := 7) rfl ?_); refine Kd.S_make k27 _ 27 rfl (N := 7) rfl 36 _ _ rfl (l0.length : Int) rfl rfl Try.underlying36 (.agg #[(.int .i64 0), (.slice none 0 0), (.int .i64 0), (.int .i64 0), (.int .i64 0)]) 56 info27 rfl (by decide) (by omega) z27 (ok := fun _ => True) (okp := fun _ => True) (k27_mkM _ _ _ z27 (Kd.R_nil _ _ _ _ _)) (fun _ hk => hk) trivial (od_) (Nat.le_trans (Nat.mul_le_mul_right _ (od_ : (l0.length : Int).toNat ≤ 5026338869833)) (by omega)) (Below.refl _ _) (Nat.le_refl _) ?_; intro v119 w4 ho5 hb hg_ hnew_; clear hg_ hnew_; (first | rw [← Ny118.out] at ho5 | (simp only [Int.reduceToNat] at ho5; rw [← Ny118.out] at ho5)); have HO120 := Aside0.mk (Kd.S_lower ho5 (below_size (be_ HB.out))); replace HB := hb_ HB hb; clear hb ho5))
   (try simp only [Act.put, List.setIfInBounds_toArray, List.set_cons_zero, List.set_cons_succ])
   go_loopg [4] k (fun kq v4 w' => ∃ (x3_1 : List (S27)) (x4_1 : Int), v4 = .int .i64 x4_1 ∧ Aside0 (laws_toTaskS.l0 kq l0 x3_1 x4_1 = some r) ∧ Aside0 (kq ≤ k) ∧ Aside0 (Kd.S k27 27 w' w.heap.size (fun _ => True) v119 x3_1) ∧ Aside0 (Below w.heap.size w w'))
   case atStart => exact ⟨(y118), (0), (by first | rfl | (simp; done) | (simp [*]; done)), H', ⟨Nat.le_refl _⟩, ⟨by (with_reducible repeat (first | apply Kd.S_alloc | apply Kd.S_drewN | apply Kd.S_drew)); exact HO120.out⟩, ⟨be_ HB.out⟩⟩
   case round =>
    clear H'; (try clear c2); (try clear c2b0); (try clear c2b1); (try clear p2); (try clear c3); (try clear c3b0); (try clear c3b1); obtain ⟨x3_1, x4_1, rfl, HA, HK1, HO_3, HB⟩ := hrel
    cases gk with
    | zero => exact absurd HA.out (by simp [laws_toTaskS.l0])
    | succ k1 =>
     have H := HA.out; clear HA; simp only [laws_toTaskS.l0] at H
     by_cases c6 : x4_1 < (l0.length : Int)
     ·
      rw [if_pos c6] at H; have c6b0 : decide (x4_1 < (l0.length : Int)) = true := decide_eq_true c6; clear c6
      by_cases c7 : 0 ≤ x4_1
      ·
       rw [if_pos c7] at H; have c7b0 : decide (0 ≤ x4_1) = true := decide_eq_true c7; clear c7; obtain ⟨⟨t122, t123, t126, t127, t128⟩, A8, H⟩ := bo_ H; (try dsimp only at H)
       by_cases c9 : x4_1 < (x3_1.length : Int)
       ·
        rw [if_pos c9] at H; have c9b0 : decide (x4_1 < (x3_1.length : Int)) = true := decide_eq_true c9; clear c9; obtain ⟨y129, hy129⟩ : ∃ y_ : List (S27), y_ = (x3_1.set (x4_1 : Int).toNat (⟨t122, t123, t126, t127, t128⟩ : S27)) := ⟨_, rfl⟩; replace H : (laws_toTaskS.l0 k1 l0 y129 (wrap64 (x4_1 + 1))) = some r := by first | (rw [hy129]; with_reducible exact H) | (have H2_ := (Option.bind_some _ _).symm.trans H; rw [hy129]; with_reducible exact H2_) | (have H2_ := (Option.bind_some _ _).symm.trans H; with_reducible exact H2_) | with_reducible exact H | (rw [hy129]; exact H) | exact H
        have Ny129 := Aside0.mk hy129; clear hy129; have H' := Aside0.mk H; clear H; have p121 : 0 ≤ (x4_1 : Int) := od_; have q121 : x4_1 < (l0.length : Int) := od_; obtain ⟨ad121, A121_1, c121_1, e121, hx121_0, hx121_1, hx121_2, hx121_3, hx121_4, hl121_1, hi121_1⟩ := at_T24 HR0.out x4_1 p121 q121
        cases e121
        replace hx121_0 := cw_ HB.out hx121_0; replace hx121_1 := cw_ HB.out hx121_1; replace hx121_2 := cw_ HB.out hx121_2; replace hx121_3 := cw_ HB.out hx121_3; replace hx121_4 := cw_ HB.out hx121_4; have HR121_1 := Aside0.mk hi121_1; have HC121_1 := Aside0.mk hl121_1; clear hi121_1 hl121_1; replace p121 := eq_true p121; replace q121 := eq_true q121
        go_wp2_with (first | ((with_reducible refine gc_ 16 ?_); refine gl_ (some 20) Try.func16 #[.agg #[.int .i64 ((rd_T24 l0 x4_1).f0), .slice A121_1 ((rd_T24 l0 x4_1).f1).length c121_1, .int .i64 ((rd_T24 l0 x4_1).f2), .int .i64 ((rd_T24 l0 x4_1).f3), .int .i64 ((rd_T24 l0 x4_1).f4)]] ?_; (with_reducible refine (laws_toTask.calls ?_ ?_ A8.out).mono ?_); exact cu_ HR121_1.out HB.out; exact HC121_1.out; rintro e w11 ⟨v124, rfl, ho0, hb⟩; refine ⟨_, rfl, ?_⟩; replace HO_3 := Aside0.mk (Kd.S_elder' (by (with_reducible repeat (first | apply Kd.S_alloc | apply Kd.S_drewN | apply Kd.S_drew)); exact HO_3.out) (Kd.R_base ho0) hb); have HO125 := Aside0.mk (Kd.R_lower ho0 (below_size (be_ HB.out))); replace HB := hb_ HB hb; (try clear hb ho0); have p10 : 0 ≤ (x4_1 : Int) := od_; have q10 : (x4_1 : Int) < ((x3_1.length : Int) : Int) := od_; obtain ⟨go10, co10, eo10, gb10, gl10, cl10, HG10⟩ := Kd.S_form HO_3.out (by omega); (first | cases eo10 | (injection eo10 with ea_ en_ ec_; (first | subst ea_ | (injection ea_ with ea_; subst ea_)); subst ec_; clear en_)); have GB10 := Aside0.mk gb10; have GG10 := Aside0.mk HG10; clear gb10 gl10 HG10; obtain ⟨_, ce10, hcl10, hM10, hcc10, hfr10, _, _⟩ := Kd.S_elem HO_3.out z27 (x4_1 : Int) p10 q10; obtain ⟨ve10_1, rfl, ge10_1⟩ := k27_openM hM10; have hx10_0 : w11.cell? ⟨go10, (x4_1 : Int).toNat * 5, none⟩ = some (.int .i64 ((rd_T27 x3_1 x4_1).f0)) := hcc10 0 _ rfl; have hx10_1 : w11.cell? ⟨go10, (x4_1 : Int).toNat * 5 + 1, none⟩ = some (ve10_1) := hcc10 1 _ rfl; have hx10_2 : w11.cell? ⟨go10, (x4_1 : Int).toNat * 5 + 2, none⟩ = some (.int .i64 ((rd_T27 x3_1 x4_1).f2)) := hcc10 2 _ rfl; have hx10_3 : w11.cell? ⟨go10, (x4_1 : Int).toNat * 5 + 3, none⟩ = some (.int .i64 ((rd_T27 x3_1 x4_1).f3)) := hcc10 3 _ rfl; have hx10_4 : w11.cell? ⟨go10, (x4_1 : Int).toNat * 5 + 4, none⟩ = some (.int .i64 ((rd_T27 x3_1 x4_1).f4)) := hcc10 4 _ rfl; have hf10_0 : w11.frozen? ⟨go10, (x4_1 : Int).toNat * 5, none⟩ = false := hfr10 0; have hf10_1 : w11.frozen? ⟨go10, (x4_1 : Int).toNat * 5 + 1, none⟩ = false := hfr10 1; have hf10_2 : w11.frozen? ⟨go10, (x4_1 : Int).toNat * 5 + 2, none⟩ = false := hfr10 2; have hf10_3 : w11.frozen? ⟨go10, (x4_1 : Int).toNat * 5 + 3, none⟩ = false := hfr10 3; have hf10_4 : w11.frozen? ⟨go10, (x4_1 : Int).toNat * 5 + 4, none⟩ = false := hfr10 4; clear hcl10 hcc10 hfr10 hM10; replace p10 := eq_true p10; replace q10 := eq_true q10; have n_ := Aside0.mk (Kd.S_mono (ok' := (fun k_ => some k_ ≠ (v124 : Value).ownBlock)) HO_3.out (fun k_ hk => hk.2)); clear HO_3; have HO_3 := n_; clear n_; have HX12 := Aside0.mk (show Kd.S k27 27 w11 w.heap.size (fun k_ => ((fun _ => True)) k_ ∧ ¬ ((fun k_ => some k_ = (v124 : Value).ownBlock)) k_) (.slice (some ⟨go10, 0, none⟩) x3_1.length co10) x3_1 from (by (with_reducible repeat (first | apply Kd.S_alloc | apply Kd.S_drewN | apply Kd.S_drew)); exact Kd.S_mono HO_3.out (fun k_ hk => ⟨trivial, fun e_ => hk e_⟩))); obtain ⟨oki12, ce12, hcl12, hM12, hcc12, hfr12, hoki12, hH12⟩ := Kd.S_elem HX12.out z27 (x4_1 : Int) (od_) (by have h_ : (x4_1 : Int) < ((x3_1.length : Int) : Int) := od_; first | exact h_ | (have e_ := (Kd.S_reads' HO_3.out).1; omega) | simpa using h_); obtain ⟨ve12_1, rfl, ge12_1⟩ := k27_openM hM12; have HP12 := Kd.S_seg hH12 (od_) (by have h_ : (x4_1 : Int) < ((x3_1.length : Int) : Int) := od_; first | exact h_ | (have e_ := (Kd.S_reads' HO_3.out).1; omega) | simpa using h_) (seg := [.int .i64 t122, v124, .int .i64 t126, .int .i64 t127, .int .i64 t128]) (j := 0) (show 5 ≤ 5 from by decide) (x' := (⟨t122, t123, t126, t127, t128⟩ : S27)) (k27_mkM _ _ _ (⟨t122, t123, t126, t127, t128⟩ : S27) (Kd.R_mono (Kd.R_tight rfl (Kd.R_mono (ok' := fun k_ => ((fun _ => True)) k_ ∧ k_ ≠ go10) (Kd.R_apart' (HO125.out) (Kd.S_typed HO_3.out) (by decide)) (fun k_ hk => ⟨trivial, fun e_ => (hk.2) (by rw [e_]; rfl)⟩))) (fun _ h_ => Or.inr (h_)))) (fun _ hk => hk) (fun k_ hk_ => ((Kd.R_mono (ok' := fun k_ => ((fun _ => True)) k_ ∧ k_ ≠ go10) (Kd.R_apart' (HO125.out) (Kd.S_typed HO_3.out) (by decide)) (fun k_ hk => ⟨trivial, fun e_ => (hk.2) (by rw [e_]; rfl)⟩))).1 k_ hk_.symm); have hx12_0 := hcc12 0 _ rfl; (try simp only [show (k27).sz = 5 from rfl, Nat.mul_one, Nat.add_zero] at hx12_0); have hf12_0 := hfr12 0; (try simp only [show (k27).sz = 5 from rfl, Nat.mul_one, Nat.add_zero] at hf12_0); have hx12_1 := hcc12 1 _ rfl; (try simp only [show (k27).sz = 5 from rfl, Nat.mul_one, Nat.add_zero] at hx12_1); have hf12_1 := hfr12 1; (try simp only [show (k27).sz = 5 from rfl, Nat.mul_one, Nat.add_zero] at hf12_1); have hx12_2 := hcc12 2 _ rfl; (try simp only [show (k27).sz = 5 from rfl, Nat.mul_one, Nat.add_zero] at hx12_2); have hf12_2 := hfr12 2; (try simp only [show (k27).sz = 5 from rfl, Nat.mul_one, Nat.add_zero] at hf12_2); have hx12_3 := hcc12 3 _ rfl; (try simp only [show (k27).sz = 5 from rfl, Nat.mul_one, Nat.add_zero] at hx12_3); have hf12_3 := hfr12 3; (try simp only [show (k27).sz = 5 from rfl, Nat.mul_one, Nat.add_zero] at hf12_3); have hx12_4 := hcc12 4 _ rfl; (try simp only [show (k27).sz = 5 from rfl, Nat.mul_one, Nat.add_zero] at hx12_4); have hf12_4 := hfr12 4; (try simp only [show (k27).sz = 5 from rfl, Nat.mul_one, Nat.add_zero] at hf12_4); clear hcl12 hcc12 hfr12 hM12 hoki12 hH12) | ((with_reducible refine gate_store (t := 27) (p := 21) rfl ?_); refine store_event (t := 27) (p := 21) (v := ?vo_w13) (w1 := (((((w11.setCell ⟨go10, (x4_1 : Int).toNat * 5, none⟩ (.int .i64 t122)).setCell ⟨go10, (x4_1 : Int).toNat * 5 + 1, none⟩ (v124)).setCell ⟨go10, (x4_1 : Int).toNat * 5 + 2, none⟩ (.int .i64 t126)).setCell ⟨go10, (x4_1 : Int).toNat * 5 + 3, none⟩ (.int .i64 t127)).setCell ⟨go10, (x4_1 : Int).toNat * 5 + 4, none⟩ (.int .i64 t128))) ?hg ?ho ?hn ?hr ?_; (case ho => rfl); (case hg => rfl); (case hn => rfl); (case hr => first | (go_simp; done) | (go_simp; rfl) | (have o0_ : (v124 : Value).oneCell' = true := (by obtain ⟨_, _, e_, _⟩ := Kd.R_reads HO125.out; rw [e_]; rfl); go_simp; (try (rw [run_store _ _ _ _ _ o0_]; go_simp)); done) | ((obtain ⟨_, _, e_, _⟩ := Kd.R_reads HO125.out; subst e_); first | (go_simp; done) | (go_simp; rfl))); intro w13 hw; have hg : w11.grownBy w13 (some go10) := (by rw [hw]; exact HP12.2); have hp_ : Kd.S k27 27 w13 w.heap.size (fun _ => True) (.slice (some ⟨go10, 0, none⟩) x3_1.length co10) y129 := (by rw [hw, Ny129.out]; exact HP12.1); clear HP12; replace HO_3 := Aside0.mk (hp_); replace HB := Aside0.mk ((by rw [hw]; exact below_set (below_set (below_set (below_set (below_set (HB.out) GB10.out) GB10.out) GB10.out) GB10.out) GB10.out : Below w.heap.size w w13)); clear HO125; clear hg hw hp_))
        go_roundg k1
        case measure => have := HK1.out; omega
        case rel => exact ⟨(y129), (wrap64 (x4_1 + 1)), (by first | rfl | (simp; done) | (simp [*]; done)), H', ⟨by have := HK1.out; omega⟩, ⟨by (with_reducible repeat (first | apply Kd.S_alloc | apply Kd.S_drewN | apply Kd.S_drew)); exact HO_3.out⟩, ⟨be_ HB.out⟩⟩
       ·
        rw [if_neg c9] at H; exact absurd H (by simp)
      ·
       rw [if_neg c7] at H; exact absurd H (by simp)
     ·
      rw [if_neg c6] at H; have c6b0 : decide (x4_1 < (l0.length : Int)) = false := decide_eq_false c6; clear c6; obtain rfl := Option.some.inj H
      go_wp2
      go_ret
      exact ⟨_, by first | rfl | (simp [errW_none, errW_some] <;> rfl) | (simp [*, errW_none, errW_some] <;> rfl), by (with_reducible repeat (first | apply Kd.S_alloc | apply Kd.S_drewN | apply Kd.S_drew)); exact HO_3.out, be_ HB.out⟩
  ·
   rw [if_neg c3] at H; exact absurd H (by simp)
 ·
  rw [if_neg c2] at H; exact absurd H (by simp)

/-! ### laws_toSched: function 21 -/
def laws_toSched.f (k : Nat) (a0_0 : Int) (a0_1 : Int) (a0_2 : Int) (l0_3 : List (S24)) (a0_4 : Int) (a0_5 : Int) (a0_6 : Int) (a0_7 : Int) : Option (Int × Int × Int × (List (S27)) × Int × Int × Int × Int) := (laws_toTaskS.f k l0_3).bind fun t133 => (some (a0_0, a0_1, a0_2, t133, a0_4, a0_5, a0_6, a0_7))
set_option maxHeartbeats 8000000 in
set_option maxRecDepth 100000 in
theorem laws_toSched.calls {k : Nat} {a0_0 : Int} {a0_1 : Int} {a0_2 : Int} {A0_3 : Option Addr} {c0_3 : Nat} {l0_3 : List (S24)} {a0_4 : Int} {a0_5 : Int} {a0_6 : Int} {a0_7 : Int} {r1 : Int} {r2 : Int} {r3 : Int} {r4 : List (S27)} {r5 : Int} {r6 : Int} {r7 : Int} {r8 : Int} {w : World} (hr0_3 : Kd.C k24 w A0_3 l0_3.length l0_3) (hc0_3 : l0_3.length ≤ c0_3) (h : laws_toSched.f k a0_0 a0_1 a0_2 l0_3 a0_4 a0_5 a0_6 a0_7 = some (r1, r2, r3, r4, r5, r6, r7, r8)) :
  Calls Try.prog 21 #[.agg #[.int .i64 a0_0, .int .i64 a0_1, .int .i64 a0_2, .slice A0_3 l0_3.length c0_3, .int .i64 a0_4, .int .i64 a0_5, .int .i64 a0_6, .int .i64 a0_7]] w fun e w' => ∃ v3_ : Value, e = .returned (.agg #[.int .i64 r1, .int .i64 r2, .int .i64 r3, v3_, .int .i64 r5, .int .i64 r6, .int .i64 r7, .int .i64 r8]) ∧ Kd.S k27 27 w' w.heap.size (fun _ => True) v3_ r4 ∧ Below w.heap.size w w' := by
 have hu33 := Try.underlying33; have hu38 := Try.underlying38; have HR0_3 := Aside0.mk hr0_3; have HC0_3 := Aside0.mk hc0_3; clear hr0_3 hc0_3; have HB := Aside0.mk (Below.refl w.heap.size w); have H : ((laws_toTaskS.f k l0_3).bind fun t133 => (some (a0_0, a0_1, a0_2, t133, a0_4, a0_5, a0_6, a0_7))) = some (r1, r2, r3, r4, r5, r6, r7, r8) := h; clear h; obtain ⟨t133, A2, H⟩ := bo_ H; (try dsimp only at H); simp only [Option.some.injEq, Prod.mk.injEq] at H; obtain ⟨rfl, rfl, rfl, rfl, rfl, rfl, rfl, rfl⟩ := H
 go_enter Try.func21, Try.ntmps21
 go_wp2_with (first | ((with_reducible refine gate_dst (N := 1) rfl ?_); refine bz_ 1 ?_; intro gb130 hg w3 hbox hb; obtain ⟨BK130, GW130, GE130, HB⟩ := nb_ hg hbox HB hb; clear hb hbox hg) | ((with_reducible refine gate_dst (N := 2) rfl ?_); refine bz_ 2 ?_; intro gb131 hg w4 hbox hb; obtain ⟨BK131, GW131, GE131, HB⟩ := nb_ hg hbox HB hb; have NB130_131 := nx_ hg BK130; have NB131_130 := ny_ hg BK130; replace BK130 := bb_ BK130 hb; clear hb hbox hg) | ((with_reducible refine gate_dst (N := 3) rfl ?_); refine bz_ 3 ?_; intro gb132 hg w5 hbox hb; obtain ⟨BK132, GW132, GE132, HB⟩ := nb_ hg hbox HB hb; have NB130_132 := nx_ hg BK130; have NB132_130 := ny_ hg BK130; replace BK130 := bb_ BK130 hb; have NB131_132 := nx_ hg BK131; have NB132_131 := ny_ hg BK131; replace BK131 := bb_ BK131 hb; clear hb hbox hg; have hnb6 := NB130_131.out; have hnc6 := NB131_130.out; have hnb7 := NB130_132.out; have hnc7 := NB132_130.out; have hcz8 := box8_ BK130.out; have hnb9 := NB132_131.out; have hnc9 := NB131_132.out; have hcz10 := box8_ BK132.out) | ((with_reducible refine gc_ 60 ?_); refine gl_ (some 15) Try.func60 #[.slice A0_3 l0_3.length c0_3] ?_; (with_reducible refine (laws_toTaskS.calls ?_ ?_ A2.out).mono ?_); exact Kd.C_below HR0_3.out (be_ HB.out); exact HC0_3.out; rintro e w11 ⟨v134, rfl, ho0, hb⟩; refine ⟨_, rfl, ?_⟩; have HO135 := Aside0.mk (Kd.S_lower ho0 (below_size (be_ HB.out))); replace BK130 := bc_ BK130 hb; replace BK131 := bc_ BK131 hb; replace BK132 := bp_ (#[.int .i64 a0_0, .int .i64 a0_1, .int .i64 a0_2, .slice none 0 0, .int .i64 0, .int .i64 0, .int .i64 0, .int .i64 0]) BK132 hb; replace HB := hb_ HB hb; (try clear hb ho0); obtain ⟨Ao12, co12, eo12⟩ := Kd.S_slice HO135.out; subst eo12; have hcz13 := box8_ BK132.out; have hcz14 := box8_ BK130.out; have hcz15 := box8_ BK131.out))
 refine bodyPost_ret (results_cell_row rfl _ _ gb131 38 #[.int .i64 a0_0, .int .i64 a0_1, .int .i64 a0_2, .slice Ao12 t133.length co12, .int .i64 a0_4, .int .i64 a0_5, .int .i64 a0_6, .int .i64 a0_7] (0, 0) _ rfl (bq_ BK131.out) Try.underlying38 rfl (by kernel_rfl)) rfl ?_; exact ⟨_, by first | rfl | (simp [errW_none, errW_some] <;> rfl) | (simp [*, errW_none, errW_some] <;> rfl), by (with_reducible repeat (first | apply Kd.S_alloc | apply Kd.S_drewN | apply Kd.S_drew)); exact Kd.S_mono (Kd.S_far (p := ⟨gb131, 7, none⟩) (Kd.S_far (p := ⟨gb131, 6, none⟩) (Kd.S_far (p := ⟨gb131, 5, none⟩) (Kd.S_far (p := ⟨gb131, 4, none⟩) (Kd.S_far (p := ⟨gb131, 3, none⟩) (Kd.S_far (p := ⟨gb131, 2, none⟩) (Kd.S_far (p := ⟨gb131, 1, none⟩) (Kd.S_far (p := ⟨gb131, 0, none⟩) (Kd.S_far (p := ⟨gb132, 7, none⟩) (Kd.S_far (p := ⟨gb132, 6, none⟩) (Kd.S_far (p := ⟨gb132, 5, none⟩) (Kd.S_far (p := ⟨gb132, 4, none⟩) (Kd.S_far (p := ⟨gb132, 3, none⟩) (Kd.S_types (Kd.S_types HO135.out BK132.out (by decide)) BK131.out (by decide)) (fun _ hk => hk.1.2) (.slice Ao12 t133.length co12)) (fun _ hk => hk.1.2) (.int .i64 a0_4)) (fun _ hk => hk.1.2) (.int .i64 a0_5)) (fun _ hk => hk.1.2) (.int .i64 a0_6)) (fun _ hk => hk.1.2) (.int .i64 a0_7)) (fun _ hk => hk.2) (.int .i64 a0_0)) (fun _ hk => hk.2) (.int .i64 a0_1)) (fun _ hk => hk.2) (.int .i64 a0_2)) (fun _ hk => hk.2) (.slice Ao12 t133.length co12)) (fun _ hk => hk.2) (.int .i64 a0_4)) (fun _ hk => hk.2) (.int .i64 a0_5)) (fun _ hk => hk.2) (.int .i64 a0_6)) (fun _ hk => hk.2) (.int .i64 a0_7)) (fun _ hk => trivial), be_ HB.out⟩

/-! ### laws_eqIntS: function 38 -/
def laws_eqIntS.l0 : Nat → List Int → List Int → Int → Option (Bool)
 | 0, _, _, _ => none
 | k + 1, x0, x1, x5 => if x5 < (x0.length : Int) then (if 0 ≤ x5 then (if x5 < (x1.length : Int) then (if (rd x0 x5) = (rd x1 x5) then (laws_eqIntS.l0 k x0 x1 (wrap64 (x5 + 1))) else (some false)) else (none)) else (none)) else (some true)
def laws_eqIntS.f (k : Nat) (l0 : List Int) (l1 : List Int) : Option (Bool) := if (l0.length : Int) = (l1.length : Int) then (laws_eqIntS.l0 k l0 l1 0) else (some false)
set_option maxHeartbeats 8000000 in
set_option maxRecDepth 100000 in
theorem laws_eqIntS.calls {k : Nat} {A0 : Option Addr} {c0 : Nat} {l0 : List Int} {A1 : Option Addr} {c1 : Nat} {l1 : List Int} {r : Bool} {w : World} (hr0 : Kd.C (Kd.int .i64) w A0 l0.length l0) (hc0 : l0.length ≤ c0) (hr1 : Kd.C (Kd.int .i64) w A1 l1.length l1) (hc1 : l1.length ≤ c1) (h : laws_eqIntS.f k l0 l1 = some r) :
  Calls Try.prog 38 #[.slice A0 l0.length c0, .slice A1 l1.length c1] w fun e w' => e = .returned (.bool r) ∧ Drawn0 w w' := by
 have HR0 := Aside0.mk hr0; have HC0 := Aside0.mk hc0; clear hr0 hc0; have HR1 := Aside0.mk hr1; have HC1 := Aside0.mk hc1; clear hr1 hc1; have H : (if (l0.length : Int) = (l1.length : Int) then (laws_eqIntS.l0 k l0 l1 0) else (some false)) = some r := h; clear h
 by_cases c3 : (l0.length : Int) = (l1.length : Int)
 ·
  rw [if_pos c3] at H; have c3b0 : ((l0.length : Int) == (l1.length : Int)) = true := beq_iff_eq.mpr c3; have c3b1 : ((l0.length : Int) != (l1.length : Int)) = false := bne_eq_false_iff_eq.mpr c3; have c3b2 : (l0.length == l1.length) = true := by first | simpa using c3 | (simp at c3 ⊢; omega)
  clear c3; have H' := Aside0.mk H; clear H
  go_enter Try.func38, Try.ntmps38
  go_wp2
  repeat (go_quiet (fail); try go_wp2)
  go_loopg [5] k (fun kq v5 w' => ∃ (x5_1 : Int), v5 = .int .i64 x5_1 ∧ Aside0 (laws_eqIntS.l0 kq l0 l1 x5_1 = some r) ∧ Aside0 (kq ≤ k) ∧ Drawn0 w w')
  case atStart => exact ⟨(0), (by first | rfl | (simp; done) | (simp [*]; done)), H', ⟨Nat.le_refl _⟩, by repeat (first | exact Drawn0.refl _ | apply Drawn0.step)⟩
  case round =>
   clear H'; (try clear c1); (try clear p2); (try clear c3); (try clear c3b0); (try clear c3b1); (try clear c3b2); obtain ⟨x5_1, rfl, HA, HK1, ⟨m1, rfl⟩⟩ := hrel
   cases gk with
   | zero => exact absurd HA.out (by simp [laws_eqIntS.l0])
   | succ k1 =>
    have H := HA.out; clear HA; simp only [laws_eqIntS.l0] at H
    by_cases c4 : x5_1 < (l0.length : Int)
    ·
     rw [if_pos c4] at H; have c4b0 : decide (x5_1 < (l0.length : Int)) = true := decide_eq_true c4; clear c4
     by_cases c5 : 0 ≤ x5_1
     ·
      rw [if_pos c5] at H; have c5b0 : decide (0 ≤ x5_1) = true := decide_eq_true c5; clear c5
      by_cases c6 : x5_1 < (l1.length : Int)
      ·
       rw [if_pos c6] at H; have c6b0 : decide (x5_1 < (l1.length : Int)) = true := decide_eq_true c6; clear c6
       by_cases c7 : (rd l0 x5_1) = (rd l1 x5_1)
       ·
        rw [if_pos c7] at H; have c7b0 : ((rd l0 x5_1) == (rd l1 x5_1)) = true := beq_iff_eq.mpr c7; have c7b1 : ((rd l0 x5_1) != (rd l1 x5_1)) = false := bne_eq_false_iff_eq.mpr c7; clear c7; have H' := Aside0.mk H; clear H; have p136 : 0 ≤ (x5_1 : Int) := od_; have q136 : x5_1 < (l0.length : Int) := od_; obtain ⟨ad136, e136, hx136_0⟩ := Kd.at_int HR0.out x5_1 p136 q136
        cases e136
        replace p136 := eq_true p136; replace q136 := eq_true q136; have p137 : 0 ≤ (x5_1 : Int) := od_; have q137 : x5_1 < (l1.length : Int) := od_; obtain ⟨ad137, e137, hx137_0⟩ := Kd.at_int HR1.out x5_1 p137 q137
        cases e137
        replace p137 := eq_true p137; replace q137 := eq_true q137
        go_wp2
        repeat (go_quiet (fail); try go_wp2)
        go_roundg k1
        case measure => have := HK1.out; omega
        case rel => exact ⟨(wrap64 (x5_1 + 1)), (by first | rfl | (simp; done) | (simp [*]; done)), H', ⟨by have := HK1.out; omega⟩, by repeat (first | exact Drawn0.refl _ | apply Drawn0.step)⟩
       ·
        rw [if_neg c7] at H; have c7b0 : ((rd l0 x5_1) == (rd l1 x5_1)) = false := beq_eq_false_iff_ne.mpr c7; have c7b1 : ((rd l0 x5_1) != (rd l1 x5_1)) = true := bne_iff_ne.mpr c7; obtain rfl := Option.some.inj H; have p136 : 0 ≤ (x5_1 : Int) := od_; have q136 : x5_1 < (l0.length : Int) := od_; obtain ⟨ad136, e136, hx136_0⟩ := Kd.at_int HR0.out x5_1 p136 q136
        cases e136
        replace p136 := eq_true p136; replace q136 := eq_true q136; have p137 : 0 ≤ (x5_1 : Int) := od_; have q137 : x5_1 < (l1.length : Int) := od_; obtain ⟨ad137, e137, hx137_0⟩ := Kd.at_int HR1.out x5_1 p137 q137
        cases e137
        replace p137 := eq_true p137; replace q137 := eq_true q137
        go_wp2
        repeat (go_quiet (fail); try go_wp2)
        go_ret
        exact ⟨by first | rfl | (simp; done) | (simp [*]; done), by repeat (first | exact Drawn0.refl _ | apply Drawn0.step)⟩
      ·
       rw [if_neg c6] at H; exact absurd H (by simp)
     ·
      rw [if_neg c5] at H; exact absurd H (by simp)
    ·
     rw [if_neg c4] at H; have c4b0 : decide (x5_1 < (l0.length : Int)) = false := decide_eq_false c4; clear c4; obtain rfl := Option.some.inj H
     go_wp2
     repeat (go_quiet (fail); try go_wp2)
     go_ret
     exact ⟨by first | rfl | (simp; done) | (simp [*]; done), by repeat (first | exact Drawn0.refl _ | apply Drawn0.step)⟩
 ·
  rw [if_neg c3] at H; have c3b0 : ((l0.length : Int) == (l1.length : Int)) = false := beq_eq_false_iff_ne.mpr c3; have c3b1 : ((l0.length : Int) != (l1.length : Int)) = true := bne_iff_ne.mpr c3; have c3b2 : (l0.length == l1.length) = false := by first | simpa using c3 | (simp at c3 ⊢; omega)
  obtain rfl := Option.some.inj H
  go_enter Try.func38, Try.ntmps38
  go_wp2
  repeat (go_quiet (fail); try go_wp2)
  go_ret
  exact ⟨by first | rfl | (simp; done) | (simp [*]; done), by repeat (first | exact Drawn0.refl _ | apply Drawn0.step)⟩

/-! ### laws_eqTask: function 18 -/
def laws_eqTask.f (k : Nat) (a0_0 : Int) (l0_1 : List Int) (a0_2 : Int) (a0_3 : Int) (a0_4 : Int) (a1_0 : Int) (l1_1 : List Int) (a1_2 : Int) (a1_3 : Int) (a1_4 : Int) : Option (Bool) := if a0_0 = a1_0 then ((laws_eqIntS.f k l0_1 l1_1).bind fun t140 => (if t140 = true then (if a0_2 = a1_2 then (if a0_3 = a1_3 then (if a0_4 = a1_4 then (some true) else (some false)) else (some false)) else (some false)) else (some false))) else (some false)
set_option maxHeartbeats 8000000 in
set_option maxRecDepth 100000 in
theorem laws_eqTask.calls {k : Nat} {a0_0 : Int} {A0_1 : Option Addr} {c0_1 : Nat} {l0_1 : List Int} {a0_2 : Int} {a0_3 : Int} {a0_4 : Int} {a1_0 : Int} {A1_1 : Option Addr} {c1_1 : Nat} {l1_1 : List Int} {a1_2 : Int} {a1_3 : Int} {a1_4 : Int} {r : Bool} {w : World} (hr0_1 : Kd.C (Kd.int .i64) w A0_1 l0_1.length l0_1) (hc0_1 : l0_1.length ≤ c0_1) (hr1_1 : Kd.C (Kd.int .i64) w A1_1 l1_1.length l1_1) (hc1_1 : l1_1.length ≤ c1_1) (h : laws_eqTask.f k a0_0 l0_1 a0_2 a0_3 a0_4 a1_0 l1_1 a1_2 a1_3 a1_4 = some r) :
  Calls Try.prog 18 #[.agg #[.int .i64 a0_0, .slice A0_1 l0_1.length c0_1, .int .i64 a0_2, .int .i64 a0_3, .int .i64 a0_4], .agg #[.int .i64 a1_0, .slice A1_1 l1_1.length c1_1, .int .i64 a1_2, .int .i64 a1_3, .int .i64 a1_4]] w fun e w' => e = .returned (.bool r) ∧ Below w.heap.size w w' := by
 have hu27 := Try.underlying27; have HR0_1 := Aside0.mk hr0_1; have HC0_1 := Aside0.mk hc0_1; clear hr0_1 hc0_1; have HR1_1 := Aside0.mk hr1_1; have HC1_1 := Aside0.mk hc1_1; clear hr1_1 hc1_1; have HB := Aside0.mk (Below.refl w.heap.size w); have H : (if a0_0 = a1_0 then ((laws_eqIntS.f k l0_1 l1_1).bind fun t140 => (if t140 = true then (if a0_2 = a1_2 then (if a0_3 = a1_3 then (if a0_4 = a1_4 then (some true) else (some false)) else (some false)) else (some false)) else (some false))) else (some false)) = some r := h; clear h
 by_cases c3 : a0_0 = a1_0
 ·
  rw [if_pos c3] at H; have c3b0 : (a0_0 == a1_0) = true := beq_iff_eq.mpr c3; have c3b1 : (a0_0 != a1_0) = false := bne_eq_false_iff_eq.mpr c3; clear c3; obtain ⟨t140, A4, H⟩ := bo_ H; (try dsimp only at H)
  by_cases c5 : t140 = true
  ·
   subst c5; rw [if_pos rfl] at H
   by_cases c6 : a0_2 = a1_2
   ·
    rw [if_pos c6] at H; have c6b0 : (a0_2 == a1_2) = true := beq_iff_eq.mpr c6; have c6b1 : (a0_2 != a1_2) = false := bne_eq_false_iff_eq.mpr c6; clear c6
    by_cases c7 : a0_3 = a1_3
    ·
     rw [if_pos c7] at H; have c7b0 : (a0_3 == a1_3) = true := beq_iff_eq.mpr c7; have c7b1 : (a0_3 != a1_3) = false := bne_eq_false_iff_eq.mpr c7; clear c7
     by_cases c8 : a0_4 = a1_4
     ·
      rw [if_pos c8] at H; have c8b0 : (a0_4 == a1_4) = true := beq_iff_eq.mpr c8; have c8b1 : (a0_4 != a1_4) = false := bne_eq_false_iff_eq.mpr c8; clear c8; obtain rfl := Option.some.inj H
      go_enter Try.func18, Try.ntmps18
      go_wp2_with (first | ((with_reducible refine gate_dst (N := 2) rfl ?_); refine bz_ 2 ?_; intro gb138 hg w9 hbox hb; obtain ⟨BK138, GW138, GE138, HB⟩ := nb_ hg hbox HB hb; clear hb hbox hg) | ((with_reducible refine gate_dst (N := 3) rfl ?_); refine bz_ 3 ?_; intro gb139 hg w10 hbox hb; obtain ⟨BK139, GW139, GE139, HB⟩ := nb_ hg hbox HB hb; have NB138_139 := nx_ hg BK138; have NB139_138 := ny_ hg BK138; replace BK138 := bb_ BK138 hb; clear hb hbox hg; have hnb11 := NB138_139.out; have hnc11 := NB139_138.out; have hcz12 := box5_ BK138.out; have hcz13 := box5_ BK139.out) | ((with_reducible refine gc_ 38 ?_); refine gl_ (some 14) Try.func38 #[.slice A0_1 l0_1.length c0_1, .slice A1_1 l1_1.length c1_1] ?_; (with_reducible refine (laws_eqIntS.calls ?_ ?_ ?_ ?_ A4.out).mono ?_); exact cu_ HR0_1.out HB.out; exact HC0_1.out; exact cu_ HR1_1.out HB.out; exact HC1_1.out; rintro e w' ⟨rfl, ⟨nd, rfl⟩⟩; refine ⟨_, rfl, ?_⟩))
      go_ret
      exact rt_ HB.out
     ·
      rw [if_neg c8] at H; have c8b0 : (a0_4 == a1_4) = false := beq_eq_false_iff_ne.mpr c8; have c8b1 : (a0_4 != a1_4) = true := bne_iff_ne.mpr c8; obtain rfl := Option.some.inj H
      go_enter Try.func18, Try.ntmps18
      go_wp2_with (first | ((with_reducible refine gate_dst (N := 2) rfl ?_); refine bz_ 2 ?_; intro gb138 hg w14 hbox hb; obtain ⟨BK138, GW138, GE138, HB⟩ := nb_ hg hbox HB hb; clear hb hbox hg) | ((with_reducible refine gate_dst (N := 3) rfl ?_); refine bz_ 3 ?_; intro gb139 hg w15 hbox hb; obtain ⟨BK139, GW139, GE139, HB⟩ := nb_ hg hbox HB hb; have NB138_139 := nx_ hg BK138; have NB139_138 := ny_ hg BK138; replace BK138 := bb_ BK138 hb; clear hb hbox hg; have hnb16 := NB138_139.out; have hnc16 := NB139_138.out; have hcz17 := box5_ BK138.out; have hcz18 := box5_ BK139.out) | ((with_reducible refine gc_ 38 ?_); refine gl_ (some 14) Try.func38 #[.slice A0_1 l0_1.length c0_1, .slice A1_1 l1_1.length c1_1] ?_; (with_reducible refine (laws_eqIntS.calls ?_ ?_ ?_ ?_ A4.out).mono ?_); exact cu_ HR0_1.out HB.out; exact HC0_1.out; exact cu_ HR1_1.out HB.out; exact HC1_1.out; rintro e w' ⟨rfl, ⟨nd, rfl⟩⟩; refine ⟨_, rfl, ?_⟩))
      go_ret
      exact rt_ HB.out
    ·
     rw [if_neg c7] at H; have c7b0 : (a0_3 == a1_3) = false := beq_eq_false_iff_ne.mpr c7; have c7b1 : (a0_3 != a1_3) = true := bne_iff_ne.mpr c7; obtain rfl := Option.some.inj H
     go_enter Try.func18, Try.ntmps18
     go_wp2_with (first | ((with_reducible refine gate_dst (N := 2) rfl ?_); refine bz_ 2 ?_; intro gb138 hg w19 hbox hb; obtain ⟨BK138, GW138, GE138, HB⟩ := nb_ hg hbox HB hb; clear hb hbox hg) | ((with_reducible refine gate_dst (N := 3) rfl ?_); refine bz_ 3 ?_; intro gb139 hg w20 hbox hb; obtain ⟨BK139, GW139, GE139, HB⟩ := nb_ hg hbox HB hb; have NB138_139 := nx_ hg BK138; have NB139_138 := ny_ hg BK138; replace BK138 := bb_ BK138 hb; clear hb hbox hg; have hnb21 := NB138_139.out; have hnc21 := NB139_138.out; have hcz22 := box5_ BK138.out; have hcz23 := box5_ BK139.out) | ((with_reducible refine gc_ 38 ?_); refine gl_ (some 14) Try.func38 #[.slice A0_1 l0_1.length c0_1, .slice A1_1 l1_1.length c1_1] ?_; (with_reducible refine (laws_eqIntS.calls ?_ ?_ ?_ ?_ A4.out).mono ?_); exact cu_ HR0_1.out HB.out; exact HC0_1.out; exact cu_ HR1_1.out HB.out; exact HC1_1.out; rintro e w' ⟨rfl, ⟨nd, rfl⟩⟩; refine ⟨_, rfl, ?_⟩))
     go_ret
     exact rt_ HB.out
   ·
    rw [if_neg c6] at H; have c6b0 : (a0_2 == a1_2) = false := beq_eq_false_iff_ne.mpr c6; have c6b1 : (a0_2 != a1_2) = true := bne_iff_ne.mpr c6; obtain rfl := Option.some.inj H
    go_enter Try.func18, Try.ntmps18
    go_wp2_with (first | ((with_reducible refine gate_dst (N := 2) rfl ?_); refine bz_ 2 ?_; intro gb138 hg w24 hbox hb; obtain ⟨BK138, GW138, GE138, HB⟩ := nb_ hg hbox HB hb; clear hb hbox hg) | ((with_reducible refine gate_dst (N := 3) rfl ?_); refine bz_ 3 ?_; intro gb139 hg w25 hbox hb; obtain ⟨BK139, GW139, GE139, HB⟩ := nb_ hg hbox HB hb; have NB138_139 := nx_ hg BK138; have NB139_138 := ny_ hg BK138; replace BK138 := bb_ BK138 hb; clear hb hbox hg; have hnb26 := NB138_139.out; have hnc26 := NB139_138.out; have hcz27 := box5_ BK138.out; have hcz28 := box5_ BK139.out) | ((with_reducible refine gc_ 38 ?_); refine gl_ (some 14) Try.func38 #[.slice A0_1 l0_1.length c0_1, .slice A1_1 l1_1.length c1_1] ?_; (with_reducible refine (laws_eqIntS.calls ?_ ?_ ?_ ?_ A4.out).mono ?_); exact cu_ HR0_1.out HB.out; exact HC0_1.out; exact cu_ HR1_1.out HB.out; exact HC1_1.out; rintro e w' ⟨rfl, ⟨nd, rfl⟩⟩; refine ⟨_, rfl, ?_⟩))
    go_ret
    exact rt_ HB.out
  ·
   replace c5 := Bool.eq_false_iff.mpr c5; subst c5; have H1 : (some false) = some r := by rw [if_neg (show ¬ (false = true) by decide)] at H; exact H
   clear H; have H := H1; clear H1; obtain rfl := Option.some.inj H
   go_enter Try.func18, Try.ntmps18
   go_wp2_with (first | ((with_reducible refine gate_dst (N := 2) rfl ?_); refine bz_ 2 ?_; intro gb138 hg w29 hbox hb; obtain ⟨BK138, GW138, GE138, HB⟩ := nb_ hg hbox HB hb; clear hb hbox hg) | ((with_reducible refine gate_dst (N := 3) rfl ?_); refine bz_ 3 ?_; intro gb139 hg w30 hbox hb; obtain ⟨BK139, GW139, GE139, HB⟩ := nb_ hg hbox HB hb; have NB138_139 := nx_ hg BK138; have NB139_138 := ny_ hg BK138; replace BK138 := bb_ BK138 hb; clear hb hbox hg; have hnb31 := NB138_139.out; have hnc31 := NB139_138.out; have hcz32 := box5_ BK138.out; have hcz33 := box5_ BK139.out) | ((with_reducible refine gc_ 38 ?_); refine gl_ (some 14) Try.func38 #[.slice A0_1 l0_1.length c0_1, .slice A1_1 l1_1.length c1_1] ?_; (with_reducible refine (laws_eqIntS.calls ?_ ?_ ?_ ?_ A4.out).mono ?_); exact cu_ HR0_1.out HB.out; exact HC0_1.out; exact cu_ HR1_1.out HB.out; exact HC1_1.out; rintro e w' ⟨rfl, ⟨nd, rfl⟩⟩; refine ⟨_, rfl, ?_⟩))
   go_ret
   exact rt_ HB.out
 ·
  rw [if_neg c3] at H; have c3b0 : (a0_0 == a1_0) = false := beq_eq_false_iff_ne.mpr c3; have c3b1 : (a0_0 != a1_0) = true := bne_iff_ne.mpr c3; obtain rfl := Option.some.inj H
  go_enter Try.func18, Try.ntmps18
  go_wp2_with (first | ((with_reducible refine gate_dst (N := 2) rfl ?_); refine bz_ 2 ?_; intro gb138 hg w34 hbox hb; obtain ⟨BK138, GW138, GE138, HB⟩ := nb_ hg hbox HB hb; clear hb hbox hg) | ((with_reducible refine gate_dst (N := 3) rfl ?_); refine bz_ 3 ?_; intro gb139 hg w35 hbox hb; obtain ⟨BK139, GW139, GE139, HB⟩ := nb_ hg hbox HB hb; have NB138_139 := nx_ hg BK138; have NB139_138 := ny_ hg BK138; replace BK138 := bb_ BK138 hb; clear hb hbox hg; have hnb36 := NB138_139.out; have hnc36 := NB139_138.out; have hcz37 := box5_ BK138.out; have hcz38 := box5_ BK139.out))
  go_ret
  exact rt_ HB.out

/-! ### laws_eqTaskS: function 63 -/
def laws_eqTaskS.l0 : Nat → List (S27) → List (S27) → Int → Option (Bool)
 | 0, _, _, _ => none
 | k + 1, x0, x1, x5 => if x5 < (x0.length : Int) then (if 0 ≤ x5 then (if x5 < (x1.length : Int) then ((laws_eqTask.f k ((rd_T27 x0 x5).f0) ((rd_T27 x0 x5).f1) ((rd_T27 x0 x5).f2) ((rd_T27 x0 x5).f3) ((rd_T27 x0 x5).f4) ((rd_T27 x1 x5).f0) ((rd_T27 x1 x5).f1) ((rd_T27 x1 x5).f2) ((rd_T27 x1 x5).f3) ((rd_T27 x1 x5).f4)).bind fun t143 => (if t143 = true then (laws_eqTaskS.l0 k x0 x1 (wrap64 (x5 + 1))) else (some false))) else (none)) else (none)) else (some true)
def laws_eqTaskS.f (k : Nat) (l0 : List (S27)) (l1 : List (S27)) : Option (Bool) := if (l0.length : Int) = (l1.length : Int) then (laws_eqTaskS.l0 k l0 l1 0) else (some false)
def laws_eqTaskS.T6 : Bool × List (List Nat × List Nat) := (true, [([], []), ([], []), ([0, 1], [0, 1]), ([2], [2]), ([], []), ([], []), ([4, 5], [4, 5]), ([6], [6]), ([3, 7], [3, 7]), ([8], [8])])
def laws_eqTaskS.B6 : List Nat := [0, 0, 3, 7, 0, 0, 48, 112, 255, 511]
theorem laws_eqTaskS.tab6 : rtab .any (opsOf Try.f63 6) = laws_eqTaskS.T6 := by kernel_rfl
theorem laws_eqTaskS.bits6 : waitsOk laws_eqTaskS.T6.2 laws_eqTaskS.B6 = true := by kernel_rfl
set_option maxHeartbeats 8000000 in
set_option maxRecDepth 100000 in
theorem laws_eqTaskS.calls {k : Nat} {A0 : Option Addr} {c0 : Nat} {l0 : List (S27)} {A1 : Option Addr} {c1 : Nat} {l1 : List (S27)} {r : Bool} {w : World} (hr0 : Kd.C k27 w A0 l0.length l0) (hc0 : l0.length ≤ c0) (hr1 : Kd.C k27 w A1 l1.length l1) (hc1 : l1.length ≤ c1) (h : laws_eqTaskS.f k l0 l1 = some r) :
  Calls Try.prog 63 #[.slice A0 l0.length c0, .slice A1 l1.length c1] w fun e w' => e = .returned (.bool r) ∧ Below w.heap.size w w' := by
 have hu27 := Try.underlying27; have HR0 := Aside0.mk hr0; have HC0 := Aside0.mk hc0; clear hr0 hc0; have HR1 := Aside0.mk hr1; have HC1 := Aside0.mk hc1; clear hr1 hc1; have HB := Aside0.mk (Below.refl w.heap.size w); have H : (if (l0.length : Int) = (l1.length : Int) then (laws_eqTaskS.l0 k l0 l1 0) else (some false)) = some r := h; clear h
 by_cases c3 : (l0.length : Int) = (l1.length : Int)
 ·
  rw [if_pos c3] at H; have c3b0 : ((l0.length : Int) == (l1.length : Int)) = true := beq_iff_eq.mpr c3; have c3b1 : ((l0.length : Int) != (l1.length : Int)) = false := bne_eq_false_iff_eq.mpr c3; have c3b2 : (l0.length == l1.length) = true := by first | simpa using c3 | (simp at c3 ⊢; omega)
  clear c3; have H' := Aside0.mk H; clear H
  go_enter Try.func63, Try.ntmps63
  go_wp2
  go_loopg [5] k (fun kq v5 w' => ∃ (x5_1 : Int), v5 = .int .i64 x5_1 ∧ Aside0 (laws_eqTaskS.l0 kq l0 l1 x5_1 = some r) ∧ Aside0 (kq ≤ k) ∧ Aside0 (Below w.heap.size w w'))
  case atStart => exact ⟨(0), (by first | rfl | (simp; done) | (simp [*]; done)), H', ⟨Nat.le_refl _⟩, ⟨be_ HB.out⟩⟩
  case round =>
   clear H'; (try clear c1); (try clear p2); (try clear c3); (try clear c3b0); (try clear c3b1); (try clear c3b2); obtain ⟨x5_1, rfl, HA, HK1, HB⟩ := hrel
   cases gk with
   | zero => exact absurd HA.out (by simp [laws_eqTaskS.l0])
   | succ k1 =>
    have H := HA.out; clear HA; simp only [laws_eqTaskS.l0] at H
    by_cases c4 : x5_1 < (l0.length : Int)
    ·
     rw [if_pos c4] at H; have c4b0 : decide (x5_1 < (l0.length : Int)) = true := decide_eq_true c4; clear c4
     by_cases c5 : 0 ≤ x5_1
     ·
      rw [if_pos c5] at H; have c5b0 : decide (0 ≤ x5_1) = true := decide_eq_true c5; clear c5
      by_cases c6 : x5_1 < (l1.length : Int)
      ·
       rw [if_pos c6] at H; have c6b0 : decide (x5_1 < (l1.length : Int)) = true := decide_eq_true c6; clear c6; obtain ⟨t143, A7, H⟩ := bo_ H; (try dsimp only at H)
       by_cases c8 : t143 = true
       ·
        subst c8; rw [if_pos rfl] at H; have H' := Aside0.mk H; clear H
        try go_wp2
        replace HB := Aside0.mk (below_drew1 HB.out); have p141 : 0 ≤ (x5_1 : Int) := od_; have q141 : x5_1 < (l0.length : Int) := od_; obtain ⟨ad141, A141_1, c141_1, e141, hx141_0, hx141_1, hx141_2, hx141_3, hx141_4, hl141_1, hi141_1⟩ := at_T27 HR0.out x5_1 p141 q141; have hw141_4 := hx141_4; have hw141_3 := hx141_3; have hw141_2 := hx141_2; have hw141_1 := hx141_1; have hw141_0 := hx141_0
        cases e141
        replace hx141_0 := cw_ HB.out hx141_0; replace hx141_1 := cw_ HB.out hx141_1; replace hx141_2 := cw_ HB.out hx141_2; replace hx141_3 := cw_ HB.out hx141_3; replace hx141_4 := cw_ HB.out hx141_4; have HR141_1 := Aside0.mk hi141_1; have HC141_1 := Aside0.mk hl141_1; clear hi141_1 hl141_1; replace p141 := eq_true p141; replace q141 := eq_true q141; have p142 : 0 ≤ (x5_1 : Int) := od_; have q142 : x5_1 < (l1.length : Int) := od_; obtain ⟨ad142, A142_1, c142_1, e142, hx142_0, hx142_1, hx142_2, hx142_3, hx142_4, hl142_1, hi142_1⟩ := at_T27 HR1.out x5_1 p142 q142; have hw142_4 := hx142_4; have hw142_3 := hx142_3; have hw142_2 := hx142_2; have hw142_1 := hx142_1; have hw142_0 := hx142_0
        cases e142
        replace hx142_0 := cw_ HB.out hx142_0; replace hx142_1 := cw_ HB.out hx142_1; replace hx142_2 := cw_ HB.out hx142_2; replace hx142_3 := cw_ HB.out hx142_3; replace hx142_4 := cw_ HB.out hx142_4; have HR142_1 := Aside0.mk hi142_1; have HC142_1 := Aside0.mk hl142_1; clear hi142_1 hl142_1; replace p142 := eq_true p142; replace q142 := eq_true q142; refine sta_ 10 (fun w' => w'.cell? (ad141.add ((x5_1).toNat * 5)) = some (.int .i64 ((rd_T27 l0 x5_1).f0)) ∧ CF_ w' (ad141.add ((x5_1).toNat * 5)) 1 (.slice A141_1 ((rd_T27 l0 x5_1).f1).length c141_1) ∧ CF_ w' (ad141.add ((x5_1).toNat * 5)) 2 (.int .i64 ((rd_T27 l0 x5_1).f2)) ∧ CF_ w' (ad141.add ((x5_1).toNat * 5)) 3 (.int .i64 ((rd_T27 l0 x5_1).f3)) ∧ CF_ w' (ad141.add ((x5_1).toNat * 5)) 4 (.int .i64 ((rd_T27 l0 x5_1).f4)) ∧ w'.cell? (ad142.add ((x5_1).toNat * 5)) = some (.int .i64 ((rd_T27 l1 x5_1).f0)) ∧ CF_ w' (ad142.add ((x5_1).toNat * 5)) 1 (.slice A142_1 ((rd_T27 l1 x5_1).f1).length c142_1) ∧ CF_ w' (ad142.add ((x5_1).toNat * 5)) 2 (.int .i64 ((rd_T27 l1 x5_1).f2)) ∧ CF_ w' (ad142.add ((x5_1).toNat * 5)) 3 (.int .i64 ((rd_T27 l1 x5_1).f3)) ∧ CF_ w' (ad142.add ((x5_1).toNat * 5)) 4 (.int .i64 ((rd_T27 l1 x5_1).f4))) ⟨(cw_ HB.out hw141_0), (cw_ HB.out hw141_1), (cw_ HB.out hw141_2), (cw_ HB.out hw141_3), (cw_ HB.out hw141_4), (cw_ HB.out hw142_0), (cw_ HB.out hw142_1), (cw_ HB.out hw142_2), (cw_ HB.out hw142_3), (cw_ HB.out hw142_4)⟩ (fun hHeld => ?_); refine with_tabW laws_eqTaskS.tab6 laws_eqTaskS.bits6 (fun HT_ HW_ => ?_); generalize wr.drew = w9 at HB HR141_1 HR142_1 hx141_0 hx141_1 hx141_2 hx141_3 hx141_4 hx142_0 hx142_1 hx142_2 hx142_3 hx142_4 hHeld ⊢; refine pv_ 0 10 1 HT_.out ?_; refine pv_ 1 10 3 HT_.out ?_; refine pv_ 2 10 7 HT_.out ?_; refine pv_ 4 10 23 HT_.out ?_; refine pv_ 5 10 55 HT_.out ?_; refine pv_ 6 10 119 HT_.out ?_; refine tv_ 3 10 127 HT_.out HW_.out hHeld ?_; refine tv_ 7 10 255 HT_.out HW_.out hHeld ?_; refine one_ (i := 8) (N := some 25) (bl_ 10 511) rfl rfl (one_of HT_.out (by kernel_rfl)) (by decide) (fun K hK => ?_); refine ge_ Try.func18 #[.agg #[.int .i64 ((rd_T27 l0 x5_1).f0), .slice A141_1 ((rd_T27 l0 x5_1).f1).length c141_1, .int .i64 ((rd_T27 l0 x5_1).f2), .int .i64 ((rd_T27 l0 x5_1).f3), .int .i64 ((rd_T27 l0 x5_1).f4)], .agg #[.int .i64 ((rd_T27 l1 x5_1).f0), .slice A142_1 ((rd_T27 l1 x5_1).f1).length c142_1, .int .i64 ((rd_T27 l1 x5_1).f2), .int .i64 ((rd_T27 l1 x5_1).f3), .int .i64 ((rd_T27 l1 x5_1).f4)]] ?_
        (with_reducible refine (laws_eqTask.calls ?_ ?_ ?_ ?_ A7.out).mono ?_); exact cu_ HR141_1.out HB.out; exact HC141_1.out; exact cu_ HR142_1.out HB.out; exact HC142_1.out; rintro e w10 ⟨rfl, hb⟩; refine ⟨_, rfl, ?_⟩; replace HB := hb_ HB hb; (try clear hb); refine hK.out _ _ ⟨(cw_ HB.out hw141_0), (cw_ HB.out hw141_1), (cw_ HB.out hw141_2), (cw_ HB.out hw141_3), (cw_ HB.out hw141_4), (cw_ HB.out hw142_0), (cw_ HB.out hw142_1), (cw_ HB.out hw142_2), (cw_ HB.out hw142_3), (cw_ HB.out hw142_4)⟩ (fun hHeld => ?_); clear hK K; refine nm_ 25 (h := ?_); refine pv_ 9 10 1023 HT_.out ?_; refine done_ (done_of HT_.out (by kernel_rfl)) ?_
        try go_wp2
        go_roundg k1
        case measure => have := HK1.out; omega
        case rel => exact ⟨(wrap64 (x5_1 + 1)), (by first | rfl | (simp; done) | (simp [*]; done)), H', ⟨by have := HK1.out; omega⟩, ⟨be_ HB.out⟩⟩
       ·
        replace c8 := Bool.eq_false_iff.mpr c8; subst c8; have H1 : (some false) = some r := by rw [if_neg (show ¬ (false = true) by decide)] at H; exact H
        clear H; have H := H1; clear H1; obtain rfl := Option.some.inj H
        try go_wp2
        replace HB := Aside0.mk (below_drew1 HB.out); have p141 : 0 ≤ (x5_1 : Int) := od_; have q141 : x5_1 < (l0.length : Int) := od_; obtain ⟨ad141, A141_1, c141_1, e141, hx141_0, hx141_1, hx141_2, hx141_3, hx141_4, hl141_1, hi141_1⟩ := at_T27 HR0.out x5_1 p141 q141; have hw141_4 := hx141_4; have hw141_3 := hx141_3; have hw141_2 := hx141_2; have hw141_1 := hx141_1; have hw141_0 := hx141_0
        cases e141
        replace hx141_0 := cw_ HB.out hx141_0; replace hx141_1 := cw_ HB.out hx141_1; replace hx141_2 := cw_ HB.out hx141_2; replace hx141_3 := cw_ HB.out hx141_3; replace hx141_4 := cw_ HB.out hx141_4; have HR141_1 := Aside0.mk hi141_1; have HC141_1 := Aside0.mk hl141_1; clear hi141_1 hl141_1; replace p141 := eq_true p141; replace q141 := eq_true q141; have p142 : 0 ≤ (x5_1 : Int) := od_; have q142 : x5_1 < (l1.length : Int) := od_; obtain ⟨ad142, A142_1, c142_1, e142, hx142_0, hx142_1, hx142_2, hx142_3, hx142_4, hl142_1, hi142_1⟩ := at_T27 HR1.out x5_1 p142 q142; have hw142_4 := hx142_4; have hw142_3 := hx142_3; have hw142_2 := hx142_2; have hw142_1 := hx142_1; have hw142_0 := hx142_0
        cases e142
        replace hx142_0 := cw_ HB.out hx142_0; replace hx142_1 := cw_ HB.out hx142_1; replace hx142_2 := cw_ HB.out hx142_2; replace hx142_3 := cw_ HB.out hx142_3; replace hx142_4 := cw_ HB.out hx142_4; have HR142_1 := Aside0.mk hi142_1; have HC142_1 := Aside0.mk hl142_1; clear hi142_1 hl142_1; replace p142 := eq_true p142; replace q142 := eq_true q142; refine sta_ 10 (fun w' => w'.cell? (ad141.add ((x5_1).toNat * 5)) = some (.int .i64 ((rd_T27 l0 x5_1).f0)) ∧ CF_ w' (ad141.add ((x5_1).toNat * 5)) 1 (.slice A141_1 ((rd_T27 l0 x5_1).f1).length c141_1) ∧ CF_ w' (ad141.add ((x5_1).toNat * 5)) 2 (.int .i64 ((rd_T27 l0 x5_1).f2)) ∧ CF_ w' (ad141.add ((x5_1).toNat * 5)) 3 (.int .i64 ((rd_T27 l0 x5_1).f3)) ∧ CF_ w' (ad141.add ((x5_1).toNat * 5)) 4 (.int .i64 ((rd_T27 l0 x5_1).f4)) ∧ w'.cell? (ad142.add ((x5_1).toNat * 5)) = some (.int .i64 ((rd_T27 l1 x5_1).f0)) ∧ CF_ w' (ad142.add ((x5_1).toNat * 5)) 1 (.slice A142_1 ((rd_T27 l1 x5_1).f1).length c142_1) ∧ CF_ w' (ad142.add ((x5_1).toNat * 5)) 2 (.int .i64 ((rd_T27 l1 x5_1).f2)) ∧ CF_ w' (ad142.add ((x5_1).toNat * 5)) 3 (.int .i64 ((rd_T27 l1 x5_1).f3)) ∧ CF_ w' (ad142.add ((x5_1).toNat * 5)) 4 (.int .i64 ((rd_T27 l1 x5_1).f4))) ⟨(cw_ HB.out hw141_0), (cw_ HB.out hw141_1), (cw_ HB.out hw141_2), (cw_ HB.out hw141_3), (cw_ HB.out hw141_4), (cw_ HB.out hw142_0), (cw_ HB.out hw142_1), (cw_ HB.out hw142_2), (cw_ HB.out hw142_3), (cw_ HB.out hw142_4)⟩ (fun hHeld => ?_); refine with_tabW laws_eqTaskS.tab6 laws_eqTaskS.bits6 (fun HT_ HW_ => ?_); generalize wr.drew = w11 at HB HR141_1 HR142_1 hx141_0 hx141_1 hx141_2 hx141_3 hx141_4 hx142_0 hx142_1 hx142_2 hx142_3 hx142_4 hHeld ⊢; refine pv_ 0 10 1 HT_.out ?_; refine pv_ 1 10 3 HT_.out ?_; refine pv_ 2 10 7 HT_.out ?_; refine pv_ 4 10 23 HT_.out ?_; refine pv_ 5 10 55 HT_.out ?_; refine pv_ 6 10 119 HT_.out ?_; refine tv_ 3 10 127 HT_.out HW_.out hHeld ?_; refine tv_ 7 10 255 HT_.out HW_.out hHeld ?_; refine one_ (i := 8) (N := some 25) (bl_ 10 511) rfl rfl (one_of HT_.out (by kernel_rfl)) (by decide) (fun K hK => ?_); refine ge_ Try.func18 #[.agg #[.int .i64 ((rd_T27 l0 x5_1).f0), .slice A141_1 ((rd_T27 l0 x5_1).f1).length c141_1, .int .i64 ((rd_T27 l0 x5_1).f2), .int .i64 ((rd_T27 l0 x5_1).f3), .int .i64 ((rd_T27 l0 x5_1).f4)], .agg #[.int .i64 ((rd_T27 l1 x5_1).f0), .slice A142_1 ((rd_T27 l1 x5_1).f1).length c142_1, .int .i64 ((rd_T27 l1 x5_1).f2), .int .i64 ((rd_T27 l1 x5_1).f3), .int .i64 ((rd_T27 l1 x5_1).f4)]] ?_
        (with_reducible refine (laws_eqTask.calls ?_ ?_ ?_ ?_ A7.out).mono ?_); exact cu_ HR141_1.out HB.out; exact HC141_1.out; exact cu_ HR142_1.out HB.out; exact HC142_1.out; rintro e w12 ⟨rfl, hb⟩; refine ⟨_, rfl, ?_⟩; replace HB := hb_ HB hb; (try clear hb); refine hK.out _ _ ⟨(cw_ HB.out hw141_0), (cw_ HB.out hw141_1), (cw_ HB.out hw141_2), (cw_ HB.out hw141_3), (cw_ HB.out hw141_4), (cw_ HB.out hw142_0), (cw_ HB.out hw142_1), (cw_ HB.out hw142_2), (cw_ HB.out hw142_3), (cw_ HB.out hw142_4)⟩ (fun hHeld => ?_); clear hK K; refine nm_ 25 (h := ?_); refine pv_ 9 10 1023 HT_.out ?_; refine done_ (done_of HT_.out (by kernel_rfl)) ?_
        try go_wp2
        go_ret
        exact rt_ HB.out
      ·
       rw [if_neg c6] at H; exact absurd H (by simp)
     ·
      rw [if_neg c5] at H; exact absurd H (by simp)
    ·
     rw [if_neg c4] at H; have c4b0 : decide (x5_1 < (l0.length : Int)) = false := decide_eq_false c4; clear c4; obtain rfl := Option.some.inj H
     go_wp2
     go_ret
     exact rt_ HB.out
 ·
  rw [if_neg c3] at H; have c3b0 : ((l0.length : Int) == (l1.length : Int)) = false := beq_eq_false_iff_ne.mpr c3; have c3b1 : ((l0.length : Int) != (l1.length : Int)) = true := bne_iff_ne.mpr c3; have c3b2 : (l0.length == l1.length) = false := by first | simpa using c3 | (simp at c3 ⊢; omega)
  obtain rfl := Option.some.inj H
  go_enter Try.func63, Try.ntmps63
  go_wp2
  go_ret
  exact rt_ HB.out

/-! ### laws_eqSched: function 23 -/
def laws_eqSched.f (k : Nat) (a0_0 : Int) (a0_1 : Int) (a0_2 : Int) (l0_3 : List (S27)) (a0_4 : Int) (a0_5 : Int) (a0_6 : Int) (a0_7 : Int) (a1_0 : Int) (a1_1 : Int) (a1_2 : Int) (l1_3 : List (S27)) (a1_4 : Int) (a1_5 : Int) (a1_6 : Int) (a1_7 : Int) : Option (Bool) := if a0_0 = a1_0 then (if a0_1 = a1_1 then (if a0_2 = a1_2 then ((laws_eqTaskS.f k l0_3 l1_3).bind fun t146 => (if t146 = true then (if a0_4 = a1_4 then (if a0_5 = a1_5 then (if a0_6 = a1_6 then (if a0_7 = a1_7 then (some true) else (some false)) else (some false)) else (some false)) else (some false)) else (some false))) else (some false)) else (some false)) else (some false)
set_option maxHeartbeats 8000000 in
set_option maxRecDepth 100000 in
theorem laws_eqSched.calls {k : Nat} {a0_0 : Int} {a0_1 : Int} {a0_2 : Int} {A0_3 : Option Addr} {c0_3 : Nat} {l0_3 : List (S27)} {a0_4 : Int} {a0_5 : Int} {a0_6 : Int} {a0_7 : Int} {a1_0 : Int} {a1_1 : Int} {a1_2 : Int} {A1_3 : Option Addr} {c1_3 : Nat} {l1_3 : List (S27)} {a1_4 : Int} {a1_5 : Int} {a1_6 : Int} {a1_7 : Int} {r : Bool} {w : World} (hr0_3 : Kd.C k27 w A0_3 l0_3.length l0_3) (hc0_3 : l0_3.length ≤ c0_3) (hr1_3 : Kd.C k27 w A1_3 l1_3.length l1_3) (hc1_3 : l1_3.length ≤ c1_3) (h : laws_eqSched.f k a0_0 a0_1 a0_2 l0_3 a0_4 a0_5 a0_6 a0_7 a1_0 a1_1 a1_2 l1_3 a1_4 a1_5 a1_6 a1_7 = some r) :
  Calls Try.prog 23 #[.agg #[.int .i64 a0_0, .int .i64 a0_1, .int .i64 a0_2, .slice A0_3 l0_3.length c0_3, .int .i64 a0_4, .int .i64 a0_5, .int .i64 a0_6, .int .i64 a0_7], .agg #[.int .i64 a1_0, .int .i64 a1_1, .int .i64 a1_2, .slice A1_3 l1_3.length c1_3, .int .i64 a1_4, .int .i64 a1_5, .int .i64 a1_6, .int .i64 a1_7]] w fun e w' => e = .returned (.bool r) ∧ Below w.heap.size w w' := by
 have hu38 := Try.underlying38; have HR0_3 := Aside0.mk hr0_3; have HC0_3 := Aside0.mk hc0_3; clear hr0_3 hc0_3; have HR1_3 := Aside0.mk hr1_3; have HC1_3 := Aside0.mk hc1_3; clear hr1_3 hc1_3; have HB := Aside0.mk (Below.refl w.heap.size w); have H : (if a0_0 = a1_0 then (if a0_1 = a1_1 then (if a0_2 = a1_2 then ((laws_eqTaskS.f k l0_3 l1_3).bind fun t146 => (if t146 = true then (if a0_4 = a1_4 then (if a0_5 = a1_5 then (if a0_6 = a1_6 then (if a0_7 = a1_7 then (some true) else (some false)) else (some false)) else (some false)) else (some false)) else (some false))) else (some false)) else (some false)) else (some false)) = some r := h; clear h
 by_cases c3 : a0_0 = a1_0
 ·
  rw [if_pos c3] at H; have c3b0 : (a0_0 == a1_0) = true := beq_iff_eq.mpr c3; have c3b1 : (a0_0 != a1_0) = false := bne_eq_false_iff_eq.mpr c3; clear c3
  by_cases c4 : a0_1 = a1_1
  ·
   rw [if_pos c4] at H; have c4b0 : (a0_1 == a1_1) = true := beq_iff_eq.mpr c4; have c4b1 : (a0_1 != a1_1) = false := bne_eq_false_iff_eq.mpr c4; clear c4
   by_cases c5 : a0_2 = a1_2
   ·
    rw [if_pos c5] at H; have c5b0 : (a0_2 == a1_2) = true := beq_iff_eq.mpr c5; have c5b1 : (a0_2 != a1_2) = false := bne_eq_false_iff_eq.mpr c5; clear c5; obtain ⟨t146, A6, H⟩ := bo_ H; (try dsimp only at H)
    by_cases c7 : t146 = true
    ·
     subst c7; rw [if_pos rfl] at H
     by_cases c8 : a0_4 = a1_4
     ·
      rw [if_pos c8] at H; have c8b0 : (a0_4 == a1_4) = true := beq_iff_eq.mpr c8; have c8b1 : (a0_4 != a1_4) = false := bne_eq_false_iff_eq.mpr c8; clear c8
      by_cases c9 : a0_5 = a1_5
      ·
       rw [if_pos c9] at H; have c9b0 : (a0_5 == a1_5) = true := beq_iff_eq.mpr c9; have c9b1 : (a0_5 != a1_5) = false := bne_eq_false_iff_eq.mpr c9; clear c9
       by_cases c10 : a0_6 = a1_6
       ·
        rw [if_pos c10] at H; have c10b0 : (a0_6 == a1_6) = true := beq_iff_eq.mpr c10; have c10b1 : (a0_6 != a1_6) = false := bne_eq_false_iff_eq.mpr c10; clear c10
        by_cases c11 : a0_7 = a1_7
        ·
         rw [if_pos c11] at H; have c11b0 : (a0_7 == a1_7) = true := beq_iff_eq.mpr c11; have c11b1 : (a0_7 != a1_7) = false := bne_eq_false_iff_eq.mpr c11; clear c11; obtain rfl := Option.some.inj H
         go_enter Try.func23, Try.ntmps23
         go_wp2_with (first | ((with_reducible refine gate_dst (N := 2) rfl ?_); refine bz_ 2 ?_; intro gb144 hg w12 hbox hb; obtain ⟨BK144, GW144, GE144, HB⟩ := nb_ hg hbox HB hb; clear hb hbox hg) | ((with_reducible refine gate_dst (N := 3) rfl ?_); refine bz_ 3 ?_; intro gb145 hg w13 hbox hb; obtain ⟨BK145, GW145, GE145, HB⟩ := nb_ hg hbox HB hb; have NB144_145 := nx_ hg BK144; have NB145_144 := ny_ hg BK144; replace BK144 := bb_ BK144 hb; clear hb hbox hg; have hnb14 := NB144_145.out; have hnc14 := NB145_144.out; have hcz15 := box8_ BK144.out; have hcz16 := box8_ BK145.out) | ((with_reducible refine gc_ 63 ?_); refine gl_ (some 24) Try.func63 #[.slice A0_3 l0_3.length c0_3, .slice A1_3 l1_3.length c1_3] ?_; (with_reducible refine (laws_eqTaskS.calls ?_ ?_ ?_ ?_ A6.out).mono ?_); exact cu_ HR0_3.out HB.out; exact HC0_3.out; exact cu_ HR1_3.out HB.out; exact HC1_3.out; rintro e w17 ⟨rfl, hb⟩; refine ⟨_, rfl, ?_⟩; replace BK144 := bb_ BK144 hb; replace BK145 := bb_ BK145 hb; replace HB := hb_ HB hb; (try clear hb); have hcz18 := box8_ BK144.out; have hcz19 := box8_ BK145.out))
         go_ret
         exact rt_ HB.out
        ·
         rw [if_neg c11] at H; have c11b0 : (a0_7 == a1_7) = false := beq_eq_false_iff_ne.mpr c11; have c11b1 : (a0_7 != a1_7) = true := bne_iff_ne.mpr c11; obtain rfl := Option.some.inj H
         go_enter Try.func23, Try.ntmps23
         go_wp2_with (first | ((with_reducible refine gate_dst (N := 2) rfl ?_); refine bz_ 2 ?_; intro gb144 hg w20 hbox hb; obtain ⟨BK144, GW144, GE144, HB⟩ := nb_ hg hbox HB hb; clear hb hbox hg) | ((with_reducible refine gate_dst (N := 3) rfl ?_); refine bz_ 3 ?_; intro gb145 hg w21 hbox hb; obtain ⟨BK145, GW145, GE145, HB⟩ := nb_ hg hbox HB hb; have NB144_145 := nx_ hg BK144; have NB145_144 := ny_ hg BK144; replace BK144 := bb_ BK144 hb; clear hb hbox hg; have hnb22 := NB144_145.out; have hnc22 := NB145_144.out; have hcz23 := box8_ BK144.out; have hcz24 := box8_ BK145.out) | ((with_reducible refine gc_ 63 ?_); refine gl_ (some 24) Try.func63 #[.slice A0_3 l0_3.length c0_3, .slice A1_3 l1_3.length c1_3] ?_; (with_reducible refine (laws_eqTaskS.calls ?_ ?_ ?_ ?_ A6.out).mono ?_); exact cu_ HR0_3.out HB.out; exact HC0_3.out; exact cu_ HR1_3.out HB.out; exact HC1_3.out; rintro e w25 ⟨rfl, hb⟩; refine ⟨_, rfl, ?_⟩; replace BK144 := bb_ BK144 hb; replace BK145 := bb_ BK145 hb; replace HB := hb_ HB hb; (try clear hb); have hcz26 := box8_ BK144.out; have hcz27 := box8_ BK145.out))
         go_ret
         exact rt_ HB.out
       ·
        rw [if_neg c10] at H; have c10b0 : (a0_6 == a1_6) = false := beq_eq_false_iff_ne.mpr c10; have c10b1 : (a0_6 != a1_6) = true := bne_iff_ne.mpr c10; obtain rfl := Option.some.inj H
        go_enter Try.func23, Try.ntmps23
        go_wp2_with (first | ((with_reducible refine gate_dst (N := 2) rfl ?_); refine bz_ 2 ?_; intro gb144 hg w28 hbox hb; obtain ⟨BK144, GW144, GE144, HB⟩ := nb_ hg hbox HB hb; clear hb hbox hg) | ((with_reducible refine gate_dst (N := 3) rfl ?_); refine bz_ 3 ?_; intro gb145 hg w29 hbox hb; obtain ⟨BK145, GW145, GE145, HB⟩ := nb_ hg hbox HB hb; have NB144_145 := nx_ hg BK144; have NB145_144 := ny_ hg BK144; replace BK144 := bb_ BK144 hb; clear hb hbox hg; have hnb30 := NB144_145.out; have hnc30 := NB145_144.out; have hcz31 := box8_ BK144.out; have hcz32 := box8_ BK145.out) | ((with_reducible refine gc_ 63 ?_); refine gl_ (some 24) Try.func63 #[.slice A0_3 l0_3.length c0_3, .slice A1_3 l1_3.length c1_3] ?_; (with_reducible refine (laws_eqTaskS.calls ?_ ?_ ?_ ?_ A6.out).mono ?_); exact cu_ HR0_3.out HB.out; exact HC0_3.out; exact cu_ HR1_3.out HB.out; exact HC1_3.out; rintro e w33 ⟨rfl, hb⟩; refine ⟨_, rfl, ?_⟩; replace BK144 := bb_ BK144 hb; replace BK145 := bb_ BK145 hb; replace HB := hb_ HB hb; (try clear hb); have hcz34 := box8_ BK144.out; have hcz35 := box8_ BK145.out))
        go_ret
        exact rt_ HB.out
      ·
       rw [if_neg c9] at H; have c9b0 : (a0_5 == a1_5) = false := beq_eq_false_iff_ne.mpr c9; have c9b1 : (a0_5 != a1_5) = true := bne_iff_ne.mpr c9; obtain rfl := Option.some.inj H
       go_enter Try.func23, Try.ntmps23
       go_wp2_with (first | ((with_reducible refine gate_dst (N := 2) rfl ?_); refine bz_ 2 ?_; intro gb144 hg w36 hbox hb; obtain ⟨BK144, GW144, GE144, HB⟩ := nb_ hg hbox HB hb; clear hb hbox hg) | ((with_reducible refine gate_dst (N := 3) rfl ?_); refine bz_ 3 ?_; intro gb145 hg w37 hbox hb; obtain ⟨BK145, GW145, GE145, HB⟩ := nb_ hg hbox HB hb; have NB144_145 := nx_ hg BK144; have NB145_144 := ny_ hg BK144; replace BK144 := bb_ BK144 hb; clear hb hbox hg; have hnb38 := NB144_145.out; have hnc38 := NB145_144.out; have hcz39 := box8_ BK144.out; have hcz40 := box8_ BK145.out) | ((with_reducible refine gc_ 63 ?_); refine gl_ (some 24) Try.func63 #[.slice A0_3 l0_3.length c0_3, .slice A1_3 l1_3.length c1_3] ?_; (with_reducible refine (laws_eqTaskS.calls ?_ ?_ ?_ ?_ A6.out).mono ?_); exact cu_ HR0_3.out HB.out; exact HC0_3.out; exact cu_ HR1_3.out HB.out; exact HC1_3.out; rintro e w41 ⟨rfl, hb⟩; refine ⟨_, rfl, ?_⟩; replace BK144 := bb_ BK144 hb; replace BK145 := bb_ BK145 hb; replace HB := hb_ HB hb; (try clear hb); have hcz42 := box8_ BK144.out; have hcz43 := box8_ BK145.out))
       go_ret
       exact rt_ HB.out
     ·
      rw [if_neg c8] at H; have c8b0 : (a0_4 == a1_4) = false := beq_eq_false_iff_ne.mpr c8; have c8b1 : (a0_4 != a1_4) = true := bne_iff_ne.mpr c8; obtain rfl := Option.some.inj H
      go_enter Try.func23, Try.ntmps23
      go_wp2_with (first | ((with_reducible refine gate_dst (N := 2) rfl ?_); refine bz_ 2 ?_; intro gb144 hg w44 hbox hb; obtain ⟨BK144, GW144, GE144, HB⟩ := nb_ hg hbox HB hb; clear hb hbox hg) | ((with_reducible refine gate_dst (N := 3) rfl ?_); refine bz_ 3 ?_; intro gb145 hg w45 hbox hb; obtain ⟨BK145, GW145, GE145, HB⟩ := nb_ hg hbox HB hb; have NB144_145 := nx_ hg BK144; have NB145_144 := ny_ hg BK144; replace BK144 := bb_ BK144 hb; clear hb hbox hg; have hnb46 := NB144_145.out; have hnc46 := NB145_144.out; have hcz47 := box8_ BK144.out; have hcz48 := box8_ BK145.out) | ((with_reducible refine gc_ 63 ?_); refine gl_ (some 24) Try.func63 #[.slice A0_3 l0_3.length c0_3, .slice A1_3 l1_3.length c1_3] ?_; (with_reducible refine (laws_eqTaskS.calls ?_ ?_ ?_ ?_ A6.out).mono ?_); exact cu_ HR0_3.out HB.out; exact HC0_3.out; exact cu_ HR1_3.out HB.out; exact HC1_3.out; rintro e w49 ⟨rfl, hb⟩; refine ⟨_, rfl, ?_⟩; replace BK144 := bb_ BK144 hb; replace BK145 := bb_ BK145 hb; replace HB := hb_ HB hb; (try clear hb); have hcz50 := box8_ BK144.out; have hcz51 := box8_ BK145.out))
      go_ret
      exact rt_ HB.out
    ·
     replace c7 := Bool.eq_false_iff.mpr c7; subst c7; have H1 : (some false) = some r := by rw [if_neg (show ¬ (false = true) by decide)] at H; exact H
     clear H; have H := H1; clear H1; obtain rfl := Option.some.inj H
     go_enter Try.func23, Try.ntmps23
     go_wp2_with (first | ((with_reducible refine gate_dst (N := 2) rfl ?_); refine bz_ 2 ?_; intro gb144 hg w52 hbox hb; obtain ⟨BK144, GW144, GE144, HB⟩ := nb_ hg hbox HB hb; clear hb hbox hg) | ((with_reducible refine gate_dst (N := 3) rfl ?_); refine bz_ 3 ?_; intro gb145 hg w53 hbox hb; obtain ⟨BK145, GW145, GE145, HB⟩ := nb_ hg hbox HB hb; have NB144_145 := nx_ hg BK144; have NB145_144 := ny_ hg BK144; replace BK144 := bb_ BK144 hb; clear hb hbox hg; have hnb54 := NB144_145.out; have hnc54 := NB145_144.out; have hcz55 := box8_ BK144.out; have hcz56 := box8_ BK145.out) | ((with_reducible refine gc_ 63 ?_); refine gl_ (some 24) Try.func63 #[.slice A0_3 l0_3.length c0_3, .slice A1_3 l1_3.length c1_3] ?_; (with_reducible refine (laws_eqTaskS.calls ?_ ?_ ?_ ?_ A6.out).mono ?_); exact cu_ HR0_3.out HB.out; exact HC0_3.out; exact cu_ HR1_3.out HB.out; exact HC1_3.out; rintro e w57 ⟨rfl, hb⟩; refine ⟨_, rfl, ?_⟩; replace BK144 := bb_ BK144 hb; replace BK145 := bb_ BK145 hb; replace HB := hb_ HB hb; (try clear hb)))
     go_ret
     exact rt_ HB.out
   ·
    rw [if_neg c5] at H; have c5b0 : (a0_2 == a1_2) = false := beq_eq_false_iff_ne.mpr c5; have c5b1 : (a0_2 != a1_2) = true := bne_iff_ne.mpr c5; obtain rfl := Option.some.inj H
    go_enter Try.func23, Try.ntmps23
    go_wp2_with (first | ((with_reducible refine gate_dst (N := 2) rfl ?_); refine bz_ 2 ?_; intro gb144 hg w58 hbox hb; obtain ⟨BK144, GW144, GE144, HB⟩ := nb_ hg hbox HB hb; clear hb hbox hg) | ((with_reducible refine gate_dst (N := 3) rfl ?_); refine bz_ 3 ?_; intro gb145 hg w59 hbox hb; obtain ⟨BK145, GW145, GE145, HB⟩ := nb_ hg hbox HB hb; have NB144_145 := nx_ hg BK144; have NB145_144 := ny_ hg BK144; replace BK144 := bb_ BK144 hb; clear hb hbox hg; have hnb60 := NB144_145.out; have hnc60 := NB145_144.out; have hcz61 := box8_ BK144.out; have hcz62 := box8_ BK145.out))
    go_ret
    exact rt_ HB.out
  ·
   rw [if_neg c4] at H; have c4b0 : (a0_1 == a1_1) = false := beq_eq_false_iff_ne.mpr c4; have c4b1 : (a0_1 != a1_1) = true := bne_iff_ne.mpr c4; obtain rfl := Option.some.inj H
   go_enter Try.func23, Try.ntmps23
   go_wp2_with (first | ((with_reducible refine gate_dst (N := 2) rfl ?_); refine bz_ 2 ?_; intro gb144 hg w63 hbox hb; obtain ⟨BK144, GW144, GE144, HB⟩ := nb_ hg hbox HB hb; clear hb hbox hg) | ((with_reducible refine gate_dst (N := 3) rfl ?_); refine bz_ 3 ?_; intro gb145 hg w64 hbox hb; obtain ⟨BK145, GW145, GE145, HB⟩ := nb_ hg hbox HB hb; have NB144_145 := nx_ hg BK144; have NB145_144 := ny_ hg BK144; replace BK144 := bb_ BK144 hb; clear hb hbox hg; have hnb65 := NB144_145.out; have hnc65 := NB145_144.out; have hcz66 := box8_ BK144.out; have hcz67 := box8_ BK145.out))
   go_ret
   exact rt_ HB.out
 ·
  rw [if_neg c3] at H; have c3b0 : (a0_0 == a1_0) = false := beq_eq_false_iff_ne.mpr c3; have c3b1 : (a0_0 != a1_0) = true := bne_iff_ne.mpr c3; obtain rfl := Option.some.inj H
  go_enter Try.func23, Try.ntmps23
  go_wp2_with (first | ((with_reducible refine gate_dst (N := 2) rfl ?_); refine bz_ 2 ?_; intro gb144 hg w68 hbox hb; obtain ⟨BK144, GW144, GE144, HB⟩ := nb_ hg hbox HB hb; clear hb hbox hg) | ((with_reducible refine gate_dst (N := 3) rfl ?_); refine bz_ 3 ?_; intro gb145 hg w69 hbox hb; obtain ⟨BK145, GW145, GE145, HB⟩ := nb_ hg hbox HB hb; have NB144_145 := nx_ hg BK144; have NB145_144 := ny_ hg BK144; replace BK144 := bb_ BK144 hb; clear hb hbox hg; have hnb70 := NB144_145.out; have hnc70 := NB145_144.out; have hcz71 := box8_ BK144.out; have hcz72 := box8_ BK145.out))
  go_ret
  exact rt_ HB.out

/-! ### spec_l01In: function 51 -/
def spec_l01In.f (a0 : Int) (a1 : Int) (a2 : Int) : Option (Bool) := if a1 ≤ a0 then (some (decide (a0 ≤ a2))) else (some false)
set_option maxHeartbeats 8000000 in
set_option maxRecDepth 100000 in
theorem spec_l01In.calls {a0 : Int} {a1 : Int} {a2 : Int} {r : Bool} {w : World} (h : spec_l01In.f a0 a1 a2 = some r) :
  Calls Try.prog 51 #[.int .i64 a0, .int .i64 a1, .int .i64 a2] w fun e w' => e = .returned (.bool r) ∧ Drawn0 w w' := by
 have H : (if a1 ≤ a0 then (some (decide (a0 ≤ a2))) else (some false)) = some r := h; clear h
 by_cases c4 : a1 ≤ a0
 ·
  rw [if_pos c4] at H; have c4b0 : decide (a1 ≤ a0) = true := decide_eq_true c4; clear c4; obtain rfl := Option.some.inj H
  go_enter Try.func51, Try.ntmps51
  go_wp2
  go_ret
  exact ⟨by first | rfl | (simp; done) | (simp [*]; done), by repeat (first | exact Drawn0.refl _ | apply Drawn0.step)⟩
 ·
  rw [if_neg c4] at H; have c4b0 : decide (a1 ≤ a0) = false := decide_eq_false c4; clear c4; obtain rfl := Option.some.inj H
  go_enter Try.func51, Try.ntmps51
  go_wp2
  go_ret
  exact ⟨by first | rfl | (simp; done) | (simp [*]; done), by repeat (first | exact Drawn0.refl _ | apply Drawn0.step)⟩

/-! ### spec_l07Tick: function 52 -/
def spec_l07Tick.f (a0 : Int) : Option (Bool) := (spec_l01In.f a0 0 1000000).bind fun t147 => (some t147)
set_option maxHeartbeats 8000000 in
set_option maxRecDepth 100000 in
theorem spec_l07Tick.calls {a0 : Int} {r : Bool} {w : World} (h : spec_l07Tick.f a0 = some r) :
  Calls Try.prog 52 #[.int .i64 a0] w fun e w' => e = .returned (.bool r) ∧ Drawn0 w w' := by
 have H : ((spec_l01In.f a0 0 1000000).bind fun t147 => (some t147)) = some r := h; clear h; obtain ⟨t147, A2, H⟩ := bo_ H; (try dsimp only at H); obtain rfl := Option.some.inj H
 go_enter Try.func52, Try.ntmps52
 go_wp2_with (first | ((with_reducible refine gc_ 51 ?_); refine gl_ (some 4) Try.func51 #[.int .i64 a0, .int .i64 0, .int .i64 1000000] ?_; (with_reducible refine (spec_l01In.calls A2.out).mono ?_); rintro e w' ⟨rfl, ⟨nd, rfl⟩⟩; refine ⟨_, rfl, ?_⟩))
 go_ret
 exact ⟨by first | rfl | (simp; done) | (simp [*]; done), by repeat (first | exact Drawn0.refl _ | apply Drawn0.step)⟩

/-! ### spec_TaskOk: function 15 -/
mutual
def spec_TaskOk.j0 : Nat → Bool → Int → List Int → Int → Int → Int → Option (Bool)
 | 0, _, _, _, _, _, _ => none
 | k + 1, x36, x149000, x149001, x149002, x149003, x149004 => if x36 = true then (some false) else (spec_TaskOk.l0 k 0 x149000 x149001 x149002 x149003 x149004)
def spec_TaskOk.l0 : Nat → Int → Int → List Int → Int → Int → Int → Option (Bool)
 | 0, _, _, _, _, _, _ => none
 | k + 1, x3, x149000, x149001, x149002, x149003, x149004 => if x3 < (x149001.length : Int) then (if 0 ≤ x3 then ((spec_l01In.f (rd x149001 x3) 1 1000).bind fun t155 => (if t155 = true then (spec_TaskOk.l0 k (wrap64 (x3 + 1)) x149000 x149001 x149002 x149003 x149004) else (some false))) else (none)) else (some true)
end
def spec_TaskOk.f (k : Nat) (a0_0 : Int) (l0_1 : List Int) (a0_2 : Int) (a0_3 : Int) (a0_4 : Int) : Option (Bool) := (spec_l01In.f a0_0 1 1000000).bind fun t149 => (if t149 = true then ((spec_l01In.f (l0_1.length : Int) 1 6).bind fun t150 => (if t150 = true then ((spec_l01In.f a0_2 0 (wrap64 ((l0_1.length : Int) - 1))).bind fun t151 => (if t151 = true then ((spec_l07Tick.f a0_3).bind fun t152 => (if t152 = true then ((spec_l07Tick.f a0_4).bind fun t153 => (spec_TaskOk.j0 k (!t153) a0_0 l0_1 a0_2 a0_3 a0_4)) else (spec_TaskOk.j0 k true a0_0 l0_1 a0_2 a0_3 a0_4))) else (spec_TaskOk.j0 k true a0_0 l0_1 a0_2 a0_3 a0_4))) else (spec_TaskOk.j0 k true a0_0 l0_1 a0_2 a0_3 a0_4))) else (spec_TaskOk.j0 k true a0_0 l0_1 a0_2 a0_3 a0_4))
set_option maxHeartbeats 8000000 in
set_option maxRecDepth 100000 in
theorem spec_TaskOk.calls {k : Nat} {a0_0 : Int} {A0_1 : Option Addr} {c0_1 : Nat} {l0_1 : List Int} {a0_2 : Int} {a0_3 : Int} {a0_4 : Int} {r : Bool} {w : World} (hr0_1 : Kd.C (Kd.int .i64) w A0_1 l0_1.length l0_1) (hc0_1 : l0_1.length ≤ c0_1) (h : spec_TaskOk.f k a0_0 l0_1 a0_2 a0_3 a0_4 = some r) :
  Calls Try.prog 15 #[.agg #[.int .i64 a0_0, .slice A0_1 l0_1.length c0_1, .int .i64 a0_2, .int .i64 a0_3, .int .i64 a0_4]] w fun e w' => e = .returned (.bool r) ∧ Below w.heap.size w w' := by
 have hu27 := Try.underlying27; have HR0_1 := Aside0.mk hr0_1; have HC0_1 := Aside0.mk hc0_1; clear hr0_1 hc0_1; have HB := Aside0.mk (Below.refl w.heap.size w); have H : ((spec_l01In.f a0_0 1 1000000).bind fun t149 => (if t149 = true then ((spec_l01In.f (l0_1.length : Int) 1 6).bind fun t150 => (if t150 = true then ((spec_l01In.f a0_2 0 (wrap64 ((l0_1.length : Int) - 1))).bind fun t151 => (if t151 = true then ((spec_l07Tick.f a0_3).bind fun t152 => (if t152 = true then ((spec_l07Tick.f a0_4).bind fun t153 => (spec_TaskOk.j0 k (!t153) a0_0 l0_1 a0_2 a0_3 a0_4)) else (spec_TaskOk.j0 k true a0_0 l0_1 a0_2 a0_3 a0_4))) else (spec_TaskOk.j0 k true a0_0 l0_1 a0_2 a0_3 a0_4))) else (spec_TaskOk.j0 k true a0_0 l0_1 a0_2 a0_3 a0_4))) else (spec_TaskOk.j0 k true a0_0 l0_1 a0_2 a0_3 a0_4))) = some r := h; clear h; have HC2 := Aside0.mk H; clear H
 go_enter Try.func15, Try.ntmps15
 go_upto_region 1 with (first | ((with_reducible refine gate_dst (N := 1) rfl ?_); (try (refine gate_guard (by rfl) ?_; dsimp only)); refine bz_ 1 ?_; intro gb148 hg w3 hbox hb; obtain ⟨BK148, GW148, GE148, HB⟩ := nb_ hg hbox HB hb; clear hb hbox hg))
 (try simp only [Act.put, List.setIfInBounds_toArray, List.set_cons_zero, List.set_cons_succ])
 go_cut [36] (fun v36 wc => ∃ (kq : Nat) (x36_1 : Bool), v36 = .bool x36_1 ∧ Aside0 (spec_TaskOk.j0 kq x36_1 a0_0 l0_1 a0_2 a0_3 a0_4 = some r) ∧ Aside0 (kq ≤ k) ∧ Aside0 (wc.heap[gb148]? = some (.cells #[.int .i64 a0_0, (.slice A0_1 l0_1.length c0_1), .int .i64 a0_2, .int .i64 a0_3, .int .i64 a0_4] 27 (0, 0))) ∧ Aside0 (Below w.heap.size w wc))
 case first =>
  have H := HC2.out; clear HC2; obtain ⟨t149, A4, H⟩ := bo_ H; (try dsimp only at H)
  by_cases c5 : t149 = true
  ·
   subst c5; rw [if_pos rfl] at H; obtain ⟨t150, A6, H⟩ := bo_ H; (try dsimp only at H)
   by_cases c7 : t150 = true
   ·
    subst c7; rw [if_pos rfl] at H; obtain ⟨t151, A8, H⟩ := bo_ H; (try dsimp only at H)
    by_cases c9 : t151 = true
    ·
     subst c9; rw [if_pos rfl] at H; obtain ⟨t152, A10, H⟩ := bo_ H; (try dsimp only at H)
     by_cases c11 : t152 = true
     ·
      subst c11; rw [if_pos rfl] at H; obtain ⟨t153, A12, H⟩ := bo_ H; (try dsimp only at H); have H' := Aside0.mk H; clear H; have hcz13 := box5_ BK148.out
      go_wp2_with (first | ((with_reducible refine gc_ 51 ?_); refine gl_ (some 6) Try.func51 #[.int .i64 a0_0, .int .i64 1, .int .i64 1000000] ?_; (with_reducible refine (spec_l01In.calls A4.out).mono ?_); rintro e w' ⟨rfl, ⟨nd, rfl⟩⟩; refine ⟨_, rfl, ?_⟩) | (go_at_call 51; (with_reducible refine (spec_l01In.calls A6.out).mono ?_); rintro e w' ⟨rfl, ⟨nd, rfl⟩⟩) | (go_at_call 51; (with_reducible refine (spec_l01In.calls A8.out).mono ?_); rintro e w' ⟨rfl, ⟨nd, rfl⟩⟩) | (go_at_call 52; (with_reducible refine (spec_l07Tick.calls A10.out).mono ?_); rintro e w' ⟨rfl, ⟨nd, rfl⟩⟩) | (go_at_call 52; (with_reducible refine (spec_l07Tick.calls A12.out).mono ?_); rintro e w' ⟨rfl, ⟨nd, rfl⟩⟩))
      go_meet
      case rel => exact ⟨_, (!t153), (by first | rfl | (simp; done) | (simp [*]; done)), H', ⟨by first | omega | exact Nat.le_refl _⟩, ⟨bu_ BK148.out⟩, ⟨be_ HB.out⟩⟩
     ·
      replace c11 := Bool.eq_false_iff.mpr c11; subst c11; have H1 : (spec_TaskOk.j0 k true a0_0 l0_1 a0_2 a0_3 a0_4) = some r := by rw [if_neg (show ¬ (false = true) by decide)] at H; exact H
      clear H; have H := H1; clear H1; have H' := Aside0.mk H; clear H; have hcz14 := box5_ BK148.out
      go_wp2_with (first | ((with_reducible refine gc_ 51 ?_); refine gl_ (some 6) Try.func51 #[.int .i64 a0_0, .int .i64 1, .int .i64 1000000] ?_; (with_reducible refine (spec_l01In.calls A4.out).mono ?_); rintro e w' ⟨rfl, ⟨nd, rfl⟩⟩; refine ⟨_, rfl, ?_⟩) | (go_at_call 51; (with_reducible refine (spec_l01In.calls A6.out).mono ?_); rintro e w' ⟨rfl, ⟨nd, rfl⟩⟩) | (go_at_call 51; (with_reducible refine (spec_l01In.calls A8.out).mono ?_); rintro e w' ⟨rfl, ⟨nd, rfl⟩⟩) | (go_at_call 52; (with_reducible refine (spec_l07Tick.calls A10.out).mono ?_); rintro e w' ⟨rfl, ⟨nd, rfl⟩⟩))
      go_meet
      case rel => exact ⟨_, (true), (by first | rfl | (simp; done) | (simp [*]; done)), H', ⟨by first | omega | exact Nat.le_refl _⟩, ⟨bu_ BK148.out⟩, ⟨be_ HB.out⟩⟩
    ·
     replace c9 := Bool.eq_false_iff.mpr c9; subst c9; have H1 : (spec_TaskOk.j0 k true a0_0 l0_1 a0_2 a0_3 a0_4) = some r := by rw [if_neg (show ¬ (false = true) by decide)] at H; exact H
     clear H; have H := H1; clear H1; have H' := Aside0.mk H; clear H; have hcz15 := box5_ BK148.out
     go_wp2_with (first | ((with_reducible refine gc_ 51 ?_); refine gl_ (some 6) Try.func51 #[.int .i64 a0_0, .int .i64 1, .int .i64 1000000] ?_; (with_reducible refine (spec_l01In.calls A4.out).mono ?_); rintro e w' ⟨rfl, ⟨nd, rfl⟩⟩; refine ⟨_, rfl, ?_⟩) | (go_at_call 51; (with_reducible refine (spec_l01In.calls A6.out).mono ?_); rintro e w' ⟨rfl, ⟨nd, rfl⟩⟩) | (go_at_call 51; (with_reducible refine (spec_l01In.calls A8.out).mono ?_); rintro e w' ⟨rfl, ⟨nd, rfl⟩⟩))
     go_meet
     case rel => exact ⟨_, (true), (by first | rfl | (simp; done) | (simp [*]; done)), H', ⟨by first | omega | exact Nat.le_refl _⟩, ⟨bu_ BK148.out⟩, ⟨be_ HB.out⟩⟩
   ·
    replace c7 := Bool.eq_false_iff.mpr c7; subst c7; have H1 : (spec_TaskOk.j0 k true a0_0 l0_1 a0_2 a0_3 a0_4) = some r := by rw [if_neg (show ¬ (false = true) by decide)] at H; exact H
    clear H; have H := H1; clear H1; have H' := Aside0.mk H; clear H; have hcz16 := box5_ BK148.out
    go_wp2_with (first | ((with_reducible refine gc_ 51 ?_); refine gl_ (some 6) Try.func51 #[.int .i64 a0_0, .int .i64 1, .int .i64 1000000] ?_; (with_reducible refine (spec_l01In.calls A4.out).mono ?_); rintro e w' ⟨rfl, ⟨nd, rfl⟩⟩; refine ⟨_, rfl, ?_⟩) | (go_at_call 51; (with_reducible refine (spec_l01In.calls A6.out).mono ?_); rintro e w' ⟨rfl, ⟨nd, rfl⟩⟩))
    go_meet
    case rel => exact ⟨_, (true), (by first | rfl | (simp; done) | (simp [*]; done)), H', ⟨by first | omega | exact Nat.le_refl _⟩, ⟨bu_ BK148.out⟩, ⟨be_ HB.out⟩⟩
  ·
   replace c5 := Bool.eq_false_iff.mpr c5; subst c5; have H1 : (spec_TaskOk.j0 k true a0_0 l0_1 a0_2 a0_3 a0_4) = some r := by rw [if_neg (show ¬ (false = true) by decide)] at H; exact H
   clear H; have H := H1; clear H1; have H' := Aside0.mk H; clear H; have hcz17 := box5_ BK148.out
   go_wp2_with (first | ((with_reducible refine gc_ 51 ?_); refine gl_ (some 6) Try.func51 #[.int .i64 a0_0, .int .i64 1, .int .i64 1000000] ?_; (with_reducible refine (spec_l01In.calls A4.out).mono ?_); rintro e w' ⟨rfl, ⟨nd, rfl⟩⟩; refine ⟨_, rfl, ?_⟩))
   go_meet
   case rel => exact ⟨_, (true), (by first | rfl | (simp; done) | (simp [*]; done)), H', ⟨by first | omega | exact Nat.le_refl _⟩, ⟨bu_ BK148.out⟩, ⟨be_ HB.out⟩⟩
 case rest =>
  clear HC2; (try clear c1); (try clear p2); (try clear c5); (try clear p6); (try clear c7); (try clear c9); (try clear c11); (try clear c15); (try clear hcz13); (try clear hcz14); (try clear hcz15); (try clear hcz16); (try clear hcz17); obtain ⟨kq, x36_1, rfl, HA, HJ1, BK148, HB⟩ := hcut
  cases kq with
  | zero => exact absurd HA.out (by simp [spec_TaskOk.j0])
  | succ kj1 =>
   have H := HA.out; clear HA; simp only [spec_TaskOk.j0] at H
   by_cases c18 : x36_1 = true
   ·
    subst c18; rw [if_pos rfl] at H; obtain rfl := Option.some.inj H
    go_wp2
    go_ret
    exact rt_ HB.out
   ·
    replace c18 := Bool.eq_false_iff.mpr c18; subst c18; have H1 : (spec_TaskOk.l0 kj1 0 a0_0 l0_1 a0_2 a0_3 a0_4) = some r := by rw [if_neg (show ¬ (false = true) by decide)] at H; exact H
    clear H; have H := H1; clear H1; have H' := Aside0.mk H; clear H
    go_wp2
    go_loopg [3] kj1 (fun kq v3 w' => ∃ (x3_2 : Int), v3 = .int .i64 x3_2 ∧ Aside0 (spec_TaskOk.l0 kq x3_2 a0_0 l0_1 a0_2 a0_3 a0_4 = some r) ∧ Aside0 (kq ≤ kj1) ∧ Aside0 (w'.heap[gb148]? = some (.cells #[.int .i64 a0_0, (.slice A0_1 l0_1.length c0_1), .int .i64 a0_2, .int .i64 a0_3, .int .i64 a0_4] 27 (0, 0))) ∧ Aside0 (Below w.heap.size w w'))
    case atStart => exact ⟨(0), (by first | rfl | (simp; done) | (simp [*]; done)), H', ⟨Nat.le_refl _⟩, ⟨bu_ BK148.out⟩, ⟨be_ HB.out⟩⟩
    case round =>
     clear H'; (try clear c1); (try clear p2); (try clear c5); (try clear p6); (try clear c7); (try clear c9); (try clear c11); (try clear c15); (try clear c18); (try clear hcz13); (try clear hcz14); (try clear hcz15); (try clear hcz16); (try clear hcz17); (try clear p2); (try clear p6); obtain ⟨x3_2, rfl, HA, HK2, BK148, HB⟩ := hrel
     cases gk with
     | zero => exact absurd HA.out (by simp [spec_TaskOk.l0])
     | succ k2 =>
      have H := HA.out; clear HA; simp only [spec_TaskOk.l0] at H
      by_cases c19 : x3_2 < (l0_1.length : Int)
      ·
       rw [if_pos c19] at H; have c19b0 : decide (x3_2 < (l0_1.length : Int)) = true := decide_eq_true c19; clear c19
       by_cases c20 : 0 ≤ x3_2
       ·
        rw [if_pos c20] at H; have c20b0 : decide (0 ≤ x3_2) = true := decide_eq_true c20; clear c20; obtain ⟨t155, A21, H⟩ := bo_ H; (try dsimp only at H)
        by_cases c22 : t155 = true
        ·
         subst c22; rw [if_pos rfl] at H; have H' := Aside0.mk H; clear H; have hcz23 := box5_ BK148.out; have p154 : 0 ≤ (x3_2 : Int) := od_; have q154 : x3_2 < (l0_1.length : Int) := od_; obtain ⟨ad154, e154, hx154_0⟩ := Kd.at_int HR0_1.out x3_2 p154 q154
         cases e154
         replace hx154_0 := cw_ HB.out hx154_0; replace p154 := eq_true p154; replace q154 := eq_true q154
         go_wp2_with (first | ((with_reducible refine gc_ 51 ?_); refine gl_ (some 49) Try.func51 #[.int .i64 (rd l0_1 x3_2), .int .i64 1, .int .i64 1000] ?_; (with_reducible refine (spec_l01In.calls A21.out).mono ?_); rintro e w' ⟨rfl, ⟨nd, rfl⟩⟩; refine ⟨_, rfl, ?_⟩))
         go_roundg k2
         case measure => have := HJ1.out; have := HK2.out; omega
         case rel => exact ⟨(wrap64 (x3_2 + 1)), (by first | rfl | (simp; done) | (simp [*]; done)), H', ⟨by have := HJ1.out; have := HK2.out; omega⟩, ⟨bu_ BK148.out⟩, ⟨be_ HB.out⟩⟩
        ·
         replace c22 := Bool.eq_false_iff.mpr c22; subst c22; have H1 : (some false) = some r := by rw [if_neg (show ¬ (false = true) by decide)] at H; exact H
         clear H; have H := H1; clear H1; obtain rfl := Option.some.inj H; have hcz24 := box5_ BK148.out; have p154 : 0 ≤ (x3_2 : Int) := od_; have q154 : x3_2 < (l0_1.length : Int) := od_; obtain ⟨ad154, e154, hx154_0⟩ := Kd.at_int HR0_1.out x3_2 p154 q154
         cases e154
         replace hx154_0 := cw_ HB.out hx154_0; replace p154 := eq_true p154; replace q154 := eq_true q154
         go_wp2_with (first | ((with_reducible refine gc_ 51 ?_); refine gl_ (some 49) Try.func51 #[.int .i64 (rd l0_1 x3_2), .int .i64 1, .int .i64 1000] ?_; (with_reducible refine (spec_l01In.calls A21.out).mono ?_); rintro e w' ⟨rfl, ⟨nd, rfl⟩⟩; refine ⟨_, rfl, ?_⟩))
         go_ret
         exact rt_ HB.out
       ·
        rw [if_neg c20] at H; exact absurd H (by simp)
      ·
       rw [if_neg c19] at H; have c19b0 : decide (x3_2 < (l0_1.length : Int)) = false := decide_eq_false c19; clear c19; obtain rfl := Option.some.inj H; have hcz25 := box5_ BK148.out
       go_wp2
       go_ret
       exact rt_ HB.out

/-! ### spec_l07At: function 59 -/
def spec_l07At.l0 : Nat → Int → Int → Int → Int → Int → List (S27) → Int → Int → Int → Int → Option (Int)
 | 0, _, _, _, _, _, _, _, _, _, _ => none
 | k + 1, x1, x5, x157000, x157001, x157002, x157003, x157004, x157005, x157006, x157007 => if x5 < (x157003.length : Int) then (if 0 ≤ x5 then (if ((rd_T27 x157003 x5).f0) = x1 then (some x5) else (spec_l07At.l0 k x1 (wrap64 (x5 + 1)) x157000 x157001 x157002 x157003 x157004 x157005 x157006 x157007)) else (none)) else (some (-1))
def spec_l07At.f (k : Nat) (a0_0 : Int) (a0_1 : Int) (a0_2 : Int) (l0_3 : List (S27)) (a0_4 : Int) (a0_5 : Int) (a0_6 : Int) (a0_7 : Int) (a1 : Int) : Option (Int) := spec_l07At.l0 k a1 0 a0_0 a0_1 a0_2 l0_3 a0_4 a0_5 a0_6 a0_7
set_option maxHeartbeats 8000000 in
set_option maxRecDepth 100000 in
theorem spec_l07At.calls {k : Nat} {a0_0 : Int} {a0_1 : Int} {a0_2 : Int} {A0_3 : Option Addr} {c0_3 : Nat} {l0_3 : List (S27)} {a0_4 : Int} {a0_5 : Int} {a0_6 : Int} {a0_7 : Int} {a1 : Int} {r : Int} {w : World} (hr0_3 : Kd.C k27 w A0_3 l0_3.length l0_3) (hc0_3 : l0_3.length ≤ c0_3) (h : spec_l07At.f k a0_0 a0_1 a0_2 l0_3 a0_4 a0_5 a0_6 a0_7 a1 = some r) :
  Calls Try.prog 59 #[.agg #[.int .i64 a0_0, .int .i64 a0_1, .int .i64 a0_2, .slice A0_3 l0_3.length c0_3, .int .i64 a0_4, .int .i64 a0_5, .int .i64 a0_6, .int .i64 a0_7], .int .i64 a1] w fun e w' => e = .returned (.int .i64 r) ∧ Below w.heap.size w w' := by
 have hu38 := Try.underlying38; have HR0_3 := Aside0.mk hr0_3; have HC0_3 := Aside0.mk hc0_3; clear hr0_3 hc0_3; have HB := Aside0.mk (Below.refl w.heap.size w); have H : (spec_l07At.l0 k a1 0 a0_0 a0_1 a0_2 l0_3 a0_4 a0_5 a0_6 a0_7) = some r := h; clear h; have H' := Aside0.mk H; clear H
 go_enter Try.func59, Try.ntmps59
 go_wp2_with (first | ((with_reducible refine gate_dst (N := 2) rfl ?_); refine bz_ 2 ?_; intro gb156 hg w3 hbox hb; obtain ⟨BK156, GW156, GE156, HB⟩ := nb_ hg hbox HB hb; clear hb hbox hg))
 (try simp only [Act.put, List.setIfInBounds_toArray, List.set_cons_zero, List.set_cons_succ])
 go_loopg [5] k (fun kq v5 w' => ∃ (x5_1 : Int), v5 = .int .i64 x5_1 ∧ Aside0 (spec_l07At.l0 kq a1 x5_1 a0_0 a0_1 a0_2 l0_3 a0_4 a0_5 a0_6 a0_7 = some r) ∧ Aside0 (kq ≤ k) ∧ Aside0 (w'.heap[gb156]? = some (.cells #[.int .i64 a0_0, .int .i64 a0_1, .int .i64 a0_2, (.slice A0_3 l0_3.length c0_3), .int .i64 a0_4, .int .i64 a0_5, .int .i64 a0_6, .int .i64 a0_7] 38 (0, 0))) ∧ Aside0 (Below w.heap.size w w'))
 case atStart => exact ⟨(0), (by first | rfl | (simp; done) | (simp [*]; done)), H', ⟨Nat.le_refl _⟩, ⟨bu_ BK156.out⟩, ⟨be_ HB.out⟩⟩
 case round =>
  clear H'; (try clear p2); obtain ⟨x5_1, rfl, HA, HK1, BK156, HB⟩ := hrel
  cases gk with
  | zero => exact absurd HA.out (by simp [spec_l07At.l0])
  | succ k1 =>
   have H := HA.out; clear HA; simp only [spec_l07At.l0] at H
   by_cases c4 : x5_1 < (l0_3.length : Int)
   ·
    rw [if_pos c4] at H; have c4b0 : decide (x5_1 < (l0_3.length : Int)) = true := decide_eq_true c4; clear c4
    by_cases c5 : 0 ≤ x5_1
    ·
     rw [if_pos c5] at H; have c5b0 : decide (0 ≤ x5_1) = true := decide_eq_true c5; clear c5
     by_cases c6 : ((rd_T27 l0_3 x5_1).f0) = a1
     ·
      rw [if_pos c6] at H; have c6b0 : (((rd_T27 l0_3 x5_1).f0) == a1) = true := beq_iff_eq.mpr c6; have c6b1 : (((rd_T27 l0_3 x5_1).f0) != a1) = false := bne_eq_false_iff_eq.mpr c6; clear c6; obtain rfl := Option.some.inj H; have hcz7 := box8_ BK156.out; have p157 : 0 ≤ (x5_1 : Int) := od_; have q157 : x5_1 < (l0_3.length : Int) := od_; obtain ⟨ad157, A157_1, c157_1, e157, hx157_0, hx157_1, hx157_2, hx157_3, hx157_4, hl157_1, hi157_1⟩ := at_T27 HR0_3.out x5_1 p157 q157
      cases e157
      replace hx157_0 := cw_ HB.out hx157_0; replace hx157_1 := cw_ HB.out hx157_1; replace hx157_2 := cw_ HB.out hx157_2; replace hx157_3 := cw_ HB.out hx157_3; replace hx157_4 := cw_ HB.out hx157_4; have HR157_1 := Aside0.mk hi157_1; have HC157_1 := Aside0.mk hl157_1; clear hi157_1 hl157_1; replace p157 := eq_true p157; replace q157 := eq_true q157
      go_wp2
      go_ret
      exact rt_ HB.out
     ·
      rw [if_neg c6] at H; have c6b0 : (((rd_T27 l0_3 x5_1).f0) == a1) = false := beq_eq_false_iff_ne.mpr c6; have c6b1 : (((rd_T27 l0_3 x5_1).f0) != a1) = true := bne_iff_ne.mpr c6; have H' := Aside0.mk H; clear H; have hcz8 := box8_ BK156.out; have p157 : 0 ≤ (x5_1 : Int) := od_; have q157 : x5_1 < (l0_3.length : Int) := od_; obtain ⟨ad157, A157_1, c157_1, e157, hx157_0, hx157_1, hx157_2, hx157_3, hx157_4, hl157_1, hi157_1⟩ := at_T27 HR0_3.out x5_1 p157 q157
      cases e157
      replace hx157_0 := cw_ HB.out hx157_0; replace hx157_1 := cw_ HB.out hx157_1; replace hx157_2 := cw_ HB.out hx157_2; replace hx157_3 := cw_ HB.out hx157_3; replace hx157_4 := cw_ HB.out hx157_4; have HR157_1 := Aside0.mk hi157_1; have HC157_1 := Aside0.mk hl157_1; clear hi157_1 hl157_1; replace p157 := eq_true p157; replace q157 := eq_true q157
      go_wp2
      go_roundg k1
      case measure => have := HK1.out; omega
      case rel => exact ⟨(wrap64 (x5_1 + 1)), (by first | rfl | (simp; done) | (simp [*]; done)), H', ⟨by have := HK1.out; omega⟩, ⟨bu_ BK156.out⟩, ⟨be_ HB.out⟩⟩
    ·
     rw [if_neg c5] at H; exact absurd H (by simp)
   ·
    rw [if_neg c4] at H; have c4b0 : decide (x5_1 < (l0_3.length : Int)) = false := decide_eq_false c4; clear c4; obtain rfl := Option.some.inj H; have hcz9 := box8_ BK156.out
    go_wp2
    go_ret
    exact rt_ HB.out

end Go.Proofs.Ytljboinndpnefaa.QFnExactPickNext
