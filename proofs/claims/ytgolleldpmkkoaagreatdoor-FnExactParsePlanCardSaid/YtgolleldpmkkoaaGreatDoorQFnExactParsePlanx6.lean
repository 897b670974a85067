/- The Go functions that the statement FnExactParsePlan reaches, as Lean functions, each with a proof that the call does what its function says; laid by a program of this session. No condition. -/
import Derived.Test.YtgolleldpmkkoaaGreatDoorQFnExactParsePlanx0
import Derived.Test.YtgolleldpmkkoaaGreatDoorQFnExactParsePlanx3
import Derived.Test.YtgolleldpmkkoaaGreatDoorQFnExactParsePlanx5
namespace Go.Proofs.YtgolleldpmkkoaaGreatDoor.QFnExactParsePlan
open Go.RowKit Go.Proofs.YtgolleldpmkkoaaGreatDoorW.PrintWords Go.Proofs.YtgolleldpmkkoaaGreatDoorW.PrintLast Go.Proofs.YtgolleldpmkkoaaGreatDoorW.PrintMore
attribute [local go_sem] max2_int min2_int max_two min_two max_three min_three max_four min_four   -- for this text's walks alone
set_option linter.unusedVariables false
set_option linter.unusedSimpArgs false

def laws_eqLayerS.l0 : Nat → List (S55) → List (S55) → Int → Option (Bool)
 | 0, _, _, _ => none
 | k + 1, x0, x1, x5 => if x5 < (x0.length : Int) then (if 0 ≤ x5 then (if x5 < (x1.length : Int) then ((laws_eqLayer.f k ((rd_T55 x0 x5).f0) ((rd_T55 x0 x5).f1) ((rd_T55 x0 x5).f2) ((rd_T55 x0 x5).f3) ((rd_T55 x0 x5).f4) ((rd_T55 x0 x5).f5) ((rd_T55 x0 x5).f6) ((rd_T55 x0 x5).f7) ((rd_T55 x0 x5).f8) ((rd_T55 x1 x5).f0) ((rd_T55 x1 x5).f1) ((rd_T55 x1 x5).f2) ((rd_T55 x1 x5).f3) ((rd_T55 x1 x5).f4) ((rd_T55 x1 x5).f5) ((rd_T55 x1 x5).f6) ((rd_T55 x1 x5).f7) ((rd_T55 x1 x5).f8)).bind fun t493 => (if t493 = true then (laws_eqLayerS.l0 k x0 x1 (wrap64 (x5 + 1))) else (some false))) else (none)) else (none)) else (some true)
def laws_eqLayerS.f (k : Nat) (l0 : List (S55)) (l1 : List (S55)) : Option (Bool) := if (l0.length : Int) = (l1.length : Int) then (laws_eqLayerS.l0 k l0 l1 0) else (some false)
def laws_eqLayerS.T6 : Bool × List (List Nat × List Nat) := (true, [([], []), ([], []), ([0, 1], [0, 1]), ([2], [2]), ([], []), ([], []), ([4, 5], [4, 5]), ([6], [6]), ([3, 7], [3, 7]), ([8], [8])])
def laws_eqLayerS.B6 : List Nat := [0, 0, 3, 7, 0, 0, 48, 112, 255, 511]
theorem laws_eqLayerS.tab6 : rtab .any (opsOf Tryz.f34 6) = laws_eqLayerS.T6 := by kernel_rfl
theorem laws_eqLayerS.bits6 : waitsOk laws_eqLayerS.T6.2 laws_eqLayerS.B6 = true := by kernel_rfl
set_option maxHeartbeats 8000000 in
set_option maxRecDepth 100000 in
theorem laws_eqLayerS.calls {k : Nat} {A0 : Option Addr} {c0 : Nat} {l0 : List (S55)} {A1 : Option Addr} {c1 : Nat} {l1 : List (S55)} {r : Bool} {w : World} (hr0 : Kd.C k55 w A0 l0.length l0) (hc0 : l0.length ≤ c0) (hr1 : Kd.C k55 w A1 l1.length l1) (hc1 : l1.length ≤ c1) (h : laws_eqLayerS.f k l0 l1 = some r) :
  Calls Tryz.prog 34 #[.slice A0 l0.length c0, .slice A1 l1.length c1] w fun e w' => e = .returned (.bool r) ∧ Below w.heap.size w w' := by
 have hu55 := Tryz.underlying55; have HR0 := Aside0.mk hr0; have HC0 := Aside0.mk hc0; clear hr0 hc0; have HR1 := Aside0.mk hr1; have HC1 := Aside0.mk hc1; clear hr1 hc1; have HB := Aside0.mk (Below.refl w.heap.size w); have H : (if (l0.length : Int) = (l1.length : Int) then (laws_eqLayerS.l0 k l0 l1 0) else (some false)) = some r := h; clear h
 by_cases c3 : (l0.length : Int) = (l1.length : Int)
 ·
  rw [if_pos c3] at H; have c3b0 : ((l0.length : Int) == (l1.length : Int)) = true := eq1_ c3; have c3b1 : ((l0.length : Int) != (l1.length : Int)) = false := ne0_ c3; have c3b2 : (l0.length == l1.length) = true := by first | simpa using c3 | (simp at c3 ⊢; omega)
  clear c3; have H' := Aside0.mk H; clear H
  go_enter Tryz.func34, Tryz.ntmps34
  go_wp2
  go_loopg [5] k (fun kq v5 w' => ∃ (x5_1 : Int), v5 = .int .i64 x5_1 ∧ Aside0 (laws_eqLayerS.l0 kq l0 l1 x5_1 = some r) ∧ Aside0 (kq ≤ k) ∧ Aside0 (Below w.heap.size w w'))
  case atStart => exact ⟨(0), rl_, H', ⟨Nat.le_refl _⟩, ⟨be_ HB.out⟩⟩
  case round =>
   clear H'; (try clear c1); (try clear p2); (try clear c3); (try clear c3b0); (try clear c3b1); (try clear c3b2); obtain ⟨x5_1, rfl, HA, HK1, HB⟩ := hrel
   cases gk with
   | zero => exact absurd HA.out (by simp [laws_eqLayerS.l0])
   | succ k1 =>
    have H := HA.out; clear HA; simp only [laws_eqLayerS.l0] at H
    by_cases c4 : x5_1 < (l0.length : Int)
    ·
     rw [if_pos c4] at H; have c4b0 : decide (x5_1 < (l0.length : Int)) = true := dt_ c4; clear c4
     by_cases c5 : 0 ≤ x5_1
     ·
      rw [if_pos c5] at H; have c5b0 : decide (0 ≤ x5_1) = true := dt_ c5; clear c5
      by_cases c6 : x5_1 < (l1.length : Int)
      ·
       rw [if_pos c6] at H; have c6b0 : decide (x5_1 < (l1.length : Int)) = true := dt_ c6; clear c6; obtain ⟨t493, A7, H⟩ := bo_ H; (try dsimp only at H)
       by_cases c8 : t493 = true
       ·
        subst c8; rw [if_pos rfl] at H; have H' := Aside0.mk H; clear H
        try go_wp2
        replace HB := Aside0.mk (below_drew1 HB.out); have p491 : 0 ≤ (x5_1 : Int) := od_; have q491 : x5_1 < (l0.length : Int) := od_; obtain ⟨ad491, A491_7, c491_7, A491_8, c491_8, e491, hx491_0, hx491_1, hx491_2, hx491_3, hx491_4, hx491_5, hx491_6, hx491_7, hx491_8, hl491_7, hi491_7, hl491_8, hi491_8⟩ := at_T55 HR0.out x5_1 p491 q491; have hw491_8 := hx491_8; have hw491_7 := hx491_7; have hw491_6 := hx491_6; have hw491_5 := hx491_5; have hw491_4 := hx491_4; have hw491_3 := hx491_3; have hw491_2 := hx491_2; have hw491_1 := hx491_1; have hw491_0 := hx491_0
        cases e491
        replace hx491_0 := cw_ HB.out hx491_0; replace hx491_1 := cw_ HB.out hx491_1; replace hx491_2 := cw_ HB.out hx491_2; replace hx491_3 := cw_ HB.out hx491_3; replace hx491_4 := cw_ HB.out hx491_4; replace hx491_5 := cw_ HB.out hx491_5; replace hx491_6 := cw_ HB.out hx491_6; replace hx491_7 := cw_ HB.out hx491_7; replace hx491_8 := cw_ HB.out hx491_8; have HR491_7 := Aside0.mk hi491_7; have HC491_7 := Aside0.mk hl491_7; clear hi491_7 hl491_7; have HR491_8 := Aside0.mk hi491_8; have HC491_8 := Aside0.mk hl491_8; clear hi491_8 hl491_8; replace p491 := eq_true p491; replace q491 := eq_true q491; have p492 : 0 ≤ (x5_1 : Int) := od_; have q492 : x5_1 < (l1.length : Int) := od_; obtain ⟨ad492, A492_7, c492_7, A492_8, c492_8, e492, hx492_0, hx492_1, hx492_2, hx492_3, hx492_4, hx492_5, hx492_6, hx492_7, hx492_8, hl492_7, hi492_7, hl492_8, hi492_8⟩ := at_T55 HR1.out x5_1 p492 q492; have hw492_8 := hx492_8; have hw492_7 := hx492_7; have hw492_6 := hx492_6; have hw492_5 := hx492_5; have hw492_4 := hx492_4; have hw492_3 := hx492_3; have hw492_2 := hx492_2; have hw492_1 := hx492_1; have hw492_0 := hx492_0
        cases e492
        replace hx492_0 := cw_ HB.out hx492_0; replace hx492_1 := cw_ HB.out hx492_1; replace hx492_2 := cw_ HB.out hx492_2; replace hx492_3 := cw_ HB.out hx492_3; replace hx492_4 := cw_ HB.out hx492_4; replace hx492_5 := cw_ HB.out hx492_5; replace hx492_6 := cw_ HB.out hx492_6; replace hx492_7 := cw_ HB.out hx492_7; replace hx492_8 := cw_ HB.out hx492_8; have HR492_7 := Aside0.mk hi492_7; have HC492_7 := Aside0.mk hl492_7; clear hi492_7 hl492_7; have HR492_8 := Aside0.mk hi492_8; have HC492_8 := Aside0.mk hl492_8; clear hi492_8 hl492_8; replace p492 := eq_true p492; replace q492 := eq_true q492; refine sta_ 10 (fun w' => w'.cell? (ad491.add ((x5_1).toNat * 9)) = some (.int .i64 ((rd_T55 l0 x5_1).f0)) ∧ CF_ w' (ad491.add ((x5_1).toNat * 9)) 1 (.int .i64 ((rd_T55 l0 x5_1).f1)) ∧ CF_ w' (ad491.add ((x5_1).toNat * 9)) 2 (.int .i64 ((rd_T55 l0 x5_1).f2)) ∧ CF_ w' (ad491.add ((x5_1).toNat * 9)) 3 (.int .i64 ((rd_T55 l0 x5_1).f3)) ∧ CF_ w' (ad491.add ((x5_1).toNat * 9)) 4 (.int .i64 ((rd_T55 l0 x5_1).f4)) ∧ CF_ w' (ad491.add ((x5_1).toNat * 9)) 5 (.int .i64 ((rd_T55 l0 x5_1).f5)) ∧ CF_ w' (ad491.add ((x5_1).toNat * 9)) 6 (.int .i64 ((rd_T55 l0 x5_1).f6)) ∧ CF_ w' (ad491.add ((x5_1).toNat * 9)) 7 (.slice A491_7 ((rd_T55 l0 x5_1).f7).length c491_7) ∧ CF_ w' (ad491.add ((x5_1).toNat * 9)) 8 (.slice A491_8 ((rd_T55 l0 x5_1).f8).length c491_8) ∧ w'.cell? (ad492.add ((x5_1).toNat * 9)) = some (.int .i64 ((rd_T55 l1 x5_1).f0)) ∧ CF_ w' (ad492.add ((x5_1).toNat * 9)) 1 (.int .i64 ((rd_T55 l1 x5_1).f1)) ∧ CF_ w' (ad492.add ((x5_1).toNat * 9)) 2 (.int .i64 ((rd_T55 l1 x5_1).f2)) ∧ CF_ w' (ad492.add ((x5_1).toNat * 9)) 3 (.int .i64 ((rd_T55 l1 x5_1).f3)) ∧ CF_ w' (ad492.add ((x5_1).toNat * 9)) 4 (.int .i64 ((rd_T55 l1 x5_1).f4)) ∧ CF_ w' (ad492.add ((x5_1).toNat * 9)) 5 (.int .i64 ((rd_T55 l1 x5_1).f5)) ∧ CF_ w' (ad492.add ((x5_1).toNat * 9)) 6 (.int .i64 ((rd_T55 l1 x5_1).f6)) ∧ CF_ w' (ad492.add ((x5_1).toNat * 9)) 7 (.slice A492_7 ((rd_T55 l1 x5_1).f7).length c492_7) ∧ CF_ w' (ad492.add ((x5_1).toNat * 9)) 8 (.slice A492_8 ((rd_T55 l1 x5_1).f8).length c492_8)) ⟨(cw_ HB.out hw491_0), (cw_ HB.out hw491_1), (cw_ HB.out hw491_2), (cw_ HB.out hw491_3), (cw_ HB.out hw491_4), (cw_ HB.out hw491_5), (cw_ HB.out hw491_6), (cw_ HB.out hw491_7), (cw_ HB.out hw491_8), (cw_ HB.out hw492_0), (cw_ HB.out hw492_1), (cw_ HB.out hw492_2), (cw_ HB.out hw492_3), (cw_ HB.out hw492_4), (cw_ HB.out hw492_5), (cw_ HB.out hw492_6), (cw_ HB.out hw492_7), (cw_ HB.out hw492_8)⟩ (fun hHeld => ?_); refine with_tabW laws_eqLayerS.tab6 laws_eqLayerS.bits6 (fun HT_ HW_ => ?_); generalize wr.drew = w9 at HB HR491_7 HR491_8 HR492_7 HR492_8 hx491_0 hx491_1 hx491_2 hx491_3 hx491_4 hx491_5 hx491_6 hx491_7 hx491_8 hx492_0 hx492_1 hx492_2 hx492_3 hx492_4 hx492_5 hx492_6 hx492_7 hx492_8 hHeld ⊢; refine pv_ 0 10 1 ?_; refine pv_ 1 10 3 ?_; refine pv_ 2 10 7 ?_; refine pv_ 4 10 23 ?_; refine pv_ 5 10 55 ?_; refine pv_ 6 10 119 ?_; refine tv_ 3 10 127 ?_; refine tv_ 7 10 255 ?_; refine one_ (i := 8) (N := some 25) (bl_ 10 511) rfl rfl (one_of HT_.out (by kernel_rfl)) (by decide) (fun K hK => ?_); refine gv_ Tryz.func75 ?_
        (with_reducible refine (laws_eqLayer.calls ?_ ?_ ?_ ?_ ?_ ?_ ?_ ?_ A7.out).mono ?_); exact cu_ HR491_7.out HB.out; exact HC491_7.out; exact cu_ HR491_8.out HB.out; exact HC491_8.out; exact cu_ HR492_7.out HB.out; exact HC492_7.out; exact cu_ HR492_8.out HB.out; exact HC492_8.out; rintro e w10 ⟨rfl, hb⟩; refine ⟨_, rfl, ?_⟩; replace HB := hb_ HB hb; (try clear hb); refine hK.out _ _ ⟨(cw_ HB.out hw491_0), (cw_ HB.out hw491_1), (cw_ HB.out hw491_2), (cw_ HB.out hw491_3), (cw_ HB.out hw491_4), (cw_ HB.out hw491_5), (cw_ HB.out hw491_6), (cw_ HB.out hw491_7), (cw_ HB.out hw491_8), (cw_ HB.out hw492_0), (cw_ HB.out hw492_1), (cw_ HB.out hw492_2), (cw_ HB.out hw492_3), (cw_ HB.out hw492_4), (cw_ HB.out hw492_5), (cw_ HB.out hw492_6), (cw_ HB.out hw492_7), (cw_ HB.out hw492_8)⟩ (fun hHeld => ?_); clear hK K; refine nm_ 25 (h := ?_); refine pv_ 9 10 1023 ?_; refine done_ (done_of HT_.out (by kernel_rfl)) ?_
        try go_wp2
        go_roundg k1
        case measure => have := HK1.out; omega
        case rel => exact ⟨(wrap64 (x5_1 + 1)), rl_, H', ⟨by have := HK1.out; omega⟩, ⟨be_ HB.out⟩⟩
       ·
        replace c8 := fb_ c8; subst c8; replace H := if0_ H
        obtain rfl := oi_ H
        try go_wp2
        replace HB := Aside0.mk (below_drew1 HB.out); have p491 : 0 ≤ (x5_1 : Int) := od_; have q491 : x5_1 < (l0.length : Int) := od_; obtain ⟨ad491, A491_7, c491_7, A491_8, c491_8, e491, hx491_0, hx491_1, hx491_2, hx491_3, hx491_4, hx491_5, hx491_6, hx491_7, hx491_8, hl491_7, hi491_7, hl491_8, hi491_8⟩ := at_T55 HR0.out x5_1 p491 q491; have hw491_8 := hx491_8; have hw491_7 := hx491_7; have hw491_6 := hx491_6; have hw491_5 := hx491_5; have hw491_4 := hx491_4; have hw491_3 := hx491_3; have hw491_2 := hx491_2; have hw491_1 := hx491_1; have hw491_0 := hx491_0
        cases e491
        replace hx491_0 := cw_ HB.out hx491_0; replace hx491_1 := cw_ HB.out hx491_1; replace hx491_2 := cw_ HB.out hx491_2; replace hx491_3 := cw_ HB.out hx491_3; replace hx491_4 := cw_ HB.out hx491_4; replace hx491_5 := cw_ HB.out hx491_5; replace hx491_6 := cw_ HB.out hx491_6; replace hx491_7 := cw_ HB.out hx491_7; replace hx491_8 := cw_ HB.out hx491_8; have HR491_7 := Aside0.mk hi491_7; have HC491_7 := Aside0.mk hl491_7; clear hi491_7 hl491_7; have HR491_8 := Aside0.mk hi491_8; have HC491_8 := Aside0.mk hl491_8; clear hi491_8 hl491_8; replace p491 := eq_true p491; replace q491 := eq_true q491; have p492 : 0 ≤ (x5_1 : Int) := od_; have q492 : x5_1 < (l1.length : Int) := od_; obtain ⟨ad492, A492_7, c492_7, A492_8, c492_8, e492, hx492_0, hx492_1, hx492_2, hx492_3, hx492_4, hx492_5, hx492_6, hx492_7, hx492_8, hl492_7, hi492_7, hl492_8, hi492_8⟩ := at_T55 HR1.out x5_1 p492 q492; have hw492_8 := hx492_8; have hw492_7 := hx492_7; have hw492_6 := hx492_6; have hw492_5 := hx492_5; have hw492_4 := hx492_4; have hw492_3 := hx492_3; have hw492_2 := hx492_2; have hw492_1 := hx492_1; have hw492_0 := hx492_0
        cases e492
        replace hx492_0 := cw_ HB.out hx492_0; replace hx492_1 := cw_ HB.out hx492_1; replace hx492_2 := cw_ HB.out hx492_2; replace hx492_3 := cw_ HB.out hx492_3; replace hx492_4 := cw_ HB.out hx492_4; replace hx492_5 := cw_ HB.out hx492_5; replace hx492_6 := cw_ HB.out hx492_6; replace hx492_7 := cw_ HB.out hx492_7; replace hx492_8 := cw_ HB.out hx492_8; have HR492_7 := Aside0.mk hi492_7; have HC492_7 := Aside0.mk hl492_7; clear hi492_7 hl492_7; have HR492_8 := Aside0.mk hi492_8; have HC492_8 := Aside0.mk hl492_8; clear hi492_8 hl492_8; replace p492 := eq_true p492; replace q492 := eq_true q492; refine sta_ 10 (fun w' => w'.cell? (ad491.add ((x5_1).toNat * 9)) = some (.int .i64 ((rd_T55 l0 x5_1).f0)) ∧ CF_ w' (ad491.add ((x5_1).toNat * 9)) 1 (.int .i64 ((rd_T55 l0 x5_1).f1)) ∧ CF_ w' (ad491.add ((x5_1).toNat * 9)) 2 (.int .i64 ((rd_T55 l0 x5_1).f2)) ∧ CF_ w' (ad491.add ((x5_1).toNat * 9)) 3 (.int .i64 ((rd_T55 l0 x5_1).f3)) ∧ CF_ w' (ad491.add ((x5_1).toNat * 9)) 4 (.int .i64 ((rd_T55 l0 x5_1).f4)) ∧ CF_ w' (ad491.add ((x5_1).toNat * 9)) 5 (.int .i64 ((rd_T55 l0 x5_1).f5)) ∧ CF_ w' (ad491.add ((x5_1).toNat * 9)) 6 (.int .i64 ((rd_T55 l0 x5_1).f6)) ∧ CF_ w' (ad491.add ((x5_1).toNat * 9)) 7 (.slice A491_7 ((rd_T55 l0 x5_1).f7).length c491_7) ∧ CF_ w' (ad491.add ((x5_1).toNat * 9)) 8 (.slice A491_8 ((rd_T55 l0 x5_1).f8).length c491_8) ∧ w'.cell? (ad492.add ((x5_1).toNat * 9)) = some (.int .i64 ((rd_T55 l1 x5_1).f0)) ∧ CF_ w' (ad492.add ((x5_1).toNat * 9)) 1 (.int .i64 ((rd_T55 l1 x5_1).f1)) ∧ CF_ w' (ad492.add ((x5_1).toNat * 9)) 2 (.int .i64 ((rd_T55 l1 x5_1).f2)) ∧ CF_ w' (ad492.add ((x5_1).toNat * 9)) 3 (.int .i64 ((rd_T55 l1 x5_1).f3)) ∧ CF_ w' (ad492.add ((x5_1).toNat * 9)) 4 (.int .i64 ((rd_T55 l1 x5_1).f4)) ∧ CF_ w' (ad492.add ((x5_1).toNat * 9)) 5 (.int .i64 ((rd_T55 l1 x5_1).f5)) ∧ CF_ w' (ad492.add ((x5_1).toNat * 9)) 6 (.int .i64 ((rd_T55 l1 x5_1).f6)) ∧ CF_ w' (ad492.add ((x5_1).toNat * 9)) 7 (.slice A492_7 ((rd_T55 l1 x5_1).f7).length c492_7) ∧ CF_ w' (ad492.add ((x5_1).toNat * 9)) 8 (.slice A492_8 ((rd_T55 l1 x5_1).f8).length c492_8)) ⟨(cw_ HB.out hw491_0), (cw_ HB.out hw491_1), (cw_ HB.out hw491_2), (cw_ HB.out hw491_3), (cw_ HB.out hw491_4), (cw_ HB.out hw491_5), (cw_ HB.out hw491_6), (cw_ HB.out hw491_7), (cw_ HB.out hw491_8), (cw_ HB.out hw492_0), (cw_ HB.out hw492_1), (cw_ HB.out hw492_2), (cw_ HB.out hw492_3), (cw_ HB.out hw492_4), (cw_ HB.out hw492_5), (cw_ HB.out hw492_6), (cw_ HB.out hw492_7), (cw_ HB.out hw492_8)⟩ (fun hHeld => ?_); refine with_tabW laws_eqLayerS.tab6 laws_eqLayerS.bits6 (fun HT_ HW_ => ?_); generalize wr.drew = w11 at HB HR491_7 HR491_8 HR492_7 HR492_8 hx491_0 hx491_1 hx491_2 hx491_3 hx491_4 hx491_5 hx491_6 hx491_7 hx491_8 hx492_0 hx492_1 hx492_2 hx492_3 hx492_4 hx492_5 hx492_6 hx492_7 hx492_8 hHeld ⊢; refine pv_ 0 10 1 ?_; refine pv_ 1 10 3 ?_; refine pv_ 2 10 7 ?_; refine pv_ 4 10 23 ?_; refine pv_ 5 10 55 ?_; refine pv_ 6 10 119 ?_; refine tv_ 3 10 127 ?_; refine tv_ 7 10 255 ?_; refine one_ (i := 8) (N := some 25) (bl_ 10 511) rfl rfl (one_of HT_.out (by kernel_rfl)) (by decide) (fun K hK => ?_); refine gv_ Tryz.func75 ?_
        (with_reducible refine (laws_eqLayer.calls ?_ ?_ ?_ ?_ ?_ ?_ ?_ ?_ A7.out).mono ?_); exact cu_ HR491_7.out HB.out; exact HC491_7.out; exact cu_ HR491_8.out HB.out; exact HC491_8.out; exact cu_ HR492_7.out HB.out; exact HC492_7.out; exact cu_ HR492_8.out HB.out; exact HC492_8.out; rintro e w12 ⟨rfl, hb⟩; refine ⟨_, rfl, ?_⟩; replace HB := hb_ HB hb; (try clear hb); refine hK.out _ _ ⟨(cw_ HB.out hw491_0), (cw_ HB.out hw491_1), (cw_ HB.out hw491_2), (cw_ HB.out hw491_3), (cw_ HB.out hw491_4), (cw_ HB.out hw491_5), (cw_ HB.out hw491_6), (cw_ HB.out hw491_7), (cw_ HB.out hw491_8), (cw_ HB.out hw492_0), (cw_ HB.out hw492_1), (cw_ HB.out hw492_2), (cw_ HB.out hw492_3), (cw_ HB.out hw492_4), (cw_ HB.out hw492_5), (cw_ HB.out hw492_6), (cw_ HB.out hw492_7), (cw_ HB.out hw492_8)⟩ (fun hHeld => ?_); clear hK K; refine nm_ 25 (h := ?_); refine pv_ 9 10 1023 ?_; refine done_ (done_of HT_.out (by kernel_rfl)) ?_
        try go_wp2
        go_ret
        exact rt_ HB.out
      ·
       rw [if_neg c6] at H; exact absurd H (by simp)
     ·
      rw [if_neg c5] at H; exact absurd H (by simp)
    ·
     rw [if_neg c4] at H; have c4b0 : decide (x5_1 < (l0.length : Int)) = false := df_ c4; clear c4; obtain rfl := oi_ H
     go_wp2
     go_ret
     exact rt_ HB.out
 ·
  rw [if_neg c3] at H; have c3b0 : ((l0.length : Int) == (l1.length : Int)) = false := eq0_ c3; have c3b1 : ((l0.length : Int) != (l1.length : Int)) = true := ne1_ c3; have c3b2 : (l0.length == l1.length) = false := by first | simpa using c3 | (simp at c3 ⊢; omega)
  obtain rfl := oi_ H
  go_enter Tryz.func34, Tryz.ntmps34
  go_wp2
  go_ret
  exact rt_ HB.out

def laws_eqModel.f (k : Nat) (a0_0 : Int) (a0_1 : Int) (a0_2 : Int) (l0_3 : List (S55)) (a1_0 : Int) (a1_1 : Int) (a1_2 : Int) (l1_3 : List (S55)) : Option (Bool) := (laws_eqShape.f a0_0 a0_1 a0_2 a1_0 a1_1 a1_2).bind fun t496 => (if t496 = true then ((laws_eqLayerS.f k l0_3 l1_3).bind fun t497 => (if t497 = true then (some true) else (some false))) else (some false))
set_option maxHeartbeats 8000000 in
set_option maxRecDepth 100000 in
theorem laws_eqModel.calls {k : Nat} {a0_0 : Int} {a0_1 : Int} {a0_2 : Int} {A0_3 : Option Addr} {c0_3 : Nat} {l0_3 : List (S55)} {a1_0 : Int} {a1_1 : Int} {a1_2 : Int} {A1_3 : Option Addr} {c1_3 : Nat} {l1_3 : List (S55)} {r : Bool} {w : World} (hr0_3 : Kd.C k55 w A0_3 l0_3.length l0_3) (hc0_3 : l0_3.length ≤ c0_3) (hr1_3 : Kd.C k55 w A1_3 l1_3.length l1_3) (hc1_3 : l1_3.length ≤ c1_3) (h : laws_eqModel.f k a0_0 a0_1 a0_2 l0_3 a1_0 a1_1 a1_2 l1_3 = some r) :
  Calls Tryz.prog 8 #[.agg #[.int .i64 a0_0, .int .i64 a0_1, .int .i64 a0_2, .slice A0_3 l0_3.length c0_3], .agg #[.int .i64 a1_0, .int .i64 a1_1, .int .i64 a1_2, .slice A1_3 l1_3.length c1_3]] w fun e w' => e = .returned (.bool r) ∧ Below w.heap.size w w' := by
 have hu26 := Tryz.underlying26; have hu23 := Tryz.underlying23; have HR0_3 := Aside0.mk hr0_3; have HC0_3 := Aside0.mk hc0_3; clear hr0_3 hc0_3; have HR1_3 := Aside0.mk hr1_3; have HC1_3 := Aside0.mk hc1_3; clear hr1_3 hc1_3; have HB := Aside0.mk (Below.refl w.heap.size w); have H : ((laws_eqShape.f a0_0 a0_1 a0_2 a1_0 a1_1 a1_2).bind fun t496 => (if t496 = true then ((laws_eqLayerS.f k l0_3 l1_3).bind fun t497 => (if t497 = true then (some true) else (some false))) else (some false))) = some r := h; clear h; obtain ⟨t496, A3, H⟩ := bo_ H; (try dsimp only at H)
 by_cases c4 : t496 = true
 ·
  subst c4; rw [if_pos rfl] at H; obtain ⟨t497, A5, H⟩ := bo_ H; (try dsimp only at H)
  by_cases c6 : t497 = true
  ·
   subst c6; rw [if_pos rfl] at H; obtain rfl := oi_ H
   go_enter Tryz.func8, Tryz.ntmps8
   go_wp2_with (first | ((with_reducible refine gate_dst (N := 2) rfl ?_); refine bz_ 2 ?_; intro gb494 hg w7 hbox hb; obtain ⟨BK494, GW494, GE494, HB⟩ := nb_ hg hbox HB hb; clear hb hbox hg) | ((with_reducible refine gate_dst (N := 3) rfl ?_); refine bz_ 3 ?_; intro gb495 hg w8 hbox hb; obtain ⟨BK495, GW495, GE495, HB⟩ := nb_ hg hbox HB hb; have NB494_495 := nx_ hg BK494; have NB495_494 := ny_ hg BK494; replace BK494 := bb_ BK494 hb; clear hb hbox hg; have hnb9 := nn_ NB494_495 NB495_494; have hcz10 := box4_ BK494.out; have hcz11 := box4_ BK495.out) | ((with_reducible refine gc_ 33 ?_); refine gw_ (some 9) Tryz.func33 ?_; (with_reducible refine (laws_eqShape.calls A3.out).mono ?_); rintro e w12 ⟨rfl, hb⟩; refine ⟨_, rfl, ?_⟩; replace BK494 := bb_ BK494 hb; replace BK495 := bb_ BK495 hb; replace HB := hb_ HB hb; (try clear hb); have hcz13 := box4_ BK494.out; have hcz14 := box4_ BK495.out) | ((with_reducible refine gc_ 34 ?_); refine gw_ (some 15) Tryz.func34 ?_; (with_reducible refine (laws_eqLayerS.calls ?_ ?_ ?_ ?_ A5.out).mono ?_); exact cu_ HR0_3.out HB.out; exact HC0_3.out; exact cu_ HR1_3.out HB.out; exact HC1_3.out; rintro e w15 ⟨rfl, hb⟩; refine ⟨_, rfl, ?_⟩; replace BK494 := bb_ BK494 hb; replace BK495 := bb_ BK495 hb; replace HB := hb_ HB hb; (try clear hb)))
   go_ret
   exact rt_ HB.out
  ·
   replace c6 := fb_ c6; subst c6; replace H := if0_ H
   obtain rfl := oi_ H
   go_enter Tryz.func8, Tryz.ntmps8
   go_wp2_with (first | ((with_reducible refine gate_dst (N := 2) rfl ?_); refine bz_ 2 ?_; intro gb494 hg w16 hbox hb; obtain ⟨BK494, GW494, GE494, HB⟩ := nb_ hg hbox HB hb; clear hb hbox hg) | ((with_reducible refine gate_dst (N := 3) rfl ?_); refine bz_ 3 ?_; intro gb495 hg w17 hbox hb; obtain ⟨BK495, GW495, GE495, HB⟩ := nb_ hg hbox HB hb; have NB494_495 := nx_ hg BK494; have NB495_494 := ny_ hg BK494; replace BK494 := bb_ BK494 hb; clear hb hbox hg; have hnb18 := nn_ NB494_495 NB495_494; have hcz19 := box4_ BK494.out; have hcz20 := box4_ BK495.out) | ((with_reducible refine gc_ 33 ?_); refine gw_ (some 9) Tryz.func33 ?_; (with_reducible refine (laws_eqShape.calls A3.out).mono ?_); rintro e w21 ⟨rfl, hb⟩; refine ⟨_, rfl, ?_⟩; replace BK494 := bb_ BK494 hb; replace BK495 := bb_ BK495 hb; replace HB := hb_ HB hb; (try clear hb); have hcz22 := box4_ BK494.out; have hcz23 := box4_ BK495.out) | ((with_reducible refine gc_ 34 ?_); refine gw_ (some 15) Tryz.func34 ?_; (with_reducible refine (laws_eqLayerS.calls ?_ ?_ ?_ ?_ A5.out).mono ?_); exact cu_ HR0_3.out HB.out; exact HC0_3.out; exact cu_ HR1_3.out HB.out; exact HC1_3.out; rintro e w24 ⟨rfl, hb⟩; refine ⟨_, rfl, ?_⟩; replace BK494 := bb_ BK494 hb; replace BK495 := bb_ BK495 hb; replace HB := hb_ HB hb; (try clear hb)))
   go_ret
   exact rt_ HB.out
 ·
  replace c4 := fb_ c4; subst c4; replace H := if0_ H
  obtain rfl := oi_ H
  go_enter Tryz.func8, Tryz.ntmps8
  go_wp2_with (first | ((with_reducible refine gate_dst (N := 2) rfl ?_); refine bz_ 2 ?_; intro gb494 hg w25 hbox hb; obtain ⟨BK494, GW494, GE494, HB⟩ := nb_ hg hbox HB hb; clear hb hbox hg) | ((with_reducible refine gate_dst (N := 3) rfl ?_); refine bz_ 3 ?_; intro gb495 hg w26 hbox hb; obtain ⟨BK495, GW495, GE495, HB⟩ := nb_ hg hbox HB hb; have NB494_495 := nx_ hg BK494; have NB495_494 := ny_ hg BK494; replace BK494 := bb_ BK494 hb; clear hb hbox hg; have hnb27 := nn_ NB494_495 NB495_494; have hcz28 := box4_ BK494.out; have hcz29 := box4_ BK495.out) | ((with_reducible refine gc_ 33 ?_); refine gw_ (some 9) Tryz.func33 ?_; (with_reducible refine (laws_eqShape.calls A3.out).mono ?_); rintro e w30 ⟨rfl, hb⟩; refine ⟨_, rfl, ?_⟩; replace BK494 := bb_ BK494 hb; replace BK495 := bb_ BK495 hb; replace HB := hb_ HB hb; (try clear hb)))
  go_ret
  exact rt_ HB.out

def laws_markIntS.l0 : Nat → List Int → Int → Int → Option (Int × List Int)
 | 0, _, _, _ => none
 | k + 1, x0, x1, x5 => if x5 < (x0.length : Int) then (if 0 ≤ x5 then (laws_markIntS.l0 k (x0.set (x5 : Int).toNat x1) (wrap64 (x1 + 1)) (wrap64 (x5 + 1))) else (none)) else (some (x1, x0))
def laws_markIntS.f (k : Nat) (l0 : List Int) (a1 : Int) : Option (Int × List Int) := laws_markIntS.l0 k l0 a1 0
set_option maxHeartbeats 8000000 in
set_option maxRecDepth 100000 in
theorem laws_markIntS.calls {k : Nat} {P0_ : Nat → Prop} {u9000_ : Value} {l0 : List Int} {a1 : Int} {r1 : Int} {r2 : List Int} {w0 w : World} (hB : Below w0.heap.size w0 w) (ho0 : Kd.R (Kd.int .i64) 3 w w0.heap.size P0_ u9000_ l0) (h : laws_markIntS.f k l0 a1 = some (r1, r2)) :
  Calls Tryz.prog 76 #[u9000_, .int .i64 a1] w fun e w' => e = .returned (.int .i64 r1) ∧ Kd.R (Kd.int .i64) 3 w' w0.heap.size (fun k_ => (P0_ k_ ∨ w.heap.size ≤ k_)) u9000_ r2 ∧ Below w0.heap.size w0 w' ∧ Kept w w' (fun k_ => P0_ k_) := by
 have HO0 := Aside0.mk (show Kd.R (Kd.int .i64) 3 w w0.heap.size (fun k_ => (P0_ k_ ∨ w.heap.size ≤ k_)) u9000_ l0 from Kd.R_mono ho0 (fun k_ hk => (.inl hk))); have HK := Aside0.mk (Kept.refl w (fun k_ => P0_ k_)); have HW0 := Aside0.mk hB.size; have HB := Aside0.mk hB; clear hB; have H : (laws_markIntS.l0 k l0 a1 0) = some (r1, r2) := h; clear h; have H' := Aside0.mk H; clear H
 go_enter Tryz.func76, Tryz.ntmps76
 go_wp2
 go_loopg [1, 5] k (fun kq v1 v5 w' => ∃ (x0_1 : List Int) (x1_1 : Int) (x5_1 : Int), v1 = .int .i64 x1_1 ∧ v5 = .int .i64 x5_1 ∧ Aside0 (laws_markIntS.l0 kq x0_1 x1_1 x5_1 = some (r1, r2)) ∧ Aside0 (kq ≤ k) ∧ Aside0 (Kd.R (Kd.int .i64) 3 w' w0.heap.size (fun k_ => (P0_ k_ ∨ w.heap.size ≤ k_)) u9000_ x0_1) ∧ Aside0 (Kept w w' (fun k_ => P0_ k_)) ∧ Aside0 (Below w0.heap.size w0 w'))
 case atStart => exact ⟨(l0), (a1), (0), rl_, rl_, H', ⟨Nat.le_refl _⟩, ⟨ra_ HO0.out⟩, ⟨by repeat (first | (with_reducible first | exact HK.out | apply Kept.alloc | apply Kept.drewN | apply Kept.drew) | exact HK.out)⟩, ⟨be_ HB.out⟩⟩
 case round =>
  clear H'; (try clear p2); obtain ⟨x0_1, x1_1, x5_1, rfl, rfl, HA, HK1, HO_0, HK, HB⟩ := hrel
  cases gk with
  | zero => exact absurd HA.out (by simp [laws_markIntS.l0])
  | succ k1 =>
   have H := HA.out; clear HA; simp only [laws_markIntS.l0] at H
   by_cases c3 : x5_1 < (x0_1.length : Int)
   ·
    rw [if_pos c3] at H; have c3b0 : decide (x5_1 < (x0_1.length : Int)) = true := dt_ c3; clear c3
    by_cases c4 : 0 ≤ x5_1
    ·
     rw [if_pos c4] at H; have c4b0 : decide (0 ≤ x5_1) = true := dt_ c4; clear c4; obtain ⟨y498, hy_⟩ : ∃ y_ : List Int, y_ = (x0_1.set (x5_1 : Int).toNat x1_1) := ⟨_, rfl⟩; replace H : (laws_markIntS.l0 k1 y498 (wrap64 (x1_1 + 1)) (wrap64 (x5_1 + 1))) = some (r1, r2) := yh_
     have Ny498 := Aside0.mk hy_; clear hy_; have H' := Aside0.mk H; clear H; obtain ⟨Ao6, co6, eo6⟩ := Kd.R_slice HO_0.out; subst eo6; have p5 : 0 ≤ (x5_1 : Int) := od_; have q5 : (x5_1 : Int) < ((x0_1.length : Int) : Int) := od_; obtain ⟨go5, co5, eo5, gb5, gl5, cl5, HG5⟩ := Kd.R_form HO_0.out (by omega); (first | cases eo5 | (injection eo5 with ea_ en_ ec_; (first | subst ea_ | (injection ea_ with ea_; subst ea_)); subst ec_; clear en_)); have GB5 := Aside0.mk gb5; have GG5 := Aside0.mk HG5; clear gb5 gl5 HG5; have HMgo5 := Aside0.mk (show (P0_ go5 ∨ w.heap.size ≤ go5) from (HO_0.out.1 _ rfl)); obtain ⟨hx5_0, hf5_0⟩ := Kd.R_celln 0 HO_0.out (x5_1 : Int) p5 q5; replace p5 := eq_true p5; replace q5 := eq_true q5; have HP7 := Kd.R_putg HO_0.out (x5_1 : Int) x1_1
     go_wp2_with (first | ((with_reducible refine gate_store (t := 3) (p := 15) rfl ?_); refine store_event (t := 3) (p := 15) (v := ?vo_w8) (w1 := (wr.setCell ⟨go5, (x5_1 : Int).toNat, none⟩ (.int .i64 x1_1))) ?hg ?ho ?hn ?hr ?_; (case ho => rfl); (case hg => rfl); (case hn => rfl); (case hr => first | (go_simp; done) | (go_simp; rfl)); intro w8 hw; have hg : wr.grownBy w8 (some go5) := (by rw [hw]; exact HP7.2); have hp_ : Kd.R (Kd.int .i64) 3 w8 w0.heap.size (fun k_ => (P0_ k_ ∨ w.heap.size ≤ k_)) (.slice (some ⟨go5, 0, none⟩) x0_1.length co6) y498 := (by rw [hw, Ny498.out]; exact HP7.1); clear HP7; replace HB := Aside0.mk ((by rw [hw]; exact below_set (HB.out) GB5.out : Below w0.heap.size w0 w8)); replace HK := Aside0.mk (Kept.of_grown (S := (fun k_ => P0_ k_)) hg (by repeat (first | (with_reducible first | exact HK.out | apply Kept.alloc | apply Kept.drewN | apply Kept.drew) | exact HK.out)) (fun k_ e_ => (HO_0.out.1 k_ e_))); replace HO_0 := Aside0.mk (hp_); clear hg hw hp_))
     go_roundg k1
     case measure => have := HK1.out; omega
     case rel => exact ⟨(y498), (wrap64 (x1_1 + 1)), (wrap64 (x5_1 + 1)), rl_, rl_, H', ⟨by have := HK1.out; omega⟩, ⟨ra_ HO_0.out⟩, ⟨by repeat (first | (with_reducible first | exact HK.out | apply Kept.alloc | apply Kept.drewN | apply Kept.drew) | exact HK.out)⟩, ⟨be_ HB.out⟩⟩
    ·
     rw [if_neg c4] at H; exact absurd H (by simp)
   ·
    rw [if_neg c3] at H; have c3b0 : decide (x5_1 < (x0_1.length : Int)) = false := df_ c3; clear c3; simp only [Option.some.injEq, Prod.mk.injEq] at H; obtain ⟨rfl, rfl⟩ := H; obtain ⟨Ao9, co9, eo9⟩ := Kd.R_slice HO_0.out; subst eo9
    go_wp2
    go_ret
    exact ⟨by first | rfl | (simp [errW_none, errW_some] <;> rfl) | (simp [*, errW_none, errW_some] <;> rfl), by (with_reducible repeat (first | apply Kd.R_alloc | apply Kd.R_drewN | apply Kd.R_drew)); exact HO_0.out, by repeat (first | (with_reducible first | exact HB.out | apply below_alloc | apply pw_below_drewN | apply below_drew1) | exact HB.out), by repeat (first | (with_reducible first | exact HK.out | apply Kept.alloc | apply Kept.drewN | apply Kept.drew) | exact HK.out)⟩

def mkIl : List Int → Int → List Int
  | [], _ => []
  | _ :: r, a => a :: mkIl r (wrap64 (a + 1))
def mkL1 (x : S55) (a : Int) : S55 := ⟨a, wrap64 (a + 1), wrap64 (wrap64 (a + 1) + 1), wrap64 (wrap64 (wrap64 (a + 1) + 1) + 1), wrap64 (wrap64 (wrap64 (wrap64 (a + 1) + 1) + 1) + 1), wrap64 (wrap64 (wrap64 (wrap64 (wrap64 (a + 1) + 1) + 1) + 1) + 1), wrap64 (wrap64 (wrap64 (wrap64 (wrap64 (wrap64 (a + 1) + 1) + 1) + 1) + 1) + 1), mkIl x.f7 (wrap64 (wrap64 (wrap64 (wrap64 (wrap64 (wrap64 (wrap64 (a + 1) + 1) + 1) + 1) + 1) + 1) + 1)), mkIl x.f8 (mkI x.f7.length (wrap64 (wrap64 (wrap64 (wrap64 (wrap64 (wrap64 (wrap64 (a + 1) + 1) + 1) + 1) + 1) + 1) + 1)))⟩
def mkLx (x : S55) (a : Int) : Int := mkI x.f8.length (mkI x.f7.length (wrap64 (wrap64 (wrap64 (wrap64 (wrap64 (wrap64 (wrap64 (a + 1) + 1) + 1) + 1) + 1) + 1) + 1)))
def mkLl : List S55 → Int → List S55
  | [], _ => []
  | x :: r, a => mkL1 x a :: mkLl r (mkLx x a)
def mkLn : List S55 → Int → Int
  | [], a => a
  | x :: r, a => mkLn r (mkLx x a)
theorem mkIl_len : ∀ (l : List Int) (a : Int), (mkIl l a).length = l.length
  | [], _ => rfl
  | _ :: r, a => by simp [mkIl, mkIl_len r]
theorem mkLl_len : ∀ (l : List S55) (a : Int), (mkLl l a).length = l.length
  | [], _ => rfl
  | _ :: r, a => by simp [mkLl, mkLl_len r]
theorem markI_run : ∀ (d k : Nat) (p l : List Int) (a : Int), l.length = d → d < k → p.length + l.length ≤ 9223372036854775807 → laws_markIntS.l0 k (p ++ l) a (p.length : Int) = some (mkI l.length a, p ++ mkIl l a)
  | 0, k, p, l, a, hd, hk, hb => by
    obtain ⟨k, rfl⟩ : ∃ m, k = m + 1 := ⟨k - 1, by omega⟩
    obtain rfl : l = [] := List.length_eq_zero_iff.mp hd
    simp only [laws_markIntS.l0, List.append_nil]
    rw [if_neg (by omega)]; simp [mkI, mkIl]
  | d + 1, k, p, l, a, hd, hk, hb => by
    obtain ⟨k, rfl⟩ : ∃ m, k = m + 1 := ⟨k - 1, by omega⟩
    cases l with
    | nil => simp at hd
    | cons x r =>
      have hr : r.length = d := by simpa using hd
      have hb' : p.length + (r.length + 1) ≤ 9223372036854775807 := hb
      simp only [laws_markIntS.l0]
      rw [if_pos (by simp; omega), if_pos (by omega)]
      have e1 : (p ++ x :: r).set (p.length : Int).toNat a = (p ++ [a]) ++ r := by simp
      have e2 : wrap64 ((p.length : Int) + 1) = ((p ++ [a]).length : Int) := by simp only [List.length_append, List.length_singleton]; unfold wrap64; omega
      rw [e1, e2, markI_run d k (p ++ [a]) r (wrap64 (a + 1)) hr (by omega) (by simp; omega)]
      simp only [mkIl, mkI, List.length_cons, List.append_assoc, List.singleton_append]
theorem markI_f (l : List Int) (a : Int) (hb : l.length ≤ 9223372036854775807) : laws_markIntS.f (l.length + 1) l a = some (mkI l.length a, mkIl l a) := markI_run l.length (l.length + 1) [] l a rfl (by omega) (by simpa using hb)
structure MkSt (base : Nat) (ok oki : Nat → Prop) (g n c0 kk : Nat) (xs : List S55) (v7 v8 : Value) (x7 x8 : List Int) (cs : List Value) (W : World) : Prop where
  H : Kd.H ka55 55 W base ok (.slice (some ⟨g, 0, none⟩) n c0) xs (kk : Int) oki cs
  g7 : (Kd.int .i64).R 3 W base (fun k => some k = v7.ownBlock) v7 x7
  g8 : (Kd.int .i64).R 3 W base (fun k => some k = v8.ownBlock) v8 x8
  qa : ∀ k, some k = v7.ownBlock → oki k
  qb : ∀ k, some k = v8.ownBlock → oki k
  dj : ∀ k, some k = v7.ownBlock → ¬ some k = v8.ownBlock
  ng : ∀ k, oki k → ok k ∧ k ≠ g
theorem MkSt.start {W : World} {base : Nat} {ok : Nat → Prop} {g n c0 kk : Nat} {xs : List S55} (h : Kd.S ka55 55 W base ok (.slice (some ⟨g, 0, none⟩) n c0) xs) (hk : kk < n) :
    ∃ oki v7 v8, MkSt base ok oki g n c0 kk xs v7 v8 (xs.getD kk z55).f7 (xs.getD kk z55).f8 [.int .i64 (xs.getD kk z55).f0, .int .i64 (xs.getD kk z55).f1, .int .i64 (xs.getD kk z55).f2, .int .i64 (xs.getD kk z55).f3, .int .i64 (xs.getD kk z55).f4, .int .i64 (xs.getD kk z55).f5, .int .i64 (xs.getD kk z55).f6, v7, v8] W := by
  obtain ⟨oki, c, hcl, hM, _, _, hok, hH⟩ := Kd.S_elem h z55 (kk : Int) (by omega) (by omega)
  rw [Int.toNat_natCast] at hM
  obtain ⟨v7, v8, oa, ob, rfl, g7, g8, sa, sb, dj⟩ := ka55_openM hM
  exact ⟨oki, v7, v8, hH, Kd.R_tight rfl g7, Kd.R_tight rfl g8, fun k hk => sa k (g7.1 k hk.symm), fun k hk => sb k (g8.1 k hk.symm), fun k h7 h8 => dj k (g7.1 k h7.symm) (g8.1 k h8.symm), hok⟩
section
variable {base : Nat} {ok oki : Nat → Prop} {g n c0 kk : Nat} {xs : List S55} {v7 v8 : Value} {x7 x8 y : List Int} {cs : List Value} {W W1 : World}
theorem MkSt.cells (h : MkSt base ok oki g n c0 kk xs v7 v8 x7 x8 cs W) (hk : kk < n) : (∀ j u, cs[j]? = some u → W.cell? ⟨g, kk * 9 + j, none⟩ = some u) ∧ ∀ j, W.frozen? ⟨g, kk * 9 + j, none⟩ = false := by
  obtain ⟨_, _, _, _, _, hcc, _⟩ := Kd.H_raw h.H (by omega) (by omega)
  obtain ⟨_, f, hR⟩ := h.H
  obtain ⟨_, _, _, _, hf⟩ := Kd.R_elem hR (z55, 0) (kk : Int) (by omega) (by omega)
  exact ⟨fun j u hu => by have := hcc j u hu; rwa [Int.toNat_natCast] at this, fun j => by have := hf j; rwa [Int.toNat_natCast] at this⟩
theorem MkSt.at_ (h : MkSt base ok oki g n c0 kk xs v7 v8 x7 x8 cs W) (hk : kk < n) (j o : Nat) (ho : o = kk * 9 + j) (u : Value) (hu : cs[j]? = some u) : ∃ v, W.cell? ⟨g, o, none⟩ = some v ∧ W.frozen? ⟨g, o, none⟩ = false := by
  subst ho
  exact ⟨u, (h.cells hk).1 j u hu, (h.cells hk).2 j⟩
theorem MkSt.store (h : MkSt base ok oki g n c0 kk xs v7 v8 x7 x8 cs W) (hk : kk < n) (j o : Nat) (hj : j < 9) (ho : o = kk * 9 + j) (u : Int) : MkSt base ok oki g n c0 kk xs v7 v8 x7 x8 (cs.take j ++ [.int .i64 u] ++ cs.drop (j + 1)) (W.setCell ⟨g, o, none⟩ (.int .i64 u)) ∧ W.grownBy (W.setCell ⟨g, o, none⟩ (.int .i64 u)) (some g) := by
  have hs := Kd.H_seg h.H (by omega) (by omega) (seg := [.int .i64 u]) (j := j) (by show j + 1 ≤ 9; omega) (by intro q hq; rw [List.mem_singleton.1 hq]; rfl)
  rw [Int.toNat_natCast, show ka55.sz = 9 from rfl, ← ho] at hs
  exact ⟨⟨hs.1, Kd.R_far (p := ⟨g, o, none⟩) h.g7 (fun k hk => (h.ng k (h.qa k hk)).2) _, Kd.R_far (p := ⟨g, o, none⟩) h.g8 (fun k hk => (h.ng k (h.qb k hk)).2) _, h.qa, h.qb, h.dj, h.ng⟩, hs.2⟩
theorem MkSt.mark7 (h : MkSt base ok oki g n c0 kk xs v7 v8 x7 x8 cs W) (hK : Kept W W1 (fun k => some k = v7.ownBlock)) {P : Nat → Prop} (hR : (Kd.int .i64).R 3 W1 base P v7 y) : MkSt base ok oki g n c0 kk xs v7 v8 y x8 cs W1 :=
  ⟨Kd.H_step h.H (fun k _ hn hlt => hK.2 k hlt (fun e => hn (h.qa k e))), Kd.R_tight rfl hR, Kd.R_step h.g8 (fun k h8 hlt => hK.2 k hlt (fun e => h.dj k e h8)), h.qa, h.qb, h.dj, h.ng⟩
theorem MkSt.mark8 (h : MkSt base ok oki g n c0 kk xs v7 v8 x7 x8 cs W) (hK : Kept W W1 (fun k => some k = v8.ownBlock)) {P : Nat → Prop} (hR : (Kd.int .i64).R 3 W1 base P v8 y) : MkSt base ok oki g n c0 kk xs v7 v8 x7 y cs W1 :=
  ⟨Kd.H_step h.H (fun k _ hn hlt => hK.2 k hlt (fun e => hn (h.qb k e))), Kd.R_step h.g7 (fun k h7 hlt => hK.2 k hlt (fun e => h.dj k h7 e)), Kd.R_tight rfl hR, h.qa, h.qb, h.dj, h.ng⟩
theorem MkSt.back {b0 b1 b2 b3 b4 b5 b6 : Int} (h : MkSt base ok oki g n c0 kk xs v7 v8 x7 x8 [.int .i64 b0, .int .i64 b1, .int .i64 b2, .int .i64 b3, .int .i64 b4, .int .i64 b5, .int .i64 b6, v7, v8] W) : Kd.S ka55 55 W base ok (.slice (some ⟨g, 0, none⟩) n c0) (xs.set kk ⟨b0, b1, b2, b3, b4, b5, b6, x7, x8⟩) := by
  have := Kd.H_back h.H (x' := ⟨b0, b1, b2, b3, b4, b5, b6, x7, x8⟩) (ka55_mkM W base oki ⟨b0, b1, b2, b3, b4, b5, b6, x7, x8⟩ h.g7 h.g8 h.qa h.qb h.dj) (fun _ hk => hk)
  rwa [Int.toNat_natCast] at this
end
theorem own_len {w : World} {base : Nat} {ok : Nat → Prop} {v : Value} {xs : List Int} (h : (Kd.int .i64).R 3 w base ok v xs) : xs.length ≤ 9223372036854775807 := by
  obtain ⟨_, _, ho, _⟩ := h
  rcases ho.2 with ⟨_, hn⟩ | ⟨g, cap, cur, rfl, hg, hh, hc, hm, _⟩
  · omega
  · unfold maxLen at hm; omega
theorem mkLl_step (l : List S55) (kk : Nat) (x : Int) (h : kk < l.length) : (l.set kk (mkL1 (l.getD kk z55) x)).take (kk + 1) ++ mkLl ((l.set kk (mkL1 (l.getD kk z55) x)).drop (kk + 1)) (mkLx (l.getD kk z55) x) = l.take kk ++ mkLl (l.drop kk) x := by
  have e1 : (l.set kk (mkL1 (l.getD kk z55) x)).take (kk + 1) = l.take kk ++ [mkL1 (l.getD kk z55) x] := by
    rw [List.take_add_one, List.getElem?_set_self h, List.take_set_of_le (Nat.le_refl _)]
    rfl
  have e2 : (l.set kk (mkL1 (l.getD kk z55) x)).drop (kk + 1) = l.drop (kk + 1) := by
    rw [List.drop_set_of_lt (by omega)]
  have e3 : l.drop kk = l.getD kk z55 :: l.drop (kk + 1) := by
    rw [List.drop_eq_getElem_cons h, List.getD_eq_getElem?_getD, List.getElem?_eq_getElem h]
    rfl
  rw [e1, e2, e3, mkLl, List.append_assoc]
  rfl
theorem mkLn_step (l : List S55) (kk : Nat) (x : Int) (h : kk < l.length) : mkLn ((l.set kk (mkL1 (l.getD kk z55) x)).drop (kk + 1)) (mkLx (l.getD kk z55) x) = mkLn (l.drop kk) x := by
  rw [List.drop_set_of_lt (by omega), List.drop_eq_getElem_cons h, List.getD_eq_getElem?_getD, List.getElem?_eq_getElem h]
  rfl
set_option maxHeartbeats 8000000 in
set_option maxRecDepth 100000 in
theorem markL_walk (P0_ : Nat → Prop) (u : Value) (l : List S55) (a1 : Int) (w0 w : World) (hB : Below w0.heap.size w0 w) (ho0 : Kd.S ka55 55 w w0.heap.size P0_ u l) :
    Calls Tryz.prog 35 #[u, .int .i64 a1] w fun e w' => e = .returned (.int .i64 (mkLn l a1)) ∧ Kd.S ka55 55 w' w0.heap.size P0_ u (mkLl l a1) ∧ Below w0.heap.size w0 w' ∧ Kept w w' P0_ := by
  have HO0 := Aside0.mk ho0
  have HB0 := Aside0.mk hB
  obtain ⟨A0, c0, rfl⟩ := Kd.S_slice ho0
  have hmax : l.length ≤ 9223372036854775807 := by
    obtain ⟨_, _, ho, _⟩ := Kd.S_R ho0
    rcases ho.2 with ⟨_, hn⟩ | ⟨g, cap, cur, _, hg, hh, hc, hm, _⟩
    · omega
    · unfold maxLen at hm; omega
  clear hB ho0
  go_enter Tryz.func35, Tryz.ntmps35
  go_wp2
  go_loopg [1, 5] l.length (fun gg v1 v5 wr => ∃ (kk : Nat) (x : Int) (xs : List S55), kk ≤ l.length ∧ l.length - kk ≤ gg ∧ v1 = .int .i64 x ∧ v5 = .int .i64 kk ∧ Aside0 (mkLn (xs.drop kk) x = mkLn l a1) ∧ Aside0 (xs.length = l.length) ∧ Aside0 (xs.take kk ++ mkLl (xs.drop kk) x = mkLl l a1) ∧ Aside0 (Kd.S ka55 55 wr w0.heap.size P0_ (.slice A0 l.length c0) xs) ∧ Aside0 (Kept w wr P0_) ∧ Aside0 (Below w0.heap.size w0 wr))
  case atStart => exact ⟨0, a1, l, Nat.zero_le _, by omega, rfl, rfl, ⟨rfl⟩, ⟨rfl⟩, ⟨rfl⟩, HO0, ⟨Kept.refl _ _⟩, HB0⟩
  case round =>
    clear HO0 HB0
    obtain ⟨kk, x, xs, hkk, hg, rfl, rfl, N0, L0, T0, R0, K0, B0⟩ := hrel
    by_cases hlt : kk < l.length
    · have hltz : (kk : Int) < (l.length : Int) := by omega
      obtain ⟨g, cap, e0, gb, gl, cl, hcl⟩ := Kd.R_form (Kd.S_R R0.out) (by have := L0.out; omega)
      have ec : A0 = some ⟨g, 0, none⟩ ∧ c0 = cap := by injection e0 with ea en ec; exact ⟨ea, ec⟩
      obtain ⟨rfl, rfl⟩ := ec
      have GS : Aside0 (P0_ g ∨ w.heap.size ≤ g) := ⟨.inl ((Kd.S_R R0.out).1 g rfl)⟩
      have GB := Aside0.mk gb
      clear e0 gb gl hcl
      have hkx : Aside0 (kk < xs.length) := ⟨by have := L0.out; omega⟩
      obtain ⟨oki, v7, v8, D0⟩ := MkSt.start R0.out hlt
      replace D0 := Aside0.mk D0
      go_wp2_with (first
        | ((with_reducible refine gate_store (t := 3) (p := 16) rfl ?_); refine store_event (t := 3) (p := 16) (v := ?vo1) (w1 := wr.setCell ⟨g, kk * 9, none⟩ (.int .i64 x)) ?hg ?ho ?hn ?hr ?_; (case ho => rfl); (case hg => rfl); (case hn => rfl); (case hr => obtain ⟨xx, hcc, hff⟩ := D0.out.at_ hlt 0 (kk * 9) (by omega) _ rfl; first | (go_simp; done) | (go_simp; rfl)); intro w1 hw; have D1 : Aside0 (MkSt w0.heap.size P0_ oki g l.length c0 kk xs v7 v8 (xs.getD kk z55).f7 (xs.getD kk z55).f8 [.int .i64 x, .int .i64 (xs.getD kk z55).f1, .int .i64 (xs.getD kk z55).f2, .int .i64 (xs.getD kk z55).f3, .int .i64 (xs.getD kk z55).f4, .int .i64 (xs.getD kk z55).f5, .int .i64 (xs.getD kk z55).f6, v7, v8] w1) := ⟨by rw [hw]; exact (D0.out.store hlt 0 (kk * 9) (by omega) (by omega) x).1⟩; have K1 := Aside0.mk (show Kept w w1 P0_ from by rw [hw]; exact Kept.of_grown (D0.out.store hlt 0 (kk * 9) (by omega) (by omega) x).2 K0.out (fun k_ e_ => by injection e_ with e_; subst e_; exact GS.out)); have B1 := Aside0.mk (show Below w0.heap.size w0 w1 from by rw [hw]; exact B0.out.setCell (p := ⟨g, kk * 9, none⟩) GB.out _); clear hw D0)
        | ((with_reducible refine gate_store (t := 3) (p := 23) rfl ?_); refine store_event (t := 3) (p := 23) (v := ?vo2) (w1 := w1.setCell ⟨g, kk * 9 + 1, none⟩ (.int .i64 (wrap64 (x + 1)))) ?hg ?ho ?hn ?hr ?_; (case ho => rfl); (case hg => rfl); (case hn => rfl); (case hr => obtain ⟨xx, hcc, hff⟩ := D1.out.at_ hlt 1 (kk * 9 + 1) (by omega) _ rfl; first | (go_simp; done) | (go_simp; rfl)); intro w2 hw; have D2 : Aside0 (MkSt w0.heap.size P0_ oki g l.length c0 kk xs v7 v8 (xs.getD kk z55).f7 (xs.getD kk z55).f8 [.int .i64 x, .int .i64 (wrap64 (x + 1)), .int .i64 (xs.getD kk z55).f2, .int .i64 (xs.getD kk z55).f3, .int .i64 (xs.getD kk z55).f4, .int .i64 (xs.getD kk z55).f5, .int .i64 (xs.getD kk z55).f6, v7, v8] w2) := ⟨by rw [hw]; exact (D1.out.store hlt 1 (kk * 9 + 1) (by omega) (by omega) (wrap64 (x + 1))).1⟩; have K2 := Aside0.mk (show Kept w w2 P0_ from by rw [hw]; exact Kept.of_grown (D1.out.store hlt 1 (kk * 9 + 1) (by omega) (by omega) (wrap64 (x + 1))).2 K1.out (fun k_ e_ => by injection e_ with e_; subst e_; exact GS.out)); have B2 := Aside0.mk (show Below w0.heap.size w0 w2 from by rw [hw]; exact B1.out.setCell (p := ⟨g, kk * 9 + 1, none⟩) GB.out _); clear hw D1)
        | ((with_reducible refine gate_store (t := 3) (p := 30) rfl ?_); refine store_event (t := 3) (p := 30) (v := ?vo3) (w1 := w2.setCell ⟨g, kk * 9 + 2, none⟩ (.int .i64 (wrap64 (wrap64 (x + 1) + 1)))) ?hg ?ho ?hn ?hr ?_; (case ho => rfl); (case hg => rfl); (case hn => rfl); (case hr => obtain ⟨xx, hcc, hff⟩ := D2.out.at_ hlt 2 (kk * 9 + 2) (by omega) _ rfl; first | (go_simp; done) | (go_simp; rfl)); intro w3 hw; have D3 : Aside0 (MkSt w0.heap.size P0_ oki g l.length c0 kk xs v7 v8 (xs.getD kk z55).f7 (xs.getD kk z55).f8 [.int .i64 x, .int .i64 (wrap64 (x + 1)), .int .i64 (wrap64 (wrap64 (x + 1) + 1)), .int .i64 (xs.getD kk z55).f3, .int .i64 (xs.getD kk z55).f4, .int .i64 (xs.getD kk z55).f5, .int .i64 (xs.getD kk z55).f6, v7, v8] w3) := ⟨by rw [hw]; exact (D2.out.store hlt 2 (kk * 9 + 2) (by omega) (by omega) (wrap64 (wrap64 (x + 1) + 1))).1⟩; have K3 := Aside0.mk (show Kept w w3 P0_ from by rw [hw]; exact Kept.of_grown (D2.out.store hlt 2 (kk * 9 + 2) (by omega) (by omega) (wrap64 (wrap64 (x + 1) + 1))).2 K2.out (fun k_ e_ => by injection e_ with e_; subst e_; exact GS.out)); have B3 := Aside0.mk (show Below w0.heap.size w0 w3 from by rw [hw]; exact B2.out.setCell (p := ⟨g, kk * 9 + 2, none⟩) GB.out _); clear hw D2)
        | ((with_reducible refine gate_store (t := 3) (p := 37) rfl ?_); refine store_event (t := 3) (p := 37) (v := ?vo4) (w1 := w3.setCell ⟨g, kk * 9 + 3, none⟩ (.int .i64 (wrap64 (wrap64 (wrap64 (x + 1) + 1) + 1)))) ?hg ?ho ?hn ?hr ?_; (case ho => rfl); (case hg => rfl); (case hn => rfl); (case hr => obtain ⟨xx, hcc, hff⟩ := D3.out.at_ hlt 3 (kk * 9 + 3) (by omega) _ rfl; first | (go_simp; done) | (go_simp; rfl)); intro w4 hw; have D4 : Aside0 (MkSt w0.heap.size P0_ oki g l.length c0 kk xs v7 v8 (xs.getD kk z55).f7 (xs.getD kk z55).f8 [.int .i64 x, .int .i64 (wrap64 (x + 1)), .int .i64 (wrap64 (wrap64 (x + 1) + 1)), .int .i64 (wrap64 (wrap64 (wrap64 (x + 1) + 1) + 1)), .int .i64 (xs.getD kk z55).f4, .int .i64 (xs.getD kk z55).f5, .int .i64 (xs.getD kk z55).f6, v7, v8] w4) := ⟨by rw [hw]; exact (D3.out.store hlt 3 (kk * 9 + 3) (by omega) (by omega) (wrap64 (wrap64 (wrap64 (x + 1) + 1) + 1))).1⟩; have K4 := Aside0.mk (show Kept w w4 P0_ from by rw [hw]; exact Kept.of_grown (D3.out.store hlt 3 (kk * 9 + 3) (by omega) (by omega) (wrap64 (wrap64 (wrap64 (x + 1) + 1) + 1))).2 K3.out (fun k_ e_ => by injection e_ with e_; subst e_; exact GS.out)); have B4 := Aside0.mk (show Below w0.heap.size w0 w4 from by rw [hw]; exact B3.out.setCell (p := ⟨g, kk * 9 + 3, none⟩) GB.out _); clear hw D3)
        | ((with_reducible refine gate_store (t := 3) (p := 44) rfl ?_); refine store_event (t := 3) (p := 44) (v := ?vo5) (w1 := w4.setCell ⟨g, kk * 9 + 4, none⟩ (.int .i64 (wrap64 (wrap64 (wrap64 (wrap64 (x + 1) + 1) + 1) + 1)))) ?hg ?ho ?hn ?hr ?_; (case ho => rfl); (case hg => rfl); (case hn => rfl); (case hr => obtain ⟨xx, hcc, hff⟩ := D4.out.at_ hlt 4 (kk * 9 + 4) (by omega) _ rfl; first | (go_simp; done) | (go_simp; rfl)); intro w5 hw; have D5 : Aside0 (MkSt w0.heap.size P0_ oki g l.length c0 kk xs v7 v8 (xs.getD kk z55).f7 (xs.getD kk z55).f8 [.int .i64 x, .int .i64 (wrap64 (x + 1)), .int .i64 (wrap64 (wrap64 (x + 1) + 1)), .int .i64 (wrap64 (wrap64 (wrap64 (x + 1) + 1) + 1)), .int .i64 (wrap64 (wrap64 (wrap64 (wrap64 (x + 1) + 1) + 1) + 1)), .int .i64 (xs.getD kk z55).f5, .int .i64 (xs.getD kk z55).f6, v7, v8] w5) := ⟨by rw [hw]; exact (D4.out.store hlt 4 (kk * 9 + 4) (by omega) (by omega) (wrap64 (wrap64 (wrap64 (wrap64 (x + 1) + 1) + 1) + 1))).1⟩; have K5 := Aside0.mk (show Kept w w5 P0_ from by rw [hw]; exact Kept.of_grown (D4.out.store hlt 4 (kk * 9 + 4) (by omega) (by omega) (wrap64 (wrap64 (wrap64 (wrap64 (x + 1) + 1) + 1) + 1))).2 K4.out (fun k_ e_ => by injection e_ with e_; subst e_; exact GS.out)); have B5 := Aside0.mk (show Below w0.heap.size w0 w5 from by rw [hw]; exact B4.out.setCell (p := ⟨g, kk * 9 + 4, none⟩) GB.out _); clear hw D4)
        | ((with_reducible refine gate_store (t := 3) (p := 51) rfl ?_); refine store_event (t := 3) (p := 51) (v := ?vo6) (w1 := w5.setCell ⟨g, kk * 9 + 5, none⟩ (.int .i64 (wrap64 (wrap64 (wrap64 (wrap64 (wrap64 (x + 1) + 1) + 1) + 1) + 1)))) ?hg ?ho ?hn ?hr ?_; (case ho => rfl); (case hg => rfl); (case hn => rfl); (case hr => obtain ⟨xx, hcc, hff⟩ := D5.out.at_ hlt 5 (kk * 9 + 5) (by omega) _ rfl; first | (go_simp; done) | (go_simp; rfl)); intro w6 hw; have D6 : Aside0 (MkSt w0.heap.size P0_ oki g l.length c0 kk xs v7 v8 (xs.getD kk z55).f7 (xs.getD kk z55).f8 [.int .i64 x, .int .i64 (wrap64 (x + 1)), .int .i64 (wrap64 (wrap64 (x + 1) + 1)), .int .i64 (wrap64 (wrap64 (wrap64 (x + 1) + 1) + 1)), .int .i64 (wrap64 (wrap64 (wrap64 (wrap64 (x + 1) + 1) + 1) + 1)), .int .i64 (wrap64 (wrap64 (wrap64 (wrap64 (wrap64 (x + 1) + 1) + 1) + 1) + 1)), .int .i64 (xs.getD kk z55).f6, v7, v8] w6) := ⟨by rw [hw]; exact (D5.out.store hlt 5 (kk * 9 + 5) (by omega) (by omega) (wrap64 (wrap64 (wrap64 (wrap64 (wrap64 (x + 1) + 1) + 1) + 1) + 1))).1⟩; have K6 := Aside0.mk (show Kept w w6 P0_ from by rw [hw]; exact Kept.of_grown (D5.out.store hlt 5 (kk * 9 + 5) (by omega) (by omega) (wrap64 (wrap64 (wrap64 (wrap64 (wrap64 (x + 1) + 1) + 1) + 1) + 1))).2 K5.out (fun k_ e_ => by injection e_ with e_; subst e_; exact GS.out)); have B6 := Aside0.mk (show Below w0.heap.size w0 w6 from by rw [hw]; exact B5.out.setCell (p := ⟨g, kk * 9 + 5, none⟩) GB.out _); clear hw D5)
        | ((with_reducible refine gate_store (t := 3) (p := 58) rfl ?_); refine store_event (t := 3) (p := 58) (v := ?vo7) (w1 := w6.setCell ⟨g, kk * 9 + 6, none⟩ (.int .i64 (wrap64 (wrap64 (wrap64 (wrap64 (wrap64 (wrap64 (x + 1) + 1) + 1) + 1) + 1) + 1)))) ?hg ?ho ?hn ?hr ?_; (case ho => rfl); (case hg => rfl); (case hn => rfl); (case hr => obtain ⟨xx, hcc, hff⟩ := D6.out.at_ hlt 6 (kk * 9 + 6) (by omega) _ rfl; first | (go_simp; done) | (go_simp; rfl)); intro w7 hw; have D7 : Aside0 (MkSt w0.heap.size P0_ oki g l.length c0 kk xs v7 v8 (xs.getD kk z55).f7 (xs.getD kk z55).f8 [.int .i64 x, .int .i64 (wrap64 (x + 1)), .int .i64 (wrap64 (wrap64 (x + 1) + 1)), .int .i64 (wrap64 (wrap64 (wrap64 (x + 1) + 1) + 1)), .int .i64 (wrap64 (wrap64 (wrap64 (wrap64 (x + 1) + 1) + 1) + 1)), .int .i64 (wrap64 (wrap64 (wrap64 (wrap64 (wrap64 (x + 1) + 1) + 1) + 1) + 1)), .int .i64 (wrap64 (wrap64 (wrap64 (wrap64 (wrap64 (wrap64 (x + 1) + 1) + 1) + 1) + 1) + 1)), v7, v8] w7) := ⟨by rw [hw]; exact (D6.out.store hlt 6 (kk * 9 + 6) (by omega) (by omega) (wrap64 (wrap64 (wrap64 (wrap64 (wrap64 (wrap64 (x + 1) + 1) + 1) + 1) + 1) + 1))).1⟩; have K7 := Aside0.mk (show Kept w w7 P0_ from by rw [hw]; exact Kept.of_grown (D6.out.store hlt 6 (kk * 9 + 6) (by omega) (by omega) (wrap64 (wrap64 (wrap64 (wrap64 (wrap64 (wrap64 (x + 1) + 1) + 1) + 1) + 1) + 1))).2 K6.out (fun k_ e_ => by injection e_ with e_; subst e_; exact GS.out)); have B7 := Aside0.mk (show Below w0.heap.size w0 w7 from by rw [hw]; exact B6.out.setCell (p := ⟨g, kk * 9 + 6, none⟩) GB.out _); clear hw D6; obtain ⟨A7, c7, e7⟩ := Kd.R_slice D7.out.g7; subst e7; obtain ⟨A8, c8, e8⟩ := Kd.R_slice D7.out.g8; subst e8; have hc7 := (D7.out.cells hlt).1 7 _ rfl; have N7 := Aside0.mk (own_len D7.out.g7); have N8 := Aside0.mk (own_len D7.out.g8))
        | (go_at_call 76; refine (laws_markIntS.calls (P0_ := fun k => some k = ((.slice A7 (xs.getD kk z55).f7.length c7) : Value).ownBlock) (u9000_ := (.slice A7 (xs.getD kk z55).f7.length c7)) (w0 := w0) B7.out D7.out.g7 (markI_f (xs.getD kk z55).f7 (wrap64 (wrap64 (wrap64 (wrap64 (wrap64 (wrap64 (wrap64 (x + 1) + 1) + 1) + 1) + 1) + 1) + 1)) N7.out)).mono ?_; rintro e w8 ⟨rfl, hr8, hb8, hk8⟩; have D8 := Aside0.mk (D7.out.mark7 hk8 hr8); have K8 := Aside0.mk (K7.out.then_ hk8 (fun k hk => .inl (D7.out.ng k (D7.out.qa k hk)).1)); have B8 := Aside0.mk hb8; have hc8 := (D8.out.cells hlt).1 8 _ rfl; clear D7 hr8 hb8 hk8)
        | (go_at_call 76; refine (laws_markIntS.calls (P0_ := fun k => some k = ((.slice A8 (xs.getD kk z55).f8.length c8) : Value).ownBlock) (u9000_ := (.slice A8 (xs.getD kk z55).f8.length c8)) (w0 := w0) B8.out D8.out.g8 (markI_f (xs.getD kk z55).f8 (mkI (xs.getD kk z55).f7.length (wrap64 (wrap64 (wrap64 (wrap64 (wrap64 (wrap64 (wrap64 (x + 1) + 1) + 1) + 1) + 1) + 1) + 1))) N8.out)).mono ?_; rintro e w9 ⟨rfl, hr9, hb9, hk9⟩; have D9 := Aside0.mk (D8.out.mark8 hk9 hr9); have K9 := Aside0.mk (K8.out.then_ hk9 (fun k hk => .inl (D8.out.ng k (D8.out.qb k hk)).1)); have B9 := Aside0.mk hb9; have R9 := Aside0.mk (show Kd.S ka55 55 w9 w0.heap.size P0_ (.slice (some ⟨g, 0, none⟩) l.length c0) (xs.set kk (mkL1 (xs.getD kk z55) x)) from D9.out.back); clear D8 D9 hr9 hb9 hk9))
      go_roundg (l.length - (kk + 1))
      case measure => omega
      case rel => exact ⟨kk + 1, mkLx (xs.getD kk z55) x, xs.set kk (mkL1 (xs.getD kk z55) x), by omega, by omega, rfl, by go_num, ⟨by rw [mkLn_step xs kk x hkx.out]; exact N0.out⟩, ⟨by rw [List.length_set]; exact L0.out⟩, ⟨by rw [mkLl_step xs kk x hkx.out]; exact T0.out⟩, R9, K9, B9⟩
    · have hltz : ¬ (kk : Int) < (l.length : Int) := by omega
      have hk := Aside0.mk (show kk = l.length by omega)
      have e1 : Aside0 (x = mkLn l a1) := ⟨by have h := N0.out; rwa [hk.out, ← L0.out, List.drop_length, mkLn] at h⟩
      have e2 : Aside0 (xs = mkLl l a1) := ⟨by have h := T0.out; rwa [hk.out, ← L0.out, List.take_length, List.drop_length, mkLl, List.append_nil] at h⟩
      go_wp2
      go_ret
      exact ⟨by rw [← e1.out]; rfl, by rw [← e2.out]; exact R0.out, by first | exact B0.out | exact be_ B0.out | exact below_drew1 B0.out, by first | exact K0.out | exact Kept.drew K0.out⟩
def laws_markModel.f (k : Nat) (a0_0 : Int) (a0_1 : Int) (a0_2 : Int) (l0_3 : List S55) (a1 : Int) : Option (Int × List S55) := some (mkLn l0_3 a1, mkLl l0_3 a1)
set_option maxHeartbeats 8000000 in
set_option maxRecDepth 100000 in
theorem laws_markModel.calls (k : Nat) (a0_0 : Int) (a0_1 : Int) (a0_2 : Int) (P0_3_ : Nat → Prop) (u9000_ : Value) (l0_3 : List S55) (a1 : Int) (r1 : Int) (r2 : List S55) (w0 w : World) (hB : Below w0.heap.size w0 w) (ho0_3 : Kd.S ka55 55 w w0.heap.size P0_3_ u9000_ l0_3) (h : laws_markModel.f k a0_0 a0_1 a0_2 l0_3 a1 = some (r1, r2)) :
    Calls Tryz.prog 9 #[.agg #[.int .i64 a0_0, .int .i64 a0_1, .int .i64 a0_2, u9000_], .int .i64 a1] w fun e w' => e = .returned (.int .i64 r1) ∧ Kd.S ka55 55 w' w0.heap.size P0_3_ u9000_ r2 ∧ Below w0.heap.size w0 w' ∧ Kept w w' P0_3_ := by
  obtain ⟨rfl, rfl⟩ := Prod.mk.inj (Option.some.inj h)
  have hu26 := Tryz.underlying26; have HO := Aside0.mk ho0_3; have HB := Aside0.mk hB; have HK := Aside0.mk (Kept.refl w P0_3_)
  obtain ⟨A0, c0, rfl⟩ := Kd.S_slice ho0_3
  clear ho0_3 hB h
  go_enter Tryz.func9, Tryz.ntmps9
  go_wp2_with (first
    | ((with_reducible refine gate_dst (N := 2) rfl ?_); refine bz_ 2 ?_; intro gb hg w5 hbox hb; replace HO := Aside0.mk (Kd.S_below (sa_ HO.out) hb); have GK : Aside0 (w.heap.size ≤ gb) := ⟨by rw [hg]; exact Nat.le_refl _⟩; replace HK := Aside0.mk (Kept.below (S := P0_3_) (by repeat (first | (with_reducible first | exact HK.out | apply Kept.alloc | apply Kept.drewN | apply Kept.drew) | exact HK.out)) hb); obtain ⟨BK, GW, GE, HB⟩ := nb_ hg hbox HB hb; clear hb hbox hg; have hcz6 := box4_ BK.out)
    | ((with_reducible refine gc_ 35 ?_); refine gw_ (some 8) Tryz.func35 ?_; (with_reducible refine (markL_walk (fun k_ => P0_3_ k_ ∧ k_ ≠ gb) (.slice A0 l0_3.length c0) l0_3 a1 w0 _ ?s1 ?s2).mono ?_); (case s1 => exact be_ HB.out); (case s2 => exact sa_ (Kd.S_types HO.out BK.out (by decide))); rintro e w6 ⟨rfl, hS, hb2, hk2⟩; refine ⟨_, rfl, ?_⟩; have H1 := Aside0.mk hS; have H2 := Aside0.mk hb2; have H3 := Aside0.mk (Kept.then_ (S := P0_3_) (by repeat (first | (with_reducible first | exact HK.out | apply Kept.alloc | apply Kept.drewN | apply Kept.drew | refine Kept.setCell ?_ (.inr GK.out) _) | exact HK.out)) hk2 (fun k_ hk => .inl hk.1)); clear hS hb2 hk2))
  go_ret
  exact ⟨rfl, Kd.S_mono (sa_ H1.out) (fun _ hk => hk.1), by first | exact H2.out | exact be_ H2.out | exact below_drew1 H2.out, by first | exact H3.out | exact Kept.drew H3.out⟩


def laws_heldIntS.l0 : Nat → List Int → Int → Int → Option (Int)
 | 0, _, _, _ => none
 | k + 1, x0, x1, x5 => if x5 < (x0.length : Int) then (if 0 ≤ x5 then (if (rd x0 x5) = x1 then (laws_heldIntS.l0 k x0 (wrap64 (x1 + 1)) (wrap64 (x5 + 1))) else (some (-1))) else (none)) else (some x1)
def laws_heldIntS.f (k : Nat) (l0 : List Int) (a1 : Int) : Option (Int) := laws_heldIntS.l0 k l0 a1 0
set_option maxHeartbeats 8000000 in
set_option maxRecDepth 100000 in
theorem laws_heldIntS.calls {k : Nat} {A0 : Option Addr} {c0 : Nat} {l0 : List Int} {a1 : Int} {r : Int} {w : World} (hr0 : Kd.C (Kd.int .i64) w A0 l0.length l0) (hc0 : l0.length ≤ c0) (h : laws_heldIntS.f k l0 a1 = some r) :
  Calls Tryz.prog 77 #[.slice A0 l0.length c0, .int .i64 a1] w fun e w' => e = .returned (.int .i64 r) ∧ Drawn0 w w' := by
 have HR0 := Aside0.mk hr0; have HC0 := Aside0.mk hc0; clear hr0 hc0; have H : (laws_heldIntS.l0 k l0 a1 0) = some r := h; clear h; have H' := Aside0.mk H; clear H
 go_enter Tryz.func77, Tryz.ntmps77
 go_wp2
 go_loopg [1, 5] k (fun kq v1 v5 w' => ∃ (x1_1 : Int) (x5_1 : Int), v1 = .int .i64 x1_1 ∧ v5 = .int .i64 x5_1 ∧ Aside0 (laws_heldIntS.l0 kq l0 x1_1 x5_1 = some r) ∧ Aside0 (kq ≤ k) ∧ Drawn0 w w')
 case atStart => exact ⟨(a1), (0), rl_, rl_, H', ⟨Nat.le_refl _⟩, by repeat (first | exact Drawn0.refl _ | apply Drawn0.step)⟩
 case round =>
  clear H'; (try clear p2); obtain ⟨x1_1, x5_1, rfl, rfl, HA, HK1, ⟨m1, rfl⟩⟩ := hrel
  cases gk with
  | zero => exact absurd HA.out (by simp [laws_heldIntS.l0])
  | succ k1 =>
   have H := HA.out; clear HA; simp only [laws_heldIntS.l0] at H
   by_cases c3 : x5_1 < (l0.length : Int)
   ·
    rw [if_pos c3] at H; have c3b0 : decide (x5_1 < (l0.length : Int)) = true := dt_ c3; clear c3
    by_cases c4 : 0 ≤ x5_1
    ·
     rw [if_pos c4] at H; have c4b0 : decide (0 ≤ x5_1) = true := dt_ c4; clear c4
     by_cases c5 : (rd l0 x5_1) = x1_1
     ·
      rw [if_pos c5] at H; have c5b0 : ((rd l0 x5_1) == x1_1) = true := eq1_ c5; have c5b1 : ((rd l0 x5_1) != x1_1) = false := ne0_ c5; clear c5; have H' := Aside0.mk H; clear H; have p499 : 0 ≤ (x5_1 : Int) := od_; have q499 : x5_1 < (l0.length : Int) := od_; obtain ⟨ad499, e499, hx499_0⟩ := Kd.at_int HR0.out x5_1 p499 q499
      cases e499
      replace p499 := eq_true p499; replace q499 := eq_true q499
      go_wp2
      go_roundg k1
      case measure => have := HK1.out; omega
      case rel => exact ⟨(wrap64 (x1_1 + 1)), (wrap64 (x5_1 + 1)), rl_, rl_, H', ⟨by have := HK1.out; omega⟩, by repeat (first | exact Drawn0.refl _ | apply Drawn0.step)⟩
     ·
      rw [if_neg c5] at H; have c5b0 : ((rd l0 x5_1) == x1_1) = false := eq0_ c5; have c5b1 : ((rd l0 x5_1) != x1_1) = true := ne1_ c5; obtain rfl := oi_ H; have p499 : 0 ≤ (x5_1 : Int) := od_; have q499 : x5_1 < (l0.length : Int) := od_; obtain ⟨ad499, e499, hx499_0⟩ := Kd.at_int HR0.out x5_1 p499 q499
      cases e499
      replace p499 := eq_true p499; replace q499 := eq_true q499
      go_wp2
      go_ret
      exact ⟨by first | rfl | (simp; done) | (simp [*]; done), by repeat (first | exact Drawn0.refl _ | apply Drawn0.step)⟩
    ·
     rw [if_neg c4] at H; exact absurd H (by simp)
   ·
    rw [if_neg c3] at H; have c3b0 : decide (x5_1 < (l0.length : Int)) = false := df_ c3; clear c3; obtain rfl := oi_ H
    go_wp2
    go_ret
    exact ⟨by first | rfl | (simp; done) | (simp [*]; done), by repeat (first | exact Drawn0.refl _ | apply Drawn0.step)⟩

def laws_heldLayerS.l0 : Nat → List (S55) → Int → Int → Option (Int)
 | 0, _, _, _ => none
 | k + 1, x0, x1, x5 => if x5 < (x0.length : Int) then (if 0 ≤ x5 then (if ((rd_T55 x0 x5).f0) = x1 then (if ((rd_T55 x0 x5).f1) = (wrap64 (x1 + 1)) then (if ((rd_T55 x0 x5).f2) = (wrap64 ((wrap64 (x1 + 1)) + 1)) then (if ((rd_T55 x0 x5).f3) = (wrap64 ((wrap64 ((wrap64 (x1 + 1)) + 1)) + 1)) then (if ((rd_T55 x0 x5).f4) = (wrap64 ((wrap64 ((wrap64 ((wrap64 (x1 + 1)) + 1)) + 1)) + 1)) then (if ((rd_T55 x0 x5).f5) = (wrap64 ((wrap64 ((wrap64 ((wrap64 ((wrap64 (x1 + 1)) + 1)) + 1)) + 1)) + 1)) then (if ((rd_T55 x0 x5).f6) = (wrap64 ((wrap64 ((wrap64 ((wrap64 ((wrap64 ((wrap64 (x1 + 1)) + 1)) + 1)) + 1)) + 1)) + 1)) then ((laws_heldIntS.f k ((rd_T55 x0 x5).f7) (wrap64 ((wrap64 ((wrap64 ((wrap64 ((wrap64 ((wrap64 ((wrap64 (x1 + 1)) + 1)) + 1)) + 1)) + 1)) + 1)) + 1))).bind fun t508 => (if t508 < 0 then (some (-1)) else ((laws_heldIntS.f k ((rd_T55 x0 x5).f8) t508).bind fun t510 => (if t510 < 0 then (some (-1)) else (laws_heldLayerS.l0 k x0 t510 (wrap64 (x5 + 1))))))) else (some (-1))) else (some (-1))) else (some (-1))) else (some (-1))) else (some (-1))) else (some (-1))) else (some (-1))) else (none)) else (some x1)
def laws_heldLayerS.f (k : Nat) (l0 : List (S55)) (a1 : Int) : Option (Int) := laws_heldLayerS.l0 k l0 a1 0
set_option maxHeartbeats 8000000 in
set_option maxRecDepth 100000 in
theorem laws_heldLayerS.calls {k : Nat} {A0 : Option Addr} {c0 : Nat} {l0 : List (S55)} {a1 : Int} {r : Int} {w : World} (hr0 : Kd.C k55 w A0 l0.length l0) (hc0 : l0.length ≤ c0) (h : laws_heldLayerS.f k l0 a1 = some r) :
  Calls Tryz.prog 36 #[.slice A0 l0.length c0, .int .i64 a1] w fun e w' => e = .returned (.int .i64 r) ∧ Drawn0 w w' := by
 have HR0 := Aside0.mk hr0; have HC0 := Aside0.mk hc0; clear hr0 hc0; have H : (laws_heldLayerS.l0 k l0 a1 0) = some r := h; clear h; have H' := Aside0.mk H; clear H
 go_enter Tryz.func36, Tryz.ntmps36
 go_wp2
 go_loopg [1, 5] k (fun kq v1 v5 w' => ∃ (x1_1 : Int) (x5_1 : Int), v1 = .int .i64 x1_1 ∧ v5 = .int .i64 x5_1 ∧ Aside0 (laws_heldLayerS.l0 kq l0 x1_1 x5_1 = some r) ∧ Aside0 (kq ≤ k) ∧ Drawn0 w w')
 case atStart => exact ⟨(a1), (0), rl_, rl_, H', ⟨Nat.le_refl _⟩, by repeat (first | exact Drawn0.refl _ | apply Drawn0.step)⟩
 case round =>
  clear H'; (try clear p2); obtain ⟨x1_1, x5_1, rfl, rfl, HA, HK1, ⟨m1, rfl⟩⟩ := hrel
  cases gk with
  | zero => exact absurd HA.out (by simp [laws_heldLayerS.l0])
  | succ k1 =>
   have H := HA.out; clear HA; simp only [laws_heldLayerS.l0] at H
   by_cases c3 : x5_1 < (l0.length : Int)
   ·
    rw [if_pos c3] at H; have c3b0 : decide (x5_1 < (l0.length : Int)) = true := dt_ c3; clear c3
    by_cases c4 : 0 ≤ x5_1
    ·
     rw [if_pos c4] at H; have c4b0 : decide (0 ≤ x5_1) = true := dt_ c4; clear c4
     by_cases c5 : ((rd_T55 l0 x5_1).f0) = x1_1
     ·
      rw [if_pos c5] at H; have c5b0 : (((rd_T55 l0 x5_1).f0) == x1_1) = true := eq1_ c5; have c5b1 : (((rd_T55 l0 x5_1).f0) != x1_1) = false := ne0_ c5; clear c5
      by_cases c6 : ((rd_T55 l0 x5_1).f1) = (wrap64 (x1_1 + 1))
      ·
       rw [if_pos c6] at H; have c6b0 : (((rd_T55 l0 x5_1).f1) == (wrap64 (x1_1 + 1))) = true := eq1_ c6; have c6b1 : (((rd_T55 l0 x5_1).f1) != (wrap64 (x1_1 + 1))) = false := ne0_ c6; clear c6
       by_cases c7 : ((rd_T55 l0 x5_1).f2) = (wrap64 ((wrap64 (x1_1 + 1)) + 1))
       ·
        rw [if_pos c7] at H; have c7b0 : (((rd_T55 l0 x5_1).f2) == (wrap64 ((wrap64 (x1_1 + 1)) + 1))) = true := eq1_ c7; have c7b1 : (((rd_T55 l0 x5_1).f2) != (wrap64 ((wrap64 (x1_1 + 1)) + 1))) = false := ne0_ c7; clear c7
        by_cases c8 : ((rd_T55 l0 x5_1).f3) = (wrap64 ((wrap64 ((wrap64 (x1_1 + 1)) + 1)) + 1))
        ·
         rw [if_pos c8] at H; have c8b0 : (((rd_T55 l0 x5_1).f3) == (wrap64 ((wrap64 ((wrap64 (x1_1 + 1)) + 1)) + 1))) = true := eq1_ c8; have c8b1 : (((rd_T55 l0 x5_1).f3) != (wrap64 ((wrap64 ((wrap64 (x1_1 + 1)) + 1)) + 1))) = false := ne0_ c8; clear c8
         by_cases c9 : ((rd_T55 l0 x5_1).f4) = (wrap64 ((wrap64 ((wrap64 ((wrap64 (x1_1 + 1)) + 1)) + 1)) + 1))
         ·
          rw [if_pos c9] at H; have c9b0 : (((rd_T55 l0 x5_1).f4) == (wrap64 ((wrap64 ((wrap64 ((wrap64 (x1_1 + 1)) + 1)) + 1)) + 1))) = true := eq1_ c9; have c9b1 : (((rd_T55 l0 x5_1).f4) != (wrap64 ((wrap64 ((wrap64 ((wrap64 (x1_1 + 1)) + 1)) + 1)) + 1))) = false := ne0_ c9; clear c9
          by_cases c10 : ((rd_T55 l0 x5_1).f5) = (wrap64 ((wrap64 ((wrap64 ((wrap64 ((wrap64 (x1_1 + 1)) + 1)) + 1)) + 1)) + 1))
          ·
           rw [if_pos c10] at H; have c10b0 : (((rd_T55 l0 x5_1).f5) == (wrap64 ((wrap64 ((wrap64 ((wrap64 ((wrap64 (x1_1 + 1)) + 1)) + 1)) + 1)) + 1))) = true := eq1_ c10; have c10b1 : (((rd_T55 l0 x5_1).f5) != (wrap64 ((wrap64 ((wrap64 ((wrap64 ((wrap64 (x1_1 + 1)) + 1)) + 1)) + 1)) + 1))) = false := ne0_ c10; clear c10
           by_cases c11 : ((rd_T55 l0 x5_1).f6) = (wrap64 ((wrap64 ((wrap64 ((wrap64 ((wrap64 ((wrap64 (x1_1 + 1)) + 1)) + 1)) + 1)) + 1)) + 1))
           ·
            rw [if_pos c11] at H; have c11b0 : (((rd_T55 l0 x5_1).f6) == (wrap64 ((wrap64 ((wrap64 ((wrap64 ((wrap64 ((wrap64 (x1_1 + 1)) + 1)) + 1)) + 1)) + 1)) + 1))) = true := eq1_ c11; have c11b1 : (((rd_T55 l0 x5_1).f6) != (wrap64 ((wrap64 ((wrap64 ((wrap64 ((wrap64 ((wrap64 (x1_1 + 1)) + 1)) + 1)) + 1)) + 1)) + 1))) = false := ne0_ c11; clear c11; obtain ⟨t508, A12, H⟩ := bo_ H; (try dsimp only at H)
            by_cases c13 : t508 < 0
            ·
             rw [if_pos c13] at H; have c13b0 : decide (t508 < 0) = true := dt_ c13; clear c13; obtain rfl := oi_ H; have p500 : 0 ≤ (x5_1 : Int) := od_; have q500 : x5_1 < (l0.length : Int) := od_; obtain ⟨ad500, A500_7, c500_7, A500_8, c500_8, e500, hx500_0, hx500_1, hx500_2, hx500_3, hx500_4, hx500_5, hx500_6, hx500_7, hx500_8, hl500_7, hi500_7, hl500_8, hi500_8⟩ := at_T55 HR0.out x5_1 p500 q500
             cases e500
             have HR500_7 := Aside0.mk hi500_7; have HC500_7 := Aside0.mk hl500_7; clear hi500_7 hl500_7; have HR500_8 := Aside0.mk hi500_8; have HC500_8 := Aside0.mk hl500_8; clear hi500_8 hl500_8; replace p500 := eq_true p500; replace q500 := eq_true q500; have p501 : 0 ≤ (x5_1 : Int) := od_; have q501 : x5_1 < (l0.length : Int) := od_; obtain ⟨ad501, A501_7, c501_7, A501_8, c501_8, e501, hx501_0, hx501_1, hx501_2, hx501_3, hx501_4, hx501_5, hx501_6, hx501_7, hx501_8, hl501_7, hi501_7, hl501_8, hi501_8⟩ := at_T55 HR0.out x5_1 p501 q501; obtain rfl : ad500 = ad501 := (by injection e501); have HR501_7 := Aside0.mk hi501_7; have HC501_7 := Aside0.mk hl501_7; clear hi501_7 hl501_7; have HR501_8 := Aside0.mk hi501_8; have HC501_8 := Aside0.mk hl501_8; clear hi501_8 hl501_8; replace p501 := eq_true p501; replace q501 := eq_true q501; have ea_ := Option.some.inj (hx500_7.symm.trans hx501_7)
             injection ea_ with ea_ en_ ec_
             subst ea_; subst ec_; clear en_; have ea_ := Option.some.inj (hx500_8.symm.trans hx501_8)
             injection ea_ with ea_ en_ ec_
             subst ea_; subst ec_; clear en_; have p502 : 0 ≤ (x5_1 : Int) := od_; have q502 : x5_1 < (l0.length : Int) := od_; obtain ⟨ad502, A502_7, c502_7, A502_8, c502_8, e502, hx502_0, hx502_1, hx502_2, hx502_3, hx502_4, hx502_5, hx502_6, hx502_7, hx502_8, hl502_7, hi502_7, hl502_8, hi502_8⟩ := at_T55 HR0.out x5_1 p502 q502; obtain rfl : ad500 = ad502 := (by injection e502); have HR502_7 := Aside0.mk hi502_7; have HC502_7 := Aside0.mk hl502_7; clear hi502_7 hl502_7; have HR502_8 := Aside0.mk hi502_8; have HC502_8 := Aside0.mk hl502_8; clear hi502_8 hl502_8; replace p502 := eq_true p502; replace q502 := eq_true q502; have ea_ := Option.some.inj (hx500_7.symm.trans hx502_7)
             injection ea_ with ea_ en_ ec_
             subst ea_; subst ec_; clear en_; have ea_ := Option.some.inj (hx500_8.symm.trans hx502_8)
             injection ea_ with ea_ en_ ec_
             subst ea_; subst ec_; clear en_; have p503 : 0 ≤ (x5_1 : Int) := od_; have q503 : x5_1 < (l0.length : Int) := od_; obtain ⟨ad503, A503_7, c503_7, A503_8, c503_8, e503, hx503_0, hx503_1, hx503_2, hx503_3, hx503_4, hx503_5, hx503_6, hx503_7, hx503_8, hl503_7, hi503_7, hl503_8, hi503_8⟩ := at_T55 HR0.out x5_1 p503 q503; obtain rfl : ad500 = ad503 := (by injection e503); have HR503_7 := Aside0.mk hi503_7; have HC503_7 := Aside0.mk hl503_7; clear hi503_7 hl503_7; have HR503_8 := Aside0.mk hi503_8; have HC503_8 := Aside0.mk hl503_8; clear hi503_8 hl503_8; replace p503 := eq_true p503; replace q503 := eq_true q503; have ea_ := Option.some.inj (hx500_7.symm.trans hx503_7)
             injection ea_ with ea_ en_ ec_
             subst ea_; subst ec_; clear en_; have ea_ := Option.some.inj (hx500_8.symm.trans hx503_8)
             injection ea_ with ea_ en_ ec_
             subst ea_; subst ec_; clear en_; have p504 : 0 ≤ (x5_1 : Int) := od_; have q504 : x5_1 < (l0.length : Int) := od_; obtain ⟨ad504, A504_7, c504_7, A504_8, c504_8, e504, hx504_0, hx504_1, hx504_2, hx504_3, hx504_4, hx504_5, hx504_6, hx504_7, hx504_8, hl504_7, hi504_7, hl504_8, hi504_8⟩ := at_T55 HR0.out x5_1 p504 q504; obtain rfl : ad500 = ad504 := (by injection e504); have HR504_7 := Aside0.mk hi504_7; have HC504_7 := Aside0.mk hl504_7; clear hi504_7 hl504_7; have HR504_8 := Aside0.mk hi504_8; have HC504_8 := Aside0.mk hl504_8; clear hi504_8 hl504_8; replace p504 := eq_true p504; replace q504 := eq_true q504; have ea_ := Option.some.inj (hx500_7.symm.trans hx504_7)
             injection ea_ with ea_ en_ ec_
             subst ea_; subst ec_; clear en_; have ea_ := Option.some.inj (hx500_8.symm.trans hx504_8)
             injection ea_ with ea_ en_ ec_
             subst ea_; subst ec_; clear en_; have p505 : 0 ≤ (x5_1 : Int) := od_; have q505 : x5_1 < (l0.length : Int) := od_; obtain ⟨ad505, A505_7, c505_7, A505_8, c505_8, e505, hx505_0, hx505_1, hx505_2, hx505_3, hx505_4, hx505_5, hx505_6, hx505_7, hx505_8, hl505_7, hi505_7, hl505_8, hi505_8⟩ := at_T55 HR0.out x5_1 p505 q505; obtain rfl : ad500 = ad505 := (by injection e505); have HR505_7 := Aside0.mk hi505_7; have HC505_7 := Aside0.mk hl505_7; clear hi505_7 hl505_7; have HR505_8 := Aside0.mk hi505_8; have HC505_8 := Aside0.mk hl505_8; clear hi505_8 hl505_8; replace p505 := eq_true p505; replace q505 := eq_true q505; have ea_ := Option.some.inj (hx500_7.symm.trans hx505_7)
             injection ea_ with ea_ en_ ec_
             subst ea_; subst ec_; clear en_; have ea_ := Option.some.inj (hx500_8.symm.trans hx505_8)
             injection ea_ with ea_ en_ ec_
             subst ea_; subst ec_; clear en_; have p506 : 0 ≤ (x5_1 : Int) := od_; have q506 : x5_1 < (l0.length : Int) := od_; obtain ⟨ad506, A506_7, c506_7, A506_8, c506_8, e506, hx506_0, hx506_1, hx506_2, hx506_3, hx506_4, hx506_5, hx506_6, hx506_7, hx506_8, hl506_7, hi506_7, hl506_8, hi506_8⟩ := at_T55 HR0.out x5_1 p506 q506; obtain rfl : ad500 = ad506 := (by injection e506); have HR506_7 := Aside0.mk hi506_7; have HC506_7 := Aside0.mk hl506_7; clear hi506_7 hl506_7; have HR506_8 := Aside0.mk hi506_8; have HC506_8 := Aside0.mk hl506_8; clear hi506_8 hl506_8; replace p506 := eq_true p506; replace q506 := eq_true q506; have ea_ := Option.some.inj (hx500_7.symm.trans hx506_7)
             injection ea_ with ea_ en_ ec_
             subst ea_; subst ec_; clear en_; have ea_ := Option.some.inj (hx500_8.symm.trans hx506_8)
             injection ea_ with ea_ en_ ec_
             subst ea_; subst ec_; clear en_; have p507 : 0 ≤ (x5_1 : Int) := od_; have q507 : x5_1 < (l0.length : Int) := od_; obtain ⟨ad507, A507_7, c507_7, A507_8, c507_8, e507, hx507_0, hx507_1, hx507_2, hx507_3, hx507_4, hx507_5, hx507_6, hx507_7, hx507_8, hl507_7, hi507_7, hl507_8, hi507_8⟩ := at_T55 HR0.out x5_1 p507 q507; obtain rfl : ad500 = ad507 := (by injection e507); have HR507_7 := Aside0.mk hi507_7; have HC507_7 := Aside0.mk hl507_7; clear hi507_7 hl507_7; have HR507_8 := Aside0.mk hi507_8; have HC507_8 := Aside0.mk hl507_8; clear hi507_8 hl507_8; replace p507 := eq_true p507; replace q507 := eq_true q507; have ea_ := Option.some.inj (hx500_7.symm.trans hx507_7)
             injection ea_ with ea_ en_ ec_
             subst ea_; subst ec_; clear en_; have ea_ := Option.some.inj (hx500_8.symm.trans hx507_8)
             injection ea_ with ea_ en_ ec_
             subst ea_; subst ec_; clear en_
             go_wp2_with (first | ((with_reducible refine gc_ 77 ?_); refine gw_ (some 81) Tryz.func77 ?_; (with_reducible refine (laws_heldIntS.calls ?side1 ?side2 A12.out).mono ?_); (case side1 => repeat (first | exact HR507_7.out | (with_reducible refine Kd.C_alloc ?_ _) | (with_reducible refine Kd.C_drewN ?_ _) | (with_reducible refine Kd.C_drew ?_))); (case side2 => exact HC507_7.out); rintro e w' ⟨rfl, ⟨nd, rfl⟩⟩; refine ⟨_, rfl, ?_⟩))
             go_ret
             exact ⟨by first | rfl | (simp; done) | (simp [*]; done), by repeat (first | exact Drawn0.refl _ | apply Drawn0.step)⟩
            ·
             rw [if_neg c13] at H; have c13b0 : decide (t508 < 0) = false := df_ c13; clear c13; obtain ⟨t510, A14, H⟩ := bo_ H; (try dsimp only at H)
             by_cases c15 : t510 < 0
             ·
              rw [if_pos c15] at H; have c15b0 : decide (t510 < 0) = true := dt_ c15; clear c15; obtain rfl := oi_ H; have p500 : 0 ≤ (x5_1 : Int) := od_; have q500 : x5_1 < (l0.length : Int) := od_; obtain ⟨ad500, A500_7, c500_7, A500_8, c500_8, e500, hx500_0, hx500_1, hx500_2, hx500_3, hx500_4, hx500_5, hx500_6, hx500_7, hx500_8, hl500_7, hi500_7, hl500_8, hi500_8⟩ := at_T55 HR0.out x5_1 p500 q500
              cases e500
              have HR500_7 := Aside0.mk hi500_7; have HC500_7 := Aside0.mk hl500_7; clear hi500_7 hl500_7; have HR500_8 := Aside0.mk hi500_8; have HC500_8 := Aside0.mk hl500_8; clear hi500_8 hl500_8; replace p500 := eq_true p500; replace q500 := eq_true q500; have p501 : 0 ≤ (x5_1 : Int) := od_; have q501 : x5_1 < (l0.length : Int) := od_; obtain ⟨ad501, A501_7, c501_7, A501_8, c501_8, e501, hx501_0, hx501_1, hx501_2, hx501_3, hx501_4, hx501_5, hx501_6, hx501_7, hx501_8, hl501_7, hi501_7, hl501_8, hi501_8⟩ := at_T55 HR0.out x5_1 p501 q501; obtain rfl : ad500 = ad501 := (by injection e501); have HR501_7 := Aside0.mk hi501_7; have HC501_7 := Aside0.mk hl501_7; clear hi501_7 hl501_7; have HR501_8 := Aside0.mk hi501_8; have HC501_8 := Aside0.mk hl501_8; clear hi501_8 hl501_8; replace p501 := eq_true p501; replace q501 := eq_true q501; have ea_ := Option.some.inj (hx500_7.symm.trans hx501_7)
              injection ea_ with ea_ en_ ec_
              subst ea_; subst ec_; clear en_; have ea_ := Option.some.inj (hx500_8.symm.trans hx501_8)
              injection ea_ with ea_ en_ ec_
              subst ea_; subst ec_; clear en_; have p502 : 0 ≤ (x5_1 : Int) := od_; have q502 : x5_1 < (l0.length : Int) := od_; obtain ⟨ad502, A502_7, c502_7, A502_8, c502_8, e502, hx502_0, hx502_1, hx502_2, hx502_3, hx502_4, hx502_5, hx502_6, hx502_7, hx502_8, hl502_7, hi502_7, hl502_8, hi502_8⟩ := at_T55 HR0.out x5_1 p502 q502; obtain rfl : ad500 = ad502 := (by injection e502); have HR502_7 := Aside0.mk hi502_7; have HC502_7 := Aside0.mk hl502_7; clear hi502_7 hl502_7; have HR502_8 := Aside0.mk hi502_8; have HC502_8 := Aside0.mk hl502_8; clear hi502_8 hl502_8; replace p502 := eq_true p502; replace q502 := eq_true q502; have ea_ := Option.some.inj (hx500_7.symm.trans hx502_7)
              injection ea_ with ea_ en_ ec_
              subst ea_; subst ec_; clear en_; have ea_ := Option.some.inj (hx500_8.symm.trans hx502_8)
              injection ea_ with ea_ en_ ec_
              subst ea_; subst ec_; clear en_; have p503 : 0 ≤ (x5_1 : Int) := od_; have q503 : x5_1 < (l0.length : Int) := od_; obtain ⟨ad503, A503_7, c503_7, A503_8, c503_8, e503, hx503_0, hx503_1, hx503_2, hx503_3, hx503_4, hx503_5, hx503_6, hx503_7, hx503_8, hl503_7, hi503_7, hl503_8, hi503_8⟩ := at_T55 HR0.out x5_1 p503 q503; obtain rfl : ad500 = ad503 := (by injection e503); have HR503_7 := Aside0.mk hi503_7; have HC503_7 := Aside0.mk hl503_7; clear hi503_7 hl503_7; have HR503_8 := Aside0.mk hi503_8; have HC503_8 := Aside0.mk hl503_8; clear hi503_8 hl503_8; replace p503 := eq_true p503; replace q503 := eq_true q503; have ea_ := Option.some.inj (hx500_7.symm.trans hx503_7)
              injection ea_ with ea_ en_ ec_
              subst ea_; subst ec_; clear en_; have ea_ := Option.some.inj (hx500_8.symm.trans hx503_8)
              injection ea_ with ea_ en_ ec_
              subst ea_; subst ec_; clear en_; have p504 : 0 ≤ (x5_1 : Int) := od_; have q504 : x5_1 < (l0.length : Int) := od_; obtain ⟨ad504, A504_7, c504_7, A504_8, c504_8, e504, hx504_0, hx504_1, hx504_2, hx504_3, hx504_4, hx504_5, hx504_6, hx504_7, hx504_8, hl504_7, hi504_7, hl504_8, hi504_8⟩ := at_T55 HR0.out x5_1 p504 q504; obtain rfl : ad500 = ad504 := (by injection e504); have HR504_7 := Aside0.mk hi504_7; have HC504_7 := Aside0.mk hl504_7; clear hi504_7 hl504_7; have HR504_8 := Aside0.mk hi504_8; have HC504_8 := Aside0.mk hl504_8; clear hi504_8 hl504_8; replace p504 := eq_true p504; replace q504 := eq_true q504; have ea_ := Option.some.inj (hx500_7.symm.trans hx504_7)
              injection ea_ with ea_ en_ ec_
              subst ea_; subst ec_; clear en_; have ea_ := Option.some.inj (hx500_8.symm.trans hx504_8)
              injection ea_ with ea_ en_ ec_
              subst ea_; subst ec_; clear en_; have p505 : 0 ≤ (x5_1 : Int) := od_; have q505 : x5_1 < (l0.length : Int) := od_; obtain ⟨ad505, A505_7, c505_7, A505_8, c505_8, e505, hx505_0, hx505_1, hx505_2, hx505_3, hx505_4, hx505_5, hx505_6, hx505_7, hx505_8, hl505_7, hi505_7, hl505_8, hi505_8⟩ := at_T55 HR0.out x5_1 p505 q505; obtain rfl : ad500 = ad505 := (by injection e505); have HR505_7 := Aside0.mk hi505_7; have HC505_7 := Aside0.mk hl505_7; clear hi505_7 hl505_7; have HR505_8 := Aside0.mk hi505_8; have HC505_8 := Aside0.mk hl505_8; clear hi505_8 hl505_8; replace p505 := eq_true p505; replace q505 := eq_true q505; have ea_ := Option.some.inj (hx500_7.symm.trans hx505_7)
              injection ea_ with ea_ en_ ec_
              subst ea_; subst ec_; clear en_; have ea_ := Option.some.inj (hx500_8.symm.trans hx505_8)
              injection ea_ with ea_ en_ ec_
              subst ea_; subst ec_; clear en_; have p506 : 0 ≤ (x5_1 : Int) := od_; have q506 : x5_1 < (l0.length : Int) := od_; obtain ⟨ad506, A506_7, c506_7, A506_8, c506_8, e506, hx506_0, hx506_1, hx506_2, hx506_3, hx506_4, hx506_5, hx506_6, hx506_7, hx506_8, hl506_7, hi506_7, hl506_8, hi506_8⟩ := at_T55 HR0.out x5_1 p506 q506; obtain rfl : ad500 = ad506 := (by injection e506); have HR506_7 := Aside0.mk hi506_7; have HC506_7 := Aside0.mk hl506_7; clear hi506_7 hl506_7; have HR506_8 := Aside0.mk hi506_8; have HC506_8 := Aside0.mk hl506_8; clear hi506_8 hl506_8; replace p506 := eq_true p506; replace q506 := eq_true q506; have ea_ := Option.some.inj (hx500_7.symm.trans hx506_7)
              injection ea_ with ea_ en_ ec_
              subst ea_; subst ec_; clear en_; have ea_ := Option.some.inj (hx500_8.symm.trans hx506_8)
              injection ea_ with ea_ en_ ec_
              subst ea_; subst ec_; clear en_; have p507 : 0 ≤ (x5_1 : Int) := od_; have q507 : x5_1 < (l0.length : Int) := od_; obtain ⟨ad507, A507_7, c507_7, A507_8, c507_8, e507, hx507_0, hx507_1, hx507_2, hx507_3, hx507_4, hx507_5, hx507_6, hx507_7, hx507_8, hl507_7, hi507_7, hl507_8, hi507_8⟩ := at_T55 HR0.out x5_1 p507 q507; obtain rfl : ad500 = ad507 := (by injection e507); have HR507_7 := Aside0.mk hi507_7; have HC507_7 := Aside0.mk hl507_7; clear hi507_7 hl507_7; have HR507_8 := Aside0.mk hi507_8; have HC507_8 := Aside0.mk hl507_8; clear hi507_8 hl507_8; replace p507 := eq_true p507; replace q507 := eq_true q507; have ea_ := Option.some.inj (hx500_7.symm.trans hx507_7)
              injection ea_ with ea_ en_ ec_
              subst ea_; subst ec_; clear en_; have ea_ := Option.some.inj (hx500_8.symm.trans hx507_8)
              injection ea_ with ea_ en_ ec_
              subst ea_; subst ec_; clear en_
              go_wp2_with (first | ((with_reducible refine gc_ 77 ?_); refine gw_ (some 81) Tryz.func77 ?_; (with_reducible refine (laws_heldIntS.calls ?side1 ?side2 A12.out).mono ?_); (case side1 => repeat (first | exact HR507_7.out | (with_reducible refine Kd.C_alloc ?_ _) | (with_reducible refine Kd.C_drewN ?_ _) | (with_reducible refine Kd.C_drew ?_))); (case side2 => exact HC507_7.out); rintro e w' ⟨rfl, ⟨nd, rfl⟩⟩; refine ⟨_, rfl, ?_⟩; have p509 : 0 ≤ (x5_1 : Int) := od_; have q509 : x5_1 < (l0.length : Int) := od_; obtain ⟨ad509, A509_7, c509_7, A509_8, c509_8, e509, hx509_0, hx509_1, hx509_2, hx509_3, hx509_4, hx509_5, hx509_6, hx509_7, hx509_8, hl509_7, hi509_7, hl509_8, hi509_8⟩ := at_T55 HR0.out x5_1 p509 q509; obtain rfl : ad500 = ad509 := (by injection e509); have HR509_7 := Aside0.mk hi509_7; have HC509_7 := Aside0.mk hl509_7; clear hi509_7 hl509_7; have HR509_8 := Aside0.mk hi509_8; have HC509_8 := Aside0.mk hl509_8; clear hi509_8 hl509_8; replace p509 := eq_true p509; replace q509 := eq_true q509; have ea_ := Option.some.inj (hx500_7.symm.trans hx509_7); injection ea_ with ea_ en_ ec_; subst ea_; subst ec_; clear en_; have ea_ := Option.some.inj (hx500_8.symm.trans hx509_8); injection ea_ with ea_ en_ ec_; subst ea_; subst ec_; clear en_) | ((with_reducible refine gc_ 77 ?_); refine gw_ (some 90) Tryz.func77 ?_; (with_reducible refine (laws_heldIntS.calls ?side1 ?side2 A14.out).mono ?_); (case side1 => repeat (first | exact HR509_8.out | (with_reducible refine Kd.C_alloc ?_ _) | (with_reducible refine Kd.C_drewN ?_ _) | (with_reducible refine Kd.C_drew ?_))); (case side2 => exact HC509_8.out); rintro e w' ⟨rfl, ⟨nd, rfl⟩⟩; refine ⟨_, rfl, ?_⟩))
              go_ret
              exact ⟨by first | rfl | (simp; done) | (simp [*]; done), by repeat (first | exact Drawn0.refl _ | apply Drawn0.step)⟩
             ·
              rw [if_neg c15] at H; have c15b0 : decide (t510 < 0) = false := df_ c15; clear c15; have H' := Aside0.mk H; clear H; have p500 : 0 ≤ (x5_1 : Int) := od_; have q500 : x5_1 < (l0.length : Int) := od_; obtain ⟨ad500, A500_7, c500_7, A500_8, c500_8, e500, hx500_0, hx500_1, hx500_2, hx500_3, hx500_4, hx500_5, hx500_6, hx500_7, hx500_8, hl500_7, hi500_7, hl500_8, hi500_8⟩ := at_T55 HR0.out x5_1 p500 q500
              cases e500
              have HR500_7 := Aside0.mk hi500_7; have HC500_7 := Aside0.mk hl500_7; clear hi500_7 hl500_7; have HR500_8 := Aside0.mk hi500_8; have HC500_8 := Aside0.mk hl500_8; clear hi500_8 hl500_8; replace p500 := eq_true p500; replace q500 := eq_true q500; have p501 : 0 ≤ (x5_1 : Int) := od_; have q501 : x5_1 < (l0.length : Int) := od_; obtain ⟨ad501, A501_7, c501_7, A501_8, c501_8, e501, hx501_0, hx501_1, hx501_2, hx501_3, hx501_4, hx501_5, hx501_6, hx501_7, hx501_8, hl501_7, hi501_7, hl501_8, hi501_8⟩ := at_T55 HR0.out x5_1 p501 q501; obtain rfl : ad500 = ad501 := (by injection e501); have HR501_7 := Aside0.mk hi501_7; have HC501_7 := Aside0.mk hl501_7; clear hi501_7 hl501_7; have HR501_8 := Aside0.mk hi501_8; have HC501_8 := Aside0.mk hl501_8; clear hi501_8 hl501_8; replace p501 := eq_true p501; replace q501 := eq_true q501; have ea_ := Option.some.inj (hx500_7.symm.trans hx501_7)
              injection ea_ with ea_ en_ ec_
              subst ea_; subst ec_; clear en_; have ea_ := Option.some.inj (hx500_8.symm.trans hx501_8)
              injection ea_ with ea_ en_ ec_
              subst ea_; subst ec_; clear en_; have p502 : 0 ≤ (x5_1 : Int) := od_; have q502 : x5_1 < (l0.length : Int) := od_; obtain ⟨ad502, A502_7, c502_7, A502_8, c502_8, e502, hx502_0, hx502_1, hx502_2, hx502_3, hx502_4, hx502_5, hx502_6, hx502_7, hx502_8, hl502_7, hi502_7, hl502_8, hi502_8⟩ := at_T55 HR0.out x5_1 p502 q502; obtain rfl : ad500 = ad502 := (by injection e502); have HR502_7 := Aside0.mk hi502_7; have HC502_7 := Aside0.mk hl502_7; clear hi502_7 hl502_7; have HR502_8 := Aside0.mk hi502_8; have HC502_8 := Aside0.mk hl502_8; clear hi502_8 hl502_8; replace p502 := eq_true p502; replace q502 := eq_true q502; have ea_ := Option.some.inj (hx500_7.symm.trans hx502_7)
              injection ea_ with ea_ en_ ec_
              subst ea_; subst ec_; clear en_; have ea_ := Option.some.inj (hx500_8.symm.trans hx502_8)
              injection ea_ with ea_ en_ ec_
              subst ea_; subst ec_; clear en_; have p503 : 0 ≤ (x5_1 : Int) := od_; have q503 : x5_1 < (l0.length : Int) := od_; obtain ⟨ad503, A503_7, c503_7, A503_8, c503_8, e503, hx503_0, hx503_1, hx503_2, hx503_3, hx503_4, hx503_5, hx503_6, hx503_7, hx503_8, hl503_7, hi503_7, hl503_8, hi503_8⟩ := at_T55 HR0.out x5_1 p503 q503; obtain rfl : ad500 = ad503 := (by injection e503); have HR503_7 := Aside0.mk hi503_7; have HC503_7 := Aside0.mk hl503_7; clear hi503_7 hl503_7; have HR503_8 := Aside0.mk hi503_8; have HC503_8 := Aside0.mk hl503_8; clear hi503_8 hl503_8; replace p503 := eq_true p503; replace q503 := eq_true q503; have ea_ := Option.some.inj (hx500_7.symm.trans hx503_7)
              injection ea_ with ea_ en_ ec_
              subst ea_; subst ec_; clear en_; have ea_ := Option.some.inj (hx500_8.symm.trans hx503_8)
              injection ea_ with ea_ en_ ec_
              subst ea_; subst ec_; clear en_; have p504 : 0 ≤ (x5_1 : Int) := od_; have q504 : x5_1 < (l0.length : Int) := od_; obtain ⟨ad504, A504_7, c504_7, A504_8, c504_8, e504, hx504_0, hx504_1, hx504_2, hx504_3, hx504_4, hx504_5, hx504_6, hx504_7, hx504_8, hl504_7, hi504_7, hl504_8, hi504_8⟩ := at_T55 HR0.out x5_1 p504 q504; obtain rfl : ad500 = ad504 := (by injection e504); have HR504_7 := Aside0.mk hi504_7; have HC504_7 := Aside0.mk hl504_7; clear hi504_7 hl504_7; have HR504_8 := Aside0.mk hi504_8; have HC504_8 := Aside0.mk hl504_8; clear hi504_8 hl504_8; replace p504 := eq_true p504; replace q504 := eq_true q504; have ea_ := Option.some.inj (hx500_7.symm.trans hx504_7)
              injection ea_ with ea_ en_ ec_
              subst ea_; subst ec_; clear en_; have ea_ := Option.some.inj (hx500_8.symm.trans hx504_8)
              injection ea_ with ea_ en_ ec_
              subst ea_; subst ec_; clear en_; have p505 : 0 ≤ (x5_1 : Int) := od_; have q505 : x5_1 < (l0.length : Int) := od_; obtain ⟨ad505, A505_7, c505_7, A505_8, c505_8, e505, hx505_0, hx505_1, hx505_2, hx505_3, hx505_4, hx505_5, hx505_6, hx505_7, hx505_8, hl505_7, hi505_7, hl505_8, hi505_8⟩ := at_T55 HR0.out x5_1 p505 q505; obtain rfl : ad500 = ad505 := (by injection e505); have HR505_7 := Aside0.mk hi505_7; have HC505_7 := Aside0.mk hl505_7; clear hi505_7 hl505_7; have HR505_8 := Aside0.mk hi505_8; have HC505_8 := Aside0.mk hl505_8; clear hi505_8 hl505_8; replace p505 := eq_true p505; replace q505 := eq_true q505; have ea_ := Option.some.inj (hx500_7.symm.trans hx505_7)
              injection ea_ with ea_ en_ ec_
              subst ea_; subst ec_; clear en_; have ea_ := Option.some.inj (hx500_8.symm.trans hx505_8)
              injection ea_ with ea_ en_ ec_
              subst ea_; subst ec_; clear en_; have p506 : 0 ≤ (x5_1 : Int) := od_; have q506 : x5_1 < (l0.length : Int) := od_; obtain ⟨ad506, A506_7, c506_7, A506_8, c506_8, e506, hx506_0, hx506_1, hx506_2, hx506_3, hx506_4, hx506_5, hx506_6, hx506_7, hx506_8, hl506_7, hi506_7, hl506_8, hi506_8⟩ := at_T55 HR0.out x5_1 p506 q506; obtain rfl : ad500 = ad506 := (by injection e506); have HR506_7 := Aside0.mk hi506_7; have HC506_7 := Aside0.mk hl506_7; clear hi506_7 hl506_7; have HR506_8 := Aside0.mk hi506_8; have HC506_8 := Aside0.mk hl506_8; clear hi506_8 hl506_8; replace p506 := eq_true p506; replace q506 := eq_true q506; have ea_ := Option.some.inj (hx500_7.symm.trans hx506_7)
              injection ea_ with ea_ en_ ec_
              subst ea_; subst ec_; clear en_; have ea_ := Option.some.inj (hx500_8.symm.trans hx506_8)
              injection ea_ with ea_ en_ ec_
              subst ea_; subst ec_; clear en_; have p507 : 0 ≤ (x5_1 : Int) := od_; have q507 : x5_1 < (l0.length : Int) := od_; obtain ⟨ad507, A507_7, c507_7, A507_8, c507_8, e507, hx507_0, hx507_1, hx507_2, hx507_3, hx507_4, hx507_5, hx507_6, hx507_7, hx507_8, hl507_7, hi507_7, hl507_8, hi507_8⟩ := at_T55 HR0.out x5_1 p507 q507; obtain rfl : ad500 = ad507 := (by injection e507); have HR507_7 := Aside0.mk hi507_7; have HC507_7 := Aside0.mk hl507_7; clear hi507_7 hl507_7; have HR507_8 := Aside0.mk hi507_8; have HC507_8 := Aside0.mk hl507_8; clear hi507_8 hl507_8; replace p507 := eq_true p507; replace q507 := eq_true q507; have ea_ := Option.some.inj (hx500_7.symm.trans hx507_7)
              injection ea_ with ea_ en_ ec_
              subst ea_; subst ec_; clear en_; have ea_ := Option.some.inj (hx500_8.symm.trans hx507_8)
              injection ea_ with ea_ en_ ec_
              subst ea_; subst ec_; clear en_
              go_wp2_with (first | ((with_reducible refine gc_ 77 ?_); refine gw_ (some 81) Tryz.func77 ?_; (with_reducible refine (laws_heldIntS.calls ?side1 ?side2 A12.out).mono ?_); (case side1 => repeat (first | exact HR507_7.out | (with_reducible refine Kd.C_alloc ?_ _) | (with_reducible refine Kd.C_drewN ?_ _) | (with_reducible refine Kd.C_drew ?_))); (case side2 => exact HC507_7.out); rintro e w' ⟨rfl, ⟨nd, rfl⟩⟩; refine ⟨_, rfl, ?_⟩; have p509 : 0 ≤ (x5_1 : Int) := od_; have q509 : x5_1 < (l0.length : Int) := od_; obtain ⟨ad509, A509_7, c509_7, A509_8, c509_8, e509, hx509_0, hx509_1, hx509_2, hx509_3, hx509_4, hx509_5, hx509_6, hx509_7, hx509_8, hl509_7, hi509_7, hl509_8, hi509_8⟩ := at_T55 HR0.out x5_1 p509 q509; obtain rfl : ad500 = ad509 := (by injection e509); have HR509_7 := Aside0.mk hi509_7; have HC509_7 := Aside0.mk hl509_7; clear hi509_7 hl509_7; have HR509_8 := Aside0.mk hi509_8; have HC509_8 := Aside0.mk hl509_8; clear hi509_8 hl509_8; replace p509 := eq_true p509; replace q509 := eq_true q509; have ea_ := Option.some.inj (hx500_7.symm.trans hx509_7); injection ea_ with ea_ en_ ec_; subst ea_; subst ec_; clear en_; have ea_ := Option.some.inj (hx500_8.symm.trans hx509_8); injection ea_ with ea_ en_ ec_; subst ea_; subst ec_; clear en_) | ((with_reducible refine gc_ 77 ?_); refine gw_ (some 90) Tryz.func77 ?_; (with_reducible refine (laws_heldIntS.calls ?side1 ?side2 A14.out).mono ?_); (case side1 => repeat (first | exact HR509_8.out | (with_reducible refine Kd.C_alloc ?_ _) | (with_reducible refine Kd.C_drewN ?_ _) | (with_reducible refine Kd.C_drew ?_))); (case side2 => exact HC509_8.out); rintro e w' ⟨rfl, ⟨nd, rfl⟩⟩; refine ⟨_, rfl, ?_⟩))
              go_roundg k1
              case measure => have := HK1.out; omega
              case rel => exact ⟨(t510), (wrap64 (x5_1 + 1)), rl_, rl_, H', ⟨by have := HK1.out; omega⟩, by repeat (first | exact Drawn0.refl _ | apply Drawn0.step)⟩
           ·
            rw [if_neg c11] at H; have c11b0 : (((rd_T55 l0 x5_1).f6) == (wrap64 ((wrap64 ((wrap64 ((wrap64 ((wrap64 ((wrap64 (x1_1 + 1)) + 1)) + 1)) + 1)) + 1)) + 1))) = false := eq0_ c11; have c11b1 : (((rd_T55 l0 x5_1).f6) != (wrap64 ((wrap64 ((wrap64 ((wrap64 ((wrap64 ((wrap64 (x1_1 + 1)) + 1)) + 1)) + 1)) + 1)) + 1))) = true := ne1_ c11; obtain rfl := oi_ H; have p500 : 0 ≤ (x5_1 : Int) := od_; have q500 : x5_1 < (l0.length : Int) := od_; obtain ⟨ad500, A500_7, c500_7, A500_8, c500_8, e500, hx500_0, hx500_1, hx500_2, hx500_3, hx500_4, hx500_5, hx500_6, hx500_7, hx500_8, hl500_7, hi500_7, hl500_8, hi500_8⟩ := at_T55 HR0.out x5_1 p500 q500
            cases e500
            have HR500_7 := Aside0.mk hi500_7; have HC500_7 := Aside0.mk hl500_7; clear hi500_7 hl500_7; have HR500_8 := Aside0.mk hi500_8; have HC500_8 := Aside0.mk hl500_8; clear hi500_8 hl500_8; replace p500 := eq_true p500; replace q500 := eq_true q500; have p501 : 0 ≤ (x5_1 : Int) := od_; have q501 : x5_1 < (l0.length : Int) := od_; obtain ⟨ad501, A501_7, c501_7, A501_8, c501_8, e501, hx501_0, hx501_1, hx501_2, hx501_3, hx501_4, hx501_5, hx501_6, hx501_7, hx501_8, hl501_7, hi501_7, hl501_8, hi501_8⟩ := at_T55 HR0.out x5_1 p501 q501; obtain rfl : ad500 = ad501 := (by injection e501); have HR501_7 := Aside0.mk hi501_7; have HC501_7 := Aside0.mk hl501_7; clear hi501_7 hl501_7; have HR501_8 := Aside0.mk hi501_8; have HC501_8 := Aside0.mk hl501_8; clear hi501_8 hl501_8; replace p501 := eq_true p501; replace q501 := eq_true q501; have ea_ := Option.some.inj (hx500_7.symm.trans hx501_7)
            injection ea_ with ea_ en_ ec_
            subst ea_; subst ec_; clear en_; have ea_ := Option.some.inj (hx500_8.symm.trans hx501_8)
            injection ea_ with ea_ en_ ec_
            subst ea_; subst ec_; clear en_; have p502 : 0 ≤ (x5_1 : Int) := od_; have q502 : x5_1 < (l0.length : Int) := od_; obtain ⟨ad502, A502_7, c502_7, A502_8, c502_8, e502, hx502_0, hx502_1, hx502_2, hx502_3, hx502_4, hx502_5, hx502_6, hx502_7, hx502_8, hl502_7, hi502_7, hl502_8, hi502_8⟩ := at_T55 HR0.out x5_1 p502 q502; obtain rfl : ad500 = ad502 := (by injection e502); have HR502_7 := Aside0.mk hi502_7; have HC502_7 := Aside0.mk hl502_7; clear hi502_7 hl502_7; have HR502_8 := Aside0.mk hi502_8; have HC502_8 := Aside0.mk hl502_8; clear hi502_8 hl502_8; replace p502 := eq_true p502; replace q502 := eq_true q502; have ea_ := Option.some.inj (hx500_7.symm.trans hx502_7)
            injection ea_ with ea_ en_ ec_
            subst ea_; subst ec_; clear en_; have ea_ := Option.some.inj (hx500_8.symm.trans hx502_8)
            injection ea_ with ea_ en_ ec_
            subst ea_; subst ec_; clear en_; have p503 : 0 ≤ (x5_1 : Int) := od_; have q503 : x5_1 < (l0.length : Int) := od_; obtain ⟨ad503, A503_7, c503_7, A503_8, c503_8, e503, hx503_0, hx503_1, hx503_2, hx503_3, hx503_4, hx503_5, hx503_6, hx503_7, hx503_8, hl503_7, hi503_7, hl503_8, hi503_8⟩ := at_T55 HR0.out x5_1 p503 q503; obtain rfl : ad500 = ad503 := (by injection e503); have HR503_7 := Aside0.mk hi503_7; have HC503_7 := Aside0.mk hl503_7; clear hi503_7 hl503_7; have HR503_8 := Aside0.mk hi503_8; have HC503_8 := Aside0.mk hl503_8; clear hi503_8 hl503_8; replace p503 := eq_true p503; replace q503 := eq_true q503; have ea_ := Option.some.inj (hx500_7.symm.trans hx503_7)
            injection ea_ with ea_ en_ ec_
            subst ea_; subst ec_; clear en_; have ea_ := Option.some.inj (hx500_8.symm.trans hx503_8)
            injection ea_ with ea_ en_ ec_
            subst ea_; subst ec_; clear en_; have p504 : 0 ≤ (x5_1 : Int) := od_; have q504 : x5_1 < (l0.length : Int) := od_; obtain ⟨ad504, A504_7, c504_7, A504_8, c504_8, e504, hx504_0, hx504_1, hx504_2, hx504_3, hx504_4, hx504_5, hx504_6, hx504_7, hx504_8, hl504_7, hi504_7, hl504_8, hi504_8⟩ := at_T55 HR0.out x5_1 p504 q504; obtain rfl : ad500 = ad504 := (by injection e504); have HR504_7 := Aside0.mk hi504_7; have HC504_7 := Aside0.mk hl504_7; clear hi504_7 hl504_7; have HR504_8 := Aside0.mk hi504_8; have HC504_8 := Aside0.mk hl504_8; clear hi504_8 hl504_8; replace p504 := eq_true p504; replace q504 := eq_true q504; have ea_ := Option.some.inj (hx500_7.symm.trans hx504_7)
            injection ea_ with ea_ en_ ec_
            subst ea_; subst ec_; clear en_; have ea_ := Option.some.inj (hx500_8.symm.trans hx504_8)
            injection ea_ with ea_ en_ ec_
            subst ea_; subst ec_; clear en_; have p505 : 0 ≤ (x5_1 : Int) := od_; have q505 : x5_1 < (l0.length : Int) := od_; obtain ⟨ad505, A505_7, c505_7, A505_8, c505_8, e505, hx505_0, hx505_1, hx505_2, hx505_3, hx505_4, hx505_5, hx505_6, hx505_7, hx505_8, hl505_7, hi505_7, hl505_8, hi505_8⟩ := at_T55 HR0.out x5_1 p505 q505; obtain rfl : ad500 = ad505 := (by injection e505); have HR505_7 := Aside0.mk hi505_7; have HC505_7 := Aside0.mk hl505_7; clear hi505_7 hl505_7; have HR505_8 := Aside0.mk hi505_8; have HC505_8 := Aside0.mk hl505_8; clear hi505_8 hl505_8; replace p505 := eq_true p505; replace q505 := eq_true q505; have ea_ := Option.some.inj (hx500_7.symm.trans hx505_7)
            injection ea_ with ea_ en_ ec_
            subst ea_; subst ec_; clear en_; have ea_ := Option.some.inj (hx500_8.symm.trans hx505_8)
            injection ea_ with ea_ en_ ec_
            subst ea_; subst ec_; clear en_; have p506 : 0 ≤ (x5_1 : Int) := od_; have q506 : x5_1 < (l0.length : Int) := od_; obtain ⟨ad506, A506_7, c506_7, A506_8, c506_8, e506, hx506_0, hx506_1, hx506_2, hx506_3, hx506_4, hx506_5, hx506_6, hx506_7, hx506_8, hl506_7, hi506_7, hl506_8, hi506_8⟩ := at_T55 HR0.out x5_1 p506 q506; obtain rfl : ad500 = ad506 := (by injection e506); have HR506_7 := Aside0.mk hi506_7; have HC506_7 := Aside0.mk hl506_7; clear hi506_7 hl506_7; have HR506_8 := Aside0.mk hi506_8; have HC506_8 := Aside0.mk hl506_8; clear hi506_8 hl506_8; replace p506 := eq_true p506; replace q506 := eq_true q506; have ea_ := Option.some.inj (hx500_7.symm.trans hx506_7)
            injection ea_ with ea_ en_ ec_
            subst ea_; subst ec_; clear en_; have ea_ := Option.some.inj (hx500_8.symm.trans hx506_8)
            injection ea_ with ea_ en_ ec_
            subst ea_; subst ec_; clear en_
            go_wp2
            go_ret
            exact ⟨by first | rfl | (simp; done) | (simp [*]; done), by repeat (first | exact Drawn0.refl _ | apply Drawn0.step)⟩
          ·
           rw [if_neg c10] at H; have c10b0 : (((rd_T55 l0 x5_1).f5) == (wrap64 ((wrap64 ((wrap64 ((wrap64 ((wrap64 (x1_1 + 1)) + 1)) + 1)) + 1)) + 1))) = false := eq0_ c10; have c10b1 : (((rd_T55 l0 x5_1).f5) != (wrap64 ((wrap64 ((wrap64 ((wrap64 ((wrap64 (x1_1 + 1)) + 1)) + 1)) + 1)) + 1))) = true := ne1_ c10; obtain rfl := oi_ H; have p500 : 0 ≤ (x5_1 : Int) := od_; have q500 : x5_1 < (l0.length : Int) := od_; obtain ⟨ad500, A500_7, c500_7, A500_8, c500_8, e500, hx500_0, hx500_1, hx500_2, hx500_3, hx500_4, hx500_5, hx500_6, hx500_7, hx500_8, hl500_7, hi500_7, hl500_8, hi500_8⟩ := at_T55 HR0.out x5_1 p500 q500
           cases e500
           have HR500_7 := Aside0.mk hi500_7; have HC500_7 := Aside0.mk hl500_7; clear hi500_7 hl500_7; have HR500_8 := Aside0.mk hi500_8; have HC500_8 := Aside0.mk hl500_8; clear hi500_8 hl500_8; replace p500 := eq_true p500; replace q500 := eq_true q500; have p501 : 0 ≤ (x5_1 : Int) := od_; have q501 : x5_1 < (l0.length : Int) := od_; obtain ⟨ad501, A501_7, c501_7, A501_8, c501_8, e501, hx501_0, hx501_1, hx501_2, hx501_3, hx501_4, hx501_5, hx501_6, hx501_7, hx501_8, hl501_7, hi501_7, hl501_8, hi501_8⟩ := at_T55 HR0.out x5_1 p501 q501; obtain rfl : ad500 = ad501 := (by injection e501); have HR501_7 := Aside0.mk hi501_7; have HC501_7 := Aside0.mk hl501_7; clear hi501_7 hl501_7; have HR501_8 := Aside0.mk hi501_8; have HC501_8 := Aside0.mk hl501_8; clear hi501_8 hl501_8; replace p501 := eq_true p501; replace q501 := eq_true q501; have ea_ := Option.some.inj (hx500_7.symm.trans hx501_7)
           injection ea_ with ea_ en_ ec_
           subst ea_; subst ec_; clear en_; have ea_ := Option.some.inj (hx500_8.symm.trans hx501_8)
           injection ea_ with ea_ en_ ec_
           subst ea_; subst ec_; clear en_; have p502 : 0 ≤ (x5_1 : Int) := od_; have q502 : x5_1 < (l0.length : Int) := od_; obtain ⟨ad502, A502_7, c502_7, A502_8, c502_8, e502, hx502_0, hx502_1, hx502_2, hx502_3, hx502_4, hx502_5, hx502_6, hx502_7, hx502_8, hl502_7, hi502_7, hl502_8, hi502_8⟩ := at_T55 HR0.out x5_1 p502 q502; obtain rfl : ad500 = ad502 := (by injection e502); have HR502_7 := Aside0.mk hi502_7; have HC502_7 := Aside0.mk hl502_7; clear hi502_7 hl502_7; have HR502_8 := Aside0.mk hi502_8; have HC502_8 := Aside0.mk hl502_8; clear hi502_8 hl502_8; replace p502 := eq_true p502; replace q502 := eq_true q502; have ea_ := Option.some.inj (hx500_7.symm.trans hx502_7)
           injection ea_ with ea_ en_ ec_
           subst ea_; subst ec_; clear en_; have ea_ := Option.some.inj (hx500_8.symm.trans hx502_8)
           injection ea_ with ea_ en_ ec_
           subst ea_; subst ec_; clear en_; have p503 : 0 ≤ (x5_1 : Int) := od_; have q503 : x5_1 < (l0.length : Int) := od_; obtain ⟨ad503, A503_7, c503_7, A503_8, c503_8, e503, hx503_0, hx503_1, hx503_2, hx503_3, hx503_4, hx503_5, hx503_6, hx503_7, hx503_8, hl503_7, hi503_7, hl503_8, hi503_8⟩ := at_T55 HR0.out x5_1 p503 q503; obtain rfl : ad500 = ad503 := (by injection e503); have HR503_7 := Aside0.mk hi503_7; have HC503_7 := Aside0.mk hl503_7; clear hi503_7 hl503_7; have HR503_8 := Aside0.mk hi503_8; have HC503_8 := Aside0.mk hl503_8; clear hi503_8 hl503_8; replace p503 := eq_true p503; replace q503 := eq_true q503; have ea_ := Option.some.inj (hx500_7.symm.trans hx503_7)
           injection ea_ with ea_ en_ ec_
           subst ea_; subst ec_; clear en_; have ea_ := Option.some.inj (hx500_8.symm.trans hx503_8)
           injection ea_ with ea_ en_ ec_
           subst ea_; subst ec_; clear en_; have p504 : 0 ≤ (x5_1 : Int) := od_; have q504 : x5_1 < (l0.length : Int) := od_; obtain ⟨ad504, A504_7, c504_7, A504_8, c504_8, e504, hx504_0, hx504_1, hx504_2, hx504_3, hx504_4, hx504_5, hx504_6, hx504_7, hx504_8, hl504_7, hi504_7, hl504_8, hi504_8⟩ := at_T55 HR0.out x5_1 p504 q504; obtain rfl : ad500 = ad504 := (by injection e504); have HR504_7 := Aside0.mk hi504_7; have HC504_7 := Aside0.mk hl504_7; clear hi504_7 hl504_7; have HR504_8 := Aside0.mk hi504_8; have HC504_8 := Aside0.mk hl504_8; clear hi504_8 hl504_8; replace p504 := eq_true p504; replace q504 := eq_true q504; have ea_ := Option.some.inj (hx500_7.symm.trans hx504_7)
           injection ea_ with ea_ en_ ec_
           subst ea_; subst ec_; clear en_; have ea_ := Option.some.inj (hx500_8.symm.trans hx504_8)
           injection ea_ with ea_ en_ ec_
           subst ea_; subst ec_; clear en_; have p505 : 0 ≤ (x5_1 : Int) := od_; have q505 : x5_1 < (l0.length : Int) := od_; obtain ⟨ad505, A505_7, c505_7, A505_8, c505_8, e505, hx505_0, hx505_1, hx505_2, hx505_3, hx505_4, hx505_5, hx505_6, hx505_7, hx505_8, hl505_7, hi505_7, hl505_8, hi505_8⟩ := at_T55 HR0.out x5_1 p505 q505; obtain rfl : ad500 = ad505 := (by injection e505); have HR505_7 := Aside0.mk hi505_7; have HC505_7 := Aside0.mk hl505_7; clear hi505_7 hl505_7; have HR505_8 := Aside0.mk hi505_8; have HC505_8 := Aside0.mk hl505_8; clear hi505_8 hl505_8; replace p505 := eq_true p505; replace q505 := eq_true q505; have ea_ := Option.some.inj (hx500_7.symm.trans hx505_7)
           injection ea_ with ea_ en_ ec_
           subst ea_; subst ec_; clear en_; have ea_ := Option.some.inj (hx500_8.symm.trans hx505_8)
           injection ea_ with ea_ en_ ec_
           subst ea_; subst ec_; clear en_
           go_wp2
           go_ret
           exact ⟨by first | rfl | (simp; done) | (simp [*]; done), by repeat (first | exact Drawn0.refl _ | apply Drawn0.step)⟩
         ·
          rw [if_neg c9] at H; have c9b0 : (((rd_T55 l0 x5_1).f4) == (wrap64 ((wrap64 ((wrap64 ((wrap64 (x1_1 + 1)) + 1)) + 1)) + 1))) = false := eq0_ c9; have c9b1 : (((rd_T55 l0 x5_1).f4) != (wrap64 ((wrap64 ((wrap64 ((wrap64 (x1_1 + 1)) + 1)) + 1)) + 1))) = true := ne1_ c9; obtain rfl := oi_ H; have p500 : 0 ≤ (x5_1 : Int) := od_; have q500 : x5_1 < (l0.length : Int) := od_; obtain ⟨ad500, A500_7, c500_7, A500_8, c500_8, e500, hx500_0, hx500_1, hx500_2, hx500_3, hx500_4, hx500_5, hx500_6, hx500_7, hx500_8, hl500_7, hi500_7, hl500_8, hi500_8⟩ := at_T55 HR0.out x5_1 p500 q500
          cases e500
          have HR500_7 := Aside0.mk hi500_7; have HC500_7 := Aside0.mk hl500_7; clear hi500_7 hl500_7; have HR500_8 := Aside0.mk hi500_8; have HC500_8 := Aside0.mk hl500_8; clear hi500_8 hl500_8; replace p500 := eq_true p500; replace q500 := eq_true q500; have p501 : 0 ≤ (x5_1 : Int) := od_; have q501 : x5_1 < (l0.length : Int) := od_; obtain ⟨ad501, A501_7, c501_7, A501_8, c501_8, e501, hx501_0, hx501_1, hx501_2, hx501_3, hx501_4, hx501_5, hx501_6, hx501_7, hx501_8, hl501_7, hi501_7, hl501_8, hi501_8⟩ := at_T55 HR0.out x5_1 p501 q501; obtain rfl : ad500 = ad501 := (by injection e501); have HR501_7 := Aside0.mk hi501_7; have HC501_7 := Aside0.mk hl501_7; clear hi501_7 hl501_7; have HR501_8 := Aside0.mk hi501_8; have HC501_8 := Aside0.mk hl501_8; clear hi501_8 hl501_8; replace p501 := eq_true p501; replace q501 := eq_true q501; have ea_ := Option.some.inj (hx500_7.symm.trans hx501_7)
          injection ea_ with ea_ en_ ec_
          subst ea_; subst ec_; clear en_; have ea_ := Option.some.inj (hx500_8.symm.trans hx501_8)
          injection ea_ with ea_ en_ ec_
          subst ea_; subst ec_; clear en_; have p502 : 0 ≤ (x5_1 : Int) := od_; have q502 : x5_1 < (l0.length : Int) := od_; obtain ⟨ad502, A502_7, c502_7, A502_8, c502_8, e502, hx502_0, hx502_1, hx502_2, hx502_3, hx502_4, hx502_5, hx502_6, hx502_7, hx502_8, hl502_7, hi502_7, hl502_8, hi502_8⟩ := at_T55 HR0.out x5_1 p502 q502; obtain rfl : ad500 = ad502 := (by injection e502); have HR502_7 := Aside0.mk hi502_7; have HC502_7 := Aside0.mk hl502_7; clear hi502_7 hl502_7; have HR502_8 := Aside0.mk hi502_8; have HC502_8 := Aside0.mk hl502_8; clear hi502_8 hl502_8; replace p502 := eq_true p502; replace q502 := eq_true q502; have ea_ := Option.some.inj (hx500_7.symm.trans hx502_7)
          injection ea_ with ea_ en_ ec_
          subst ea_; subst ec_; clear en_; have ea_ := Option.some.inj (hx500_8.symm.trans hx502_8)
          injection ea_ with ea_ en_ ec_
          subst ea_; subst ec_; clear en_; have p503 : 0 ≤ (x5_1 : Int) := od_; have q503 : x5_1 < (l0.length : Int) := od_; obtain ⟨ad503, A503_7, c503_7, A503_8, c503_8, e503, hx503_0, hx503_1, hx503_2, hx503_3, hx503_4, hx503_5, hx503_6, hx503_7, hx503_8, hl503_7, hi503_7, hl503_8, hi503_8⟩ := at_T55 HR0.out x5_1 p503 q503; obtain rfl : ad500 = ad503 := (by injection e503); have HR503_7 := Aside0.mk hi503_7; have HC503_7 := Aside0.mk hl503_7; clear hi503_7 hl503_7; have HR503_8 := Aside0.mk hi503_8; have HC503_8 := Aside0.mk hl503_8; clear hi503_8 hl503_8; replace p503 := eq_true p503; replace q503 := eq_true q503; have ea_ := Option.some.inj (hx500_7.symm.trans hx503_7)
          injection ea_ with ea_ en_ ec_
          subst ea_; subst ec_; clear en_; have ea_ := Option.some.inj (hx500_8.symm.trans hx503_8)
          injection ea_ with ea_ en_ ec_
          subst ea_; subst ec_; clear en_; have p504 : 0 ≤ (x5_1 : Int) := od_; have q504 : x5_1 < (l0.length : Int) := od_; obtain ⟨ad504, A504_7, c504_7, A504_8, c504_8, e504, hx504_0, hx504_1, hx504_2, hx504_3, hx504_4, hx504_5, hx504_6, hx504_7, hx504_8, hl504_7, hi504_7, hl504_8, hi504_8⟩ := at_T55 HR0.out x5_1 p504 q504; obtain rfl : ad500 = ad504 := (by injection e504); have HR504_7 := Aside0.mk hi504_7; have HC504_7 := Aside0.mk hl504_7; clear hi504_7 hl504_7; have HR504_8 := Aside0.mk hi504_8; have HC504_8 := Aside0.mk hl504_8; clear hi504_8 hl504_8; replace p504 := eq_true p504; replace q504 := eq_true q504; have ea_ := Option.some.inj (hx500_7.symm.trans hx504_7)
          injection ea_ with ea_ en_ ec_
          subst ea_; subst ec_; clear en_; have ea_ := Option.some.inj (hx500_8.symm.trans hx504_8)
          injection ea_ with ea_ en_ ec_
          subst ea_; subst ec_; clear en_
          go_wp2
          go_ret
          exact ⟨by first | rfl | (simp; done) | (simp [*]; done), by repeat (first | exact Drawn0.refl _ | apply Drawn0.step)⟩
        ·
         rw [if_neg c8] at H; have c8b0 : (((rd_T55 l0 x5_1).f3) == (wrap64 ((wrap64 ((wrap64 (x1_1 + 1)) + 1)) + 1))) = false := eq0_ c8; have c8b1 : (((rd_T55 l0 x5_1).f3) != (wrap64 ((wrap64 ((wrap64 (x1_1 + 1)) + 1)) + 1))) = true := ne1_ c8; obtain rfl := oi_ H; have p500 : 0 ≤ (x5_1 : Int) := od_; have q500 : x5_1 < (l0.length : Int) := od_; obtain ⟨ad500, A500_7, c500_7, A500_8, c500_8, e500, hx500_0, hx500_1, hx500_2, hx500_3, hx500_4, hx500_5, hx500_6, hx500_7, hx500_8, hl500_7, hi500_7, hl500_8, hi500_8⟩ := at_T55 HR0.out x5_1 p500 q500
         cases e500
         have HR500_7 := Aside0.mk hi500_7; have HC500_7 := Aside0.mk hl500_7; clear hi500_7 hl500_7; have HR500_8 := Aside0.mk hi500_8; have HC500_8 := Aside0.mk hl500_8; clear hi500_8 hl500_8; replace p500 := eq_true p500; replace q500 := eq_true q500; have p501 : 0 ≤ (x5_1 : Int) := od_; have q501 : x5_1 < (l0.length : Int) := od_; obtain ⟨ad501, A501_7, c501_7, A501_8, c501_8, e501, hx501_0, hx501_1, hx501_2, hx501_3, hx501_4, hx501_5, hx501_6, hx501_7, hx501_8, hl501_7, hi501_7, hl501_8, hi501_8⟩ := at_T55 HR0.out x5_1 p501 q501; obtain rfl : ad500 = ad501 := (by injection e501); have HR501_7 := Aside0.mk hi501_7; have HC501_7 := Aside0.mk hl501_7; clear hi501_7 hl501_7; have HR501_8 := Aside0.mk hi501_8; have HC501_8 := Aside0.mk hl501_8; clear hi501_8 hl501_8; replace p501 := eq_true p501; replace q501 := eq_true q501; have ea_ := Option.some.inj (hx500_7.symm.trans hx501_7)
         injection ea_ with ea_ en_ ec_
         subst ea_; subst ec_; clear en_; have ea_ := Option.some.inj (hx500_8.symm.trans hx501_8)
         injection ea_ with ea_ en_ ec_
         subst ea_; subst ec_; clear en_; have p502 : 0 ≤ (x5_1 : Int) := od_; have q502 : x5_1 < (l0.length : Int) := od_; obtain ⟨ad502, A502_7, c502_7, A502_8, c502_8, e502, hx502_0, hx502_1, hx502_2, hx502_3, hx502_4, hx502_5, hx502_6, hx502_7, hx502_8, hl502_7, hi502_7, hl502_8, hi502_8⟩ := at_T55 HR0.out x5_1 p502 q502; obtain rfl : ad500 = ad502 := (by injection e502); have HR502_7 := Aside0.mk hi502_7; have HC502_7 := Aside0.mk hl502_7; clear hi502_7 hl502_7; have HR502_8 := Aside0.mk hi502_8; have HC502_8 := Aside0.mk hl502_8; clear hi502_8 hl502_8; replace p502 := eq_true p502; replace q502 := eq_true q502; have ea_ := Option.some.inj (hx500_7.symm.trans hx502_7)
         injection ea_ with ea_ en_ ec_
         subst ea_; subst ec_; clear en_; have ea_ := Option.some.inj (hx500_8.symm.trans hx502_8)
         injection ea_ with ea_ en_ ec_
         subst ea_; subst ec_; clear en_; have p503 : 0 ≤ (x5_1 : Int) := od_; have q503 : x5_1 < (l0.length : Int) := od_; obtain ⟨ad503, A503_7, c503_7, A503_8, c503_8, e503, hx503_0, hx503_1, hx503_2, hx503_3, hx503_4, hx503_5, hx503_6, hx503_7, hx503_8, hl503_7, hi503_7, hl503_8, hi503_8⟩ := at_T55 HR0.out x5_1 p503 q503; obtain rfl : ad500 = ad503 := (by injection e503); have HR503_7 := Aside0.mk hi503_7; have HC503_7 := Aside0.mk hl503_7; clear hi503_7 hl503_7; have HR503_8 := Aside0.mk hi503_8; have HC503_8 := Aside0.mk hl503_8; clear hi503_8 hl503_8; replace p503 := eq_true p503; replace q503 := eq_true q503; have ea_ := Option.some.inj (hx500_7.symm.trans hx503_7)
         injection ea_ with ea_ en_ ec_
         subst ea_; subst ec_; clear en_; have ea_ := Option.some.inj (hx500_8.symm.trans hx503_8)
         injection ea_ with ea_ en_ ec_
         subst ea_; subst ec_; clear en_
         go_wp2
         go_ret
         exact ⟨by first | rfl | (simp; done) | (simp [*]; done), by repeat (first | exact Drawn0.refl _ | apply Drawn0.step)⟩
       ·
        rw [if_neg c7] at H; have c7b0 : (((rd_T55 l0 x5_1).f2) == (wrap64 ((wrap64 (x1_1 + 1)) + 1))) = false := eq0_ c7; have c7b1 : (((rd_T55 l0 x5_1).f2) != (wrap64 ((wrap64 (x1_1 + 1)) + 1))) = true := ne1_ c7; obtain rfl := oi_ H; have p500 : 0 ≤ (x5_1 : Int) := od_; have q500 : x5_1 < (l0.length : Int) := od_; obtain ⟨ad500, A500_7, c500_7, A500_8, c500_8, e500, hx500_0, hx500_1, hx500_2, hx500_3, hx500_4, hx500_5, hx500_6, hx500_7, hx500_8, hl500_7, hi500_7, hl500_8, hi500_8⟩ := at_T55 HR0.out x5_1 p500 q500
        cases e500
        have HR500_7 := Aside0.mk hi500_7; have HC500_7 := Aside0.mk hl500_7; clear hi500_7 hl500_7; have HR500_8 := Aside0.mk hi500_8; have HC500_8 := Aside0.mk hl500_8; clear hi500_8 hl500_8; replace p500 := eq_true p500; replace q500 := eq_true q500; have p501 : 0 ≤ (x5_1 : Int) := od_; have q501 : x5_1 < (l0.length : Int) := od_; obtain ⟨ad501, A501_7, c501_7, A501_8, c501_8, e501, hx501_0, hx501_1, hx501_2, hx501_3, hx501_4, hx501_5, hx501_6, hx501_7, hx501_8, hl501_7, hi501_7, hl501_8, hi501_8⟩ := at_T55 HR0.out x5_1 p501 q501; obtain rfl : ad500 = ad501 := (by injection e501); have HR501_7 := Aside0.mk hi501_7; have HC501_7 := Aside0.mk hl501_7; clear hi501_7 hl501_7; have HR501_8 := Aside0.mk hi501_8; have HC501_8 := Aside0.mk hl501_8; clear hi501_8 hl501_8; replace p501 := eq_true p501; replace q501 := eq_true q501; have ea_ := Option.some.inj (hx500_7.symm.trans hx501_7)
        injection ea_ with ea_ en_ ec_
        subst ea_; subst ec_; clear en_; have ea_ := Option.some.inj (hx500_8.symm.trans hx501_8)
        injection ea_ with ea_ en_ ec_
        subst ea_; subst ec_; clear en_; have p502 : 0 ≤ (x5_1 : Int) := od_; have q502 : x5_1 < (l0.length : Int) := od_; obtain ⟨ad502, A502_7, c502_7, A502_8, c502_8, e502, hx502_0, hx502_1, hx502_2, hx502_3, hx502_4, hx502_5, hx502_6, hx502_7, hx502_8, hl502_7, hi502_7, hl502_8, hi502_8⟩ := at_T55 HR0.out x5_1 p502 q502; obtain rfl : ad500 = ad502 := (by injection e502); have HR502_7 := Aside0.mk hi502_7; have HC502_7 := Aside0.mk hl502_7; clear hi502_7 hl502_7; have HR502_8 := Aside0.mk hi502_8; have HC502_8 := Aside0.mk hl502_8; clear hi502_8 hl502_8; replace p502 := eq_true p502; replace q502 := eq_true q502; have ea_ := Option.some.inj (hx500_7.symm.trans hx502_7)
        injection ea_ with ea_ en_ ec_
        subst ea_; subst ec_; clear en_; have ea_ := Option.some.inj (hx500_8.symm.trans hx502_8)
        injection ea_ with ea_ en_ ec_
        subst ea_; subst ec_; clear en_
        go_wp2
        go_ret
        exact ⟨by first | rfl | (simp; done) | (simp [*]; done), by repeat (first | exact Drawn0.refl _ | apply Drawn0.step)⟩
      ·
       rw [if_neg c6] at H; have c6b0 : (((rd_T55 l0 x5_1).f1) == (wrap64 (x1_1 + 1))) = false := eq0_ c6; have c6b1 : (((rd_T55 l0 x5_1).f1) != (wrap64 (x1_1 + 1))) = true := ne1_ c6; obtain rfl := oi_ H; have p500 : 0 ≤ (x5_1 : Int) := od_; have q500 : x5_1 < (l0.length : Int) := od_; obtain ⟨ad500, A500_7, c500_7, A500_8, c500_8, e500, hx500_0, hx500_1, hx500_2, hx500_3, hx500_4, hx500_5, hx500_6, hx500_7, hx500_8, hl500_7, hi500_7, hl500_8, hi500_8⟩ := at_T55 HR0.out x5_1 p500 q500
       cases e500
       have HR500_7 := Aside0.mk hi500_7; have HC500_7 := Aside0.mk hl500_7; clear hi500_7 hl500_7; have HR500_8 := Aside0.mk hi500_8; have HC500_8 := Aside0.mk hl500_8; clear hi500_8 hl500_8; replace p500 := eq_true p500; replace q500 := eq_true q500; have p501 : 0 ≤ (x5_1 : Int) := od_; have q501 : x5_1 < (l0.length : Int) := od_; obtain ⟨ad501, A501_7, c501_7, A501_8, c501_8, e501, hx501_0, hx501_1, hx501_2, hx501_3, hx501_4, hx501_5, hx501_6, hx501_7, hx501_8, hl501_7, hi501_7, hl501_8, hi501_8⟩ := at_T55 HR0.out x5_1 p501 q501; obtain rfl : ad500 = ad501 := (by injection e501); have HR501_7 := Aside0.mk hi501_7; have HC501_7 := Aside0.mk hl501_7; clear hi501_7 hl501_7; have HR501_8 := Aside0.mk hi501_8; have HC501_8 := Aside0.mk hl501_8; clear hi501_8 hl501_8; replace p501 := eq_true p501; replace q501 := eq_true q501; have ea_ := Option.some.inj (hx500_7.symm.trans hx501_7)
       injection ea_ with ea_ en_ ec_
       subst ea_; subst ec_; clear en_; have ea_ := Option.some.inj (hx500_8.symm.trans hx501_8)
       injection ea_ with ea_ en_ ec_
       subst ea_; subst ec_; clear en_
       go_wp2
       go_ret
       exact ⟨by first | rfl | (simp; done) | (simp [*]; done), by repeat (first | exact Drawn0.refl _ | apply Drawn0.step)⟩
     ·
      rw [if_neg c5] at H; have c5b0 : (((rd_T55 l0 x5_1).f0) == x1_1) = false := eq0_ c5; have c5b1 : (((rd_T55 l0 x5_1).f0) != x1_1) = true := ne1_ c5; obtain rfl := oi_ H; have p500 : 0 ≤ (x5_1 : Int) := od_; have q500 : x5_1 < (l0.length : Int) := od_; obtain ⟨ad500, A500_7, c500_7, A500_8, c500_8, e500, hx500_0, hx500_1, hx500_2, hx500_3, hx500_4, hx500_5, hx500_6, hx500_7, hx500_8, hl500_7, hi500_7, hl500_8, hi500_8⟩ := at_T55 HR0.out x5_1 p500 q500
      cases e500
      have HR500_7 := Aside0.mk hi500_7; have HC500_7 := Aside0.mk hl500_7; clear hi500_7 hl500_7; have HR500_8 := Aside0.mk hi500_8; have HC500_8 := Aside0.mk hl500_8; clear hi500_8 hl500_8; replace p500 := eq_true p500; replace q500 := eq_true q500
      go_wp2
      go_ret
      exact ⟨by first | rfl | (simp; done) | (simp [*]; done), by repeat (first | exact Drawn0.refl _ | apply Drawn0.step)⟩
    ·
     rw [if_neg c4] at H; exact absurd H (by simp)
   ·
    rw [if_neg c3] at H; have c3b0 : decide (x5_1 < (l0.length : Int)) = false := df_ c3; clear c3; obtain rfl := oi_ H
    go_wp2
    go_ret
    exact ⟨by first | rfl | (simp; done) | (simp [*]; done), by repeat (first | exact Drawn0.refl _ | apply Drawn0.step)⟩

def laws_heldModel.f (k : Nat) (a0_0 : Int) (a0_1 : Int) (a0_2 : Int) (l0_3 : List (S55)) (a1 : Int) : Option (Int) := (laws_heldLayerS.f k l0_3 a1).bind fun t512 => (if t512 < 0 then (some (-1)) else (some t512))
set_option maxHeartbeats 8000000 in
set_option maxRecDepth 100000 in
theorem laws_heldModel.calls {k : Nat} {a0_0 : Int} {a0_1 : Int} {a0_2 : Int} {A0_3 : Option Addr} {c0_3 : Nat} {l0_3 : List (S55)} {a1 : Int} {r : Int} {w : World} (hr0_3 : Kd.C k55 w A0_3 l0_3.length l0_3) (hc0_3 : l0_3.length ≤ c0_3) (h : laws_heldModel.f k a0_0 a0_1 a0_2 l0_3 a1 = some r) :
  Calls Tryz.prog 10 #[.agg #[.int .i64 a0_0, .int .i64 a0_1, .int .i64 a0_2, .slice A0_3 l0_3.length c0_3], .int .i64 a1] w fun e w' => e = .returned (.int .i64 r) ∧ Below w.heap.size w w' := by
 have hu26 := Tryz.underlying26; have HR0_3 := Aside0.mk hr0_3; have HC0_3 := Aside0.mk hc0_3; clear hr0_3 hc0_3; have HB := Aside0.mk (Below.refl w.heap.size w); have H : ((laws_heldLayerS.f k l0_3 a1).bind fun t512 => (if t512 < 0 then (some (-1)) else (some t512))) = some r := h; clear h; obtain ⟨t512, A3, H⟩ := bo_ H; (try dsimp only at H)
 by_cases c4 : t512 < 0
 ·
  rw [if_pos c4] at H; have c4b0 : decide (t512 < 0) = true := dt_ c4; clear c4; obtain rfl := oi_ H
  go_enter Tryz.func10, Tryz.ntmps10
  go_wp2_with (first | ((with_reducible refine gate_dst (N := 2) rfl ?_); refine bz_ 2 ?_; intro gb511 hg w5 hbox hb; obtain ⟨BK511, GW511, GE511, HB⟩ := nb_ hg hbox HB hb; clear hb hbox hg; have hcz6 := box4_ BK511.out) | ((with_reducible refine gc_ 36 ?_); refine gw_ (some 8) Tryz.func36 ?_; (with_reducible refine (laws_heldLayerS.calls ?_ ?_ A3.out).mono ?_); exact cu_ HR0_3.out HB.out; exact HC0_3.out; rintro e w' ⟨rfl, ⟨nd, rfl⟩⟩; refine ⟨_, rfl, ?_⟩))
  go_ret
  exact rt_ HB.out
 ·
  rw [if_neg c4] at H; have c4b0 : decide (t512 < 0) = false := df_ c4; clear c4; obtain rfl := oi_ H
  go_enter Tryz.func10, Tryz.ntmps10
  go_wp2_with (first | ((with_reducible refine gate_dst (N := 2) rfl ?_); refine bz_ 2 ?_; intro gb511 hg w7 hbox hb; obtain ⟨BK511, GW511, GE511, HB⟩ := nb_ hg hbox HB hb; clear hb hbox hg; have hcz8 := box4_ BK511.out) | ((with_reducible refine gc_ 36 ?_); refine gw_ (some 8) Tryz.func36 ?_; (with_reducible refine (laws_heldLayerS.calls ?_ ?_ A3.out).mono ?_); exact cu_ HR0_3.out HB.out; exact HC0_3.out; rintro e w' ⟨rfl, ⟨nd, rfl⟩⟩; refine ⟨_, rfl, ?_⟩))
  go_ret
  exact rt_ HB.out

mutual
def laws_FnExactParsePlan.j0 : Nat → ByteArray → Bool → Bool → Int → Int → Int → List (S55) → Int → Int → Int → List (S55) → Option (Bool)
 | 0, _, _, _, _, _, _, _, _, _, _, _ => none
 | k + 1, x0, x4, x32, x521000, x521001, x521002, x521003, x529000, x529001, x529002, x529003 => if x32 = true then (some false) else ((laws_markModel.f k x529000 x529001 x529002 x529003 1).bind fun bt530 => ((laws_heldModel.f k x529000 x529001 x529002 bt530.2 1).bind fun t532 => (if t532 < 0 then (some false) else (if t532 = bt530.1 then ((impl_ParsePlan.f k x0).bind fun bt533 => ((laws_eqModel.f k bt533.1 bt533.2.1 bt533.2.2.1 bt533.2.2.2.1 x521000 x521001 x521002 x521003).bind fun t541 => (if t541 = true then (laws_FnExactParsePlan.j1 k bt530.1 (bt533.2.2.2.2 != x4) x529000 x529001 x529002 bt530.2) else (laws_FnExactParsePlan.j1 k bt530.1 true x529000 x529001 x529002 bt530.2)))) else (some false)))))
def laws_FnExactParsePlan.j1 : Nat → Int → Bool → Int → Int → Int → List (S55) → Option (Bool)
 | 0, _, _, _, _, _, _ => none
 | k + 1, x7, x57, x529000, x529001, x529002, x529003 => if x57 = true then (some false) else ((laws_heldModel.f k x529000 x529001 x529002 x529003 1).bind fun t542 => (if t542 < 0 then (some false) else (if t542 = x7 then (some true) else (some false))))
end
def laws_FnExactParsePlan.f (k : Nat) (a0 : ByteArray) : Option (Bool) := if (a0.size : Int) > 1048576 then (some true) else ((spec_ParsePlan.f k a0).bind fun bt513 => ((impl_ParsePlan.f k a0).bind fun bt521 => ((laws_eqModel.f k bt521.1 bt521.2.1 bt521.2.2.1 bt521.2.2.2.1 bt513.1 bt513.2.1 bt513.2.2.1 bt513.2.2.2.1).bind fun t529 => (if t529 = true then (laws_FnExactParsePlan.j0 k a0 bt513.2.2.2.2 (bt521.2.2.2.2 != bt513.2.2.2.2) bt513.1 bt513.2.1 bt513.2.2.1 bt513.2.2.2.1 bt521.1 bt521.2.1 bt521.2.2.1 bt521.2.2.2.1) else (laws_FnExactParsePlan.j0 k a0 bt513.2.2.2.2 true bt513.1 bt513.2.1 bt513.2.2.1 bt513.2.2.2.1 bt521.1 bt521.2.1 bt521.2.2.1 bt521.2.2.2.1)))))
theorem S_lt_ {α : Type} {d : Kd α} {e : Nat} {w : World} {base g : Nat} {ok : Nat → Prop} {v : Value} {xs : List α} (hg : g = w.heap.size) (h : Kd.S d e w base ok v xs) : Kd.S d e w base (fun k => k < g) v xs := Kd.S_mono (Kd.S_bound h) (fun k hk => by rw [hg]; exact hk.2.2.1)
theorem S_gt_ {α : Type} {d : Kd α} {e : Nat} {w W w1 : World} {g : Nat} {o : Obj} {ok : Nat → Prop} {v : Value} {xs : List α} (hb : Aside0 (w.heap[g]? = some o)) (h : Kd.S d e w1 W.heap.size ok v xs) (hs : w.heap.size ≤ W.heap.size := by first | exact Nat.le_refl _ | (simp [World.setCell, World.drew, World.drewN]; done)) : Kd.S d e w1 W.heap.size (fun k => g < k) v xs := Kd.S_mono (Kd.S_bound h) (fun k hk => by have := (Array.getElem?_eq_some_iff.1 hb.out).1; have := hk.2.1; omega)
set_option maxHeartbeats 8000000 in
set_option maxRecDepth 100000 in
theorem laws_FnExactParsePlan.calls (k : Nat) (a0 : ByteArray) (r : Bool) (w : World) (hr_ : Aside0 (r = true)) (h : laws_FnExactParsePlan.f k a0 = some r) (tb_ : Tab w := by exact Tab.on HTab_.out (by repeat (first | exact HB.out | apply below_alloc | apply pw_below_drewN | apply below_drew1 | (refine below_cell_ ?_ (by apply Aside0.out; with_reducible assumption))))) :
  Calls Tryz.prog 3 #[.string a0] w fun e w' => e = .returned (.bool r) ∧ Below w.heap.size w w' := by
 have HTab_ := Aside0.mk tb_; clear tb_; have hu26 := Tryz.underlying26; have HB := Aside0.mk (Below.refl w.heap.size w); have H : (if (a0.size : Int) > 1048576 then (some true) else ((spec_ParsePlan.f k a0).bind fun bt513 => ((impl_ParsePlan.f k a0).bind fun bt521 => ((laws_eqModel.f k bt521.1 bt521.2.1 bt521.2.2.1 bt521.2.2.2.1 bt513.1 bt513.2.1 bt513.2.2.1 bt513.2.2.2.1).bind fun t529 => (if t529 = true then (laws_FnExactParsePlan.j0 k a0 bt513.2.2.2.2 (bt521.2.2.2.2 != bt513.2.2.2.2) bt513.1 bt513.2.1 bt513.2.2.1 bt513.2.2.2.1 bt521.1 bt521.2.1 bt521.2.2.1 bt521.2.2.2.1) else (laws_FnExactParsePlan.j0 k a0 bt513.2.2.2.2 true bt513.1 bt513.2.1 bt513.2.2.1 bt513.2.2.2.1 bt521.1 bt521.2.1 bt521.2.2.1 bt521.2.2.2.1)))))) = some r := h; clear h
 by_cases c2 : (a0.size : Int) > 1048576
 ·
  rw [if_pos c2] at H; have c2b0 : decide (1048576 < (a0.size : Int)) = true := dt_ c2; have c2b1 : decide (1048576 < a0.size) = true := decide_eq_true (by omega); clear c2; obtain rfl := oi_ H
  go_enter Tryz.func3, Tryz.ntmps3
  go_wp2
  go_ret
  exact rt_ HB.out
 ·
  rw [if_neg c2] at H; have c2b0 : decide (1048576 < (a0.size : Int)) = false := df_ c2; have c2b1 : decide (1048576 < a0.size) = false := decide_eq_false (by omega); clear c2; obtain ⟨⟨t513, t514, t515, t516, t519⟩, A3, H⟩ := bo_ H; (try dsimp only at H); obtain ⟨⟨t521, t522, t523, t524, t527⟩, A4, H⟩ := bo_ H; (try dsimp only at H); have HC5 := Aside0.mk H; clear H
  go_enter Tryz.func3, Tryz.ntmps3
  go_upto_region 5 with (first | ((with_reducible refine gc_ 6 ?_); refine gw_ (some 16) Tryz.func6 ?_; (with_reducible refine (spec_ParsePlan.calls A3.out).mono ?_); rintro e w6 ⟨v517, rfl, ho0, hb⟩; refine ⟨_, rfl, ?_⟩; have HO518 := Aside0.mk (Kd.S_lower ho0 (below_size (be_ HB.out))); replace HB := hb_ HB hb; (try clear hb ho0)) | ((with_reducible refine gate_dst (N := 3) rfl ?_); refine bz_ 3 ?_; intro gb520 hg w7 hbox hb; replace HO518 := Aside0.mk (Kd.S_below (S_lt_ hg (sa_ HO518.out)) hb); obtain ⟨BK520, GW520, GE520, HB⟩ := nb_ hg hbox HB hb; clear hb hbox hg; have hcz8 := box4_ BK520.out; obtain ⟨Ao9, co9, eo9⟩ := Kd.S_slice HO518.out; subst eo9) | ((with_reducible refine gc_ 7 ?_); refine gw_ (some 21) Tryz.func7 ?_; (with_reducible refine (impl_ParsePlan.calls A4.out).mono ?_); rintro e w10 ⟨v525, rfl, ho0, hb⟩; refine ⟨_, rfl, ?_⟩; have HO526 := Aside0.mk (Kd.S_lower (S_gt_ BK520 ho0) (below_size (be_ HB.out))); replace HO518 := Aside0.mk (Kd.S_below (by (with_reducible repeat (first | apply Kd.S_alloc | apply Kd.S_drewN | apply Kd.S_drew)); exact (Kd.S_mono (Kd.S_far (p := ⟨gb520, 3, none⟩) (Kd.S_far (p := ⟨gb520, 2, none⟩) (Kd.S_far (p := ⟨gb520, 1, none⟩) (Kd.S_far (p := ⟨gb520, 0, none⟩) (Kd.S_types HO518.out BK520.out (by decide)) (fun _ hk => hk.2) (.int .i64 t513)) (fun _ hk => hk.2) (.int .i64 t514)) (fun _ hk => hk.2) (.int .i64 t515)) (fun _ hk => hk.2) (.slice Ao9 t516.length co9)) (fun _ h_ => h_.1))) hb); replace BK520 := bp_ (#[.int .i64 t513, .int .i64 t514, .int .i64 t515, .slice Ao9 t516.length co9]) BK520 hb; replace HB := hb_ HB hb; (try clear hb ho0)) | ((with_reducible refine gate_dst (N := 5) rfl ?_); refine bz_ 5 ?_; intro gb528 hg w11 hbox hb; replace HO518 := Aside0.mk (Kd.S_below (sa_ HO518.out) hb); replace HO526 := Aside0.mk (Kd.S_below (sa_ HO526.out) hb); obtain ⟨BK528, GW528, GE528, HB⟩ := nb_ hg hbox HB hb; have NB520_528 := nx_ hg BK520; have NB528_520 := ny_ hg BK520; replace BK520 := bb_ BK520 hb; clear hb hbox hg; have hnb12 := nn_ NB528_520 NB520_528; have hcz13 := box4_ BK528.out; obtain ⟨Ao14, co14, eo14⟩ := Kd.S_slice HO526.out; subst eo14))
  (try simp only [Act.put, List.setIfInBounds_toArray, List.set_cons_zero, List.set_cons_succ])
  go_cut [32] (fun v32 wc => ∃ (kq : Nat) (x32_4 : Bool), v32 = .bool x32_4 ∧ Aside0 (laws_FnExactParsePlan.j0 kq a0 t519 x32_4 t513 t514 t515 t516 t521 t522 t523 t524 = some r) ∧ Aside0 (kq ≤ k) ∧ Aside0 (Kd.S k55 55 wc w.heap.size (fun k_ => k_ < gb520) (.slice Ao9 t516.length co9) t516) ∧ Aside0 (Kd.S ka55 55 wc w.heap.size (fun k_ => gb520 < k_) (.slice Ao14 t524.length co14) t524) ∧ Aside0 (wc.heap[gb520]? = some (.cells #[.int .i64 t513, .int .i64 t514, .int .i64 t515, (.slice Ao9 t516.length co9)] 26 (0, 0))) ∧ Aside0 (wc.heap[gb528]? = some (.cells #[.int .i64 t521, .int .i64 t522, .int .i64 t523, (.slice Ao14 t524.length co14)] 26 (0, 0))) ∧ Aside0 (Below w.heap.size w wc))
  case first =>
   have H := HC5.out; clear HC5; obtain ⟨t529, A15, H⟩ := bo_ H; (try dsimp only at H)
   by_cases c16 : t529 = true
   ·
    subst c16; rw [if_pos rfl] at H; have H' := Aside0.mk H; clear H; have hnb17 := nn_ NB528_520 NB520_528; have hcz18 := box4_ BK528.out; have hcz19 := box4_ BK520.out
    go_wp2_with (first | ((with_reducible refine gc_ 8 ?_); refine gw_ (some 26) Tryz.func8 ?_; (with_reducible refine (laws_eqModel.calls ?side1 ?side2 ?side3 ?side4 A15.out).mono ?_); (case side1 => refine ka55_C (Kd.S_reads' (e := 55) (base := w.heap.size) (ok := fun k_ => gb520 < k_) (n := t524.length) (c := co14) ?_).2.2; exact (by (with_reducible repeat (first | apply Kd.S_alloc | apply Kd.S_drewN | apply Kd.S_drew)); exact (Kd.S_mono (Kd.S_far (p := ⟨gb528, 3, none⟩) (Kd.S_far (p := ⟨gb528, 2, none⟩) (Kd.S_far (p := ⟨gb528, 1, none⟩) (Kd.S_far (p := ⟨gb528, 0, none⟩) (Kd.S_types HO526.out BK528.out (by decide)) (fun _ hk => hk.2) (.int .i64 t521)) (fun _ hk => hk.2) (.int .i64 t522)) (fun _ hk => hk.2) (.int .i64 t523)) (fun _ hk => hk.2) (.slice Ao14 t524.length co14)) (fun _ h_ => h_.1)))); (case side2 => exact (Kd.S_reads' HO526.out).2.1); (case side3 => refine (Kd.S_reads' (e := 55) (base := w.heap.size) (ok := fun k_ => k_ < gb520) (n := t516.length) (c := co9) ?_).2.2; exact (by (with_reducible repeat (first | apply Kd.S_alloc | apply Kd.S_drewN | apply Kd.S_drew)); exact (Kd.S_mono (Kd.S_far (p := ⟨gb528, 3, none⟩) (Kd.S_far (p := ⟨gb528, 2, none⟩) (Kd.S_far (p := ⟨gb528, 1, none⟩) (Kd.S_far (p := ⟨gb528, 0, none⟩) (Kd.S_types HO518.out BK528.out (by decide)) (fun _ hk => hk.2) (.int .i64 t521)) (fun _ hk => hk.2) (.int .i64 t522)) (fun _ hk => hk.2) (.int .i64 t523)) (fun _ hk => hk.2) (.slice Ao14 t524.length co14)) (fun _ h_ => h_.1)))); (case side4 => exact (Kd.S_reads' HO518.out).2.1); rintro e w20 ⟨rfl, hb⟩; refine ⟨_, rfl, ?_⟩; replace HO518 := Aside0.mk (Kd.S_below (by (with_reducible repeat (first | apply Kd.S_alloc | apply Kd.S_drewN | apply Kd.S_drew)); exact (Kd.S_mono (Kd.S_far (p := ⟨gb528, 3, none⟩) (Kd.S_far (p := ⟨gb528, 2, none⟩) (Kd.S_far (p := ⟨gb528, 1, none⟩) (Kd.S_far (p := ⟨gb528, 0, none⟩) (Kd.S_types HO518.out BK528.out (by decide)) (fun _ hk => hk.2) (.int .i64 t521)) (fun _ hk => hk.2) (.int .i64 t522)) (fun _ hk => hk.2) (.int .i64 t523)) (fun _ hk => hk.2) (.slice Ao14 t524.length co14)) (fun _ h_ => h_.1))) hb); replace HO526 := Aside0.mk (Kd.S_below (by (with_reducible repeat (first | apply Kd.S_alloc | apply Kd.S_drewN | apply Kd.S_drew)); exact (Kd.S_mono (Kd.S_far (p := ⟨gb528, 3, none⟩) (Kd.S_far (p := ⟨gb528, 2, none⟩) (Kd.S_far (p := ⟨gb528, 1, none⟩) (Kd.S_far (p := ⟨gb528, 0, none⟩) (Kd.S_types HO526.out BK528.out (by decide)) (fun _ hk => hk.2) (.int .i64 t521)) (fun _ hk => hk.2) (.int .i64 t522)) (fun _ hk => hk.2) (.int .i64 t523)) (fun _ hk => hk.2) (.slice Ao14 t524.length co14)) (fun _ h_ => h_.1))) hb); replace BK520 := bc_ BK520 hb; replace BK528 := bp_ (#[.int .i64 t521, .int .i64 t522, .int .i64 t523, .slice Ao14 t524.length co14]) BK528 hb; replace HB := hb_ HB hb; (try clear hb)))
    go_meet
    case rel => exact ⟨_, ((t527 != t519)), rl_, H', ⟨ro_⟩, ⟨sa_ HO518.out⟩, ⟨sa_ HO526.out⟩, ⟨bu_ BK520.out⟩, ⟨bu_ BK528.out⟩, ⟨be_ HB.out⟩⟩
   ·
    replace c16 := fb_ c16; subst c16; replace H := if0_ H
    have H' := Aside0.mk H; clear H; have hnb21 := nn_ NB528_520 NB520_528; have hcz22 := box4_ BK528.out; have hcz23 := box4_ BK520.out
    go_wp2_with (first | ((with_reducible refine gc_ 8 ?_); refine gw_ (some 26) Tryz.func8 ?_; (with_reducible refine (laws_eqModel.calls ?side1 ?side2 ?side3 ?side4 A15.out).mono ?_); (case side1 => refine ka55_C (Kd.S_reads' (e := 55) (base := w.heap.size) (ok := fun k_ => gb520 < k_) (n := t524.length) (c := co14) ?_).2.2; exact (by (with_reducible repeat (first | apply Kd.S_alloc | apply Kd.S_drewN | apply Kd.S_drew)); exact (Kd.S_mono (Kd.S_far (p := ⟨gb528, 3, none⟩) (Kd.S_far (p := ⟨gb528, 2, none⟩) (Kd.S_far (p := ⟨gb528, 1, none⟩) (Kd.S_far (p := ⟨gb528, 0, none⟩) (Kd.S_types HO526.out BK528.out (by decide)) (fun _ hk => hk.2) (.int .i64 t521)) (fun _ hk => hk.2) (.int .i64 t522)) (fun _ hk => hk.2) (.int .i64 t523)) (fun _ hk => hk.2) (.slice Ao14 t524.length co14)) (fun _ h_ => h_.1)))); (case side2 => exact (Kd.S_reads' HO526.out).2.1); (case side3 => refine (Kd.S_reads' (e := 55) (base := w.heap.size) (ok := fun k_ => k_ < gb520) (n := t516.length) (c := co9) ?_).2.2; exact (by (with_reducible repeat (first | apply Kd.S_alloc | apply Kd.S_drewN | apply Kd.S_drew)); exact (Kd.S_mono (Kd.S_far (p := ⟨gb528, 3, none⟩) (Kd.S_far (p := ⟨gb528, 2, none⟩) (Kd.S_far (p := ⟨gb528, 1, none⟩) (Kd.S_far (p := ⟨gb528, 0, none⟩) (Kd.S_types HO518.out BK528.out (by decide)) (fun _ hk => hk.2) (.int .i64 t521)) (fun _ hk => hk.2) (.int .i64 t522)) (fun _ hk => hk.2) (.int .i64 t523)) (fun _ hk => hk.2) (.slice Ao14 t524.length co14)) (fun _ h_ => h_.1)))); (case side4 => exact (Kd.S_reads' HO518.out).2.1); rintro e w24 ⟨rfl, hb⟩; refine ⟨_, rfl, ?_⟩; replace HO518 := Aside0.mk (Kd.S_below (by (with_reducible repeat (first | apply Kd.S_alloc | apply Kd.S_drewN | apply Kd.S_drew)); exact (Kd.S_mono (Kd.S_far (p := ⟨gb528, 3, none⟩) (Kd.S_far (p := ⟨gb528, 2, none⟩) (Kd.S_far (p := ⟨gb528, 1, none⟩) (Kd.S_far (p := ⟨gb528, 0, none⟩) (Kd.S_types HO518.out BK528.out (by decide)) (fun _ hk => hk.2) (.int .i64 t521)) (fun _ hk => hk.2) (.int .i64 t522)) (fun _ hk => hk.2) (.int .i64 t523)) (fun _ hk => hk.2) (.slice Ao14 t524.length co14)) (fun _ h_ => h_.1))) hb); replace HO526 := Aside0.mk (Kd.S_below (by (with_reducible repeat (first | apply Kd.S_alloc | apply Kd.S_drewN | apply Kd.S_drew)); exact (Kd.S_mono (Kd.S_far (p := ⟨gb528, 3, none⟩) (Kd.S_far (p := ⟨gb528, 2, none⟩) (Kd.S_far (p := ⟨gb528, 1, none⟩) (Kd.S_far (p := ⟨gb528, 0, none⟩) (Kd.S_types HO526.out BK528.out (by decide)) (fun _ hk => hk.2) (.int .i64 t521)) (fun _ hk => hk.2) (.int .i64 t522)) (fun _ hk => hk.2) (.int .i64 t523)) (fun _ hk => hk.2) (.slice Ao14 t524.length co14)) (fun _ h_ => h_.1))) hb); replace BK520 := bc_ BK520 hb; replace BK528 := bp_ (#[.int .i64 t521, .int .i64 t522, .int .i64 t523, .slice Ao14 t524.length co14]) BK528 hb; replace HB := hb_ HB hb; (try clear hb)))
    go_meet
    case rel => exact ⟨_, (true), rl_, H', ⟨ro_⟩, ⟨sa_ HO518.out⟩, ⟨sa_ HO526.out⟩, ⟨bu_ BK520.out⟩, ⟨bu_ BK528.out⟩, ⟨be_ HB.out⟩⟩
  case rest =>
   clear HC5; (try clear c1); (try clear c2); (try clear c2b0); (try clear c2b1); (try clear p2); (try clear c3); (try clear c6); (try clear c7); (try clear c8); (try clear c12); (try clear c16); (try clear c17); (try clear c21); (try clear hcz13); (try clear hcz18); (try clear hcz19); (try clear hcz22); (try clear hcz23); (try clear hcz8); obtain ⟨kq, x32_4, rfl, HA, HJ4, HO_521003, HO_529003, BK520, BK528, HB⟩ := hcut
   cases kq with
   | zero => exact absurd HA.out (by simp [laws_FnExactParsePlan.j0])
   | succ kj4 =>
    have H := HA.out; clear HA; simp only [laws_FnExactParsePlan.j0] at H
    by_cases c25 : x32_4 = true
    ·
     subst c25; rw [if_pos rfl] at H; exact absurd ((oi_ H).trans hr_.out) (by decide)
    ·
     replace c25 := fb_ c25; subst c25; replace H := if0_ H
     obtain ⟨⟨t530, t531⟩, A26, H⟩ := bo_ H; (try dsimp only at H); obtain ⟨t532, A27, H⟩ := bo_ H; (try dsimp only at H)
     by_cases c28 : t532 < 0
     ·
      rw [if_pos c28] at H; have c28b0 : decide (t532 < 0) = true := dt_ c28; clear c28; exact absurd ((oi_ H).trans hr_.out) (by decide)
     ·
      rw [if_neg c28] at H; have c28b0 : decide (t532 < 0) = false := df_ c28; clear c28
      by_cases c29 : t532 = t530
      ·
       rw [if_pos c29] at H; have c29b0 : (t532 == t530) = true := eq1_ c29; have c29b1 : (t532 != t530) = false := ne0_ c29; clear c29; obtain ⟨⟨t533, t534, t535, t536, t539⟩, A30, H⟩ := bo_ H; (try dsimp only at H); have HC31 := Aside0.mk H; clear H; have hnb32 := nn_ NB528_520 NB520_528; have hcz33 := box4_ BK528.out
       go_upto_region 16 with (first | ((with_reducible refine gc_ 9 ?_); refine gw_ (some 35) Tryz.func9 ?_; (with_reducible refine (laws_markModel.calls kj4 t521 t522 t523 (fun k_ : Nat => gb520 < k_ ∧ k_ ≠ gb528) (.slice Ao14 t524.length co14) t524 1 t530 t531 w _ ?side1 ?side2 A26.out).mono ?_); (case side1 => repeat (first | (with_reducible first | exact HB.out | apply below_alloc | apply pw_below_drewN | apply below_drew1 | refine below_set ?_ GE520.out | refine below_set ?_ GE528.out) | exact HB.out)); (case side2 => exact (Kd.S_types HO_529003.out BK528.out (by decide))); rintro e w34 ⟨rfl, hy0, hb, hkp⟩; refine ⟨_, rfl, ?_⟩; replace HO_521003 := Aside0.mk (Kd.S_step (sa_ HO_521003.out) (fun k_ hk_ hl_ => hkp.2 k_ hl_ (fun h_ => Nat.lt_asymm hk_ h_.1))); replace BK520 := Aside0.mk (blk_kept (bu_ BK520.out) hkp (fun hs_ => Nat.lt_irrefl _ hs_.1)); replace BK528 := Aside0.mk (blk_kept (bu_ BK528.out) hkp (fun hs_ => hs_.2 rfl)); replace HO_529003 := Aside0.mk (Kd.S_mono hy0 (fun k_ hk_ => hk_.1)); replace HB := Aside0.mk (hb); (try clear hb); (try clear hkp); (try clear hy0); have hcz35 := box4_ BK528.out) | ((with_reducible refine gc_ 10 ?_); refine gl_ (some 38) Tryz.func10 #[.agg #[.int .i64 t521, .int .i64 t522, .int .i64 t523, .slice Ao14 t531.length co14], .int .i64 1] ?_ (hargs := (by (try simp only [List.map_toArray, List.map_cons, List.map_nil]); first | done | (rw [show t531.length = t524.length from (Kd.S_reads' HO_529003.out).1.symm] <;> rfl) | rfl | (simp only [List.length_drop, List.length_take]; rfl))); (with_reducible refine (laws_heldModel.calls ?side1 ?side2 A27.out).mono ?_); (case side1 => repeat (first | exact ka55_C (Kd.S_reads' HO_529003.out).2.2 | (with_reducible refine Kd.C_alloc ?_ _) | (with_reducible refine Kd.C_drewN ?_ _) | (with_reducible refine Kd.C_drew ?_))); (case side2 => rw [show t531.length = t524.length from (Kd.S_reads' HO_529003.out).1.symm]; exact (Kd.S_reads' HO_529003.out).2.1); rintro e w36 ⟨rfl, hb⟩; refine ⟨_, rfl, ?_⟩; replace HO_521003 := Aside0.mk (Kd.S_below (sa_ HO_521003.out) hb); replace HO_529003 := Aside0.mk (Kd.S_below (sa_ HO_529003.out) hb); replace BK520 := bb_ BK520 hb; replace BK528 := bb_ BK528 hb; replace HB := hb_ HB hb; (try clear hb)) | ((with_reducible refine gc_ 7 ?_); refine gw_ (some 46) Tryz.func7 ?_; (with_reducible refine (impl_ParsePlan.calls A30.out).mono ?_); rintro e w37 ⟨v537, rfl, ho0, hb⟩; refine ⟨_, rfl, ?_⟩; have HO538 := Aside0.mk (Kd.S_lower (Kd.S_new' (Kd.S_new' ho0 (Kd.S_lt (sa_ HO_521003.out))) (Kd.S_lt (sa_ HO_529003.out))) (below_size (be_ HB.out))); replace HO_521003 := Aside0.mk (Kd.S_below (sa_ HO_521003.out) hb); replace HO_529003 := Aside0.mk (Kd.S_below (sa_ HO_529003.out) hb); replace BK520 := bb_ BK520 hb; replace BK528 := bb_ BK528 hb; replace HB := hb_ HB hb; (try clear hb ho0)) | ((with_reducible refine gate_dst (N := 9) rfl ?_); refine bz_ 9 ?_; intro gb540 hg w38 hbox hb; replace HO_521003 := Aside0.mk (Kd.S_below (sa_ HO_521003.out) hb); replace HO_529003 := Aside0.mk (Kd.S_below (sa_ HO_529003.out) hb); replace HO538 := Aside0.mk (Kd.S_below (sa_ HO538.out) hb); obtain ⟨BK540, GW540, GE540, HB⟩ := nb_ hg hbox HB hb; have NB520_540 := nx_ hg BK520; have NB540_520 := ny_ hg BK520; replace BK520 := bb_ BK520 hb; have NB528_540 := nx_ hg BK528; have NB540_528 := ny_ hg BK528; replace BK528 := bb_ BK528 hb; clear hb hbox hg; have hnb39 := nn_ NB540_520 NB520_540; have hnb40 := nn_ NB540_528 NB528_540; have hcz41 := box4_ BK540.out; obtain ⟨Ao42, co42, eo42⟩ := Kd.S_slice HO538.out; subst eo42))
       (try simp only [Act.put, List.setIfInBounds_toArray, List.set_cons_zero, List.set_cons_succ])
       go_cut [57] (fun v57 wc => ∃ (kq : Nat) (x57_30 : Bool), v57 = .bool x57_30 ∧ Aside0 (laws_FnExactParsePlan.j1 kq t530 x57_30 t521 t522 t523 t531 = some r) ∧ Aside0 (kq ≤ kj4) ∧ Aside0 (Kd.S k55 55 wc w.heap.size (fun k_ => k_ < gb520) (.slice Ao9 t516.length co9) t516) ∧ Aside0 (Kd.S ka55 55 wc w.heap.size (fun k_ => gb520 < k_) (.slice Ao14 t524.length co14) t531) ∧ Aside0 (Kd.S ka55 55 wc w.heap.size (fun k_ => some k_ ≠ ((.slice Ao9 t516.length co9) : Value).ownBlock ∧ some k_ ≠ ((.slice Ao14 t524.length co14) : Value).ownBlock) (.slice Ao42 t536.length co42) t536) ∧ Aside0 (wc.heap[gb520]? = some (.cells #[.int .i64 t513, .int .i64 t514, .int .i64 t515, (.slice Ao9 t516.length co9)] 26 (0, 0))) ∧ Aside0 (wc.heap[gb528]? = some (.cells #[.int .i64 t521, .int .i64 t522, .int .i64 t523, (.slice Ao14 t524.length co14)] 26 (0, 0))) ∧ Aside0 (wc.heap[gb540]? = some (.cells #[.int .i64 t533, .int .i64 t534, .int .i64 t535, (.slice Ao42 t536.length co42)] 26 (0, 0))) ∧ Aside0 (Below w.heap.size w wc))
       case first =>
        have H := HC31.out; clear HC31; obtain ⟨t541, A43, H⟩ := bo_ H; (try dsimp only at H)
        by_cases c44 : t541 = true
        ·
         subst c44; rw [if_pos rfl] at H; have H' := Aside0.mk H; clear H; have hnb45 := nn_ NB540_520 NB520_540; have hnb46 := nn_ NB540_528 NB528_540; have hcz47 := box4_ BK540.out; have hnb48 := nn_ NB520_528 NB528_520; have hcz49 := box4_ BK520.out
         go_wp2_with (first | ((with_reducible refine gc_ 8 ?_); refine gw_ (some 51) Tryz.func8 ?_; (with_reducible refine (laws_eqModel.calls ?side1 ?side2 ?side3 ?side4 A43.out).mono ?_); (case side1 => refine ka55_C (Kd.S_reads' (e := 55) (base := w.heap.size) (ok := fun k_ => ((True ∧ some k_ ≠ (.slice Ao9 t516.length co9 : Value).ownBlock) ∧ some k_ ≠ (.slice Ao14 t524.length co14 : Value).ownBlock)) (n := t536.length) (c := co42) ?_).2.2; exact (by (with_reducible repeat (first | apply Kd.S_alloc | apply Kd.S_drewN | apply Kd.S_drew)); exact (Kd.S_mono (Kd.S_far (p := ⟨gb540, 3, none⟩) (Kd.S_far (p := ⟨gb540, 2, none⟩) (Kd.S_far (p := ⟨gb540, 1, none⟩) (Kd.S_far (p := ⟨gb540, 0, none⟩) (Kd.S_types HO538.out BK540.out (by decide)) (fun _ hk => hk.2) (.int .i64 t533)) (fun _ hk => hk.2) (.int .i64 t534)) (fun _ hk => hk.2) (.int .i64 t535)) (fun _ hk => hk.2) (.slice Ao42 t536.length co42)) (fun _ h_ => h_.1)))); (case side2 => exact (Kd.S_reads' HO538.out).2.1); (case side3 => refine (Kd.S_reads' (e := 55) (base := w.heap.size) (ok := fun k_ => k_ < gb520) (n := t516.length) (c := co9) ?_).2.2; exact (by (with_reducible repeat (first | apply Kd.S_alloc | apply Kd.S_drewN | apply Kd.S_drew)); exact (Kd.S_mono (Kd.S_far (p := ⟨gb540, 3, none⟩) (Kd.S_far (p := ⟨gb540, 2, none⟩) (Kd.S_far (p := ⟨gb540, 1, none⟩) (Kd.S_far (p := ⟨gb540, 0, none⟩) (Kd.S_types HO_521003.out BK540.out (by decide)) (fun _ hk => hk.2) (.int .i64 t533)) (fun _ hk => hk.2) (.int .i64 t534)) (fun _ hk => hk.2) (.int .i64 t535)) (fun _ hk => hk.2) (.slice Ao42 t536.length co42)) (fun _ h_ => h_.1)))); (case side4 => exact (Kd.S_reads' HO_521003.out).2.1); rintro e w50 ⟨rfl, hb⟩; refine ⟨_, rfl, ?_⟩; replace HO_521003 := Aside0.mk (Kd.S_below (by (with_reducible repeat (first | apply Kd.S_alloc | apply Kd.S_drewN | apply Kd.S_drew)); exact (Kd.S_mono (Kd.S_far (p := ⟨gb540, 3, none⟩) (Kd.S_far (p := ⟨gb540, 2, none⟩) (Kd.S_far (p := ⟨gb540, 1, none⟩) (Kd.S_far (p := ⟨gb540, 0, none⟩) (Kd.S_types HO_521003.out BK540.out (by decide)) (fun _ hk => hk.2) (.int .i64 t533)) (fun _ hk => hk.2) (.int .i64 t534)) (fun _ hk => hk.2) (.int .i64 t535)) (fun _ hk => hk.2) (.slice Ao42 t536.length co42)) (fun _ h_ => h_.1))) hb); replace HO_529003 := Aside0.mk (Kd.S_below (by (with_reducible repeat (first | apply Kd.S_alloc | apply Kd.S_drewN | apply Kd.S_drew)); exact (Kd.S_mono (Kd.S_far (p := ⟨gb540, 3, none⟩) (Kd.S_far (p := ⟨gb540, 2, none⟩) (Kd.S_far (p := ⟨gb540, 1, none⟩) (Kd.S_far (p := ⟨gb540, 0, none⟩) (Kd.S_types HO_529003.out BK540.out (by decide)) (fun _ hk => hk.2) (.int .i64 t533)) (fun _ hk => hk.2) (.int .i64 t534)) (fun _ hk => hk.2) (.int .i64 t535)) (fun _ hk => hk.2) (.slice Ao42 t536.length co42)) (fun _ h_ => h_.1))) hb); replace HO538 := Aside0.mk (Kd.S_below (by (with_reducible repeat (first | apply Kd.S_alloc | apply Kd.S_drewN | apply Kd.S_drew)); exact (Kd.S_mono (Kd.S_far (p := ⟨gb540, 3, none⟩) (Kd.S_far (p := ⟨gb540, 2, none⟩) (Kd.S_far (p := ⟨gb540, 1, none⟩) (Kd.S_far (p := ⟨gb540, 0, none⟩) (Kd.S_types HO538.out BK540.out (by decide)) (fun _ hk => hk.2) (.int .i64 t533)) (fun _ hk => hk.2) (.int .i64 t534)) (fun _ hk => hk.2) (.int .i64 t535)) (fun _ hk => hk.2) (.slice Ao42 t536.length co42)) (fun _ h_ => h_.1))) hb); replace BK520 := bc_ BK520 hb; replace BK528 := bc_ BK528 hb; replace BK540 := bp_ (#[.int .i64 t533, .int .i64 t534, .int .i64 t535, .slice Ao42 t536.length co42]) BK540 hb; replace HB := hb_ HB hb; (try clear hb)))
         go_meet
         case rel => exact ⟨_, ((t539 != t519)), rl_, H', ⟨by have := HJ4.out; first | omega | exact Nat.le_refl _⟩, ⟨sa_ HO_521003.out⟩, ⟨sa_ HO_529003.out⟩, ⟨Kd.S_mono (sa_ HO538.out) (fun _ hk => ⟨hk.1.2, hk.2⟩)⟩, ⟨bu_ BK520.out⟩, ⟨bu_ BK528.out⟩, ⟨bu_ BK540.out⟩, ⟨be_ HB.out⟩⟩
        ·
         replace c44 := fb_ c44; subst c44; replace H := if0_ H
         have H' := Aside0.mk H; clear H; have hnb51 := nn_ NB540_520 NB520_540; have hnb52 := nn_ NB540_528 NB528_540; have hcz53 := box4_ BK540.out; have hnb54 := nn_ NB520_528 NB528_520; have hcz55 := box4_ BK520.out
         go_wp2_with (first | ((with_reducible refine gc_ 8 ?_); refine gw_ (some 51) Tryz.func8 ?_; (with_reducible refine (laws_eqModel.calls ?side1 ?side2 ?side3 ?side4 A43.out).mono ?_); (case side1 => refine ka55_C (Kd.S_reads' (e := 55) (base := w.heap.size) (ok := fun k_ => ((True ∧ some k_ ≠ (.slice Ao9 t516.length co9 : Value).ownBlock) ∧ some k_ ≠ (.slice Ao14 t524.length co14 : Value).ownBlock)) (n := t536.length) (c := co42) ?_).2.2; exact (by (with_reducible repeat (first | apply Kd.S_alloc | apply Kd.S_drewN | apply Kd.S_drew)); exact (Kd.S_mono (Kd.S_far (p := ⟨gb540, 3, none⟩) (Kd.S_far (p := ⟨gb540, 2, none⟩) (Kd.S_far (p := ⟨gb540, 1, none⟩) (Kd.S_far (p := ⟨gb540, 0, none⟩) (Kd.S_types HO538.out BK540.out (by decide)) (fun _ hk => hk.2) (.int .i64 t533)) (fun _ hk => hk.2) (.int .i64 t534)) (fun _ hk => hk.2) (.int .i64 t535)) (fun _ hk => hk.2) (.slice Ao42 t536.length co42)) (fun _ h_ => h_.1)))); (case side2 => exact (Kd.S_reads' HO538.out).2.1); (case side3 => refine (Kd.S_reads' (e := 55) (base := w.heap.size) (ok := fun k_ => k_ < gb520) (n := t516.length) (c := co9) ?_).2.2; exact (by (with_reducible repeat (first | apply Kd.S_alloc | apply Kd.S_drewN | apply Kd.S_drew)); exact (Kd.S_mono (Kd.S_far (p := ⟨gb540, 3, none⟩) (Kd.S_far (p := ⟨gb540, 2, none⟩) (Kd.S_far (p := ⟨gb540, 1, none⟩) (Kd.S_far (p := ⟨gb540, 0, none⟩) (Kd.S_types HO_521003.out BK540.out (by decide)) (fun _ hk => hk.2) (.int .i64 t533)) (fun _ hk => hk.2) (.int .i64 t534)) (fun _ hk => hk.2) (.int .i64 t535)) (fun _ hk => hk.2) (.slice Ao42 t536.length co42)) (fun _ h_ => h_.1)))); (case side4 => exact (Kd.S_reads' HO_521003.out).2.1); rintro e w56 ⟨rfl, hb⟩; refine ⟨_, rfl, ?_⟩; replace HO_521003 := Aside0.mk (Kd.S_below (by (with_reducible repeat (first | apply Kd.S_alloc | apply Kd.S_drewN | apply Kd.S_drew)); exact (Kd.S_mono (Kd.S_far (p := ⟨gb540, 3, none⟩) (Kd.S_far (p := ⟨gb540, 2, none⟩) (Kd.S_far (p := ⟨gb540, 1, none⟩) (Kd.S_far (p := ⟨gb540, 0, none⟩) (Kd.S_types HO_521003.out BK540.out (by decide)) (fun _ hk => hk.2) (.int .i64 t533)) (fun _ hk => hk.2) (.int .i64 t534)) (fun _ hk => hk.2) (.int .i64 t535)) (fun _ hk => hk.2) (.slice Ao42 t536.length co42)) (fun _ h_ => h_.1))) hb); replace HO_529003 := Aside0.mk (Kd.S_below (by (with_reducible repeat (first | apply Kd.S_alloc | apply Kd.S_drewN | apply Kd.S_drew)); exact (Kd.S_mono (Kd.S_far (p := ⟨gb540, 3, none⟩) (Kd.S_far (p := ⟨gb540, 2, none⟩) (Kd.S_far (p := ⟨gb540, 1, none⟩) (Kd.S_far (p := ⟨gb540, 0, none⟩) (Kd.S_types HO_529003.out BK540.out (by decide)) (fun _ hk => hk.2) (.int .i64 t533)) (fun _ hk => hk.2) (.int .i64 t534)) (fun _ hk => hk.2) (.int .i64 t535)) (fun _ hk => hk.2) (.slice Ao42 t536.length co42)) (fun _ h_ => h_.1))) hb); replace HO538 := Aside0.mk (Kd.S_below (by (with_reducible repeat (first | apply Kd.S_alloc | apply Kd.S_drewN | apply Kd.S_drew)); exact (Kd.S_mono (Kd.S_far (p := ⟨gb540, 3, none⟩) (Kd.S_far (p := ⟨gb540, 2, none⟩) (Kd.S_far (p := ⟨gb540, 1, none⟩) (Kd.S_far (p := ⟨gb540, 0, none⟩) (Kd.S_types HO538.out BK540.out (by decide)) (fun _ hk => hk.2) (.int .i64 t533)) (fun _ hk => hk.2) (.int .i64 t534)) (fun _ hk => hk.2) (.int .i64 t535)) (fun _ hk => hk.2) (.slice Ao42 t536.length co42)) (fun _ h_ => h_.1))) hb); replace BK520 := bc_ BK520 hb; replace BK528 := bc_ BK528 hb; replace BK540 := bp_ (#[.int .i64 t533, .int .i64 t534, .int .i64 t535, .slice Ao42 t536.length co42]) BK540 hb; replace HB := hb_ HB hb; (try clear hb)))
         go_meet
         case rel => exact ⟨_, (true), rl_, H', ⟨by have := HJ4.out; first | omega | exact Nat.le_refl _⟩, ⟨sa_ HO_521003.out⟩, ⟨sa_ HO_529003.out⟩, ⟨Kd.S_mono (sa_ HO538.out) (fun _ hk => ⟨hk.1.2, hk.2⟩)⟩, ⟨bu_ BK520.out⟩, ⟨bu_ BK528.out⟩, ⟨bu_ BK540.out⟩, ⟨be_ HB.out⟩⟩
       case rest =>
        clear HC31; (try clear c1); (try clear c2); (try clear c2b0); (try clear c2b1); (try clear p2); (try clear c3); (try clear c4); (try clear c5); (try clear c6); (try clear c7); (try clear c8); (try clear c9); (try clear c10); (try clear c12); (try clear c16); (try clear c17); (try clear c21); (try clear c25); (try clear c28); (try clear c28b0); (try clear c29); (try clear c29b0); (try clear c29b1); (try clear c32); (try clear c39); (try clear c40); (try clear c44); (try clear c45); (try clear c46); (try clear c48); (try clear c51); (try clear c52); (try clear c54); (try clear hcz13); (try clear hcz18); (try clear hcz19); (try clear hcz22); (try clear hcz23); (try clear hcz33); (try clear hcz35); (try clear hcz41); (try clear hcz47); (try clear hcz49); (try clear hcz53); (try clear hcz55); (try clear hcz8); (try clear p2); obtain ⟨kq, x57_30, rfl, HA, HJ30, HO_521003, HO_529003, HO_541003, BK520, BK528, BK540, HB⟩ := hcut; have hl529003_30 := (Kd.S_reads' HO_529003.out).1; rw [hl529003_30] at HO_529003; (try simp only [hl529003_30]); (try simp only [hl529003_30] at BK520); (try simp only [hl529003_30] at BK528); (try simp only [hl529003_30] at BK540); (try simp only [hl529003_30] at HO_521003); (try simp only [hl529003_30] at HO_541003)
        cases kq with
        | zero => exact absurd HA.out (by simp [laws_FnExactParsePlan.j1])
        | succ kj30 =>
         have H := HA.out; clear HA; simp only [laws_FnExactParsePlan.j1] at H
         by_cases c57 : x57_30 = true
         ·
          subst c57; rw [if_pos rfl] at H; exact absurd ((oi_ H).trans hr_.out) (by decide)
         ·
          replace c57 := fb_ c57; subst c57; replace H := if0_ H
          obtain ⟨t542, A58, H⟩ := bo_ H; (try dsimp only at H)
          by_cases c59 : t542 < 0
          ·
           rw [if_pos c59] at H; have c59b0 : decide (t542 < 0) = true := dt_ c59; clear c59; exact absurd ((oi_ H).trans hr_.out) (by decide)
          ·
           rw [if_neg c59] at H; have c59b0 : decide (t542 < 0) = false := df_ c59; clear c59
           by_cases c60 : t542 = t530
           ·
            rw [if_pos c60] at H; have c60b0 : (t542 == t530) = true := eq1_ c60; have c60b1 : (t542 != t530) = false := ne0_ c60; clear c60; obtain rfl := oi_ H; have hnb61 := nn_ NB528_520 NB520_528; have hnb62 := nn_ NB528_540 NB540_528; have hcz63 := box4_ BK528.out
            go_wp2_with (first | ((with_reducible refine gc_ 10 ?_); refine gw_ (some 60) Tryz.func10 ?_; (with_reducible refine (laws_heldModel.calls ?side1 ?side2 A58.out).mono ?_); (case side1 => repeat (first | exact ka55_C (Kd.S_reads' HO_529003.out).2.2 | (with_reducible refine Kd.C_alloc ?_ _) | (with_reducible refine Kd.C_drewN ?_ _) | (with_reducible refine Kd.C_drew ?_))); (case side2 => exact (Kd.S_reads' HO_529003.out).2.1); rintro e w64 ⟨rfl, hb⟩; refine ⟨_, rfl, ?_⟩; replace HO_521003 := Aside0.mk (Kd.S_below (sa_ HO_521003.out) hb); replace HO_529003 := Aside0.mk (Kd.S_below (sa_ HO_529003.out) hb); replace HO_541003 := Aside0.mk (Kd.S_below (sa_ HO_541003.out) hb); replace BK520 := bb_ BK520 hb; replace BK528 := bb_ BK528 hb; replace BK540 := bb_ BK540 hb; replace HB := hb_ HB hb; (try clear hb)))
            go_ret
            exact rt_ HB.out
           ·
            rw [if_neg c60] at H; have c60b0 : (t542 == t530) = false := eq0_ c60; have c60b1 : (t542 != t530) = true := ne1_ c60; exact absurd ((oi_ H).trans hr_.out) (by decide)
      ·
       rw [if_neg c29] at H; have c29b0 : (t532 == t530) = false := eq0_ c29; have c29b1 : (t532 != t530) = true := ne1_ c29; exact absurd ((oi_ H).trans hr_.out) (by decide)


def laws_FnExactParsePlan.Pure : Prop := ∀ (a0 : ByteArray), a0.size ≤ 140737488351232 → ∃ k, laws_FnExactParsePlan.f k a0 = some true
theorem laws_FnExactParsePlan.walk : True := trivial

end Go.Proofs.YtgolleldpmkkoaaGreatDoor.QFnExactParsePlan
