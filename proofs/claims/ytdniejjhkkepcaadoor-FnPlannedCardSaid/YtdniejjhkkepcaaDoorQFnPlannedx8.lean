/- The Go functions that the statement FnPlanned reaches, as Lean functions, each with a proof that the call does what its function says; laid by a program of this session. No condition. -/
import Derived.Test.YtdniejjhkkepcaaDoorQFnPlannedx0
import Derived.Test.YtdniejjhkkepcaaDoorQFnPlannedx2
import Derived.Test.YtdniejjhkkepcaaDoorQFnPlannedx3
namespace Go.Proofs.YtdniejjhkkepcaaDoor.QFnPlanned
open Go.RowKit Go.Proofs.YtdniejjhkkepcaaDoorW.PrintWords Go.Proofs.YtdniejjhkkepcaaDoorW.PrintLast Go.Proofs.YtdniejjhkkepcaaDoorW.PrintMore
attribute [local go_sem] max2_int min2_int max_two min_two max_three min_three max_four min_four   -- for this text's walks alone
set_option linter.unusedVariables false
set_option linter.unusedSimpArgs false

mutual
def impl_PlanOk.j0 : Nat → List Int → Int → List (S49) → Bool → Option (Bool)
 | 0, _, _, _, _ => none
 | k + 1, x0, x1, x2, x21 => if x21 = true then (some false) else (impl_PlanOk.l0 k x0 x1 x2 x2 (x2.length : Int) 0)
def impl_PlanOk.l0 : Nat → List Int → Int → List (S49) → List (S49) → Int → Int → Option (Bool)
 | 0, _, _, _, _, _, _ => none
 | k + 1, x0, x1, x2, x22, x23, x24 => if x24 < x23 then (if 0 ≤ x24 then (if x24 < (x22.length : Int) then ((impl_in.f ((rd_T49 x22 x24).f0) 0 (wrap64 ((x0.length : Int) - 1))).bind fun t291 => (if t291 = true then ((impl_in.f ((rd_T49 x22 x24).f1) 0 (wrap64 (x1 - 1))).bind fun t292 => (if t292 = true then ((impl_in.f ((rd_T49 x22 x24).f2) 0 1000000000).bind fun t293 => (if t293 = true then (if 0 ≤ ((rd_T49 x22 x24).f0) then (if ((rd_T49 x22 x24).f0) < (x0.length : Int) then (impl_PlanOk.j2 k x0 x1 x2 x24 x22 x23 x24 (((rd_T49 x22 x24).f3) != (wrap64 (((rd_T49 x22 x24).f2) + (rd x0 ((rd_T49 x22 x24).f0))))) ((rd_T49 x22 x24).f0) ((rd_T49 x22 x24).f1) ((rd_T49 x22 x24).f2) ((rd_T49 x22 x24).f3)) else (none)) else (none)) else (impl_PlanOk.j2 k x0 x1 x2 x24 x22 x23 x24 true ((rd_T49 x22 x24).f0) ((rd_T49 x22 x24).f1) ((rd_T49 x22 x24).f2) ((rd_T49 x22 x24).f3)))) else (impl_PlanOk.j2 k x0 x1 x2 x24 x22 x23 x24 true ((rd_T49 x22 x24).f0) ((rd_T49 x22 x24).f1) ((rd_T49 x22 x24).f2) ((rd_T49 x22 x24).f3)))) else (impl_PlanOk.j2 k x0 x1 x2 x24 x22 x23 x24 true ((rd_T49 x22 x24).f0) ((rd_T49 x22 x24).f1) ((rd_T49 x22 x24).f2) ((rd_T49 x22 x24).f3)))) else (none)) else (none)) else (some true)
def impl_PlanOk.j2 : Nat → List Int → Int → List (S49) → Int → List (S49) → Int → Int → Bool → Int → Int → Int → Int → Option (Bool)
 | 0, _, _, _, _, _, _, _, _, _, _, _, _ => none
 | k + 1, x0, x1, x2, x7, x22, x23, x24, x62, x291000, x291001, x291002, x291003 => if x62 = true then (some false) else (if 0 ≤ x7 then (if x7 ≤ (x2.length : Int) then ((some (x2.take (x7 : Int).toNat : List (S49))).bind fun y295 => (impl_PlanOk.l1 k x0 x1 x2 x22 x23 x24 y295 (y295.length : Int) 0 x291000 x291001 x291002 x291003)) else (none)) else (none))
def impl_PlanOk.l1 : Nat → List Int → Int → List (S49) → List (S49) → Int → Int → List (S49) → Int → Int → Int → Int → Int → Int → Option (Bool)
 | 0, _, _, _, _, _, _, _, _, _, _, _, _, _ => none
 | k + 1, x0, x1, x2, x22, x23, x24, x65, x66, x67, x291000, x291001, x291002, x291003 => if x67 < x66 then (if 0 ≤ x67 then (if x67 < (x65.length : Int) then (if ((rd_T49 x65 x67).f0) = x291000 then (impl_PlanOk.j4 k x0 x1 x2 x22 x23 x24 x65 x66 x67 true x291000 x291001 x291002 x291003) else (if ((rd_T49 x65 x67).f1) = x291001 then (if ((rd_T49 x65 x67).f2) < x291003 then (impl_PlanOk.j4 k x0 x1 x2 x22 x23 x24 x65 x66 x67 (decide (x291002 < ((rd_T49 x65 x67).f3))) x291000 x291001 x291002 x291003) else (impl_PlanOk.j4 k x0 x1 x2 x22 x23 x24 x65 x66 x67 false x291000 x291001 x291002 x291003)) else (impl_PlanOk.j4 k x0 x1 x2 x22 x23 x24 x65 x66 x67 false x291000 x291001 x291002 x291003))) else (none)) else (none)) else (impl_PlanOk.l0 k x0 x1 x2 x22 x23 (wrap64 (x24 + 1)))
def impl_PlanOk.j4 : Nat → List Int → Int → List (S49) → List (S49) → Int → Int → List (S49) → Int → Int → Bool → Int → Int → Int → Int → Option (Bool)
 | 0, _, _, _, _, _, _, _, _, _, _, _, _, _, _ => none
 | k + 1, x0, x1, x2, x22, x23, x24, x65, x66, x67, x96, x291000, x291001, x291002, x291003 => if x96 = true then (some false) else (impl_PlanOk.l1 k x0 x1 x2 x22 x23 x24 x65 x66 (wrap64 (x67 + 1)) x291000 x291001 x291002 x291003)
end
def impl_PlanOk.f (k : Nat) (l0 : List Int) (a1 : Int) (l2 : List (S49)) : Option (Bool) := (impl_arePlanned.f k l0 a1).bind fun t288 => (if t288 = true then (impl_PlanOk.j0 k l0 a1 l2 ((l2.length : Int) != (l0.length : Int))) else (impl_PlanOk.j0 k l0 a1 l2 true))
theorem impl_PlanOk.mono_l : ∀ k, (∀ y0 y1 y2 y3, LeO (impl_PlanOk.j0 k y0 y1 y2 y3) (impl_PlanOk.j0 (k + 1) y0 y1 y2 y3)) ∧ (∀ y0 y1 y2 y3 y4 y5, LeO (impl_PlanOk.l0 k y0 y1 y2 y3 y4 y5) (impl_PlanOk.l0 (k + 1) y0 y1 y2 y3 y4 y5)) ∧ (∀ y0 y1 y2 y3 y4 y5 y6 y7 y8 y9 y10 y11, LeO (impl_PlanOk.j2 k y0 y1 y2 y3 y4 y5 y6 y7 y8 y9 y10 y11) (impl_PlanOk.j2 (k + 1) y0 y1 y2 y3 y4 y5 y6 y7 y8 y9 y10 y11)) ∧ (∀ y0 y1 y2 y3 y4 y5 y6 y7 y8 y9 y10 y11 y12, LeO (impl_PlanOk.l1 k y0 y1 y2 y3 y4 y5 y6 y7 y8 y9 y10 y11 y12) (impl_PlanOk.l1 (k + 1) y0 y1 y2 y3 y4 y5 y6 y7 y8 y9 y10 y11 y12)) ∧ (∀ y0 y1 y2 y3 y4 y5 y6 y7 y8 y9 y10 y11 y12 y13, LeO (impl_PlanOk.j4 k y0 y1 y2 y3 y4 y5 y6 y7 y8 y9 y10 y11 y12 y13) (impl_PlanOk.j4 (k + 1) y0 y1 y2 y3 y4 y5 y6 y7 y8 y9 y10 y11 y12 y13))
 | 0 => ⟨fun _ _ _ _ r h => by simp [impl_PlanOk.j0] at h, fun _ _ _ _ _ _ r h => by simp [impl_PlanOk.l0] at h, fun _ _ _ _ _ _ _ _ _ _ _ _ r h => by simp [impl_PlanOk.j2] at h, fun _ _ _ _ _ _ _ _ _ _ _ _ _ r h => by simp [impl_PlanOk.l1] at h, fun _ _ _ _ _ _ _ _ _ _ _ _ _ _ r h => by simp [impl_PlanOk.j4] at h⟩
 | k + 1 => by
  obtain ⟨ih0, ih1, ih2, ih3, ih4⟩ := impl_PlanOk.mono_l k
  refine ⟨?_, ?_, ?_, ?_, ?_⟩
  ·
   intro y0 y1 y2 y3
   unfold impl_PlanOk.j0
   repeat' first
   | (with_reducible exact ih0 _ _ _ _)
   | (with_reducible exact ih1 _ _ _ _ _ _)
   | (with_reducible exact ih2 _ _ _ _ _ _ _ _ _ _ _ _)
   | (with_reducible exact ih3 _ _ _ _ _ _ _ _ _ _ _ _ _)
   | (with_reducible exact ih4 _ _ _ _ _ _ _ _ _ _ _ _ _ _)
   | (with_reducible exact impl_arePlanned.mono _ _ _)
   | (with_reducible exact LeO.refl _)
   | (with_reducible exact LeO.none _)
   | (with_reducible refine LeO.ite ?_ ?_)
   | (with_reducible refine LeO.bind ?_ (fun _ => ?_))
   | exact ih0 _ _ _ _
   | exact ih1 _ _ _ _ _ _
   | exact ih2 _ _ _ _ _ _ _ _ _ _ _ _
   | exact ih3 _ _ _ _ _ _ _ _ _ _ _ _ _
   | exact ih4 _ _ _ _ _ _ _ _ _ _ _ _ _ _
   | exact impl_arePlanned.mono _ _ _
   | exact LeO.none _
   | refine LeO.ite ?_ ?_
   | refine LeO.bind ?_ (fun _ => ?_)
  ·
   intro y0 y1 y2 y3 y4 y5
   unfold impl_PlanOk.l0
   repeat' first
   | (with_reducible exact ih0 _ _ _ _)
   | (with_reducible exact ih1 _ _ _ _ _ _)
   | (with_reducible exact ih2 _ _ _ _ _ _ _ _ _ _ _ _)
   | (with_reducible exact ih3 _ _ _ _ _ _ _ _ _ _ _ _ _)
   | (with_reducible exact ih4 _ _ _ _ _ _ _ _ _ _ _ _ _ _)
   | (with_reducible exact impl_arePlanned.mono _ _ _)
   | (with_reducible exact LeO.refl _)
   | (with_reducible exact LeO.none _)
   | (with_reducible refine LeO.ite ?_ ?_)
   | (with_reducible refine LeO.bind ?_ (fun _ => ?_))
   | exact ih0 _ _ _ _
   | exact ih1 _ _ _ _ _ _
   | exact ih2 _ _ _ _ _ _ _ _ _ _ _ _
   | exact ih3 _ _ _ _ _ _ _ _ _ _ _ _ _
   | exact ih4 _ _ _ _ _ _ _ _ _ _ _ _ _ _
   | exact impl_arePlanned.mono _ _ _
   | exact LeO.none _
   | refine LeO.ite ?_ ?_
   | refine LeO.bind ?_ (fun _ => ?_)
  ·
   intro y0 y1 y2 y3 y4 y5 y6 y7 y8 y9 y10 y11
   unfold impl_PlanOk.j2
   repeat' first
   | (with_reducible exact ih0 _ _ _ _)
   | (with_reducible exact ih1 _ _ _ _ _ _)
   | (with_reducible exact ih2 _ _ _ _ _ _ _ _ _ _ _ _)
   | (with_reducible exact ih3 _ _ _ _ _ _ _ _ _ _ _ _ _)
   | (with_reducible exact ih4 _ _ _ _ _ _ _ _ _ _ _ _ _ _)
   | (with_reducible exact impl_arePlanned.mono _ _ _)
   | (with_reducible exact LeO.refl _)
   | (with_reducible exact LeO.none _)
   | (with_reducible refine LeO.ite ?_ ?_)
   | (with_reducible refine LeO.bind ?_ (fun _ => ?_))
   | exact ih0 _ _ _ _
   | exact ih1 _ _ _ _ _ _
   | exact ih2 _ _ _ _ _ _ _ _ _ _ _ _
   | exact ih3 _ _ _ _ _ _ _ _ _ _ _ _ _
   | exact ih4 _ _ _ _ _ _ _ _ _ _ _ _ _ _
   | exact impl_arePlanned.mono _ _ _
   | exact LeO.none _
   | refine LeO.ite ?_ ?_
   | refine LeO.bind ?_ (fun _ => ?_)
  ·
   intro y0 y1 y2 y3 y4 y5 y6 y7 y8 y9 y10 y11 y12
   unfold impl_PlanOk.l1
   repeat' first
   | (with_reducible exact ih0 _ _ _ _)
   | (with_reducible exact ih1 _ _ _ _ _ _)
   | (with_reducible exact ih2 _ _ _ _ _ _ _ _ _ _ _ _)
   | (with_reducible exact ih3 _ _ _ _ _ _ _ _ _ _ _ _ _)
   | (with_reducible exact ih4 _ _ _ _ _ _ _ _ _ _ _ _ _ _)
   | (with_reducible exact impl_arePlanned.mono _ _ _)
   | (with_reducible exact LeO.refl _)
   | (with_reducible exact LeO.none _)
   | (with_reducible refine LeO.ite ?_ ?_)
   | (with_reducible refine LeO.bind ?_ (fun _ => ?_))
   | exact ih0 _ _ _ _
   | exact ih1 _ _ _ _ _ _
   | exact ih2 _ _ _ _ _ _ _ _ _ _ _ _
   | exact ih3 _ _ _ _ _ _ _ _ _ _ _ _ _
   | exact ih4 _ _ _ _ _ _ _ _ _ _ _ _ _ _
   | exact impl_arePlanned.mono _ _ _
   | exact LeO.none _
   | refine LeO.ite ?_ ?_
   | refine LeO.bind ?_ (fun _ => ?_)
  ·
   intro y0 y1 y2 y3 y4 y5 y6 y7 y8 y9 y10 y11 y12 y13
   unfold impl_PlanOk.j4
   repeat' first
   | (with_reducible exact ih0 _ _ _ _)
   | (with_reducible exact ih1 _ _ _ _ _ _)
   | (with_reducible exact ih2 _ _ _ _ _ _ _ _ _ _ _ _)
   | (with_reducible exact ih3 _ _ _ _ _ _ _ _ _ _ _ _ _)
   | (with_reducible exact ih4 _ _ _ _ _ _ _ _ _ _ _ _ _ _)
   | (with_reducible exact impl_arePlanned.mono _ _ _)
   | (with_reducible exact LeO.refl _)
   | (with_reducible exact LeO.none _)
   | (with_reducible refine LeO.ite ?_ ?_)
   | (with_reducible refine LeO.bind ?_ (fun _ => ?_))
   | exact ih0 _ _ _ _
   | exact ih1 _ _ _ _ _ _
   | exact ih2 _ _ _ _ _ _ _ _ _ _ _ _
   | exact ih3 _ _ _ _ _ _ _ _ _ _ _ _ _
   | exact ih4 _ _ _ _ _ _ _ _ _ _ _ _ _ _
   | exact impl_arePlanned.mono _ _ _
   | exact LeO.none _
   | refine LeO.ite ?_ ?_
   | refine LeO.bind ?_ (fun _ => ?_)
theorem impl_PlanOk.mono : ∀ a0 a1 a2 k, LeO (impl_PlanOk.f k a0 a1 a2) (impl_PlanOk.f (k + 1) a0 a1 a2) := by
 intro a0 a1 a2 k
 obtain ⟨ih0, ih1, ih2, ih3, ih4⟩ := impl_PlanOk.mono_l k
 unfold impl_PlanOk.f
 repeat' first
   | (with_reducible exact ih0 _ _ _ _)
   | (with_reducible exact ih1 _ _ _ _ _ _)
   | (with_reducible exact ih2 _ _ _ _ _ _ _ _ _ _ _ _)
   | (with_reducible exact ih3 _ _ _ _ _ _ _ _ _ _ _ _ _)
   | (with_reducible exact ih4 _ _ _ _ _ _ _ _ _ _ _ _ _ _)
   | (with_reducible exact impl_arePlanned.mono _ _ _)
   | (with_reducible exact LeO.refl _)
   | (with_reducible exact LeO.none _)
   | (with_reducible refine LeO.ite ?_ ?_)
   | (with_reducible refine LeO.bind ?_ (fun _ => ?_))
   | exact ih0 _ _ _ _
   | exact ih1 _ _ _ _ _ _
   | exact ih2 _ _ _ _ _ _ _ _ _ _ _ _
   | exact ih3 _ _ _ _ _ _ _ _ _ _ _ _ _
   | exact ih4 _ _ _ _ _ _ _ _ _ _ _ _ _ _
   | exact impl_arePlanned.mono _ _ _
   | exact LeO.none _
   | refine LeO.ite ?_ ?_
   | refine LeO.bind ?_ (fun _ => ?_)
def impl_PlanOk.T6 : Bool × List (List Nat × List Nat) := (true, [([], []), ([0], [0]), ([], []), ([2], [2]), ([3], [3]), ([1, 4], [1, 4]), ([5], [5]), ([6, 5], [6]), ([7], [7]), ([8, 7], [7, 8]), ([7], [7]), ([10, 7], [7, 10]), ([9, 11, 7, 7], [7, 9, 11]), ([12, 7], [7, 12]), ([7, 13], [7, 13]), ([14, 12], [14]), ([15], [15]), ([16, 15], [15, 16]), ([17, 15, 15], [15, 17]), ([18, 15], [15, 18]), ([15, 19], [15, 19]), ([20, 18], [20]), ([21], [21]), ([22, 21], [21, 22]), ([21], [21]), ([24, 21], [21, 24]), ([21], [21]), ([21], [21]), ([27, 21], [21, 27]), ([26, 28, 21], [21, 26, 28]), ([29, 21], [21, 29]), ([25, 30, 21], [21, 25, 30]), ([23, 31, 21], [21, 23, 31]), ([21, 32], [21, 32])])
def impl_PlanOk.B6 : List Nat := [0, 1, 0, 4, 12, 31, 63, 127, 255, 511, 255, 1279, 4095, 8191, 16383, 32767, 65535, 131071, 262143, 524287, 1048575, 2097151, 4194303, 8388607, 4194303, 20971519, 4194303, 4194303, 138412031, 473956351, 1010827263, 2134900735, 4294967295, 8589934591]
theorem impl_PlanOk.tab6 : rtab .any (opsOf Tryd.f13 6) = impl_PlanOk.T6 := by kernel_rfl
theorem impl_PlanOk.bits6 : waitsOk impl_PlanOk.T6.2 impl_PlanOk.B6 = true := by kernel_rfl
set_option maxHeartbeats 8000000 in
set_option maxRecDepth 100000 in
theorem impl_PlanOk.calls (k : Nat) (A0 : Option Addr) (c0 : Nat) (l0 : List Int) (a1 : Int) (A2 : Option Addr) (c2 : Nat) (l2 : List (S49)) (r : Bool) (w : World) (hr0 : Kd.C (Kd.int .i64) w A0 l0.length l0) (hc0 : l0.length ≤ c0) (hr2 : Kd.C k49 w A2 l2.length l2) (hc2 : l2.length ≤ c2) (h : impl_PlanOk.f k l0 a1 l2 = some r) :
  Calls Tryd.prog 13 #[.slice A0 l0.length c0, .int .i64 a1, .slice A2 l2.length c2] w fun e w' => e = .returned (.bool r) ∧ Below w.heap.size w w' := by
 have hu49 := Tryd.underlying49
 have HR0 := Aside0.mk hr0
 have HC0 := Aside0.mk hc0
 clear hr0 hc0
 have HR2 := Aside0.mk hr2
 have HC2 := Aside0.mk hc2
 clear hr2 hc2
 have HB := Aside0.mk (Below.refl w.heap.size w)
 have H : ((impl_arePlanned.f k l0 a1).bind fun t288 => (if t288 = true then (impl_PlanOk.j0 k l0 a1 l2 ((l2.length : Int) != (l0.length : Int))) else (impl_PlanOk.j0 k l0 a1 l2 true))) = some r := h
 clear h
 have HC4 := Aside0.mk H
 clear H
 go_enter Tryd.func13, Tryd.ntmps13
 go_upto_region 1 with (fail)
 go_cut [21] (fun v21 wc => ∃ (kq : Nat) (x21_3 : Bool), v21 = .bool x21_3 ∧ Aside0 (impl_PlanOk.j0 kq l0 a1 l2 x21_3 = some r) ∧ Aside0 (kq ≤ k) ∧ Aside0 (Below w.heap.size w wc))
 case first =>
  have H := HC4.out
  clear HC4
  replace H := Option.bind_eq_some_iff.mp H
  obtain ⟨t288, A50, H⟩ := H
  replace H : (if t288 = true then (impl_PlanOk.j0 k l0 a1 l2 ((l2.length : Int) != (l0.length : Int))) else (impl_PlanOk.j0 k l0 a1 l2 true)) = some r := H
  have A5 := Aside0.mk A50
  clear A50
  by_cases c6 : t288 = true
  ·
   subst c6
   have H1 : (impl_PlanOk.j0 k l0 a1 l2 ((l2.length : Int) != (l0.length : Int))) = some r := by rw [if_pos rfl] at H; exact H
   clear H
   have H := H1
   clear H1
   have H' := Aside0.mk H
   clear H
   go_wp2_with (first | ((with_reducible refine gate_callee (f := 26) rfl ?_); refine goesL_ (some 13) rfl rfl Tryd.func26 (by kernel_rfl) rfl #[.slice A0 l0.length c0, .int .i64 a1] rfl ar_ ?_; (with_reducible refine (impl_arePlanned.calls k _ _ l0 a1 true _ ?side1 ?side2 A5.out).mono ?_); (case side1 => exact cu_ HR0.out HB.out); (case side2 => exact HC0.out); rintro e w' ⟨rfl, ⟨nd, rfl⟩⟩; refine ⟨_, rfl, ?_⟩))
   go_meet
   case rel => exact ⟨_, (((l2.length : Int) != (l0.length : Int))), (by first | rfl | (simp; done) | (simp [*]; done)), H', ⟨by first | omega | exact Nat.le_refl _⟩, ⟨be_ HB.out⟩⟩
  ·
   replace c6 := Bool.eq_false_iff.mpr c6
   subst c6
   have H1 : (impl_PlanOk.j0 k l0 a1 l2 true) = some r := by rw [if_neg (show ¬ (false = true) by decide)] at H; exact H
   clear H
   have H := H1
   clear H1
   have H' := Aside0.mk H
   clear H
   go_wp2_with (first | ((with_reducible refine gate_callee (f := 26) rfl ?_); refine goesL_ (some 13) rfl rfl Tryd.func26 (by kernel_rfl) rfl #[.slice A0 l0.length c0, .int .i64 a1] rfl ar_ ?_; (with_reducible refine (impl_arePlanned.calls k _ _ l0 a1 false _ ?side1 ?side2 A5.out).mono ?_); (case side1 => exact cu_ HR0.out HB.out); (case side2 => exact HC0.out); rintro e w' ⟨rfl, ⟨nd, rfl⟩⟩; refine ⟨_, rfl, ?_⟩))
   go_meet
   case rel => exact ⟨_, (true), (by first | rfl | (simp; done) | (simp [*]; done)), H', ⟨by first | omega | exact Nat.le_refl _⟩, ⟨be_ HB.out⟩⟩
 case rest =>
  clear HC4
  (try clear c1); (try clear c2); (try clear p2); (try clear c6)
  obtain ⟨kq, x21_3, rfl, HA, HJ3, HB⟩ := hcut
  cases kq with
  | zero => exact absurd HA.out (by simp [impl_PlanOk.j0])
  | succ kj3 =>
   have H := HA.out
   clear HA
   simp only [impl_PlanOk.j0] at H
   by_cases c7 : x21_3 = true
   ·
    subst c7
    have H1 : (some false) = some r := by rw [if_pos rfl] at H; exact H
    clear H
    have H := H1
    clear H1
    obtain rfl := Option.some.inj H
    go_wp2
    go_ret
    exact ⟨by first | rfl | (simp [errW_none, errW_some] <;> rfl) | (simp [*, errW_none, errW_some] <;> rfl), be_ HB.out⟩
   ·
    replace c7 := Bool.eq_false_iff.mpr c7
    subst c7
    have H1 : (impl_PlanOk.l0 kj3 l0 a1 l2 l2 (l2.length : Int) 0) = some r := by rw [if_neg (show ¬ (false = true) by decide)] at H; exact H
    clear H
    have H := H1
    clear H1
    have H' := Aside0.mk H
    clear H
    go_wp2
    go_loopg [24] kj3 (fun kq v24 w' => ∃ (x24_2 : Int), v24 = .int .i64 x24_2 ∧ Aside0 (impl_PlanOk.l0 kq l0 a1 l2 l2 (l2.length : Int) x24_2 = some r) ∧ Aside0 (kq ≤ kj3) ∧ Aside0 (Below w.heap.size w w'))
    case atStart => exact ⟨(0), (by first | rfl | (simp; done) | (simp [*]; done)), H', ⟨Nat.le_refl _⟩, ⟨be_ HB.out⟩⟩
    case round =>
     clear H'
     (try clear c1); (try clear c2); (try clear p2); (try clear c6); (try clear c7); (try clear p2)
     obtain ⟨x24_2, rfl, HA, HK2, HB⟩ := hrel
     cases gk with
     | zero => exact absurd HA.out (by simp [impl_PlanOk.l0])
     | succ k2 =>
      have H := HA.out
      clear HA
      simp only [impl_PlanOk.l0] at H
      by_cases c8 : x24_2 < (l2.length : Int)
      ·
       rw [if_pos c8] at H
       have c8b0 : decide (x24_2 < (l2.length : Int)) = true := decide_eq_true c8
       clear c8
       by_cases c9 : 0 ≤ x24_2
       ·
        rw [if_pos c9] at H
        have c9b0 : decide (0 ≤ x24_2) = true := decide_eq_true c9
        clear c9
        by_cases c10 : x24_2 < (l2.length : Int)
        ·
         rw [if_pos c10] at H
         have c10b0 : decide (x24_2 < (l2.length : Int)) = true := decide_eq_true c10
         clear c10
         have HC11 := Aside0.mk H
         clear H
         have p289 : 0 ≤ (x24_2 : Int) := of_decide_eq_true (by first | (with_reducible assumption) | assumption)
         have q289 : x24_2 < (l2.length : Int) := of_decide_eq_true (by first | (with_reducible assumption) | assumption)
         obtain ⟨ad289, e289, hx289_0, hx289_1, hx289_2, hx289_3⟩ := at_T49 HR2.out x24_2 p289 q289
         cases e289
         replace hx289_0 := cw_ HB.out hx289_0
         replace hx289_1 := cw_ HB.out hx289_1
         replace hx289_2 := cw_ HB.out hx289_2
         replace hx289_3 := cw_ HB.out hx289_3
         replace p289 := eq_true p289
         replace q289 := eq_true q289
         go_upto_region 6 with (first | ((with_reducible refine gate_dst (N := 8) rfl ?_); (try (refine gate_guard (by rfl) ?_; dsimp only)); refine bx_ 8 #[.int .i64 0, .int .i64 0, .int .i64 0, .int .i64 0] 49 ?_; intro gb290 hg w12 hbox hb; have n0_ := Aside0.mk (below_step (be_ HB.out) hb); have n1_ := Aside0.mk (hbox); have n2_ := Aside0.mk ((bg_ hg HB.out)); have n3_ := Aside0.mk ((bg_ hg HB.out)); clear HB; have HB := n0_; have BK290 := n1_; have GW290 := n2_; have GE290 := n3_; clear n0_ n1_ n2_ n3_; clear hb hbox hg; obtain ⟨hcz13_0, hcz13_1, hcz13_2, hcz13_3, hfz13_0, hfz13_1, hfz13_2, hfz13_3⟩ := box4_ BK290.out))
         (try simp only [Act.put, List.setIfInBounds_toArray, List.set_cons_zero, List.set_cons_succ])
         go_cut [62] (fun v62 wc => ∃ (kq : Nat) (x62_10 : Bool), v62 = .bool x62_10 ∧ Aside0 (impl_PlanOk.j2 kq l0 a1 l2 x24_2 l2 (l2.length : Int) x24_2 x62_10 ((rd_T49 l2 x24_2).f0) ((rd_T49 l2 x24_2).f1) ((rd_T49 l2 x24_2).f2) ((rd_T49 l2 x24_2).f3) = some r) ∧ Aside0 (kq ≤ k2) ∧ Aside0 (wc.heap[gb290]? = some (.cells #[.int .i64 ((rd_T49 l2 x24_2).f0), .int .i64 ((rd_T49 l2 x24_2).f1), .int .i64 ((rd_T49 l2 x24_2).f2), .int .i64 ((rd_T49 l2 x24_2).f3)] 49 (0, 0))) ∧ Aside0 (Below w.heap.size w wc))
         case first =>
          have H := HC11.out
          clear HC11
          replace H := Option.bind_eq_some_iff.mp H
          obtain ⟨t291, A140, H⟩ := H
          replace H : (if t291 = true then ((impl_in.f ((rd_T49 l2 x24_2).f1) 0 (wrap64 (a1 - 1))).bind fun t292 => (if t292 = true then ((impl_in.f ((rd_T49 l2 x24_2).f2) 0 1000000000).bind fun t293 => (if t293 = true then (if 0 ≤ ((rd_T49 l2 x24_2).f0) then (if ((rd_T49 l2 x24_2).f0) < (l0.length : Int) then (impl_PlanOk.j2 k2 l0 a1 l2 x24_2 l2 (l2.length : Int) x24_2 (((rd_T49 l2 x24_2).f3) != (wrap64 (((rd_T49 l2 x24_2).f2) + (rd l0 ((rd_T49 l2 x24_2).f0))))) ((rd_T49 l2 x24_2).f0) ((rd_T49 l2 x24_2).f1) ((rd_T49 l2 x24_2).f2) ((rd_T49 l2 x24_2).f3)) else (none)) else (none)) else (impl_PlanOk.j2 k2 l0 a1 l2 x24_2 l2 (l2.length : Int) x24_2 true ((rd_T49 l2 x24_2).f0) ((rd_T49 l2 x24_2).f1) ((rd_T49 l2 x24_2).f2) ((rd_T49 l2 x24_2).f3)))) else (impl_PlanOk.j2 k2 l0 a1 l2 x24_2 l2 (l2.length : Int) x24_2 true ((rd_T49 l2 x24_2).f0) ((rd_T49 l2 x24_2).f1) ((rd_T49 l2 x24_2).f2) ((rd_T49 l2 x24_2).f3)))) else (impl_PlanOk.j2 k2 l0 a1 l2 x24_2 l2 (l2.length : Int) x24_2 true ((rd_T49 l2 x24_2).f0) ((rd_T49 l2 x24_2).f1) ((rd_T49 l2 x24_2).f2) ((rd_T49 l2 x24_2).f3))) = some r := H
          have A14 := Aside0.mk A140
          clear A140
          by_cases c15 : t291 = true
          ·
           subst c15
           have H1 : ((impl_in.f ((rd_T49 l2 x24_2).f1) 0 (wrap64 (a1 - 1))).bind fun t292 => (if t292 = true then ((impl_in.f ((rd_T49 l2 x24_2).f2) 0 1000000000).bind fun t293 => (if t293 = true then (if 0 ≤ ((rd_T49 l2 x24_2).f0) then (if ((rd_T49 l2 x24_2).f0) < (l0.length : Int) then (impl_PlanOk.j2 k2 l0 a1 l2 x24_2 l2 (l2.length : Int) x24_2 (((rd_T49 l2 x24_2).f3) != (wrap64 (((rd_T49 l2 x24_2).f2) + (rd l0 ((rd_T49 l2 x24_2).f0))))) ((rd_T49 l2 x24_2).f0) ((rd_T49 l2 x24_2).f1) ((rd_T49 l2 x24_2).f2) ((rd_T49 l2 x24_2).f3)) else (none)) else (none)) else (impl_PlanOk.j2 k2 l0 a1 l2 x24_2 l2 (l2.length : Int) x24_2 true ((rd_T49 l2 x24_2).f0) ((rd_T49 l2 x24_2).f1) ((rd_T49 l2 x24_2).f2) ((rd_T49 l2 x24_2).f3)))) else (impl_PlanOk.j2 k2 l0 a1 l2 x24_2 l2 (l2.length : Int) x24_2 true ((rd_T49 l2 x24_2).f0) ((rd_T49 l2 x24_2).f1) ((rd_T49 l2 x24_2).f2) ((rd_T49 l2 x24_2).f3)))) = some r := by rw [if_pos rfl] at H; exact H
           clear H
           have H := H1
           clear H1
           replace H := Option.bind_eq_some_iff.mp H
           obtain ⟨t292, A160, H⟩ := H
           replace H : (if t292 = true then ((impl_in.f ((rd_T49 l2 x24_2).f2) 0 1000000000).bind fun t293 => (if t293 = true then (if 0 ≤ ((rd_T49 l2 x24_2).f0) then (if ((rd_T49 l2 x24_2).f0) < (l0.length : Int) then (impl_PlanOk.j2 k2 l0 a1 l2 x24_2 l2 (l2.length : Int) x24_2 (((rd_T49 l2 x24_2).f3) != (wrap64 (((rd_T49 l2 x24_2).f2) + (rd l0 ((rd_T49 l2 x24_2).f0))))) ((rd_T49 l2 x24_2).f0) ((rd_T49 l2 x24_2).f1) ((rd_T49 l2 x24_2).f2) ((rd_T49 l2 x24_2).f3)) else (none)) else (none)) else (impl_PlanOk.j2 k2 l0 a1 l2 x24_2 l2 (l2.length : Int) x24_2 true ((rd_T49 l2 x24_2).f0) ((rd_T49 l2 x24_2).f1) ((rd_T49 l2 x24_2).f2) ((rd_T49 l2 x24_2).f3)))) else (impl_PlanOk.j2 k2 l0 a1 l2 x24_2 l2 (l2.length : Int) x24_2 true ((rd_T49 l2 x24_2).f0) ((rd_T49 l2 x24_2).f1) ((rd_T49 l2 x24_2).f2) ((rd_T49 l2 x24_2).f3))) = some r := H
           have A16 := Aside0.mk A160
           clear A160
           by_cases c17 : t292 = true
           ·
            subst c17
            have H1 : ((impl_in.f ((rd_T49 l2 x24_2).f2) 0 1000000000).bind fun t293 => (if t293 = true then (if 0 ≤ ((rd_T49 l2 x24_2).f0) then (if ((rd_T49 l2 x24_2).f0) < (l0.length : Int) then (impl_PlanOk.j2 k2 l0 a1 l2 x24_2 l2 (l2.length : Int) x24_2 (((rd_T49 l2 x24_2).f3) != (wrap64 (((rd_T49 l2 x24_2).f2) + (rd l0 ((rd_T49 l2 x24_2).f0))))) ((rd_T49 l2 x24_2).f0) ((rd_T49 l2 x24_2).f1) ((rd_T49 l2 x24_2).f2) ((rd_T49 l2 x24_2).f3)) else (none)) else (none)) else (impl_PlanOk.j2 k2 l0 a1 l2 x24_2 l2 (l2.length : Int) x24_2 true ((rd_T49 l2 x24_2).f0) ((rd_T49 l2 x24_2).f1) ((rd_T49 l2 x24_2).f2) ((rd_T49 l2 x24_2).f3)))) = some r := by rw [if_pos rfl] at H; exact H
            clear H
            have H := H1
            clear H1
            replace H := Option.bind_eq_some_iff.mp H
            obtain ⟨t293, A180, H⟩ := H
            replace H : (if t293 = true then (if 0 ≤ ((rd_T49 l2 x24_2).f0) then (if ((rd_T49 l2 x24_2).f0) < (l0.length : Int) then (impl_PlanOk.j2 k2 l0 a1 l2 x24_2 l2 (l2.length : Int) x24_2 (((rd_T49 l2 x24_2).f3) != (wrap64 (((rd_T49 l2 x24_2).f2) + (rd l0 ((rd_T49 l2 x24_2).f0))))) ((rd_T49 l2 x24_2).f0) ((rd_T49 l2 x24_2).f1) ((rd_T49 l2 x24_2).f2) ((rd_T49 l2 x24_2).f3)) else (none)) else (none)) else (impl_PlanOk.j2 k2 l0 a1 l2 x24_2 l2 (l2.length : Int) x24_2 true ((rd_T49 l2 x24_2).f0) ((rd_T49 l2 x24_2).f1) ((rd_T49 l2 x24_2).f2) ((rd_T49 l2 x24_2).f3))) = some r := H
            have A18 := Aside0.mk A180
            clear A180
            by_cases c19 : t293 = true
            ·
             subst c19
             have H1 : (if 0 ≤ ((rd_T49 l2 x24_2).f0) then (if ((rd_T49 l2 x24_2).f0) < (l0.length : Int) then (impl_PlanOk.j2 k2 l0 a1 l2 x24_2 l2 (l2.length : Int) x24_2 (((rd_T49 l2 x24_2).f3) != (wrap64 (((rd_T49 l2 x24_2).f2) + (rd l0 ((rd_T49 l2 x24_2).f0))))) ((rd_T49 l2 x24_2).f0) ((rd_T49 l2 x24_2).f1) ((rd_T49 l2 x24_2).f2) ((rd_T49 l2 x24_2).f3)) else (none)) else (none)) = some r := by rw [if_pos rfl] at H; exact H
             clear H
             have H := H1
             clear H1
             by_cases c20 : 0 ≤ ((rd_T49 l2 x24_2).f0)
             ·
              rw [if_pos c20] at H
              have c20b0 : decide (0 ≤ ((rd_T49 l2 x24_2).f0)) = true := decide_eq_true c20
              clear c20
              (first | rw [c20b0] | (simp only [i64_w, i32_w]; rw [c20b0]) | skip)
              by_cases c21 : ((rd_T49 l2 x24_2).f0) < (l0.length : Int)
              ·
               rw [if_pos c21] at H
               have c21b0 : decide (((rd_T49 l2 x24_2).f0) < (l0.length : Int)) = true := decide_eq_true c21
               clear c21
               have H' := Aside0.mk H
               clear H
               try go_wp2
               have n0_ : Aside0 (((((w12.setCell ⟨gb290, 0, none⟩ (.int .i64 ((rd_T49 l2 x24_2).f0))).setCell ⟨gb290, 1, none⟩ (.int .i64 ((rd_T49 l2 x24_2).f1))).setCell ⟨gb290, 2, none⟩ (.int .i64 ((rd_T49 l2 x24_2).f2))).setCell ⟨gb290, 3, none⟩ (.int .i64 ((rd_T49 l2 x24_2).f3))).heap[gb290]? = some (.cells #[.int .i64 ((rd_T49 l2 x24_2).f0), .int .i64 ((rd_T49 l2 x24_2).f1), .int .i64 ((rd_T49 l2 x24_2).f2), .int .i64 ((rd_T49 l2 x24_2).f3)] 49 (0, 0))) := ⟨by (with_reducible repeat (first | refine blk_drewN ?_ _ | refine blk_drew ?_ | refine blk_alloc ?_ _)); refine blk_put (cs := #[.int .i64 ((rd_T49 l2 x24_2).f0), .int .i64 ((rd_T49 l2 x24_2).f1), .int .i64 ((rd_T49 l2 x24_2).f2), .int .i64 0]) ?_ 3 _ rfl; (with_reducible repeat (first | refine blk_drewN ?_ _ | refine blk_drew ?_ | refine blk_alloc ?_ _)); refine blk_put (cs := #[.int .i64 ((rd_T49 l2 x24_2).f0), .int .i64 ((rd_T49 l2 x24_2).f1), .int .i64 0, .int .i64 0]) ?_ 2 _ rfl; (with_reducible repeat (first | refine blk_drewN ?_ _ | refine blk_drew ?_ | refine blk_alloc ?_ _)); refine blk_put (cs := #[.int .i64 ((rd_T49 l2 x24_2).f0), .int .i64 0, .int .i64 0, .int .i64 0]) ?_ 1 _ rfl; (with_reducible repeat (first | refine blk_drewN ?_ _ | refine blk_drew ?_ | refine blk_alloc ?_ _)); refine blk_put (cs := #[.int .i64 0, .int .i64 0, .int .i64 0, .int .i64 0]) ?_ 0 _ rfl; (with_reducible repeat (first | refine blk_drewN ?_ _ | refine blk_drew ?_ | refine blk_alloc ?_ _)); exact BK290.out⟩
               have n1_ : Aside0 (Below w.heap.size w ((((w12.setCell ⟨gb290, 0, none⟩ (.int .i64 ((rd_T49 l2 x24_2).f0))).setCell ⟨gb290, 1, none⟩ (.int .i64 ((rd_T49 l2 x24_2).f1))).setCell ⟨gb290, 2, none⟩ (.int .i64 ((rd_T49 l2 x24_2).f2))).setCell ⟨gb290, 3, none⟩ (.int .i64 ((rd_T49 l2 x24_2).f3)))) := ⟨be_ HB.out⟩
               (try clear BK290)
               (try clear HB)
               generalize ((((w12.setCell ⟨gb290, 0, none⟩ (.int .i64 ((rd_T49 l2 x24_2).f0))).setCell ⟨gb290, 1, none⟩ (.int .i64 ((rd_T49 l2 x24_2).f1))).setCell ⟨gb290, 2, none⟩ (.int .i64 ((rd_T49 l2 x24_2).f2))).setCell ⟨gb290, 3, none⟩ (.int .i64 ((rd_T49 l2 x24_2).f3))) = w22 at n0_ n1_ ⊢
               have BK290 := n0_
               have HB := n1_
               clear n0_ n1_
               have n0_ := Aside0.mk (blk_drew BK290.out)
               have n1_ := Aside0.mk (below_drew1 HB.out)
               clear BK290
               clear HB
               have BK290 := n0_
               have HB := n1_
               clear n0_ n1_
               have p294 : 0 ≤ (((rd_T49 l2 x24_2).f0) : Int) := of_decide_eq_true (by first | (with_reducible assumption) | assumption)
               have q294 : ((rd_T49 l2 x24_2).f0) < (l0.length : Int) := of_decide_eq_true (by first | (with_reducible assumption) | assumption)
               obtain ⟨ad294, e294, hx294_0⟩ := Kd.at_int HR0.out ((rd_T49 l2 x24_2).f0) p294 q294
               have hw294_0 := hx294_0
               cases e294
               replace hx294_0 := cw_ HB.out hx294_0
               replace p294 := eq_true p294
               replace q294 := eq_true q294
               refine start_ (n := 34) (S := fun w' => w'.cell? ⟨gb290, 0, none⟩ = some (.int .i64 ((rd_T49 l2 x24_2).f0)) ∧ w'.cell? ⟨gb290, 1, none⟩ = some (.int .i64 ((rd_T49 l2 x24_2).f1)) ∧ w'.cell? ⟨gb290, 2, none⟩ = some (.int .i64 ((rd_T49 l2 x24_2).f2)) ∧ w'.cell? ⟨gb290, 3, none⟩ = some (.int .i64 ((rd_T49 l2 x24_2).f3)) ∧ w'.cell? (ad294.add (((rd_T49 l2 x24_2).f0)).toNat) = some (.int .i64 (rd l0 ((rd_T49 l2 x24_2).f0)))) (ds := []) #[false, false, false, false, false, false, false, false, false, false, false, false, false, false, false, false, false, false, false, false, false, false, false, false, false, false, false, false, false, false, false, false, false, false] (by kernel_rfl) rfl rfl ⟨(blk_cell BK290.out 0).trans rfl, (blk_cell BK290.out 1).trans rfl, (blk_cell BK290.out 2).trans rfl, (blk_cell BK290.out 3).trans rfl, (cw_ HB.out hw294_0)⟩ (fun hHeld => ?_); refine with_tabW impl_PlanOk.tab6 impl_PlanOk.bits6 (fun HT_ HW_ => ?_)
               generalize w22.drew = w23 at BK290 HB hx294_0 hHeld ⊢
               refine pl_ 0 (some 29) 34 1 HT_.out ?_
               refine pl_ 2 (some 31) 34 5 HT_.out ?_
               refine pl_ 3 (some 32) 34 13 HT_.out ?_
               refine pl_ 4 (some 33) 34 29 HT_.out ?_
               refine tk_ 1 (some 30) 34 31 HT_.out HW_.out hHeld (hy := by rintro w' ⟨s0, s1, s2, s3, s4⟩; go_simp; with_reducible rfl) (h := ?_)
               refine one_ (i := 5) (N := some 34) (bl_ 34 63) rfl rfl (one_of HT_.out (by kernel_rfl)) (by decide) (fun K hK => ?_)
               refine goes_ Tryd.func39 (by kernel_rfl) rfl #[.int .i64 ((rd_T49 l2 x24_2).f0), .int .i64 0, .int .i64 (wrap64 ((l0.length : Int) - 1))] (by rfl) rfl rfl ar_ ?_
               with_reducible refine (impl_in.calls ((rd_T49 l2 x24_2).f0) 0 (wrap64 ((l0.length : Int) - 1)) true _ A14.out).mono ?_
               rintro e w' ⟨rfl, ⟨nd, rfl⟩⟩
               refine ⟨_, rfl, ?_⟩
               refine hK.out _ _ ⟨(blk_cell BK290.out 0).trans rfl, (blk_cell BK290.out 1).trans rfl, (blk_cell BK290.out 2).trans rfl, (blk_cell BK290.out 3).trans rfl, (cw_ HB.out hw294_0)⟩ (fun hHeld => ?_)
               clear hK K
               refine nm_ 34 (h := ?_)
               refine pl_ 6 (some 35) 34 127 HT_.out ?_
               refine pl_ 7 (some 36) 34 255 HT_.out ?_
               refine pl_ 8 (some 37) 34 511 HT_.out ?_
               refine pl_ 10 (some 39) 34 1535 HT_.out ?_
               refine pl_ 11 (some 40) 34 3583 HT_.out ?_
               refine tk_ 9 (some 38) 34 4095 HT_.out HW_.out hHeld (hy := by rintro w' ⟨s0, s1, s2, s3, s4⟩; go_simp; with_reducible rfl) (h := ?_)
               refine one_ (i := 12) (N := some 41) (bl_ 34 8191) rfl rfl (one_of HT_.out (by kernel_rfl)) (by decide) (fun K hK => ?_)
               refine goes_ Tryd.func39 (by kernel_rfl) rfl #[.int .i64 ((rd_T49 l2 x24_2).f1), .int .i64 0, .int .i64 (wrap64 (a1 - 1))] (by rfl) rfl rfl ar_ ?_
               with_reducible refine (impl_in.calls ((rd_T49 l2 x24_2).f1) 0 (wrap64 (a1 - 1)) true _ A16.out).mono ?_
               rintro e w' ⟨rfl, ⟨nd, rfl⟩⟩
               refine ⟨_, rfl, ?_⟩
               refine hK.out _ _ ⟨(blk_cell BK290.out 0).trans rfl, (blk_cell BK290.out 1).trans rfl, (blk_cell BK290.out 2).trans rfl, (blk_cell BK290.out 3).trans rfl, (cw_ HB.out hw294_0)⟩ (fun hHeld => ?_)
               clear hK K
               refine nm_ 41 (h := ?_)
               refine pl_ 13 (some 42) 34 16383 HT_.out ?_
               refine pl_ 14 (some 43) 34 32767 HT_.out ?_
               refine pl_ 15 (some 44) 34 65535 HT_.out ?_
               refine pl_ 16 (some 45) 34 131071 HT_.out ?_
               refine tk_ 17 (some 46) 34 262143 HT_.out HW_.out hHeld (hy := by rintro w' ⟨s0, s1, s2, s3, s4⟩; go_simp; with_reducible rfl) (h := ?_)
               refine one_ (i := 18) (N := some 47) (bl_ 34 524287) rfl rfl (one_of HT_.out (by kernel_rfl)) (by decide) (fun K hK => ?_)
               refine goes_ Tryd.func39 (by kernel_rfl) rfl #[.int .i64 ((rd_T49 l2 x24_2).f2), .int .i64 0, .int .i64 1000000000] (by rfl) rfl rfl ar_ ?_
               with_reducible refine (impl_in.calls ((rd_T49 l2 x24_2).f2) 0 1000000000 true _ A18.out).mono ?_
               rintro e w' ⟨rfl, ⟨nd, rfl⟩⟩
               refine ⟨_, rfl, ?_⟩
               refine hK.out _ _ ⟨(blk_cell BK290.out 0).trans rfl, (blk_cell BK290.out 1).trans rfl, (blk_cell BK290.out 2).trans rfl, (blk_cell BK290.out 3).trans rfl, (cw_ HB.out hw294_0)⟩ (fun hHeld => ?_)
               clear hK K
               refine nm_ 47 (h := ?_)
               refine pl_ 19 (some 48) 34 1048575 HT_.out ?_
               refine pl_ 20 (some 49) 34 2097151 HT_.out ?_
               refine pl_ 21 (some 50) 34 4194303 HT_.out ?_
               refine pl_ 22 (some 51) 34 8388607 HT_.out ?_
               refine pl_ 24 (some 53) 34 25165823 HT_.out ?_
               refine pl_ 26 (some 55) 34 92274687 HT_.out ?_
               refine pl_ 27 (some 56) 34 226492415 HT_.out ?_
               refine tk_ 23 (some 52) 34 234881023 HT_.out HW_.out hHeld (hy := by rintro w' ⟨s0, s1, s2, s3, s4⟩; go_simp; with_reducible rfl) (h := ?_)
               refine tk_ 25 (some 54) 34 268435455 HT_.out HW_.out hHeld (hy := by rintro w' ⟨s0, s1, s2, s3, s4⟩; go_simp; with_reducible rfl) (h := ?_)
               refine tk_ 28 (some 57) 34 536870911 HT_.out HW_.out hHeld (hy := by rintro w' ⟨s0, s1, s2, s3, s4⟩; go_simp; with_reducible rfl) (h := ?_)
               refine pl_ 29 (some 58) 34 1073741823 HT_.out ?_
               refine tk_ 30 (some 59) 34 2147483647 HT_.out HW_.out hHeld (hy := by rintro w' ⟨s0, s1, s2, s3, s4⟩; go_simp; with_reducible rfl) (h := ?_)
               refine pl_ 31 (some 60) 34 4294967295 HT_.out ?_
               refine pl_ 32 (some 61) 34 8589934591 HT_.out ?_
               refine pl_ 33 (some 62) 34 17179869183 HT_.out ?_
               refine done_ (done_of HT_.out (by kernel_rfl)) ?_
               try go_wp2
               go_meet
               case rel => exact ⟨_, ((((rd_T49 l2 x24_2).f3) != (wrap64 (((rd_T49 l2 x24_2).f2) + (rd l0 ((rd_T49 l2 x24_2).f0)))))), (by first | rfl | (simp; done) | (simp [*]; done)), H', ⟨by have := HJ3.out; have := HK2.out; first | omega | exact Nat.le_refl _⟩, ⟨bu_ BK290.out⟩, ⟨be_ HB.out⟩⟩
              ·
               rw [if_neg c21] at H
               exact absurd H (by simp)
             ·
              rw [if_neg c20] at H
              exact absurd H (by simp)
            ·
             replace c19 := Bool.eq_false_iff.mpr c19
             subst c19
             have H1 : (impl_PlanOk.j2 k2 l0 a1 l2 x24_2 l2 (l2.length : Int) x24_2 true ((rd_T49 l2 x24_2).f0) ((rd_T49 l2 x24_2).f1) ((rd_T49 l2 x24_2).f2) ((rd_T49 l2 x24_2).f3)) = some r := by rw [if_neg (show ¬ (false = true) by decide)] at H; exact H
             clear H
             have H := H1
             clear H1
             have H' := Aside0.mk H
             clear H
             try go_wp2
             have n0_ : Aside0 (((((w12.setCell ⟨gb290, 0, none⟩ (.int .i64 ((rd_T49 l2 x24_2).f0))).setCell ⟨gb290, 1, none⟩ (.int .i64 ((rd_T49 l2 x24_2).f1))).setCell ⟨gb290, 2, none⟩ (.int .i64 ((rd_T49 l2 x24_2).f2))).setCell ⟨gb290, 3, none⟩ (.int .i64 ((rd_T49 l2 x24_2).f3))).heap[gb290]? = some (.cells #[.int .i64 ((rd_T49 l2 x24_2).f0), .int .i64 ((rd_T49 l2 x24_2).f1), .int .i64 ((rd_T49 l2 x24_2).f2), .int .i64 ((rd_T49 l2 x24_2).f3)] 49 (0, 0))) := ⟨by (with_reducible repeat (first | refine blk_drewN ?_ _ | refine blk_drew ?_ | refine blk_alloc ?_ _)); refine blk_put (cs := #[.int .i64 ((rd_T49 l2 x24_2).f0), .int .i64 ((rd_T49 l2 x24_2).f1), .int .i64 ((rd_T49 l2 x24_2).f2), .int .i64 0]) ?_ 3 _ rfl; (with_reducible repeat (first | refine blk_drewN ?_ _ | refine blk_drew ?_ | refine blk_alloc ?_ _)); refine blk_put (cs := #[.int .i64 ((rd_T49 l2 x24_2).f0), .int .i64 ((rd_T49 l2 x24_2).f1), .int .i64 0, .int .i64 0]) ?_ 2 _ rfl; (with_reducible repeat (first | refine blk_drewN ?_ _ | refine blk_drew ?_ | refine blk_alloc ?_ _)); refine blk_put (cs := #[.int .i64 ((rd_T49 l2 x24_2).f0), .int .i64 0, .int .i64 0, .int .i64 0]) ?_ 1 _ rfl; (with_reducible repeat (first | refine blk_drewN ?_ _ | refine blk_drew ?_ | refine blk_alloc ?_ _)); refine blk_put (cs := #[.int .i64 0, .int .i64 0, .int .i64 0, .int .i64 0]) ?_ 0 _ rfl; (with_reducible repeat (first | refine blk_drewN ?_ _ | refine blk_drew ?_ | refine blk_alloc ?_ _)); exact BK290.out⟩
             have n1_ : Aside0 (Below w.heap.size w ((((w12.setCell ⟨gb290, 0, none⟩ (.int .i64 ((rd_T49 l2 x24_2).f0))).setCell ⟨gb290, 1, none⟩ (.int .i64 ((rd_T49 l2 x24_2).f1))).setCell ⟨gb290, 2, none⟩ (.int .i64 ((rd_T49 l2 x24_2).f2))).setCell ⟨gb290, 3, none⟩ (.int .i64 ((rd_T49 l2 x24_2).f3)))) := ⟨be_ HB.out⟩
             (try clear BK290)
             (try clear HB)
             generalize ((((w12.setCell ⟨gb290, 0, none⟩ (.int .i64 ((rd_T49 l2 x24_2).f0))).setCell ⟨gb290, 1, none⟩ (.int .i64 ((rd_T49 l2 x24_2).f1))).setCell ⟨gb290, 2, none⟩ (.int .i64 ((rd_T49 l2 x24_2).f2))).setCell ⟨gb290, 3, none⟩ (.int .i64 ((rd_T49 l2 x24_2).f3))) = w24 at n0_ n1_ ⊢
             have BK290 := n0_
             have HB := n1_
             clear n0_ n1_
             have n0_ := Aside0.mk (blk_drew BK290.out)
             have n1_ := Aside0.mk (below_drew1 HB.out)
             clear BK290
             clear HB
             have BK290 := n0_
             have HB := n1_
             clear n0_ n1_
             refine start_ (n := 34) (S := fun w' => w'.cell? ⟨gb290, 0, none⟩ = some (.int .i64 ((rd_T49 l2 x24_2).f0)) ∧ w'.cell? ⟨gb290, 1, none⟩ = some (.int .i64 ((rd_T49 l2 x24_2).f1)) ∧ w'.cell? ⟨gb290, 2, none⟩ = some (.int .i64 ((rd_T49 l2 x24_2).f2)) ∧ w'.cell? ⟨gb290, 3, none⟩ = some (.int .i64 ((rd_T49 l2 x24_2).f3))) (ds := []) #[false, false, false, false, false, false, false, false, false, false, false, false, false, false, false, false, false, false, false, false, false, false, false, false, false, false, false, false, false, false, false, false, false, false] (by kernel_rfl) rfl rfl ⟨(blk_cell BK290.out 0).trans rfl, (blk_cell BK290.out 1).trans rfl, (blk_cell BK290.out 2).trans rfl, (blk_cell BK290.out 3).trans rfl⟩ (fun hHeld => ?_); refine with_tabW impl_PlanOk.tab6 impl_PlanOk.bits6 (fun HT_ HW_ => ?_)
             generalize w24.drew = w25 at BK290 HB hHeld ⊢
             refine pl_ 0 (some 29) 34 1 HT_.out ?_
             refine pl_ 2 (some 31) 34 5 HT_.out ?_
             refine pl_ 3 (some 32) 34 13 HT_.out ?_
             refine pl_ 4 (some 33) 34 29 HT_.out ?_
             refine tk_ 1 (some 30) 34 31 HT_.out HW_.out hHeld (hy := by rintro w' ⟨s0, s1, s2, s3⟩; go_simp; with_reducible rfl) (h := ?_)
             refine one_ (i := 5) (N := some 34) (bl_ 34 63) rfl rfl (one_of HT_.out (by kernel_rfl)) (by decide) (fun K hK => ?_)
             refine goes_ Tryd.func39 (by kernel_rfl) rfl #[.int .i64 ((rd_T49 l2 x24_2).f0), .int .i64 0, .int .i64 (wrap64 ((l0.length : Int) - 1))] (by rfl) rfl rfl ar_ ?_
             with_reducible refine (impl_in.calls ((rd_T49 l2 x24_2).f0) 0 (wrap64 ((l0.length : Int) - 1)) true _ A14.out).mono ?_
             rintro e w' ⟨rfl, ⟨nd, rfl⟩⟩
             refine ⟨_, rfl, ?_⟩
             refine hK.out _ _ ⟨(blk_cell BK290.out 0).trans rfl, (blk_cell BK290.out 1).trans rfl, (blk_cell BK290.out 2).trans rfl, (blk_cell BK290.out 3).trans rfl⟩ (fun hHeld => ?_)
             clear hK K
             refine nm_ 34 (h := ?_)
             refine pl_ 6 (some 35) 34 127 HT_.out ?_
             refine pl_ 7 (some 36) 34 255 HT_.out ?_
             refine pl_ 8 (some 37) 34 511 HT_.out ?_
             refine pl_ 10 (some 39) 34 1535 HT_.out ?_
             refine pl_ 11 (some 40) 34 3583 HT_.out ?_
             refine tk_ 9 (some 38) 34 4095 HT_.out HW_.out hHeld (hy := by rintro w' ⟨s0, s1, s2, s3⟩; go_simp; with_reducible rfl) (h := ?_)
             refine one_ (i := 12) (N := some 41) (bl_ 34 8191) rfl rfl (one_of HT_.out (by kernel_rfl)) (by decide) (fun K hK => ?_)
             refine goes_ Tryd.func39 (by kernel_rfl) rfl #[.int .i64 ((rd_T49 l2 x24_2).f1), .int .i64 0, .int .i64 (wrap64 (a1 - 1))] (by rfl) rfl rfl ar_ ?_
             with_reducible refine (impl_in.calls ((rd_T49 l2 x24_2).f1) 0 (wrap64 (a1 - 1)) true _ A16.out).mono ?_
             rintro e w' ⟨rfl, ⟨nd, rfl⟩⟩
             refine ⟨_, rfl, ?_⟩
             refine hK.out _ _ ⟨(blk_cell BK290.out 0).trans rfl, (blk_cell BK290.out 1).trans rfl, (blk_cell BK290.out 2).trans rfl, (blk_cell BK290.out 3).trans rfl⟩ (fun hHeld => ?_)
             clear hK K
             refine nm_ 41 (h := ?_)
             refine pl_ 13 (some 42) 34 16383 HT_.out ?_
             refine pl_ 14 (some 43) 34 32767 HT_.out ?_
             refine pl_ 15 (some 44) 34 65535 HT_.out ?_
             refine pl_ 16 (some 45) 34 131071 HT_.out ?_
             refine tk_ 17 (some 46) 34 262143 HT_.out HW_.out hHeld (hy := by rintro w' ⟨s0, s1, s2, s3⟩; go_simp; with_reducible rfl) (h := ?_)
             refine one_ (i := 18) (N := some 47) (bl_ 34 524287) rfl rfl (one_of HT_.out (by kernel_rfl)) (by decide) (fun K hK => ?_)
             refine goes_ Tryd.func39 (by kernel_rfl) rfl #[.int .i64 ((rd_T49 l2 x24_2).f2), .int .i64 0, .int .i64 1000000000] (by rfl) rfl rfl ar_ ?_
             with_reducible refine (impl_in.calls ((rd_T49 l2 x24_2).f2) 0 1000000000 false _ A18.out).mono ?_
             rintro e w' ⟨rfl, ⟨nd, rfl⟩⟩
             refine ⟨_, rfl, ?_⟩
             refine hK.out _ _ ⟨(blk_cell BK290.out 0).trans rfl, (blk_cell BK290.out 1).trans rfl, (blk_cell BK290.out 2).trans rfl, (blk_cell BK290.out 3).trans rfl⟩ (fun hHeld => ?_)
             clear hK K
             refine nm_ 47 (h := ?_)
             refine pl_ 19 (some 48) 34 1048575 HT_.out ?_
             refine pl_ 20 (some 49) 34 2097151 HT_.out ?_
             refine pl_ 21 (some 50) 34 4194303 HT_.out ?_
             refine pure_ (i := 22) (N := some 51) (v := undef) (a' := ?_) (bl_ 34 8388607) rfl rfl (any_of HT_.out (by kernel_rfl)) (fun _ _ _ h => h) (Or.inr ⟨by rfl, rfl⟩) ?_ ?_
             rotate_left
             ·
              simp only [Act.put, List.setIfInBounds_toArray, List.set_cons_zero, List.set_cons_succ, i64_w, i32_w]
              rfl
             refine pure_ (i := 23) (N := some 52) (v := undef) (a' := ?_) (bl_ 34 16777215) rfl rfl (any_of HT_.out (by kernel_rfl)) (fun _ _ _ h => h) (Or.inr ⟨by rfl, rfl⟩) ?_ ?_
             rotate_left
             ·
              simp only [Act.put, List.setIfInBounds_toArray, List.set_cons_zero, List.set_cons_succ, i64_w, i32_w]
              rfl
             refine pure_ (i := 24) (N := some 53) (v := undef) (a' := ?_) (bl_ 34 33554431) rfl rfl (any_of HT_.out (by kernel_rfl)) (fun _ _ _ h => h) (Or.inr ⟨by rfl, rfl⟩) ?_ ?_
             rotate_left
             ·
              simp only [Act.put, List.setIfInBounds_toArray, List.set_cons_zero, List.set_cons_succ, i64_w, i32_w]
              rfl
             refine pure_ (i := 25) (N := some 54) (v := undef) (a' := ?_) (bl_ 34 67108863) rfl rfl (any_of HT_.out (by kernel_rfl)) (fun _ _ _ h => h) (Or.inr ⟨by rfl, rfl⟩) ?_ ?_
             rotate_left
             ·
              simp only [Act.put, List.setIfInBounds_toArray, List.set_cons_zero, List.set_cons_succ, i64_w, i32_w]
              rfl
             refine pure_ (i := 26) (N := some 55) (v := undef) (a' := ?_) (bl_ 34 134217727) rfl rfl (any_of HT_.out (by kernel_rfl)) (fun _ _ _ h => h) (Or.inr ⟨by rfl, rfl⟩) ?_ ?_
             rotate_left
             ·
              simp only [Act.put, List.setIfInBounds_toArray, List.set_cons_zero, List.set_cons_succ, i64_w, i32_w]
              rfl
             refine pure_ (i := 27) (N := some 56) (v := undef) (a' := ?_) (bl_ 34 268435455) rfl rfl (any_of HT_.out (by kernel_rfl)) (fun _ _ _ h => h) (Or.inr ⟨by rfl, rfl⟩) ?_ ?_
             rotate_left
             ·
              simp only [Act.put, List.setIfInBounds_toArray, List.set_cons_zero, List.set_cons_succ, i64_w, i32_w]
              rfl
             refine pure_ (i := 28) (N := some 57) (v := undef) (a' := ?_) (bl_ 34 536870911) rfl rfl (any_of HT_.out (by kernel_rfl)) (fun _ _ _ h => h) (Or.inr ⟨by rfl, rfl⟩) ?_ ?_
             rotate_left
             ·
              simp only [Act.put, List.setIfInBounds_toArray, List.set_cons_zero, List.set_cons_succ, i64_w, i32_w]
              rfl
             refine pure_ (i := 29) (N := some 58) (v := undef) (a' := ?_) (bl_ 34 1073741823) rfl rfl (any_of HT_.out (by kernel_rfl)) (fun _ _ _ h => h) (Or.inr ⟨by rfl, rfl⟩) ?_ ?_
             rotate_left
             ·
              simp only [Act.put, List.setIfInBounds_toArray, List.set_cons_zero, List.set_cons_succ, i64_w, i32_w]
              rfl
             refine pure_ (i := 30) (N := some 59) (v := undef) (a' := ?_) (bl_ 34 2147483647) rfl rfl (any_of HT_.out (by kernel_rfl)) (fun _ _ _ h => h) (Or.inr ⟨by rfl, rfl⟩) ?_ ?_
             rotate_left
             ·
              simp only [Act.put, List.setIfInBounds_toArray, List.set_cons_zero, List.set_cons_succ, i64_w, i32_w]
              rfl
             refine pure_ (i := 31) (N := some 60) (v := undef) (a' := ?_) (bl_ 34 4294967295) rfl rfl (any_of HT_.out (by kernel_rfl)) (fun _ _ _ h => h) (Or.inr ⟨by rfl, rfl⟩) ?_ ?_
             rotate_left
             ·
              simp only [Act.put, List.setIfInBounds_toArray, List.set_cons_zero, List.set_cons_succ, i64_w, i32_w]
              rfl
             refine pure_ (i := 32) (N := some 61) (v := undef) (a' := ?_) (bl_ 34 8589934591) rfl rfl (any_of HT_.out (by kernel_rfl)) (fun _ _ _ h => h) (Or.inr ⟨by rfl, rfl⟩) ?_ ?_
             rotate_left
             ·
              simp only [Act.put, List.setIfInBounds_toArray, List.set_cons_zero, List.set_cons_succ, i64_w, i32_w]
              rfl
             refine pl_ 33 (some 62) 34 17179869183 HT_.out ?_
             refine done_ (done_of HT_.out (by kernel_rfl)) ?_
             try go_wp2
             go_meet
             case rel => exact ⟨_, (true), (by first | rfl | (simp; done) | (simp [*]; done)), H', ⟨by have := HJ3.out; have := HK2.out; first | omega | exact Nat.le_refl _⟩, ⟨bu_ BK290.out⟩, ⟨be_ HB.out⟩⟩
           ·
            replace c17 := Bool.eq_false_iff.mpr c17
            subst c17
            have H1 : (impl_PlanOk.j2 k2 l0 a1 l2 x24_2 l2 (l2.length : Int) x24_2 true ((rd_T49 l2 x24_2).f0) ((rd_T49 l2 x24_2).f1) ((rd_T49 l2 x24_2).f2) ((rd_T49 l2 x24_2).f3)) = some r := by rw [if_neg (show ¬ (false = true) by decide)] at H; exact H
            clear H
            have H := H1
            clear H1
            have H' := Aside0.mk H
            clear H
            try go_wp2
            have n0_ : Aside0 (((((w12.setCell ⟨gb290, 0, none⟩ (.int .i64 ((rd_T49 l2 x24_2).f0))).setCell ⟨gb290, 1, none⟩ (.int .i64 ((rd_T49 l2 x24_2).f1))).setCell ⟨gb290, 2, none⟩ (.int .i64 ((rd_T49 l2 x24_2).f2))).setCell ⟨gb290, 3, none⟩ (.int .i64 ((rd_T49 l2 x24_2).f3))).heap[gb290]? = some (.cells #[.int .i64 ((rd_T49 l2 x24_2).f0), .int .i64 ((rd_T49 l2 x24_2).f1), .int .i64 ((rd_T49 l2 x24_2).f2), .int .i64 ((rd_T49 l2 x24_2).f3)] 49 (0, 0))) := ⟨by (with_reducible repeat (first | refine blk_drewN ?_ _ | refine blk_drew ?_ | refine blk_alloc ?_ _)); refine blk_put (cs := #[.int .i64 ((rd_T49 l2 x24_2).f0), .int .i64 ((rd_T49 l2 x24_2).f1), .int .i64 ((rd_T49 l2 x24_2).f2), .int .i64 0]) ?_ 3 _ rfl; (with_reducible repeat (first | refine blk_drewN ?_ _ | refine blk_drew ?_ | refine blk_alloc ?_ _)); refine blk_put (cs := #[.int .i64 ((rd_T49 l2 x24_2).f0), .int .i64 ((rd_T49 l2 x24_2).f1), .int .i64 0, .int .i64 0]) ?_ 2 _ rfl; (with_reducible repeat (first | refine blk_drewN ?_ _ | refine blk_drew ?_ | refine blk_alloc ?_ _)); refine blk_put (cs := #[.int .i64 ((rd_T49 l2 x24_2).f0), .int .i64 0, .int .i64 0, .int .i64 0]) ?_ 1 _ rfl; (with_reducible repeat (first | refine blk_drewN ?_ _ | refine blk_drew ?_ | refine blk_alloc ?_ _)); refine blk_put (cs := #[.int .i64 0, .int .i64 0, .int .i64 0, .int .i64 0]) ?_ 0 _ rfl; (with_reducible repeat (first | refine blk_drewN ?_ _ | refine blk_drew ?_ | refine blk_alloc ?_ _)); exact BK290.out⟩
            have n1_ : Aside0 (Below w.heap.size w ((((w12.setCell ⟨gb290, 0, none⟩ (.int .i64 ((rd_T49 l2 x24_2).f0))).setCell ⟨gb290, 1, none⟩ (.int .i64 ((rd_T49 l2 x24_2).f1))).setCell ⟨gb290, 2, none⟩ (.int .i64 ((rd_T49 l2 x24_2).f2))).setCell ⟨gb290, 3, none⟩ (.int .i64 ((rd_T49 l2 x24_2).f3)))) := ⟨be_ HB.out⟩
            (try clear BK290)
            (try clear HB)
            generalize ((((w12.setCell ⟨gb290, 0, none⟩ (.int .i64 ((rd_T49 l2 x24_2).f0))).setCell ⟨gb290, 1, none⟩ (.int .i64 ((rd_T49 l2 x24_2).f1))).setCell ⟨gb290, 2, none⟩ (.int .i64 ((rd_T49 l2 x24_2).f2))).setCell ⟨gb290, 3, none⟩ (.int .i64 ((rd_T49 l2 x24_2).f3))) = w26 at n0_ n1_ ⊢
            have BK290 := n0_
            have HB := n1_
            clear n0_ n1_
            have n0_ := Aside0.mk (blk_drew BK290.out)
            have n1_ := Aside0.mk (below_drew1 HB.out)
            clear BK290
            clear HB
            have BK290 := n0_
            have HB := n1_
            clear n0_ n1_
            refine start_ (n := 34) (S := fun w' => w'.cell? ⟨gb290, 0, none⟩ = some (.int .i64 ((rd_T49 l2 x24_2).f0)) ∧ w'.cell? ⟨gb290, 1, none⟩ = some (.int .i64 ((rd_T49 l2 x24_2).f1)) ∧ w'.cell? ⟨gb290, 2, none⟩ = some (.int .i64 ((rd_T49 l2 x24_2).f2)) ∧ w'.cell? ⟨gb290, 3, none⟩ = some (.int .i64 ((rd_T49 l2 x24_2).f3))) (ds := []) #[false, false, false, false, false, false, false, false, false, false, false, false, false, false, false, false, false, false, false, false, false, false, false, false, false, false, false, false, false, false, false, false, false, false] (by kernel_rfl) rfl rfl ⟨(blk_cell BK290.out 0).trans rfl, (blk_cell BK290.out 1).trans rfl, (blk_cell BK290.out 2).trans rfl, (blk_cell BK290.out 3).trans rfl⟩ (fun hHeld => ?_); refine with_tabW impl_PlanOk.tab6 impl_PlanOk.bits6 (fun HT_ HW_ => ?_)
            generalize w26.drew = w27 at BK290 HB hHeld ⊢
            refine pl_ 0 (some 29) 34 1 HT_.out ?_
            refine pl_ 2 (some 31) 34 5 HT_.out ?_
            refine pl_ 3 (some 32) 34 13 HT_.out ?_
            refine pl_ 4 (some 33) 34 29 HT_.out ?_
            refine tk_ 1 (some 30) 34 31 HT_.out HW_.out hHeld (hy := by rintro w' ⟨s0, s1, s2, s3⟩; go_simp; with_reducible rfl) (h := ?_)
            refine one_ (i := 5) (N := some 34) (bl_ 34 63) rfl rfl (one_of HT_.out (by kernel_rfl)) (by decide) (fun K hK => ?_)
            refine goes_ Tryd.func39 (by kernel_rfl) rfl #[.int .i64 ((rd_T49 l2 x24_2).f0), .int .i64 0, .int .i64 (wrap64 ((l0.length : Int) - 1))] (by rfl) rfl rfl ar_ ?_
            with_reducible refine (impl_in.calls ((rd_T49 l2 x24_2).f0) 0 (wrap64 ((l0.length : Int) - 1)) true _ A14.out).mono ?_
            rintro e w' ⟨rfl, ⟨nd, rfl⟩⟩
            refine ⟨_, rfl, ?_⟩
            refine hK.out _ _ ⟨(blk_cell BK290.out 0).trans rfl, (blk_cell BK290.out 1).trans rfl, (blk_cell BK290.out 2).trans rfl, (blk_cell BK290.out 3).trans rfl⟩ (fun hHeld => ?_)
            clear hK K
            refine nm_ 34 (h := ?_)
            refine pl_ 6 (some 35) 34 127 HT_.out ?_
            refine pl_ 7 (some 36) 34 255 HT_.out ?_
            refine pl_ 8 (some 37) 34 511 HT_.out ?_
            refine pl_ 10 (some 39) 34 1535 HT_.out ?_
            refine pl_ 11 (some 40) 34 3583 HT_.out ?_
            refine tk_ 9 (some 38) 34 4095 HT_.out HW_.out hHeld (hy := by rintro w' ⟨s0, s1, s2, s3⟩; go_simp; with_reducible rfl) (h := ?_)
            refine one_ (i := 12) (N := some 41) (bl_ 34 8191) rfl rfl (one_of HT_.out (by kernel_rfl)) (by decide) (fun K hK => ?_)
            refine goes_ Tryd.func39 (by kernel_rfl) rfl #[.int .i64 ((rd_T49 l2 x24_2).f1), .int .i64 0, .int .i64 (wrap64 (a1 - 1))] (by rfl) rfl rfl ar_ ?_
            with_reducible refine (impl_in.calls ((rd_T49 l2 x24_2).f1) 0 (wrap64 (a1 - 1)) false _ A16.out).mono ?_
            rintro e w' ⟨rfl, ⟨nd, rfl⟩⟩
            refine ⟨_, rfl, ?_⟩
            refine hK.out _ _ ⟨(blk_cell BK290.out 0).trans rfl, (blk_cell BK290.out 1).trans rfl, (blk_cell BK290.out 2).trans rfl, (blk_cell BK290.out 3).trans rfl⟩ (fun hHeld => ?_)
            clear hK K
            refine nm_ 41 (h := ?_)
            refine pl_ 13 (some 42) 34 16383 HT_.out ?_
            refine pl_ 14 (some 43) 34 32767 HT_.out ?_
            refine pl_ 15 (some 44) 34 65535 HT_.out ?_
            refine pure_ (i := 16) (N := some 45) (v := undef) (a' := ?_) (bl_ 34 131071) rfl rfl (any_of HT_.out (by kernel_rfl)) (fun _ _ _ h => h) (Or.inr ⟨by rfl, rfl⟩) ?_ ?_
            rotate_left
            ·
             simp only [Act.put, List.setIfInBounds_toArray, List.set_cons_zero, List.set_cons_succ, i64_w, i32_w]
             rfl
            refine pure_ (i := 17) (N := some 46) (v := undef) (a' := ?_) (bl_ 34 262143) rfl rfl (any_of HT_.out (by kernel_rfl)) (fun _ _ _ h => h) (Or.inr ⟨by rfl, rfl⟩) ?_ ?_
            rotate_left
            ·
             simp only [Act.put, List.setIfInBounds_toArray, List.set_cons_zero, List.set_cons_succ, i64_w, i32_w]
             rfl
            refine pure_ (i := 18) (N := some 47) (v := undef) (a' := ?_) (bl_ 34 524287) rfl rfl (any_of HT_.out (by kernel_rfl)) (fun _ _ _ h => h) (Or.inr ⟨by rfl, rfl⟩) ?_ ?_
            rotate_left
            ·
             simp only [Act.put, List.setIfInBounds_toArray, List.set_cons_zero, List.set_cons_succ, i64_w, i32_w]
             rfl
            refine pure_ (i := 19) (N := some 48) (v := undef) (a' := ?_) (bl_ 34 1048575) rfl rfl (any_of HT_.out (by kernel_rfl)) (fun _ _ _ h => h) (Or.inr ⟨by rfl, rfl⟩) ?_ ?_
            rotate_left
            ·
             simp only [Act.put, List.setIfInBounds_toArray, List.set_cons_zero, List.set_cons_succ, i64_w, i32_w]
             rfl
            refine pl_ 20 (some 49) 34 2097151 HT_.out ?_
            refine pl_ 21 (some 50) 34 4194303 HT_.out ?_
            refine pure_ (i := 22) (N := some 51) (v := undef) (a' := ?_) (bl_ 34 8388607) rfl rfl (any_of HT_.out (by kernel_rfl)) (fun _ _ _ h => h) (Or.inr ⟨by rfl, rfl⟩) ?_ ?_
            rotate_left
            ·
             simp only [Act.put, List.setIfInBounds_toArray, List.set_cons_zero, List.set_cons_succ, i64_w, i32_w]
             rfl
            refine pure_ (i := 23) (N := some 52) (v := undef) (a' := ?_) (bl_ 34 16777215) rfl rfl (any_of HT_.out (by kernel_rfl)) (fun _ _ _ h => h) (Or.inr ⟨by rfl, rfl⟩) ?_ ?_
            rotate_left
            ·
             simp only [Act.put, List.setIfInBounds_toArray, List.set_cons_zero, List.set_cons_succ, i64_w, i32_w]
             rfl
            refine pure_ (i := 24) (N := some 53) (v := undef) (a' := ?_) (bl_ 34 33554431) rfl rfl (any_of HT_.out (by kernel_rfl)) (fun _ _ _ h => h) (Or.inr ⟨by rfl, rfl⟩) ?_ ?_
            rotate_left
            ·
             simp only [Act.put, List.setIfInBounds_toArray, List.set_cons_zero, List.set_cons_succ, i64_w, i32_w]
             rfl
            refine pure_ (i := 25) (N := some 54) (v := undef) (a' := ?_) (bl_ 34 67108863) rfl rfl (any_of HT_.out (by kernel_rfl)) (fun _ _ _ h => h) (Or.inr ⟨by rfl, rfl⟩) ?_ ?_
            rotate_left
            ·
             simp only [Act.put, List.setIfInBounds_toArray, List.set_cons_zero, List.set_cons_succ, i64_w, i32_w]
             rfl
            refine pure_ (i := 26) (N := some 55) (v := undef) (a' := ?_) (bl_ 34 134217727) rfl rfl (any_of HT_.out (by kernel_rfl)) (fun _ _ _ h => h) (Or.inr ⟨by rfl, rfl⟩) ?_ ?_
            rotate_left
            ·
             simp only [Act.put, List.setIfInBounds_toArray, List.set_cons_zero, List.set_cons_succ, i64_w, i32_w]
             rfl
            refine pure_ (i := 27) (N := some 56) (v := undef) (a' := ?_) (bl_ 34 268435455) rfl rfl (any_of HT_.out (by kernel_rfl)) (fun _ _ _ h => h) (Or.inr ⟨by rfl, rfl⟩) ?_ ?_
            rotate_left
            ·
             simp only [Act.put, List.setIfInBounds_toArray, List.set_cons_zero, List.set_cons_succ, i64_w, i32_w]
             rfl
            refine pure_ (i := 28) (N := some 57) (v := undef) (a' := ?_) (bl_ 34 536870911) rfl rfl (any_of HT_.out (by kernel_rfl)) (fun _ _ _ h => h) (Or.inr ⟨by rfl, rfl⟩) ?_ ?_
            rotate_left
            ·
             simp only [Act.put, List.setIfInBounds_toArray, List.set_cons_zero, List.set_cons_succ, i64_w, i32_w]
             rfl
            refine pure_ (i := 29) (N := some 58) (v := undef) (a' := ?_) (bl_ 34 1073741823) rfl rfl (any_of HT_.out (by kernel_rfl)) (fun _ _ _ h => h) (Or.inr ⟨by rfl, rfl⟩) ?_ ?_
            rotate_left
            ·
             simp only [Act.put, List.setIfInBounds_toArray, List.set_cons_zero, List.set_cons_succ, i64_w, i32_w]
             rfl
            refine pure_ (i := 30) (N := some 59) (v := undef) (a' := ?_) (bl_ 34 2147483647) rfl rfl (any_of HT_.out (by kernel_rfl)) (fun _ _ _ h => h) (Or.inr ⟨by rfl, rfl⟩) ?_ ?_
            rotate_left
            ·
             simp only [Act.put, List.setIfInBounds_toArray, List.set_cons_zero, List.set_cons_succ, i64_w, i32_w]
             rfl
            refine pure_ (i := 31) (N := some 60) (v := undef) (a' := ?_) (bl_ 34 4294967295) rfl rfl (any_of HT_.out (by kernel_rfl)) (fun _ _ _ h => h) (Or.inr ⟨by rfl, rfl⟩) ?_ ?_
            rotate_left
            ·
             simp only [Act.put, List.setIfInBounds_toArray, List.set_cons_zero, List.set_cons_succ, i64_w, i32_w]
             rfl
            refine pure_ (i := 32) (N := some 61) (v := undef) (a' := ?_) (bl_ 34 8589934591) rfl rfl (any_of HT_.out (by kernel_rfl)) (fun _ _ _ h => h) (Or.inr ⟨by rfl, rfl⟩) ?_ ?_
            rotate_left
            ·
             simp only [Act.put, List.setIfInBounds_toArray, List.set_cons_zero, List.set_cons_succ, i64_w, i32_w]
             rfl
            refine pl_ 33 (some 62) 34 17179869183 HT_.out ?_
            refine done_ (done_of HT_.out (by kernel_rfl)) ?_
            try go_wp2
            go_meet
            case rel => exact ⟨_, (true), (by first | rfl | (simp; done) | (simp [*]; done)), H', ⟨by have := HJ3.out; have := HK2.out; first | omega | exact Nat.le_refl _⟩, ⟨bu_ BK290.out⟩, ⟨be_ HB.out⟩⟩
          ·
           replace c15 := Bool.eq_false_iff.mpr c15
           subst c15
           have H1 : (impl_PlanOk.j2 k2 l0 a1 l2 x24_2 l2 (l2.length : Int) x24_2 true ((rd_T49 l2 x24_2).f0) ((rd_T49 l2 x24_2).f1) ((rd_T49 l2 x24_2).f2) ((rd_T49 l2 x24_2).f3)) = some r := by rw [if_neg (show ¬ (false = true) by decide)] at H; exact H
           clear H
           have H := H1
           clear H1
           have H' := Aside0.mk H
           clear H
           try go_wp2
           have n0_ : Aside0 (((((w12.setCell ⟨gb290, 0, none⟩ (.int .i64 ((rd_T49 l2 x24_2).f0))).setCell ⟨gb290, 1, none⟩ (.int .i64 ((rd_T49 l2 x24_2).f1))).setCell ⟨gb290, 2, none⟩ (.int .i64 ((rd_T49 l2 x24_2).f2))).setCell ⟨gb290, 3, none⟩ (.int .i64 ((rd_T49 l2 x24_2).f3))).heap[gb290]? = some (.cells #[.int .i64 ((rd_T49 l2 x24_2).f0), .int .i64 ((rd_T49 l2 x24_2).f1), .int .i64 ((rd_T49 l2 x24_2).f2), .int .i64 ((rd_T49 l2 x24_2).f3)] 49 (0, 0))) := ⟨by (with_reducible repeat (first | refine blk_drewN ?_ _ | refine blk_drew ?_ | refine blk_alloc ?_ _)); refine blk_put (cs := #[.int .i64 ((rd_T49 l2 x24_2).f0), .int .i64 ((rd_T49 l2 x24_2).f1), .int .i64 ((rd_T49 l2 x24_2).f2), .int .i64 0]) ?_ 3 _ rfl; (with_reducible repeat (first | refine blk_drewN ?_ _ | refine blk_drew ?_ | refine blk_alloc ?_ _)); refine blk_put (cs := #[.int .i64 ((rd_T49 l2 x24_2).f0), .int .i64 ((rd_T49 l2 x24_2).f1), .int .i64 0, .int .i64 0]) ?_ 2 _ rfl; (with_reducible repeat (first | refine blk_drewN ?_ _ | refine blk_drew ?_ | refine blk_alloc ?_ _)); refine blk_put (cs := #[.int .i64 ((rd_T49 l2 x24_2).f0), .int .i64 0, .int .i64 0, .int .i64 0]) ?_ 1 _ rfl; (with_reducible repeat (first | refine blk_drewN ?_ _ | refine blk_drew ?_ | refine blk_alloc ?_ _)); refine blk_put (cs := #[.int .i64 0, .int .i64 0, .int .i64 0, .int .i64 0]) ?_ 0 _ rfl; (with_reducible repeat (first | refine blk_drewN ?_ _ | refine blk_drew ?_ | refine blk_alloc ?_ _)); exact BK290.out⟩
           have n1_ : Aside0 (Below w.heap.size w ((((w12.setCell ⟨gb290, 0, none⟩ (.int .i64 ((rd_T49 l2 x24_2).f0))).setCell ⟨gb290, 1, none⟩ (.int .i64 ((rd_T49 l2 x24_2).f1))).setCell ⟨gb290, 2, none⟩ (.int .i64 ((rd_T49 l2 x24_2).f2))).setCell ⟨gb290, 3, none⟩ (.int .i64 ((rd_T49 l2 x24_2).f3)))) := ⟨be_ HB.out⟩
           (try clear BK290)
           (try clear HB)
           generalize ((((w12.setCell ⟨gb290, 0, none⟩ (.int .i64 ((rd_T49 l2 x24_2).f0))).setCell ⟨gb290, 1, none⟩ (.int .i64 ((rd_T49 l2 x24_2).f1))).setCell ⟨gb290, 2, none⟩ (.int .i64 ((rd_T49 l2 x24_2).f2))).setCell ⟨gb290, 3, none⟩ (.int .i64 ((rd_T49 l2 x24_2).f3))) = w28 at n0_ n1_ ⊢
           have BK290 := n0_
           have HB := n1_
           clear n0_ n1_
           have n0_ := Aside0.mk (blk_drew BK290.out)
           have n1_ := Aside0.mk (below_drew1 HB.out)
           clear BK290
           clear HB
           have BK290 := n0_
           have HB := n1_
           clear n0_ n1_
           refine start_ (n := 34) (S := fun w' => w'.cell? ⟨gb290, 0, none⟩ = some (.int .i64 ((rd_T49 l2 x24_2).f0)) ∧ w'.cell? ⟨gb290, 1, none⟩ = some (.int .i64 ((rd_T49 l2 x24_2).f1)) ∧ w'.cell? ⟨gb290, 2, none⟩ = some (.int .i64 ((rd_T49 l2 x24_2).f2)) ∧ w'.cell? ⟨gb290, 3, none⟩ = some (.int .i64 ((rd_T49 l2 x24_2).f3))) (ds := []) #[false, false, false, false, false, false, false, false, false, false, false, false, false, false, false, false, false, false, false, false, false, false, false, false, false, false, false, false, false, false, false, false, false, false] (by kernel_rfl) rfl rfl ⟨(blk_cell BK290.out 0).trans rfl, (blk_cell BK290.out 1).trans rfl, (blk_cell BK290.out 2).trans rfl, (blk_cell BK290.out 3).trans rfl⟩ (fun hHeld => ?_); refine with_tabW impl_PlanOk.tab6 impl_PlanOk.bits6 (fun HT_ HW_ => ?_)
           generalize w28.drew = w29 at BK290 HB hHeld ⊢
           refine pl_ 0 (some 29) 34 1 HT_.out ?_
           refine pl_ 2 (some 31) 34 5 HT_.out ?_
           refine pl_ 3 (some 32) 34 13 HT_.out ?_
           refine pl_ 4 (some 33) 34 29 HT_.out ?_
           refine tk_ 1 (some 30) 34 31 HT_.out HW_.out hHeld (hy := by rintro w' ⟨s0, s1, s2, s3⟩; go_simp; with_reducible rfl) (h := ?_)
           refine one_ (i := 5) (N := some 34) (bl_ 34 63) rfl rfl (one_of HT_.out (by kernel_rfl)) (by decide) (fun K hK => ?_)
           refine goes_ Tryd.func39 (by kernel_rfl) rfl #[.int .i64 ((rd_T49 l2 x24_2).f0), .int .i64 0, .int .i64 (wrap64 ((l0.length : Int) - 1))] (by rfl) rfl rfl ar_ ?_
           with_reducible refine (impl_in.calls ((rd_T49 l2 x24_2).f0) 0 (wrap64 ((l0.length : Int) - 1)) false _ A14.out).mono ?_
           rintro e w' ⟨rfl, ⟨nd, rfl⟩⟩
           refine ⟨_, rfl, ?_⟩
           refine hK.out _ _ ⟨(blk_cell BK290.out 0).trans rfl, (blk_cell BK290.out 1).trans rfl, (blk_cell BK290.out 2).trans rfl, (blk_cell BK290.out 3).trans rfl⟩ (fun hHeld => ?_)
           clear hK K
           refine nm_ 34 (h := ?_)
           refine pl_ 6 (some 35) 34 127 HT_.out ?_
           refine pl_ 7 (some 36) 34 255 HT_.out ?_
           refine pure_ (i := 8) (N := some 37) (v := undef) (a' := ?_) (bl_ 34 511) rfl rfl (any_of HT_.out (by kernel_rfl)) (fun _ _ _ h => h) (Or.inr ⟨by rfl, rfl⟩) ?_ ?_
           rotate_left
           ·
            simp only [Act.put, List.setIfInBounds_toArray, List.set_cons_zero, List.set_cons_succ, i64_w, i32_w]
            rfl
           refine pure_ (i := 9) (N := some 38) (v := undef) (a' := ?_) (bl_ 34 1023) rfl rfl (any_of HT_.out (by kernel_rfl)) (fun _ _ _ h => h) (Or.inr ⟨by rfl, rfl⟩) ?_ ?_
           rotate_left
           ·
            simp only [Act.put, List.setIfInBounds_toArray, List.set_cons_zero, List.set_cons_succ, i64_w, i32_w]
            rfl
           refine pure_ (i := 10) (N := some 39) (v := undef) (a' := ?_) (bl_ 34 2047) rfl rfl (any_of HT_.out (by kernel_rfl)) (fun _ _ _ h => h) (Or.inr ⟨by rfl, rfl⟩) ?_ ?_
           rotate_left
           ·
            simp only [Act.put, List.setIfInBounds_toArray, List.set_cons_zero, List.set_cons_succ, i64_w, i32_w]
            rfl
           refine pure_ (i := 11) (N := some 40) (v := undef) (a' := ?_) (bl_ 34 4095) rfl rfl (any_of HT_.out (by kernel_rfl)) (fun _ _ _ h => h) (Or.inr ⟨by rfl, rfl⟩) ?_ ?_
           rotate_left
           ·
            simp only [Act.put, List.setIfInBounds_toArray, List.set_cons_zero, List.set_cons_succ, i64_w, i32_w]
            rfl
           refine pure_ (i := 12) (N := some 41) (v := undef) (a' := ?_) (bl_ 34 8191) rfl rfl (any_of HT_.out (by kernel_rfl)) (fun _ _ _ h => h) (Or.inr ⟨by rfl, rfl⟩) ?_ ?_
           rotate_left
           ·
            simp only [Act.put, List.setIfInBounds_toArray, List.set_cons_zero, List.set_cons_succ, i64_w, i32_w]
            rfl
           refine pure_ (i := 13) (N := some 42) (v := undef) (a' := ?_) (bl_ 34 16383) rfl rfl (any_of HT_.out (by kernel_rfl)) (fun _ _ _ h => h) (Or.inr ⟨by rfl, rfl⟩) ?_ ?_
           rotate_left
           ·
            simp only [Act.put, List.setIfInBounds_toArray, List.set_cons_zero, List.set_cons_succ, i64_w, i32_w]
            rfl
           refine pl_ 14 (some 43) 34 32767 HT_.out ?_
           refine pl_ 15 (some 44) 34 65535 HT_.out ?_
           refine pure_ (i := 16) (N := some 45) (v := undef) (a' := ?_) (bl_ 34 131071) rfl rfl (any_of HT_.out (by kernel_rfl)) (fun _ _ _ h => h) (Or.inr ⟨by rfl, rfl⟩) ?_ ?_
           rotate_left
           ·
            simp only [Act.put, List.setIfInBounds_toArray, List.set_cons_zero, List.set_cons_succ, i64_w, i32_w]
            rfl
           refine pure_ (i := 17) (N := some 46) (v := undef) (a' := ?_) (bl_ 34 262143) rfl rfl (any_of HT_.out (by kernel_rfl)) (fun _ _ _ h => h) (Or.inr ⟨by rfl, rfl⟩) ?_ ?_
           rotate_left
           ·
            simp only [Act.put, List.setIfInBounds_toArray, List.set_cons_zero, List.set_cons_succ, i64_w, i32_w]
            rfl
           refine pure_ (i := 18) (N := some 47) (v := undef) (a' := ?_) (bl_ 34 524287) rfl rfl (any_of HT_.out (by kernel_rfl)) (fun _ _ _ h => h) (Or.inr ⟨by rfl, rfl⟩) ?_ ?_
           rotate_left
           ·
            simp only [Act.put, List.setIfInBounds_toArray, List.set_cons_zero, List.set_cons_succ, i64_w, i32_w]
            rfl
           refine pure_ (i := 19) (N := some 48) (v := undef) (a' := ?_) (bl_ 34 1048575) rfl rfl (any_of HT_.out (by kernel_rfl)) (fun _ _ _ h => h) (Or.inr ⟨by rfl, rfl⟩) ?_ ?_
           rotate_left
           ·
            simp only [Act.put, List.setIfInBounds_toArray, List.set_cons_zero, List.set_cons_succ, i64_w, i32_w]
            rfl
           refine pl_ 20 (some 49) 34 2097151 HT_.out ?_
           refine pl_ 21 (some 50) 34 4194303 HT_.out ?_
           refine pure_ (i := 22) (N := some 51) (v := undef) (a' := ?_) (bl_ 34 8388607) rfl rfl (any_of HT_.out (by kernel_rfl)) (fun _ _ _ h => h) (Or.inr ⟨by rfl, rfl⟩) ?_ ?_
           rotate_left
           ·
            simp only [Act.put, List.setIfInBounds_toArray, List.set_cons_zero, List.set_cons_succ, i64_w, i32_w]
            rfl
           refine pure_ (i := 23) (N := some 52) (v := undef) (a' := ?_) (bl_ 34 16777215) rfl rfl (any_of HT_.out (by kernel_rfl)) (fun _ _ _ h => h) (Or.inr ⟨by rfl, rfl⟩) ?_ ?_
           rotate_left
           ·
            simp only [Act.put, List.setIfInBounds_toArray, List.set_cons_zero, List.set_cons_succ, i64_w, i32_w]
            rfl
           refine pure_ (i := 24) (N := some 53) (v := undef) (a' := ?_) (bl_ 34 33554431) rfl rfl (any_of HT_.out (by kernel_rfl)) (fun _ _ _ h => h) (Or.inr ⟨by rfl, rfl⟩) ?_ ?_
           rotate_left
           ·
            simp only [Act.put, List.setIfInBounds_toArray, List.set_cons_zero, List.set_cons_succ, i64_w, i32_w]
            rfl
           refine pure_ (i := 25) (N := some 54) (v := undef) (a' := ?_) (bl_ 34 67108863) rfl rfl (any_of HT_.out (by kernel_rfl)) (fun _ _ _ h => h) (Or.inr ⟨by rfl, rfl⟩) ?_ ?_
           rotate_left
           ·
            simp only [Act.put, List.setIfInBounds_toArray, List.set_cons_zero, List.set_cons_succ, i64_w, i32_w]
            rfl
           refine pure_ (i := 26) (N := some 55) (v := undef) (a' := ?_) (bl_ 34 134217727) rfl rfl (any_of HT_.out (by kernel_rfl)) (fun _ _ _ h => h) (Or.inr ⟨by rfl, rfl⟩) ?_ ?_
           rotate_left
           ·
            simp only [Act.put, List.setIfInBounds_toArray, List.set_cons_zero, List.set_cons_succ, i64_w, i32_w]
            rfl
           refine pure_ (i := 27) (N := some 56) (v := undef) (a' := ?_) (bl_ 34 268435455) rfl rfl (any_of HT_.out (by kernel_rfl)) (fun _ _ _ h => h) (Or.inr ⟨by rfl, rfl⟩) ?_ ?_
           rotate_left
           ·
            simp only [Act.put, List.setIfInBounds_toArray, List.set_cons_zero, List.set_cons_succ, i64_w, i32_w]
            rfl
           refine pure_ (i := 28) (N := some 57) (v := undef) (a' := ?_) (bl_ 34 536870911) rfl rfl (any_of HT_.out (by kernel_rfl)) (fun _ _ _ h => h) (Or.inr ⟨by rfl, rfl⟩) ?_ ?_
           rotate_left
           ·
            simp only [Act.put, List.setIfInBounds_toArray, List.set_cons_zero, List.set_cons_succ, i64_w, i32_w]
            rfl
           refine pure_ (i := 29) (N := some 58) (v := undef) (a' := ?_) (bl_ 34 1073741823) rfl rfl (any_of HT_.out (by kernel_rfl)) (fun _ _ _ h => h) (Or.inr ⟨by rfl, rfl⟩) ?_ ?_
           rotate_left
           ·
            simp only [Act.put, List.setIfInBounds_toArray, List.set_cons_zero, List.set_cons_succ, i64_w, i32_w]
            rfl
           refine pure_ (i := 30) (N := some 59) (v := undef) (a' := ?_) (bl_ 34 2147483647) rfl rfl (any_of HT_.out (by kernel_rfl)) (fun _ _ _ h => h) (Or.inr ⟨by rfl, rfl⟩) ?_ ?_
           rotate_left
           ·
            simp only [Act.put, List.setIfInBounds_toArray, List.set_cons_zero, List.set_cons_succ, i64_w, i32_w]
            rfl
           refine pure_ (i := 31) (N := some 60) (v := undef) (a' := ?_) (bl_ 34 4294967295) rfl rfl (any_of HT_.out (by kernel_rfl)) (fun _ _ _ h => h) (Or.inr ⟨by rfl, rfl⟩) ?_ ?_
           rotate_left
           ·
            simp only [Act.put, List.setIfInBounds_toArray, List.set_cons_zero, List.set_cons_succ, i64_w, i32_w]
            rfl
           refine pure_ (i := 32) (N := some 61) (v := undef) (a' := ?_) (bl_ 34 8589934591) rfl rfl (any_of HT_.out (by kernel_rfl)) (fun _ _ _ h => h) (Or.inr ⟨by rfl, rfl⟩) ?_ ?_
           rotate_left
           ·
            simp only [Act.put, List.setIfInBounds_toArray, List.set_cons_zero, List.set_cons_succ, i64_w, i32_w]
            rfl
           refine pl_ 33 (some 62) 34 17179869183 HT_.out ?_
           refine done_ (done_of HT_.out (by kernel_rfl)) ?_
           try go_wp2
           go_meet
           case rel => exact ⟨_, (true), (by first | rfl | (simp; done) | (simp [*]; done)), H', ⟨by have := HJ3.out; have := HK2.out; first | omega | exact Nat.le_refl _⟩, ⟨bu_ BK290.out⟩, ⟨be_ HB.out⟩⟩
         case rest =>
          clear HC11
          (try clear c1); (try clear p2); (try clear c3); (try clear p6); (try clear c15); (try clear c17)
          obtain ⟨kq, x62_10, rfl, HA, HJ10, BK290, HB⟩ := hcut
          cases kq with
          | zero => exact absurd HA.out (by simp [impl_PlanOk.j2])
          | succ kj10 =>
           have H := HA.out
           clear HA
           simp only [impl_PlanOk.j2] at H
           by_cases c30 : x62_10 = true
           ·
            subst c30
            have H1 : (some false) = some r := by rw [if_pos rfl] at H; exact H
            clear H
            have H := H1
            clear H1
            obtain rfl := Option.some.inj H
            go_wp2
            go_ret
            exact ⟨by first | rfl | (simp [errW_none, errW_some] <;> rfl) | (simp [*, errW_none, errW_some] <;> rfl), be_ HB.out⟩
           ·
            replace c30 := Bool.eq_false_iff.mpr c30
            subst c30
            have H1 : (if 0 ≤ x24_2 then (if x24_2 ≤ (l2.length : Int) then ((some (l2.take (x24_2 : Int).toNat : List (S49))).bind fun y295 => (impl_PlanOk.l1 kj10 l0 a1 l2 l2 (l2.length : Int) x24_2 y295 (y295.length : Int) 0 ((rd_T49 l2 x24_2).f0) ((rd_T49 l2 x24_2).f1) ((rd_T49 l2 x24_2).f2) ((rd_T49 l2 x24_2).f3))) else (none)) else (none)) = some r := by rw [if_neg (show ¬ (false = true) by decide)] at H; exact H
            clear H
            have H := H1
            clear H1
            by_cases c31 : 0 ≤ x24_2
            ·
             rw [if_pos c31] at H
             have c31b0 := eq_true c31
             have c31b1 : decide (0 ≤ x24_2) = true := decide_eq_true c31
             clear c31
             by_cases c32 : x24_2 ≤ (l2.length : Int)
             ·
              rw [if_pos c32] at H
              have c32b0 := eq_true c32
              have c32b1 : decide (x24_2 ≤ (l2.length : Int)) = true := decide_eq_true c32
              clear c32
              obtain ⟨y295, hy295⟩ : ∃ y_ : List (S49), y_ = (l2.take (x24_2 : Int).toNat) := ⟨_, rfl⟩
              replace H : (impl_PlanOk.l1 kj10 l0 a1 l2 l2 (l2.length : Int) x24_2 y295 (y295.length : Int) 0 ((rd_T49 l2 x24_2).f0) ((rd_T49 l2 x24_2).f1) ((rd_T49 l2 x24_2).f2) ((rd_T49 l2 x24_2).f3)) = some r := by first | (rw [hy295]; with_reducible exact H) | (have H2_ := (Option.bind_some _ _).symm.trans H; rw [hy295]; with_reducible exact H2_) | (have H2_ := (Option.bind_some _ _).symm.trans H; with_reducible exact H2_) | with_reducible exact H | (rw [hy295]; exact H) | exact H
              have Ny295 := Aside0.mk hy295
              clear hy295
              have H' := Aside0.mk H
              clear H
              have q33 : (x24_2 : Int) ≤ ((l2.length : Int) : Int) := of_decide_eq_true (by first | (with_reducible assumption) | assumption)
              obtain ⟨i033, hi033, _, hsz33, _⟩ := info_parts info49
              have hroom33 : l2.length ≤ c2 := HC2.out
              have hC33 : Kd.C k49 _ (some ad289) l2.length l2 := HR2.out
              have hcut33 := cut_to (P := Tryd.prog) 27 49 .i64 Tryd.underlying27 hi033 (some ad289) l2.length c2 x24_2 (of_decide_eq_true (by first | (with_reducible assumption) | assumption)) q33 hroom33
              have hr33 := Kd.C_take (m := (x24_2 : Int).toNat) hC33 (by omega)
              have hy33 : y295.length = (x24_2 : Int).toNat := (by rw [Ny295.out, List.length_take]; omega)
              rw [← Ny295.out] at hr33
              rw [← hy33] at hcut33
              have HR298 := Aside0.mk hr33
              have HC298 := Aside0.mk (show y295.length ≤ c2 from by omega)
              clear hr33 hC33 hroom33 hi033 hsz33
              have KY33 := Aside0.mk hy33
              clear hy33
              replace q33 := eq_true q33
              go_wp2
              go_loopg [67] kj10 (fun kq v67 w' => ∃ (x67_4 : Int), v67 = .int .i64 x67_4 ∧ Aside0 (impl_PlanOk.l1 kq l0 a1 l2 l2 (l2.length : Int) x24_2 y295 (y295.length : Int) x67_4 ((rd_T49 l2 x24_2).f0) ((rd_T49 l2 x24_2).f1) ((rd_T49 l2 x24_2).f2) ((rd_T49 l2 x24_2).f3) = some r) ∧ Aside0 (kq ≤ kj10) ∧ Aside0 (w'.heap[gb290]? = some (.cells #[.int .i64 ((rd_T49 l2 x24_2).f0), .int .i64 ((rd_T49 l2 x24_2).f1), .int .i64 ((rd_T49 l2 x24_2).f2), .int .i64 ((rd_T49 l2 x24_2).f3)] 49 (0, 0))) ∧ Aside0 (Below w.heap.size w w'))
              case atStart => exact ⟨(0), (by first | rfl | (simp; done) | (simp [*]; done)), H', ⟨Nat.le_refl _⟩, ⟨bu_ BK290.out⟩, ⟨be_ HB.out⟩⟩
              case round =>
               clear H'
               (try clear c1); (try clear c2); (try clear p2); (try clear c3); (try clear q3); (try clear p6); (try clear c15); (try clear c17); (try clear c30); (try clear c31); (try clear c31b0); (try clear c31b1); (try clear c32); (try clear c32b0); (try clear c32b1); (try clear q33); (try clear p2); (try clear p6); (try clear q33)
               obtain ⟨x67_4, rfl, HA, HK4, BK290, HB⟩ := hrel
               cases gk with
               | zero => exact absurd HA.out (by simp [impl_PlanOk.l1])
               | succ k4 =>
                have H := HA.out
                clear HA
                simp only [impl_PlanOk.l1] at H
                by_cases c34 : x67_4 < (y295.length : Int)
                ·
                 rw [if_pos c34] at H
                 have c34b0 : decide (x67_4 < (y295.length : Int)) = true := decide_eq_true c34
                 clear c34
                 by_cases c35 : 0 ≤ x67_4
                 ·
                  rw [if_pos c35] at H
                  have c35b0 : decide (0 ≤ x67_4) = true := decide_eq_true c35
                  clear c35
                  by_cases c36 : x67_4 < (y295.length : Int)
                  ·
                   rw [if_pos c36] at H
                   have c36b0 : decide (x67_4 < (y295.length : Int)) = true := decide_eq_true c36
                   clear c36
                   have HC37 := Aside0.mk H
                   clear H
                   have p299 : 0 ≤ (x67_4 : Int) := of_decide_eq_true (by first | (with_reducible assumption) | assumption)
                   have q299 : x67_4 < (y295.length : Int) := of_decide_eq_true (by first | (with_reducible assumption) | assumption)
                   obtain ⟨ad299, e299, hx299_0, hx299_1, hx299_2, hx299_3⟩ := at_T49 HR298.out x67_4 p299 q299
                   obtain rfl : ad289 = ad299 := (by injection e299)
                   replace hx299_0 := cw_ HB.out hx299_0
                   replace hx299_1 := cw_ HB.out hx299_1
                   replace hx299_2 := cw_ HB.out hx299_2
                   replace hx299_3 := cw_ HB.out hx299_3
                   replace p299 := eq_true p299
                   replace q299 := eq_true q299
                   go_upto_region 11 with (first | ((with_reducible refine gate_dst (N := 10) rfl ?_); (try (refine gate_guard (by rfl) ?_; dsimp only)); refine bx_ 10 #[.int .i64 0, .int .i64 0, .int .i64 0, .int .i64 0] 49 ?_; intro gb300 hg w38 hbox hb; have n0_ := Aside0.mk (blk_below (bu_ BK290.out) hb); have n1_ := Aside0.mk (below_step (be_ HB.out) hb); have n2_ := Aside0.mk (hbox); have n3_ := Aside0.mk ((bg_ hg HB.out)); have n4_ := Aside0.mk ((bg_ hg HB.out)); have n5_ := Aside0.mk ((nl_ hg (bu_ BK290.out))); have n6_ := Aside0.mk ((ng_ hg (bu_ BK290.out))); clear BK290; clear HB; have BK290 := n0_; have HB := n1_; have BK300 := n2_; have GW300 := n3_; have GE300 := n4_; have NB290_300 := n5_; have NB300_290 := n6_; clear n0_ n1_ n2_ n3_ n4_ n5_ n6_; clear hb hbox hg; have hnb39 := NB300_290.out; have hnc39 := NB290_300.out; obtain ⟨hcz40_0, hcz40_1, hcz40_2, hcz40_3, hfz40_0, hfz40_1, hfz40_2, hfz40_3⟩ := box4_ BK300.out))
                   (try simp only [Act.put, List.setIfInBounds_toArray, List.set_cons_zero, List.set_cons_succ])
                   go_cut [96] (fun v96 wc => ∃ (kq : Nat) (x96_36 : Bool), v96 = .bool x96_36 ∧ Aside0 (impl_PlanOk.j4 kq l0 a1 l2 l2 (l2.length : Int) x24_2 y295 (y295.length : Int) x67_4 x96_36 ((rd_T49 l2 x24_2).f0) ((rd_T49 l2 x24_2).f1) ((rd_T49 l2 x24_2).f2) ((rd_T49 l2 x24_2).f3) = some r) ∧ Aside0 (kq ≤ k4) ∧ Aside0 (wc.heap[gb290]? = some (.cells #[.int .i64 ((rd_T49 l2 x24_2).f0), .int .i64 ((rd_T49 l2 x24_2).f1), .int .i64 ((rd_T49 l2 x24_2).f2), .int .i64 ((rd_T49 l2 x24_2).f3)] 49 (0, 0))) ∧ Aside0 (wc.heap[gb300]? = some (.cells #[.int .i64 ((rd_T49 y295 x67_4).f0), .int .i64 ((rd_T49 y295 x67_4).f1), .int .i64 ((rd_T49 y295 x67_4).f2), .int .i64 ((rd_T49 y295 x67_4).f3)] 49 (0, 0))) ∧ Aside0 (Below w.heap.size w wc))
                   case first =>
                    have H := HC37.out
                    clear HC37
                    by_cases c41 : ((rd_T49 y295 x67_4).f0) = ((rd_T49 l2 x24_2).f0)
                    ·
                     rw [if_pos c41] at H
                     have c41b0 : (((rd_T49 y295 x67_4).f0) == ((rd_T49 l2 x24_2).f0)) = true := beq_iff_eq.mpr c41
                     have c41b1 : (((rd_T49 y295 x67_4).f0) != ((rd_T49 l2 x24_2).f0)) = false := bne_eq_false_iff_eq.mpr c41
                     clear c41
                     (first | rw [c41b0] | (simp only [i64_w, i32_w]; rw [c41b0]) | skip)
                     have H' := Aside0.mk H
                     clear H
                     have hnb42 := NB300_290.out
                     have hnc42 := NB290_300.out
                     obtain ⟨hcz43_0, hcz43_1, hcz43_2, hcz43_3, hfz43_0, hfz43_1, hfz43_2, hfz43_3⟩ := box4_ BK300.out
                     obtain ⟨hcz44_0, hcz44_1, hcz44_2, hcz44_3, hfz44_0, hfz44_1, hfz44_2, hfz44_3⟩ := box4_ BK290.out
                     go_wp2
                     go_meet
                     case rel => exact ⟨_, (true), (by first | rfl | (simp; done) | (simp [*]; done)), H', ⟨by have := HJ3.out; have := HK2.out; have := HJ10.out; have := HK4.out; first | omega | exact Nat.le_refl _⟩, ⟨by (with_reducible repeat (first | refine blk_drewN ?_ _ | refine blk_drew ?_ | refine blk_alloc ?_ _)); refine blk_far ?_ NB290_300.out _; (with_reducible repeat (first | refine blk_drewN ?_ _ | refine blk_drew ?_ | refine blk_alloc ?_ _)); refine blk_far ?_ NB290_300.out _; (with_reducible repeat (first | refine blk_drewN ?_ _ | refine blk_drew ?_ | refine blk_alloc ?_ _)); refine blk_far ?_ NB290_300.out _; (with_reducible repeat (first | refine blk_drewN ?_ _ | refine blk_drew ?_ | refine blk_alloc ?_ _)); refine blk_far ?_ NB290_300.out _; (with_reducible repeat (first | refine blk_drewN ?_ _ | refine blk_drew ?_ | refine blk_alloc ?_ _)); exact BK290.out⟩, ⟨by (with_reducible repeat (first | refine blk_drewN ?_ _ | refine blk_drew ?_ | refine blk_alloc ?_ _)); refine blk_put (cs := #[.int .i64 ((rd_T49 y295 x67_4).f0), .int .i64 ((rd_T49 y295 x67_4).f1), .int .i64 ((rd_T49 y295 x67_4).f2), .int .i64 0]) ?_ 3 _ rfl; (with_reducible repeat (first | refine blk_drewN ?_ _ | refine blk_drew ?_ | refine blk_alloc ?_ _)); refine blk_put (cs := #[.int .i64 ((rd_T49 y295 x67_4).f0), .int .i64 ((rd_T49 y295 x67_4).f1), .int .i64 0, .int .i64 0]) ?_ 2 _ rfl; (with_reducible repeat (first | refine blk_drewN ?_ _ | refine blk_drew ?_ | refine blk_alloc ?_ _)); refine blk_put (cs := #[.int .i64 ((rd_T49 y295 x67_4).f0), .int .i64 0, .int .i64 0, .int .i64 0]) ?_ 1 _ rfl; (with_reducible repeat (first | refine blk_drewN ?_ _ | refine blk_drew ?_ | refine blk_alloc ?_ _)); refine blk_put (cs := #[.int .i64 0, .int .i64 0, .int .i64 0, .int .i64 0]) ?_ 0 _ rfl; (with_reducible repeat (first | refine blk_drewN ?_ _ | refine blk_drew ?_ | refine blk_alloc ?_ _)); exact BK300.out⟩, ⟨be_ HB.out⟩⟩
                    ·
                     rw [if_neg c41] at H
                     have c41b0 : (((rd_T49 y295 x67_4).f0) == ((rd_T49 l2 x24_2).f0)) = false := beq_eq_false_iff_ne.mpr c41
                     have c41b1 : (((rd_T49 y295 x67_4).f0) != ((rd_T49 l2 x24_2).f0)) = true := bne_iff_ne.mpr c41
                     (first | rw [c41b0] | (simp only [i64_w, i32_w]; rw [c41b0]) | skip)
                     by_cases c45 : ((rd_T49 y295 x67_4).f1) = ((rd_T49 l2 x24_2).f1)
                     ·
                      rw [if_pos c45] at H
                      have c45b0 : (((rd_T49 y295 x67_4).f1) == ((rd_T49 l2 x24_2).f1)) = true := beq_iff_eq.mpr c45
                      have c45b1 : (((rd_T49 y295 x67_4).f1) != ((rd_T49 l2 x24_2).f1)) = false := bne_eq_false_iff_eq.mpr c45
                      clear c45
                      by_cases c46 : ((rd_T49 y295 x67_4).f2) < ((rd_T49 l2 x24_2).f3)
                      ·
                       rw [if_pos c46] at H
                       have c46b0 : decide (((rd_T49 y295 x67_4).f2) < ((rd_T49 l2 x24_2).f3)) = true := decide_eq_true c46
                       clear c46
                       have H' := Aside0.mk H
                       clear H
                       have hnb47 := NB300_290.out
                       have hnc47 := NB290_300.out
                       obtain ⟨hcz48_0, hcz48_1, hcz48_2, hcz48_3, hfz48_0, hfz48_1, hfz48_2, hfz48_3⟩ := box4_ BK300.out
                       obtain ⟨hcz49_0, hcz49_1, hcz49_2, hcz49_3, hfz49_0, hfz49_1, hfz49_2, hfz49_3⟩ := box4_ BK290.out
                       go_wp2
                       go_meet
                       case rel => exact ⟨_, (decide (((rd_T49 l2 x24_2).f2) < ((rd_T49 y295 x67_4).f3))), (by first | rfl | (simp; done) | (simp [*]; done)), H', ⟨by have := HJ3.out; have := HK2.out; have := HJ10.out; have := HK4.out; first | omega | exact Nat.le_refl _⟩, ⟨by (with_reducible repeat (first | refine blk_drewN ?_ _ | refine blk_drew ?_ | refine blk_alloc ?_ _)); refine blk_far ?_ NB290_300.out _; (with_reducible repeat (first | refine blk_drewN ?_ _ | refine blk_drew ?_ | refine blk_alloc ?_ _)); refine blk_far ?_ NB290_300.out _; (with_reducible repeat (first | refine blk_drewN ?_ _ | refine blk_drew ?_ | refine blk_alloc ?_ _)); refine blk_far ?_ NB290_300.out _; (with_reducible repeat (first | refine blk_drewN ?_ _ | refine blk_drew ?_ | refine blk_alloc ?_ _)); refine blk_far ?_ NB290_300.out _; (with_reducible repeat (first | refine blk_drewN ?_ _ | refine blk_drew ?_ | refine blk_alloc ?_ _)); exact BK290.out⟩, ⟨by (with_reducible repeat (first | refine blk_drewN ?_ _ | refine blk_drew ?_ | refine blk_alloc ?_ _)); refine blk_put (cs := #[.int .i64 ((rd_T49 y295 x67_4).f0), .int .i64 ((rd_T49 y295 x67_4).f1), .int .i64 ((rd_T49 y295 x67_4).f2), .int .i64 0]) ?_ 3 _ rfl; (with_reducible repeat (first | refine blk_drewN ?_ _ | refine blk_drew ?_ | refine blk_alloc ?_ _)); refine blk_put (cs := #[.int .i64 ((rd_T49 y295 x67_4).f0), .int .i64 ((rd_T49 y295 x67_4).f1), .int .i64 0, .int .i64 0]) ?_ 2 _ rfl; (with_reducible repeat (first | refine blk_drewN ?_ _ | refine blk_drew ?_ | refine blk_alloc ?_ _)); refine blk_put (cs := #[.int .i64 ((rd_T49 y295 x67_4).f0), .int .i64 0, .int .i64 0, .int .i64 0]) ?_ 1 _ rfl; (with_reducible repeat (first | refine blk_drewN ?_ _ | refine blk_drew ?_ | refine blk_alloc ?_ _)); refine blk_put (cs := #[.int .i64 0, .int .i64 0, .int .i64 0, .int .i64 0]) ?_ 0 _ rfl; (with_reducible repeat (first | refine blk_drewN ?_ _ | refine blk_drew ?_ | refine blk_alloc ?_ _)); exact BK300.out⟩, ⟨be_ HB.out⟩⟩
                      ·
                       rw [if_neg c46] at H
                       have c46b0 : decide (((rd_T49 y295 x67_4).f2) < ((rd_T49 l2 x24_2).f3)) = false := decide_eq_false c46
                       clear c46
                       have H' := Aside0.mk H
                       clear H
                       have hnb50 := NB300_290.out
                       have hnc50 := NB290_300.out
                       obtain ⟨hcz51_0, hcz51_1, hcz51_2, hcz51_3, hfz51_0, hfz51_1, hfz51_2, hfz51_3⟩ := box4_ BK300.out
                       obtain ⟨hcz52_0, hcz52_1, hcz52_2, hcz52_3, hfz52_0, hfz52_1, hfz52_2, hfz52_3⟩ := box4_ BK290.out
                       go_wp2
                       go_meet
                       case rel => exact ⟨_, (false), (by first | rfl | (simp; done) | (simp [*]; done)), H', ⟨by have := HJ3.out; have := HK2.out; have := HJ10.out; have := HK4.out; first | omega | exact Nat.le_refl _⟩, ⟨by (with_reducible repeat (first | refine blk_drewN ?_ _ | refine blk_drew ?_ | refine blk_alloc ?_ _)); refine blk_far ?_ NB290_300.out _; (with_reducible repeat (first | refine blk_drewN ?_ _ | refine blk_drew ?_ | refine blk_alloc ?_ _)); refine blk_far ?_ NB290_300.out _; (with_reducible repeat (first | refine blk_drewN ?_ _ | refine blk_drew ?_ | refine blk_alloc ?_ _)); refine blk_far ?_ NB290_300.out _; (with_reducible repeat (first | refine blk_drewN ?_ _ | refine blk_drew ?_ | refine blk_alloc ?_ _)); refine blk_far ?_ NB290_300.out _; (with_reducible repeat (first | refine blk_drewN ?_ _ | refine blk_drew ?_ | refine blk_alloc ?_ _)); exact BK290.out⟩, ⟨by (with_reducible repeat (first | refine blk_drewN ?_ _ | refine blk_drew ?_ | refine blk_alloc ?_ _)); refine blk_put (cs := #[.int .i64 ((rd_T49 y295 x67_4).f0), .int .i64 ((rd_T49 y295 x67_4).f1), .int .i64 ((rd_T49 y295 x67_4).f2), .int .i64 0]) ?_ 3 _ rfl; (with_reducible repeat (first | refine blk_drewN ?_ _ | refine blk_drew ?_ | refine blk_alloc ?_ _)); refine blk_put (cs := #[.int .i64 ((rd_T49 y295 x67_4).f0), .int .i64 ((rd_T49 y295 x67_4).f1), .int .i64 0, .int .i64 0]) ?_ 2 _ rfl; (with_reducible repeat (first | refine blk_drewN ?_ _ | refine blk_drew ?_ | refine blk_alloc ?_ _)); refine blk_put (cs := #[.int .i64 ((rd_T49 y295 x67_4).f0), .int .i64 0, .int .i64 0, .int .i64 0]) ?_ 1 _ rfl; (with_reducible repeat (first | refine blk_drewN ?_ _ | refine blk_drew ?_ | refine blk_alloc ?_ _)); refine blk_put (cs := #[.int .i64 0, .int .i64 0, .int .i64 0, .int .i64 0]) ?_ 0 _ rfl; (with_reducible repeat (first | refine blk_drewN ?_ _ | refine blk_drew ?_ | refine blk_alloc ?_ _)); exact BK300.out⟩, ⟨be_ HB.out⟩⟩
                     ·
                      rw [if_neg c45] at H
                      have c45b0 : (((rd_T49 y295 x67_4).f1) == ((rd_T49 l2 x24_2).f1)) = false := beq_eq_false_iff_ne.mpr c45
                      have c45b1 : (((rd_T49 y295 x67_4).f1) != ((rd_T49 l2 x24_2).f1)) = true := bne_iff_ne.mpr c45
                      have H' := Aside0.mk H
                      clear H
                      have hnb53 := NB300_290.out
                      have hnc53 := NB290_300.out
                      obtain ⟨hcz54_0, hcz54_1, hcz54_2, hcz54_3, hfz54_0, hfz54_1, hfz54_2, hfz54_3⟩ := box4_ BK300.out
                      obtain ⟨hcz55_0, hcz55_1, hcz55_2, hcz55_3, hfz55_0, hfz55_1, hfz55_2, hfz55_3⟩ := box4_ BK290.out
                      go_wp2
                      go_meet
                      case rel => exact ⟨_, (false), (by first | rfl | (simp; done) | (simp [*]; done)), H', ⟨by have := HJ3.out; have := HK2.out; have := HJ10.out; have := HK4.out; first | omega | exact Nat.le_refl _⟩, ⟨by (with_reducible repeat (first | refine blk_drewN ?_ _ | refine blk_drew ?_ | refine blk_alloc ?_ _)); refine blk_far ?_ NB290_300.out _; (with_reducible repeat (first | refine blk_drewN ?_ _ | refine blk_drew ?_ | refine blk_alloc ?_ _)); refine blk_far ?_ NB290_300.out _; (with_reducible repeat (first | refine blk_drewN ?_ _ | refine blk_drew ?_ | refine blk_alloc ?_ _)); refine blk_far ?_ NB290_300.out _; (with_reducible repeat (first | refine blk_drewN ?_ _ | refine blk_drew ?_ | refine blk_alloc ?_ _)); refine blk_far ?_ NB290_300.out _; (with_reducible repeat (first | refine blk_drewN ?_ _ | refine blk_drew ?_ | refine blk_alloc ?_ _)); exact BK290.out⟩, ⟨by (with_reducible repeat (first | refine blk_drewN ?_ _ | refine blk_drew ?_ | refine blk_alloc ?_ _)); refine blk_put (cs := #[.int .i64 ((rd_T49 y295 x67_4).f0), .int .i64 ((rd_T49 y295 x67_4).f1), .int .i64 ((rd_T49 y295 x67_4).f2), .int .i64 0]) ?_ 3 _ rfl; (with_reducible repeat (first | refine blk_drewN ?_ _ | refine blk_drew ?_ | refine blk_alloc ?_ _)); refine blk_put (cs := #[.int .i64 ((rd_T49 y295 x67_4).f0), .int .i64 ((rd_T49 y295 x67_4).f1), .int .i64 0, .int .i64 0]) ?_ 2 _ rfl; (with_reducible repeat (first | refine blk_drewN ?_ _ | refine blk_drew ?_ | refine blk_alloc ?_ _)); refine blk_put (cs := #[.int .i64 ((rd_T49 y295 x67_4).f0), .int .i64 0, .int .i64 0, .int .i64 0]) ?_ 1 _ rfl; (with_reducible repeat (first | refine blk_drewN ?_ _ | refine blk_drew ?_ | refine blk_alloc ?_ _)); refine blk_put (cs := #[.int .i64 0, .int .i64 0, .int .i64 0, .int .i64 0]) ?_ 0 _ rfl; (with_reducible repeat (first | refine blk_drewN ?_ _ | refine blk_drew ?_ | refine blk_alloc ?_ _)); exact BK300.out⟩, ⟨be_ HB.out⟩⟩
                   case rest =>
                    clear HC37
                    (try clear c1); (try clear c2); (try clear p2); (try clear q2); (try clear hx2); (try clear c3); (try clear q3); (try clear c4); (try clear c5); (try clear p6); (try clear c15); (try clear c17); (try clear p29); (try clear q29); (try clear hx29); (try clear c30); (try clear c31); (try clear c31b0); (try clear c31b1); (try clear c32); (try clear c32b0); (try clear c32b1); (try clear q33); (try clear c34); (try clear c34b0); (try clear c35); (try clear c35b0); (try clear c36); (try clear c36b0); (try clear c39); (try clear c41); (try clear c41b0); (try clear c41b1); (try clear c42); (try clear c45); (try clear c45b0); (try clear c45b1); (try clear c46); (try clear c46b0); (try clear c47); (try clear c50); (try clear c53); (try clear hcz40_0 hcz40_1 hcz40_2 hcz40_3); (try clear hcz43_0 hcz43_1 hcz43_2 hcz43_3); (try clear hcz44_0 hcz44_1 hcz44_2 hcz44_3); (try clear hcz48_0 hcz48_1 hcz48_2 hcz48_3); (try clear hcz49_0 hcz49_1 hcz49_2 hcz49_3); (try clear hcz51_0 hcz51_1 hcz51_2 hcz51_3); (try clear hcz52_0 hcz52_1 hcz52_2 hcz52_3); (try clear hcz54_0 hcz54_1 hcz54_2 hcz54_3); (try clear hcz55_0 hcz55_1 hcz55_2 hcz55_3); (try clear hfz40_0 hfz40_1 hfz40_2 hfz40_3); (try clear hfz43_0 hfz43_1 hfz43_2 hfz43_3); (try clear hfz44_0 hfz44_1 hfz44_2 hfz44_3); (try clear hfz48_0 hfz48_1 hfz48_2 hfz48_3); (try clear hfz49_0 hfz49_1 hfz49_2 hfz49_3); (try clear hfz51_0 hfz51_1 hfz51_2 hfz51_3); (try clear hfz52_0 hfz52_1 hfz52_2 hfz52_3); (try clear hfz54_0 hfz54_1 hfz54_2 hfz54_3); (try clear hfz55_0 hfz55_1 hfz55_2 hfz55_3); (try clear hx299_0); (try clear hx299_1); (try clear hx299_2); (try clear hx299_3); (try clear p2); (try clear p299); (try clear p6); (try clear q299); (try clear q3); (try clear q33)
                    obtain ⟨kq, x96_36, rfl, HA, HJ36, BK290, BK300, HB⟩ := hcut
                    cases kq with
                    | zero => exact absurd HA.out (by simp [impl_PlanOk.j4])
                    | succ kj36 =>
                     have H := HA.out
                     clear HA
                     simp only [impl_PlanOk.j4] at H
                     by_cases c56 : x96_36 = true
                     ·
                      subst c56
                      have H1 : (some false) = some r := by rw [if_pos rfl] at H; exact H
                      clear H
                      have H := H1
                      clear H1
                      obtain rfl := Option.some.inj H
                      go_wp2
                      go_ret
                      exact ⟨by first | rfl | (simp [errW_none, errW_some] <;> rfl) | (simp [*, errW_none, errW_some] <;> rfl), be_ HB.out⟩
                     ·
                      replace c56 := Bool.eq_false_iff.mpr c56
                      subst c56
                      have H1 : (impl_PlanOk.l1 kj36 l0 a1 l2 l2 (l2.length : Int) x24_2 y295 (y295.length : Int) (wrap64 (x67_4 + 1)) ((rd_T49 l2 x24_2).f0) ((rd_T49 l2 x24_2).f1) ((rd_T49 l2 x24_2).f2) ((rd_T49 l2 x24_2).f3)) = some r := by rw [if_neg (show ¬ (false = true) by decide)] at H; exact H
                      clear H
                      have H := H1
                      clear H1
                      have H' := Aside0.mk H
                      clear H
                      go_wp2
                      go_roundg kj36
                      case measure => have := HJ3.out; have := HK2.out; have := HJ10.out; have := HK4.out; have := HJ36.out; omega
                      case rel => exact ⟨(wrap64 (x67_4 + 1)), (by first | rfl | (simp; done) | (simp [*]; done)), H', ⟨by have := HJ3.out; have := HK2.out; have := HJ10.out; have := HK4.out; have := HJ36.out; omega⟩, ⟨bu_ BK290.out⟩, ⟨be_ HB.out⟩⟩
                  ·
                   rw [if_neg c36] at H
                   exact absurd H (by simp)
                 ·
                  rw [if_neg c35] at H
                  exact absurd H (by simp)
                ·
                 rw [if_neg c34] at H
                 have c34b0 : decide (x67_4 < (y295.length : Int)) = false := decide_eq_false c34
                 clear c34
                 have H' := Aside0.mk H
                 clear H
                 go_wp2
                 go_roundg k4
                 case measure => have := HJ3.out; have := HK2.out; have := HJ10.out; have := HK4.out; omega
                 case rel => exact ⟨(wrap64 (x24_2 + 1)), (by first | rfl | (simp; done) | (simp [*]; done)), H', ⟨by have := HJ3.out; have := HK2.out; have := HJ10.out; have := HK4.out; omega⟩, ⟨be_ HB.out⟩⟩
             ·
              rw [if_neg c32] at H
              exact absurd H (by simp)
            ·
             rw [if_neg c31] at H
             exact absurd H (by simp)
        ·
         rw [if_neg c10] at H
         exact absurd H (by simp)
       ·
        rw [if_neg c9] at H
        exact absurd H (by simp)
      ·
       rw [if_neg c8] at H
       have c8b0 : decide (x24_2 < (l2.length : Int)) = false := decide_eq_false c8
       clear c8
       obtain rfl := Option.some.inj H
       go_wp2
       go_ret
       exact ⟨by first | rfl | (simp [errW_none, errW_some] <;> rfl) | (simp [*, errW_none, errW_some] <;> rfl), be_ HB.out⟩

end Go.Proofs.YtdniejjhkkepcaaDoor.QFnPlanned
