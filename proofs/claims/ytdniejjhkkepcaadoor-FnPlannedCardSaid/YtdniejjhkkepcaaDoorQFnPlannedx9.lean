/- The Go functions that the statement FnPlanned reaches, as Lean functions, each with a proof that the call does what its function says; laid by a program of this session. No condition. -/
import Derived.Test.YtdniejjhkkepcaaDoorQFnPlannedx0
import Derived.Test.YtdniejjhkkepcaaDoorQFnPlannedx1
import Derived.Test.YtdniejjhkkepcaaDoorQFnPlannedx2
namespace Go.Proofs.YtdniejjhkkepcaaDoor.QFnPlanned
open Go.RowKit Go.Proofs.YtdniejjhkkepcaaDoorW.PrintWords Go.Proofs.YtdniejjhkkepcaaDoorW.PrintLast Go.Proofs.YtdniejjhkkepcaaDoorW.PrintMore
attribute [local go_sem] max2_int min2_int max_two min_two max_three min_three max_four min_four   -- for this text's walks alone
set_option linter.unusedVariables false
set_option linter.unusedSimpArgs false

mutual
def spec_PlanOk.j0 : Nat → List Int → Int → List (S49) → Bool → Option (Bool)
 | 0, _, _, _, _ => none
 | k + 1, x0, x1, x2, x24 => if x24 = true then (some false) else (spec_PlanOk.l0 k x0 x1 x2 0)
def spec_PlanOk.l0 : Nat → List Int → Int → List (S49) → Int → Option (Bool)
 | 0, _, _, _, _ => none
 | k + 1, x0, x1, x2, x7 => if x7 < (x2.length : Int) then (if 0 ≤ x7 then ((spec_l01In.f ((rd_T49 x2 x7).f0) 0 (wrap64 ((x0.length : Int) - 1))).bind fun t305 => (if t305 = true then ((spec_l01In.f ((rd_T49 x2 x7).f1) 0 (wrap64 (x1 - 1))).bind fun t306 => (if t306 = true then ((spec_l01In.f ((rd_T49 x2 x7).f2) 0 1000000000).bind fun t307 => (if t307 = true then (if 0 ≤ ((rd_T49 x2 x7).f0) then (if ((rd_T49 x2 x7).f0) < (x0.length : Int) then (spec_PlanOk.j2 k x0 x1 x2 x7 ((wrap64 (((rd_T49 x2 x7).f3) - ((rd_T49 x2 x7).f2))) != (rd x0 ((rd_T49 x2 x7).f0))) ((rd_T49 x2 x7).f0) ((rd_T49 x2 x7).f1) ((rd_T49 x2 x7).f2) ((rd_T49 x2 x7).f3)) else (none)) else (none)) else (spec_PlanOk.j2 k x0 x1 x2 x7 true ((rd_T49 x2 x7).f0) ((rd_T49 x2 x7).f1) ((rd_T49 x2 x7).f2) ((rd_T49 x2 x7).f3)))) else (spec_PlanOk.j2 k x0 x1 x2 x7 true ((rd_T49 x2 x7).f0) ((rd_T49 x2 x7).f1) ((rd_T49 x2 x7).f2) ((rd_T49 x2 x7).f3)))) else (spec_PlanOk.j2 k x0 x1 x2 x7 true ((rd_T49 x2 x7).f0) ((rd_T49 x2 x7).f1) ((rd_T49 x2 x7).f2) ((rd_T49 x2 x7).f3)))) else (none)) else (some true)
def spec_PlanOk.j2 : Nat → List Int → Int → List (S49) → Int → Bool → Int → Int → Int → Int → Option (Bool)
 | 0, _, _, _, _, _, _, _, _, _ => none
 | k + 1, x0, x1, x2, x7, x68, x305000, x305001, x305002, x305003 => if x68 = true then (some false) else (spec_PlanOk.l1 k x0 x1 x2 x7 0 x305000 x305001 x305002 x305003)
def spec_PlanOk.l1 : Nat → List Int → Int → List (S49) → Int → Int → Int → Int → Int → Int → Option (Bool)
 | 0, _, _, _, _, _, _, _, _, _ => none
 | k + 1, x0, x1, x2, x7, x9, x305000, x305001, x305002, x305003 => if x9 < x7 then (if 0 ≤ x9 then (if x9 < (x2.length : Int) then (if ((rd_T49 x2 x9).f0) = x305000 then (spec_PlanOk.j4 k x0 x1 x2 x7 x9 true x305000 x305001 x305002 x305003) else (if ((rd_T49 x2 x9).f1) = x305001 then (if ((rd_T49 x2 x9).f2) < x305003 then (spec_PlanOk.j4 k x0 x1 x2 x7 x9 (decide (x305002 < ((rd_T49 x2 x9).f3))) x305000 x305001 x305002 x305003) else (spec_PlanOk.j4 k x0 x1 x2 x7 x9 false x305000 x305001 x305002 x305003)) else (spec_PlanOk.j4 k x0 x1 x2 x7 x9 false x305000 x305001 x305002 x305003))) else (none)) else (none)) else (spec_PlanOk.l0 k x0 x1 x2 (wrap64 (x7 + 1)))
def spec_PlanOk.j4 : Nat → List Int → Int → List (S49) → Int → Int → Bool → Int → Int → Int → Int → Option (Bool)
 | 0, _, _, _, _, _, _, _, _, _, _ => none
 | k + 1, x0, x1, x2, x7, x9, x111, x305000, x305001, x305002, x305003 => if x111 = true then (some false) else (spec_PlanOk.l1 k x0 x1 x2 x7 (wrap64 (x9 + 1)) x305000 x305001 x305002 x305003)
end
def spec_PlanOk.f (k : Nat) (l0 : List Int) (a1 : Int) (l2 : List (S49)) : Option (Bool) := (spec_JobsOk.f k l0).bind fun t301 => (if t301 = true then ((spec_l01In.f a1 1 6).bind fun t302 => (if t302 = true then (spec_PlanOk.j0 k l0 a1 l2 ((l2.length : Int) != (l0.length : Int))) else (spec_PlanOk.j0 k l0 a1 l2 true))) else (spec_PlanOk.j0 k l0 a1 l2 true))
theorem spec_PlanOk.mono_l : ∀ k, (∀ y0 y1 y2 y3, LeO (spec_PlanOk.j0 k y0 y1 y2 y3) (spec_PlanOk.j0 (k + 1) y0 y1 y2 y3)) ∧ (∀ y0 y1 y2 y3, LeO (spec_PlanOk.l0 k y0 y1 y2 y3) (spec_PlanOk.l0 (k + 1) y0 y1 y2 y3)) ∧ (∀ y0 y1 y2 y3 y4 y5 y6 y7 y8, LeO (spec_PlanOk.j2 k y0 y1 y2 y3 y4 y5 y6 y7 y8) (spec_PlanOk.j2 (k + 1) y0 y1 y2 y3 y4 y5 y6 y7 y8)) ∧ (∀ y0 y1 y2 y3 y4 y5 y6 y7 y8, LeO (spec_PlanOk.l1 k y0 y1 y2 y3 y4 y5 y6 y7 y8) (spec_PlanOk.l1 (k + 1) y0 y1 y2 y3 y4 y5 y6 y7 y8)) ∧ (∀ y0 y1 y2 y3 y4 y5 y6 y7 y8 y9, LeO (spec_PlanOk.j4 k y0 y1 y2 y3 y4 y5 y6 y7 y8 y9) (spec_PlanOk.j4 (k + 1) y0 y1 y2 y3 y4 y5 y6 y7 y8 y9))
 | 0 => ⟨fun _ _ _ _ r h => by simp [spec_PlanOk.j0] at h, fun _ _ _ _ r h => by simp [spec_PlanOk.l0] at h, fun _ _ _ _ _ _ _ _ _ r h => by simp [spec_PlanOk.j2] at h, fun _ _ _ _ _ _ _ _ _ r h => by simp [spec_PlanOk.l1] at h, fun _ _ _ _ _ _ _ _ _ _ r h => by simp [spec_PlanOk.j4] at h⟩
 | k + 1 => by
  obtain ⟨ih0, ih1, ih2, ih3, ih4⟩ := spec_PlanOk.mono_l k
  refine ⟨?_, ?_, ?_, ?_, ?_⟩
  ·
   intro y0 y1 y2 y3
   unfold spec_PlanOk.j0
   repeat' first
   | (with_reducible exact ih0 _ _ _ _)
   | (with_reducible exact ih1 _ _ _ _)
   | (with_reducible exact ih2 _ _ _ _ _ _ _ _ _)
   | (with_reducible exact ih3 _ _ _ _ _ _ _ _ _)
   | (with_reducible exact ih4 _ _ _ _ _ _ _ _ _ _)
   | (with_reducible exact spec_JobsOk.mono _ _)
   | (with_reducible exact LeO.refl _)
   | (with_reducible exact LeO.none _)
   | (with_reducible refine LeO.ite ?_ ?_)
   | (with_reducible refine LeO.bind ?_ (fun _ => ?_))
   | exact ih0 _ _ _ _
   | exact ih1 _ _ _ _
   | exact ih2 _ _ _ _ _ _ _ _ _
   | exact ih3 _ _ _ _ _ _ _ _ _
   | exact ih4 _ _ _ _ _ _ _ _ _ _
   | exact spec_JobsOk.mono _ _
   | exact LeO.none _
   | refine LeO.ite ?_ ?_
   | refine LeO.bind ?_ (fun _ => ?_)
  ·
   intro y0 y1 y2 y3
   unfold spec_PlanOk.l0
   repeat' first
   | (with_reducible exact ih0 _ _ _ _)
   | (with_reducible exact ih1 _ _ _ _)
   | (with_reducible exact ih2 _ _ _ _ _ _ _ _ _)
   | (with_reducible exact ih3 _ _ _ _ _ _ _ _ _)
   | (with_reducible exact ih4 _ _ _ _ _ _ _ _ _ _)
   | (with_reducible exact spec_JobsOk.mono _ _)
   | (with_reducible exact LeO.refl _)
   | (with_reducible exact LeO.none _)
   | (with_reducible refine LeO.ite ?_ ?_)
   | (with_reducible refine LeO.bind ?_ (fun _ => ?_))
   | exact ih0 _ _ _ _
   | exact ih1 _ _ _ _
   | exact ih2 _ _ _ _ _ _ _ _ _
   | exact ih3 _ _ _ _ _ _ _ _ _
   | exact ih4 _ _ _ _ _ _ _ _ _ _
   | exact spec_JobsOk.mono _ _
   | exact LeO.none _
   | refine LeO.ite ?_ ?_
   | refine LeO.bind ?_ (fun _ => ?_)
  ·
   intro y0 y1 y2 y3 y4 y5 y6 y7 y8
   unfold spec_PlanOk.j2
   repeat' first
   | (with_reducible exact ih0 _ _ _ _)
   | (with_reducible exact ih1 _ _ _ _)
   | (with_reducible exact ih2 _ _ _ _ _ _ _ _ _)
   | (with_reducible exact ih3 _ _ _ _ _ _ _ _ _)
   | (with_reducible exact ih4 _ _ _ _ _ _ _ _ _ _)
   | (with_reducible exact spec_JobsOk.mono _ _)
   | (with_reducible exact LeO.refl _)
   | (with_reducible exact LeO.none _)
   | (with_reducible refine LeO.ite ?_ ?_)
   | (with_reducible refine LeO.bind ?_ (fun _ => ?_))
   | exact ih0 _ _ _ _
   | exact ih1 _ _ _ _
   | exact ih2 _ _ _ _ _ _ _ _ _
   | exact ih3 _ _ _ _ _ _ _ _ _
   | exact ih4 _ _ _ _ _ _ _ _ _ _
   | exact spec_JobsOk.mono _ _
   | exact LeO.none _
   | refine LeO.ite ?_ ?_
   | refine LeO.bind ?_ (fun _ => ?_)
  ·
   intro y0 y1 y2 y3 y4 y5 y6 y7 y8
   unfold spec_PlanOk.l1
   repeat' first
   | (with_reducible exact ih0 _ _ _ _)
   | (with_reducible exact ih1 _ _ _ _)
   | (with_reducible exact ih2 _ _ _ _ _ _ _ _ _)
   | (with_reducible exact ih3 _ _ _ _ _ _ _ _ _)
   | (with_reducible exact ih4 _ _ _ _ _ _ _ _ _ _)
   | (with_reducible exact spec_JobsOk.mono _ _)
   | (with_reducible exact LeO.refl _)
   | (with_reducible exact LeO.none _)
   | (with_reducible refine LeO.ite ?_ ?_)
   | (with_reducible refine LeO.bind ?_ (fun _ => ?_))
   | exact ih0 _ _ _ _
   | exact ih1 _ _ _ _
   | exact ih2 _ _ _ _ _ _ _ _ _
   | exact ih3 _ _ _ _ _ _ _ _ _
   | exact ih4 _ _ _ _ _ _ _ _ _ _
   | exact spec_JobsOk.mono _ _
   | exact LeO.none _
   | refine LeO.ite ?_ ?_
   | refine LeO.bind ?_ (fun _ => ?_)
  ·
   intro y0 y1 y2 y3 y4 y5 y6 y7 y8 y9
   unfold spec_PlanOk.j4
   repeat' first
   | (with_reducible exact ih0 _ _ _ _)
   | (with_reducible exact ih1 _ _ _ _)
   | (with_reducible exact ih2 _ _ _ _ _ _ _ _ _)
   | (with_reducible exact ih3 _ _ _ _ _ _ _ _ _)
   | (with_reducible exact ih4 _ _ _ _ _ _ _ _ _ _)
   | (with_reducible exact spec_JobsOk.mono _ _)
   | (with_reducible exact LeO.refl _)
   | (with_reducible exact LeO.none _)
   | (with_reducible refine LeO.ite ?_ ?_)
   | (with_reducible refine LeO.bind ?_ (fun _ => ?_))
   | exact ih0 _ _ _ _
   | exact ih1 _ _ _ _
   | exact ih2 _ _ _ _ _ _ _ _ _
   | exact ih3 _ _ _ _ _ _ _ _ _
   | exact ih4 _ _ _ _ _ _ _ _ _ _
   | exact spec_JobsOk.mono _ _
   | exact LeO.none _
   | refine LeO.ite ?_ ?_
   | refine LeO.bind ?_ (fun _ => ?_)
theorem spec_PlanOk.mono : ∀ a0 a1 a2 k, LeO (spec_PlanOk.f k a0 a1 a2) (spec_PlanOk.f (k + 1) a0 a1 a2) := by
 intro a0 a1 a2 k
 obtain ⟨ih0, ih1, ih2, ih3, ih4⟩ := spec_PlanOk.mono_l k
 unfold spec_PlanOk.f
 repeat' first
   | (with_reducible exact ih0 _ _ _ _)
   | (with_reducible exact ih1 _ _ _ _)
   | (with_reducible exact ih2 _ _ _ _ _ _ _ _ _)
   | (with_reducible exact ih3 _ _ _ _ _ _ _ _ _)
   | (with_reducible exact ih4 _ _ _ _ _ _ _ _ _ _)
   | (with_reducible exact spec_JobsOk.mono _ _)
   | (with_reducible exact LeO.refl _)
   | (with_reducible exact LeO.none _)
   | (with_reducible refine LeO.ite ?_ ?_)
   | (with_reducible refine LeO.bind ?_ (fun _ => ?_))
   | exact ih0 _ _ _ _
   | exact ih1 _ _ _ _
   | exact ih2 _ _ _ _ _ _ _ _ _
   | exact ih3 _ _ _ _ _ _ _ _ _
   | exact ih4 _ _ _ _ _ _ _ _ _ _
   | exact spec_JobsOk.mono _ _
   | exact LeO.none _
   | refine LeO.ite ?_ ?_
   | refine LeO.bind ?_ (fun _ => ?_)
def spec_PlanOk.T7 : Bool × List (List Nat × List Nat) := (true, [([], []), ([0], [0]), ([], []), ([2], [2]), ([3], [3]), ([1, 4], [1, 4]), ([5], [5]), ([6, 5], [6]), ([7], [7]), ([8, 7], [7, 8]), ([7], [7]), ([10, 7], [7, 10]), ([9, 11, 7, 7], [7, 9, 11]), ([12, 7], [7, 12]), ([7, 13], [7, 13]), ([14, 12], [14]), ([15], [15]), ([16, 15], [15, 16]), ([17, 15, 15], [15, 17]), ([18, 15], [15, 18]), ([15, 19], [15, 19]), ([20, 18], [20]), ([21], [21]), ([22, 21], [21, 22]), ([21], [21]), ([24, 21], [21, 24]), ([23, 25, 21], [21, 23, 25]), ([21], [21]), ([21], [21]), ([28, 21], [21, 28]), ([27, 29, 21], [21, 27, 29]), ([30, 21], [21, 30]), ([26, 31, 21], [21, 26, 31]), ([21, 32], [21, 32])])
def spec_PlanOk.B7 : List Nat := [0, 1, 0, 4, 12, 31, 63, 127, 255, 511, 255, 1279, 4095, 8191, 16383, 32767, 65535, 131071, 262143, 524287, 1048575, 2097151, 4194303, 8388607, 4194303, 20971519, 67108863, 4194303, 4194303, 272629759, 943718399, 2017460223, 4294967295, 8589934591]
theorem spec_PlanOk.tab7 : rtab .any (opsOf Tryd.f14 7) = spec_PlanOk.T7 := by kernel_rfl
theorem spec_PlanOk.bits7 : waitsOk spec_PlanOk.T7.2 spec_PlanOk.B7 = true := by kernel_rfl
def spec_PlanOk.T12 : Bool × List (List Nat × List Nat) := (true, [([], []), ([], []), ([0, 1], [0, 1]), ([2], [2]), ([3], [3]), ([], []), ([5], [5]), ([4, 6], [4, 6]), ([7], [7]), ([8], [8]), ([8], [8]), ([9, 10, 8], [8, 9, 10]), ([11, 8], [8, 11]), ([12, 8], [8, 12]), ([8], [8]), ([14, 8], [8, 14]), ([13, 15, 8], [8, 13, 15]), ([16, 8, 8], [8, 16]), ([17], [17]), ([17], [17]), ([18, 19, 17], [17, 18, 19]), ([20, 17], [17, 20]), ([21, 17], [17, 21]), ([17], [17]), ([23, 17], [17, 23]), ([22, 24, 17], [17, 22, 24]), ([17, 25, 8], [8, 17, 25]), ([26, 17, 8], [8, 26]), ([27], [27]), ([28, 27], [27, 28]), ([27], [27]), ([27], [27]), ([30, 31, 27], [27, 30, 31]), ([32, 27], [27, 32]), ([33, 27], [27, 33]), ([29, 34, 27], [27, 29, 34]), ([27, 35, 8], [8, 27, 35]), ([8, 36], [8, 36])])
def spec_PlanOk.B12 : List Nat := [0, 0, 3, 7, 15, 0, 32, 127, 255, 511, 511, 2047, 4095, 8191, 511, 16895, 65535, 131071, 262143, 262143, 1048575, 2097151, 4194303, 262143, 8650751, 33554431, 67108863, 134217727, 268435455, 536870911, 268435455, 268435455, 3489660927, 7784628223, 16374562815, 34359738367, 68719476735, 137438953471]
theorem spec_PlanOk.tab12 : rtab .any (opsOf Tryd.f14 12) = spec_PlanOk.T12 := by kernel_rfl
theorem spec_PlanOk.bits12 : waitsOk spec_PlanOk.T12.2 spec_PlanOk.B12 = true := by kernel_rfl
set_option maxHeartbeats 8000000 in
set_option maxRecDepth 100000 in
theorem spec_PlanOk.calls (k : Nat) (A0 : Option Addr) (c0 : Nat) (l0 : List Int) (a1 : Int) (A2 : Option Addr) (c2 : Nat) (l2 : List (S49)) (r : Bool) (w : World) (hr0 : Kd.C (Kd.int .i64) w A0 l0.length l0) (hc0 : l0.length ≤ c0) (hr2 : Kd.C k49 w A2 l2.length l2) (hc2 : l2.length ≤ c2) (h : spec_PlanOk.f k l0 a1 l2 = some r) :
  Calls Tryd.prog 14 #[.slice A0 l0.length c0, .int .i64 a1, .slice A2 l2.length c2] w fun e w' => e = .returned (.bool r) ∧ Below w.heap.size w w' := by
 have hu49 := Tryd.underlying49
 have HR0 := Aside0.mk hr0
 have HC0 := Aside0.mk hc0
 clear hr0 hc0
 have HR2 := Aside0.mk hr2
 have HC2 := Aside0.mk hc2
 clear hr2 hc2
 have HB := Aside0.mk (Below.refl w.heap.size w)
 have H : ((spec_JobsOk.f k l0).bind fun t301 => (if t301 = true then ((spec_l01In.f a1 1 6).bind fun t302 => (if t302 = true then (spec_PlanOk.j0 k l0 a1 l2 ((l2.length : Int) != (l0.length : Int))) else (spec_PlanOk.j0 k l0 a1 l2 true))) else (spec_PlanOk.j0 k l0 a1 l2 true))) = some r := h
 clear h
 have HC4 := Aside0.mk H
 clear H
 go_enter Tryd.func14, Tryd.ntmps14
 go_upto_region 1 with (fail)
 go_cut [24] (fun v24 wc => ∃ (kq : Nat) (x24_3 : Bool), v24 = .bool x24_3 ∧ Aside0 (spec_PlanOk.j0 kq l0 a1 l2 x24_3 = some r) ∧ Aside0 (kq ≤ k) ∧ Aside0 (Below w.heap.size w wc))
 case first =>
  have H := HC4.out
  clear HC4
  replace H := Option.bind_eq_some_iff.mp H
  obtain ⟨t301, A50, H⟩ := H
  replace H : (if t301 = true then ((spec_l01In.f a1 1 6).bind fun t302 => (if t302 = true then (spec_PlanOk.j0 k l0 a1 l2 ((l2.length : Int) != (l0.length : Int))) else (spec_PlanOk.j0 k l0 a1 l2 true))) else (spec_PlanOk.j0 k l0 a1 l2 true)) = some r := H
  have A5 := Aside0.mk A50
  clear A50
  by_cases c6 : t301 = true
  ·
   subst c6
   have H1 : ((spec_l01In.f a1 1 6).bind fun t302 => (if t302 = true then (spec_PlanOk.j0 k l0 a1 l2 ((l2.length : Int) != (l0.length : Int))) else (spec_PlanOk.j0 k l0 a1 l2 true))) = some r := by rw [if_pos rfl] at H; exact H
   clear H
   have H := H1
   clear H1
   replace H := Option.bind_eq_some_iff.mp H
   obtain ⟨t302, A70, H⟩ := H
   replace H : (if t302 = true then (spec_PlanOk.j0 k l0 a1 l2 ((l2.length : Int) != (l0.length : Int))) else (spec_PlanOk.j0 k l0 a1 l2 true)) = some r := H
   have A7 := Aside0.mk A70
   clear A70
   by_cases c8 : t302 = true
   ·
    subst c8
    have H1 : (spec_PlanOk.j0 k l0 a1 l2 ((l2.length : Int) != (l0.length : Int))) = some r := by rw [if_pos rfl] at H; exact H
    clear H
    have H := H1
    clear H1
    have H' := Aside0.mk H
    clear H
    go_wp2_with (first | ((with_reducible refine gate_callee (f := 23) rfl ?_); refine goesL_ (some 11) rfl rfl Tryd.func23 (by kernel_rfl) rfl #[.slice A0 l0.length c0] rfl ar_ ?_; (with_reducible refine (spec_JobsOk.calls k _ _ l0 true _ ?side1 ?side2 A5.out).mono ?_); (case side1 => exact cu_ HR0.out HB.out); (case side2 => exact HC0.out); rintro e w' ⟨rfl, ⟨nd, rfl⟩⟩; refine ⟨_, rfl, ?_⟩) | (go_at_call 24; (with_reducible refine (spec_l01In.calls a1 1 6 true _ A7.out).mono ?_); rintro e w' ⟨rfl, ⟨nd, rfl⟩⟩))
    go_meet
    case rel => exact ⟨_, (((l2.length : Int) != (l0.length : Int))), (by first | rfl | (simp; done) | (simp [*]; done)), H', ⟨by first | omega | exact Nat.le_refl _⟩, ⟨be_ HB.out⟩⟩
   ·
    replace c8 := Bool.eq_false_iff.mpr c8
    subst c8
    have H1 : (spec_PlanOk.j0 k l0 a1 l2 true) = some r := by rw [if_neg (show ¬ (false = true) by decide)] at H; exact H
    clear H
    have H := H1
    clear H1
    have H' := Aside0.mk H
    clear H
    go_wp2_with (first | ((with_reducible refine gate_callee (f := 23) rfl ?_); refine goesL_ (some 11) rfl rfl Tryd.func23 (by kernel_rfl) rfl #[.slice A0 l0.length c0] rfl ar_ ?_; (with_reducible refine (spec_JobsOk.calls k _ _ l0 true _ ?side1 ?side2 A5.out).mono ?_); (case side1 => exact cu_ HR0.out HB.out); (case side2 => exact HC0.out); rintro e w' ⟨rfl, ⟨nd, rfl⟩⟩; refine ⟨_, rfl, ?_⟩) | (go_at_call 24; (with_reducible refine (spec_l01In.calls a1 1 6 false _ A7.out).mono ?_); rintro e w' ⟨rfl, ⟨nd, rfl⟩⟩))
    go_meet
    case rel => exact ⟨_, (true), (by first | rfl | (simp; done) | (simp [*]; done)), H', ⟨by first | omega | exact Nat.le_refl _⟩, ⟨be_ HB.out⟩⟩
  ·
   replace c6 := Bool.eq_false_iff.mpr c6
   subst c6
   have H1 : (spec_PlanOk.j0 k l0 a1 l2 true) = some r := by rw [if_neg (show ¬ (false = true) by decide)] at H; exact H
   clear H
   have H := H1
   clear H1
   have H' := Aside0.mk H
   clear H
   go_wp2_with (first | ((with_reducible refine gate_callee (f := 23) rfl ?_); refine goesL_ (some 11) rfl rfl Tryd.func23 (by kernel_rfl) rfl #[.slice A0 l0.length c0] rfl ar_ ?_; (with_reducible refine (spec_JobsOk.calls k _ _ l0 false _ ?side1 ?side2 A5.out).mono ?_); (case side1 => exact cu_ HR0.out HB.out); (case side2 => exact HC0.out); rintro e w' ⟨rfl, ⟨nd, rfl⟩⟩; refine ⟨_, rfl, ?_⟩))
   go_meet
   case rel => exact ⟨_, (true), (by first | rfl | (simp; done) | (simp [*]; done)), H', ⟨by first | omega | exact Nat.le_refl _⟩, ⟨be_ HB.out⟩⟩
 case rest =>
  clear HC4
  (try clear c1); (try clear c2); (try clear p2); (try clear c6); (try clear c8)
  obtain ⟨kq, x24_3, rfl, HA, HJ3, HB⟩ := hcut
  cases kq with
  | zero => exact absurd HA.out (by simp [spec_PlanOk.j0])
  | succ kj3 =>
   have H := HA.out
   clear HA
   simp only [spec_PlanOk.j0] at H
   by_cases c9 : x24_3 = true
   ·
    subst c9
    have H1 : (some false) = some r := by rw [if_pos rfl] at H; exact H
    clear H
    have H := H1
    clear H1
    obtain rfl := Option.some.inj H
    go_wp2
    go_ret
    exact ⟨by first | rfl | (simp [errW_none, errW_some] <;> rfl) | (simp [*, errW_none, errW_some] <;> rfl), be_ HB.out⟩
   ·
    replace c9 := Bool.eq_false_iff.mpr c9
    subst c9
    have H1 : (spec_PlanOk.l0 kj3 l0 a1 l2 0) = some r := by rw [if_neg (show ¬ (false = true) by decide)] at H; exact H
    clear H
    have H := H1
    clear H1
    have H' := Aside0.mk H
    clear H
    go_wp2
    go_loopg [7] kj3 (fun kq v7 w' => ∃ (x7_2 : Int), v7 = .int .i64 x7_2 ∧ Aside0 (spec_PlanOk.l0 kq l0 a1 l2 x7_2 = some r) ∧ Aside0 (kq ≤ kj3) ∧ Aside0 (Below w.heap.size w w'))
    case atStart => exact ⟨(0), (by first | rfl | (simp; done) | (simp [*]; done)), H', ⟨Nat.le_refl _⟩, ⟨be_ HB.out⟩⟩
    case round =>
     clear H'
     (try clear c1); (try clear c2); (try clear p2); (try clear c6); (try clear c8); (try clear c9); (try clear p2)
     obtain ⟨x7_2, rfl, HA, HK2, HB⟩ := hrel
     cases gk with
     | zero => exact absurd HA.out (by simp [spec_PlanOk.l0])
     | succ k2 =>
      have H := HA.out
      clear HA
      simp only [spec_PlanOk.l0] at H
      by_cases c10 : x7_2 < (l2.length : Int)
      ·
       rw [if_pos c10] at H
       have c10b0 : decide (x7_2 < (l2.length : Int)) = true := decide_eq_true c10
       clear c10
       by_cases c11 : 0 ≤ x7_2
       ·
        rw [if_pos c11] at H
        have c11b0 : decide (0 ≤ x7_2) = true := decide_eq_true c11
        clear c11
        have HC12 := Aside0.mk H
        clear H
        have p303 : 0 ≤ (x7_2 : Int) := of_decide_eq_true (by first | (with_reducible assumption) | assumption)
        have q303 : x7_2 < (l2.length : Int) := of_decide_eq_true (by first | (with_reducible assumption) | assumption)
        obtain ⟨ad303, e303, hx303_0, hx303_1, hx303_2, hx303_3⟩ := at_T49 HR2.out x7_2 p303 q303
        cases e303
        replace hx303_0 := cw_ HB.out hx303_0
        replace hx303_1 := cw_ HB.out hx303_1
        replace hx303_2 := cw_ HB.out hx303_2
        replace hx303_3 := cw_ HB.out hx303_3
        replace p303 := eq_true p303
        replace q303 := eq_true q303
        go_upto_region 7 with (first | ((with_reducible refine gate_dst (N := 8) rfl ?_); (try (refine gate_guard (by rfl) ?_; dsimp only)); refine bx_ 8 #[.int .i64 0, .int .i64 0, .int .i64 0, .int .i64 0] 49 ?_; intro gb304 hg w13 hbox hb; have n0_ := Aside0.mk (below_step (be_ HB.out) hb); have n1_ := Aside0.mk (hbox); have n2_ := Aside0.mk ((bg_ hg HB.out)); have n3_ := Aside0.mk ((bg_ hg HB.out)); clear HB; have HB := n0_; have BK304 := n1_; have GW304 := n2_; have GE304 := n3_; clear n0_ n1_ n2_ n3_; clear hb hbox hg; obtain ⟨hcz14_0, hcz14_1, hcz14_2, hcz14_3, hfz14_0, hfz14_1, hfz14_2, hfz14_3⟩ := box4_ BK304.out))
        (try simp only [Act.put, List.setIfInBounds_toArray, List.set_cons_zero, List.set_cons_succ])
        go_cut [68] (fun v68 wc => ∃ (kq : Nat) (x68_11 : Bool), v68 = .bool x68_11 ∧ Aside0 (spec_PlanOk.j2 kq l0 a1 l2 x7_2 x68_11 ((rd_T49 l2 x7_2).f0) ((rd_T49 l2 x7_2).f1) ((rd_T49 l2 x7_2).f2) ((rd_T49 l2 x7_2).f3) = some r) ∧ Aside0 (kq ≤ k2) ∧ Aside0 (wc.heap[gb304]? = some (.cells #[.int .i64 ((rd_T49 l2 x7_2).f0), .int .i64 ((rd_T49 l2 x7_2).f1), .int .i64 ((rd_T49 l2 x7_2).f2), .int .i64 ((rd_T49 l2 x7_2).f3)] 49 (0, 0))) ∧ Aside0 (Below w.heap.size w wc))
        case first =>
         have H := HC12.out
         clear HC12
         replace H := Option.bind_eq_some_iff.mp H
         obtain ⟨t305, A150, H⟩ := H
         replace H : (if t305 = true then ((spec_l01In.f ((rd_T49 l2 x7_2).f1) 0 (wrap64 (a1 - 1))).bind fun t306 => (if t306 = true then ((spec_l01In.f ((rd_T49 l2 x7_2).f2) 0 1000000000).bind fun t307 => (if t307 = true then (if 0 ≤ ((rd_T49 l2 x7_2).f0) then (if ((rd_T49 l2 x7_2).f0) < (l0.length : Int) then (spec_PlanOk.j2 k2 l0 a1 l2 x7_2 ((wrap64 (((rd_T49 l2 x7_2).f3) - ((rd_T49 l2 x7_2).f2))) != (rd l0 ((rd_T49 l2 x7_2).f0))) ((rd_T49 l2 x7_2).f0) ((rd_T49 l2 x7_2).f1) ((rd_T49 l2 x7_2).f2) ((rd_T49 l2 x7_2).f3)) else (none)) else (none)) else (spec_PlanOk.j2 k2 l0 a1 l2 x7_2 true ((rd_T49 l2 x7_2).f0) ((rd_T49 l2 x7_2).f1) ((rd_T49 l2 x7_2).f2) ((rd_T49 l2 x7_2).f3)))) else (spec_PlanOk.j2 k2 l0 a1 l2 x7_2 true ((rd_T49 l2 x7_2).f0) ((rd_T49 l2 x7_2).f1) ((rd_T49 l2 x7_2).f2) ((rd_T49 l2 x7_2).f3)))) else (spec_PlanOk.j2 k2 l0 a1 l2 x7_2 true ((rd_T49 l2 x7_2).f0) ((rd_T49 l2 x7_2).f1) ((rd_T49 l2 x7_2).f2) ((rd_T49 l2 x7_2).f3))) = some r := H
         have A15 := Aside0.mk A150
         clear A150
         by_cases c16 : t305 = true
         ·
          subst c16
          have H1 : ((spec_l01In.f ((rd_T49 l2 x7_2).f1) 0 (wrap64 (a1 - 1))).bind fun t306 => (if t306 = true then ((spec_l01In.f ((rd_T49 l2 x7_2).f2) 0 1000000000).bind fun t307 => (if t307 = true then (if 0 ≤ ((rd_T49 l2 x7_2).f0) then (if ((rd_T49 l2 x7_2).f0) < (l0.length : Int) then (spec_PlanOk.j2 k2 l0 a1 l2 x7_2 ((wrap64 (((rd_T49 l2 x7_2).f3) - ((rd_T49 l2 x7_2).f2))) != (rd l0 ((rd_T49 l2 x7_2).f0))) ((rd_T49 l2 x7_2).f0) ((rd_T49 l2 x7_2).f1) ((rd_T49 l2 x7_2).f2) ((rd_T49 l2 x7_2).f3)) else (none)) else (none)) else (spec_PlanOk.j2 k2 l0 a1 l2 x7_2 true ((rd_T49 l2 x7_2).f0) ((rd_T49 l2 x7_2).f1) ((rd_T49 l2 x7_2).f2) ((rd_T49 l2 x7_2).f3)))) else (spec_PlanOk.j2 k2 l0 a1 l2 x7_2 true ((rd_T49 l2 x7_2).f0) ((rd_T49 l2 x7_2).f1) ((rd_T49 l2 x7_2).f2) ((rd_T49 l2 x7_2).f3)))) = some r := by rw [if_pos rfl] at H; exact H
          clear H
          have H := H1
          clear H1
          replace H := Option.bind_eq_some_iff.mp H
          obtain ⟨t306, A170, H⟩ := H
          replace H : (if t306 = true then ((spec_l01In.f ((rd_T49 l2 x7_2).f2) 0 1000000000).bind fun t307 => (if t307 = true then (if 0 ≤ ((rd_T49 l2 x7_2).f0) then (if ((rd_T49 l2 x7_2).f0) < (l0.length : Int) then (spec_PlanOk.j2 k2 l0 a1 l2 x7_2 ((wrap64 (((rd_T49 l2 x7_2).f3) - ((rd_T49 l2 x7_2).f2))) != (rd l0 ((rd_T49 l2 x7_2).f0))) ((rd_T49 l2 x7_2).f0) ((rd_T49 l2 x7_2).f1) ((rd_T49 l2 x7_2).f2) ((rd_T49 l2 x7_2).f3)) else (none)) else (none)) else (spec_PlanOk.j2 k2 l0 a1 l2 x7_2 true ((rd_T49 l2 x7_2).f0) ((rd_T49 l2 x7_2).f1) ((rd_T49 l2 x7_2).f2) ((rd_T49 l2 x7_2).f3)))) else (spec_PlanOk.j2 k2 l0 a1 l2 x7_2 true ((rd_T49 l2 x7_2).f0) ((rd_T49 l2 x7_2).f1) ((rd_T49 l2 x7_2).f2) ((rd_T49 l2 x7_2).f3))) = some r := H
          have A17 := Aside0.mk A170
          clear A170
          by_cases c18 : t306 = true
          ·
           subst c18
           have H1 : ((spec_l01In.f ((rd_T49 l2 x7_2).f2) 0 1000000000).bind fun t307 => (if t307 = true then (if 0 ≤ ((rd_T49 l2 x7_2).f0) then (if ((rd_T49 l2 x7_2).f0) < (l0.length : Int) then (spec_PlanOk.j2 k2 l0 a1 l2 x7_2 ((wrap64 (((rd_T49 l2 x7_2).f3) - ((rd_T49 l2 x7_2).f2))) != (rd l0 ((rd_T49 l2 x7_2).f0))) ((rd_T49 l2 x7_2).f0) ((rd_T49 l2 x7_2).f1) ((rd_T49 l2 x7_2).f2) ((rd_T49 l2 x7_2).f3)) else (none)) else (none)) else (spec_PlanOk.j2 k2 l0 a1 l2 x7_2 true ((rd_T49 l2 x7_2).f0) ((rd_T49 l2 x7_2).f1) ((rd_T49 l2 x7_2).f2) ((rd_T49 l2 x7_2).f3)))) = some r := by rw [if_pos rfl] at H; exact H
           clear H
           have H := H1
           clear H1
           replace H := Option.bind_eq_some_iff.mp H
           obtain ⟨t307, A190, H⟩ := H
           replace H : (if t307 = true then (if 0 ≤ ((rd_T49 l2 x7_2).f0) then (if ((rd_T49 l2 x7_2).f0) < (l0.length : Int) then (spec_PlanOk.j2 k2 l0 a1 l2 x7_2 ((wrap64 (((rd_T49 l2 x7_2).f3) - ((rd_T49 l2 x7_2).f2))) != (rd l0 ((rd_T49 l2 x7_2).f0))) ((rd_T49 l2 x7_2).f0) ((rd_T49 l2 x7_2).f1) ((rd_T49 l2 x7_2).f2) ((rd_T49 l2 x7_2).f3)) else (none)) else (none)) else (spec_PlanOk.j2 k2 l0 a1 l2 x7_2 true ((rd_T49 l2 x7_2).f0) ((rd_T49 l2 x7_2).f1) ((rd_T49 l2 x7_2).f2) ((rd_T49 l2 x7_2).f3))) = some r := H
           have A19 := Aside0.mk A190
           clear A190
           by_cases c20 : t307 = true
           ·
            subst c20
            have H1 : (if 0 ≤ ((rd_T49 l2 x7_2).f0) then (if ((rd_T49 l2 x7_2).f0) < (l0.length : Int) then (spec_PlanOk.j2 k2 l0 a1 l2 x7_2 ((wrap64 (((rd_T49 l2 x7_2).f3) - ((rd_T49 l2 x7_2).f2))) != (rd l0 ((rd_T49 l2 x7_2).f0))) ((rd_T49 l2 x7_2).f0) ((rd_T49 l2 x7_2).f1) ((rd_T49 l2 x7_2).f2) ((rd_T49 l2 x7_2).f3)) else (none)) else (none)) = some r := by rw [if_pos rfl] at H; exact H
            clear H
            have H := H1
            clear H1
            by_cases c21 : 0 ≤ ((rd_T49 l2 x7_2).f0)
            ·
             rw [if_pos c21] at H
             have c21b0 : decide (0 ≤ ((rd_T49 l2 x7_2).f0)) = true := decide_eq_true c21
             clear c21
             (first | rw [c21b0] | (simp only [i64_w, i32_w]; rw [c21b0]) | skip)
             by_cases c22 : ((rd_T49 l2 x7_2).f0) < (l0.length : Int)
             ·
              rw [if_pos c22] at H
              have c22b0 : decide (((rd_T49 l2 x7_2).f0) < (l0.length : Int)) = true := decide_eq_true c22
              clear c22
              have H' := Aside0.mk H
              clear H
              try go_wp2
              have n0_ : Aside0 (((((w13.setCell ⟨gb304, 0, none⟩ (.int .i64 ((rd_T49 l2 x7_2).f0))).setCell ⟨gb304, 1, none⟩ (.int .i64 ((rd_T49 l2 x7_2).f1))).setCell ⟨gb304, 2, none⟩ (.int .i64 ((rd_T49 l2 x7_2).f2))).setCell ⟨gb304, 3, none⟩ (.int .i64 ((rd_T49 l2 x7_2).f3))).heap[gb304]? = some (.cells #[.int .i64 ((rd_T49 l2 x7_2).f0), .int .i64 ((rd_T49 l2 x7_2).f1), .int .i64 ((rd_T49 l2 x7_2).f2), .int .i64 ((rd_T49 l2 x7_2).f3)] 49 (0, 0))) := ⟨by (with_reducible repeat (first | refine blk_drewN ?_ _ | refine blk_drew ?_ | refine blk_alloc ?_ _)); refine blk_put (cs := #[.int .i64 ((rd_T49 l2 x7_2).f0), .int .i64 ((rd_T49 l2 x7_2).f1), .int .i64 ((rd_T49 l2 x7_2).f2), .int .i64 0]) ?_ 3 _ rfl; (with_reducible repeat (first | refine blk_drewN ?_ _ | refine blk_drew ?_ | refine blk_alloc ?_ _)); refine blk_put (cs := #[.int .i64 ((rd_T49 l2 x7_2).f0), .int .i64 ((rd_T49 l2 x7_2).f1), .int .i64 0, .int .i64 0]) ?_ 2 _ rfl; (with_reducible repeat (first | refine blk_drewN ?_ _ | refine blk_drew ?_ | refine blk_alloc ?_ _)); refine blk_put (cs := #[.int .i64 ((rd_T49 l2 x7_2).f0), .int .i64 0, .int .i64 0, .int .i64 0]) ?_ 1 _ rfl; (with_reducible repeat (first | refine blk_drewN ?_ _ | refine blk_drew ?_ | refine blk_alloc ?_ _)); refine blk_put (cs := #[.int .i64 0, .int .i64 0, .int .i64 0, .int .i64 0]) ?_ 0 _ rfl; (with_reducible repeat (first | refine blk_drewN ?_ _ | refine blk_drew ?_ | refine blk_alloc ?_ _)); exact BK304.out⟩
              have n1_ : Aside0 (Below w.heap.size w ((((w13.setCell ⟨gb304, 0, none⟩ (.int .i64 ((rd_T49 l2 x7_2).f0))).setCell ⟨gb304, 1, none⟩ (.int .i64 ((rd_T49 l2 x7_2).f1))).setCell ⟨gb304, 2, none⟩ (.int .i64 ((rd_T49 l2 x7_2).f2))).setCell ⟨gb304, 3, none⟩ (.int .i64 ((rd_T49 l2 x7_2).f3)))) := ⟨be_ HB.out⟩
              (try clear BK304)
              (try clear HB)
              generalize ((((w13.setCell ⟨gb304, 0, none⟩ (.int .i64 ((rd_T49 l2 x7_2).f0))).setCell ⟨gb304, 1, none⟩ (.int .i64 ((rd_T49 l2 x7_2).f1))).setCell ⟨gb304, 2, none⟩ (.int .i64 ((rd_T49 l2 x7_2).f2))).setCell ⟨gb304, 3, none⟩ (.int .i64 ((rd_T49 l2 x7_2).f3))) = w23 at n0_ n1_ ⊢
              have BK304 := n0_
              have HB := n1_
              clear n0_ n1_
              have n0_ := Aside0.mk (blk_drew BK304.out)
              have n1_ := Aside0.mk (below_drew1 HB.out)
              clear BK304
              clear HB
              have BK304 := n0_
              have HB := n1_
              clear n0_ n1_
              have p308 : 0 ≤ (((rd_T49 l2 x7_2).f0) : Int) := of_decide_eq_true (by first | (with_reducible assumption) | assumption)
              have q308 : ((rd_T49 l2 x7_2).f0) < (l0.length : Int) := of_decide_eq_true (by first | (with_reducible assumption) | assumption)
              obtain ⟨ad308, e308, hx308_0⟩ := Kd.at_int HR0.out ((rd_T49 l2 x7_2).f0) p308 q308
              have hw308_0 := hx308_0
              cases e308
              replace hx308_0 := cw_ HB.out hx308_0
              replace p308 := eq_true p308
              replace q308 := eq_true q308
              refine start_ (n := 34) (S := fun w' => w'.cell? ⟨gb304, 0, none⟩ = some (.int .i64 ((rd_T49 l2 x7_2).f0)) ∧ w'.cell? ⟨gb304, 1, none⟩ = some (.int .i64 ((rd_T49 l2 x7_2).f1)) ∧ w'.cell? ⟨gb304, 2, none⟩ = some (.int .i64 ((rd_T49 l2 x7_2).f2)) ∧ w'.cell? ⟨gb304, 3, none⟩ = some (.int .i64 ((rd_T49 l2 x7_2).f3)) ∧ w'.cell? (ad308.add (((rd_T49 l2 x7_2).f0)).toNat) = some (.int .i64 (rd l0 ((rd_T49 l2 x7_2).f0)))) (ds := []) #[false, false, false, false, false, false, false, false, false, false, false, false, false, false, false, false, false, false, false, false, false, false, false, false, false, false, false, false, false, false, false, false, false, false] (by kernel_rfl) rfl rfl ⟨(blk_cell BK304.out 0).trans rfl, (blk_cell BK304.out 1).trans rfl, (blk_cell BK304.out 2).trans rfl, (blk_cell BK304.out 3).trans rfl, (cw_ HB.out hw308_0)⟩ (fun hHeld => ?_); refine with_tabW spec_PlanOk.tab7 spec_PlanOk.bits7 (fun HT_ HW_ => ?_)
              generalize w23.drew = w24 at BK304 HB hx308_0 hHeld ⊢
              refine pl_ 0 (some 35) 34 1 HT_.out ?_
              refine pl_ 2 (some 37) 34 5 HT_.out ?_
              refine pl_ 3 (some 38) 34 13 HT_.out ?_
              refine pl_ 4 (some 39) 34 29 HT_.out ?_
              refine tk_ 1 (some 36) 34 31 HT_.out HW_.out hHeld (hy := by rintro w' ⟨s0, s1, s2, s3, s4⟩; go_simp; with_reducible rfl) (h := ?_)
              refine one_ (i := 5) (N := some 40) (bl_ 34 63) rfl rfl (one_of HT_.out (by kernel_rfl)) (by decide) (fun K hK => ?_)
              refine goes_ Tryd.func24 (by kernel_rfl) rfl #[.int .i64 ((rd_T49 l2 x7_2).f0), .int .i64 0, .int .i64 (wrap64 ((l0.length : Int) - 1))] (by rfl) rfl rfl ar_ ?_
              with_reducible refine (spec_l01In.calls ((rd_T49 l2 x7_2).f0) 0 (wrap64 ((l0.length : Int) - 1)) true _ A15.out).mono ?_
              rintro e w' ⟨rfl, ⟨nd, rfl⟩⟩
              refine ⟨_, rfl, ?_⟩
              refine hK.out _ _ ⟨(blk_cell BK304.out 0).trans rfl, (blk_cell BK304.out 1).trans rfl, (blk_cell BK304.out 2).trans rfl, (blk_cell BK304.out 3).trans rfl, (cw_ HB.out hw308_0)⟩ (fun hHeld => ?_)
              clear hK K
              refine nm_ 40 (h := ?_)
              refine pl_ 6 (some 41) 34 127 HT_.out ?_
              refine pl_ 7 (some 42) 34 255 HT_.out ?_
              refine pl_ 8 (some 43) 34 511 HT_.out ?_
              refine pl_ 10 (some 45) 34 1535 HT_.out ?_
              refine pl_ 11 (some 46) 34 3583 HT_.out ?_
              refine tk_ 9 (some 44) 34 4095 HT_.out HW_.out hHeld (hy := by rintro w' ⟨s0, s1, s2, s3, s4⟩; go_simp; with_reducible rfl) (h := ?_)
              refine one_ (i := 12) (N := some 47) (bl_ 34 8191) rfl rfl (one_of HT_.out (by kernel_rfl)) (by decide) (fun K hK => ?_)
              refine goes_ Tryd.func24 (by kernel_rfl) rfl #[.int .i64 ((rd_T49 l2 x7_2).f1), .int .i64 0, .int .i64 (wrap64 (a1 - 1))] (by rfl) rfl rfl ar_ ?_
              with_reducible refine (spec_l01In.calls ((rd_T49 l2 x7_2).f1) 0 (wrap64 (a1 - 1)) true _ A17.out).mono ?_
              rintro e w' ⟨rfl, ⟨nd, rfl⟩⟩
              refine ⟨_, rfl, ?_⟩
              refine hK.out _ _ ⟨(blk_cell BK304.out 0).trans rfl, (blk_cell BK304.out 1).trans rfl, (blk_cell BK304.out 2).trans rfl, (blk_cell BK304.out 3).trans rfl, (cw_ HB.out hw308_0)⟩ (fun hHeld => ?_)
              clear hK K
              refine nm_ 47 (h := ?_)
              refine pl_ 13 (some 48) 34 16383 HT_.out ?_
              refine pl_ 14 (some 49) 34 32767 HT_.out ?_
              refine pl_ 15 (some 50) 34 65535 HT_.out ?_
              refine pl_ 16 (some 51) 34 131071 HT_.out ?_
              refine tk_ 17 (some 52) 34 262143 HT_.out HW_.out hHeld (hy := by rintro w' ⟨s0, s1, s2, s3, s4⟩; go_simp; with_reducible rfl) (h := ?_)
              refine one_ (i := 18) (N := some 53) (bl_ 34 524287) rfl rfl (one_of HT_.out (by kernel_rfl)) (by decide) (fun K hK => ?_)
              refine goes_ Tryd.func24 (by kernel_rfl) rfl #[.int .i64 ((rd_T49 l2 x7_2).f2), .int .i64 0, .int .i64 1000000000] (by rfl) rfl rfl ar_ ?_
              with_reducible refine (spec_l01In.calls ((rd_T49 l2 x7_2).f2) 0 1000000000 true _ A19.out).mono ?_
              rintro e w' ⟨rfl, ⟨nd, rfl⟩⟩
              refine ⟨_, rfl, ?_⟩
              refine hK.out _ _ ⟨(blk_cell BK304.out 0).trans rfl, (blk_cell BK304.out 1).trans rfl, (blk_cell BK304.out 2).trans rfl, (blk_cell BK304.out 3).trans rfl, (cw_ HB.out hw308_0)⟩ (fun hHeld => ?_)
              clear hK K
              refine nm_ 53 (h := ?_)
              refine pl_ 19 (some 54) 34 1048575 HT_.out ?_
              refine pl_ 20 (some 55) 34 2097151 HT_.out ?_
              refine pl_ 21 (some 56) 34 4194303 HT_.out ?_
              refine pl_ 22 (some 57) 34 8388607 HT_.out ?_
              refine pl_ 24 (some 59) 34 25165823 HT_.out ?_
              refine pl_ 27 (some 62) 34 159383551 HT_.out ?_
              refine pl_ 28 (some 63) 34 427819007 HT_.out ?_
              refine tk_ 23 (some 58) 34 436207615 HT_.out HW_.out hHeld (hy := by rintro w' ⟨s0, s1, s2, s3, s4⟩; go_simp; with_reducible rfl) (h := ?_)
              refine tk_ 25 (some 60) 34 469762047 HT_.out HW_.out hHeld (hy := by rintro w' ⟨s0, s1, s2, s3, s4⟩; go_simp; with_reducible rfl) (h := ?_)
              refine pl_ 26 (some 61) 34 536870911 HT_.out ?_
              refine tk_ 29 (some 64) 34 1073741823 HT_.out HW_.out hHeld (hy := by rintro w' ⟨s0, s1, s2, s3, s4⟩; go_simp; with_reducible rfl) (h := ?_)
              refine pl_ 30 (some 65) 34 2147483647 HT_.out ?_
              refine tk_ 31 (some 66) 34 4294967295 HT_.out HW_.out hHeld (hy := by rintro w' ⟨s0, s1, s2, s3, s4⟩; go_simp; with_reducible rfl) (h := ?_)
              refine pl_ 32 (some 67) 34 8589934591 HT_.out ?_
              refine pl_ 33 (some 68) 34 17179869183 HT_.out ?_
              refine done_ (done_of HT_.out (by kernel_rfl)) ?_
              try go_wp2
              go_meet
              case rel => exact ⟨_, (((wrap64 (((rd_T49 l2 x7_2).f3) - ((rd_T49 l2 x7_2).f2))) != (rd l0 ((rd_T49 l2 x7_2).f0)))), (by first | rfl | (simp; done) | (simp [*]; done)), H', ⟨by have := HJ3.out; have := HK2.out; first | omega | exact Nat.le_refl _⟩, ⟨bu_ BK304.out⟩, ⟨be_ HB.out⟩⟩
             ·
              rw [if_neg c22] at H
              exact absurd H (by simp)
            ·
             rw [if_neg c21] at H
             exact absurd H (by simp)
           ·
            replace c20 := Bool.eq_false_iff.mpr c20
            subst c20
            have H1 : (spec_PlanOk.j2 k2 l0 a1 l2 x7_2 true ((rd_T49 l2 x7_2).f0) ((rd_T49 l2 x7_2).f1) ((rd_T49 l2 x7_2).f2) ((rd_T49 l2 x7_2).f3)) = some r := by rw [if_neg (show ¬ (false = true) by decide)] at H; exact H
            clear H
            have H := H1
            clear H1
            have H' := Aside0.mk H
            clear H
            try go_wp2
            have n0_ : Aside0 (((((w13.setCell ⟨gb304, 0, none⟩ (.int .i64 ((rd_T49 l2 x7_2).f0))).setCell ⟨gb304, 1, none⟩ (.int .i64 ((rd_T49 l2 x7_2).f1))).setCell ⟨gb304, 2, none⟩ (.int .i64 ((rd_T49 l2 x7_2).f2))).setCell ⟨gb304, 3, none⟩ (.int .i64 ((rd_T49 l2 x7_2).f3))).heap[gb304]? = some (.cells #[.int .i64 ((rd_T49 l2 x7_2).f0), .int .i64 ((rd_T49 l2 x7_2).f1), .int .i64 ((rd_T49 l2 x7_2).f2), .int .i64 ((rd_T49 l2 x7_2).f3)] 49 (0, 0))) := ⟨by (with_reducible repeat (first | refine blk_drewN ?_ _ | refine blk_drew ?_ | refine blk_alloc ?_ _)); refine blk_put (cs := #[.int .i64 ((rd_T49 l2 x7_2).f0), .int .i64 ((rd_T49 l2 x7_2).f1), .int .i64 ((rd_T49 l2 x7_2).f2), .int .i64 0]) ?_ 3 _ rfl; (with_reducible repeat (first | refine blk_drewN ?_ _ | refine blk_drew ?_ | refine blk_alloc ?_ _)); refine blk_put (cs := #[.int .i64 ((rd_T49 l2 x7_2).f0), .int .i64 ((rd_T49 l2 x7_2).f1), .int .i64 0, .int .i64 0]) ?_ 2 _ rfl; (with_reducible repeat (first | refine blk_drewN ?_ _ | refine blk_drew ?_ | refine blk_alloc ?_ _)); refine blk_put (cs := #[.int .i64 ((rd_T49 l2 x7_2).f0), .int .i64 0, .int .i64 0, .int .i64 0]) ?_ 1 _ rfl; (with_reducible repeat (first | refine blk_drewN ?_ _ | refine blk_drew ?_ | refine blk_alloc ?_ _)); refine blk_put (cs := #[.int .i64 0, .int .i64 0, .int .i64 0, .int .i64 0]) ?_ 0 _ rfl; (with_reducible repeat (first | refine blk_drewN ?_ _ | refine blk_drew ?_ | refine blk_alloc ?_ _)); exact BK304.out⟩
            have n1_ : Aside0 (Below w.heap.size w ((((w13.setCell ⟨gb304, 0, none⟩ (.int .i64 ((rd_T49 l2 x7_2).f0))).setCell ⟨gb304, 1, none⟩ (.int .i64 ((rd_T49 l2 x7_2).f1))).setCell ⟨gb304, 2, none⟩ (.int .i64 ((rd_T49 l2 x7_2).f2))).setCell ⟨gb304, 3, none⟩ (.int .i64 ((rd_T49 l2 x7_2).f3)))) := ⟨be_ HB.out⟩
            (try clear BK304)
            (try clear HB)
            generalize ((((w13.setCell ⟨gb304, 0, none⟩ (.int .i64 ((rd_T49 l2 x7_2).f0))).setCell ⟨gb304, 1, none⟩ (.int .i64 ((rd_T49 l2 x7_2).f1))).setCell ⟨gb304, 2, none⟩ (.int .i64 ((rd_T49 l2 x7_2).f2))).setCell ⟨gb304, 3, none⟩ (.int .i64 ((rd_T49 l2 x7_2).f3))) = w25 at n0_ n1_ ⊢
            have BK304 := n0_
            have HB := n1_
            clear n0_ n1_
            have n0_ := Aside0.mk (blk_drew BK304.out)
            have n1_ := Aside0.mk (below_drew1 HB.out)
            clear BK304
            clear HB
            have BK304 := n0_
            have HB := n1_
            clear n0_ n1_
            refine start_ (n := 34) (S := fun w' => w'.cell? ⟨gb304, 0, none⟩ = some (.int .i64 ((rd_T49 l2 x7_2).f0)) ∧ w'.cell? ⟨gb304, 1, none⟩ = some (.int .i64 ((rd_T49 l2 x7_2).f1)) ∧ w'.cell? ⟨gb304, 2, none⟩ = some (.int .i64 ((rd_T49 l2 x7_2).f2)) ∧ w'.cell? ⟨gb304, 3, none⟩ = some (.int .i64 ((rd_T49 l2 x7_2).f3))) (ds := []) #[false, false, false, false, false, false, false, false, false, false, false, false, false, false, false, false, false, false, false, false, false, false, false, false, false, false, false, false, false, false, false, false, false, false] (by kernel_rfl) rfl rfl ⟨(blk_cell BK304.out 0).trans rfl, (blk_cell BK304.out 1).trans rfl, (blk_cell BK304.out 2).trans rfl, (blk_cell BK304.out 3).trans rfl⟩ (fun hHeld => ?_); refine with_tabW spec_PlanOk.tab7 spec_PlanOk.bits7 (fun HT_ HW_ => ?_)
            generalize w25.drew = w26 at BK304 HB hHeld ⊢
            refine pl_ 0 (some 35) 34 1 HT_.out ?_
            refine pl_ 2 (some 37) 34 5 HT_.out ?_
            refine pl_ 3 (some 38) 34 13 HT_.out ?_
            refine pl_ 4 (some 39) 34 29 HT_.out ?_
            refine tk_ 1 (some 36) 34 31 HT_.out HW_.out hHeld (hy := by rintro w' ⟨s0, s1, s2, s3⟩; go_simp; with_reducible rfl) (h := ?_)
            refine one_ (i := 5) (N := some 40) (bl_ 34 63) rfl rfl (one_of HT_.out (by kernel_rfl)) (by decide) (fun K hK => ?_)
            refine goes_ Tryd.func24 (by kernel_rfl) rfl #[.int .i64 ((rd_T49 l2 x7_2).f0), .int .i64 0, .int .i64 (wrap64 ((l0.length : Int) - 1))] (by rfl) rfl rfl ar_ ?_
            with_reducible refine (spec_l01In.calls ((rd_T49 l2 x7_2).f0) 0 (wrap64 ((l0.length : Int) - 1)) true _ A15.out).mono ?_
            rintro e w' ⟨rfl, ⟨nd, rfl⟩⟩
            refine ⟨_, rfl, ?_⟩
            refine hK.out _ _ ⟨(blk_cell BK304.out 0).trans rfl, (blk_cell BK304.out 1).trans rfl, (blk_cell BK304.out 2).trans rfl, (blk_cell BK304.out 3).trans rfl⟩ (fun hHeld => ?_)
            clear hK K
            refine nm_ 40 (h := ?_)
            refine pl_ 6 (some 41) 34 127 HT_.out ?_
            refine pl_ 7 (some 42) 34 255 HT_.out ?_
            refine pl_ 8 (some 43) 34 511 HT_.out ?_
            refine pl_ 10 (some 45) 34 1535 HT_.out ?_
            refine pl_ 11 (some 46) 34 3583 HT_.out ?_
            refine tk_ 9 (some 44) 34 4095 HT_.out HW_.out hHeld (hy := by rintro w' ⟨s0, s1, s2, s3⟩; go_simp; with_reducible rfl) (h := ?_)
            refine one_ (i := 12) (N := some 47) (bl_ 34 8191) rfl rfl (one_of HT_.out (by kernel_rfl)) (by decide) (fun K hK => ?_)
            refine goes_ Tryd.func24 (by kernel_rfl) rfl #[.int .i64 ((rd_T49 l2 x7_2).f1), .int .i64 0, .int .i64 (wrap64 (a1 - 1))] (by rfl) rfl rfl ar_ ?_
            with_reducible refine (spec_l01In.calls ((rd_T49 l2 x7_2).f1) 0 (wrap64 (a1 - 1)) true _ A17.out).mono ?_
            rintro e w' ⟨rfl, ⟨nd, rfl⟩⟩
            refine ⟨_, rfl, ?_⟩
            refine hK.out _ _ ⟨(blk_cell BK304.out 0).trans rfl, (blk_cell BK304.out 1).trans rfl, (blk_cell BK304.out 2).trans rfl, (blk_cell BK304.out 3).trans rfl⟩ (fun hHeld => ?_)
            clear hK K
            refine nm_ 47 (h := ?_)
            refine pl_ 13 (some 48) 34 16383 HT_.out ?_
            refine pl_ 14 (some 49) 34 32767 HT_.out ?_
            refine pl_ 15 (some 50) 34 65535 HT_.out ?_
            refine pl_ 16 (some 51) 34 131071 HT_.out ?_
            refine tk_ 17 (some 52) 34 262143 HT_.out HW_.out hHeld (hy := by rintro w' ⟨s0, s1, s2, s3⟩; go_simp; with_reducible rfl) (h := ?_)
            refine one_ (i := 18) (N := some 53) (bl_ 34 524287) rfl rfl (one_of HT_.out (by kernel_rfl)) (by decide) (fun K hK => ?_)
            refine goes_ Tryd.func24 (by kernel_rfl) rfl #[.int .i64 ((rd_T49 l2 x7_2).f2), .int .i64 0, .int .i64 1000000000] (by rfl) rfl rfl ar_ ?_
            with_reducible refine (spec_l01In.calls ((rd_T49 l2 x7_2).f2) 0 1000000000 false _ A19.out).mono ?_
            rintro e w' ⟨rfl, ⟨nd, rfl⟩⟩
            refine ⟨_, rfl, ?_⟩
            refine hK.out _ _ ⟨(blk_cell BK304.out 0).trans rfl, (blk_cell BK304.out 1).trans rfl, (blk_cell BK304.out 2).trans rfl, (blk_cell BK304.out 3).trans rfl⟩ (fun hHeld => ?_)
            clear hK K
            refine nm_ 53 (h := ?_)
            refine pl_ 19 (some 54) 34 1048575 HT_.out ?_
            refine pl_ 20 (some 55) 34 2097151 HT_.out ?_
            refine pl_ 21 (some 56) 34 4194303 HT_.out ?_
            refine pure_ (i := 22) (N := some 57) (v := undef) (a' := ?_) (bl_ 34 8388607) rfl rfl (any_of HT_.out (by kernel_rfl)) (fun _ _ _ h => h) (Or.inr ⟨by rfl, rfl⟩) ?_ ?_
            rotate_left
            ·
             simp only [Act.put, List.setIfInBounds_toArray, List.set_cons_zero, List.set_cons_succ, i64_w, i32_w]
             rfl
            refine pure_ (i := 23) (N := some 58) (v := undef) (a' := ?_) (bl_ 34 16777215) rfl rfl (any_of HT_.out (by kernel_rfl)) (fun _ _ _ h => h) (Or.inr ⟨by rfl, rfl⟩) ?_ ?_
            rotate_left
            ·
             simp only [Act.put, List.setIfInBounds_toArray, List.set_cons_zero, List.set_cons_succ, i64_w, i32_w]
             rfl
            refine pure_ (i := 24) (N := some 59) (v := undef) (a' := ?_) (bl_ 34 33554431) rfl rfl (any_of HT_.out (by kernel_rfl)) (fun _ _ _ h => h) (Or.inr ⟨by rfl, rfl⟩) ?_ ?_
            rotate_left
            ·
             simp only [Act.put, List.setIfInBounds_toArray, List.set_cons_zero, List.set_cons_succ, i64_w, i32_w]
             rfl
            refine pure_ (i := 25) (N := some 60) (v := undef) (a' := ?_) (bl_ 34 67108863) rfl rfl (any_of HT_.out (by kernel_rfl)) (fun _ _ _ h => h) (Or.inr ⟨by rfl, rfl⟩) ?_ ?_
            rotate_left
            ·
             simp only [Act.put, List.setIfInBounds_toArray, List.set_cons_zero, List.set_cons_succ, i64_w, i32_w]
             rfl
            refine pure_ (i := 26) (N := some 61) (v := undef) (a' := ?_) (bl_ 34 134217727) rfl rfl (any_of HT_.out (by kernel_rfl)) (fun _ _ _ h => h) (Or.inr ⟨by rfl, rfl⟩) ?_ ?_
            rotate_left
            ·
             simp only [Act.put, List.setIfInBounds_toArray, List.set_cons_zero, List.set_cons_succ, i64_w, i32_w]
             rfl
            refine pure_ (i := 27) (N := some 62) (v := undef) (a' := ?_) (bl_ 34 268435455) rfl rfl (any_of HT_.out (by kernel_rfl)) (fun _ _ _ h => h) (Or.inr ⟨by rfl, rfl⟩) ?_ ?_
            rotate_left
            ·
             simp only [Act.put, List.setIfInBounds_toArray, List.set_cons_zero, List.set_cons_succ, i64_w, i32_w]
             rfl
            refine pure_ (i := 28) (N := some 63) (v := undef) (a' := ?_) (bl_ 34 536870911) rfl rfl (any_of HT_.out (by kernel_rfl)) (fun _ _ _ h => h) (Or.inr ⟨by rfl, rfl⟩) ?_ ?_
            rotate_left
            ·
             simp only [Act.put, List.setIfInBounds_toArray, List.set_cons_zero, List.set_cons_succ, i64_w, i32_w]
             rfl
            refine pure_ (i := 29) (N := some 64) (v := undef) (a' := ?_) (bl_ 34 1073741823) rfl rfl (any_of HT_.out (by kernel_rfl)) (fun _ _ _ h => h) (Or.inr ⟨by rfl, rfl⟩) ?_ ?_
            rotate_left
            ·
             simp only [Act.put, List.setIfInBounds_toArray, List.set_cons_zero, List.set_cons_succ, i64_w, i32_w]
             rfl
            refine pure_ (i := 30) (N := some 65) (v := undef) (a' := ?_) (bl_ 34 2147483647) rfl rfl (any_of HT_.out (by kernel_rfl)) (fun _ _ _ h => h) (Or.inr ⟨by rfl, rfl⟩) ?_ ?_
            rotate_left
            ·
             simp only [Act.put, List.setIfInBounds_toArray, List.set_cons_zero, List.set_cons_succ, i64_w, i32_w]
             rfl
            refine pure_ (i := 31) (N := some 66) (v := undef) (a' := ?_) (bl_ 34 4294967295) rfl rfl (any_of HT_.out (by kernel_rfl)) (fun _ _ _ h => h) (Or.inr ⟨by rfl, rfl⟩) ?_ ?_
            rotate_left
            ·
             simp only [Act.put, List.setIfInBounds_toArray, List.set_cons_zero, List.set_cons_succ, i64_w, i32_w]
             rfl
            refine pure_ (i := 32) (N := some 67) (v := undef) (a' := ?_) (bl_ 34 8589934591) rfl rfl (any_of HT_.out (by kernel_rfl)) (fun _ _ _ h => h) (Or.inr ⟨by rfl, rfl⟩) ?_ ?_
            rotate_left
            ·
             simp only [Act.put, List.setIfInBounds_toArray, List.set_cons_zero, List.set_cons_succ, i64_w, i32_w]
             rfl
            refine pl_ 33 (some 68) 34 17179869183 HT_.out ?_
            refine done_ (done_of HT_.out (by kernel_rfl)) ?_
            try go_wp2
            go_meet
            case rel => exact ⟨_, (true), (by first | rfl | (simp; done) | (simp [*]; done)), H', ⟨by have := HJ3.out; have := HK2.out; first | omega | exact Nat.le_refl _⟩, ⟨bu_ BK304.out⟩, ⟨be_ HB.out⟩⟩
          ·
           replace c18 := Bool.eq_false_iff.mpr c18
           subst c18
           have H1 : (spec_PlanOk.j2 k2 l0 a1 l2 x7_2 true ((rd_T49 l2 x7_2).f0) ((rd_T49 l2 x7_2).f1) ((rd_T49 l2 x7_2).f2) ((rd_T49 l2 x7_2).f3)) = some r := by rw [if_neg (show ¬ (false = true) by decide)] at H; exact H
           clear H
           have H := H1
           clear H1
           have H' := Aside0.mk H
           clear H
           try go_wp2
           have n0_ : Aside0 (((((w13.setCell ⟨gb304, 0, none⟩ (.int .i64 ((rd_T49 l2 x7_2).f0))).setCell ⟨gb304, 1, none⟩ (.int .i64 ((rd_T49 l2 x7_2).f1))).setCell ⟨gb304, 2, none⟩ (.int .i64 ((rd_T49 l2 x7_2).f2))).setCell ⟨gb304, 3, none⟩ (.int .i64 ((rd_T49 l2 x7_2).f3))).heap[gb304]? = some (.cells #[.int .i64 ((rd_T49 l2 x7_2).f0), .int .i64 ((rd_T49 l2 x7_2).f1), .int .i64 ((rd_T49 l2 x7_2).f2), .int .i64 ((rd_T49 l2 x7_2).f3)] 49 (0, 0))) := ⟨by (with_reducible repeat (first | refine blk_drewN ?_ _ | refine blk_drew ?_ | refine blk_alloc ?_ _)); refine blk_put (cs := #[.int .i64 ((rd_T49 l2 x7_2).f0), .int .i64 ((rd_T49 l2 x7_2).f1), .int .i64 ((rd_T49 l2 x7_2).f2), .int .i64 0]) ?_ 3 _ rfl; (with_reducible repeat (first | refine blk_drewN ?_ _ | refine blk_drew ?_ | refine blk_alloc ?_ _)); refine blk_put (cs := #[.int .i64 ((rd_T49 l2 x7_2).f0), .int .i64 ((rd_T49 l2 x7_2).f1), .int .i64 0, .int .i64 0]) ?_ 2 _ rfl; (with_reducible repeat (first | refine blk_drewN ?_ _ | refine blk_drew ?_ | refine blk_alloc ?_ _)); refine blk_put (cs := #[.int .i64 ((rd_T49 l2 x7_2).f0), .int .i64 0, .int .i64 0, .int .i64 0]) ?_ 1 _ rfl; (with_reducible repeat (first | refine blk_drewN ?_ _ | refine blk_drew ?_ | refine blk_alloc ?_ _)); refine blk_put (cs := #[.int .i64 0, .int .i64 0, .int .i64 0, .int .i64 0]) ?_ 0 _ rfl; (with_reducible repeat (first | refine blk_drewN ?_ _ | refine blk_drew ?_ | refine blk_alloc ?_ _)); exact BK304.out⟩
           have n1_ : Aside0 (Below w.heap.size w ((((w13.setCell ⟨gb304, 0, none⟩ (.int .i64 ((rd_T49 l2 x7_2).f0))).setCell ⟨gb304, 1, none⟩ (.int .i64 ((rd_T49 l2 x7_2).f1))).setCell ⟨gb304, 2, none⟩ (.int .i64 ((rd_T49 l2 x7_2).f2))).setCell ⟨gb304, 3, none⟩ (.int .i64 ((rd_T49 l2 x7_2).f3)))) := ⟨be_ HB.out⟩
           (try clear BK304)
           (try clear HB)
           generalize ((((w13.setCell ⟨gb304, 0, none⟩ (.int .i64 ((rd_T49 l2 x7_2).f0))).setCell ⟨gb304, 1, none⟩ (.int .i64 ((rd_T49 l2 x7_2).f1))).setCell ⟨gb304, 2, none⟩ (.int .i64 ((rd_T49 l2 x7_2).f2))).setCell ⟨gb304, 3, none⟩ (.int .i64 ((rd_T49 l2 x7_2).f3))) = w27 at n0_ n1_ ⊢
           have BK304 := n0_
           have HB := n1_
           clear n0_ n1_
           have n0_ := Aside0.mk (blk_drew BK304.out)
           have n1_ := Aside0.mk (below_drew1 HB.out)
           clear BK304
           clear HB
           have BK304 := n0_
           have HB := n1_
           clear n0_ n1_
           refine start_ (n := 34) (S := fun w' => w'.cell? ⟨gb304, 0, none⟩ = some (.int .i64 ((rd_T49 l2 x7_2).f0)) ∧ w'.cell? ⟨gb304, 1, none⟩ = some (.int .i64 ((rd_T49 l2 x7_2).f1)) ∧ w'.cell? ⟨gb304, 2, none⟩ = some (.int .i64 ((rd_T49 l2 x7_2).f2)) ∧ w'.cell? ⟨gb304, 3, none⟩ = some (.int .i64 ((rd_T49 l2 x7_2).f3))) (ds := []) #[false, false, false, false, false, false, false, false, false, false, false, false, false, false, false, false, false, false, false, false, false, false, false, false, false, false, false, false, false, false, false, false, false, false] (by kernel_rfl) rfl rfl ⟨(blk_cell BK304.out 0).trans rfl, (blk_cell BK304.out 1).trans rfl, (blk_cell BK304.out 2).trans rfl, (blk_cell BK304.out 3).trans rfl⟩ (fun hHeld => ?_); refine with_tabW spec_PlanOk.tab7 spec_PlanOk.bits7 (fun HT_ HW_ => ?_)
           generalize w27.drew = w28 at BK304 HB hHeld ⊢
           refine pl_ 0 (some 35) 34 1 HT_.out ?_
           refine pl_ 2 (some 37) 34 5 HT_.out ?_
           refine pl_ 3 (some 38) 34 13 HT_.out ?_
           refine pl_ 4 (some 39) 34 29 HT_.out ?_
           refine tk_ 1 (some 36) 34 31 HT_.out HW_.out hHeld (hy := by rintro w' ⟨s0, s1, s2, s3⟩; go_simp; with_reducible rfl) (h := ?_)
           refine one_ (i := 5) (N := some 40) (bl_ 34 63) rfl rfl (one_of HT_.out (by kernel_rfl)) (by decide) (fun K hK => ?_)
           refine goes_ Tryd.func24 (by kernel_rfl) rfl #[.int .i64 ((rd_T49 l2 x7_2).f0), .int .i64 0, .int .i64 (wrap64 ((l0.length : Int) - 1))] (by rfl) rfl rfl ar_ ?_
           with_reducible refine (spec_l01In.calls ((rd_T49 l2 x7_2).f0) 0 (wrap64 ((l0.length : Int) - 1)) true _ A15.out).mono ?_
           rintro e w' ⟨rfl, ⟨nd, rfl⟩⟩
           refine ⟨_, rfl, ?_⟩
           refine hK.out _ _ ⟨(blk_cell BK304.out 0).trans rfl, (blk_cell BK304.out 1).trans rfl, (blk_cell BK304.out 2).trans rfl, (blk_cell BK304.out 3).trans rfl⟩ (fun hHeld => ?_)
           clear hK K
           refine nm_ 40 (h := ?_)
           refine pl_ 6 (some 41) 34 127 HT_.out ?_
           refine pl_ 7 (some 42) 34 255 HT_.out ?_
           refine pl_ 8 (some 43) 34 511 HT_.out ?_
           refine pl_ 10 (some 45) 34 1535 HT_.out ?_
           refine pl_ 11 (some 46) 34 3583 HT_.out ?_
           refine tk_ 9 (some 44) 34 4095 HT_.out HW_.out hHeld (hy := by rintro w' ⟨s0, s1, s2, s3⟩; go_simp; with_reducible rfl) (h := ?_)
           refine one_ (i := 12) (N := some 47) (bl_ 34 8191) rfl rfl (one_of HT_.out (by kernel_rfl)) (by decide) (fun K hK => ?_)
           refine goes_ Tryd.func24 (by kernel_rfl) rfl #[.int .i64 ((rd_T49 l2 x7_2).f1), .int .i64 0, .int .i64 (wrap64 (a1 - 1))] (by rfl) rfl rfl ar_ ?_
           with_reducible refine (spec_l01In.calls ((rd_T49 l2 x7_2).f1) 0 (wrap64 (a1 - 1)) false _ A17.out).mono ?_
           rintro e w' ⟨rfl, ⟨nd, rfl⟩⟩
           refine ⟨_, rfl, ?_⟩
           refine hK.out _ _ ⟨(blk_cell BK304.out 0).trans rfl, (blk_cell BK304.out 1).trans rfl, (blk_cell BK304.out 2).trans rfl, (blk_cell BK304.out 3).trans rfl⟩ (fun hHeld => ?_)
           clear hK K
           refine nm_ 47 (h := ?_)
           refine pl_ 13 (some 48) 34 16383 HT_.out ?_
           refine pl_ 14 (some 49) 34 32767 HT_.out ?_
           refine pl_ 15 (some 50) 34 65535 HT_.out ?_
           refine pure_ (i := 16) (N := some 51) (v := undef) (a' := ?_) (bl_ 34 131071) rfl rfl (any_of HT_.out (by kernel_rfl)) (fun _ _ _ h => h) (Or.inr ⟨by rfl, rfl⟩) ?_ ?_
           rotate_left
           ·
            simp only [Act.put, List.setIfInBounds_toArray, List.set_cons_zero, List.set_cons_succ, i64_w, i32_w]
            rfl
           refine pure_ (i := 17) (N := some 52) (v := undef) (a' := ?_) (bl_ 34 262143) rfl rfl (any_of HT_.out (by kernel_rfl)) (fun _ _ _ h => h) (Or.inr ⟨by rfl, rfl⟩) ?_ ?_
           rotate_left
           ·
            simp only [Act.put, List.setIfInBounds_toArray, List.set_cons_zero, List.set_cons_succ, i64_w, i32_w]
            rfl
           refine pure_ (i := 18) (N := some 53) (v := undef) (a' := ?_) (bl_ 34 524287) rfl rfl (any_of HT_.out (by kernel_rfl)) (fun _ _ _ h => h) (Or.inr ⟨by rfl, rfl⟩) ?_ ?_
           rotate_left
           ·
            simp only [Act.put, List.setIfInBounds_toArray, List.set_cons_zero, List.set_cons_succ, i64_w, i32_w]
            rfl
           refine pure_ (i := 19) (N := some 54) (v := undef) (a' := ?_) (bl_ 34 1048575) rfl rfl (any_of HT_.out (by kernel_rfl)) (fun _ _ _ h => h) (Or.inr ⟨by rfl, rfl⟩) ?_ ?_
           rotate_left
           ·
            simp only [Act.put, List.setIfInBounds_toArray, List.set_cons_zero, List.set_cons_succ, i64_w, i32_w]
            rfl
           refine pl_ 20 (some 55) 34 2097151 HT_.out ?_
           refine pl_ 21 (some 56) 34 4194303 HT_.out ?_
           refine pure_ (i := 22) (N := some 57) (v := undef) (a' := ?_) (bl_ 34 8388607) rfl rfl (any_of HT_.out (by kernel_rfl)) (fun _ _ _ h => h) (Or.inr ⟨by rfl, rfl⟩) ?_ ?_
           rotate_left
           ·
            simp only [Act.put, List.setIfInBounds_toArray, List.set_cons_zero, List.set_cons_succ, i64_w, i32_w]
            rfl
           refine pure_ (i := 23) (N := some 58) (v := undef) (a' := ?_) (bl_ 34 16777215) rfl rfl (any_of HT_.out (by kernel_rfl)) (fun _ _ _ h => h) (Or.inr ⟨by rfl, rfl⟩) ?_ ?_
           rotate_left
           ·
            simp only [Act.put, List.setIfInBounds_toArray, List.set_cons_zero, List.set_cons_succ, i64_w, i32_w]
            rfl
           refine pure_ (i := 24) (N := some 59) (v := undef) (a' := ?_) (bl_ 34 33554431) rfl rfl (any_of HT_.out (by kernel_rfl)) (fun _ _ _ h => h) (Or.inr ⟨by rfl, rfl⟩) ?_ ?_
           rotate_left
           ·
            simp only [Act.put, List.setIfInBounds_toArray, List.set_cons_zero, List.set_cons_succ, i64_w, i32_w]
            rfl
           refine pure_ (i := 25) (N := some 60) (v := undef) (a' := ?_) (bl_ 34 67108863) rfl rfl (any_of HT_.out (by kernel_rfl)) (fun _ _ _ h => h) (Or.inr ⟨by rfl, rfl⟩) ?_ ?_
           rotate_left
           ·
            simp only [Act.put, List.setIfInBounds_toArray, List.set_cons_zero, List.set_cons_succ, i64_w, i32_w]
            rfl
           refine pure_ (i := 26) (N := some 61) (v := undef) (a' := ?_) (bl_ 34 134217727) rfl rfl (any_of HT_.out (by kernel_rfl)) (fun _ _ _ h => h) (Or.inr ⟨by rfl, rfl⟩) ?_ ?_
           rotate_left
           ·
            simp only [Act.put, List.setIfInBounds_toArray, List.set_cons_zero, List.set_cons_succ, i64_w, i32_w]
            rfl
           refine pure_ (i := 27) (N := some 62) (v := undef) (a' := ?_) (bl_ 34 268435455) rfl rfl (any_of HT_.out (by kernel_rfl)) (fun _ _ _ h => h) (Or.inr ⟨by rfl, rfl⟩) ?_ ?_
           rotate_left
           ·
            simp only [Act.put, List.setIfInBounds_toArray, List.set_cons_zero, List.set_cons_succ, i64_w, i32_w]
            rfl
           refine pure_ (i := 28) (N := some 63) (v := undef) (a' := ?_) (bl_ 34 536870911) rfl rfl (any_of HT_.out (by kernel_rfl)) (fun _ _ _ h => h) (Or.inr ⟨by rfl, rfl⟩) ?_ ?_
           rotate_left
           ·
            simp only [Act.put, List.setIfInBounds_toArray, List.set_cons_zero, List.set_cons_succ, i64_w, i32_w]
            rfl
           refine pure_ (i := 29) (N := some 64) (v := undef) (a' := ?_) (bl_ 34 1073741823) rfl rfl (any_of HT_.out (by kernel_rfl)) (fun _ _ _ h => h) (Or.inr ⟨by rfl, rfl⟩) ?_ ?_
           rotate_left
           ·
            simp only [Act.put, List.setIfInBounds_toArray, List.set_cons_zero, List.set_cons_succ, i64_w, i32_w]
            rfl
           refine pure_ (i := 30) (N := some 65) (v := undef) (a' := ?_) (bl_ 34 2147483647) rfl rfl (any_of HT_.out (by kernel_rfl)) (fun _ _ _ h => h) (Or.inr ⟨by rfl, rfl⟩) ?_ ?_
           rotate_left
           ·
            simp only [Act.put, List.setIfInBounds_toArray, List.set_cons_zero, List.set_cons_succ, i64_w, i32_w]
            rfl
           refine pure_ (i := 31) (N := some 66) (v := undef) (a' := ?_) (bl_ 34 4294967295) rfl rfl (any_of HT_.out (by kernel_rfl)) (fun _ _ _ h => h) (Or.inr ⟨by rfl, rfl⟩) ?_ ?_
           rotate_left
           ·
            simp only [Act.put, List.setIfInBounds_toArray, List.set_cons_zero, List.set_cons_succ, i64_w, i32_w]
            rfl
           refine pure_ (i := 32) (N := some 67) (v := undef) (a' := ?_) (bl_ 34 8589934591) rfl rfl (any_of HT_.out (by kernel_rfl)) (fun _ _ _ h => h) (Or.inr ⟨by rfl, rfl⟩) ?_ ?_
           rotate_left
           ·
            simp only [Act.put, List.setIfInBounds_toArray, List.set_cons_zero, List.set_cons_succ, i64_w, i32_w]
            rfl
           refine pl_ 33 (some 68) 34 17179869183 HT_.out ?_
           refine done_ (done_of HT_.out (by kernel_rfl)) ?_
           try go_wp2
           go_meet
           case rel => exact ⟨_, (true), (by first | rfl | (simp; done) | (simp [*]; done)), H', ⟨by have := HJ3.out; have := HK2.out; first | omega | exact Nat.le_refl _⟩, ⟨bu_ BK304.out⟩, ⟨be_ HB.out⟩⟩
         ·
          replace c16 := Bool.eq_false_iff.mpr c16
          subst c16
          have H1 : (spec_PlanOk.j2 k2 l0 a1 l2 x7_2 true ((rd_T49 l2 x7_2).f0) ((rd_T49 l2 x7_2).f1) ((rd_T49 l2 x7_2).f2) ((rd_T49 l2 x7_2).f3)) = some r := by rw [if_neg (show ¬ (false = true) by decide)] at H; exact H
          clear H
          have H := H1
          clear H1
          have H' := Aside0.mk H
          clear H
          try go_wp2
          have n0_ : Aside0 (((((w13.setCell ⟨gb304, 0, none⟩ (.int .i64 ((rd_T49 l2 x7_2).f0))).setCell ⟨gb304, 1, none⟩ (.int .i64 ((rd_T49 l2 x7_2).f1))).setCell ⟨gb304, 2, none⟩ (.int .i64 ((rd_T49 l2 x7_2).f2))).setCell ⟨gb304, 3, none⟩ (.int .i64 ((rd_T49 l2 x7_2).f3))).heap[gb304]? = some (.cells #[.int .i64 ((rd_T49 l2 x7_2).f0), .int .i64 ((rd_T49 l2 x7_2).f1), .int .i64 ((rd_T49 l2 x7_2).f2), .int .i64 ((rd_T49 l2 x7_2).f3)] 49 (0, 0))) := ⟨by (with_reducible repeat (first | refine blk_drewN ?_ _ | refine blk_drew ?_ | refine blk_alloc ?_ _)); refine blk_put (cs := #[.int .i64 ((rd_T49 l2 x7_2).f0), .int .i64 ((rd_T49 l2 x7_2).f1), .int .i64 ((rd_T49 l2 x7_2).f2), .int .i64 0]) ?_ 3 _ rfl; (with_reducible repeat (first | refine blk_drewN ?_ _ | refine blk_drew ?_ | refine blk_alloc ?_ _)); refine blk_put (cs := #[.int .i64 ((rd_T49 l2 x7_2).f0), .int .i64 ((rd_T49 l2 x7_2).f1), .int .i64 0, .int .i64 0]) ?_ 2 _ rfl; (with_reducible repeat (first | refine blk_drewN ?_ _ | refine blk_drew ?_ | refine blk_alloc ?_ _)); refine blk_put (cs := #[.int .i64 ((rd_T49 l2 x7_2).f0), .int .i64 0, .int .i64 0, .int .i64 0]) ?_ 1 _ rfl; (with_reducible repeat (first | refine blk_drewN ?_ _ | refine blk_drew ?_ | refine blk_alloc ?_ _)); refine blk_put (cs := #[.int .i64 0, .int .i64 0, .int .i64 0, .int .i64 0]) ?_ 0 _ rfl; (with_reducible repeat (first | refine blk_drewN ?_ _ | refine blk_drew ?_ | refine blk_alloc ?_ _)); exact BK304.out⟩
          have n1_ : Aside0 (Below w.heap.size w ((((w13.setCell ⟨gb304, 0, none⟩ (.int .i64 ((rd_T49 l2 x7_2).f0))).setCell ⟨gb304, 1, none⟩ (.int .i64 ((rd_T49 l2 x7_2).f1))).setCell ⟨gb304, 2, none⟩ (.int .i64 ((rd_T49 l2 x7_2).f2))).setCell ⟨gb304, 3, none⟩ (.int .i64 ((rd_T49 l2 x7_2).f3)))) := ⟨be_ HB.out⟩
          (try clear BK304)
          (try clear HB)
          generalize ((((w13.setCell ⟨gb304, 0, none⟩ (.int .i64 ((rd_T49 l2 x7_2).f0))).setCell ⟨gb304, 1, none⟩ (.int .i64 ((rd_T49 l2 x7_2).f1))).setCell ⟨gb304, 2, none⟩ (.int .i64 ((rd_T49 l2 x7_2).f2))).setCell ⟨gb304, 3, none⟩ (.int .i64 ((rd_T49 l2 x7_2).f3))) = w29 at n0_ n1_ ⊢
          have BK304 := n0_
          have HB := n1_
          clear n0_ n1_
          have n0_ := Aside0.mk (blk_drew BK304.out)
          have n1_ := Aside0.mk (below_drew1 HB.out)
          clear BK304
          clear HB
          have BK304 := n0_
          have HB := n1_
          clear n0_ n1_
          refine start_ (n := 34) (S := fun w' => w'.cell? ⟨gb304, 0, none⟩ = some (.int .i64 ((rd_T49 l2 x7_2).f0)) ∧ w'.cell? ⟨gb304, 1, none⟩ = some (.int .i64 ((rd_T49 l2 x7_2).f1)) ∧ w'.cell? ⟨gb304, 2, none⟩ = some (.int .i64 ((rd_T49 l2 x7_2).f2)) ∧ w'.cell? ⟨gb304, 3, none⟩ = some (.int .i64 ((rd_T49 l2 x7_2).f3))) (ds := []) #[false, false, false, false, false, false, false, false, false, false, false, false, false, false, false, false, false, false, false, false, false, false, false, false, false, false, false, false, false, false, false, false, false, false] (by kernel_rfl) rfl rfl ⟨(blk_cell BK304.out 0).trans rfl, (blk_cell BK304.out 1).trans rfl, (blk_cell BK304.out 2).trans rfl, (blk_cell BK304.out 3).trans rfl⟩ (fun hHeld => ?_); refine with_tabW spec_PlanOk.tab7 spec_PlanOk.bits7 (fun HT_ HW_ => ?_)
          generalize w29.drew = w30 at BK304 HB hHeld ⊢
          refine pl_ 0 (some 35) 34 1 HT_.out ?_
          refine pl_ 2 (some 37) 34 5 HT_.out ?_
          refine pl_ 3 (some 38) 34 13 HT_.out ?_
          refine pl_ 4 (some 39) 34 29 HT_.out ?_
          refine tk_ 1 (some 36) 34 31 HT_.out HW_.out hHeld (hy := by rintro w' ⟨s0, s1, s2, s3⟩; go_simp; with_reducible rfl) (h := ?_)
          refine one_ (i := 5) (N := some 40) (bl_ 34 63) rfl rfl (one_of HT_.out (by kernel_rfl)) (by decide) (fun K hK => ?_)
          refine goes_ Tryd.func24 (by kernel_rfl) rfl #[.int .i64 ((rd_T49 l2 x7_2).f0), .int .i64 0, .int .i64 (wrap64 ((l0.length : Int) - 1))] (by rfl) rfl rfl ar_ ?_
          with_reducible refine (spec_l01In.calls ((rd_T49 l2 x7_2).f0) 0 (wrap64 ((l0.length : Int) - 1)) false _ A15.out).mono ?_
          rintro e w' ⟨rfl, ⟨nd, rfl⟩⟩
          refine ⟨_, rfl, ?_⟩
          refine hK.out _ _ ⟨(blk_cell BK304.out 0).trans rfl, (blk_cell BK304.out 1).trans rfl, (blk_cell BK304.out 2).trans rfl, (blk_cell BK304.out 3).trans rfl⟩ (fun hHeld => ?_)
          clear hK K
          refine nm_ 40 (h := ?_)
          refine pl_ 6 (some 41) 34 127 HT_.out ?_
          refine pl_ 7 (some 42) 34 255 HT_.out ?_
          refine pure_ (i := 8) (N := some 43) (v := undef) (a' := ?_) (bl_ 34 511) rfl rfl (any_of HT_.out (by kernel_rfl)) (fun _ _ _ h => h) (Or.inr ⟨by rfl, rfl⟩) ?_ ?_
          rotate_left
          ·
           simp only [Act.put, List.setIfInBounds_toArray, List.set_cons_zero, List.set_cons_succ, i64_w, i32_w]
           rfl
          refine pure_ (i := 9) (N := some 44) (v := undef) (a' := ?_) (bl_ 34 1023) rfl rfl (any_of HT_.out (by kernel_rfl)) (fun _ _ _ h => h) (Or.inr ⟨by rfl, rfl⟩) ?_ ?_
          rotate_left
          ·
           simp only [Act.put, List.setIfInBounds_toArray, List.set_cons_zero, List.set_cons_succ, i64_w, i32_w]
           rfl
          refine pure_ (i := 10) (N := some 45) (v := undef) (a' := ?_) (bl_ 34 2047) rfl rfl (any_of HT_.out (by kernel_rfl)) (fun _ _ _ h => h) (Or.inr ⟨by rfl, rfl⟩) ?_ ?_
          rotate_left
          ·
           simp only [Act.put, List.setIfInBounds_toArray, List.set_cons_zero, List.set_cons_succ, i64_w, i32_w]
           rfl
          refine pure_ (i := 11) (N := some 46) (v := undef) (a' := ?_) (bl_ 34 4095) rfl rfl (any_of HT_.out (by kernel_rfl)) (fun _ _ _ h => h) (Or.inr ⟨by rfl, rfl⟩) ?_ ?_
          rotate_left
          ·
           simp only [Act.put, List.setIfInBounds_toArray, List.set_cons_zero, List.set_cons_succ, i64_w, i32_w]
           rfl
          refine pure_ (i := 12) (N := some 47) (v := undef) (a' := ?_) (bl_ 34 8191) rfl rfl (any_of HT_.out (by kernel_rfl)) (fun _ _ _ h => h) (Or.inr ⟨by rfl, rfl⟩) ?_ ?_
          rotate_left
          ·
           simp only [Act.put, List.setIfInBounds_toArray, List.set_cons_zero, List.set_cons_succ, i64_w, i32_w]
           rfl
          refine pure_ (i := 13) (N := some 48) (v := undef) (a' := ?_) (bl_ 34 16383) rfl rfl (any_of HT_.out (by kernel_rfl)) (fun _ _ _ h => h) (Or.inr ⟨by rfl, rfl⟩) ?_ ?_
          rotate_left
          ·
           simp only [Act.put, List.setIfInBounds_toArray, List.set_cons_zero, List.set_cons_succ, i64_w, i32_w]
           rfl
          refine pl_ 14 (some 49) 34 32767 HT_.out ?_
          refine pl_ 15 (some 50) 34 65535 HT_.out ?_
          refine pure_ (i := 16) (N := some 51) (v := undef) (a' := ?_) (bl_ 34 131071) rfl rfl (any_of HT_.out (by kernel_rfl)) (fun _ _ _ h => h) (Or.inr ⟨by rfl, rfl⟩) ?_ ?_
          rotate_left
          ·
           simp only [Act.put, List.setIfInBounds_toArray, List.set_cons_zero, List.set_cons_succ, i64_w, i32_w]
           rfl
          refine pure_ (i := 17) (N := some 52) (v := undef) (a' := ?_) (bl_ 34 262143) rfl rfl (any_of HT_.out (by kernel_rfl)) (fun _ _ _ h => h) (Or.inr ⟨by rfl, rfl⟩) ?_ ?_
          rotate_left
          ·
           simp only [Act.put, List.setIfInBounds_toArray, List.set_cons_zero, List.set_cons_succ, i64_w, i32_w]
           rfl
          refine pure_ (i := 18) (N := some 53) (v := undef) (a' := ?_) (bl_ 34 524287) rfl rfl (any_of HT_.out (by kernel_rfl)) (fun _ _ _ h => h) (Or.inr ⟨by rfl, rfl⟩) ?_ ?_
          rotate_left
          ·
           simp only [Act.put, List.setIfInBounds_toArray, List.set_cons_zero, List.set_cons_succ, i64_w, i32_w]
           rfl
          refine pure_ (i := 19) (N := some 54) (v := undef) (a' := ?_) (bl_ 34 1048575) rfl rfl (any_of HT_.out (by kernel_rfl)) (fun _ _ _ h => h) (Or.inr ⟨by rfl, rfl⟩) ?_ ?_
          rotate_left
          ·
           simp only [Act.put, List.setIfInBounds_toArray, List.set_cons_zero, List.set_cons_succ, i64_w, i32_w]
           rfl
          refine pl_ 20 (some 55) 34 2097151 HT_.out ?_
          refine pl_ 21 (some 56) 34 4194303 HT_.out ?_
          refine pure_ (i := 22) (N := some 57) (v := undef) (a' := ?_) (bl_ 34 8388607) rfl rfl (any_of HT_.out (by kernel_rfl)) (fun _ _ _ h => h) (Or.inr ⟨by rfl, rfl⟩) ?_ ?_
          rotate_left
          ·
           simp only [Act.put, List.setIfInBounds_toArray, List.set_cons_zero, List.set_cons_succ, i64_w, i32_w]
           rfl
          refine pure_ (i := 23) (N := some 58) (v := undef) (a' := ?_) (bl_ 34 16777215) rfl rfl (any_of HT_.out (by kernel_rfl)) (fun _ _ _ h => h) (Or.inr ⟨by rfl, rfl⟩) ?_ ?_
          rotate_left
          ·
           simp only [Act.put, List.setIfInBounds_toArray, List.set_cons_zero, List.set_cons_succ, i64_w, i32_w]
           rfl
          refine pure_ (i := 24) (N := some 59) (v := undef) (a' := ?_) (bl_ 34 33554431) rfl rfl (any_of HT_.out (by kernel_rfl)) (fun _ _ _ h => h) (Or.inr ⟨by rfl, rfl⟩) ?_ ?_
          rotate_left
          ·
           simp only [Act.put, List.setIfInBounds_toArray, List.set_cons_zero, List.set_cons_succ, i64_w, i32_w]
           rfl
          refine pure_ (i := 25) (N := some 60) (v := undef) (a' := ?_) (bl_ 34 67108863) rfl rfl (any_of HT_.out (by kernel_rfl)) (fun _ _ _ h => h) (Or.inr ⟨by rfl, rfl⟩) ?_ ?_
          rotate_left
          ·
           simp only [Act.put, List.setIfInBounds_toArray, List.set_cons_zero, List.set_cons_succ, i64_w, i32_w]
           rfl
          refine pure_ (i := 26) (N := some 61) (v := undef) (a' := ?_) (bl_ 34 134217727) rfl rfl (any_of HT_.out (by kernel_rfl)) (fun _ _ _ h => h) (Or.inr ⟨by rfl, rfl⟩) ?_ ?_
          rotate_left
          ·
           simp only [Act.put, List.setIfInBounds_toArray, List.set_cons_zero, List.set_cons_succ, i64_w, i32_w]
           rfl
          refine pure_ (i := 27) (N := some 62) (v := undef) (a' := ?_) (bl_ 34 268435455) rfl rfl (any_of HT_.out (by kernel_rfl)) (fun _ _ _ h => h) (Or.inr ⟨by rfl, rfl⟩) ?_ ?_
          rotate_left
          ·
           simp only [Act.put, List.setIfInBounds_toArray, List.set_cons_zero, List.set_cons_succ, i64_w, i32_w]
           rfl
          refine pure_ (i := 28) (N := some 63) (v := undef) (a' := ?_) (bl_ 34 536870911) rfl rfl (any_of HT_.out (by kernel_rfl)) (fun _ _ _ h => h) (Or.inr ⟨by rfl, rfl⟩) ?_ ?_
          rotate_left
          ·
           simp only [Act.put, List.setIfInBounds_toArray, List.set_cons_zero, List.set_cons_succ, i64_w, i32_w]
           rfl
          refine pure_ (i := 29) (N := some 64) (v := undef) (a' := ?_) (bl_ 34 1073741823) rfl rfl (any_of HT_.out (by kernel_rfl)) (fun _ _ _ h => h) (Or.inr ⟨by rfl, rfl⟩) ?_ ?_
          rotate_left
          ·
           simp only [Act.put, List.setIfInBounds_toArray, List.set_cons_zero, List.set_cons_succ, i64_w, i32_w]
           rfl
          refine pure_ (i := 30) (N := some 65) (v := undef) (a' := ?_) (bl_ 34 2147483647) rfl rfl (any_of HT_.out (by kernel_rfl)) (fun _ _ _ h => h) (Or.inr ⟨by rfl, rfl⟩) ?_ ?_
          rotate_left
          ·
           simp only [Act.put, List.setIfInBounds_toArray, List.set_cons_zero, List.set_cons_succ, i64_w, i32_w]
           rfl
          refine pure_ (i := 31) (N := some 66) (v := undef) (a' := ?_) (bl_ 34 4294967295) rfl rfl (any_of HT_.out (by kernel_rfl)) (fun _ _ _ h => h) (Or.inr ⟨by rfl, rfl⟩) ?_ ?_
          rotate_left
          ·
           simp only [Act.put, List.setIfInBounds_toArray, List.set_cons_zero, List.set_cons_succ, i64_w, i32_w]
           rfl
          refine pure_ (i := 32) (N := some 67) (v := undef) (a' := ?_) (bl_ 34 8589934591) rfl rfl (any_of HT_.out (by kernel_rfl)) (fun _ _ _ h => h) (Or.inr ⟨by rfl, rfl⟩) ?_ ?_
          rotate_left
          ·
           simp only [Act.put, List.setIfInBounds_toArray, List.set_cons_zero, List.set_cons_succ, i64_w, i32_w]
           rfl
          refine pl_ 33 (some 68) 34 17179869183 HT_.out ?_
          refine done_ (done_of HT_.out (by kernel_rfl)) ?_
          try go_wp2
          go_meet
          case rel => exact ⟨_, (true), (by first | rfl | (simp; done) | (simp [*]; done)), H', ⟨by have := HJ3.out; have := HK2.out; first | omega | exact Nat.le_refl _⟩, ⟨bu_ BK304.out⟩, ⟨be_ HB.out⟩⟩
        case rest =>
         clear HC12
         (try clear c1); (try clear c2); (try clear p2); (try clear p6); (try clear c16); (try clear c18); (try clear c24)
         obtain ⟨kq, x68_11, rfl, HA, HJ11, BK304, HB⟩ := hcut
         cases kq with
         | zero => exact absurd HA.out (by simp [spec_PlanOk.j2])
         | succ kj11 =>
          have H := HA.out
          clear HA
          simp only [spec_PlanOk.j2] at H
          by_cases c31 : x68_11 = true
          ·
           subst c31
           have H1 : (some false) = some r := by rw [if_pos rfl] at H; exact H
           clear H
           have H := H1
           clear H1
           obtain rfl := Option.some.inj H
           go_wp2
           go_ret
           exact ⟨by first | rfl | (simp [errW_none, errW_some] <;> rfl) | (simp [*, errW_none, errW_some] <;> rfl), be_ HB.out⟩
          ·
           replace c31 := Bool.eq_false_iff.mpr c31
           subst c31
           have H1 : (spec_PlanOk.l1 kj11 l0 a1 l2 x7_2 0 ((rd_T49 l2 x7_2).f0) ((rd_T49 l2 x7_2).f1) ((rd_T49 l2 x7_2).f2) ((rd_T49 l2 x7_2).f3)) = some r := by rw [if_neg (show ¬ (false = true) by decide)] at H; exact H
           clear H
           have H := H1
           clear H1
           have H' := Aside0.mk H
           clear H
           go_wp2
           go_loopg [9] kj11 (fun kq v9 w' => ∃ (x9_4 : Int), v9 = .int .i64 x9_4 ∧ Aside0 (spec_PlanOk.l1 kq l0 a1 l2 x7_2 x9_4 ((rd_T49 l2 x7_2).f0) ((rd_T49 l2 x7_2).f1) ((rd_T49 l2 x7_2).f2) ((rd_T49 l2 x7_2).f3) = some r) ∧ Aside0 (kq ≤ kj11) ∧ Aside0 (w'.heap[gb304]? = some (.cells #[.int .i64 ((rd_T49 l2 x7_2).f0), .int .i64 ((rd_T49 l2 x7_2).f1), .int .i64 ((rd_T49 l2 x7_2).f2), .int .i64 ((rd_T49 l2 x7_2).f3)] 49 (0, 0))) ∧ Aside0 (Below w.heap.size w w'))
           case atStart => exact ⟨(0), (by first | rfl | (simp; done) | (simp [*]; done)), H', ⟨Nat.le_refl _⟩, ⟨bu_ BK304.out⟩, ⟨be_ HB.out⟩⟩
           case round =>
            clear H'
            (try clear c1); (try clear c2); (try clear p2); (try clear c3); (try clear p6); (try clear c16); (try clear c18); (try clear c24); (try clear c31); (try clear p2); (try clear p6)
            obtain ⟨x9_4, rfl, HA, HK4, BK304, HB⟩ := hrel
            cases gk with
            | zero => exact absurd HA.out (by simp [spec_PlanOk.l1])
            | succ k4 =>
             have H := HA.out
             clear HA
             simp only [spec_PlanOk.l1] at H
             by_cases c32 : x9_4 < x7_2
             ·
              rw [if_pos c32] at H
              have c32b0 : decide (x9_4 < x7_2) = true := decide_eq_true c32
              clear c32
              have HC33 := Aside0.mk H
              clear H
              go_upto_region 12 with (fail)
              go_cut [111] (fun v111 wc => ∃ (kq : Nat) (x111_32 : Bool), v111 = .bool x111_32 ∧ Aside0 (spec_PlanOk.j4 kq l0 a1 l2 x7_2 x9_4 x111_32 ((rd_T49 l2 x7_2).f0) ((rd_T49 l2 x7_2).f1) ((rd_T49 l2 x7_2).f2) ((rd_T49 l2 x7_2).f3) = some r) ∧ Aside0 (kq ≤ k4) ∧ Aside0 (wc.heap[gb304]? = some (.cells #[.int .i64 ((rd_T49 l2 x7_2).f0), .int .i64 ((rd_T49 l2 x7_2).f1), .int .i64 ((rd_T49 l2 x7_2).f2), .int .i64 ((rd_T49 l2 x7_2).f3)] 49 (0, 0))) ∧ Aside0 (Below w.heap.size w wc))
              case first =>
               have H := HC33.out
               clear HC33
               by_cases c34 : 0 ≤ x9_4
               ·
                rw [if_pos c34] at H
                have c34b0 : decide (0 ≤ x9_4) = true := decide_eq_true c34
                clear c34
                (first | rw [c34b0] | (simp only [i64_w, i32_w]; rw [c34b0]) | skip)
                by_cases c35 : x9_4 < (l2.length : Int)
                ·
                 rw [if_pos c35] at H
                 have c35b0 : decide (x9_4 < (l2.length : Int)) = true := decide_eq_true c35
                 clear c35
                 by_cases c36 : ((rd_T49 l2 x9_4).f0) = ((rd_T49 l2 x7_2).f0)
                 ·
                  rw [if_pos c36] at H
                  have c36b0 : (((rd_T49 l2 x9_4).f0) == ((rd_T49 l2 x7_2).f0)) = true := beq_iff_eq.mpr c36
                  have c36b1 : (((rd_T49 l2 x9_4).f0) != ((rd_T49 l2 x7_2).f0)) = false := bne_eq_false_iff_eq.mpr c36
                  clear c36
                  have H' := Aside0.mk H
                  clear H
                  try go_wp2
                  have n0_ := Aside0.mk (blk_drew BK304.out)
                  have n1_ := Aside0.mk (below_drew1 HB.out)
                  clear BK304
                  clear HB
                  have BK304 := n0_
                  have HB := n1_
                  clear n0_ n1_
                  have p309 : 0 ≤ (x9_4 : Int) := of_decide_eq_true (by first | (with_reducible assumption) | assumption)
                  have q309 : x9_4 < (l2.length : Int) := of_decide_eq_true (by first | (with_reducible assumption) | assumption)
                  obtain ⟨ad309, e309, hx309_0, hx309_1, hx309_2, hx309_3⟩ := at_T49 HR2.out x9_4 p309 q309
                  have hw309_3 := hx309_3
                  have hw309_2 := hx309_2
                  have hw309_1 := hx309_1
                  have hw309_0 := hx309_0
                  obtain rfl : ad303 = ad309 := (by injection e309)
                  replace hx309_0 := cw_ HB.out hx309_0
                  replace hx309_1 := cw_ HB.out hx309_1
                  replace hx309_2 := cw_ HB.out hx309_2
                  replace hx309_3 := cw_ HB.out hx309_3
                  replace p309 := eq_true p309
                  replace q309 := eq_true q309
                  refine start_ (n := 38) (S := fun w' => w'.cell? ⟨gb304, 0, none⟩ = some (.int .i64 ((rd_T49 l2 x7_2).f0)) ∧ w'.cell? ⟨gb304, 1, none⟩ = some (.int .i64 ((rd_T49 l2 x7_2).f1)) ∧ w'.cell? ⟨gb304, 2, none⟩ = some (.int .i64 ((rd_T49 l2 x7_2).f2)) ∧ w'.cell? ⟨gb304, 3, none⟩ = some (.int .i64 ((rd_T49 l2 x7_2).f3)) ∧ w'.cell? (ad303.add ((x9_4).toNat * 4)) = some (.int .i64 ((rd_T49 l2 x9_4).f0)) ∧ w'.cell? ⟨(ad303.add ((x9_4).toNat * 4)).block, (ad303.add ((x9_4).toNat * 4)).off + 1, none⟩ = some (.int .i64 ((rd_T49 l2 x9_4).f1)) ∧ w'.cell? ⟨(ad303.add ((x9_4).toNat * 4)).block, (ad303.add ((x9_4).toNat * 4)).off + 2, none⟩ = some (.int .i64 ((rd_T49 l2 x9_4).f2)) ∧ w'.cell? ⟨(ad303.add ((x9_4).toNat * 4)).block, (ad303.add ((x9_4).toNat * 4)).off + 3, none⟩ = some (.int .i64 ((rd_T49 l2 x9_4).f3))) (ds := []) #[false, false, false, false, false, false, false, false, false, false, false, false, false, false, false, false, false, false, false, false, false, false, false, false, false, false, false, false, false, false, false, false, false, false, false, false, false, false] (by kernel_rfl) rfl rfl ⟨(blk_cell BK304.out 0).trans rfl, (blk_cell BK304.out 1).trans rfl, (blk_cell BK304.out 2).trans rfl, (blk_cell BK304.out 3).trans rfl, (cw_ HB.out hw309_0), (cw_ HB.out hw309_1), (cw_ HB.out hw309_2), (cw_ HB.out hw309_3)⟩ (fun hHeld => ?_); refine with_tabW spec_PlanOk.tab12 spec_PlanOk.bits12 (fun HT_ HW_ => ?_)
                  generalize wr.drew = w37 at BK304 HB hx309_0 hx309_1 hx309_2 hx309_3 hHeld ⊢
                  refine pl_ 0 (some 74) 38 1 HT_.out ?_
                  refine pl_ 1 (some 75) 38 3 HT_.out ?_
                  refine pl_ 2 (some 76) 38 7 HT_.out ?_
                  refine pl_ 3 (some 77) 38 15 HT_.out ?_
                  refine pl_ 5 (some 79) 38 47 HT_.out ?_
                  refine tk_ 4 (some 78) 38 63 HT_.out HW_.out hHeld (hy := by rintro w' ⟨s0, s1, s2, s3, s4, s5, s6, s7⟩; go_simp; with_reducible rfl) (h := ?_)
                  refine tk_ 6 (some 80) 38 127 HT_.out HW_.out hHeld (hy := by rintro w' ⟨s0, s1, s2, s3, s4, s5, s6, s7⟩; go_simp; with_reducible rfl) (h := ?_)
                  refine pl_ 7 (some 81) 38 255 HT_.out ?_
                  refine pl_ 8 (some 82) 38 511 HT_.out ?_
                  refine pure_ (i := 9) (N := some 83) (v := undef) (a' := ?_) (bl_ 38 1023) rfl rfl (any_of HT_.out (by kernel_rfl)) (fun _ _ _ h => h) (Or.inr ⟨by rfl, rfl⟩) ?_ ?_
                  rotate_left
                  ·
                   simp only [Act.put, List.setIfInBounds_toArray, List.set_cons_zero, List.set_cons_succ, i64_w, i32_w]
                   rfl
                  refine pure_ (i := 10) (N := some 84) (v := undef) (a' := ?_) (bl_ 38 2047) rfl rfl (any_of HT_.out (by kernel_rfl)) (fun _ _ _ h => h) (Or.inr ⟨by rfl, rfl⟩) ?_ ?_
                  rotate_left
                  ·
                   simp only [Act.put, List.setIfInBounds_toArray, List.set_cons_zero, List.set_cons_succ, i64_w, i32_w]
                   rfl
                  refine pure_ (i := 11) (N := some 85) (v := undef) (a' := ?_) (bl_ 38 4095) rfl rfl (any_of HT_.out (by kernel_rfl)) (fun _ _ _ h => h) (Or.inr ⟨by rfl, rfl⟩) ?_ ?_
                  rotate_left
                  ·
                   simp only [Act.put, List.setIfInBounds_toArray, List.set_cons_zero, List.set_cons_succ, i64_w, i32_w]
                   rfl
                  refine pure_ (i := 12) (N := some 86) (v := undef) (a' := ?_) (bl_ 38 8191) rfl rfl (any_of HT_.out (by kernel_rfl)) (fun _ _ _ h => h) (Or.inr ⟨by rfl, rfl⟩) ?_ ?_
                  rotate_left
                  ·
                   simp only [Act.put, List.setIfInBounds_toArray, List.set_cons_zero, List.set_cons_succ, i64_w, i32_w]
                   rfl
                  refine pure_ (i := 13) (N := some 87) (v := undef) (a' := ?_) (bl_ 38 16383) rfl rfl (any_of HT_.out (by kernel_rfl)) (fun _ _ _ h => h) (Or.inr ⟨by rfl, rfl⟩) ?_ ?_
                  rotate_left
                  ·
                   simp only [Act.put, List.setIfInBounds_toArray, List.set_cons_zero, List.set_cons_succ, i64_w, i32_w]
                   rfl
                  refine pure_ (i := 14) (N := some 88) (v := undef) (a' := ?_) (bl_ 38 32767) rfl rfl (any_of HT_.out (by kernel_rfl)) (fun _ _ _ h => h) (Or.inr ⟨by rfl, rfl⟩) ?_ ?_
                  rotate_left
                  ·
                   simp only [Act.put, List.setIfInBounds_toArray, List.set_cons_zero, List.set_cons_succ, i64_w, i32_w]
                   rfl
                  refine pure_ (i := 15) (N := some 89) (v := undef) (a' := ?_) (bl_ 38 65535) rfl rfl (any_of HT_.out (by kernel_rfl)) (fun _ _ _ h => h) (Or.inr ⟨by rfl, rfl⟩) ?_ ?_
                  rotate_left
                  ·
                   simp only [Act.put, List.setIfInBounds_toArray, List.set_cons_zero, List.set_cons_succ, i64_w, i32_w]
                   rfl
                  refine pure_ (i := 16) (N := some 90) (v := undef) (a' := ?_) (bl_ 38 131071) rfl rfl (any_of HT_.out (by kernel_rfl)) (fun _ _ _ h => h) (Or.inr ⟨by rfl, rfl⟩) ?_ ?_
                  rotate_left
                  ·
                   simp only [Act.put, List.setIfInBounds_toArray, List.set_cons_zero, List.set_cons_succ, i64_w, i32_w]
                   rfl
                  refine pure_ (i := 17) (N := some 91) (v := undef) (a' := ?_) (bl_ 38 262143) rfl rfl (any_of HT_.out (by kernel_rfl)) (fun _ _ _ h => h) (Or.inr ⟨by rfl, rfl⟩) ?_ ?_
                  rotate_left
                  ·
                   simp only [Act.put, List.setIfInBounds_toArray, List.set_cons_zero, List.set_cons_succ, i64_w, i32_w]
                   rfl
                  refine pure_ (i := 18) (N := some 92) (v := undef) (a' := ?_) (bl_ 38 524287) rfl rfl (any_of HT_.out (by kernel_rfl)) (fun _ _ _ h => h) (Or.inr ⟨by rfl, rfl⟩) ?_ ?_
                  rotate_left
                  ·
                   simp only [Act.put, List.setIfInBounds_toArray, List.set_cons_zero, List.set_cons_succ, i64_w, i32_w]
                   rfl
                  refine pure_ (i := 19) (N := some 93) (v := undef) (a' := ?_) (bl_ 38 1048575) rfl rfl (any_of HT_.out (by kernel_rfl)) (fun _ _ _ h => h) (Or.inr ⟨by rfl, rfl⟩) ?_ ?_
                  rotate_left
                  ·
                   simp only [Act.put, List.setIfInBounds_toArray, List.set_cons_zero, List.set_cons_succ, i64_w, i32_w]
                   rfl
                  refine pure_ (i := 20) (N := some 94) (v := undef) (a' := ?_) (bl_ 38 2097151) rfl rfl (any_of HT_.out (by kernel_rfl)) (fun _ _ _ h => h) (Or.inr ⟨by rfl, rfl⟩) ?_ ?_
                  rotate_left
                  ·
                   simp only [Act.put, List.setIfInBounds_toArray, List.set_cons_zero, List.set_cons_succ, i64_w, i32_w]
                   rfl
                  refine pure_ (i := 21) (N := some 95) (v := undef) (a' := ?_) (bl_ 38 4194303) rfl rfl (any_of HT_.out (by kernel_rfl)) (fun _ _ _ h => h) (Or.inr ⟨by rfl, rfl⟩) ?_ ?_
                  rotate_left
                  ·
                   simp only [Act.put, List.setIfInBounds_toArray, List.set_cons_zero, List.set_cons_succ, i64_w, i32_w]
                   rfl
                  refine pure_ (i := 22) (N := some 96) (v := undef) (a' := ?_) (bl_ 38 8388607) rfl rfl (any_of HT_.out (by kernel_rfl)) (fun _ _ _ h => h) (Or.inr ⟨by rfl, rfl⟩) ?_ ?_
                  rotate_left
                  ·
                   simp only [Act.put, List.setIfInBounds_toArray, List.set_cons_zero, List.set_cons_succ, i64_w, i32_w]
                   rfl
                  refine pure_ (i := 23) (N := some 97) (v := undef) (a' := ?_) (bl_ 38 16777215) rfl rfl (any_of HT_.out (by kernel_rfl)) (fun _ _ _ h => h) (Or.inr ⟨by rfl, rfl⟩) ?_ ?_
                  rotate_left
                  ·
                   simp only [Act.put, List.setIfInBounds_toArray, List.set_cons_zero, List.set_cons_succ, i64_w, i32_w]
                   rfl
                  refine pure_ (i := 24) (N := some 98) (v := undef) (a' := ?_) (bl_ 38 33554431) rfl rfl (any_of HT_.out (by kernel_rfl)) (fun _ _ _ h => h) (Or.inr ⟨by rfl, rfl⟩) ?_ ?_
                  rotate_left
                  ·
                   simp only [Act.put, List.setIfInBounds_toArray, List.set_cons_zero, List.set_cons_succ, i64_w, i32_w]
                   rfl
                  refine pure_ (i := 25) (N := some 99) (v := undef) (a' := ?_) (bl_ 38 67108863) rfl rfl (any_of HT_.out (by kernel_rfl)) (fun _ _ _ h => h) (Or.inr ⟨by rfl, rfl⟩) ?_ ?_
                  rotate_left
                  ·
                   simp only [Act.put, List.setIfInBounds_toArray, List.set_cons_zero, List.set_cons_succ, i64_w, i32_w]
                   rfl
                  refine pure_ (i := 26) (N := some 100) (v := undef) (a' := ?_) (bl_ 38 134217727) rfl rfl (any_of HT_.out (by kernel_rfl)) (fun _ _ _ h => h) (Or.inr ⟨by rfl, rfl⟩) ?_ ?_
                  rotate_left
                  ·
                   simp only [Act.put, List.setIfInBounds_toArray, List.set_cons_zero, List.set_cons_succ, i64_w, i32_w]
                   rfl
                  refine pure_ (i := 27) (N := some 101) (v := undef) (a' := ?_) (bl_ 38 268435455) rfl rfl (any_of HT_.out (by kernel_rfl)) (fun _ _ _ h => h) (Or.inr ⟨by rfl, rfl⟩) ?_ ?_
                  rotate_left
                  ·
                   simp only [Act.put, List.setIfInBounds_toArray, List.set_cons_zero, List.set_cons_succ, i64_w, i32_w]
                   rfl
                  refine pure_ (i := 28) (N := some 102) (v := undef) (a' := ?_) (bl_ 38 536870911) rfl rfl (any_of HT_.out (by kernel_rfl)) (fun _ _ _ h => h) (Or.inr ⟨by rfl, rfl⟩) ?_ ?_
                  rotate_left
                  ·
                   simp only [Act.put, List.setIfInBounds_toArray, List.set_cons_zero, List.set_cons_succ, i64_w, i32_w]
                   rfl
                  refine pure_ (i := 29) (N := some 103) (v := undef) (a' := ?_) (bl_ 38 1073741823) rfl rfl (any_of HT_.out (by kernel_rfl)) (fun _ _ _ h => h) (Or.inr ⟨by rfl, rfl⟩) ?_ ?_
                  rotate_left
                  ·
                   simp only [Act.put, List.setIfInBounds_toArray, List.set_cons_zero, List.set_cons_succ, i64_w, i32_w]
                   rfl
                  refine pure_ (i := 30) (N := some 104) (v := undef) (a' := ?_) (bl_ 38 2147483647) rfl rfl (any_of HT_.out (by kernel_rfl)) (fun _ _ _ h => h) (Or.inr ⟨by rfl, rfl⟩) ?_ ?_
                  rotate_left
                  ·
                   simp only [Act.put, List.setIfInBounds_toArray, List.set_cons_zero, List.set_cons_succ, i64_w, i32_w]
                   rfl
                  refine pure_ (i := 31) (N := some 105) (v := undef) (a' := ?_) (bl_ 38 4294967295) rfl rfl (any_of HT_.out (by kernel_rfl)) (fun _ _ _ h => h) (Or.inr ⟨by rfl, rfl⟩) ?_ ?_
                  rotate_left
                  ·
                   simp only [Act.put, List.setIfInBounds_toArray, List.set_cons_zero, List.set_cons_succ, i64_w, i32_w]
                   rfl
                  refine pure_ (i := 32) (N := some 106) (v := undef) (a' := ?_) (bl_ 38 8589934591) rfl rfl (any_of HT_.out (by kernel_rfl)) (fun _ _ _ h => h) (Or.inr ⟨by rfl, rfl⟩) ?_ ?_
                  rotate_left
                  ·
                   simp only [Act.put, List.setIfInBounds_toArray, List.set_cons_zero, List.set_cons_succ, i64_w, i32_w]
                   rfl
                  refine pure_ (i := 33) (N := some 107) (v := undef) (a' := ?_) (bl_ 38 17179869183) rfl rfl (any_of HT_.out (by kernel_rfl)) (fun _ _ _ h => h) (Or.inr ⟨by rfl, rfl⟩) ?_ ?_
                  rotate_left
                  ·
                   simp only [Act.put, List.setIfInBounds_toArray, List.set_cons_zero, List.set_cons_succ, i64_w, i32_w]
                   rfl
                  refine pure_ (i := 34) (N := some 108) (v := undef) (a' := ?_) (bl_ 38 34359738367) rfl rfl (any_of HT_.out (by kernel_rfl)) (fun _ _ _ h => h) (Or.inr ⟨by rfl, rfl⟩) ?_ ?_
                  rotate_left
                  ·
                   simp only [Act.put, List.setIfInBounds_toArray, List.set_cons_zero, List.set_cons_succ, i64_w, i32_w]
                   rfl
                  refine pure_ (i := 35) (N := some 109) (v := undef) (a' := ?_) (bl_ 38 68719476735) rfl rfl (any_of HT_.out (by kernel_rfl)) (fun _ _ _ h => h) (Or.inr ⟨by rfl, rfl⟩) ?_ ?_
                  rotate_left
                  ·
                   simp only [Act.put, List.setIfInBounds_toArray, List.set_cons_zero, List.set_cons_succ, i64_w, i32_w]
                   rfl
                  refine pure_ (i := 36) (N := some 110) (v := undef) (a' := ?_) (bl_ 38 137438953471) rfl rfl (any_of HT_.out (by kernel_rfl)) (fun _ _ _ h => h) (Or.inr ⟨by rfl, rfl⟩) ?_ ?_
                  rotate_left
                  ·
                   simp only [Act.put, List.setIfInBounds_toArray, List.set_cons_zero, List.set_cons_succ, i64_w, i32_w]
                   rfl
                  refine pl_ 37 (some 111) 38 274877906943 HT_.out ?_
                  refine done_ (done_of HT_.out (by kernel_rfl)) ?_
                  try go_wp2
                  go_meet
                  case rel => exact ⟨_, (true), (by first | rfl | (simp; done) | (simp [*]; done)), H', ⟨by have := HJ3.out; have := HK2.out; have := HJ11.out; have := HK4.out; first | omega | exact Nat.le_refl _⟩, ⟨bu_ BK304.out⟩, ⟨be_ HB.out⟩⟩
                 ·
                  rw [if_neg c36] at H
                  have c36b0 : (((rd_T49 l2 x9_4).f0) == ((rd_T49 l2 x7_2).f0)) = false := beq_eq_false_iff_ne.mpr c36
                  have c36b1 : (((rd_T49 l2 x9_4).f0) != ((rd_T49 l2 x7_2).f0)) = true := bne_iff_ne.mpr c36
                  by_cases c38 : ((rd_T49 l2 x9_4).f1) = ((rd_T49 l2 x7_2).f1)
                  ·
                   rw [if_pos c38] at H
                   have c38b0 : (((rd_T49 l2 x9_4).f1) == ((rd_T49 l2 x7_2).f1)) = true := beq_iff_eq.mpr c38
                   have c38b1 : (((rd_T49 l2 x9_4).f1) != ((rd_T49 l2 x7_2).f1)) = false := bne_eq_false_iff_eq.mpr c38
                   clear c38
                   by_cases c39 : ((rd_T49 l2 x9_4).f2) < ((rd_T49 l2 x7_2).f3)
                   ·
                    rw [if_pos c39] at H
                    have c39b0 : decide (((rd_T49 l2 x9_4).f2) < ((rd_T49 l2 x7_2).f3)) = true := decide_eq_true c39
                    clear c39
                    have H' := Aside0.mk H
                    clear H
                    try go_wp2
                    have n0_ := Aside0.mk (blk_drew BK304.out)
                    have n1_ := Aside0.mk (below_drew1 HB.out)
                    clear BK304
                    clear HB
                    have BK304 := n0_
                    have HB := n1_
                    clear n0_ n1_
                    have p309 : 0 ≤ (x9_4 : Int) := of_decide_eq_true (by first | (with_reducible assumption) | assumption)
                    have q309 : x9_4 < (l2.length : Int) := of_decide_eq_true (by first | (with_reducible assumption) | assumption)
                    obtain ⟨ad309, e309, hx309_0, hx309_1, hx309_2, hx309_3⟩ := at_T49 HR2.out x9_4 p309 q309
                    have hw309_3 := hx309_3
                    have hw309_2 := hx309_2
                    have hw309_1 := hx309_1
                    have hw309_0 := hx309_0
                    obtain rfl : ad303 = ad309 := (by injection e309)
                    replace hx309_0 := cw_ HB.out hx309_0
                    replace hx309_1 := cw_ HB.out hx309_1
                    replace hx309_2 := cw_ HB.out hx309_2
                    replace hx309_3 := cw_ HB.out hx309_3
                    replace p309 := eq_true p309
                    replace q309 := eq_true q309
                    have p310 : 0 ≤ (x9_4 : Int) := of_decide_eq_true (by first | (with_reducible assumption) | assumption)
                    have q310 : x9_4 < (l2.length : Int) := of_decide_eq_true (by first | (with_reducible assumption) | assumption)
                    obtain ⟨ad310, e310, hx310_0, hx310_1, hx310_2, hx310_3⟩ := at_T49 HR2.out x9_4 p310 q310
                    have hw310_3 := hx310_3
                    have hw310_2 := hx310_2
                    have hw310_1 := hx310_1
                    have hw310_0 := hx310_0
                    obtain rfl : ad303 = ad310 := (by injection e310)
                    replace hx310_0 := cw_ HB.out hx310_0
                    replace hx310_1 := cw_ HB.out hx310_1
                    replace hx310_2 := cw_ HB.out hx310_2
                    replace hx310_3 := cw_ HB.out hx310_3
                    replace p310 := eq_true p310
                    replace q310 := eq_true q310
                    have p311 : 0 ≤ (x9_4 : Int) := of_decide_eq_true (by first | (with_reducible assumption) | assumption)
                    have q311 : x9_4 < (l2.length : Int) := of_decide_eq_true (by first | (with_reducible assumption) | assumption)
                    obtain ⟨ad311, e311, hx311_0, hx311_1, hx311_2, hx311_3⟩ := at_T49 HR2.out x9_4 p311 q311
                    have hw311_3 := hx311_3
                    have hw311_2 := hx311_2
                    have hw311_1 := hx311_1
                    have hw311_0 := hx311_0
                    obtain rfl : ad303 = ad311 := (by injection e311)
                    replace hx311_0 := cw_ HB.out hx311_0
                    replace hx311_1 := cw_ HB.out hx311_1
                    replace hx311_2 := cw_ HB.out hx311_2
                    replace hx311_3 := cw_ HB.out hx311_3
                    replace p311 := eq_true p311
                    replace q311 := eq_true q311
                    have p312 : 0 ≤ (x9_4 : Int) := of_decide_eq_true (by first | (with_reducible assumption) | assumption)
                    have q312 : x9_4 < (l2.length : Int) := of_decide_eq_true (by first | (with_reducible assumption) | assumption)
                    obtain ⟨ad312, e312, hx312_0, hx312_1, hx312_2, hx312_3⟩ := at_T49 HR2.out x9_4 p312 q312
                    have hw312_3 := hx312_3
                    have hw312_2 := hx312_2
                    have hw312_1 := hx312_1
                    have hw312_0 := hx312_0
                    obtain rfl : ad303 = ad312 := (by injection e312)
                    replace hx312_0 := cw_ HB.out hx312_0
                    replace hx312_1 := cw_ HB.out hx312_1
                    replace hx312_2 := cw_ HB.out hx312_2
                    replace hx312_3 := cw_ HB.out hx312_3
                    replace p312 := eq_true p312
                    replace q312 := eq_true q312
                    refine start_ (n := 38) (S := fun w' => w'.cell? ⟨gb304, 0, none⟩ = some (.int .i64 ((rd_T49 l2 x7_2).f0)) ∧ w'.cell? ⟨gb304, 1, none⟩ = some (.int .i64 ((rd_T49 l2 x7_2).f1)) ∧ w'.cell? ⟨gb304, 2, none⟩ = some (.int .i64 ((rd_T49 l2 x7_2).f2)) ∧ w'.cell? ⟨gb304, 3, none⟩ = some (.int .i64 ((rd_T49 l2 x7_2).f3)) ∧ w'.cell? (ad303.add ((x9_4).toNat * 4)) = some (.int .i64 ((rd_T49 l2 x9_4).f0)) ∧ w'.cell? ⟨(ad303.add ((x9_4).toNat * 4)).block, (ad303.add ((x9_4).toNat * 4)).off + 1, none⟩ = some (.int .i64 ((rd_T49 l2 x9_4).f1)) ∧ w'.cell? ⟨(ad303.add ((x9_4).toNat * 4)).block, (ad303.add ((x9_4).toNat * 4)).off + 2, none⟩ = some (.int .i64 ((rd_T49 l2 x9_4).f2)) ∧ w'.cell? ⟨(ad303.add ((x9_4).toNat * 4)).block, (ad303.add ((x9_4).toNat * 4)).off + 3, none⟩ = some (.int .i64 ((rd_T49 l2 x9_4).f3)) ∧ w'.cell? (ad303.add ((x9_4).toNat * 4)) = some (.int .i64 ((rd_T49 l2 x9_4).f0)) ∧ w'.cell? ⟨(ad303.add ((x9_4).toNat * 4)).block, (ad303.add ((x9_4).toNat * 4)).off + 1, none⟩ = some (.int .i64 ((rd_T49 l2 x9_4).f1)) ∧ w'.cell? ⟨(ad303.add ((x9_4).toNat * 4)).block, (ad303.add ((x9_4).toNat * 4)).off + 2, none⟩ = some (.int .i64 ((rd_T49 l2 x9_4).f2)) ∧ w'.cell? ⟨(ad303.add ((x9_4).toNat * 4)).block, (ad303.add ((x9_4).toNat * 4)).off + 3, none⟩ = some (.int .i64 ((rd_T49 l2 x9_4).f3)) ∧ w'.cell? (ad303.add ((x9_4).toNat * 4)) = some (.int .i64 ((rd_T49 l2 x9_4).f0)) ∧ w'.cell? ⟨(ad303.add ((x9_4).toNat * 4)).block, (ad303.add ((x9_4).toNat * 4)).off + 1, none⟩ = some (.int .i64 ((rd_T49 l2 x9_4).f1)) ∧ w'.cell? ⟨(ad303.add ((x9_4).toNat * 4)).block, (ad303.add ((x9_4).toNat * 4)).off + 2, none⟩ = some (.int .i64 ((rd_T49 l2 x9_4).f2)) ∧ w'.cell? ⟨(ad303.add ((x9_4).toNat * 4)).block, (ad303.add ((x9_4).toNat * 4)).off + 3, none⟩ = some (.int .i64 ((rd_T49 l2 x9_4).f3)) ∧ w'.cell? (ad303.add ((x9_4).toNat * 4)) = some (.int .i64 ((rd_T49 l2 x9_4).f0)) ∧ w'.cell? ⟨(ad303.add ((x9_4).toNat * 4)).block, (ad303.add ((x9_4).toNat * 4)).off + 1, none⟩ = some (.int .i64 ((rd_T49 l2 x9_4).f1)) ∧ w'.cell? ⟨(ad303.add ((x9_4).toNat * 4)).block, (ad303.add ((x9_4).toNat * 4)).off + 2, none⟩ = some (.int .i64 ((rd_T49 l2 x9_4).f2)) ∧ w'.cell? ⟨(ad303.add ((x9_4).toNat * 4)).block, (ad303.add ((x9_4).toNat * 4)).off + 3, none⟩ = some (.int .i64 ((rd_T49 l2 x9_4).f3))) (ds := []) #[false, false, false, false, false, false, false, false, false, false, false, false, false, false, false, false, false, false, false, false, false, false, false, false, false, false, false, false, false, false, false, false, false, false, false, false, false, false] (by kernel_rfl) rfl rfl ⟨(blk_cell BK304.out 0).trans rfl, (blk_cell BK304.out 1).trans rfl, (blk_cell BK304.out 2).trans rfl, (blk_cell BK304.out 3).trans rfl, (cw_ HB.out hw309_0), (cw_ HB.out hw309_1), (cw_ HB.out hw309_2), (cw_ HB.out hw309_3), (cw_ HB.out hw310_0), (cw_ HB.out hw310_1), (cw_ HB.out hw310_2), (cw_ HB.out hw310_3), (cw_ HB.out hw311_0), (cw_ HB.out hw311_1), (cw_ HB.out hw311_2), (cw_ HB.out hw311_3), (cw_ HB.out hw312_0), (cw_ HB.out hw312_1), (cw_ HB.out hw312_2), (cw_ HB.out hw312_3)⟩ (fun hHeld => ?_); refine with_tabW spec_PlanOk.tab12 spec_PlanOk.bits12 (fun HT_ HW_ => ?_)
                    generalize wr.drew = w40 at BK304 HB hx309_0 hx309_1 hx309_2 hx309_3 hx310_0 hx310_1 hx310_2 hx310_3 hx311_0 hx311_1 hx311_2 hx311_3 hx312_0 hx312_1 hx312_2 hx312_3 hHeld ⊢
                    refine pl_ 0 (some 74) 38 1 HT_.out ?_
                    refine pl_ 1 (some 75) 38 3 HT_.out ?_
                    refine pl_ 2 (some 76) 38 7 HT_.out ?_
                    refine pl_ 3 (some 77) 38 15 HT_.out ?_
                    refine pl_ 5 (some 79) 38 47 HT_.out ?_
                    refine tk_ 4 (some 78) 38 63 HT_.out HW_.out hHeld (hy := by rintro w' ⟨s0, s1, s2, s3, s4, s5, s6, s7, s8, s9, s10, s11, s12, s13, s14, s15, s16, s17, s18, s19⟩; go_simp; with_reducible rfl) (h := ?_)
                    refine tk_ 6 (some 80) 38 127 HT_.out HW_.out hHeld (hy := by rintro w' ⟨s0, s1, s2, s3, s4, s5, s6, s7, s8, s9, s10, s11, s12, s13, s14, s15, s16, s17, s18, s19⟩; go_simp; with_reducible rfl) (h := ?_)
                    refine pl_ 7 (some 81) 38 255 HT_.out ?_
                    refine pl_ 8 (some 82) 38 511 HT_.out ?_
                    refine pl_ 9 (some 83) 38 1023 HT_.out ?_
                    refine pl_ 10 (some 84) 38 2047 HT_.out ?_
                    refine pl_ 11 (some 85) 38 4095 HT_.out ?_
                    refine pl_ 12 (some 86) 38 8191 HT_.out ?_
                    refine pl_ 14 (some 88) 38 24575 HT_.out ?_
                    refine tk_ 13 (some 87) 38 32767 HT_.out HW_.out hHeld (hy := by rintro w' ⟨s0, s1, s2, s3, s4, s5, s6, s7, s8, s9, s10, s11, s12, s13, s14, s15, s16, s17, s18, s19⟩; go_simp; with_reducible rfl) (h := ?_)
                    refine tk_ 15 (some 89) 38 65535 HT_.out HW_.out hHeld (hy := by rintro w' ⟨s0, s1, s2, s3, s4, s5, s6, s7, s8, s9, s10, s11, s12, s13, s14, s15, s16, s17, s18, s19⟩; go_simp; with_reducible rfl) (h := ?_)
                    refine pl_ 16 (some 90) 38 131071 HT_.out ?_
                    refine pl_ 17 (some 91) 38 262143 HT_.out ?_
                    refine pl_ 18 (some 92) 38 524287 HT_.out ?_
                    refine pl_ 19 (some 93) 38 1048575 HT_.out ?_
                    refine pl_ 20 (some 94) 38 2097151 HT_.out ?_
                    refine pl_ 21 (some 95) 38 4194303 HT_.out ?_
                    refine pl_ 23 (some 97) 38 12582911 HT_.out ?_
                    refine tk_ 22 (some 96) 38 16777215 HT_.out HW_.out hHeld (hy := by rintro w' ⟨s0, s1, s2, s3, s4, s5, s6, s7, s8, s9, s10, s11, s12, s13, s14, s15, s16, s17, s18, s19⟩; go_simp; with_reducible rfl) (h := ?_)
                    refine tk_ 24 (some 98) 38 33554431 HT_.out HW_.out hHeld (hy := by rintro w' ⟨s0, s1, s2, s3, s4, s5, s6, s7, s8, s9, s10, s11, s12, s13, s14, s15, s16, s17, s18, s19⟩; go_simp; with_reducible rfl) (h := ?_)
                    refine pl_ 25 (some 99) 38 67108863 HT_.out ?_
                    refine pl_ 26 (some 100) 38 134217727 HT_.out ?_
                    refine pl_ 27 (some 101) 38 268435455 HT_.out ?_
                    refine pl_ 28 (some 102) 38 536870911 HT_.out ?_
                    refine pl_ 30 (some 104) 38 1610612735 HT_.out ?_
                    refine pl_ 31 (some 105) 38 3758096383 HT_.out ?_
                    refine pl_ 32 (some 106) 38 8053063679 HT_.out ?_
                    refine pl_ 33 (some 107) 38 16642998271 HT_.out ?_
                    refine tk_ 29 (some 103) 38 17179869183 HT_.out HW_.out hHeld (hy := by rintro w' ⟨s0, s1, s2, s3, s4, s5, s6, s7, s8, s9, s10, s11, s12, s13, s14, s15, s16, s17, s18, s19⟩; go_simp; with_reducible rfl) (h := ?_)
                    refine tk_ 34 (some 108) 38 34359738367 HT_.out HW_.out hHeld (hy := by rintro w' ⟨s0, s1, s2, s3, s4, s5, s6, s7, s8, s9, s10, s11, s12, s13, s14, s15, s16, s17, s18, s19⟩; go_simp; with_reducible rfl) (h := ?_)
                    refine pl_ 35 (some 109) 38 68719476735 HT_.out ?_
                    refine pl_ 36 (some 110) 38 137438953471 HT_.out ?_
                    refine pl_ 37 (some 111) 38 274877906943 HT_.out ?_
                    refine done_ (done_of HT_.out (by kernel_rfl)) ?_
                    try go_wp2
                    go_meet
                    case rel => exact ⟨_, (decide (((rd_T49 l2 x7_2).f2) < ((rd_T49 l2 x9_4).f3))), (by first | rfl | (simp; done) | (simp [*]; done)), H', ⟨by have := HJ3.out; have := HK2.out; have := HJ11.out; have := HK4.out; first | omega | exact Nat.le_refl _⟩, ⟨bu_ BK304.out⟩, ⟨be_ HB.out⟩⟩
                   ·
                    rw [if_neg c39] at H
                    have c39b0 : decide (((rd_T49 l2 x9_4).f2) < ((rd_T49 l2 x7_2).f3)) = false := decide_eq_false c39
                    clear c39
                    have H' := Aside0.mk H
                    clear H
                    try go_wp2
                    have n0_ := Aside0.mk (blk_drew BK304.out)
                    have n1_ := Aside0.mk (below_drew1 HB.out)
                    clear BK304
                    clear HB
                    have BK304 := n0_
                    have HB := n1_
                    clear n0_ n1_
                    have p309 : 0 ≤ (x9_4 : Int) := of_decide_eq_true (by first | (with_reducible assumption) | assumption)
                    have q309 : x9_4 < (l2.length : Int) := of_decide_eq_true (by first | (with_reducible assumption) | assumption)
                    obtain ⟨ad309, e309, hx309_0, hx309_1, hx309_2, hx309_3⟩ := at_T49 HR2.out x9_4 p309 q309
                    have hw309_3 := hx309_3
                    have hw309_2 := hx309_2
                    have hw309_1 := hx309_1
                    have hw309_0 := hx309_0
                    obtain rfl : ad303 = ad309 := (by injection e309)
                    replace hx309_0 := cw_ HB.out hx309_0
                    replace hx309_1 := cw_ HB.out hx309_1
                    replace hx309_2 := cw_ HB.out hx309_2
                    replace hx309_3 := cw_ HB.out hx309_3
                    replace p309 := eq_true p309
                    replace q309 := eq_true q309
                    have p310 : 0 ≤ (x9_4 : Int) := of_decide_eq_true (by first | (with_reducible assumption) | assumption)
                    have q310 : x9_4 < (l2.length : Int) := of_decide_eq_true (by first | (with_reducible assumption) | assumption)
                    obtain ⟨ad310, e310, hx310_0, hx310_1, hx310_2, hx310_3⟩ := at_T49 HR2.out x9_4 p310 q310
                    have hw310_3 := hx310_3
                    have hw310_2 := hx310_2
                    have hw310_1 := hx310_1
                    have hw310_0 := hx310_0
                    obtain rfl : ad303 = ad310 := (by injection e310)
                    replace hx310_0 := cw_ HB.out hx310_0
                    replace hx310_1 := cw_ HB.out hx310_1
                    replace hx310_2 := cw_ HB.out hx310_2
                    replace hx310_3 := cw_ HB.out hx310_3
                    replace p310 := eq_true p310
                    replace q310 := eq_true q310
                    have p311 : 0 ≤ (x9_4 : Int) := of_decide_eq_true (by first | (with_reducible assumption) | assumption)
                    have q311 : x9_4 < (l2.length : Int) := of_decide_eq_true (by first | (with_reducible assumption) | assumption)
                    obtain ⟨ad311, e311, hx311_0, hx311_1, hx311_2, hx311_3⟩ := at_T49 HR2.out x9_4 p311 q311
                    have hw311_3 := hx311_3
                    have hw311_2 := hx311_2
                    have hw311_1 := hx311_1
                    have hw311_0 := hx311_0
                    obtain rfl : ad303 = ad311 := (by injection e311)
                    replace hx311_0 := cw_ HB.out hx311_0
                    replace hx311_1 := cw_ HB.out hx311_1
                    replace hx311_2 := cw_ HB.out hx311_2
                    replace hx311_3 := cw_ HB.out hx311_3
                    replace p311 := eq_true p311
                    replace q311 := eq_true q311
                    refine start_ (n := 38) (S := fun w' => w'.cell? ⟨gb304, 0, none⟩ = some (.int .i64 ((rd_T49 l2 x7_2).f0)) ∧ w'.cell? ⟨gb304, 1, none⟩ = some (.int .i64 ((rd_T49 l2 x7_2).f1)) ∧ w'.cell? ⟨gb304, 2, none⟩ = some (.int .i64 ((rd_T49 l2 x7_2).f2)) ∧ w'.cell? ⟨gb304, 3, none⟩ = some (.int .i64 ((rd_T49 l2 x7_2).f3)) ∧ w'.cell? (ad303.add ((x9_4).toNat * 4)) = some (.int .i64 ((rd_T49 l2 x9_4).f0)) ∧ w'.cell? ⟨(ad303.add ((x9_4).toNat * 4)).block, (ad303.add ((x9_4).toNat * 4)).off + 1, none⟩ = some (.int .i64 ((rd_T49 l2 x9_4).f1)) ∧ w'.cell? ⟨(ad303.add ((x9_4).toNat * 4)).block, (ad303.add ((x9_4).toNat * 4)).off + 2, none⟩ = some (.int .i64 ((rd_T49 l2 x9_4).f2)) ∧ w'.cell? ⟨(ad303.add ((x9_4).toNat * 4)).block, (ad303.add ((x9_4).toNat * 4)).off + 3, none⟩ = some (.int .i64 ((rd_T49 l2 x9_4).f3)) ∧ w'.cell? (ad303.add ((x9_4).toNat * 4)) = some (.int .i64 ((rd_T49 l2 x9_4).f0)) ∧ w'.cell? ⟨(ad303.add ((x9_4).toNat * 4)).block, (ad303.add ((x9_4).toNat * 4)).off + 1, none⟩ = some (.int .i64 ((rd_T49 l2 x9_4).f1)) ∧ w'.cell? ⟨(ad303.add ((x9_4).toNat * 4)).block, (ad303.add ((x9_4).toNat * 4)).off + 2, none⟩ = some (.int .i64 ((rd_T49 l2 x9_4).f2)) ∧ w'.cell? ⟨(ad303.add ((x9_4).toNat * 4)).block, (ad303.add ((x9_4).toNat * 4)).off + 3, none⟩ = some (.int .i64 ((rd_T49 l2 x9_4).f3)) ∧ w'.cell? (ad303.add ((x9_4).toNat * 4)) = some (.int .i64 ((rd_T49 l2 x9_4).f0)) ∧ w'.cell? ⟨(ad303.add ((x9_4).toNat * 4)).block, (ad303.add ((x9_4).toNat * 4)).off + 1, none⟩ = some (.int .i64 ((rd_T49 l2 x9_4).f1)) ∧ w'.cell? ⟨(ad303.add ((x9_4).toNat * 4)).block, (ad303.add ((x9_4).toNat * 4)).off + 2, none⟩ = some (.int .i64 ((rd_T49 l2 x9_4).f2)) ∧ w'.cell? ⟨(ad303.add ((x9_4).toNat * 4)).block, (ad303.add ((x9_4).toNat * 4)).off + 3, none⟩ = some (.int .i64 ((rd_T49 l2 x9_4).f3))) (ds := []) #[false, false, false, false, false, false, false, false, false, false, false, false, false, false, false, false, false, false, false, false, false, false, false, false, false, false, false, false, false, false, false, false, false, false, false, false, false, false] (by kernel_rfl) rfl rfl ⟨(blk_cell BK304.out 0).trans rfl, (blk_cell BK304.out 1).trans rfl, (blk_cell BK304.out 2).trans rfl, (blk_cell BK304.out 3).trans rfl, (cw_ HB.out hw309_0), (cw_ HB.out hw309_1), (cw_ HB.out hw309_2), (cw_ HB.out hw309_3), (cw_ HB.out hw310_0), (cw_ HB.out hw310_1), (cw_ HB.out hw310_2), (cw_ HB.out hw310_3), (cw_ HB.out hw311_0), (cw_ HB.out hw311_1), (cw_ HB.out hw311_2), (cw_ HB.out hw311_3)⟩ (fun hHeld => ?_); refine with_tabW spec_PlanOk.tab12 spec_PlanOk.bits12 (fun HT_ HW_ => ?_)
                    generalize wr.drew = w41 at BK304 HB hx309_0 hx309_1 hx309_2 hx309_3 hx310_0 hx310_1 hx310_2 hx310_3 hx311_0 hx311_1 hx311_2 hx311_3 hHeld ⊢
                    refine pl_ 0 (some 74) 38 1 HT_.out ?_
                    refine pl_ 1 (some 75) 38 3 HT_.out ?_
                    refine pl_ 2 (some 76) 38 7 HT_.out ?_
                    refine pl_ 3 (some 77) 38 15 HT_.out ?_
                    refine pl_ 5 (some 79) 38 47 HT_.out ?_
                    refine tk_ 4 (some 78) 38 63 HT_.out HW_.out hHeld (hy := by rintro w' ⟨s0, s1, s2, s3, s4, s5, s6, s7, s8, s9, s10, s11, s12, s13, s14, s15⟩; go_simp; with_reducible rfl) (h := ?_)
                    refine tk_ 6 (some 80) 38 127 HT_.out HW_.out hHeld (hy := by rintro w' ⟨s0, s1, s2, s3, s4, s5, s6, s7, s8, s9, s10, s11, s12, s13, s14, s15⟩; go_simp; with_reducible rfl) (h := ?_)
                    refine pl_ 7 (some 81) 38 255 HT_.out ?_
                    refine pl_ 8 (some 82) 38 511 HT_.out ?_
                    refine pl_ 9 (some 83) 38 1023 HT_.out ?_
                    refine pl_ 10 (some 84) 38 2047 HT_.out ?_
                    refine pl_ 11 (some 85) 38 4095 HT_.out ?_
                    refine pl_ 12 (some 86) 38 8191 HT_.out ?_
                    refine pl_ 14 (some 88) 38 24575 HT_.out ?_
                    refine tk_ 13 (some 87) 38 32767 HT_.out HW_.out hHeld (hy := by rintro w' ⟨s0, s1, s2, s3, s4, s5, s6, s7, s8, s9, s10, s11, s12, s13, s14, s15⟩; go_simp; with_reducible rfl) (h := ?_)
                    refine tk_ 15 (some 89) 38 65535 HT_.out HW_.out hHeld (hy := by rintro w' ⟨s0, s1, s2, s3, s4, s5, s6, s7, s8, s9, s10, s11, s12, s13, s14, s15⟩; go_simp; with_reducible rfl) (h := ?_)
                    refine pl_ 16 (some 90) 38 131071 HT_.out ?_
                    refine pl_ 17 (some 91) 38 262143 HT_.out ?_
                    refine pl_ 18 (some 92) 38 524287 HT_.out ?_
                    refine pl_ 19 (some 93) 38 1048575 HT_.out ?_
                    refine pl_ 20 (some 94) 38 2097151 HT_.out ?_
                    refine pl_ 21 (some 95) 38 4194303 HT_.out ?_
                    refine pl_ 23 (some 97) 38 12582911 HT_.out ?_
                    refine tk_ 22 (some 96) 38 16777215 HT_.out HW_.out hHeld (hy := by rintro w' ⟨s0, s1, s2, s3, s4, s5, s6, s7, s8, s9, s10, s11, s12, s13, s14, s15⟩; go_simp; with_reducible rfl) (h := ?_)
                    refine tk_ 24 (some 98) 38 33554431 HT_.out HW_.out hHeld (hy := by rintro w' ⟨s0, s1, s2, s3, s4, s5, s6, s7, s8, s9, s10, s11, s12, s13, s14, s15⟩; go_simp; with_reducible rfl) (h := ?_)
                    refine pl_ 25 (some 99) 38 67108863 HT_.out ?_
                    refine pl_ 26 (some 100) 38 134217727 HT_.out ?_
                    refine pl_ 27 (some 101) 38 268435455 HT_.out ?_
                    refine pure_ (i := 28) (N := some 102) (v := undef) (a' := ?_) (bl_ 38 536870911) rfl rfl (any_of HT_.out (by kernel_rfl)) (fun _ _ _ h => h) (Or.inr ⟨by rfl, rfl⟩) ?_ ?_
                    rotate_left
                    ·
                     simp only [Act.put, List.setIfInBounds_toArray, List.set_cons_zero, List.set_cons_succ, i64_w, i32_w]
                     rfl
                    refine pure_ (i := 29) (N := some 103) (v := undef) (a' := ?_) (bl_ 38 1073741823) rfl rfl (any_of HT_.out (by kernel_rfl)) (fun _ _ _ h => h) (Or.inr ⟨by rfl, rfl⟩) ?_ ?_
                    rotate_left
                    ·
                     simp only [Act.put, List.setIfInBounds_toArray, List.set_cons_zero, List.set_cons_succ, i64_w, i32_w]
                     rfl
                    refine pure_ (i := 30) (N := some 104) (v := undef) (a' := ?_) (bl_ 38 2147483647) rfl rfl (any_of HT_.out (by kernel_rfl)) (fun _ _ _ h => h) (Or.inr ⟨by rfl, rfl⟩) ?_ ?_
                    rotate_left
                    ·
                     simp only [Act.put, List.setIfInBounds_toArray, List.set_cons_zero, List.set_cons_succ, i64_w, i32_w]
                     rfl
                    refine pure_ (i := 31) (N := some 105) (v := undef) (a' := ?_) (bl_ 38 4294967295) rfl rfl (any_of HT_.out (by kernel_rfl)) (fun _ _ _ h => h) (Or.inr ⟨by rfl, rfl⟩) ?_ ?_
                    rotate_left
                    ·
                     simp only [Act.put, List.setIfInBounds_toArray, List.set_cons_zero, List.set_cons_succ, i64_w, i32_w]
                     rfl
                    refine pure_ (i := 32) (N := some 106) (v := undef) (a' := ?_) (bl_ 38 8589934591) rfl rfl (any_of HT_.out (by kernel_rfl)) (fun _ _ _ h => h) (Or.inr ⟨by rfl, rfl⟩) ?_ ?_
                    rotate_left
                    ·
                     simp only [Act.put, List.setIfInBounds_toArray, List.set_cons_zero, List.set_cons_succ, i64_w, i32_w]
                     rfl
                    refine pure_ (i := 33) (N := some 107) (v := undef) (a' := ?_) (bl_ 38 17179869183) rfl rfl (any_of HT_.out (by kernel_rfl)) (fun _ _ _ h => h) (Or.inr ⟨by rfl, rfl⟩) ?_ ?_
                    rotate_left
                    ·
                     simp only [Act.put, List.setIfInBounds_toArray, List.set_cons_zero, List.set_cons_succ, i64_w, i32_w]
                     rfl
                    refine pure_ (i := 34) (N := some 108) (v := undef) (a' := ?_) (bl_ 38 34359738367) rfl rfl (any_of HT_.out (by kernel_rfl)) (fun _ _ _ h => h) (Or.inr ⟨by rfl, rfl⟩) ?_ ?_
                    rotate_left
                    ·
                     simp only [Act.put, List.setIfInBounds_toArray, List.set_cons_zero, List.set_cons_succ, i64_w, i32_w]
                     rfl
                    refine pure_ (i := 35) (N := some 109) (v := undef) (a' := ?_) (bl_ 38 68719476735) rfl rfl (any_of HT_.out (by kernel_rfl)) (fun _ _ _ h => h) (Or.inr ⟨by rfl, rfl⟩) ?_ ?_
                    rotate_left
                    ·
                     simp only [Act.put, List.setIfInBounds_toArray, List.set_cons_zero, List.set_cons_succ, i64_w, i32_w]
                     rfl
                    refine pl_ 36 (some 110) 38 137438953471 HT_.out ?_
                    refine pl_ 37 (some 111) 38 274877906943 HT_.out ?_
                    refine done_ (done_of HT_.out (by kernel_rfl)) ?_
                    try go_wp2
                    go_meet
                    case rel => exact ⟨_, (false), (by first | rfl | (simp; done) | (simp [*]; done)), H', ⟨by have := HJ3.out; have := HK2.out; have := HJ11.out; have := HK4.out; first | omega | exact Nat.le_refl _⟩, ⟨bu_ BK304.out⟩, ⟨be_ HB.out⟩⟩
                  ·
                   rw [if_neg c38] at H
                   have c38b0 : (((rd_T49 l2 x9_4).f1) == ((rd_T49 l2 x7_2).f1)) = false := beq_eq_false_iff_ne.mpr c38
                   have c38b1 : (((rd_T49 l2 x9_4).f1) != ((rd_T49 l2 x7_2).f1)) = true := bne_iff_ne.mpr c38
                   have H' := Aside0.mk H
                   clear H
                   try go_wp2
                   have n0_ := Aside0.mk (blk_drew BK304.out)
                   have n1_ := Aside0.mk (below_drew1 HB.out)
                   clear BK304
                   clear HB
                   have BK304 := n0_
                   have HB := n1_
                   clear n0_ n1_
                   have p309 : 0 ≤ (x9_4 : Int) := of_decide_eq_true (by first | (with_reducible assumption) | assumption)
                   have q309 : x9_4 < (l2.length : Int) := of_decide_eq_true (by first | (with_reducible assumption) | assumption)
                   obtain ⟨ad309, e309, hx309_0, hx309_1, hx309_2, hx309_3⟩ := at_T49 HR2.out x9_4 p309 q309
                   have hw309_3 := hx309_3
                   have hw309_2 := hx309_2
                   have hw309_1 := hx309_1
                   have hw309_0 := hx309_0
                   obtain rfl : ad303 = ad309 := (by injection e309)
                   replace hx309_0 := cw_ HB.out hx309_0
                   replace hx309_1 := cw_ HB.out hx309_1
                   replace hx309_2 := cw_ HB.out hx309_2
                   replace hx309_3 := cw_ HB.out hx309_3
                   replace p309 := eq_true p309
                   replace q309 := eq_true q309
                   have p310 : 0 ≤ (x9_4 : Int) := of_decide_eq_true (by first | (with_reducible assumption) | assumption)
                   have q310 : x9_4 < (l2.length : Int) := of_decide_eq_true (by first | (with_reducible assumption) | assumption)
                   obtain ⟨ad310, e310, hx310_0, hx310_1, hx310_2, hx310_3⟩ := at_T49 HR2.out x9_4 p310 q310
                   have hw310_3 := hx310_3
                   have hw310_2 := hx310_2
                   have hw310_1 := hx310_1
                   have hw310_0 := hx310_0
                   obtain rfl : ad303 = ad310 := (by injection e310)
                   replace hx310_0 := cw_ HB.out hx310_0
                   replace hx310_1 := cw_ HB.out hx310_1
                   replace hx310_2 := cw_ HB.out hx310_2
                   replace hx310_3 := cw_ HB.out hx310_3
                   replace p310 := eq_true p310
                   replace q310 := eq_true q310
                   refine start_ (n := 38) (S := fun w' => w'.cell? ⟨gb304, 0, none⟩ = some (.int .i64 ((rd_T49 l2 x7_2).f0)) ∧ w'.cell? ⟨gb304, 1, none⟩ = some (.int .i64 ((rd_T49 l2 x7_2).f1)) ∧ w'.cell? ⟨gb304, 2, none⟩ = some (.int .i64 ((rd_T49 l2 x7_2).f2)) ∧ w'.cell? ⟨gb304, 3, none⟩ = some (.int .i64 ((rd_T49 l2 x7_2).f3)) ∧ w'.cell? (ad303.add ((x9_4).toNat * 4)) = some (.int .i64 ((rd_T49 l2 x9_4).f0)) ∧ w'.cell? ⟨(ad303.add ((x9_4).toNat * 4)).block, (ad303.add ((x9_4).toNat * 4)).off + 1, none⟩ = some (.int .i64 ((rd_T49 l2 x9_4).f1)) ∧ w'.cell? ⟨(ad303.add ((x9_4).toNat * 4)).block, (ad303.add ((x9_4).toNat * 4)).off + 2, none⟩ = some (.int .i64 ((rd_T49 l2 x9_4).f2)) ∧ w'.cell? ⟨(ad303.add ((x9_4).toNat * 4)).block, (ad303.add ((x9_4).toNat * 4)).off + 3, none⟩ = some (.int .i64 ((rd_T49 l2 x9_4).f3)) ∧ w'.cell? (ad303.add ((x9_4).toNat * 4)) = some (.int .i64 ((rd_T49 l2 x9_4).f0)) ∧ w'.cell? ⟨(ad303.add ((x9_4).toNat * 4)).block, (ad303.add ((x9_4).toNat * 4)).off + 1, none⟩ = some (.int .i64 ((rd_T49 l2 x9_4).f1)) ∧ w'.cell? ⟨(ad303.add ((x9_4).toNat * 4)).block, (ad303.add ((x9_4).toNat * 4)).off + 2, none⟩ = some (.int .i64 ((rd_T49 l2 x9_4).f2)) ∧ w'.cell? ⟨(ad303.add ((x9_4).toNat * 4)).block, (ad303.add ((x9_4).toNat * 4)).off + 3, none⟩ = some (.int .i64 ((rd_T49 l2 x9_4).f3))) (ds := []) #[false, false, false, false, false, false, false, false, false, false, false, false, false, false, false, false, false, false, false, false, false, false, false, false, false, false, false, false, false, false, false, false, false, false, false, false, false, false] (by kernel_rfl) rfl rfl ⟨(blk_cell BK304.out 0).trans rfl, (blk_cell BK304.out 1).trans rfl, (blk_cell BK304.out 2).trans rfl, (blk_cell BK304.out 3).trans rfl, (cw_ HB.out hw309_0), (cw_ HB.out hw309_1), (cw_ HB.out hw309_2), (cw_ HB.out hw309_3), (cw_ HB.out hw310_0), (cw_ HB.out hw310_1), (cw_ HB.out hw310_2), (cw_ HB.out hw310_3)⟩ (fun hHeld => ?_); refine with_tabW spec_PlanOk.tab12 spec_PlanOk.bits12 (fun HT_ HW_ => ?_)
                   generalize wr.drew = w42 at BK304 HB hx309_0 hx309_1 hx309_2 hx309_3 hx310_0 hx310_1 hx310_2 hx310_3 hHeld ⊢
                   refine pl_ 0 (some 74) 38 1 HT_.out ?_
                   refine pl_ 1 (some 75) 38 3 HT_.out ?_
                   refine pl_ 2 (some 76) 38 7 HT_.out ?_
                   refine pl_ 3 (some 77) 38 15 HT_.out ?_
                   refine pl_ 5 (some 79) 38 47 HT_.out ?_
                   refine tk_ 4 (some 78) 38 63 HT_.out HW_.out hHeld (hy := by rintro w' ⟨s0, s1, s2, s3, s4, s5, s6, s7, s8, s9, s10, s11⟩; go_simp; with_reducible rfl) (h := ?_)
                   refine tk_ 6 (some 80) 38 127 HT_.out HW_.out hHeld (hy := by rintro w' ⟨s0, s1, s2, s3, s4, s5, s6, s7, s8, s9, s10, s11⟩; go_simp; with_reducible rfl) (h := ?_)
                   refine pl_ 7 (some 81) 38 255 HT_.out ?_
                   refine pl_ 8 (some 82) 38 511 HT_.out ?_
                   refine pl_ 9 (some 83) 38 1023 HT_.out ?_
                   refine pl_ 10 (some 84) 38 2047 HT_.out ?_
                   refine pl_ 11 (some 85) 38 4095 HT_.out ?_
                   refine pl_ 12 (some 86) 38 8191 HT_.out ?_
                   refine pl_ 14 (some 88) 38 24575 HT_.out ?_
                   refine tk_ 13 (some 87) 38 32767 HT_.out HW_.out hHeld (hy := by rintro w' ⟨s0, s1, s2, s3, s4, s5, s6, s7, s8, s9, s10, s11⟩; go_simp; with_reducible rfl) (h := ?_)
                   refine tk_ 15 (some 89) 38 65535 HT_.out HW_.out hHeld (hy := by rintro w' ⟨s0, s1, s2, s3, s4, s5, s6, s7, s8, s9, s10, s11⟩; go_simp; with_reducible rfl) (h := ?_)
                   refine pl_ 16 (some 90) 38 131071 HT_.out ?_
                   refine pl_ 17 (some 91) 38 262143 HT_.out ?_
                   refine pure_ (i := 18) (N := some 92) (v := undef) (a' := ?_) (bl_ 38 524287) rfl rfl (any_of HT_.out (by kernel_rfl)) (fun _ _ _ h => h) (Or.inr ⟨by rfl, rfl⟩) ?_ ?_
                   rotate_left
                   ·
                    simp only [Act.put, List.setIfInBounds_toArray, List.set_cons_zero, List.set_cons_succ, i64_w, i32_w]
                    rfl
                   refine pure_ (i := 19) (N := some 93) (v := undef) (a' := ?_) (bl_ 38 1048575) rfl rfl (any_of HT_.out (by kernel_rfl)) (fun _ _ _ h => h) (Or.inr ⟨by rfl, rfl⟩) ?_ ?_
                   rotate_left
                   ·
                    simp only [Act.put, List.setIfInBounds_toArray, List.set_cons_zero, List.set_cons_succ, i64_w, i32_w]
                    rfl
                   refine pure_ (i := 20) (N := some 94) (v := undef) (a' := ?_) (bl_ 38 2097151) rfl rfl (any_of HT_.out (by kernel_rfl)) (fun _ _ _ h => h) (Or.inr ⟨by rfl, rfl⟩) ?_ ?_
                   rotate_left
                   ·
                    simp only [Act.put, List.setIfInBounds_toArray, List.set_cons_zero, List.set_cons_succ, i64_w, i32_w]
                    rfl
                   refine pure_ (i := 21) (N := some 95) (v := undef) (a' := ?_) (bl_ 38 4194303) rfl rfl (any_of HT_.out (by kernel_rfl)) (fun _ _ _ h => h) (Or.inr ⟨by rfl, rfl⟩) ?_ ?_
                   rotate_left
                   ·
                    simp only [Act.put, List.setIfInBounds_toArray, List.set_cons_zero, List.set_cons_succ, i64_w, i32_w]
                    rfl
                   refine pure_ (i := 22) (N := some 96) (v := undef) (a' := ?_) (bl_ 38 8388607) rfl rfl (any_of HT_.out (by kernel_rfl)) (fun _ _ _ h => h) (Or.inr ⟨by rfl, rfl⟩) ?_ ?_
                   rotate_left
                   ·
                    simp only [Act.put, List.setIfInBounds_toArray, List.set_cons_zero, List.set_cons_succ, i64_w, i32_w]
                    rfl
                   refine pure_ (i := 23) (N := some 97) (v := undef) (a' := ?_) (bl_ 38 16777215) rfl rfl (any_of HT_.out (by kernel_rfl)) (fun _ _ _ h => h) (Or.inr ⟨by rfl, rfl⟩) ?_ ?_
                   rotate_left
                   ·
                    simp only [Act.put, List.setIfInBounds_toArray, List.set_cons_zero, List.set_cons_succ, i64_w, i32_w]
                    rfl
                   refine pure_ (i := 24) (N := some 98) (v := undef) (a' := ?_) (bl_ 38 33554431) rfl rfl (any_of HT_.out (by kernel_rfl)) (fun _ _ _ h => h) (Or.inr ⟨by rfl, rfl⟩) ?_ ?_
                   rotate_left
                   ·
                    simp only [Act.put, List.setIfInBounds_toArray, List.set_cons_zero, List.set_cons_succ, i64_w, i32_w]
                    rfl
                   refine pure_ (i := 25) (N := some 99) (v := undef) (a' := ?_) (bl_ 38 67108863) rfl rfl (any_of HT_.out (by kernel_rfl)) (fun _ _ _ h => h) (Or.inr ⟨by rfl, rfl⟩) ?_ ?_
                   rotate_left
                   ·
                    simp only [Act.put, List.setIfInBounds_toArray, List.set_cons_zero, List.set_cons_succ, i64_w, i32_w]
                    rfl
                   refine pl_ 26 (some 100) 38 134217727 HT_.out ?_
                   refine pl_ 27 (some 101) 38 268435455 HT_.out ?_
                   refine pure_ (i := 28) (N := some 102) (v := undef) (a' := ?_) (bl_ 38 536870911) rfl rfl (any_of HT_.out (by kernel_rfl)) (fun _ _ _ h => h) (Or.inr ⟨by rfl, rfl⟩) ?_ ?_
                   rotate_left
                   ·
                    simp only [Act.put, List.setIfInBounds_toArray, List.set_cons_zero, List.set_cons_succ, i64_w, i32_w]
                    rfl
                   refine pure_ (i := 29) (N := some 103) (v := undef) (a' := ?_) (bl_ 38 1073741823) rfl rfl (any_of HT_.out (by kernel_rfl)) (fun _ _ _ h => h) (Or.inr ⟨by rfl, rfl⟩) ?_ ?_
                   rotate_left
                   ·
                    simp only [Act.put, List.setIfInBounds_toArray, List.set_cons_zero, List.set_cons_succ, i64_w, i32_w]
                    rfl
                   refine pure_ (i := 30) (N := some 104) (v := undef) (a' := ?_) (bl_ 38 2147483647) rfl rfl (any_of HT_.out (by kernel_rfl)) (fun _ _ _ h => h) (Or.inr ⟨by rfl, rfl⟩) ?_ ?_
                   rotate_left
                   ·
                    simp only [Act.put, List.setIfInBounds_toArray, List.set_cons_zero, List.set_cons_succ, i64_w, i32_w]
                    rfl
                   refine pure_ (i := 31) (N := some 105) (v := undef) (a' := ?_) (bl_ 38 4294967295) rfl rfl (any_of HT_.out (by kernel_rfl)) (fun _ _ _ h => h) (Or.inr ⟨by rfl, rfl⟩) ?_ ?_
                   rotate_left
                   ·
                    simp only [Act.put, List.setIfInBounds_toArray, List.set_cons_zero, List.set_cons_succ, i64_w, i32_w]
                    rfl
                   refine pure_ (i := 32) (N := some 106) (v := undef) (a' := ?_) (bl_ 38 8589934591) rfl rfl (any_of HT_.out (by kernel_rfl)) (fun _ _ _ h => h) (Or.inr ⟨by rfl, rfl⟩) ?_ ?_
                   rotate_left
                   ·
                    simp only [Act.put, List.setIfInBounds_toArray, List.set_cons_zero, List.set_cons_succ, i64_w, i32_w]
                    rfl
                   refine pure_ (i := 33) (N := some 107) (v := undef) (a' := ?_) (bl_ 38 17179869183) rfl rfl (any_of HT_.out (by kernel_rfl)) (fun _ _ _ h => h) (Or.inr ⟨by rfl, rfl⟩) ?_ ?_
                   rotate_left
                   ·
                    simp only [Act.put, List.setIfInBounds_toArray, List.set_cons_zero, List.set_cons_succ, i64_w, i32_w]
                    rfl
                   refine pure_ (i := 34) (N := some 108) (v := undef) (a' := ?_) (bl_ 38 34359738367) rfl rfl (any_of HT_.out (by kernel_rfl)) (fun _ _ _ h => h) (Or.inr ⟨by rfl, rfl⟩) ?_ ?_
                   rotate_left
                   ·
                    simp only [Act.put, List.setIfInBounds_toArray, List.set_cons_zero, List.set_cons_succ, i64_w, i32_w]
                    rfl
                   refine pure_ (i := 35) (N := some 109) (v := undef) (a' := ?_) (bl_ 38 68719476735) rfl rfl (any_of HT_.out (by kernel_rfl)) (fun _ _ _ h => h) (Or.inr ⟨by rfl, rfl⟩) ?_ ?_
                   rotate_left
                   ·
                    simp only [Act.put, List.setIfInBounds_toArray, List.set_cons_zero, List.set_cons_succ, i64_w, i32_w]
                    rfl
                   refine pl_ 36 (some 110) 38 137438953471 HT_.out ?_
                   refine pl_ 37 (some 111) 38 274877906943 HT_.out ?_
                   refine done_ (done_of HT_.out (by kernel_rfl)) ?_
                   try go_wp2
                   go_meet
                   case rel => exact ⟨_, (false), (by first | rfl | (simp; done) | (simp [*]; done)), H', ⟨by have := HJ3.out; have := HK2.out; have := HJ11.out; have := HK4.out; first | omega | exact Nat.le_refl _⟩, ⟨bu_ BK304.out⟩, ⟨be_ HB.out⟩⟩
                ·
                 rw [if_neg c35] at H
                 exact absurd H (by simp)
               ·
                rw [if_neg c34] at H
                exact absurd H (by simp)
              case rest =>
               clear HC33
               (try clear p2); (try clear c3); (try clear p3); (try clear q3); (try clear hx3); (try clear p30); (try clear q30); (try clear hx30); (try clear p31); (try clear q31); (try clear hx31); (try clear c34); (try clear c35); (try clear c38); (try clear c38b0); (try clear c38b1); (try clear hx309_0); (try clear hx309_1); (try clear hx309_2); (try clear hx309_3); (try clear hx310_0); (try clear hx310_1); (try clear hx310_2); (try clear hx310_3); (try clear hx311_0); (try clear hx311_1); (try clear hx311_2); (try clear hx311_3); (try clear p309); (try clear p310); (try clear p311); (try clear q309); (try clear q310); (try clear q311)
               obtain ⟨kq, x111_32, rfl, HA, HJ32, BK304, HB⟩ := hcut
               cases kq with
               | zero => exact absurd HA.out (by simp [spec_PlanOk.j4])
               | succ kj32 =>
                have H := HA.out
                clear HA
                simp only [spec_PlanOk.j4] at H
                by_cases c43 : x111_32 = true
                ·
                 subst c43
                 have H1 : (some false) = some r := by rw [if_pos rfl] at H; exact H
                 clear H
                 have H := H1
                 clear H1
                 obtain rfl := Option.some.inj H
                 go_wp2
                 go_ret
                 exact ⟨by first | rfl | (simp [errW_none, errW_some] <;> rfl) | (simp [*, errW_none, errW_some] <;> rfl), be_ HB.out⟩
                ·
                 replace c43 := Bool.eq_false_iff.mpr c43
                 subst c43
                 have H1 : (spec_PlanOk.l1 kj32 l0 a1 l2 x7_2 (wrap64 (x9_4 + 1)) ((rd_T49 l2 x7_2).f0) ((rd_T49 l2 x7_2).f1) ((rd_T49 l2 x7_2).f2) ((rd_T49 l2 x7_2).f3)) = some r := by rw [if_neg (show ¬ (false = true) by decide)] at H; exact H
                 clear H
                 have H := H1
                 clear H1
                 have H' := Aside0.mk H
                 clear H
                 go_wp2
                 go_roundg kj32
                 case measure => have := HJ3.out; have := HK2.out; have := HJ11.out; have := HK4.out; have := HJ32.out; omega
                 case rel => exact ⟨(wrap64 (x9_4 + 1)), (by first | rfl | (simp; done) | (simp [*]; done)), H', ⟨by have := HJ3.out; have := HK2.out; have := HJ11.out; have := HK4.out; have := HJ32.out; omega⟩, ⟨bu_ BK304.out⟩, ⟨be_ HB.out⟩⟩
             ·
              rw [if_neg c32] at H
              have c32b0 : decide (x9_4 < x7_2) = false := decide_eq_false c32
              clear c32
              have H' := Aside0.mk H
              clear H
              go_wp2
              go_roundg k4
              case measure => have := HJ3.out; have := HK2.out; have := HJ11.out; have := HK4.out; omega
              case rel => exact ⟨(wrap64 (x7_2 + 1)), (by first | rfl | (simp; done) | (simp [*]; done)), H', ⟨by have := HJ3.out; have := HK2.out; have := HJ11.out; have := HK4.out; omega⟩, ⟨be_ HB.out⟩⟩
       ·
        rw [if_neg c11] at H
        exact absurd H (by simp)
      ·
       rw [if_neg c10] at H
       have c10b0 : decide (x7_2 < (l2.length : Int)) = false := decide_eq_false c10
       clear c10
       obtain rfl := Option.some.inj H
       go_wp2
       go_ret
       exact ⟨by first | rfl | (simp [errW_none, errW_some] <;> rfl) | (simp [*, errW_none, errW_some] <;> rfl), be_ HB.out⟩

end Go.Proofs.YtdniejjhkkepcaaDoor.QFnPlanned
