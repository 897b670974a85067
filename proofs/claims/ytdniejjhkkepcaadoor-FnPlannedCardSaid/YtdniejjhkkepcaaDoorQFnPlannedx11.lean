/- The Go functions that the statement FnPlanned reaches, as Lean functions, each with a proof that the call does what its function says; laid by a program of this session. No condition. -/
import Derived.Test.YtdniejjhkkepcaaDoorQFnPlannedx0
import Derived.Test.YtdniejjhkkepcaaDoorQFnPlannedx2
import Derived.Test.YtdniejjhkkepcaaDoorQFnPlannedx3
import Derived.Test.YtdniejjhkkepcaaDoorQFnPlannedx10
namespace Go.Proofs.YtdniejjhkkepcaaDoor.QFnPlanned
open Go.RowKit Go.Proofs.YtdniejjhkkepcaaDoorW.PrintWords Go.Proofs.YtdniejjhkkepcaaDoorW.PrintLast Go.Proofs.YtdniejjhkkepcaaDoorW.PrintMore
attribute [local go_sem] max2_int min2_int max_two min_two max_three min_three max_four min_four   -- for this text's walks alone
set_option linter.unusedVariables false
set_option linter.unusedSimpArgs false

mutual
def impl_best.l0 : Nat → List Int → List Int → Int → Int → Int → Option (Int × List Int)
 | 0, _, _, _, _, _ => none
 | k + 1, x0, x1, x5, x14, x15 => if x15 < x14 then (if 0 ≤ x15 then (if x15 < (x1.length : Int) then (if 0 < (x0.length : Int) then (if 1 ≤ (x0.length : Int) then ((impl_best.f k (x0.drop 1) (x1.set (x15 : Int).toNat (wrap64 ((rd x1 x15) + (rd x0 0))))).bind fun bt382 => (if x5 < 0 then (impl_best.l0 k x0 (bt382.2.set (x15 : Int).toNat (wrap64 ((rd bt382.2 x15) - (rd x0 0)))) bt382.1 x14 (wrap64 (x15 + 1))) else (if bt382.1 < x5 then (impl_best.l0 k x0 (bt382.2.set (x15 : Int).toNat (wrap64 ((rd bt382.2 x15) - (rd x0 0)))) bt382.1 x14 (wrap64 (x15 + 1))) else (impl_best.l0 k x0 (bt382.2.set (x15 : Int).toNat (wrap64 ((rd bt382.2 x15) - (rd x0 0)))) x5 x14 (wrap64 (x15 + 1)))))) else (none)) else (none)) else (none)) else (none)) else (some (x5, x1))
def impl_best.f : Nat → List Int → List Int → Option (Int × List Int)
 | 0, _, _ => none
 | k + 1, l0, l1 => if (l0.length : Int) = 0 then ((slices_Max_int_int.f k l1).bind fun t374 => (some (t374, l1))) else (impl_best.l0 k l0 l1 (-1) (l1.length : Int) 0)
end
theorem impl_best.mono_l : ∀ k, (∀ y0 y1, LeO (impl_best.f k y0 y1) (impl_best.f (k + 1) y0 y1)) ∧ (∀ y0 y1 y2 y3 y4, LeO (impl_best.l0 k y0 y1 y2 y3 y4) (impl_best.l0 (k + 1) y0 y1 y2 y3 y4))
 | 0 => ⟨fun _ _ r h => by simp [impl_best.f] at h, fun _ _ _ _ _ r h => by simp [impl_best.l0] at h⟩
 | k + 1 => by
  obtain ⟨ih0, ih1⟩ := impl_best.mono_l k
  refine ⟨?_, ?_⟩
  ·
   intro y0 y1
   unfold impl_best.f
   repeat' first
   | (with_reducible exact ih0 _ _)
   | (with_reducible exact ih1 _ _ _ _ _)
   | (with_reducible exact slices_Max_int_int.mono _ _)
   | (with_reducible exact LeO.refl _)
   | (with_reducible exact LeO.none _)
   | (with_reducible refine LeO.ite ?_ ?_)
   | (with_reducible refine LeO.bind ?_ (fun _ => ?_))
   | exact ih0 _ _
   | exact ih1 _ _ _ _ _
   | exact slices_Max_int_int.mono _ _
   | exact LeO.none _
   | refine LeO.ite ?_ ?_
   | refine LeO.bind ?_ (fun _ => ?_)
  ·
   intro y0 y1 y2 y3 y4
   unfold impl_best.l0
   repeat' first
   | (with_reducible exact ih0 _ _)
   | (with_reducible exact ih1 _ _ _ _ _)
   | (with_reducible exact slices_Max_int_int.mono _ _)
   | (with_reducible exact LeO.refl _)
   | (with_reducible exact LeO.none _)
   | (with_reducible refine LeO.ite ?_ ?_)
   | (with_reducible refine LeO.bind ?_ (fun _ => ?_))
   | exact ih0 _ _
   | exact ih1 _ _ _ _ _
   | exact slices_Max_int_int.mono _ _
   | exact LeO.none _
   | refine LeO.ite ?_ ?_
   | refine LeO.bind ?_ (fun _ => ?_)
theorem impl_best.mono : ∀ a0 a1 k, LeO (impl_best.f k a0 a1) (impl_best.f (k + 1) a0 a1) := by
 intro a0 a1 k
 obtain ⟨ih0, ih1⟩ := impl_best.mono_l k
 exact ih0 a0 a1
def impl_best.T7 : Bool × List (List Nat × List Nat) := (true, [([], []), ([], []), ([0, 1], [0, 1]), ([2], [2]), ([], []), ([4], [4]), ([5], [5]), ([3, 6], [3, 6]), ([0, 1, 0, 1, 2, 3, 4, 5, 6, 7], [0, 1]), ([8, 7, 0, 1, 2, 3, 4, 5, 6, 7], [7, 8])])
def impl_best.B7 : List Nat := [0, 0, 3, 7, 0, 16, 48, 127, 255, 511]
theorem impl_best.tab7 : rtab .any (opsOf Tryd.f45 7) = impl_best.T7 := by kernel_rfl
theorem impl_best.bits7 : waitsOk impl_best.T7.2 impl_best.B7 = true := by kernel_rfl
def impl_best.T11 : Bool × List (List Nat × List Nat) := (true, [([], []), ([], []), ([0, 1], [0, 1]), ([2], [2]), ([], []), ([4], [4]), ([5], [5]), ([3, 6], [3, 6]), ([0, 1, 0, 1, 2, 3, 4, 5, 6, 7], [0, 1]), ([8, 7, 0, 1, 2, 3, 4, 5, 6, 7], [7, 8])])
def impl_best.B11 : List Nat := [0, 0, 3, 7, 0, 16, 48, 127, 255, 511]
theorem impl_best.tab11 : rtab .any (opsOf Tryd.f45 11) = impl_best.T11 := by kernel_rfl
theorem impl_best.bits11 : waitsOk impl_best.T11.2 impl_best.B11 = true := by kernel_rfl
set_option maxHeartbeats 8000000 in
set_option maxRecDepth 100000 in
theorem impl_best.calls (k : Nat) : ∀ (A0 : Option Addr) (c0 : Nat) (l0 : List Int) (P1_ : Nat → Prop) (u9000_ : Value) (l1 : List Int) (r1 : Int) (r2 : List Int) (w0 w : World) (hB : Below w0.heap.size w0 w) (hr0 : ∀ W_, Kept w W_ (fun k_ => P1_ k_) → Kd.C (Kd.int .i64) W_ A0 l0.length l0) (hc0 : l0.length ≤ c0) (ho1 : Kd.R (Kd.int .i64) 3 w w0.heap.size P1_ u9000_ l1) (h : impl_best.f k l0 l1 = some (r1, r2)),
  Calls Tryd.prog 45 #[.slice A0 l0.length c0, u9000_] w fun e w' => e = .returned (.int .i64 r1) ∧ Kd.R (Kd.int .i64) 3 w' w0.heap.size (fun k_ => (P1_ k_ ∨ w.heap.size ≤ k_)) u9000_ r2 ∧ Below w0.heap.size w0 w' ∧ Kept w w' (fun k_ => P1_ k_) := by
 induction k using Nat.strongRecOn with
 | _ k ih =>
 intro A0 c0 l0 P1_ u9000_ l1 r1 r2 w0 w hB hr0 hc0 ho1 h
 cases k with
 | zero => exact absurd h (by simp [impl_best.f])
 | succ k =>
 simp only [impl_best.f] at h
 have HR0 := Aside0.mk hr0
 have HC0 := Aside0.mk hc0
 clear hr0 hc0
 have HO1 := Aside0.mk (show Kd.R (Kd.int .i64) 3 w w0.heap.size (fun k_ => (P1_ k_ ∨ w.heap.size ≤ k_)) u9000_ l1 from Kd.R_mono ho1 (fun k_ hk => (.inl hk)))
 have HK := Aside0.mk (Kept.refl w (fun k_ => P1_ k_))
 have HW0 := Aside0.mk hB.size
 have HB := Aside0.mk hB
 clear hB
 have H : (if (l0.length : Int) = 0 then ((slices_Max_int_int.f k l1).bind fun t374 => (some (t374, l1))) else (impl_best.l0 k l0 l1 (-1) (l1.length : Int) 0)) = some (r1, r2) := h
 clear h
 by_cases c3 : (l0.length : Int) = 0
 ·
  rw [if_pos c3] at H
  have c3b0 : ((l0.length : Int) == 0) = true := beq_iff_eq.mpr c3
  have c3b1 : ((l0.length : Int) != 0) = false := bne_eq_false_iff_eq.mpr c3
  clear c3
  replace H := Option.bind_eq_some_iff.mp H
  obtain ⟨t374, A40, H⟩ := H
  replace H : (some (t374, l1)) = some (r1, r2) := H
  have A4 := Aside0.mk A40
  clear A40
  simp only [Option.some.injEq, Prod.mk.injEq] at H
  obtain ⟨rfl, rfl⟩ := H
  obtain ⟨Ao5, co5, eo5⟩ := Kd.R_slice HO1.out
  subst eo5
  go_enter Tryd.func45, Tryd.ntmps45
  go_wp2_with (first | ((with_reducible refine gate_callee (f := 61) rfl ?_); refine goesL_ (some 12) rfl rfl Tryd.func61 (by kernel_rfl) rfl #[.slice Ao5 l1.length co5] rfl ar_ ?_; (with_reducible refine (slices_Max_int_int.calls k _ _ l1 t374 _ ?side1 ?side2 A4.out).mono ?_); (case side1 => repeat (first | exact (Kd.R_reads' HO1.out).2.2 | (with_reducible refine Kd.C_alloc ?_ _) | (with_reducible refine Kd.C_drewN ?_ _) | (with_reducible refine Kd.C_drew ?_))); (case side2 => exact (Kd.R_reads' HO1.out).2.1); rintro e w6 ⟨rfl, hb⟩; refine ⟨_, rfl, ?_⟩; replace HO1 := Aside0.mk (Kd.R_below (by (with_reducible repeat (first | apply Kd.R_alloc | apply Kd.R_drewN | apply Kd.R_drew)); exact HO1.out) hb); replace HK := Aside0.mk (Kept.below (S := (fun k_ => P1_ k_)) (by repeat (first | (with_reducible first | exact HK.out | apply Kept.alloc | apply Kept.drewN | apply Kept.drew) | exact HK.out)) hb); replace HB := Aside0.mk (below_step (be_ HB.out) hb); (try clear hb); (try clear hb2); (try clear hk); (try clear hi)))
  go_ret
  exact ⟨by first | rfl | (simp [errW_none, errW_some] <;> rfl) | (simp [*, errW_none, errW_some] <;> rfl), by (with_reducible repeat (first | apply Kd.R_alloc | apply Kd.R_drewN | apply Kd.R_drew)); exact HO1.out, by repeat (first | (with_reducible first | exact HB.out | apply below_alloc | apply pw_below_drewN | apply below_drew1) | exact HB.out), by repeat (first | (with_reducible first | exact HK.out | apply Kept.alloc | apply Kept.drewN | apply Kept.drew) | exact HK.out)⟩
 ·
  rw [if_neg c3] at H
  have c3b0 : ((l0.length : Int) == 0) = false := beq_eq_false_iff_ne.mpr c3
  have c3b1 : ((l0.length : Int) != 0) = true := bne_iff_ne.mpr c3
  have c3b2 : ¬ (l0 = []) := fun h_ => c3 (by rw [h_]; rfl)
  have H' := Aside0.mk H
  clear H
  obtain ⟨Ao7, co7, eo7⟩ := Kd.R_slice HO1.out
  subst eo7
  go_enter Tryd.func45, Tryd.ntmps45
  go_wp2
  go_loopg [5, 15] k (fun kq v5 v15 w' => ∃ (x1_1 : List Int) (x5_1 : Int) (x15_1 : Int), v5 = .int .i64 x5_1 ∧ v15 = .int .i64 x15_1 ∧ Aside0 (impl_best.l0 kq l0 x1_1 x5_1 (l1.length : Int) x15_1 = some (r1, r2)) ∧ Aside0 (kq ≤ k) ∧ Aside0 (Kd.R (Kd.int .i64) 3 w' w0.heap.size (fun k_ => (P1_ k_ ∨ w.heap.size ≤ k_)) (.slice Ao7 l1.length co7) x1_1) ∧ Aside0 (Kept w w' (fun k_ => P1_ k_)) ∧ Aside0 (Below w0.heap.size w0 w'))
  case atStart => exact ⟨(l1), ((-1)), (0), (by first | rfl | (simp; done) | (simp [*]; done)), (by first | rfl | (simp; done) | (simp [*]; done)), H', ⟨Nat.le_refl _⟩, ⟨by (with_reducible repeat (first | apply Kd.R_alloc | apply Kd.R_drewN | apply Kd.R_drew)); exact HO1.out⟩, ⟨by repeat (first | (with_reducible first | exact HK.out | apply Kept.alloc | apply Kept.drewN | apply Kept.drew) | exact HK.out)⟩, ⟨be_ HB.out⟩⟩
  case round =>
   clear H'
   (try clear p2); (try clear c3); (try clear c3b0); (try clear c3b1); (try clear c3b2); (try clear c4); (try clear c6)
   obtain ⟨x1_1, x5_1, x15_1, rfl, rfl, HA, HK1, HO_1, HK, HB⟩ := hrel
   have hl1_1 := (Kd.R_reads' HO_1.out).1
   rw [hl1_1] at HO_1
   (try simp only [hl1_1])
   cases gk with
   | zero => exact absurd HA.out (by simp [impl_best.l0])
   | succ k1 =>
    have H := HA.out
    clear HA
    simp only [impl_best.l0] at H
    by_cases c8 : x15_1 < (l1.length : Int)
    ·
     rw [if_pos c8] at H
     have c8b0 : decide (x15_1 < (l1.length : Int)) = true := decide_eq_true c8
     clear c8
     by_cases c9 : 0 ≤ x15_1
     ·
      rw [if_pos c9] at H
      have c9b0 : decide (0 ≤ x15_1) = true := decide_eq_true c9
      clear c9
      by_cases c10 : x15_1 < (x1_1.length : Int)
      ·
       rw [if_pos c10] at H
       have c10b0 : decide (x15_1 < (x1_1.length : Int)) = true := decide_eq_true c10
       clear c10
       by_cases c11 : 0 < (l0.length : Int)
       ·
        rw [if_pos c11] at H
        have c11b0 : decide (0 < (l0.length : Int)) = true := decide_eq_true c11
        have c11b1 : decide (0 < l0.length) = true := decide_eq_true (by omega)
        clear c11
        obtain ⟨y377, hy377⟩ : ∃ y_ : List Int, y_ = (x1_1.set (x15_1 : Int).toNat (wrap64 ((rd x1_1 x15_1) + (rd l0 0)))) := ⟨_, rfl⟩
        replace H : (if 1 ≤ (l0.length : Int) then ((impl_best.f k1 (l0.drop 1) y377).bind fun bt382 => (if x5_1 < 0 then (impl_best.l0 k1 l0 (bt382.2.set (x15_1 : Int).toNat (wrap64 ((rd bt382.2 x15_1) - (rd l0 0)))) bt382.1 (l1.length : Int) (wrap64 (x15_1 + 1))) else (if bt382.1 < x5_1 then (impl_best.l0 k1 l0 (bt382.2.set (x15_1 : Int).toNat (wrap64 ((rd bt382.2 x15_1) - (rd l0 0)))) bt382.1 (l1.length : Int) (wrap64 (x15_1 + 1))) else (impl_best.l0 k1 l0 (bt382.2.set (x15_1 : Int).toNat (wrap64 ((rd bt382.2 x15_1) - (rd l0 0)))) x5_1 (l1.length : Int) (wrap64 (x15_1 + 1)))))) else (none)) = some (r1, r2) := by first | (rw [hy377]; with_reducible exact H) | (have H2_ := (Option.bind_some _ _).symm.trans H; rw [hy377]; with_reducible exact H2_) | (have H2_ := (Option.bind_some _ _).symm.trans H; with_reducible exact H2_) | with_reducible exact H | (rw [hy377]; exact H) | exact H
        have Ny377 := Aside0.mk hy377
        clear hy377
        by_cases c13 : 1 ≤ (l0.length : Int)
        ·
         rw [if_pos c13] at H
         have c13b0 := eq_true c13
         have c13b1 : decide (1 ≤ (l0.length : Int)) = true := decide_eq_true c13
         clear c13
         obtain ⟨y378, hy378⟩ : ∃ y_ : List Int, y_ = (l0.drop 1) := ⟨_, rfl⟩
         replace H : ((impl_best.f k1 y378 y377).bind fun bt382 => (if x5_1 < 0 then (impl_best.l0 k1 l0 (bt382.2.set (x15_1 : Int).toNat (wrap64 ((rd bt382.2 x15_1) - (rd l0 0)))) bt382.1 (l1.length : Int) (wrap64 (x15_1 + 1))) else (if bt382.1 < x5_1 then (impl_best.l0 k1 l0 (bt382.2.set (x15_1 : Int).toNat (wrap64 ((rd bt382.2 x15_1) - (rd l0 0)))) bt382.1 (l1.length : Int) (wrap64 (x15_1 + 1))) else (impl_best.l0 k1 l0 (bt382.2.set (x15_1 : Int).toNat (wrap64 ((rd bt382.2 x15_1) - (rd l0 0)))) x5_1 (l1.length : Int) (wrap64 (x15_1 + 1)))))) = some (r1, r2) := by first | (rw [hy378]; with_reducible exact H) | (have H2_ := (Option.bind_some _ _).symm.trans H; rw [hy378]; with_reducible exact H2_) | (have H2_ := (Option.bind_some _ _).symm.trans H; with_reducible exact H2_) | with_reducible exact H | (rw [hy378]; exact H) | exact H
         have Ny378 := Aside0.mk hy378
         clear hy378
         replace H := Option.bind_eq_some_iff.mp H
         obtain ⟨⟨t382, t383⟩, A140, H⟩ := H
         replace H : (if x5_1 < 0 then (impl_best.l0 k1 l0 (t383.set (x15_1 : Int).toNat (wrap64 ((rd t383 x15_1) - (rd l0 0)))) t382 (l1.length : Int) (wrap64 (x15_1 + 1))) else (if t382 < x5_1 then (impl_best.l0 k1 l0 (t383.set (x15_1 : Int).toNat (wrap64 ((rd t383 x15_1) - (rd l0 0)))) t382 (l1.length : Int) (wrap64 (x15_1 + 1))) else (impl_best.l0 k1 l0 (t383.set (x15_1 : Int).toNat (wrap64 ((rd t383 x15_1) - (rd l0 0)))) x5_1 (l1.length : Int) (wrap64 (x15_1 + 1))))) = some (r1, r2) := H
         have A14 := Aside0.mk A140
         clear A140
         by_cases c15 : x5_1 < 0
         ·
          rw [if_pos c15] at H
          have c15b0 : decide (x5_1 < 0) = true := decide_eq_true c15
          clear c15
          obtain ⟨y386, hy386⟩ : ∃ y_ : List Int, y_ = (t383.set (x15_1 : Int).toNat (wrap64 ((rd t383 x15_1) - (rd l0 0)))) := ⟨_, rfl⟩
          replace H : (impl_best.l0 k1 l0 y386 t382 (l1.length : Int) (wrap64 (x15_1 + 1))) = some (r1, r2) := by first | (rw [hy386]; with_reducible exact H) | (have H2_ := (Option.bind_some _ _).symm.trans H; rw [hy386]; with_reducible exact H2_) | (have H2_ := (Option.bind_some _ _).symm.trans H; with_reducible exact H2_) | with_reducible exact H | (rw [hy386]; exact H) | exact H
          have Ny386 := Aside0.mk hy386
          clear hy386
          have H' := Aside0.mk H
          clear H
          try go_wp2
          have n0_ := Aside0.mk (Kd.R_drew HO_1.out)
          have n1_ := Aside0.mk (Kept.drew HK.out)
          have n2_ := Aside0.mk (below_drew1 HB.out)
          clear HO_1
          clear HK
          clear HB
          have HO_1 := n0_
          have HK := n1_
          have HB := n2_
          clear n0_ n1_ n2_
          have p375 : 0 ≤ (x15_1 : Int) := of_decide_eq_true (by first | (with_reducible assumption) | assumption)
          have q375 : x15_1 < (x1_1.length : Int) := of_decide_eq_true (by first | (with_reducible assumption) | assumption)
          obtain ⟨ad375, e375, hx375_0⟩ := Kd.at_int (Kd.R_reads' HO_1.out).2.2 x15_1 p375 q375
          cases e375
          replace p375 := eq_true p375
          replace q375 := eq_true q375
          have p376 : 0 ≤ (0 : Int) := (by omega)
          have q376 : 0 < (l0.length : Int) := of_decide_eq_true (by first | (with_reducible assumption) | assumption)
          obtain ⟨ad376, e376, hx376_0⟩ := Kd.at_int (Kd.C_kept_now HR0.out HK.out) 0 p376 q376
          have hw376_0 := hx376_0
          (try rw [show ((0 : Int)).toNat = 0 from rfl] at hw376_0)
          (try rw [show 0 * 1 = 0 from rfl] at hw376_0)
          (try rw [Addr.add_zero'] at hw376_0)
          cases e376
          have qi376 : (0 < l0.length) = True := eq_true (by omega)
          (try rw [show ((0 : Int)).toNat = 0 from rfl] at hx376_0)
          (try rw [Addr.add_zero'] at hx376_0)
          replace p376 := eq_true p376
          replace q376 := eq_true q376
          have p12 : 0 ≤ (x15_1 : Int) := of_decide_eq_true (by first | (with_reducible assumption) | assumption)
          have q12 : (x15_1 : Int) < ((x1_1.length : Int) : Int) := of_decide_eq_true (by first | (with_reducible assumption) | assumption)
          obtain ⟨go12, co12, eo12, gb12, gl12, cl12, HG12⟩ := Kd.R_form HO_1.out (by omega)
          (first | cases eo12 | (injection eo12 with ea_ en_ ec_; (first | subst ea_ | (injection ea_ with ea_; subst ea_)); subst ec_; clear en_))
          have GB12 := Aside0.mk gb12
          have GG12 := Aside0.mk HG12
          clear gb12 gl12 HG12
          have HMgo12 := Aside0.mk (show (P1_ go12 ∨ w.heap.size ≤ go12) from (HO_1.out.1 _ rfl))
          (first | simp only [add_plain] at hx375_0 | skip)
          obtain ⟨hx12_0, hf12_0⟩ := Kd.R_celln 0 HO_1.out (x15_1 : Int) p12 q12
          replace p12 := eq_true p12
          replace q12 := eq_true q12
          have HP18 := Kd.R_putn HO_1.out (x15_1 : Int) (wrap64 ((rd x1_1 x15_1) + (rd l0 0)))
          rw [← Ny377.out] at HP18
          have HQ18 := Aside0.mk HP18
          clear HP18
          refine start_ (n := 10) (S := fun w' => w'.cell? ⟨go12, (x15_1).toNat, none⟩ = some (.int .i64 (rd x1_1 x15_1)) ∧ w'.cell? ad376 = some (.int .i64 (rd l0 0))) (ds := [9]) #[false, false, false, false, false, false, false, false, false, false] (by kernel_rfl) rfl rfl ⟨hx375_0, (by have h_ := Kd.foot_int (HR0.out _ (by repeat (first | exact HK.out | apply Kept.alloc | apply Kept.drewN | apply Kept.drew | refine Kept.setCell ?_ HMgo12.out _))) (0 : Int) (of_eq_true p376) (of_eq_true q376); rw [show ((0 : Int)).toNat = 0 from rfl, Addr.add_zero'] at h_; exact h_)⟩ (fun hHeld => ?_); refine with_tabW impl_best.tab7 impl_best.bits7 (fun HT_ HW_ => ?_)
          generalize wr.drew = w17 at HO_1 HK HB GG12 HQ18 hf12_0 hx12_0 hx375_0 hx376_0 hHeld ⊢
          refine pl_ 0 (some 18) 10 1 HT_.out ?_
          refine pl_ 1 (some 19) 10 3 HT_.out ?_
          refine pl_ 2 (some 20) 10 7 HT_.out ?_
          refine pl_ 4 (some 22) 10 23 HT_.out ?_
          refine pl_ 5 (some 23) 10 55 HT_.out ?_
          refine tk_ 3 (some 21) 10 63 HT_.out HW_.out hHeld (hy := by rintro w' ⟨s0, s1⟩; go_simp; with_reducible rfl) (h := ?_)
          refine tk_ 6 (some 24) 10 127 HT_.out HW_.out hHeld (hy := by rintro w' ⟨s0, s1⟩; go_simp; with_reducible rfl) (h := ?_)
          refine pl_ 7 (some 25) 10 255 HT_.out ?_
          refine pl_ 8 (some 26) 10 511 HT_.out ?_
          refine last_ (i := 9) (N := none) (bl_ 10 1023) rfl rfl (one_of HT_.out (by kernel_rfl)) (by decide) (fun K hK => ?_)
          refine skip_ (w1 := ?_) (by rfl) rfl ?_ ?_
          rotate_left
          ·
           go_simp
           rfl
          refine hK.out _ _ ?_
          clear hK K
          refine done_ (done_of HT_.out (by kernel_rfl)) ?_
          have n0_ : Aside0 (Kd.R (Kd.int .i64) 3 (w17.setCell ⟨go12, (x15_1 : Int).toNat, none⟩ (.int .i64 (wrap64 ((rd x1_1 x15_1) + (rd l0 0))))) w0.heap.size (fun k_ => (P1_ k_ ∨ w.heap.size ≤ k_)) (.slice (some ⟨go12, 0, none⟩) x1_1.length co7) y377) := ⟨by (with_reducible repeat (first | apply Kd.R_alloc | apply Kd.R_drewN | apply Kd.R_drew)); exact HQ18.out⟩
          have n1_ : Aside0 (Kept w (w17.setCell ⟨go12, (x15_1 : Int).toNat, none⟩ (.int .i64 (wrap64 ((rd x1_1 x15_1) + (rd l0 0))))) (fun k_ => P1_ k_)) := ⟨by repeat (first | (with_reducible first | exact HK.out | apply Kept.alloc | apply Kept.drewN | apply Kept.drew | refine Kept.setCell ?_ HMgo12.out _) | exact HK.out)⟩
          have n2_ : Aside0 (Below w0.heap.size w0 (w17.setCell ⟨go12, (x15_1 : Int).toNat, none⟩ (.int .i64 (wrap64 ((rd x1_1 x15_1) + (rd l0 0)))))) := ⟨be_ HB.out⟩
          (try clear HO_1)
          (try clear HK)
          (try clear HB)
          generalize (w17.setCell ⟨go12, (x15_1 : Int).toNat, none⟩ (.int .i64 (wrap64 ((rd x1_1 x15_1) + (rd l0 0))))) = w19 at n0_ n1_ n2_ ⊢
          have HO_1 := n0_
          have HK := n1_
          have HB := n2_
          clear n0_ n1_ n2_
          have q20 : (1 : Int) ≤ ((l0.length : Int) : Int) := of_decide_eq_true (by first | (with_reducible assumption) | assumption)
          obtain ⟨i020, hi020, _, hsz20, _⟩ := info_parts info3
          have hroom20 : l0.length ≤ c0 := HC0.out
          have hC20 : Kd.C (Kd.int .i64) _ (some ad376) l0.length l0 := (Kd.C_kept_now HR0.out HK.out)
          have hcut20 := cut_from (P := Tryd.prog) 24 3 .i64 Tryd.underlying24 hi020 1 hsz20 (some ad376) l0.length c0 1 (by omega) q20
          have hr20 := Kd.C_drop (m := (1 : Int).toNat) (c := c0) hC20 (by omega) hroom20
          obtain ⟨A20, hA20⟩ : ∃ A1, A1 = (if c0 = (1 : Int).toNat then (some ad376) else ((some ad376) : Option Addr).map (·.add ((1 : Int).toNat * 1))) := ⟨_, rfl⟩
          obtain ⟨c20, hc20⟩ : ∃ c1, c1 = c0 - (1 : Int).toNat := ⟨_, rfl⟩
          have hy20 : y378.length = l0.length - (1 : Int).toNat := (by rw [Ny378.out, List.length_drop] <;> omega)
          rw [show (l0).drop (1 : Int).toNat = y378 from Ny378.out.symm] at hr20
          replace hr20 : Kd.C (Kd.int .i64) _ A20 y378.length y378 := (by rw [hA20]; exact hr20)
          rw [← hy20, ← hA20, ← hc20] at hcut20
          have HR381 := Aside0.mk hr20
          have HC381 := Aside0.mk (show y378.length ≤ c20 from by rw [hy20, hc20]; exact Nat.sub_le_sub_right hroom20 _)
          clear hr20 hC20 hroom20 hi020 hsz20 hc20
          have KY20 := Aside0.mk hy20
          have KA20 := Aside0.mk hA20
          clear hy20 hA20
          have KL20 := Aside0.mk (show 1 ≤ l0.length from by omega)
          replace q20 := eq_true q20
          try go_wp2_with (first | ((with_reducible refine gate_callee (f := 45) rfl ?_); refine goesL_ (some 30) rfl rfl Tryd.func45 (by kernel_rfl) rfl #[.slice A20 y378.length c20, .slice (some ⟨go12, 0, none⟩) x1_1.length co7] rfl ar_ ?_; (with_reducible refine (ih k1 (by have := HK1.out; omega) _ _ y378 (fun k_ => some k_ = (.slice (some ⟨go12, 0, none⟩) x1_1.length co7 : Value).ownBlock) (.slice (some ⟨go12, 0, none⟩) x1_1.length co7) y377 t382 t383 w0 _ ?side1 ?side2 ?side3 ?side4 A14.out).mono ?_); (case side1 => repeat (first | (with_reducible first | exact HB.out | apply below_alloc | apply pw_below_drewN | apply below_drew1) | exact HB.out)); (case side2 => exact fun W_ hk_ => (show Kd.C (Kd.int .i64) W_ A20 y378.length y378 from by rw [Ny378.out, KA20.out]; exact Kd.C_drop (m := 1) (c := c0) (Kd.C_kept_call HR0.out (by repeat (first | (with_reducible first | exact HK.out | apply Kept.alloc | apply Kept.drewN | apply Kept.drew) | exact HK.out)) (fun k_ hs_ => (fun e_ => (HO_1.out.1 k_ e_.symm)) hs_) W_ hk_) KL20.out HC0.out)); (case side3 => exact HC381.out); (case side4 => exact Kd.R_tight rfl HO_1.out); rintro e w21 ⟨rfl, hy0, hb, hkp⟩; refine ⟨_, rfl, ?_⟩; have n0_ := Aside0.mk (Kd.R_reok rfl hy0 (fun k_ e_ => HO_1.out.1 k_ e_)); have n1_ := Aside0.mk (Kept.then_ (S := (fun k_ => P1_ k_)) (by repeat (first | (with_reducible first | exact HK.out | apply Kept.alloc | apply Kept.drewN | apply Kept.drew) | exact HK.out)) hkp (fun k_ hs_ => (fun e_ => (HO_1.out.1 k_ e_.symm)) hs_)); have n2_ := Aside0.mk (hb); clear HO_1; clear HK; clear HB; have HO_1 := n0_; have HK := n1_; have HB := n2_; clear n0_ n1_ n2_; (try clear hb); (try clear hkp); (try clear hy0)))
          have n0_ := Aside0.mk (Kd.R_drew HO_1.out)
          have n1_ := Aside0.mk (Kept.drew HK.out)
          have n2_ := Aside0.mk (below_drew1 HB.out)
          clear HO_1
          clear HK
          clear HB
          have HO_1 := n0_
          have HK := n1_
          have HB := n2_
          clear n0_ n1_ n2_
          have p384 : 0 ≤ (x15_1 : Int) := of_decide_eq_true (by first | (with_reducible assumption) | assumption)
          have q384 : x15_1 < (t383.length : Int) := (by have h_ : (x15_1 : Int) < ((x1_1.length : Int) : Int) := of_decide_eq_true (by first | (with_reducible assumption) | assumption); have e_ := (Kd.R_reads' HO_1.out).1; omega)
          have ql384 : ((x15_1 : Int) < ((x1_1.length : Int) : Int)) = True := eq_true (of_decide_eq_true (by first | (with_reducible assumption) | assumption))
          obtain ⟨ad384, e384, hx384_0⟩ := Kd.at_int (Kd.R_reads' HO_1.out).2.2 x15_1 p384 q384
          obtain rfl : (⟨go12, 0, none⟩ : Addr) = ad384 := (by injection e384)
          (first | simp only [add_plain] at hx384_0 | simp only [add_at] at hx384_0 | simp only [Addr.add, Nat.zero_add] at hx384_0 | skip)
          replace p384 := eq_true p384
          replace q384 := eq_true q384
          have p385 : 0 ≤ (0 : Int) := (by omega)
          have q385 : 0 < (l0.length : Int) := of_decide_eq_true (by first | (with_reducible assumption) | assumption)
          obtain ⟨ad385, e385, hx385_0⟩ := Kd.at_int (Kd.C_kept_now HR0.out HK.out) 0 p385 q385
          have hw385_0 := hx385_0
          (try rw [show ((0 : Int)).toNat = 0 from rfl] at hw385_0)
          (try rw [show 0 * 1 = 0 from rfl] at hw385_0)
          (try rw [Addr.add_zero'] at hw385_0)
          obtain rfl : ad376 = ad385 := (by injection e385)
          have qi385 : (0 < l0.length) = True := eq_true (by omega)
          (try rw [show ((0 : Int)).toNat = 0 from rfl] at hx385_0)
          (try rw [Addr.add_zero'] at hx385_0)
          replace p385 := eq_true p385
          replace q385 := eq_true q385
          have p16 : 0 ≤ (x15_1 : Int) := of_decide_eq_true (by first | (with_reducible assumption) | assumption)
          have q16 : (x15_1 : Int) < ((x1_1.length : Int) : Int) := of_decide_eq_true (by first | (with_reducible assumption) | assumption)
          obtain ⟨hx16_0, hf16_0⟩ := Kd.R_celln 0 HO_1.out (x15_1 : Int) p16 q16
          replace p16 := eq_true p16
          replace q16 := eq_true q16
          have HP23 := Kd.R_putn HO_1.out (x15_1 : Int) (wrap64 ((rd t383 x15_1) - (rd l0 0)))
          rw [← Ny386.out] at HP23
          have HQ23 := Aside0.mk HP23
          clear HP23
          refine start_ (n := 10) (S := fun w' => w'.cell? ⟨go12, (x15_1).toNat, none⟩ = some (.int .i64 (rd t383 x15_1)) ∧ w'.cell? ad376 = some (.int .i64 (rd l0 0))) (ds := [9]) #[false, false, false, false, false, false, false, false, false, false] (by kernel_rfl) rfl rfl ⟨hx384_0, (by have h_ := Kd.foot_int (HR0.out _ (by repeat (first | exact HK.out | apply Kept.alloc | apply Kept.drewN | apply Kept.drew | refine Kept.setCell ?_ HMgo12.out _))) (0 : Int) (of_eq_true p385) (of_eq_true q385); rw [show ((0 : Int)).toNat = 0 from rfl, Addr.add_zero'] at h_; exact h_)⟩ (fun hHeld => ?_); refine with_tabW impl_best.tab11 impl_best.bits11 (fun HT_ HW_ => ?_)
          generalize w21.drew = w22 at HO_1 HK HB HQ23 hf16_0 hx16_0 hx384_0 hx385_0 hHeld ⊢
          refine pl_ 0 (some 39) 10 1 HT_.out ?_
          refine pl_ 1 (some 40) 10 3 HT_.out ?_
          refine pl_ 2 (some 41) 10 7 HT_.out ?_
          refine pl_ 4 (some 43) 10 23 HT_.out ?_
          refine pl_ 5 (some 44) 10 55 HT_.out ?_
          refine tk_ 3 (some 42) 10 63 HT_.out HW_.out hHeld (hy := by rintro w' ⟨s0, s1⟩; go_simp; with_reducible rfl) (h := ?_)
          refine tk_ 6 (some 45) 10 127 HT_.out HW_.out hHeld (hy := by rintro w' ⟨s0, s1⟩; go_simp; with_reducible rfl) (h := ?_)
          refine pl_ 7 (some 46) 10 255 HT_.out ?_
          refine pl_ 8 (some 47) 10 511 HT_.out ?_
          refine last_ (i := 9) (N := none) (bl_ 10 1023) rfl rfl (one_of HT_.out (by kernel_rfl)) (by decide) (fun K hK => ?_)
          refine skip_ (w1 := ?_) (by rfl) rfl ?_ ?_
          rotate_left
          ·
           go_simp
           rfl
          refine hK.out _ _ ?_
          clear hK K
          refine done_ (done_of HT_.out (by kernel_rfl)) ?_
          try go_wp2
          (try simp only [← hl1_1])
          go_roundg k1
          case measure => have := HK1.out; omega
          case rel => exact ⟨(y386), (t382), (wrap64 (x15_1 + 1)), (by first | rfl | (simp; done) | (simp [*]; done)), (by first | rfl | (simp; done) | (simp [*]; done)), H', ⟨by have := HK1.out; omega⟩, ⟨by (try simp only [hl1_1]); (with_reducible repeat (first | apply Kd.R_alloc | apply Kd.R_drewN | apply Kd.R_drew)); exact HQ23.out⟩, ⟨by repeat (first | (with_reducible first | exact HK.out | apply Kept.alloc | apply Kept.drewN | apply Kept.drew | refine Kept.setCell ?_ HMgo12.out _) | exact HK.out)⟩, ⟨be_ HB.out⟩⟩
         ·
          rw [if_neg c15] at H
          have c15b0 : decide (x5_1 < 0) = false := decide_eq_false c15
          clear c15
          by_cases c24 : t382 < x5_1
          ·
           rw [if_pos c24] at H
           have c24b0 : decide (t382 < x5_1) = true := decide_eq_true c24
           clear c24
           obtain ⟨y389, hy389⟩ : ∃ y_ : List Int, y_ = (t383.set (x15_1 : Int).toNat (wrap64 ((rd t383 x15_1) - (rd l0 0)))) := ⟨_, rfl⟩
           replace H : (impl_best.l0 k1 l0 y389 t382 (l1.length : Int) (wrap64 (x15_1 + 1))) = some (r1, r2) := by first | (rw [hy389]; with_reducible exact H) | (have H2_ := (Option.bind_some _ _).symm.trans H; rw [hy389]; with_reducible exact H2_) | (have H2_ := (Option.bind_some _ _).symm.trans H; with_reducible exact H2_) | with_reducible exact H | (rw [hy389]; exact H) | exact H
           have Ny389 := Aside0.mk hy389
           clear hy389
           have H' := Aside0.mk H
           clear H
           try go_wp2
           have n0_ := Aside0.mk (Kd.R_drew HO_1.out)
           have n1_ := Aside0.mk (Kept.drew HK.out)
           have n2_ := Aside0.mk (below_drew1 HB.out)
           clear HO_1
           clear HK
           clear HB
           have HO_1 := n0_
           have HK := n1_
           have HB := n2_
           clear n0_ n1_ n2_
           have p375 : 0 ≤ (x15_1 : Int) := of_decide_eq_true (by first | (with_reducible assumption) | assumption)
           have q375 : x15_1 < (x1_1.length : Int) := of_decide_eq_true (by first | (with_reducible assumption) | assumption)
           obtain ⟨ad375, e375, hx375_0⟩ := Kd.at_int (Kd.R_reads' HO_1.out).2.2 x15_1 p375 q375
           cases e375
           replace p375 := eq_true p375
           replace q375 := eq_true q375
           have p376 : 0 ≤ (0 : Int) := (by omega)
           have q376 : 0 < (l0.length : Int) := of_decide_eq_true (by first | (with_reducible assumption) | assumption)
           obtain ⟨ad376, e376, hx376_0⟩ := Kd.at_int (Kd.C_kept_now HR0.out HK.out) 0 p376 q376
           have hw376_0 := hx376_0
           (try rw [show ((0 : Int)).toNat = 0 from rfl] at hw376_0)
           (try rw [show 0 * 1 = 0 from rfl] at hw376_0)
           (try rw [Addr.add_zero'] at hw376_0)
           cases e376
           have qi376 : (0 < l0.length) = True := eq_true (by omega)
           (try rw [show ((0 : Int)).toNat = 0 from rfl] at hx376_0)
           (try rw [Addr.add_zero'] at hx376_0)
           replace p376 := eq_true p376
           replace q376 := eq_true q376
           have p12 : 0 ≤ (x15_1 : Int) := of_decide_eq_true (by first | (with_reducible assumption) | assumption)
           have q12 : (x15_1 : Int) < ((x1_1.length : Int) : Int) := of_decide_eq_true (by first | (with_reducible assumption) | assumption)
           obtain ⟨go12, co12, eo12, gb12, gl12, cl12, HG12⟩ := Kd.R_form HO_1.out (by omega)
           (first | cases eo12 | (injection eo12 with ea_ en_ ec_; (first | subst ea_ | (injection ea_ with ea_; subst ea_)); subst ec_; clear en_))
           have GB12 := Aside0.mk gb12
           have GG12 := Aside0.mk HG12
           clear gb12 gl12 HG12
           have HMgo12 := Aside0.mk (show (P1_ go12 ∨ w.heap.size ≤ go12) from (HO_1.out.1 _ rfl))
           (first | simp only [add_plain] at hx375_0 | skip)
           obtain ⟨hx12_0, hf12_0⟩ := Kd.R_celln 0 HO_1.out (x15_1 : Int) p12 q12
           replace p12 := eq_true p12
           replace q12 := eq_true q12
           have HP27 := Kd.R_putn HO_1.out (x15_1 : Int) (wrap64 ((rd x1_1 x15_1) + (rd l0 0)))
           rw [← Ny377.out] at HP27
           have HQ27 := Aside0.mk HP27
           clear HP27
           refine start_ (n := 10) (S := fun w' => w'.cell? ⟨go12, (x15_1).toNat, none⟩ = some (.int .i64 (rd x1_1 x15_1)) ∧ w'.cell? ad376 = some (.int .i64 (rd l0 0))) (ds := [9]) #[false, false, false, false, false, false, false, false, false, false] (by kernel_rfl) rfl rfl ⟨hx375_0, (by have h_ := Kd.foot_int (HR0.out _ (by repeat (first | exact HK.out | apply Kept.alloc | apply Kept.drewN | apply Kept.drew | refine Kept.setCell ?_ HMgo12.out _))) (0 : Int) (of_eq_true p376) (of_eq_true q376); rw [show ((0 : Int)).toNat = 0 from rfl, Addr.add_zero'] at h_; exact h_)⟩ (fun hHeld => ?_); refine with_tabW impl_best.tab7 impl_best.bits7 (fun HT_ HW_ => ?_)
           generalize wr.drew = w26 at HO_1 HK HB GG12 HQ27 hf12_0 hx12_0 hx375_0 hx376_0 hHeld ⊢
           refine pl_ 0 (some 18) 10 1 HT_.out ?_
           refine pl_ 1 (some 19) 10 3 HT_.out ?_
           refine pl_ 2 (some 20) 10 7 HT_.out ?_
           refine pl_ 4 (some 22) 10 23 HT_.out ?_
           refine pl_ 5 (some 23) 10 55 HT_.out ?_
           refine tk_ 3 (some 21) 10 63 HT_.out HW_.out hHeld (hy := by rintro w' ⟨s0, s1⟩; go_simp; with_reducible rfl) (h := ?_)
           refine tk_ 6 (some 24) 10 127 HT_.out HW_.out hHeld (hy := by rintro w' ⟨s0, s1⟩; go_simp; with_reducible rfl) (h := ?_)
           refine pl_ 7 (some 25) 10 255 HT_.out ?_
           refine pl_ 8 (some 26) 10 511 HT_.out ?_
           refine last_ (i := 9) (N := none) (bl_ 10 1023) rfl rfl (one_of HT_.out (by kernel_rfl)) (by decide) (fun K hK => ?_)
           refine skip_ (w1 := ?_) (by rfl) rfl ?_ ?_
           rotate_left
           ·
            go_simp
            rfl
           refine hK.out _ _ ?_
           clear hK K
           refine done_ (done_of HT_.out (by kernel_rfl)) ?_
           have n0_ : Aside0 (Kd.R (Kd.int .i64) 3 (w26.setCell ⟨go12, (x15_1 : Int).toNat, none⟩ (.int .i64 (wrap64 ((rd x1_1 x15_1) + (rd l0 0))))) w0.heap.size (fun k_ => (P1_ k_ ∨ w.heap.size ≤ k_)) (.slice (some ⟨go12, 0, none⟩) x1_1.length co7) y377) := ⟨by (with_reducible repeat (first | apply Kd.R_alloc | apply Kd.R_drewN | apply Kd.R_drew)); exact HQ27.out⟩
           have n1_ : Aside0 (Kept w (w26.setCell ⟨go12, (x15_1 : Int).toNat, none⟩ (.int .i64 (wrap64 ((rd x1_1 x15_1) + (rd l0 0))))) (fun k_ => P1_ k_)) := ⟨by repeat (first | (with_reducible first | exact HK.out | apply Kept.alloc | apply Kept.drewN | apply Kept.drew | refine Kept.setCell ?_ HMgo12.out _) | exact HK.out)⟩
           have n2_ : Aside0 (Below w0.heap.size w0 (w26.setCell ⟨go12, (x15_1 : Int).toNat, none⟩ (.int .i64 (wrap64 ((rd x1_1 x15_1) + (rd l0 0)))))) := ⟨be_ HB.out⟩
           (try clear HO_1)
           (try clear HK)
           (try clear HB)
           generalize (w26.setCell ⟨go12, (x15_1 : Int).toNat, none⟩ (.int .i64 (wrap64 ((rd x1_1 x15_1) + (rd l0 0))))) = w28 at n0_ n1_ n2_ ⊢
           have HO_1 := n0_
           have HK := n1_
           have HB := n2_
           clear n0_ n1_ n2_
           have q29 : (1 : Int) ≤ ((l0.length : Int) : Int) := of_decide_eq_true (by first | (with_reducible assumption) | assumption)
           obtain ⟨i029, hi029, _, hsz29, _⟩ := info_parts info3
           have hroom29 : l0.length ≤ c0 := HC0.out
           have hC29 : Kd.C (Kd.int .i64) _ (some ad376) l0.length l0 := (Kd.C_kept_now HR0.out HK.out)
           have hcut29 := cut_from (P := Tryd.prog) 24 3 .i64 Tryd.underlying24 hi029 1 hsz29 (some ad376) l0.length c0 1 (by omega) q29
           have hr29 := Kd.C_drop (m := (1 : Int).toNat) (c := c0) hC29 (by omega) hroom29
           obtain ⟨A29, hA29⟩ : ∃ A1, A1 = (if c0 = (1 : Int).toNat then (some ad376) else ((some ad376) : Option Addr).map (·.add ((1 : Int).toNat * 1))) := ⟨_, rfl⟩
           obtain ⟨c29, hc29⟩ : ∃ c1, c1 = c0 - (1 : Int).toNat := ⟨_, rfl⟩
           have hy29 : y378.length = l0.length - (1 : Int).toNat := (by rw [Ny378.out, List.length_drop] <;> omega)
           rw [show (l0).drop (1 : Int).toNat = y378 from Ny378.out.symm] at hr29
           replace hr29 : Kd.C (Kd.int .i64) _ A29 y378.length y378 := (by rw [hA29]; exact hr29)
           rw [← hy29, ← hA29, ← hc29] at hcut29
           have HR381 := Aside0.mk hr29
           have HC381 := Aside0.mk (show y378.length ≤ c29 from by rw [hy29, hc29]; exact Nat.sub_le_sub_right hroom29 _)
           clear hr29 hC29 hroom29 hi029 hsz29 hc29
           have KY29 := Aside0.mk hy29
           have KA29 := Aside0.mk hA29
           clear hy29 hA29
           have KL29 := Aside0.mk (show 1 ≤ l0.length from by omega)
           replace q29 := eq_true q29
           try go_wp2_with (first | ((with_reducible refine gate_callee (f := 45) rfl ?_); refine goesL_ (some 30) rfl rfl Tryd.func45 (by kernel_rfl) rfl #[.slice A29 y378.length c29, .slice (some ⟨go12, 0, none⟩) x1_1.length co7] rfl ar_ ?_; (with_reducible refine (ih k1 (by have := HK1.out; omega) _ _ y378 (fun k_ => some k_ = (.slice (some ⟨go12, 0, none⟩) x1_1.length co7 : Value).ownBlock) (.slice (some ⟨go12, 0, none⟩) x1_1.length co7) y377 t382 t383 w0 _ ?side1 ?side2 ?side3 ?side4 A14.out).mono ?_); (case side1 => repeat (first | (with_reducible first | exact HB.out | apply below_alloc | apply pw_below_drewN | apply below_drew1) | exact HB.out)); (case side2 => exact fun W_ hk_ => (show Kd.C (Kd.int .i64) W_ A29 y378.length y378 from by rw [Ny378.out, KA29.out]; exact Kd.C_drop (m := 1) (c := c0) (Kd.C_kept_call HR0.out (by repeat (first | (with_reducible first | exact HK.out | apply Kept.alloc | apply Kept.drewN | apply Kept.drew) | exact HK.out)) (fun k_ hs_ => (fun e_ => (HO_1.out.1 k_ e_.symm)) hs_) W_ hk_) KL29.out HC0.out)); (case side3 => exact HC381.out); (case side4 => exact Kd.R_tight rfl HO_1.out); rintro e w30 ⟨rfl, hy0, hb, hkp⟩; refine ⟨_, rfl, ?_⟩; have n0_ := Aside0.mk (Kd.R_reok rfl hy0 (fun k_ e_ => HO_1.out.1 k_ e_)); have n1_ := Aside0.mk (Kept.then_ (S := (fun k_ => P1_ k_)) (by repeat (first | (with_reducible first | exact HK.out | apply Kept.alloc | apply Kept.drewN | apply Kept.drew) | exact HK.out)) hkp (fun k_ hs_ => (fun e_ => (HO_1.out.1 k_ e_.symm)) hs_)); have n2_ := Aside0.mk (hb); clear HO_1; clear HK; clear HB; have HO_1 := n0_; have HK := n1_; have HB := n2_; clear n0_ n1_ n2_; (try clear hb); (try clear hkp); (try clear hy0)))
           have n0_ := Aside0.mk (Kd.R_drew HO_1.out)
           have n1_ := Aside0.mk (Kept.drew HK.out)
           have n2_ := Aside0.mk (below_drew1 HB.out)
           clear HO_1
           clear HK
           clear HB
           have HO_1 := n0_
           have HK := n1_
           have HB := n2_
           clear n0_ n1_ n2_
           have p387 : 0 ≤ (x15_1 : Int) := of_decide_eq_true (by first | (with_reducible assumption) | assumption)
           have q387 : x15_1 < (t383.length : Int) := (by have h_ : (x15_1 : Int) < ((x1_1.length : Int) : Int) := of_decide_eq_true (by first | (with_reducible assumption) | assumption); have e_ := (Kd.R_reads' HO_1.out).1; omega)
           have ql387 : ((x15_1 : Int) < ((x1_1.length : Int) : Int)) = True := eq_true (of_decide_eq_true (by first | (with_reducible assumption) | assumption))
           obtain ⟨ad387, e387, hx387_0⟩ := Kd.at_int (Kd.R_reads' HO_1.out).2.2 x15_1 p387 q387
           obtain rfl : (⟨go12, 0, none⟩ : Addr) = ad387 := (by injection e387)
           (first | simp only [add_plain] at hx387_0 | simp only [add_at] at hx387_0 | simp only [Addr.add, Nat.zero_add] at hx387_0 | skip)
           replace p387 := eq_true p387
           replace q387 := eq_true q387
           have p388 : 0 ≤ (0 : Int) := (by omega)
           have q388 : 0 < (l0.length : Int) := of_decide_eq_true (by first | (with_reducible assumption) | assumption)
           obtain ⟨ad388, e388, hx388_0⟩ := Kd.at_int (Kd.C_kept_now HR0.out HK.out) 0 p388 q388
           have hw388_0 := hx388_0
           (try rw [show ((0 : Int)).toNat = 0 from rfl] at hw388_0)
           (try rw [show 0 * 1 = 0 from rfl] at hw388_0)
           (try rw [Addr.add_zero'] at hw388_0)
           obtain rfl : ad376 = ad388 := (by injection e388)
           have qi388 : (0 < l0.length) = True := eq_true (by omega)
           (try rw [show ((0 : Int)).toNat = 0 from rfl] at hx388_0)
           (try rw [Addr.add_zero'] at hx388_0)
           replace p388 := eq_true p388
           replace q388 := eq_true q388
           have p25 : 0 ≤ (x15_1 : Int) := of_decide_eq_true (by first | (with_reducible assumption) | assumption)
           have q25 : (x15_1 : Int) < ((x1_1.length : Int) : Int) := of_decide_eq_true (by first | (with_reducible assumption) | assumption)
           obtain ⟨hx25_0, hf25_0⟩ := Kd.R_celln 0 HO_1.out (x15_1 : Int) p25 q25
           replace p25 := eq_true p25
           replace q25 := eq_true q25
           have HP32 := Kd.R_putn HO_1.out (x15_1 : Int) (wrap64 ((rd t383 x15_1) - (rd l0 0)))
           rw [← Ny389.out] at HP32
           have HQ32 := Aside0.mk HP32
           clear HP32
           refine start_ (n := 10) (S := fun w' => w'.cell? ⟨go12, (x15_1).toNat, none⟩ = some (.int .i64 (rd t383 x15_1)) ∧ w'.cell? ad376 = some (.int .i64 (rd l0 0))) (ds := [9]) #[false, false, false, false, false, false, false, false, false, false] (by kernel_rfl) rfl rfl ⟨hx387_0, (by have h_ := Kd.foot_int (HR0.out _ (by repeat (first | exact HK.out | apply Kept.alloc | apply Kept.drewN | apply Kept.drew | refine Kept.setCell ?_ HMgo12.out _))) (0 : Int) (of_eq_true p388) (of_eq_true q388); rw [show ((0 : Int)).toNat = 0 from rfl, Addr.add_zero'] at h_; exact h_)⟩ (fun hHeld => ?_); refine with_tabW impl_best.tab11 impl_best.bits11 (fun HT_ HW_ => ?_)
           generalize w30.drew = w31 at HO_1 HK HB HQ32 hf25_0 hx25_0 hx387_0 hx388_0 hHeld ⊢
           refine pl_ 0 (some 39) 10 1 HT_.out ?_
           refine pl_ 1 (some 40) 10 3 HT_.out ?_
           refine pl_ 2 (some 41) 10 7 HT_.out ?_
           refine pl_ 4 (some 43) 10 23 HT_.out ?_
           refine pl_ 5 (some 44) 10 55 HT_.out ?_
           refine tk_ 3 (some 42) 10 63 HT_.out HW_.out hHeld (hy := by rintro w' ⟨s0, s1⟩; go_simp; with_reducible rfl) (h := ?_)
           refine tk_ 6 (some 45) 10 127 HT_.out HW_.out hHeld (hy := by rintro w' ⟨s0, s1⟩; go_simp; with_reducible rfl) (h := ?_)
           refine pl_ 7 (some 46) 10 255 HT_.out ?_
           refine pl_ 8 (some 47) 10 511 HT_.out ?_
           refine last_ (i := 9) (N := none) (bl_ 10 1023) rfl rfl (one_of HT_.out (by kernel_rfl)) (by decide) (fun K hK => ?_)
           refine skip_ (w1 := ?_) (by rfl) rfl ?_ ?_
           rotate_left
           ·
            go_simp
            rfl
           refine hK.out _ _ ?_
           clear hK K
           refine done_ (done_of HT_.out (by kernel_rfl)) ?_
           try go_wp2
           (try simp only [← hl1_1])
           go_roundg k1
           case measure => have := HK1.out; omega
           case rel => exact ⟨(y389), (t382), (wrap64 (x15_1 + 1)), (by first | rfl | (simp; done) | (simp [*]; done)), (by first | rfl | (simp; done) | (simp [*]; done)), H', ⟨by have := HK1.out; omega⟩, ⟨by (try simp only [hl1_1]); (with_reducible repeat (first | apply Kd.R_alloc | apply Kd.R_drewN | apply Kd.R_drew)); exact HQ32.out⟩, ⟨by repeat (first | (with_reducible first | exact HK.out | apply Kept.alloc | apply Kept.drewN | apply Kept.drew | refine Kept.setCell ?_ HMgo12.out _) | exact HK.out)⟩, ⟨be_ HB.out⟩⟩
          ·
           rw [if_neg c24] at H
           have c24b0 : decide (t382 < x5_1) = false := decide_eq_false c24
           clear c24
           obtain ⟨y392, hy392⟩ : ∃ y_ : List Int, y_ = (t383.set (x15_1 : Int).toNat (wrap64 ((rd t383 x15_1) - (rd l0 0)))) := ⟨_, rfl⟩
           replace H : (impl_best.l0 k1 l0 y392 x5_1 (l1.length : Int) (wrap64 (x15_1 + 1))) = some (r1, r2) := by first | (rw [hy392]; with_reducible exact H) | (have H2_ := (Option.bind_some _ _).symm.trans H; rw [hy392]; with_reducible exact H2_) | (have H2_ := (Option.bind_some _ _).symm.trans H; with_reducible exact H2_) | with_reducible exact H | (rw [hy392]; exact H) | exact H
           have Ny392 := Aside0.mk hy392
           clear hy392
           have H' := Aside0.mk H
           clear H
           try go_wp2
           have n0_ := Aside0.mk (Kd.R_drew HO_1.out)
           have n1_ := Aside0.mk (Kept.drew HK.out)
           have n2_ := Aside0.mk (below_drew1 HB.out)
           clear HO_1
           clear HK
           clear HB
           have HO_1 := n0_
           have HK := n1_
           have HB := n2_
           clear n0_ n1_ n2_
           have p375 : 0 ≤ (x15_1 : Int) := of_decide_eq_true (by first | (with_reducible assumption) | assumption)
           have q375 : x15_1 < (x1_1.length : Int) := of_decide_eq_true (by first | (with_reducible assumption) | assumption)
           obtain ⟨ad375, e375, hx375_0⟩ := Kd.at_int (Kd.R_reads' HO_1.out).2.2 x15_1 p375 q375
           cases e375
           replace p375 := eq_true p375
           replace q375 := eq_true q375
           have p376 : 0 ≤ (0 : Int) := (by omega)
           have q376 : 0 < (l0.length : Int) := of_decide_eq_true (by first | (with_reducible assumption) | assumption)
           obtain ⟨ad376, e376, hx376_0⟩ := Kd.at_int (Kd.C_kept_now HR0.out HK.out) 0 p376 q376
           have hw376_0 := hx376_0
           (try rw [show ((0 : Int)).toNat = 0 from rfl] at hw376_0)
           (try rw [show 0 * 1 = 0 from rfl] at hw376_0)
           (try rw [Addr.add_zero'] at hw376_0)
           cases e376
           have qi376 : (0 < l0.length) = True := eq_true (by omega)
           (try rw [show ((0 : Int)).toNat = 0 from rfl] at hx376_0)
           (try rw [Addr.add_zero'] at hx376_0)
           replace p376 := eq_true p376
           replace q376 := eq_true q376
           have p12 : 0 ≤ (x15_1 : Int) := of_decide_eq_true (by first | (with_reducible assumption) | assumption)
           have q12 : (x15_1 : Int) < ((x1_1.length : Int) : Int) := of_decide_eq_true (by first | (with_reducible assumption) | assumption)
           obtain ⟨go12, co12, eo12, gb12, gl12, cl12, HG12⟩ := Kd.R_form HO_1.out (by omega)
           (first | cases eo12 | (injection eo12 with ea_ en_ ec_; (first | subst ea_ | (injection ea_ with ea_; subst ea_)); subst ec_; clear en_))
           have GB12 := Aside0.mk gb12
           have GG12 := Aside0.mk HG12
           clear gb12 gl12 HG12
           have HMgo12 := Aside0.mk (show (P1_ go12 ∨ w.heap.size ≤ go12) from (HO_1.out.1 _ rfl))
           (first | simp only [add_plain] at hx375_0 | skip)
           obtain ⟨hx12_0, hf12_0⟩ := Kd.R_celln 0 HO_1.out (x15_1 : Int) p12 q12
           replace p12 := eq_true p12
           replace q12 := eq_true q12
           have HP35 := Kd.R_putn HO_1.out (x15_1 : Int) (wrap64 ((rd x1_1 x15_1) + (rd l0 0)))
           rw [← Ny377.out] at HP35
           have HQ35 := Aside0.mk HP35
           clear HP35
           refine start_ (n := 10) (S := fun w' => w'.cell? ⟨go12, (x15_1).toNat, none⟩ = some (.int .i64 (rd x1_1 x15_1)) ∧ w'.cell? ad376 = some (.int .i64 (rd l0 0))) (ds := [9]) #[false, false, false, false, false, false, false, false, false, false] (by kernel_rfl) rfl rfl ⟨hx375_0, (by have h_ := Kd.foot_int (HR0.out _ (by repeat (first | exact HK.out | apply Kept.alloc | apply Kept.drewN | apply Kept.drew | refine Kept.setCell ?_ HMgo12.out _))) (0 : Int) (of_eq_true p376) (of_eq_true q376); rw [show ((0 : Int)).toNat = 0 from rfl, Addr.add_zero'] at h_; exact h_)⟩ (fun hHeld => ?_); refine with_tabW impl_best.tab7 impl_best.bits7 (fun HT_ HW_ => ?_)
           generalize wr.drew = w34 at HO_1 HK HB GG12 HQ35 hf12_0 hx12_0 hx375_0 hx376_0 hHeld ⊢
           refine pl_ 0 (some 18) 10 1 HT_.out ?_
           refine pl_ 1 (some 19) 10 3 HT_.out ?_
           refine pl_ 2 (some 20) 10 7 HT_.out ?_
           refine pl_ 4 (some 22) 10 23 HT_.out ?_
           refine pl_ 5 (some 23) 10 55 HT_.out ?_
           refine tk_ 3 (some 21) 10 63 HT_.out HW_.out hHeld (hy := by rintro w' ⟨s0, s1⟩; go_simp; with_reducible rfl) (h := ?_)
           refine tk_ 6 (some 24) 10 127 HT_.out HW_.out hHeld (hy := by rintro w' ⟨s0, s1⟩; go_simp; with_reducible rfl) (h := ?_)
           refine pl_ 7 (some 25) 10 255 HT_.out ?_
           refine pl_ 8 (some 26) 10 511 HT_.out ?_
           refine last_ (i := 9) (N := none) (bl_ 10 1023) rfl rfl (one_of HT_.out (by kernel_rfl)) (by decide) (fun K hK => ?_)
           refine skip_ (w1 := ?_) (by rfl) rfl ?_ ?_
           rotate_left
           ·
            go_simp
            rfl
           refine hK.out _ _ ?_
           clear hK K
           refine done_ (done_of HT_.out (by kernel_rfl)) ?_
           have n0_ : Aside0 (Kd.R (Kd.int .i64) 3 (w34.setCell ⟨go12, (x15_1 : Int).toNat, none⟩ (.int .i64 (wrap64 ((rd x1_1 x15_1) + (rd l0 0))))) w0.heap.size (fun k_ => (P1_ k_ ∨ w.heap.size ≤ k_)) (.slice (some ⟨go12, 0, none⟩) x1_1.length co7) y377) := ⟨by (with_reducible repeat (first | apply Kd.R_alloc | apply Kd.R_drewN | apply Kd.R_drew)); exact HQ35.out⟩
           have n1_ : Aside0 (Kept w (w34.setCell ⟨go12, (x15_1 : Int).toNat, none⟩ (.int .i64 (wrap64 ((rd x1_1 x15_1) + (rd l0 0))))) (fun k_ => P1_ k_)) := ⟨by repeat (first | (with_reducible first | exact HK.out | apply Kept.alloc | apply Kept.drewN | apply Kept.drew | refine Kept.setCell ?_ HMgo12.out _) | exact HK.out)⟩
           have n2_ : Aside0 (Below w0.heap.size w0 (w34.setCell ⟨go12, (x15_1 : Int).toNat, none⟩ (.int .i64 (wrap64 ((rd x1_1 x15_1) + (rd l0 0)))))) := ⟨be_ HB.out⟩
           (try clear HO_1)
           (try clear HK)
           (try clear HB)
           generalize (w34.setCell ⟨go12, (x15_1 : Int).toNat, none⟩ (.int .i64 (wrap64 ((rd x1_1 x15_1) + (rd l0 0))))) = w36 at n0_ n1_ n2_ ⊢
           have HO_1 := n0_
           have HK := n1_
           have HB := n2_
           clear n0_ n1_ n2_
           have q37 : (1 : Int) ≤ ((l0.length : Int) : Int) := of_decide_eq_true (by first | (with_reducible assumption) | assumption)
           obtain ⟨i037, hi037, _, hsz37, _⟩ := info_parts info3
           have hroom37 : l0.length ≤ c0 := HC0.out
           have hC37 : Kd.C (Kd.int .i64) _ (some ad376) l0.length l0 := (Kd.C_kept_now HR0.out HK.out)
           have hcut37 := cut_from (P := Tryd.prog) 24 3 .i64 Tryd.underlying24 hi037 1 hsz37 (some ad376) l0.length c0 1 (by omega) q37
           have hr37 := Kd.C_drop (m := (1 : Int).toNat) (c := c0) hC37 (by omega) hroom37
           obtain ⟨A37, hA37⟩ : ∃ A1, A1 = (if c0 = (1 : Int).toNat then (some ad376) else ((some ad376) : Option Addr).map (·.add ((1 : Int).toNat * 1))) := ⟨_, rfl⟩
           obtain ⟨c37, hc37⟩ : ∃ c1, c1 = c0 - (1 : Int).toNat := ⟨_, rfl⟩
           have hy37 : y378.length = l0.length - (1 : Int).toNat := (by rw [Ny378.out, List.length_drop] <;> omega)
           rw [show (l0).drop (1 : Int).toNat = y378 from Ny378.out.symm] at hr37
           replace hr37 : Kd.C (Kd.int .i64) _ A37 y378.length y378 := (by rw [hA37]; exact hr37)
           rw [← hy37, ← hA37, ← hc37] at hcut37
           have HR381 := Aside0.mk hr37
           have HC381 := Aside0.mk (show y378.length ≤ c37 from by rw [hy37, hc37]; exact Nat.sub_le_sub_right hroom37 _)
           clear hr37 hC37 hroom37 hi037 hsz37 hc37
           have KY37 := Aside0.mk hy37
           have KA37 := Aside0.mk hA37
           clear hy37 hA37
           have KL37 := Aside0.mk (show 1 ≤ l0.length from by omega)
           replace q37 := eq_true q37
           try go_wp2_with (first | ((with_reducible refine gate_callee (f := 45) rfl ?_); refine goesL_ (some 30) rfl rfl Tryd.func45 (by kernel_rfl) rfl #[.slice A37 y378.length c37, .slice (some ⟨go12, 0, none⟩) x1_1.length co7] rfl ar_ ?_; (with_reducible refine (ih k1 (by have := HK1.out; omega) _ _ y378 (fun k_ => some k_ = (.slice (some ⟨go12, 0, none⟩) x1_1.length co7 : Value).ownBlock) (.slice (some ⟨go12, 0, none⟩) x1_1.length co7) y377 t382 t383 w0 _ ?side1 ?side2 ?side3 ?side4 A14.out).mono ?_); (case side1 => repeat (first | (with_reducible first | exact HB.out | apply below_alloc | apply pw_below_drewN | apply below_drew1) | exact HB.out)); (case side2 => exact fun W_ hk_ => (show Kd.C (Kd.int .i64) W_ A37 y378.length y378 from by rw [Ny378.out, KA37.out]; exact Kd.C_drop (m := 1) (c := c0) (Kd.C_kept_call HR0.out (by repeat (first | (with_reducible first | exact HK.out | apply Kept.alloc | apply Kept.drewN | apply Kept.drew) | exact HK.out)) (fun k_ hs_ => (fun e_ => (HO_1.out.1 k_ e_.symm)) hs_) W_ hk_) KL37.out HC0.out)); (case side3 => exact HC381.out); (case side4 => exact Kd.R_tight rfl HO_1.out); rintro e w38 ⟨rfl, hy0, hb, hkp⟩; refine ⟨_, rfl, ?_⟩; have n0_ := Aside0.mk (Kd.R_reok rfl hy0 (fun k_ e_ => HO_1.out.1 k_ e_)); have n1_ := Aside0.mk (Kept.then_ (S := (fun k_ => P1_ k_)) (by repeat (first | (with_reducible first | exact HK.out | apply Kept.alloc | apply Kept.drewN | apply Kept.drew) | exact HK.out)) hkp (fun k_ hs_ => (fun e_ => (HO_1.out.1 k_ e_.symm)) hs_)); have n2_ := Aside0.mk (hb); clear HO_1; clear HK; clear HB; have HO_1 := n0_; have HK := n1_; have HB := n2_; clear n0_ n1_ n2_; (try clear hb); (try clear hkp); (try clear hy0)))
           have n0_ := Aside0.mk (Kd.R_drew HO_1.out)
           have n1_ := Aside0.mk (Kept.drew HK.out)
           have n2_ := Aside0.mk (below_drew1 HB.out)
           clear HO_1
           clear HK
           clear HB
           have HO_1 := n0_
           have HK := n1_
           have HB := n2_
           clear n0_ n1_ n2_
           have p390 : 0 ≤ (x15_1 : Int) := of_decide_eq_true (by first | (with_reducible assumption) | assumption)
           have q390 : x15_1 < (t383.length : Int) := (by have h_ : (x15_1 : Int) < ((x1_1.length : Int) : Int) := of_decide_eq_true (by first | (with_reducible assumption) | assumption); have e_ := (Kd.R_reads' HO_1.out).1; omega)
           have ql390 : ((x15_1 : Int) < ((x1_1.length : Int) : Int)) = True := eq_true (of_decide_eq_true (by first | (with_reducible assumption) | assumption))
           obtain ⟨ad390, e390, hx390_0⟩ := Kd.at_int (Kd.R_reads' HO_1.out).2.2 x15_1 p390 q390
           obtain rfl : (⟨go12, 0, none⟩ : Addr) = ad390 := (by injection e390)
           (first | simp only [add_plain] at hx390_0 | simp only [add_at] at hx390_0 | simp only [Addr.add, Nat.zero_add] at hx390_0 | skip)
           replace p390 := eq_true p390
           replace q390 := eq_true q390
           have p391 : 0 ≤ (0 : Int) := (by omega)
           have q391 : 0 < (l0.length : Int) := of_decide_eq_true (by first | (with_reducible assumption) | assumption)
           obtain ⟨ad391, e391, hx391_0⟩ := Kd.at_int (Kd.C_kept_now HR0.out HK.out) 0 p391 q391
           have hw391_0 := hx391_0
           (try rw [show ((0 : Int)).toNat = 0 from rfl] at hw391_0)
           (try rw [show 0 * 1 = 0 from rfl] at hw391_0)
           (try rw [Addr.add_zero'] at hw391_0)
           obtain rfl : ad376 = ad391 := (by injection e391)
           have qi391 : (0 < l0.length) = True := eq_true (by omega)
           (try rw [show ((0 : Int)).toNat = 0 from rfl] at hx391_0)
           (try rw [Addr.add_zero'] at hx391_0)
           replace p391 := eq_true p391
           replace q391 := eq_true q391
           have p33 : 0 ≤ (x15_1 : Int) := of_decide_eq_true (by first | (with_reducible assumption) | assumption)
           have q33 : (x15_1 : Int) < ((x1_1.length : Int) : Int) := of_decide_eq_true (by first | (with_reducible assumption) | assumption)
           obtain ⟨hx33_0, hf33_0⟩ := Kd.R_celln 0 HO_1.out (x15_1 : Int) p33 q33
           replace p33 := eq_true p33
           replace q33 := eq_true q33
           have HP40 := Kd.R_putn HO_1.out (x15_1 : Int) (wrap64 ((rd t383 x15_1) - (rd l0 0)))
           rw [← Ny392.out] at HP40
           have HQ40 := Aside0.mk HP40
           clear HP40
           refine start_ (n := 10) (S := fun w' => w'.cell? ⟨go12, (x15_1).toNat, none⟩ = some (.int .i64 (rd t383 x15_1)) ∧ w'.cell? ad376 = some (.int .i64 (rd l0 0))) (ds := [9]) #[false, false, false, false, false, false, false, false, false, false] (by kernel_rfl) rfl rfl ⟨hx390_0, (by have h_ := Kd.foot_int (HR0.out _ (by repeat (first | exact HK.out | apply Kept.alloc | apply Kept.drewN | apply Kept.drew | refine Kept.setCell ?_ HMgo12.out _))) (0 : Int) (of_eq_true p391) (of_eq_true q391); rw [show ((0 : Int)).toNat = 0 from rfl, Addr.add_zero'] at h_; exact h_)⟩ (fun hHeld => ?_); refine with_tabW impl_best.tab11 impl_best.bits11 (fun HT_ HW_ => ?_)
           generalize w38.drew = w39 at HO_1 HK HB HQ40 hf33_0 hx33_0 hx390_0 hx391_0 hHeld ⊢
           refine pl_ 0 (some 39) 10 1 HT_.out ?_
           refine pl_ 1 (some 40) 10 3 HT_.out ?_
           refine pl_ 2 (some 41) 10 7 HT_.out ?_
           refine pl_ 4 (some 43) 10 23 HT_.out ?_
           refine pl_ 5 (some 44) 10 55 HT_.out ?_
           refine tk_ 3 (some 42) 10 63 HT_.out HW_.out hHeld (hy := by rintro w' ⟨s0, s1⟩; go_simp; with_reducible rfl) (h := ?_)
           refine tk_ 6 (some 45) 10 127 HT_.out HW_.out hHeld (hy := by rintro w' ⟨s0, s1⟩; go_simp; with_reducible rfl) (h := ?_)
           refine pl_ 7 (some 46) 10 255 HT_.out ?_
           refine pl_ 8 (some 47) 10 511 HT_.out ?_
           refine last_ (i := 9) (N := none) (bl_ 10 1023) rfl rfl (one_of HT_.out (by kernel_rfl)) (by decide) (fun K hK => ?_)
           refine skip_ (w1 := ?_) (by rfl) rfl ?_ ?_
           rotate_left
           ·
            go_simp
            rfl
           refine hK.out _ _ ?_
           clear hK K
           refine done_ (done_of HT_.out (by kernel_rfl)) ?_
           try go_wp2
           (try simp only [← hl1_1])
           go_roundg k1
           case measure => have := HK1.out; omega
           case rel => exact ⟨(y392), (x5_1), (wrap64 (x15_1 + 1)), (by first | rfl | (simp; done) | (simp [*]; done)), (by first | rfl | (simp; done) | (simp [*]; done)), H', ⟨by have := HK1.out; omega⟩, ⟨by (try simp only [hl1_1]); (with_reducible repeat (first | apply Kd.R_alloc | apply Kd.R_drewN | apply Kd.R_drew)); exact HQ40.out⟩, ⟨by repeat (first | (with_reducible first | exact HK.out | apply Kept.alloc | apply Kept.drewN | apply Kept.drew | refine Kept.setCell ?_ HMgo12.out _) | exact HK.out)⟩, ⟨be_ HB.out⟩⟩
        ·
         rw [if_neg c13] at H
         exact absurd H (by simp)
       ·
        rw [if_neg c11] at H
        exact absurd H (by simp)
      ·
       rw [if_neg c10] at H
       exact absurd H (by simp)
     ·
      rw [if_neg c9] at H
      exact absurd H (by simp)
    ·
     rw [if_neg c8] at H
     have c8b0 : decide (x15_1 < (l1.length : Int)) = false := decide_eq_false c8
     have c8b1 := c8b0
     (try rw [hl1_1] at c8b1)
     clear c8
     simp only [Option.some.injEq, Prod.mk.injEq] at H
     obtain ⟨rfl, rfl⟩ := H
     go_wp2
     go_ret
     exact ⟨by first | rfl | (simp [errW_none, errW_some] <;> rfl) | (simp [*, errW_none, errW_some] <;> rfl), (by first | exact (by (with_reducible repeat (first | apply Kd.R_alloc | apply Kd.R_drewN | apply Kd.R_drew)); exact HO_1.out) | (simp only [hl1_1]; exact (by (with_reducible repeat (first | apply Kd.R_alloc | apply Kd.R_drewN | apply Kd.R_drew)); exact HO_1.out))), by repeat (first | (with_reducible first | exact HB.out | apply below_alloc | apply pw_below_drewN | apply below_drew1) | exact HB.out), by repeat (first | (with_reducible first | exact HK.out | apply Kept.alloc | apply Kept.drewN | apply Kept.drew) | exact HK.out)⟩

def impl_BestSpan.j0 : Nat → List Int → Int → Bool → Option (Int)
 | 0, _, _, _ => none
 | k + 1, x0, x1, x17 => if x17 = true then (some (-1)) else (if 0 ≤ x1 then (if (x1 : Int).toNat ≤ 35184372088832 then ((impl_best.f k x0 (List.replicate (x1 : Int).toNat 0)).bind fun bt398 => (some bt398.1)) else (none)) else (none))
def impl_BestSpan.f (k : Nat) (l0 : List Int) (a1 : Int) : Option (Int) := (impl_JobsOk.f k l0).bind fun t393 => (if t393 = true then (if (l0.length : Int) > 8 then (impl_BestSpan.j0 k l0 a1 true) else ((impl_in.f a1 1 3).bind fun t394 => (impl_BestSpan.j0 k l0 a1 (!t394)))) else (impl_BestSpan.j0 k l0 a1 true))
theorem impl_BestSpan.mono_l : ∀ k, (∀ y0 y1 y2, LeO (impl_BestSpan.j0 k y0 y1 y2) (impl_BestSpan.j0 (k + 1) y0 y1 y2))
 | 0 => fun _ _ _ r h => by simp [impl_BestSpan.j0] at h
 | k + 1 => by
  have ih0 := impl_BestSpan.mono_l k
  ·
   intro y0 y1 y2
   unfold impl_BestSpan.j0
   repeat' first
   | (with_reducible exact ih0 _ _ _)
   | (with_reducible exact impl_JobsOk.mono _ _)
   | (with_reducible exact impl_best.mono _ _ _)
   | (with_reducible exact LeO.refl _)
   | (with_reducible exact LeO.none _)
   | (with_reducible refine LeO.ite ?_ ?_)
   | (with_reducible refine LeO.bind ?_ (fun _ => ?_))
   | exact ih0 _ _ _
   | exact impl_JobsOk.mono _ _
   | exact impl_best.mono _ _ _
   | exact LeO.none _
   | refine LeO.ite ?_ ?_
   | refine LeO.bind ?_ (fun _ => ?_)
theorem impl_BestSpan.mono : ∀ a0 a1 k, LeO (impl_BestSpan.f k a0 a1) (impl_BestSpan.f (k + 1) a0 a1) := by
 intro a0 a1 k
 have ih0 := impl_BestSpan.mono_l k
 unfold impl_BestSpan.f
 repeat' first
   | (with_reducible exact ih0 _ _ _)
   | (with_reducible exact impl_JobsOk.mono _ _)
   | (with_reducible exact impl_best.mono _ _ _)
   | (with_reducible exact LeO.refl _)
   | (with_reducible exact LeO.none _)
   | (with_reducible refine LeO.ite ?_ ?_)
   | (with_reducible refine LeO.bind ?_ (fun _ => ?_))
   | exact ih0 _ _ _
   | exact impl_JobsOk.mono _ _
   | exact impl_best.mono _ _ _
   | exact LeO.none _
   | refine LeO.ite ?_ ?_
   | refine LeO.bind ?_ (fun _ => ?_)
set_option maxHeartbeats 8000000 in
set_option maxRecDepth 100000 in
theorem impl_BestSpan.calls (k : Nat) (A0 : Option Addr) (c0 : Nat) (l0 : List Int) (a1 : Int) (r : Int) (w : World) (hr0 : Kd.C (Kd.int .i64) w A0 l0.length l0) (hc0 : l0.length ≤ c0) (h : impl_BestSpan.f k l0 a1 = some r) :
  Calls Tryd.prog 18 #[.slice A0 l0.length c0, .int .i64 a1] w fun e w' => e = .returned (.int .i64 r) ∧ Below w.heap.size w w' := by
 have HR0 := Aside0.mk hr0
 have HC0 := Aside0.mk hc0
 clear hr0 hc0
 have HB := Aside0.mk (Below.refl w.heap.size w)
 have H : ((impl_JobsOk.f k l0).bind fun t393 => (if t393 = true then (if (l0.length : Int) > 8 then (impl_BestSpan.j0 k l0 a1 true) else ((impl_in.f a1 1 3).bind fun t394 => (impl_BestSpan.j0 k l0 a1 (!t394)))) else (impl_BestSpan.j0 k l0 a1 true))) = some r := h
 clear h
 have HC3 := Aside0.mk H
 clear H
 go_enter Tryd.func18, Tryd.ntmps18
 go_upto_region 1 with (fail)
 go_cut [17] (fun v17 wc => ∃ (kq : Nat) (x17_2 : Bool), v17 = .bool x17_2 ∧ Aside0 (impl_BestSpan.j0 kq l0 a1 x17_2 = some r) ∧ Aside0 (kq ≤ k) ∧ Aside0 (Below w.heap.size w wc))
 case first =>
  have H := HC3.out
  clear HC3
  replace H := Option.bind_eq_some_iff.mp H
  obtain ⟨t393, A40, H⟩ := H
  replace H : (if t393 = true then (if (l0.length : Int) > 8 then (impl_BestSpan.j0 k l0 a1 true) else ((impl_in.f a1 1 3).bind fun t394 => (impl_BestSpan.j0 k l0 a1 (!t394)))) else (impl_BestSpan.j0 k l0 a1 true)) = some r := H
  have A4 := Aside0.mk A40
  clear A40
  by_cases c5 : t393 = true
  ·
   subst c5
   have H1 : (if (l0.length : Int) > 8 then (impl_BestSpan.j0 k l0 a1 true) else ((impl_in.f a1 1 3).bind fun t394 => (impl_BestSpan.j0 k l0 a1 (!t394)))) = some r := by rw [if_pos rfl] at H; exact H
   clear H
   have H := H1
   clear H1
   by_cases c6 : (l0.length : Int) > 8
   ·
    rw [if_pos c6] at H
    have c6b0 : decide (8 < (l0.length : Int)) = true := decide_eq_true c6
    have c6b1 : decide (8 < l0.length) = true := decide_eq_true (by omega)
    clear c6
    (first | rw [c6b0] | (simp only [i64_w, i32_w]; rw [c6b0]) | skip)
    have H' := Aside0.mk H
    clear H
    go_wp2_with (first | ((with_reducible refine gate_callee (f := 44) rfl ?_); refine goesL_ (some 6) rfl rfl Tryd.func44 (by kernel_rfl) rfl #[.slice A0 l0.length c0] rfl ar_ ?_; (with_reducible refine (impl_JobsOk.calls k _ _ l0 true _ ?side1 ?side2 A4.out).mono ?_); (case side1 => exact cu_ HR0.out HB.out); (case side2 => exact HC0.out); rintro e w' ⟨rfl, ⟨nd, rfl⟩⟩; refine ⟨_, rfl, ?_⟩))
    go_meet
    case rel => exact ⟨_, (true), (by first | rfl | (simp; done) | (simp [*]; done)), H', ⟨by first | omega | exact Nat.le_refl _⟩, ⟨be_ HB.out⟩⟩
   ·
    rw [if_neg c6] at H
    have c6b0 : decide (8 < (l0.length : Int)) = false := decide_eq_false c6
    have c6b1 : decide (8 < l0.length) = false := decide_eq_false (by omega)
    clear c6
    (first | rw [c6b0] | (simp only [i64_w, i32_w]; rw [c6b0]) | skip)
    replace H := Option.bind_eq_some_iff.mp H
    obtain ⟨t394, A70, H⟩ := H
    replace H : (impl_BestSpan.j0 k l0 a1 (!t394)) = some r := H
    have A7 := Aside0.mk A70
    clear A70
    have H' := Aside0.mk H
    clear H
    go_wp2_with (first | ((with_reducible refine gate_callee (f := 44) rfl ?_); refine goesL_ (some 6) rfl rfl Tryd.func44 (by kernel_rfl) rfl #[.slice A0 l0.length c0] rfl ar_ ?_; (with_reducible refine (impl_JobsOk.calls k _ _ l0 true _ ?side1 ?side2 A4.out).mono ?_); (case side1 => exact cu_ HR0.out HB.out); (case side2 => exact HC0.out); rintro e w' ⟨rfl, ⟨nd, rfl⟩⟩; refine ⟨_, rfl, ?_⟩) | (go_at_call 39; (with_reducible refine (impl_in.calls a1 1 3 t394 _ A7.out).mono ?_); rintro e w' ⟨rfl, ⟨nd, rfl⟩⟩))
    go_meet
    case rel => exact ⟨_, (!t394), (by first | rfl | (simp; done) | (simp [*]; done)), H', ⟨by first | omega | exact Nat.le_refl _⟩, ⟨be_ HB.out⟩⟩
  ·
   replace c5 := Bool.eq_false_iff.mpr c5
   subst c5
   have H1 : (impl_BestSpan.j0 k l0 a1 true) = some r := by rw [if_neg (show ¬ (false = true) by decide)] at H; exact H
   clear H
   have H := H1
   clear H1
   have H' := Aside0.mk H
   clear H
   go_wp2_with (first | ((with_reducible refine gate_callee (f := 44) rfl ?_); refine goesL_ (some 6) rfl rfl Tryd.func44 (by kernel_rfl) rfl #[.slice A0 l0.length c0] rfl ar_ ?_; (with_reducible refine (impl_JobsOk.calls k _ _ l0 false _ ?side1 ?side2 A4.out).mono ?_); (case side1 => exact cu_ HR0.out HB.out); (case side2 => exact HC0.out); rintro e w' ⟨rfl, ⟨nd, rfl⟩⟩; refine ⟨_, rfl, ?_⟩))
   go_meet
   case rel => exact ⟨_, (true), (by first | rfl | (simp; done) | (simp [*]; done)), H', ⟨by first | omega | exact Nat.le_refl _⟩, ⟨be_ HB.out⟩⟩
 case rest =>
  clear HC3
  (try clear c1); (try clear p2); (try clear c4); (try clear c5); (try clear c6); (try clear c6b0); (try clear c6b1)
  obtain ⟨kq, x17_2, rfl, HA, HJ2, HB⟩ := hcut
  cases kq with
  | zero => exact absurd HA.out (by simp [impl_BestSpan.j0])
  | succ kj2 =>
   have H := HA.out
   clear HA
   simp only [impl_BestSpan.j0] at H
   by_cases c8 : x17_2 = true
   ·
    subst c8
    have H1 : (some (-1)) = some r := by rw [if_pos rfl] at H; exact H
    clear H
    have H := H1
    clear H1
    obtain rfl := Option.some.inj H
    go_wp2
    go_ret
    exact ⟨by first | rfl | (simp [errW_none, errW_some] <;> rfl) | (simp [*, errW_none, errW_some] <;> rfl), be_ HB.out⟩
   ·
    replace c8 := Bool.eq_false_iff.mpr c8
    subst c8
    have H1 : (if 0 ≤ a1 then (if (a1 : Int).toNat ≤ 35184372088832 then ((impl_best.f kj2 l0 (List.replicate (a1 : Int).toNat 0)).bind fun bt398 => (some bt398.1)) else (none)) else (none)) = some r := by rw [if_neg (show ¬ (false = true) by decide)] at H; exact H
    clear H
    have H := H1
    clear H1
    by_cases c9 : 0 ≤ a1
    ·
     rw [if_pos c9] at H
     have c9b0 := eq_true c9
     have c9b1 : decide (0 ≤ a1) = true := decide_eq_true c9
     clear c9
     by_cases c10 : (a1 : Int).toNat ≤ 35184372088832
     ·
      rw [if_pos c10] at H
      have c10b0 := eq_true c10
      have c10b1 : decide ((a1 : Int).toNat ≤ 35184372088832) = true := decide_eq_true c10
      clear c10
      obtain ⟨y395, hy395⟩ : ∃ y_ : List Int, y_ = (List.replicate (a1 : Int).toNat 0) := ⟨_, rfl⟩
      replace H : ((impl_best.f kj2 l0 y395).bind fun bt398 => (some bt398.1)) = some r := by first | (rw [hy395]; with_reducible exact H) | (have H2_ := (Option.bind_some _ _).symm.trans H; rw [hy395]; with_reducible exact H2_) | (have H2_ := (Option.bind_some _ _).symm.trans H; with_reducible exact H2_) | with_reducible exact H | (rw [hy395]; exact H) | exact H
      have Ny395 := Aside0.mk hy395
      clear hy395
      replace H := Option.bind_eq_some_iff.mp H
      obtain ⟨⟨t398, t399⟩, A110, H⟩ := H
      replace H : (some t398) = some r := H
      have A11 := Aside0.mk A110
      clear A110
      obtain rfl := Option.some.inj H
      go_wp2_with (first | ((with_reducible refine gate_dst (N := 20) rfl ?_); (try (refine gate_guard (by rfl) ?_; dsimp only)); refine Kd.R_make (Kd.int .i64) _ 3 rfl (N := 20) rfl 24 _ _ rfl a1 rfl rfl Tryd.underlying24 (.int .i64 0) 8 info3 rfl (by decide) (by omega) 0 (ok := fun _ => True) (okp := fun _ => True) rfl (fun _ hk => hk) trivial (of_decide_eq_true (by first | (with_reducible assumption) | assumption)) (Nat.le_trans (Nat.mul_le_mul_right _ (of_decide_eq_true (by first | (with_reducible assumption) | assumption) : a1.toNat ≤ 35184372088832)) (by omega)) (Below.refl _ _) (Nat.le_refl _) ?_; intro v396 w12 ho13 hb hg_ hnew_; clear hg_ hnew_; (first | rw [← Ny395.out] at ho13 | (simp only [Int.reduceToNat] at ho13; rw [← Ny395.out] at ho13)); have n0_ := Aside0.mk (Kd.R_lower ho13 (below_size (be_ HB.out))); have n1_ := Aside0.mk (below_step (be_ HB.out) hb); clear HB; have HO397 := n0_; have HB := n1_; clear n0_ n1_; clear hb ho13; obtain ⟨Ao14, co14, eo14⟩ := Kd.R_slice HO397.out; subst eo14) | ((with_reducible refine gate_callee (f := 45) rfl ?_); refine goesL_ (some 21) rfl rfl Tryd.func45 (by kernel_rfl) rfl #[.slice A0 l0.length c0, .slice Ao14 y395.length co14] rfl ar_ ?_; (with_reducible refine (impl_best.calls kj2 _ _ l0 (fun k_ => some k_ = (.slice Ao14 y395.length co14 : Value).ownBlock) (.slice Ao14 y395.length co14) y395 t398 t399 w _ ?side1 ?side2 ?side3 ?side4 A11.out).mono ?_); (case side1 => repeat (first | (with_reducible first | exact HB.out | apply below_alloc | apply pw_below_drewN | apply below_drew1) | exact HB.out)); (case side2 => exact Kd.C_kept_came (Kd.heap_int .i64) HR0.out (be_ HB.out) (fun k_ hs_ => (fun e_ => Kd.R_base HO397.out k_ e_.symm) hs_)); (case side3 => exact HC0.out); (case side4 => exact Kd.R_tight rfl HO397.out); rintro e w15 ⟨rfl, hy0, hb, hkp⟩; refine ⟨_, rfl, ?_⟩; replace HO397 := Aside0.mk (Kd.R_reok rfl hy0 (fun k_ e_ => HO397.out.1 k_ e_)); replace HB := Aside0.mk (hb); (try clear hb); (try clear hkp); (try clear hy0)))
      go_ret
      exact ⟨by first | rfl | (simp [errW_none, errW_some] <;> rfl) | (simp [*, errW_none, errW_some] <;> rfl), be_ HB.out⟩
     ·
      rw [if_neg c10] at H
      exact absurd H (by simp)
    ·
     rw [if_neg c9] at H
     exact absurd H (by simp)

end Go.Proofs.YtdniejjhkkepcaaDoor.QFnPlanned
