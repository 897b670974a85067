/- The Go functions that the statement FnPlanned reaches, as Lean functions, each with a proof that the call does what its function says; laid by a program of this session. No condition. -/
import Derived.Test.YtdniejjhkkepcaaDoorQFnPlannedx0
import Derived.Test.YtdniejjhkkepcaaDoorQFnPlannedx6
namespace Go.Proofs.YtdniejjhkkepcaaDoor.QFnPlanned
open Go.RowKit Go.Proofs.YtdniejjhkkepcaaDoorW.PrintWords Go.Proofs.YtdniejjhkkepcaaDoorW.PrintLast Go.Proofs.YtdniejjhkkepcaaDoorW.PrintMore
attribute [local go_sem] max2_int min2_int max_two min_two max_three min_three max_four min_four   -- for this text's walks alone
set_option linter.unusedVariables false
set_option linter.unusedSimpArgs false

def impl_Slot_at_37.l0 : Nat → List (S49) → Int → Int → Int → Int → Int → Option (Int × Int × Int × Int)
 | 0, _, _, _, _, _, _ => none
 | k + 1, x0, x6, x281000, x281001, x281002, x281003 => if x6 < (x0.length : Int) then (if 0 ≤ x6 then ((impl_SpanOf_1.f ((rd_T49 x0 x6).f0) ((rd_T49 x0 x6).f1) ((rd_T49 x0 x6).f2) ((rd_T49 x0 x6).f3) x281000 x281001 x281002 x281003).bind fun t282 => (if t282 > 0 then (impl_Slot_at_37.l0 k x0 (wrap64 (x6 + 1)) ((rd_T49 x0 x6).f0) ((rd_T49 x0 x6).f1) ((rd_T49 x0 x6).f2) ((rd_T49 x0 x6).f3)) else (impl_Slot_at_37.l0 k x0 (wrap64 (x6 + 1)) x281000 x281001 x281002 x281003))) else (none)) else (some (x281000, x281001, x281002, x281003))
def impl_Slot_at_37.f (k : Nat) (l0 : List (S49))  : Option (Int × Int × Int × Int) := if (l0.length : Int) < 1 then (none) else (if 0 < (l0.length : Int) then (impl_Slot_at_37.l0 k l0 1 ((rd_T49 l0 0).f0) ((rd_T49 l0 0).f1) ((rd_T49 l0 0).f2) ((rd_T49 l0 0).f3)) else (none))
theorem impl_Slot_at_37.mono_l : ∀ k, (∀ y0 y1 y2 y3 y4 y5, LeO (impl_Slot_at_37.l0 k y0 y1 y2 y3 y4 y5) (impl_Slot_at_37.l0 (k + 1) y0 y1 y2 y3 y4 y5))
 | 0 => fun _ _ _ _ _ _ r h => by simp [impl_Slot_at_37.l0] at h
 | k + 1 => by
  have ih0 := impl_Slot_at_37.mono_l k
  ·
   intro y0 y1 y2 y3 y4 y5
   unfold impl_Slot_at_37.l0
   repeat' first
   | (with_reducible exact ih0 _ _ _ _ _ _)
   | (with_reducible exact LeO.refl _)
   | (with_reducible exact LeO.none _)
   | (with_reducible refine LeO.ite ?_ ?_)
   | (with_reducible refine LeO.bind ?_ (fun _ => ?_))
   | exact ih0 _ _ _ _ _ _
   | exact LeO.none _
   | refine LeO.ite ?_ ?_
   | refine LeO.bind ?_ (fun _ => ?_)
theorem impl_Slot_at_37.mono : ∀ a0 k, LeO (impl_Slot_at_37.f k a0) (impl_Slot_at_37.f (k + 1) a0) := by
 intro a0 k
 have ih0 := impl_Slot_at_37.mono_l k
 unfold impl_Slot_at_37.f
 repeat' first
   | (with_reducible exact ih0 _ _ _ _ _ _)
   | (with_reducible exact LeO.refl _)
   | (with_reducible exact LeO.none _)
   | (with_reducible refine LeO.ite ?_ ?_)
   | (with_reducible refine LeO.bind ?_ (fun _ => ?_))
   | exact ih0 _ _ _ _ _ _
   | exact LeO.none _
   | refine LeO.ite ?_ ?_
   | refine LeO.bind ?_ (fun _ => ?_)
def impl_Slot_at_37.T7 : Bool × List (List Nat × List Nat) := (true, [([], []), ([], []), ([], []), ([1, 2], [1, 2]), ([3], [3]), ([], []), ([0, 4, 5], [0, 4, 5]), ([6], [6])])
def impl_Slot_at_37.B7 : List Nat := [0, 0, 0, 6, 14, 0, 63, 127]
theorem impl_Slot_at_37.tab7 : rtab .any (opsOf Tryd.f36 7) = impl_Slot_at_37.T7 := by kernel_rfl
theorem impl_Slot_at_37.bits7 : waitsOk impl_Slot_at_37.T7.2 impl_Slot_at_37.B7 = true := by kernel_rfl
set_option maxHeartbeats 8000000 in
set_option maxRecDepth 100000 in
theorem impl_Slot_at_37.calls (k : Nat) (A0 : Option Addr) (c0 : Nat) (l0 : List (S49))  (r1 : Int) (r2 : Int) (r3 : Int) (r4 : Int) (w : World) (hr0 : Kd.C k49 w A0 l0.length l0) (hc0 : l0.length ≤ c0) (h : impl_Slot_at_37.f k l0 = some (r1, r2, r3, r4)) :
  Calls Tryd.prog 36 #[.slice A0 l0.length c0, .func (.func 37) #[] #[]] w fun e w' => e = .returned (.agg #[.int .i64 r1, .int .i64 r2, .int .i64 r3, .int .i64 r4]) ∧ Below w.heap.size w w' := by
 have hu49 := Tryd.underlying49
 have HR0 := Aside0.mk hr0
 have HC0 := Aside0.mk hc0
 clear hr0 hc0
 have HB := Aside0.mk (Below.refl w.heap.size w)
 have H : (if (l0.length : Int) < 1 then (none) else (if 0 < (l0.length : Int) then (impl_Slot_at_37.l0 k l0 1 ((rd_T49 l0 0).f0) ((rd_T49 l0 0).f1) ((rd_T49 l0 0).f2) ((rd_T49 l0 0).f3)) else (none))) = some (r1, r2, r3, r4) := h
 clear h
 by_cases c3 : (l0.length : Int) < 1
 ·
  rw [if_pos c3] at H
  exact absurd H (by simp)
 ·
  rw [if_neg c3] at H
  have c3b0 : decide ((l0.length : Int) < 1) = false := decide_eq_false c3
  have c3b1 : decide (l0.length < 1) = false := decide_eq_false (by omega)
  clear c3
  by_cases c4 : 0 < (l0.length : Int)
  ·
   rw [if_pos c4] at H
   have c4b0 : decide (0 < (l0.length : Int)) = true := decide_eq_true c4
   have c4b1 : decide (0 < l0.length) = true := decide_eq_true (by omega)
   clear c4
   have H' := Aside0.mk H
   clear H
   go_enter Tryd.func36, Tryd.ntmps36
   go_wp2_with (first | ((with_reducible refine gate_dst (N := 4) rfl ?_); refine bx_ 4 #[.int .i64 0, .int .i64 0, .int .i64 0, .int .i64 0] 49 ?_; intro gb278 hg w5 hbox hb; have n0_ := Aside0.mk (below_step (be_ HB.out) hb); have n1_ := Aside0.mk (hbox); have n2_ := Aside0.mk ((bg_ hg HB.out)); have n3_ := Aside0.mk ((bg_ hg HB.out)); clear HB; have HB := n0_; have BK278 := n1_; have GW278 := n2_; have GE278 := n3_; clear n0_ n1_ n2_ n3_; clear hb hbox hg; have p279 : 0 ≤ (0 : Int) := (by omega); have q279 : 0 < (l0.length : Int) := of_decide_eq_true (by first | (with_reducible assumption) | assumption); obtain ⟨ad279, e279, hx279_0, hx279_1, hx279_2, hx279_3⟩ := at_T49 HR0.out 0 p279 q279; cases e279; have qi279 : (0 < l0.length) = True := eq_true (by omega); (try rw [show ((0 : Int)).toNat = 0 from rfl] at hx279_0); (try rw [show 0 * 4 = 0 from rfl] at hx279_0); (try rw [Addr.add_zero'] at hx279_0); (try rw [show ((0 : Int)).toNat = 0 from rfl] at hx279_1); (try rw [show 0 * 4 = 0 from rfl] at hx279_1); (try rw [Addr.add_zero'] at hx279_1); (try rw [show ((0 : Int)).toNat = 0 from rfl] at hx279_2); (try rw [show 0 * 4 = 0 from rfl] at hx279_2); (try rw [Addr.add_zero'] at hx279_2); (try rw [show ((0 : Int)).toNat = 0 from rfl] at hx279_3); (try rw [show 0 * 4 = 0 from rfl] at hx279_3); (try rw [Addr.add_zero'] at hx279_3); replace hx279_0 := cw_ HB.out hx279_0; replace hx279_1 := cw_ HB.out hx279_1; replace hx279_2 := cw_ HB.out hx279_2; replace hx279_3 := cw_ HB.out hx279_3; replace p279 := eq_true p279; replace q279 := eq_true q279) | ((with_reducible refine gate_dst (N := 5) rfl ?_); refine bx_ 5 #[.int .i64 0, .int .i64 0, .int .i64 0, .int .i64 0] 49 ?_; intro gb280 hg w6 hbox hb; have n0_ := Aside0.mk (blk_below (bu_ BK278.out) hb); have n1_ := Aside0.mk (below_step (be_ HB.out) hb); have n2_ := Aside0.mk (hbox); have n3_ := Aside0.mk ((bg_ hg HB.out)); have n4_ := Aside0.mk ((bg_ hg HB.out)); have n5_ := Aside0.mk ((nl_ hg (bu_ BK278.out))); have n6_ := Aside0.mk ((ng_ hg (bu_ BK278.out))); clear BK278; clear HB; have BK278 := n0_; have HB := n1_; have BK280 := n2_; have GW280 := n3_; have GE280 := n4_; have NB278_280 := n5_; have NB280_278 := n6_; clear n0_ n1_ n2_ n3_ n4_ n5_ n6_; clear hb hbox hg; have hnb7 := NB280_278.out; have hnc7 := NB278_280.out; obtain ⟨hcz8_0, hcz8_1, hcz8_2, hcz8_3, hfz8_0, hfz8_1, hfz8_2, hfz8_3⟩ := box4_ BK280.out))
   (try simp only [Act.put, List.setIfInBounds_toArray, List.set_cons_zero, List.set_cons_succ])
   go_loopg [6] k (fun kq v6 w' => ∃ (x6_1 : Int) (x281000_1 : Int) (x281001_1 : Int) (x281002_1 : Int) (x281003_1 : Int), v6 = .int .i64 x6_1 ∧ Aside0 (impl_Slot_at_37.l0 kq l0 x6_1 x281000_1 x281001_1 x281002_1 x281003_1 = some (r1, r2, r3, r4)) ∧ Aside0 (kq ≤ k) ∧ Aside0 (w'.heap[gb278]? = some (.cells #[.int .i64 0, .int .i64 0, .int .i64 0, .int .i64 0] 49 (0, 0))) ∧ Aside0 (w'.heap[gb280]? = some (.cells #[.int .i64 x281000_1, .int .i64 x281001_1, .int .i64 x281002_1, .int .i64 x281003_1] 49 (0, 0))) ∧ Aside0 (Below w.heap.size w w'))
   case atStart => exact ⟨(1), ((rd_T49 l0 0).f0), ((rd_T49 l0 0).f1), ((rd_T49 l0 0).f2), ((rd_T49 l0 0).f3), (by first | rfl | (simp; done) | (simp [*]; done)), H', ⟨Nat.le_refl _⟩, ⟨by (with_reducible repeat (first | refine blk_drewN ?_ _ | refine blk_drew ?_ | refine blk_alloc ?_ _)); refine blk_far ?_ NB278_280.out _; (with_reducible repeat (first | refine blk_drewN ?_ _ | refine blk_drew ?_ | refine blk_alloc ?_ _)); refine blk_far ?_ NB278_280.out _; (with_reducible repeat (first | refine blk_drewN ?_ _ | refine blk_drew ?_ | refine blk_alloc ?_ _)); refine blk_far ?_ NB278_280.out _; (with_reducible repeat (first | refine blk_drewN ?_ _ | refine blk_drew ?_ | refine blk_alloc ?_ _)); refine blk_far ?_ NB278_280.out _; (with_reducible repeat (first | refine blk_drewN ?_ _ | refine blk_drew ?_ | refine blk_alloc ?_ _)); exact BK278.out⟩, ⟨by (with_reducible repeat (first | refine blk_drewN ?_ _ | refine blk_drew ?_ | refine blk_alloc ?_ _)); refine blk_put (cs := #[.int .i64 ((rd_T49 l0 0).f0), .int .i64 ((rd_T49 l0 0).f1), .int .i64 ((rd_T49 l0 0).f2), .int .i64 0]) ?_ 3 _ rfl; (with_reducible repeat (first | refine blk_drewN ?_ _ | refine blk_drew ?_ | refine blk_alloc ?_ _)); refine blk_put (cs := #[.int .i64 ((rd_T49 l0 0).f0), .int .i64 ((rd_T49 l0 0).f1), .int .i64 0, .int .i64 0]) ?_ 2 _ rfl; (with_reducible repeat (first | refine blk_drewN ?_ _ | refine blk_drew ?_ | refine blk_alloc ?_ _)); refine blk_put (cs := #[.int .i64 ((rd_T49 l0 0).f0), .int .i64 0, .int .i64 0, .int .i64 0]) ?_ 1 _ rfl; (with_reducible repeat (first | refine blk_drewN ?_ _ | refine blk_drew ?_ | refine blk_alloc ?_ _)); refine blk_put (cs := #[.int .i64 0, .int .i64 0, .int .i64 0, .int .i64 0]) ?_ 0 _ rfl; (with_reducible repeat (first | refine blk_drewN ?_ _ | refine blk_drew ?_ | refine blk_alloc ?_ _)); exact BK280.out⟩, ⟨be_ HB.out⟩⟩
   case round =>
    clear H'
    (try clear p2); (try clear q2); (try clear hx2); (try clear qi2); (try clear c3); (try clear c3b0); (try clear c3b1); (try clear c4); (try clear c4b0); (try clear c4b1); (try clear c7); (try clear hcz8_0 hcz8_1 hcz8_2 hcz8_3 hfz8_0 hfz8_1 hfz8_2 hfz8_3); (try clear hx279_0); (try clear hx279_1); (try clear hx279_2); (try clear hx279_3); (try clear p279); (try clear q279)
    obtain ⟨x6_1, x281000_1, x281001_1, x281002_1, x281003_1, rfl, HA, HK1, BK278, BK280, HB⟩ := hrel
    cases gk with
    | zero => exact absurd HA.out (by simp [impl_Slot_at_37.l0])
    | succ k1 =>
     have H := HA.out
     clear HA
     simp only [impl_Slot_at_37.l0] at H
     by_cases c9 : x6_1 < (l0.length : Int)
     ·
      rw [if_pos c9] at H
      have c9b0 : decide (x6_1 < (l0.length : Int)) = true := decide_eq_true c9
      clear c9
      by_cases c10 : 0 ≤ x6_1
      ·
       rw [if_pos c10] at H
       have c10b0 : decide (0 ≤ x6_1) = true := decide_eq_true c10
       clear c10
       replace H := Option.bind_eq_some_iff.mp H
       obtain ⟨t282, A110, H⟩ := H
       replace H : (if t282 > 0 then (impl_Slot_at_37.l0 k1 l0 (wrap64 (x6_1 + 1)) ((rd_T49 l0 x6_1).f0) ((rd_T49 l0 x6_1).f1) ((rd_T49 l0 x6_1).f2) ((rd_T49 l0 x6_1).f3)) else (impl_Slot_at_37.l0 k1 l0 (wrap64 (x6_1 + 1)) x281000_1 x281001_1 x281002_1 x281003_1)) = some (r1, r2, r3, r4) := H
       have A11 := Aside0.mk A110
       clear A110
       by_cases c12 : t282 > 0
       ·
        rw [if_pos c12] at H
        have c12b0 : decide (0 < t282) = true := decide_eq_true c12
        clear c12
        have H' := Aside0.mk H
        clear H
        try go_wp2
        have n0_ := Aside0.mk (blk_drew BK278.out)
        have n1_ := Aside0.mk (blk_drew BK280.out)
        have n2_ := Aside0.mk (below_drew1 HB.out)
        clear BK278
        clear BK280
        clear HB
        have BK278 := n0_
        have BK280 := n1_
        have HB := n2_
        clear n0_ n1_ n2_
        have p281 : 0 ≤ (x6_1 : Int) := of_decide_eq_true (by first | (with_reducible assumption) | assumption)
        have q281 : x6_1 < (l0.length : Int) := of_decide_eq_true (by first | (with_reducible assumption) | assumption)
        obtain ⟨ad281, e281, hx281_0, hx281_1, hx281_2, hx281_3⟩ := at_T49 HR0.out x6_1 p281 q281
        have hw281_3 := hx281_3
        have hw281_2 := hx281_2
        have hw281_1 := hx281_1
        have hw281_0 := hx281_0
        obtain rfl : ad279 = ad281 := (by injection e281)
        replace hx281_0 := cw_ HB.out hx281_0
        replace hx281_1 := cw_ HB.out hx281_1
        replace hx281_2 := cw_ HB.out hx281_2
        replace hx281_3 := cw_ HB.out hx281_3
        replace p281 := eq_true p281
        replace q281 := eq_true q281
        refine start_ (n := 8) (S := fun w' => w'.cell? ⟨gb280, 0, none⟩ = some (.int .i64 x281000_1) ∧ w'.cell? ⟨gb280, 1, none⟩ = some (.int .i64 x281001_1) ∧ w'.cell? ⟨gb280, 2, none⟩ = some (.int .i64 x281002_1) ∧ w'.cell? ⟨gb280, 3, none⟩ = some (.int .i64 x281003_1) ∧ w'.cell? (ad279.add ((x6_1).toNat * 4)) = some (.int .i64 ((rd_T49 l0 x6_1).f0)) ∧ w'.cell? ⟨(ad279.add ((x6_1).toNat * 4)).block, (ad279.add ((x6_1).toNat * 4)).off + 1, none⟩ = some (.int .i64 ((rd_T49 l0 x6_1).f1)) ∧ w'.cell? ⟨(ad279.add ((x6_1).toNat * 4)).block, (ad279.add ((x6_1).toNat * 4)).off + 2, none⟩ = some (.int .i64 ((rd_T49 l0 x6_1).f2)) ∧ w'.cell? ⟨(ad279.add ((x6_1).toNat * 4)).block, (ad279.add ((x6_1).toNat * 4)).off + 3, none⟩ = some (.int .i64 ((rd_T49 l0 x6_1).f3))) (ds := []) #[false, false, false, false, false, false, false, false] (by kernel_rfl) rfl rfl ⟨(blk_cell BK280.out 0).trans rfl, (blk_cell BK280.out 1).trans rfl, (blk_cell BK280.out 2).trans rfl, (blk_cell BK280.out 3).trans rfl, (cw_ HB.out hw281_0), (cw_ HB.out hw281_1), (cw_ HB.out hw281_2), (cw_ HB.out hw281_3)⟩ (fun hHeld => ?_); refine with_tabW impl_Slot_at_37.tab7 impl_Slot_at_37.bits7 (fun HT_ HW_ => ?_)
        generalize wr.drew = w13 at BK278 BK280 HB hx281_0 hx281_1 hx281_2 hx281_3 hHeld ⊢
        refine pl_ 0 (some 20) 8 1 HT_.out ?_
        refine pl_ 1 (some 21) 8 3 HT_.out ?_
        refine pl_ 2 (some 22) 8 7 HT_.out ?_
        refine pl_ 3 (some 23) 8 15 HT_.out ?_
        refine tk_ 4 (some 24) 8 31 HT_.out HW_.out hHeld (hy := by rintro w' ⟨s0, s1, s2, s3, s4, s5, s6, s7⟩; go_simp; with_reducible rfl) (h := ?_)
        refine tk_ 5 (some 25) 8 63 HT_.out HW_.out hHeld (hy := by rintro w' ⟨s0, s1, s2, s3, s4, s5, s6, s7⟩; go_simp; with_reducible rfl) (h := ?_)
        refine one_ (i := 6) (N := some 26) (bl_ 8 127) rfl rfl (one_of HT_.out (by kernel_rfl)) (by decide) (fun K hK => ?_)
        refine goesVs_ 20 Tryd.func37 (by kernel_rfl) rfl #[.agg #[.int .i64 ((rd_T49 l0 x6_1).f0), .int .i64 ((rd_T49 l0 x6_1).f1), .int .i64 ((rd_T49 l0 x6_1).f2), .int .i64 ((rd_T49 l0 x6_1).f3)], .agg #[.int .i64 x281000_1, .int .i64 x281001_1, .int .i64 x281002_1, .int .i64 x281003_1]] (by rfl) rfl rfl rfl ar_ ?_
        with_reducible refine (impl_SpanOf_1.calls ((rd_T49 l0 x6_1).f0) ((rd_T49 l0 x6_1).f1) ((rd_T49 l0 x6_1).f2) ((rd_T49 l0 x6_1).f3) x281000_1 x281001_1 x281002_1 x281003_1 t282 _ A11.out).mono ?_
        rintro e w14 ⟨rfl, hb⟩
        refine ⟨_, rfl, ?_⟩
        have n0_ := Aside0.mk (blk_below (bu_ BK278.out) hb)
        have n1_ := Aside0.mk (blk_below (bu_ BK280.out) hb)
        have n2_ := Aside0.mk (below_step (be_ HB.out) hb)
        clear BK278
        clear BK280
        clear HB
        have BK278 := n0_
        have BK280 := n1_
        have HB := n2_
        clear n0_ n1_ n2_
        (try clear hb)
        (try clear hb2)
        (try clear hk)
        (try clear hi)
        refine hK.out _ _ ⟨(blk_cell BK280.out 0).trans rfl, (blk_cell BK280.out 1).trans rfl, (blk_cell BK280.out 2).trans rfl, (blk_cell BK280.out 3).trans rfl, (cw_ HB.out hw281_0), (cw_ HB.out hw281_1), (cw_ HB.out hw281_2), (cw_ HB.out hw281_3)⟩ (fun hHeld => ?_)
        clear hK K
        refine nm_ 26 (h := ?_)
        refine pl_ 7 (some 27) 8 255 HT_.out ?_
        refine done_ (done_of HT_.out (by kernel_rfl)) ?_
        have p283 : 0 ≤ (x6_1 : Int) := of_decide_eq_true (by first | (with_reducible assumption) | assumption)
        have q283 : x6_1 < (l0.length : Int) := of_decide_eq_true (by first | (with_reducible assumption) | assumption)
        obtain ⟨ad283, e283, hx283_0, hx283_1, hx283_2, hx283_3⟩ := at_T49 HR0.out x6_1 p283 q283
        obtain rfl : ad279 = ad283 := (by injection e283)
        replace hx283_0 := cw_ HB.out hx283_0
        replace hx283_1 := cw_ HB.out hx283_1
        replace hx283_2 := cw_ HB.out hx283_2
        replace hx283_3 := cw_ HB.out hx283_3
        replace p283 := eq_true p283
        replace q283 := eq_true q283
        have hnb15 := NB280_278.out
        have hnc15 := NB278_280.out
        obtain ⟨hcz16_0, hcz16_1, hcz16_2, hcz16_3, hfz16_0, hfz16_1, hfz16_2, hfz16_3⟩ := box4_ BK280.out
        try go_wp2
        go_roundg k1
        case measure => have := HK1.out; omega
        case rel => exact ⟨(wrap64 (x6_1 + 1)), ((rd_T49 l0 x6_1).f0), ((rd_T49 l0 x6_1).f1), ((rd_T49 l0 x6_1).f2), ((rd_T49 l0 x6_1).f3), (by first | rfl | (simp; done) | (simp [*]; done)), H', ⟨by have := HK1.out; omega⟩, ⟨by (with_reducible repeat (first | refine blk_drewN ?_ _ | refine blk_drew ?_ | refine blk_alloc ?_ _)); refine blk_far ?_ NB278_280.out _; (with_reducible repeat (first | refine blk_drewN ?_ _ | refine blk_drew ?_ | refine blk_alloc ?_ _)); refine blk_far ?_ NB278_280.out _; (with_reducible repeat (first | refine blk_drewN ?_ _ | refine blk_drew ?_ | refine blk_alloc ?_ _)); refine blk_far ?_ NB278_280.out _; (with_reducible repeat (first | refine blk_drewN ?_ _ | refine blk_drew ?_ | refine blk_alloc ?_ _)); refine blk_far ?_ NB278_280.out _; (with_reducible repeat (first | refine blk_drewN ?_ _ | refine blk_drew ?_ | refine blk_alloc ?_ _)); exact BK278.out⟩, ⟨by (with_reducible repeat (first | refine blk_drewN ?_ _ | refine blk_drew ?_ | refine blk_alloc ?_ _)); refine blk_put (cs := #[.int .i64 ((rd_T49 l0 x6_1).f0), .int .i64 ((rd_T49 l0 x6_1).f1), .int .i64 ((rd_T49 l0 x6_1).f2), .int .i64 x281003_1]) ?_ 3 _ rfl; (with_reducible repeat (first | refine blk_drewN ?_ _ | refine blk_drew ?_ | refine blk_alloc ?_ _)); refine blk_put (cs := #[.int .i64 ((rd_T49 l0 x6_1).f0), .int .i64 ((rd_T49 l0 x6_1).f1), .int .i64 x281002_1, .int .i64 x281003_1]) ?_ 2 _ rfl; (with_reducible repeat (first | refine blk_drewN ?_ _ | refine blk_drew ?_ | refine blk_alloc ?_ _)); refine blk_put (cs := #[.int .i64 ((rd_T49 l0 x6_1).f0), .int .i64 x281001_1, .int .i64 x281002_1, .int .i64 x281003_1]) ?_ 1 _ rfl; (with_reducible repeat (first | refine blk_drewN ?_ _ | refine blk_drew ?_ | refine blk_alloc ?_ _)); refine blk_put (cs := #[.int .i64 x281000_1, .int .i64 x281001_1, .int .i64 x281002_1, .int .i64 x281003_1]) ?_ 0 _ rfl; (with_reducible repeat (first | refine blk_drewN ?_ _ | refine blk_drew ?_ | refine blk_alloc ?_ _)); exact BK280.out⟩, ⟨be_ HB.out⟩⟩
       ·
        rw [if_neg c12] at H
        have c12b0 : decide (0 < t282) = false := decide_eq_false c12
        clear c12
        have H' := Aside0.mk H
        clear H
        try go_wp2
        have n0_ := Aside0.mk (blk_drew BK278.out)
        have n1_ := Aside0.mk (blk_drew BK280.out)
        have n2_ := Aside0.mk (below_drew1 HB.out)
        clear BK278
        clear BK280
        clear HB
        have BK278 := n0_
        have BK280 := n1_
        have HB := n2_
        clear n0_ n1_ n2_
        have p281 : 0 ≤ (x6_1 : Int) := of_decide_eq_true (by first | (with_reducible assumption) | assumption)
        have q281 : x6_1 < (l0.length : Int) := of_decide_eq_true (by first | (with_reducible assumption) | assumption)
        obtain ⟨ad281, e281, hx281_0, hx281_1, hx281_2, hx281_3⟩ := at_T49 HR0.out x6_1 p281 q281
        have hw281_3 := hx281_3
        have hw281_2 := hx281_2
        have hw281_1 := hx281_1
        have hw281_0 := hx281_0
        obtain rfl : ad279 = ad281 := (by injection e281)
        replace hx281_0 := cw_ HB.out hx281_0
        replace hx281_1 := cw_ HB.out hx281_1
        replace hx281_2 := cw_ HB.out hx281_2
        replace hx281_3 := cw_ HB.out hx281_3
        replace p281 := eq_true p281
        replace q281 := eq_true q281
        refine start_ (n := 8) (S := fun w' => w'.cell? ⟨gb280, 0, none⟩ = some (.int .i64 x281000_1) ∧ w'.cell? ⟨gb280, 1, none⟩ = some (.int .i64 x281001_1) ∧ w'.cell? ⟨gb280, 2, none⟩ = some (.int .i64 x281002_1) ∧ w'.cell? ⟨gb280, 3, none⟩ = some (.int .i64 x281003_1) ∧ w'.cell? (ad279.add ((x6_1).toNat * 4)) = some (.int .i64 ((rd_T49 l0 x6_1).f0)) ∧ w'.cell? ⟨(ad279.add ((x6_1).toNat * 4)).block, (ad279.add ((x6_1).toNat * 4)).off + 1, none⟩ = some (.int .i64 ((rd_T49 l0 x6_1).f1)) ∧ w'.cell? ⟨(ad279.add ((x6_1).toNat * 4)).block, (ad279.add ((x6_1).toNat * 4)).off + 2, none⟩ = some (.int .i64 ((rd_T49 l0 x6_1).f2)) ∧ w'.cell? ⟨(ad279.add ((x6_1).toNat * 4)).block, (ad279.add ((x6_1).toNat * 4)).off + 3, none⟩ = some (.int .i64 ((rd_T49 l0 x6_1).f3))) (ds := []) #[false, false, false, false, false, false, false, false] (by kernel_rfl) rfl rfl ⟨(blk_cell BK280.out 0).trans rfl, (blk_cell BK280.out 1).trans rfl, (blk_cell BK280.out 2).trans rfl, (blk_cell BK280.out 3).trans rfl, (cw_ HB.out hw281_0), (cw_ HB.out hw281_1), (cw_ HB.out hw281_2), (cw_ HB.out hw281_3)⟩ (fun hHeld => ?_); refine with_tabW impl_Slot_at_37.tab7 impl_Slot_at_37.bits7 (fun HT_ HW_ => ?_)
        generalize wr.drew = w17 at BK278 BK280 HB hx281_0 hx281_1 hx281_2 hx281_3 hHeld ⊢
        refine pl_ 0 (some 20) 8 1 HT_.out ?_
        refine pl_ 1 (some 21) 8 3 HT_.out ?_
        refine pl_ 2 (some 22) 8 7 HT_.out ?_
        refine pl_ 3 (some 23) 8 15 HT_.out ?_
        refine tk_ 4 (some 24) 8 31 HT_.out HW_.out hHeld (hy := by rintro w' ⟨s0, s1, s2, s3, s4, s5, s6, s7⟩; go_simp; with_reducible rfl) (h := ?_)
        refine tk_ 5 (some 25) 8 63 HT_.out HW_.out hHeld (hy := by rintro w' ⟨s0, s1, s2, s3, s4, s5, s6, s7⟩; go_simp; with_reducible rfl) (h := ?_)
        refine one_ (i := 6) (N := some 26) (bl_ 8 127) rfl rfl (one_of HT_.out (by kernel_rfl)) (by decide) (fun K hK => ?_)
        refine goesVs_ 20 Tryd.func37 (by kernel_rfl) rfl #[.agg #[.int .i64 ((rd_T49 l0 x6_1).f0), .int .i64 ((rd_T49 l0 x6_1).f1), .int .i64 ((rd_T49 l0 x6_1).f2), .int .i64 ((rd_T49 l0 x6_1).f3)], .agg #[.int .i64 x281000_1, .int .i64 x281001_1, .int .i64 x281002_1, .int .i64 x281003_1]] (by rfl) rfl rfl rfl ar_ ?_
        with_reducible refine (impl_SpanOf_1.calls ((rd_T49 l0 x6_1).f0) ((rd_T49 l0 x6_1).f1) ((rd_T49 l0 x6_1).f2) ((rd_T49 l0 x6_1).f3) x281000_1 x281001_1 x281002_1 x281003_1 t282 _ A11.out).mono ?_
        rintro e w18 ⟨rfl, hb⟩
        refine ⟨_, rfl, ?_⟩
        have n0_ := Aside0.mk (blk_below (bu_ BK278.out) hb)
        have n1_ := Aside0.mk (blk_below (bu_ BK280.out) hb)
        have n2_ := Aside0.mk (below_step (be_ HB.out) hb)
        clear BK278
        clear BK280
        clear HB
        have BK278 := n0_
        have BK280 := n1_
        have HB := n2_
        clear n0_ n1_ n2_
        (try clear hb)
        (try clear hb2)
        (try clear hk)
        (try clear hi)
        refine hK.out _ _ ⟨(blk_cell BK280.out 0).trans rfl, (blk_cell BK280.out 1).trans rfl, (blk_cell BK280.out 2).trans rfl, (blk_cell BK280.out 3).trans rfl, (cw_ HB.out hw281_0), (cw_ HB.out hw281_1), (cw_ HB.out hw281_2), (cw_ HB.out hw281_3)⟩ (fun hHeld => ?_)
        clear hK K
        refine nm_ 26 (h := ?_)
        refine pl_ 7 (some 27) 8 255 HT_.out ?_
        refine done_ (done_of HT_.out (by kernel_rfl)) ?_
        try go_wp2
        go_roundg k1
        case measure => have := HK1.out; omega
        case rel => exact ⟨(wrap64 (x6_1 + 1)), (x281000_1), (x281001_1), (x281002_1), (x281003_1), (by first | rfl | (simp; done) | (simp [*]; done)), H', ⟨by have := HK1.out; omega⟩, ⟨bu_ BK278.out⟩, ⟨bu_ BK280.out⟩, ⟨be_ HB.out⟩⟩
      ·
       rw [if_neg c10] at H
       exact absurd H (by simp)
     ·
      rw [if_neg c9] at H
      have c9b0 : decide (x6_1 < (l0.length : Int)) = false := decide_eq_false c9
      clear c9
      simp only [Option.some.injEq, Prod.mk.injEq] at H
      obtain ⟨rfl, rfl, rfl, rfl⟩ := H
      have hnb19 := NB280_278.out
      have hnc19 := NB278_280.out
      obtain ⟨hcz20_0, hcz20_1, hcz20_2, hcz20_3, hfz20_0, hfz20_1, hfz20_2, hfz20_3⟩ := box4_ BK280.out
      obtain ⟨hcz21_0, hcz21_1, hcz21_2, hcz21_3, hfz21_0, hfz21_1, hfz21_2, hfz21_3⟩ := box4_ BK278.out
      go_wp2
      refine bodyPost_ret (results_cell_row rfl _ _ gb278 49 #[.int .i64 x281000_1, .int .i64 x281001_1, .int .i64 x281002_1, .int .i64 x281003_1] (0, 0) _ rfl (by (with_reducible repeat (first | refine blk_drewN ?_ _ | refine blk_drew ?_ | refine blk_alloc ?_ _)); refine blk_put (cs := #[.int .i64 x281000_1, .int .i64 x281001_1, .int .i64 x281002_1, .int .i64 0]) ?_ 3 _ rfl; (with_reducible repeat (first | refine blk_drewN ?_ _ | refine blk_drew ?_ | refine blk_alloc ?_ _)); refine blk_put (cs := #[.int .i64 x281000_1, .int .i64 x281001_1, .int .i64 0, .int .i64 0]) ?_ 2 _ rfl; (with_reducible repeat (first | refine blk_drewN ?_ _ | refine blk_drew ?_ | refine blk_alloc ?_ _)); refine blk_put (cs := #[.int .i64 x281000_1, .int .i64 0, .int .i64 0, .int .i64 0]) ?_ 1 _ rfl; (with_reducible repeat (first | refine blk_drewN ?_ _ | refine blk_drew ?_ | refine blk_alloc ?_ _)); refine blk_put (cs := #[.int .i64 0, .int .i64 0, .int .i64 0, .int .i64 0]) ?_ 0 _ rfl; (with_reducible repeat (first | refine blk_drewN ?_ _ | refine blk_drew ?_ | refine blk_alloc ?_ _)); exact BK278.out) Tryd.underlying49 rfl (by kernel_rfl)) rfl ?_
      exact ⟨by first | rfl | (simp [errW_none, errW_some] <;> rfl) | (simp [*, errW_none, errW_some] <;> rfl), be_ HB.out⟩
  ·
   rw [if_neg c4] at H
   exact absurd H (by simp)

def impl_SpanOf.f (k : Nat) (l0 : List (S49)) : Option (Int) := if (l0.length : Int) = 0 then (some 0) else ((impl_Slot_at_37.f k l0).bind fun bt284 => (some bt284.2.2.2))
theorem impl_SpanOf.mono : ∀ a0 k, LeO (impl_SpanOf.f k a0) (impl_SpanOf.f (k + 1) a0) := by
 intro a0 k
 unfold impl_SpanOf.f
 repeat' first
   | (with_reducible exact impl_Slot_at_37.mono _ _)
   | (with_reducible exact LeO.refl _)
   | (with_reducible exact LeO.none _)
   | (with_reducible refine LeO.ite ?_ ?_)
   | (with_reducible refine LeO.bind ?_ (fun _ => ?_))
   | exact impl_Slot_at_37.mono _ _
   | exact LeO.none _
   | refine LeO.ite ?_ ?_
   | refine LeO.bind ?_ (fun _ => ?_)
set_option maxHeartbeats 8000000 in
set_option maxRecDepth 100000 in
theorem impl_SpanOf.calls (k : Nat) (A0 : Option Addr) (c0 : Nat) (l0 : List (S49)) (r : Int) (w : World) (hr0 : Kd.C k49 w A0 l0.length l0) (hc0 : l0.length ≤ c0) (h : impl_SpanOf.f k l0 = some r) :
  Calls Tryd.prog 12 #[.slice A0 l0.length c0] w fun e w' => e = .returned (.int .i64 r) ∧ Below w.heap.size w w' := by
 have hfl49_3 : ∀ (z0_ : Int) (z1_ : Int) (z2_ : Int) (z3_ : Int) (W_ : World), (Instr.field 49 (.agg #[.int .i64 z0_, .int .i64 z1_, .int .i64 z2_, .int .i64 z3_]) 3).run Tryd.prog W_ = .ok (.int .i64 z3_) W_ := by intros; rfl
 have HR0 := Aside0.mk hr0
 have HC0 := Aside0.mk hc0
 clear hr0 hc0
 have HB := Aside0.mk (Below.refl w.heap.size w)
 have H : (if (l0.length : Int) = 0 then (some 0) else ((impl_Slot_at_37.f k l0).bind fun bt284 => (some bt284.2.2.2))) = some r := h
 clear h
 by_cases c2 : (l0.length : Int) = 0
 ·
  rw [if_pos c2] at H
  have c2b0 : ((l0.length : Int) == 0) = true := beq_iff_eq.mpr c2
  have c2b1 : ((l0.length : Int) != 0) = false := bne_eq_false_iff_eq.mpr c2
  clear c2
  obtain rfl := Option.some.inj H
  go_enter Tryd.func12, Tryd.ntmps12
  go_wp2
  go_ret
  exact ⟨by first | rfl | (simp [errW_none, errW_some] <;> rfl) | (simp [*, errW_none, errW_some] <;> rfl), be_ HB.out⟩
 ·
  rw [if_neg c2] at H
  have c2b0 : ((l0.length : Int) == 0) = false := beq_eq_false_iff_ne.mpr c2
  have c2b1 : ((l0.length : Int) != 0) = true := bne_iff_ne.mpr c2
  have c2b2 : ¬ (l0 = []) := fun h_ => c2 (by rw [h_]; rfl)
  replace H := Option.bind_eq_some_iff.mp H
  obtain ⟨⟨t284, t285, t286, t287⟩, A30, H⟩ := H
  replace H : (some t287) = some r := H
  have A3 := Aside0.mk A30
  clear A30
  obtain rfl := Option.some.inj H
  go_enter Tryd.func12, Tryd.ntmps12
  go_wp2_with (first | ((with_reducible refine gate_callee (f := 36) rfl ?_); refine goesL_ (some 7) rfl rfl Tryd.func36 (by kernel_rfl) rfl #[.slice A0 l0.length c0, .func (.func 37) #[] #[]] rfl ar_ ?_; (with_reducible refine (impl_Slot_at_37.calls k _ _ l0  t284 t285 t286 t287 _ ?side1 ?side2 A3.out).mono ?_); (case side1 => repeat (first | exact HR0.out | (with_reducible refine Kd.C_alloc ?_ _) | (with_reducible refine Kd.C_drewN ?_ _) | (with_reducible refine Kd.C_drew ?_))); (case side2 => exact HC0.out); rintro e w4 ⟨rfl, hb⟩; refine ⟨_, rfl, ?_⟩; replace HB := Aside0.mk (below_step (be_ HB.out) hb); (try clear hb); (try clear hb2); (try clear hk); (try clear hi)))
  go_ret
  exact ⟨by first | rfl | (simp [errW_none, errW_some] <;> rfl) | (simp [*, errW_none, errW_some] <;> rfl), be_ HB.out⟩

end Go.Proofs.YtdniejjhkkepcaaDoor.QFnPlanned
