/- The Go functions that the statement FnExactJobText reaches, as Lean functions, each with a proof that the call does what its function says; laid by a program of this session. No condition. -/
import Derived.Test.YtemnodpabflkoaaDoorQFnExactJobTextx0
import Derived.Test.YtemnodpabflkoaaDoorQFnExactJobTextx1
import Derived.Test.YtemnodpabflkoaaDoorQFnExactJobTextx5
import Derived.Test.YtemnodpabflkoaaDoorQFnExactJobTextx6
namespace Go.Proofs.YtemnodpabflkoaaDoor.QFnExactJobText
open Go.RowKit Go.Proofs.YtemnodpabflkoaaDoorW.PrintWords Go.Proofs.YtemnodpabflkoaaDoorW.PrintLast Go.Proofs.YtemnodpabflkoaaDoorW.PrintMore
attribute [local go_sem] max2_int min2_int max_two min_two max_three min_three max_four min_four   -- for this text's walks alone
set_option linter.unusedVariables false
set_option linter.unusedSimpArgs false

attribute [local go_sem high] eqA31
theorem swS_ {P : Program} {ops : Array Oper} {Q : Exit → Act → World → Prop} {md : Region.Mode} {S S2 : World → Prop} (hSS : ∀ w, S2 w → S w) : ∀ {fuel : Nat} {l : Array Bool} {a : Act} {w : World}, S2 w → (S2 w → wpAnyLast P md ops Q S2 [] fuel l a w) → wpAnyLast P md ops Q S [] fuel l a w
  | 0, _, _, _, hS, h => h hS
  | fuel + 1, _, _, _, hS, h => ⟨(h hS).1, fun i hi => wpOp_mono (fun _ _ h' => ⟨fun _ _ => hSS _ (h'.1 (by simp) hS), swS_ hSS (h'.1 (by simp) hS) (fun _ => h'.2)⟩) ((h hS).2 i hi)⟩

def impl_CostsOf.l0 : Nat → List Int → List (S31) → Int → Int → Int → Int → Int → List (S106) → Option (List Int)
 | 0, _, _, _, _, _, _, _, _ => none
 | k + 1, x3, x8, x9, x10, x380000, x380001, x380002, x380003 => if x10 < x9 then (if 0 ≤ x10 then (if x10 < (x8.length : Int) then (if x10 < (x380003.length : Int) then ((impl_CostOf.f k ((rd_T31 x8 x10).f0) ((rd_T31 x8 x10).f1) ((rd_T31 x8 x10).f2) ((rd_T106 x380003 x10).f0) ((rd_T106 x380003 x10).f1) ((rd_T106 x380003 x10).f2) ((rd_T106 x380003 x10).f3) ((rd_T106 x380003 x10).f4) ((rd_T106 x380003 x10).f5) ((rd_T106 x380003 x10).f6) ((rd_T106 x380003 x10).f7) ((rd_T106 x380003 x10).f8)).bind fun t389 => (if x3.length < 17592186044416 then (impl_CostsOf.l0 k (x3 ++ [t389]) x8 x9 (wrap64 (x10 + 1)) x380000 x380001 x380002 x380003) else (none))) else (impl_CostsOf.l0 k x3 x8 x9 (wrap64 (x10 + 1)) x380000 x380001 x380002 x380003)) else (none)) else (none)) else (some x3)
def impl_CostsOf.f (k : Nat) (a0_0 : Int) (a0_1 : Int) (a0_2 : Int) (l0_3 : List (S106)) : Option (List Int) := (impl_ShapesOf.f k a0_0 a0_1 a0_2 l0_3).bind fun t383 => (impl_CostsOf.l0 k (([] : List Int)) t383 (t383.length : Int) 0 a0_0 a0_1 a0_2 l0_3)
theorem impl_CostsOf.mono_l : ∀ k, (∀ y0 y1 y2 y3 y4 y5 y6 y7, LeO (impl_CostsOf.l0 k y0 y1 y2 y3 y4 y5 y6 y7) (impl_CostsOf.l0 (k + 1) y0 y1 y2 y3 y4 y5 y6 y7))
 | 0 => fun _ _ _ _ _ _ _ _ r h => by simp [impl_CostsOf.l0] at h
 | k + 1 => by
  have ih0 := impl_CostsOf.mono_l k
  ·
   intro y0 y1 y2 y3 y4 y5 y6 y7
   unfold impl_CostsOf.l0
   repeat' first
   | (with_reducible exact ih0 _ _ _ _ _ _ _ _)
   | (with_reducible exact impl_CostOf.mono _ _ _ _ _ _ _ _ _ _ _ _ _)
   | (with_reducible exact impl_ShapesOf.mono _ _ _ _ _)
   | (with_reducible exact LeO.refl _)
   | (with_reducible exact LeO.none _)
   | (with_reducible refine LeO.ite ?_ ?_)
   | (with_reducible refine LeO.bind ?_ (fun _ => ?_))
   | exact ih0 _ _ _ _ _ _ _ _
   | exact impl_CostOf.mono _ _ _ _ _ _ _ _ _ _ _ _ _
   | exact impl_ShapesOf.mono _ _ _ _ _
   | exact LeO.none _
   | refine LeO.ite ?_ ?_
   | refine LeO.bind ?_ (fun _ => ?_)
theorem impl_CostsOf.mono : ∀ a0 a1 a2 a3 k, LeO (impl_CostsOf.f k a0 a1 a2 a3) (impl_CostsOf.f (k + 1) a0 a1 a2 a3) := by
 intro a0 a1 a2 a3 k; have ih0 := impl_CostsOf.mono_l k
 unfold impl_CostsOf.f
 repeat' first
   | (with_reducible exact ih0 _ _ _ _ _ _ _ _)
   | (with_reducible exact impl_CostOf.mono _ _ _ _ _ _ _ _ _ _ _ _ _)
   | (with_reducible exact impl_ShapesOf.mono _ _ _ _ _)
   | (with_reducible exact LeO.refl _)
   | (with_reducible exact LeO.none _)
   | (with_reducible refine LeO.ite ?_ ?_)
   | (with_reducible refine LeO.bind ?_ (fun _ => ?_))
   | exact ih0 _ _ _ _ _ _ _ _
   | exact impl_CostOf.mono _ _ _ _ _ _ _ _ _ _ _ _ _
   | exact impl_ShapesOf.mono _ _ _ _ _
   | exact LeO.none _
   | refine LeO.ite ?_ ?_
   | refine LeO.bind ?_ (fun _ => ?_)
def impl_CostsOf.T6 : Bool × List (List Nat × List Nat) := (true, [([], []), ([], []), ([], []), ([2], [2]), ([], []), ([3, 4], [3, 4]), ([5], [5]), ([1, 6], [1, 6]), ([7], [7]), ([0, 8, 7], [0, 8]), ([9, 9, 0, 1, 2, 3, 4, 5, 6, 7, 8, 9], [0, 9])])
def impl_CostsOf.B6 : List Nat := [0, 0, 0, 4, 0, 28, 60, 126, 254, 511, 1023]
theorem impl_CostsOf.tab6 : rtab .any (opsOf Tryd.f52 6) = impl_CostsOf.T6 := by kernel_rfl
theorem impl_CostsOf.bits6 : waitsOk impl_CostsOf.T6.2 impl_CostsOf.B6 = true := by kernel_rfl
set_option maxHeartbeats 8000000 in
set_option maxRecDepth 100000 in
theorem impl_CostsOf.calls (k : Nat) (a0_0 : Int) (a0_1 : Int) (a0_2 : Int) (A0_3 : Option Addr) (c0_3 : Nat) (l0_3 : List (S106)) (r : List Int) (w : World) (hr0_3 : Kd.C k106 w A0_3 l0_3.length l0_3) (hc0_3 : l0_3.length ≤ c0_3) (h : impl_CostsOf.f k a0_0 a0_1 a0_2 l0_3 = some r) :
  Calls Tryd.prog 52 #[.agg #[.int .i64 a0_0, .int .i64 a0_1, .int .i64 a0_2, .slice A0_3 l0_3.length c0_3]] w fun e w' => ∃ v0_ : Value, e = .returned (v0_) ∧ Kd.R (Kd.int .i64) 3 w' w.heap.size (fun _ => True) v0_ r ∧ Below w.heap.size w w' := by
 have hu54 := Tryd.underlying54; have hu31 := Tryd.underlying31; have hu106 := Tryd.underlying106; have HR0_3 := Aside0.mk hr0_3; have HC0_3 := Aside0.mk hc0_3; clear hr0_3 hc0_3; have HB := Aside0.mk (Below.refl w.heap.size w); have H : ((impl_ShapesOf.f k a0_0 a0_1 a0_2 l0_3).bind fun t383 => (impl_CostsOf.l0 k (([] : List Int)) t383 (t383.length : Int) 0 a0_0 a0_1 a0_2 l0_3)) = some r := h; clear h; obtain ⟨y380, hy380⟩ : ∃ y_ : List Int, y_ = (([] : List Int)) := ⟨_, rfl⟩; replace H : ((impl_ShapesOf.f k a0_0 a0_1 a0_2 l0_3).bind fun t383 => (impl_CostsOf.l0 k y380 t383 (t383.length : Int) 0 a0_0 a0_1 a0_2 l0_3)) = some r := by first | (rw [hy380]; with_reducible exact H) | (have H2_ := (Option.bind_some _ _).symm.trans H; rw [hy380]; with_reducible exact H2_) | (have H2_ := (Option.bind_some _ _).symm.trans H; with_reducible exact H2_) | with_reducible exact H | (rw [hy380]; exact H) | exact H
 have Ny380 := Aside0.mk hy380; clear hy380; replace H := Option.bind_eq_some_iff.mp H; obtain ⟨t383, A20, H⟩ := H; (try dsimp only at H); have A2 := Aside0.mk A20; clear A20; have H' := Aside0.mk H; clear H
 go_enter Tryd.func52, Tryd.ntmps52
 go_wp2_with (first | ((with_reducible refine gate_dst (N := 1) rfl ?_); refine bx_ 1 #[.int .i64 a0_0, .int .i64 a0_1, .int .i64 a0_2, .slice A0_3 l0_3.length c0_3] 54 ?_; intro gb379 hg w3 hbox hb; have BK379 := Aside0.mk (hbox); have GW379 := gs_ hg HB; have GE379 := gs_ hg HB; replace HB := hb_ HB hb; clear hb hbox hg) | ((with_reducible refine gate_dst (N := 6) rfl ?_); refine Kd.R_lit (Kd.int .i64) _ 3 ?hg (N := 6) ?hd (xs := ([] : List Int)) (inner := []) (ok := fun _ => True) (okp := fun _ => True) ?hr ?hp (fun _ hk => hk) trivial (Below.refl _ _) (Nat.le_refl _) (by simp) ?_; (case hd => rfl); (case hg => rfl); (case hr => first | (go_simp; done) | (go_simp; rfl)); (case hp => exact (Reps.none _ _)); intro v381 w4 ho5 hb hg_ hnew_; clear hg_ hnew_; (first | rw [← Ny380.out] at ho5 | (simp only [Int.reduceToNat] at ho5; rw [← Ny380.out] at ho5)); have HO382 := Aside0.mk (Kd.R_lower ho5 (below_size (be_ HB.out))); replace BK379 := bb_ BK379 hb; replace HB := hb_ HB hb; clear hb ho5; obtain ⟨hcz6_0, hcz6_1, hcz6_2, hcz6_3, hfz6_0, hfz6_1, hfz6_2, hfz6_3⟩ := box4_ BK379.out) | ((with_reducible refine gate_callee (f := 50) rfl ?_); refine goesL_ (some 8) rfl rfl Tryd.func50 (by kernel_rfl) rfl #[.agg #[.int .i64 a0_0, .int .i64 a0_1, .int .i64 a0_2, .slice A0_3 l0_3.length c0_3]] rfl ar_ ?_; (with_reducible refine (impl_ShapesOf.calls k a0_0 a0_1 a0_2 _ _ l0_3 t383 _ ?side1 ?side2 A2.out).mono ?_); (case side1 => exact cu_ HR0_3.out HB.out); (case side2 => exact HC0_3.out); rintro e w7 ⟨v384, rfl, ho0, hb⟩; refine ⟨_, rfl, ?_⟩; replace HO382 := rb_ HO382 hb; have HO385 := Aside0.mk (Kd.R_lower ho0 (below_size (be_ HB.out))); replace BK379 := bb_ BK379 hb; replace HB := hb_ HB hb; (try clear hb); (try clear hb2); (try clear hk); (try clear hi); (try clear ho0); obtain ⟨Ao8, co8, eo8⟩ := Kd.R_slice HO385.out; subst eo8))
 (try simp only [Act.put, List.setIfInBounds_toArray, List.set_cons_zero, List.set_cons_succ])
 go_loopg [3, 10] k (fun kq v3 v10 w' => ∃ (x3_1 : List Int) (x10_1 : Int), v10 = .int .i64 x10_1 ∧ Aside0 (impl_CostsOf.l0 kq x3_1 t383 (t383.length : Int) x10_1 a0_0 a0_1 a0_2 l0_3 = some r) ∧ Aside0 (kq ≤ k) ∧ Aside0 (Kd.R (Kd.int .i64) 3 w' w.heap.size (fun _ => True) v3 x3_1) ∧ Aside0 (Kd.R k31 31 w' w.heap.size (fun _ => True) (.slice Ao8 t383.length co8) t383) ∧ Aside0 (w'.heap[gb379]? = some (.cells #[.int .i64 a0_0, .int .i64 a0_1, .int .i64 a0_2, (.slice A0_3 l0_3.length c0_3)] 54 (0, 0))) ∧ Aside0 (Below w.heap.size w w'))
 case atStart => exact ⟨(y380), (0), (by first | rfl | (simp; done) | (simp [*]; done)), H', ⟨Nat.le_refl _⟩, ⟨by (with_reducible repeat (first | apply Kd.R_alloc | apply Kd.R_drewN | apply Kd.R_drew)); exact HO382.out⟩, ⟨by (with_reducible repeat (first | apply Kd.R_alloc | apply Kd.R_drewN | apply Kd.R_drew)); exact HO385.out⟩, ⟨bu_ BK379.out⟩, ⟨be_ HB.out⟩⟩
 case round =>
  clear H'; (try clear p2); (try clear c5); (try clear hcz6_0 hcz6_1 hcz6_2 hcz6_3 hfz6_0 hfz6_1 hfz6_2 hfz6_3); obtain ⟨x3_1, x10_1, rfl, HA, HK1, HO_3, HO_8, BK379, HB⟩ := hrel
  cases gk with
  | zero => exact absurd HA.out (by simp [impl_CostsOf.l0])
  | succ k1 =>
   have H := HA.out; clear HA; simp only [impl_CostsOf.l0] at H
   by_cases c9 : x10_1 < (t383.length : Int)
   ·
    rw [if_pos c9] at H; have c9b0 : decide (x10_1 < (t383.length : Int)) = true := decide_eq_true c9; clear c9
    by_cases c10 : 0 ≤ x10_1
    ·
     rw [if_pos c10] at H; have c10b0 : decide (0 ≤ x10_1) = true := decide_eq_true c10; clear c10
     by_cases c11 : x10_1 < (t383.length : Int)
     ·
      rw [if_pos c11] at H; have c11b0 : decide (x10_1 < (t383.length : Int)) = true := decide_eq_true c11; clear c11
      by_cases c12 : x10_1 < (l0_3.length : Int)
      ·
       rw [if_pos c12] at H; have c12b0 : decide (x10_1 < (l0_3.length : Int)) = true := decide_eq_true c12; clear c12; replace H := Option.bind_eq_some_iff.mp H; obtain ⟨t389, A130, H⟩ := H; (try dsimp only at H); have A13 := Aside0.mk A130; clear A130
       by_cases c14 : x3_1.length < 17592186044416
       ·
        rw [if_pos c14] at H; have LMc14 := Aside0.mk c14; clear c14; obtain ⟨y390, hy390⟩ : ∃ y_ : List Int, y_ = (x3_1 ++ [t389]) := ⟨_, rfl⟩; replace H : (impl_CostsOf.l0 k1 y390 t383 (t383.length : Int) (wrap64 (x10_1 + 1)) a0_0 a0_1 a0_2 l0_3) = some r := by first | (rw [hy390]; with_reducible exact H) | (have H2_ := (Option.bind_some _ _).symm.trans H; rw [hy390]; with_reducible exact H2_) | (have H2_ := (Option.bind_some _ _).symm.trans H; with_reducible exact H2_) | with_reducible exact H | (rw [hy390]; exact H) | exact H
        have Ny390 := Aside0.mk hy390; clear hy390; have H' := Aside0.mk H; clear H; have p386 : 0 ≤ (x10_1 : Int) := of_decide_eq_true (by first | (with_reducible assumption) | assumption); have q386 : x10_1 < (t383.length : Int) := of_decide_eq_true (by first | (with_reducible assumption) | assumption); obtain ⟨ad386, e386, hx386_0, hx386_1, hx386_2⟩ := at_T31 (Kd.R_reads' HO_8.out).2.2 x10_1 p386 q386
        cases e386
        replace p386 := eq_true p386; replace q386 := eq_true q386
        try go_wp2_with (first | ((with_reducible refine gate_dst (N := 5) rfl ?_); refine bx_ 5 #[.int .i64 0, .int .i64 0, .int .i64 0] 31 ?_; intro gb387 hg w15 hbox hb; replace HO_3 := rb_ HO_3 hb; replace HO_8 := Aside0.mk (Kd.R_below (Kd.R_elderB (ra_ HO_8.out) gb387 (Nat.le_of_eq hg.symm)) hb); have BK387 := Aside0.mk (hbox); have GW387 := gs_ hg HB; have GE387 := gs_ hg HB; replace HB := hb_ HB hb; have NB379_387 := nx_ hg BK379; have NB387_379 := ny_ hg BK379; replace BK379 := bb_ BK379 hb; clear hb hbox hg; have hnb16 := NB387_379.out; have hnc16 := NB379_387.out; obtain ⟨hcz17_0, hcz17_1, hcz17_2, hfz17_0, hfz17_1, hfz17_2⟩ := box3_ BK387.out; obtain ⟨hcz18_0, hcz18_1, hcz18_2, hcz18_3, hfz18_0, hfz18_1, hfz18_2, hfz18_3⟩ := box4_ BK379.out))
        have n0_ : Aside0 (Kd.R (Kd.int .i64) 3 (((w15.setCell ⟨gb387, 0, none⟩ (.int .i64 ((rd_T31 t383 x10_1).f0))).setCell ⟨gb387, 1, none⟩ (.int .i64 ((rd_T31 t383 x10_1).f1))).setCell ⟨gb387, 2, none⟩ (.int .i64 ((rd_T31 t383 x10_1).f2))) w.heap.size (fun _ => True) u3 x3_1) := ⟨by (with_reducible repeat (first | apply Kd.R_alloc | apply Kd.R_drewN | apply Kd.R_drew)); exact Kd.R_mono (Kd.R_far (p := ⟨gb387, 2, none⟩) (Kd.R_far (p := ⟨gb387, 1, none⟩) (Kd.R_far (p := ⟨gb387, 0, none⟩) (Kd.R_types HO_3.out BK387.out (by decide)) (fun _ hk => hk.2) (.int .i64 ((rd_T31 t383 x10_1).f0))) (fun _ hk => hk.2) (.int .i64 ((rd_T31 t383 x10_1).f1))) (fun _ hk => hk.2) (.int .i64 ((rd_T31 t383 x10_1).f2))) (fun _ hk => trivial)⟩; have n1_ : Aside0 (Kd.R k31 31 (((w15.setCell ⟨gb387, 0, none⟩ (.int .i64 ((rd_T31 t383 x10_1).f0))).setCell ⟨gb387, 1, none⟩ (.int .i64 ((rd_T31 t383 x10_1).f1))).setCell ⟨gb387, 2, none⟩ (.int .i64 ((rd_T31 t383 x10_1).f2))) w.heap.size (fun k_ => k_ ≠ gb387) (.slice (some ad386) t383.length co8) t383) := ⟨by (with_reducible repeat (first | apply Kd.R_alloc | apply Kd.R_drewN | apply Kd.R_drew)); exact Kd.R_mono (Kd.R_far (p := ⟨gb387, 2, none⟩) (Kd.R_far (p := ⟨gb387, 1, none⟩) (Kd.R_far (p := ⟨gb387, 0, none⟩) (Kd.R_mono HO_8.out (fun k_ hk => (⟨hk, hk.2⟩ : _ ∧ k_ ≠ gb387))) (fun _ hk => hk.2) (.int .i64 ((rd_T31 t383 x10_1).f0))) (fun _ hk => hk.2) (.int .i64 ((rd_T31 t383 x10_1).f1))) (fun _ hk => hk.2) (.int .i64 ((rd_T31 t383 x10_1).f2))) (fun _ hk => hk.1.2)⟩; have n2_ : Aside0 ((((w15.setCell ⟨gb387, 0, none⟩ (.int .i64 ((rd_T31 t383 x10_1).f0))).setCell ⟨gb387, 1, none⟩ (.int .i64 ((rd_T31 t383 x10_1).f1))).setCell ⟨gb387, 2, none⟩ (.int .i64 ((rd_T31 t383 x10_1).f2))).heap[gb379]? = some (.cells #[.int .i64 a0_0, .int .i64 a0_1, .int .i64 a0_2, .slice A0_3 l0_3.length c0_3] 54 (0, 0))) := ⟨by (with_reducible repeat (first | refine blk_drewN ?_ _ | refine blk_drew ?_ | refine blk_alloc ?_ _)); refine blk_far ?_ NB379_387.out _; (with_reducible repeat (first | refine blk_drewN ?_ _ | refine blk_drew ?_ | refine blk_alloc ?_ _)); refine blk_far ?_ NB379_387.out _; (with_reducible repeat (first | refine blk_drewN ?_ _ | refine blk_drew ?_ | refine blk_alloc ?_ _)); refine blk_far ?_ NB379_387.out _; (with_reducible repeat (first | refine blk_drewN ?_ _ | refine blk_drew ?_ | refine blk_alloc ?_ _)); exact BK379.out⟩; have n3_ : Aside0 ((((w15.setCell ⟨gb387, 0, none⟩ (.int .i64 ((rd_T31 t383 x10_1).f0))).setCell ⟨gb387, 1, none⟩ (.int .i64 ((rd_T31 t383 x10_1).f1))).setCell ⟨gb387, 2, none⟩ (.int .i64 ((rd_T31 t383 x10_1).f2))).heap[gb387]? = some (.cells #[.int .i64 ((rd_T31 t383 x10_1).f0), .int .i64 ((rd_T31 t383 x10_1).f1), .int .i64 ((rd_T31 t383 x10_1).f2)] 31 (0, 0))) := ⟨by (with_reducible repeat (first | refine blk_drewN ?_ _ | refine blk_drew ?_ | refine blk_alloc ?_ _)); refine blk_put (cs := #[.int .i64 ((rd_T31 t383 x10_1).f0), .int .i64 ((rd_T31 t383 x10_1).f1), .int .i64 0]) ?_ 2 _ rfl; (with_reducible repeat (first | refine blk_drewN ?_ _ | refine blk_drew ?_ | refine blk_alloc ?_ _)); refine blk_put (cs := #[.int .i64 ((rd_T31 t383 x10_1).f0), .int .i64 0, .int .i64 0]) ?_ 1 _ rfl; (with_reducible repeat (first | refine blk_drewN ?_ _ | refine blk_drew ?_ | refine blk_alloc ?_ _)); refine blk_put (cs := #[.int .i64 0, .int .i64 0, .int .i64 0]) ?_ 0 _ rfl; (with_reducible repeat (first | refine blk_drewN ?_ _ | refine blk_drew ?_ | refine blk_alloc ?_ _)); exact BK387.out⟩; have n4_ : Aside0 (Below w.heap.size w (((w15.setCell ⟨gb387, 0, none⟩ (.int .i64 ((rd_T31 t383 x10_1).f0))).setCell ⟨gb387, 1, none⟩ (.int .i64 ((rd_T31 t383 x10_1).f1))).setCell ⟨gb387, 2, none⟩ (.int .i64 ((rd_T31 t383 x10_1).f2)))) := ⟨be_ HB.out⟩; (try clear HO_3); (try clear HO_8); (try clear BK379); (try clear BK387); (try clear HB); generalize (((w15.setCell ⟨gb387, 0, none⟩ (.int .i64 ((rd_T31 t383 x10_1).f0))).setCell ⟨gb387, 1, none⟩ (.int .i64 ((rd_T31 t383 x10_1).f1))).setCell ⟨gb387, 2, none⟩ (.int .i64 ((rd_T31 t383 x10_1).f2))) = w19 at n0_ n1_ n2_ n3_ n4_ ⊢; have HO_3 := n0_; have HO_8 := n1_; have BK379 := n2_; have BK387 := n3_; have HB := n4_; clear n0_ n1_ n2_ n3_ n4_; replace HO_3 := Aside0.mk (Kd.R_drew HO_3.out); replace HO_8 := Aside0.mk (Kd.R_drew HO_8.out); replace BK379 := Aside0.mk (blk_drew BK379.out); replace BK387 := Aside0.mk (blk_drew BK387.out); replace HB := Aside0.mk (below_drew1 HB.out); have p388 : 0 ≤ (x10_1 : Int) := of_decide_eq_true (by first | (with_reducible assumption) | assumption); have q388 : x10_1 < (l0_3.length : Int) := of_decide_eq_true (by first | (with_reducible assumption) | assumption); obtain ⟨ad388, A388_7, c388_7, A388_8, c388_8, e388, hx388_0, hx388_1, hx388_2, hx388_3, hx388_4, hx388_5, hx388_6, hx388_7, hx388_8, hl388_7, hi388_7, hl388_8, hi388_8⟩ := at_T106 HR0_3.out x10_1 p388 q388; have hw388_8 := hx388_8; have hw388_7 := hx388_7; have hw388_6 := hx388_6; have hw388_5 := hx388_5; have hw388_4 := hx388_4; have hw388_3 := hx388_3; have hw388_2 := hx388_2; have hw388_1 := hx388_1; have hw388_0 := hx388_0
        cases e388
        replace hx388_0 := cw_ HB.out hx388_0; replace hx388_1 := cw_ HB.out hx388_1; replace hx388_2 := cw_ HB.out hx388_2; replace hx388_3 := cw_ HB.out hx388_3; replace hx388_4 := cw_ HB.out hx388_4; replace hx388_5 := cw_ HB.out hx388_5; replace hx388_6 := cw_ HB.out hx388_6; replace hx388_7 := cw_ HB.out hx388_7; replace hx388_8 := cw_ HB.out hx388_8; have HR388_7 := Aside0.mk hi388_7; have HC388_7 := Aside0.mk hl388_7; clear hi388_7 hl388_7; have HR388_8 := Aside0.mk hi388_8; have HC388_8 := Aside0.mk hl388_8; clear hi388_8 hl388_8; replace p388 := eq_true p388; replace q388 := eq_true q388; refine start_ (n := 11) (S := fun w' => w'.cell? ⟨gb387, 0, none⟩ = some (.int .i64 ((rd_T31 t383 x10_1).f0)) ∧ w'.cell? ⟨gb387, 1, none⟩ = some (.int .i64 ((rd_T31 t383 x10_1).f1)) ∧ w'.cell? ⟨gb387, 2, none⟩ = some (.int .i64 ((rd_T31 t383 x10_1).f2)) ∧ w'.cell? ⟨gb379, 0, none⟩ = some (.int .i64 a0_0) ∧ w'.cell? ⟨gb379, 1, none⟩ = some (.int .i64 a0_1) ∧ w'.cell? ⟨gb379, 2, none⟩ = some (.int .i64 a0_2) ∧ w'.cell? ⟨gb379, 3, none⟩ = some (.slice (some ad388) l0_3.length c0_3) ∧ w'.cell? (ad388.add ((x10_1).toNat * 9)) = some (.int .i64 ((rd_T106 l0_3 x10_1).f0)) ∧ w'.cell? ⟨(ad388.add ((x10_1).toNat * 9)).block, (ad388.add ((x10_1).toNat * 9)).off + 1, none⟩ = some (.int .i64 ((rd_T106 l0_3 x10_1).f1)) ∧ w'.cell? ⟨(ad388.add ((x10_1).toNat * 9)).block, (ad388.add ((x10_1).toNat * 9)).off + 2, none⟩ = some (.int .i64 ((rd_T106 l0_3 x10_1).f2)) ∧ w'.cell? ⟨(ad388.add ((x10_1).toNat * 9)).block, (ad388.add ((x10_1).toNat * 9)).off + 3, none⟩ = some (.int .i64 ((rd_T106 l0_3 x10_1).f3)) ∧ w'.cell? ⟨(ad388.add ((x10_1).toNat * 9)).block, (ad388.add ((x10_1).toNat * 9)).off + 4, none⟩ = some (.int .i64 ((rd_T106 l0_3 x10_1).f4)) ∧ w'.cell? ⟨(ad388.add ((x10_1).toNat * 9)).block, (ad388.add ((x10_1).toNat * 9)).off + 5, none⟩ = some (.int .i64 ((rd_T106 l0_3 x10_1).f5)) ∧ w'.cell? ⟨(ad388.add ((x10_1).toNat * 9)).block, (ad388.add ((x10_1).toNat * 9)).off + 6, none⟩ = some (.int .i64 ((rd_T106 l0_3 x10_1).f6)) ∧ w'.cell? ⟨(ad388.add ((x10_1).toNat * 9)).block, (ad388.add ((x10_1).toNat * 9)).off + 7, none⟩ = some (.slice A388_7 ((rd_T106 l0_3 x10_1).f7).length c388_7) ∧ w'.cell? ⟨(ad388.add ((x10_1).toNat * 9)).block, (ad388.add ((x10_1).toNat * 9)).off + 8, none⟩ = some (.slice A388_8 ((rd_T106 l0_3 x10_1).f8).length c388_8)) (ds := []) #[false, false, false, false, false, false, false, false, false, false, false] (by kernel_rfl) rfl rfl ⟨(blk_cell BK387.out 0).trans rfl, (blk_cell BK387.out 1).trans rfl, (blk_cell BK387.out 2).trans rfl, (blk_cell BK379.out 0).trans rfl, (blk_cell BK379.out 1).trans rfl, (blk_cell BK379.out 2).trans rfl, (blk_cell BK379.out 3).trans rfl, (cw_ HB.out hw388_0), (cw_ HB.out hw388_1), (cw_ HB.out hw388_2), (cw_ HB.out hw388_3), (cw_ HB.out hw388_4), (cw_ HB.out hw388_5), (cw_ HB.out hw388_6), (cw_ HB.out hw388_7), (cw_ HB.out hw388_8)⟩ (fun hHeld => ?_); refine with_tabW impl_CostsOf.tab6 impl_CostsOf.bits6 (fun HT_ HW_ => ?_); generalize w19.drew = w20 at HO_3 HO_8 BK379 BK387 HB HR388_7 HR388_8 hx388_0 hx388_1 hx388_2 hx388_3 hx388_4 hx388_5 hx388_6 hx388_7 hx388_8 hHeld ⊢; refine pl_ 0 (some 20) 11 1 HT_.out ?_; refine pl_ 2 (some 22) 11 5 HT_.out ?_; refine pl_ 4 (some 24) 11 21 HT_.out ?_; refine tk_ 1 (some 21) 11 23 HT_.out HW_.out hHeld (hy := by rintro w' ⟨s0, s1, s2, s3, s4, s5, s6, s7, s8, s9, s10, s11, s12, s13, s14, s15⟩; go_simp; with_reducible rfl) (h := ?_); refine tk_ 3 (some 23) 11 31 HT_.out HW_.out hHeld (hy := by rintro w' ⟨s0, s1, s2, s3, s4, s5, s6, s7, s8, s9, s10, s11, s12, s13, s14, s15⟩; go_simp; with_reducible rfl) (h := ?_); refine pl_ 5 (some 25) 11 63 HT_.out ?_; refine tk_ 6 (some 26) 11 127 HT_.out HW_.out hHeld (hy := by rintro w' ⟨s0, s1, s2, s3, s4, s5, s6, s7, s8, s9, s10, s11, s12, s13, s14, s15⟩; go_simp; with_reducible rfl) (h := ?_); refine one_ (i := 7) (N := some 27) (bl_ 11 255) rfl rfl (one_of HT_.out (by kernel_rfl)) (by decide) (fun K hK => ?_); refine goes_ Tryd.func68 (by kernel_rfl) rfl #[.agg #[.int .i64 ((rd_T31 t383 x10_1).f0), .int .i64 ((rd_T31 t383 x10_1).f1), .int .i64 ((rd_T31 t383 x10_1).f2)], .agg #[.int .i64 ((rd_T106 l0_3 x10_1).f0), .int .i64 ((rd_T106 l0_3 x10_1).f1), .int .i64 ((rd_T106 l0_3 x10_1).f2), .int .i64 ((rd_T106 l0_3 x10_1).f3), .int .i64 ((rd_T106 l0_3 x10_1).f4), .int .i64 ((rd_T106 l0_3 x10_1).f5), .int .i64 ((rd_T106 l0_3 x10_1).f6), .slice A388_7 ((rd_T106 l0_3 x10_1).f7).length c388_7, .slice A388_8 ((rd_T106 l0_3 x10_1).f8).length c388_8]] (by rfl) rfl rfl ar_ ?_
        (with_reducible refine (impl_CostOf.calls k1 ((rd_T31 t383 x10_1).f0) ((rd_T31 t383 x10_1).f1) ((rd_T31 t383 x10_1).f2) ((rd_T106 l0_3 x10_1).f0) ((rd_T106 l0_3 x10_1).f1) ((rd_T106 l0_3 x10_1).f2) ((rd_T106 l0_3 x10_1).f3) ((rd_T106 l0_3 x10_1).f4) ((rd_T106 l0_3 x10_1).f5) ((rd_T106 l0_3 x10_1).f6) _ _ ((rd_T106 l0_3 x10_1).f7) _ _ ((rd_T106 l0_3 x10_1).f8) t389 _ ?side1 ?side2 ?side3 ?side4 A13.out).mono ?_)
        (case side1 => exact cu_ HR388_7.out HB.out); (case side2 => exact HC388_7.out); (case side3 => exact cu_ HR388_8.out HB.out); (case side4 => exact HC388_8.out); rintro e w21 ⟨rfl, hb⟩; refine ⟨_, rfl, ?_⟩; replace HO_3 := rb_ HO_3 hb; replace HO_8 := rb_ HO_8 hb; replace BK379 := bb_ BK379 hb; replace BK387 := bb_ BK387 hb; replace HB := hb_ HB hb; (try clear hb); (try clear hb2); (try clear hk); (try clear hi); refine hK.out _ _ ⟨(blk_cell BK387.out 0).trans rfl, (blk_cell BK387.out 1).trans rfl, (blk_cell BK387.out 2).trans rfl, (blk_cell BK379.out 0).trans rfl, (blk_cell BK379.out 1).trans rfl, (blk_cell BK379.out 2).trans rfl, (blk_cell BK379.out 3).trans rfl, (cw_ HB.out hw388_0), (cw_ HB.out hw388_1), (cw_ HB.out hw388_2), (cw_ HB.out hw388_3), (cw_ HB.out hw388_4), (cw_ HB.out hw388_5), (cw_ HB.out hw388_6), (cw_ HB.out hw388_7), (cw_ HB.out hw388_8)⟩ (fun hHeld => ?_); clear hK K; refine nm_ 27 (h := ?_); refine one_ (i := 8) (N := some 28) (bl_ 11 511) rfl rfl (one_of HT_.out (by kernel_rfl)) (by decide) (fun K hK => ?_); refine value_ (w1 := ?_) (v := ?_) (by rfl) rfl ?_ ?_
        rotate_left 2
        ·
         go_simp
         constructor
         ·
          rfl
         ·
          rfl
        refine hK.out _ _ ⟨(blk_cell (blk_alloc BK387.out _) 0).trans rfl, (blk_cell (blk_alloc BK387.out _) 1).trans rfl, (blk_cell (blk_alloc BK387.out _) 2).trans rfl, (blk_cell (blk_alloc BK379.out _) 0).trans rfl, (blk_cell (blk_alloc BK379.out _) 1).trans rfl, (blk_cell (blk_alloc BK379.out _) 2).trans rfl, (blk_cell (blk_alloc BK379.out _) 3).trans rfl, (World.cell?_alloc_lt _ _ _ (World.block_lt_of_cell? _ _ ((cw_ HB.out hw388_0)))).trans ((cw_ HB.out hw388_0)), (World.cell?_alloc_lt _ _ _ (World.block_lt_of_cell? _ _ ((cw_ HB.out hw388_1)))).trans ((cw_ HB.out hw388_1)), (World.cell?_alloc_lt _ _ _ (World.block_lt_of_cell? _ _ ((cw_ HB.out hw388_2)))).trans ((cw_ HB.out hw388_2)), (World.cell?_alloc_lt _ _ _ (World.block_lt_of_cell? _ _ ((cw_ HB.out hw388_3)))).trans ((cw_ HB.out hw388_3)), (World.cell?_alloc_lt _ _ _ (World.block_lt_of_cell? _ _ ((cw_ HB.out hw388_4)))).trans ((cw_ HB.out hw388_4)), (World.cell?_alloc_lt _ _ _ (World.block_lt_of_cell? _ _ ((cw_ HB.out hw388_5)))).trans ((cw_ HB.out hw388_5)), (World.cell?_alloc_lt _ _ _ (World.block_lt_of_cell? _ _ ((cw_ HB.out hw388_6)))).trans ((cw_ HB.out hw388_6)), (World.cell?_alloc_lt _ _ _ (World.block_lt_of_cell? _ _ ((cw_ HB.out hw388_7)))).trans ((cw_ HB.out hw388_7)), (World.cell?_alloc_lt _ _ _ (World.block_lt_of_cell? _ _ ((cw_ HB.out hw388_8)))).trans ((cw_ HB.out hw388_8))⟩ (fun hHeld => ?_); clear hK K; refine nm_ 28 (h := ?_); refine one_ (i := 9) (N := some 29) (bl_ 11 1023) rfl rfl (one_of HT_.out (by kernel_rfl)) (by decide) (fun K hK => ?_); refine Kd.R_append_step (Kd.int .i64) (w0 := w) w.heap.size (by rfl) (.tmp 20) (.tmp 28) 24 3 (.int .i64 0) 8 rfl Tryd.underlying24 info3 rfl (by decide) (by omega) u3 x3_1 t389 [.int .i64 t389] (fun _ => True) (fun _ => False) rfl rfl ?aP (fun _ hk => hk.elim) ?aF ?aO ?aB ?aS ?aL ?_; (case aP => exact rfl); (case aB => exact (be_ HB.out)); (case aF => exact (fun _ _ => trivial)); (case aO => exact (ra_ HO_3.out)); (case aS => exact (below_size (be_ HB.out))); (case aL => have := LMc14.out; omega); intro v391 w22 ho hb hg hat; rw [← Ny390.out] at ho; replace HO_8 := Aside0.mk (Kd.R_over' (ra_ HO_8.out) (Kd.R_typed (ra_ HO_3.out)) (by decide) hg); replace BK379 := Aside0.mk (blk_grown (g := gb379) (o := .cells #[.int .i64 a0_0, .int .i64 a0_1, .int .i64 a0_2, .slice (some ad388) l0_3.length c0_3] 54 (0, 0)) (bu_ BK379.out) hg (Kd.R_ne HO_3.out BK379.out (by decide))); replace BK387 := Aside0.mk (blk_grown (g := gb387) (o := .cells #[.int .i64 ((rd_T31 t383 x10_1).f0), .int .i64 ((rd_T31 t383 x10_1).f1), .int .i64 ((rd_T31 t383 x10_1).f2)] 31 (0, 0)) (bu_ BK387.out) hg (Kd.R_ne HO_3.out BK387.out (by decide))); replace HB := Aside0.mk (hb); have HO392 := Aside0.mk (ho); clear HO_3; clear ho hb hg hat; refine hK.out _ _ ⟨(blk_cell BK387.out 0).trans rfl, (blk_cell BK387.out 1).trans rfl, (blk_cell BK387.out 2).trans rfl, (blk_cell BK379.out 0).trans rfl, (blk_cell BK379.out 1).trans rfl, (blk_cell BK379.out 2).trans rfl, (blk_cell BK379.out 3).trans rfl, (cw_ HB.out hw388_0), (cw_ HB.out hw388_1), (cw_ HB.out hw388_2), (cw_ HB.out hw388_3), (cw_ HB.out hw388_4), (cw_ HB.out hw388_5), (cw_ HB.out hw388_6), (cw_ HB.out hw388_7), (cw_ HB.out hw388_8)⟩ (fun hHeld => ?_); clear hK K; refine nm_ 29 (h := ?_); refine pl_ 10 (some 3) 11 2047 HT_.out ?_; refine done_ (done_of HT_.out (by kernel_rfl)) ?_
        try go_wp2
        go_roundg k1
        case measure => have := HK1.out; omega
        case rel => exact ⟨(y390), (wrap64 (x10_1 + 1)), (by first | rfl | (simp; done) | (simp [*]; done)), H', ⟨by have := HK1.out; omega⟩, ⟨by (with_reducible repeat (first | apply Kd.R_alloc | apply Kd.R_drewN | apply Kd.R_drew)); exact HO392.out⟩, ⟨by (with_reducible repeat (first | apply Kd.R_alloc | apply Kd.R_drewN | apply Kd.R_drew)); exact Kd.R_mono HO_8.out (fun _ hk => trivial)⟩, ⟨bu_ BK379.out⟩, ⟨be_ HB.out⟩⟩
       ·
        rw [if_neg c14] at H; exact absurd H (by simp)
      ·
       rw [if_neg c12] at H; have c12b0 : decide (x10_1 < (l0_3.length : Int)) = false := decide_eq_false c12; clear c12; have H' := Aside0.mk H; clear H; have p386 : 0 ≤ (x10_1 : Int) := of_decide_eq_true (by first | (with_reducible assumption) | assumption); have q386 : x10_1 < (t383.length : Int) := of_decide_eq_true (by first | (with_reducible assumption) | assumption); obtain ⟨ad386, e386, hx386_0, hx386_1, hx386_2⟩ := at_T31 (Kd.R_reads' HO_8.out).2.2 x10_1 p386 q386
       cases e386
       replace p386 := eq_true p386; replace q386 := eq_true q386
       go_wp2_with (first | ((with_reducible refine gate_dst (N := 5) rfl ?_); refine bx_ 5 #[.int .i64 0, .int .i64 0, .int .i64 0] 31 ?_; intro gb387 hg w23 hbox hb; replace HO_3 := rb_ HO_3 hb; replace HO_8 := Aside0.mk (Kd.R_below (Kd.R_elderB (ra_ HO_8.out) gb387 (Nat.le_of_eq hg.symm)) hb); have BK387 := Aside0.mk (hbox); have GW387 := gs_ hg HB; have GE387 := gs_ hg HB; replace HB := hb_ HB hb; have NB379_387 := nx_ hg BK379; have NB387_379 := ny_ hg BK379; replace BK379 := bb_ BK379 hb; clear hb hbox hg; have hnb24 := NB387_379.out; have hnc24 := NB379_387.out; obtain ⟨hcz25_0, hcz25_1, hcz25_2, hfz25_0, hfz25_1, hfz25_2⟩ := box3_ BK387.out; obtain ⟨hcz26_0, hcz26_1, hcz26_2, hcz26_3, hfz26_0, hfz26_1, hfz26_2, hfz26_3⟩ := box4_ BK379.out))
       go_roundg k1
       case measure => have := HK1.out; omega
       case rel => exact ⟨(x3_1), (wrap64 (x10_1 + 1)), (by first | rfl | (simp; done) | (simp [*]; done)), H', ⟨by have := HK1.out; omega⟩, ⟨by (with_reducible repeat (first | apply Kd.R_alloc | apply Kd.R_drewN | apply Kd.R_drew)); exact Kd.R_mono (Kd.R_far (p := ⟨gb387, 2, none⟩) (Kd.R_far (p := ⟨gb387, 1, none⟩) (Kd.R_far (p := ⟨gb387, 0, none⟩) (Kd.R_types HO_3.out BK387.out (by decide)) (fun _ hk => hk.2) (.int .i64 ((rd_T31 t383 x10_1).f0))) (fun _ hk => hk.2) (.int .i64 ((rd_T31 t383 x10_1).f1))) (fun _ hk => hk.2) (.int .i64 ((rd_T31 t383 x10_1).f2))) (fun _ hk => trivial)⟩, ⟨by (with_reducible repeat (first | apply Kd.R_alloc | apply Kd.R_drewN | apply Kd.R_drew)); exact Kd.R_mono (Kd.R_far (p := ⟨gb387, 2, none⟩) (Kd.R_far (p := ⟨gb387, 1, none⟩) (Kd.R_far (p := ⟨gb387, 0, none⟩) (Kd.R_mono HO_8.out (fun k_ hk => (⟨hk, hk.2⟩ : _ ∧ k_ ≠ gb387))) (fun _ hk => hk.2) (.int .i64 ((rd_T31 t383 x10_1).f0))) (fun _ hk => hk.2) (.int .i64 ((rd_T31 t383 x10_1).f1))) (fun _ hk => hk.2) (.int .i64 ((rd_T31 t383 x10_1).f2))) (fun _ hk => trivial)⟩, ⟨by (with_reducible repeat (first | refine blk_drewN ?_ _ | refine blk_drew ?_ | refine blk_alloc ?_ _)); refine blk_far ?_ NB379_387.out _; (with_reducible repeat (first | refine blk_drewN ?_ _ | refine blk_drew ?_ | refine blk_alloc ?_ _)); refine blk_far ?_ NB379_387.out _; (with_reducible repeat (first | refine blk_drewN ?_ _ | refine blk_drew ?_ | refine blk_alloc ?_ _)); refine blk_far ?_ NB379_387.out _; (with_reducible repeat (first | refine blk_drewN ?_ _ | refine blk_drew ?_ | refine blk_alloc ?_ _)); exact BK379.out⟩, ⟨be_ HB.out⟩⟩
     ·
      rw [if_neg c11] at H; exact absurd H (by simp)
    ·
     rw [if_neg c10] at H; exact absurd H (by simp)
   ·
    rw [if_neg c9] at H; have c9b0 : decide (x10_1 < (t383.length : Int)) = false := decide_eq_false c9; clear c9; obtain rfl := Option.some.inj H
    go_wp2
    go_ret
    exact ⟨_, by first | rfl | (simp [errW_none, errW_some] <;> rfl) | (simp [*, errW_none, errW_some] <;> rfl), by (with_reducible repeat (first | apply Kd.R_alloc | apply Kd.R_drewN | apply Kd.R_drew)); exact HO_3.out, be_ HB.out⟩

def impl_JobOk.f (k : Nat) (a0_0 : Int) (a0_1 : Int) (a0_2 : Int) (l0_3 : List (S106)) (a0_4 : Int) (a0_5 : Int) (a0_6 : Int) (a0_7 : Int) (l0_8 : List Int) (a0_9 : Int) : Option (Bool) := (impl_ModelOk.f k a0_0 a0_1 a0_2 l0_3).bind fun t394 => (if t394 = true then ((impl_in.f a0_4 0 (l0_3.length : Int)).bind fun t395 => (if t395 = true then ((impl_TensorOk.f k a0_5 a0_6 a0_7 l0_8).bind fun t396 => (if t396 = true then ((impl_ShapesOf.f k a0_0 a0_1 a0_2 l0_3).bind fun t397 => (if 0 ≤ a0_4 then (if a0_4 < (t397.length : Int) then (if (a0_5 == ((rd_T31 t397 a0_4).f0) && (a0_6 == ((rd_T31 t397 a0_4).f1) && (a0_7 == ((rd_T31 t397 a0_4).f2)))) = true then ((impl_CostsOf.f k a0_0 a0_1 a0_2 l0_3).bind fun t401 => (if a0_4 ≤ (t401.length : Int) then ((impl_sum.f k (t401.take (a0_4 : Int).toNat)).bind fun t408 => (some (a0_9 == t408))) else (none))) else (some false)) else (none)) else (none))) else (some false))) else (some false))) else (some false))
theorem impl_JobOk.mono : ∀ a0 a1 a2 a3 a4 a5 a6 a7 a8 a9 k, LeO (impl_JobOk.f k a0 a1 a2 a3 a4 a5 a6 a7 a8 a9) (impl_JobOk.f (k + 1) a0 a1 a2 a3 a4 a5 a6 a7 a8 a9) := by
 intro a0 a1 a2 a3 a4 a5 a6 a7 a8 a9 k
 unfold impl_JobOk.f
 repeat' first
   | (with_reducible exact impl_CostsOf.mono _ _ _ _ _)
   | (with_reducible exact impl_ModelOk.mono _ _ _ _ _)
   | (with_reducible exact impl_ShapesOf.mono _ _ _ _ _)
   | (with_reducible exact impl_TensorOk.mono _ _ _ _ _)
   | (with_reducible exact impl_sum.mono _ _)
   | (with_reducible exact LeO.refl _)
   | (with_reducible exact LeO.none _)
   | (with_reducible refine LeO.ite ?_ ?_)
   | (with_reducible refine LeO.bind ?_ (fun _ => ?_))
   | exact impl_CostsOf.mono _ _ _ _ _
   | exact impl_ModelOk.mono _ _ _ _ _
   | exact impl_ShapesOf.mono _ _ _ _ _
   | exact impl_TensorOk.mono _ _ _ _ _
   | exact impl_sum.mono _ _
   | exact LeO.none _
   | refine LeO.ite ?_ ?_
   | refine LeO.bind ?_ (fun _ => ?_)
def impl_JobOk.T1 : Bool × List (List Nat × List Nat) := (true, [([], []), ([0], [0]), ([1], [1]), ([2, 2], [2]), ([3], [3]), ([4, 3], [3, 4]), ([3], [3]), ([6, 3], [3, 6]), ([7, 3], [3, 7]), ([8, 3], [3, 8]), ([5, 9, 3, 3], [3, 5, 9]), ([3, 10], [3, 10]), ([11, 10], [11]), ([12], [12]), ([13, 12], [12, 13]), ([14, 12, 12], [12, 14]), ([12, 15], [12, 15]), ([16, 15], [16]), ([17], [17]), ([18, 17], [17, 18]), ([19, 17], [17, 19]), ([17], [17]), ([21, 17], [17, 21]), ([22, 17, 17], [17, 22]), ([17], [17]), ([24, 17], [17, 24]), ([23, 25, 17], [17, 23, 25]), ([26, 17], [17, 26]), ([20, 27, 17], [17, 20, 27]), ([17, 28], [17, 28]), ([29, 23], [29]), ([30], [30]), ([31, 30], [30, 31]), ([30], [30]), ([33, 30], [30, 33]), ([34, 30, 30], [30, 34]), ([30], [30]), ([36, 30], [30, 36]), ([35, 37, 30], [30, 35, 37]), ([38, 35, 30], [30, 38]), ([32, 39, 30], [30, 32, 39]), ([30, 40], [30, 40]), ([41, 39, 0, 1, 2, 3, 4, 5, 6, 7, 8, 9, 10, 11, 12, 13, 14, 15, 16, 17, 18, 19, 20, 21, 22, 23, 24, 25, 26, 27, 28, 29, 30, 31, 32, 33, 34, 35, 36, 37, 38, 39, 40, 41], [41])])
def impl_JobOk.B1 : List Nat := [0, 1, 3, 7, 15, 31, 15, 79, 207, 463, 1023, 2047, 4095, 8191, 16383, 32767, 65535, 131071, 262143, 524287, 1048575, 262143, 2359295, 6553599, 262143, 17039359, 65273855, 132382719, 268435455, 536870911, 1073741823, 2147483647, 4294967295, 2147483647, 10737418239, 27917287423, 2147483647, 70866960383, 268435455999, 543313362943, 1099511627775, 2199023255551, 4398046511103]
theorem impl_JobOk.tab1 : rtab .any (opsOf Tryd.f31 1) = impl_JobOk.T1 := by kernel_rfl
theorem impl_JobOk.bits1 : waitsOk impl_JobOk.T1.2 impl_JobOk.B1 = true := by kernel_rfl
set_option maxHeartbeats 8000000 in
set_option maxRecDepth 100000 in
theorem impl_JobOk.calls (k : Nat) (a0_0 : Int) (a0_1 : Int) (a0_2 : Int) (A0_3 : Option Addr) (c0_3 : Nat) (l0_3 : List (S106)) (a0_4 : Int) (a0_5 : Int) (a0_6 : Int) (a0_7 : Int) (A0_8 : Option Addr) (c0_8 : Nat) (l0_8 : List Int) (a0_9 : Int) (r : Bool) (w : World) (hr0_3 : Kd.C k106 w A0_3 l0_3.length l0_3) (hc0_3 : l0_3.length ≤ c0_3) (hr0_8 : Kd.C (Kd.int .i64) w A0_8 l0_8.length l0_8) (hc0_8 : l0_8.length ≤ c0_8) (h : impl_JobOk.f k a0_0 a0_1 a0_2 l0_3 a0_4 a0_5 a0_6 a0_7 l0_8 a0_9 = some r) :
  Calls Tryd.prog 31 #[.agg #[.int .i64 a0_0, .int .i64 a0_1, .int .i64 a0_2, .slice A0_3 l0_3.length c0_3, .int .i64 a0_4, .int .i64 a0_5, .int .i64 a0_6, .int .i64 a0_7, .slice A0_8 l0_8.length c0_8, .int .i64 a0_9]] w fun e w' => e = .returned (.bool r) ∧ Below w.heap.size w w' := by
 have hu56 := Tryd.underlying56; have hu54 := Tryd.underlying54; have hu33 := Tryd.underlying33; have hu31 := Tryd.underlying31; have HR0_3 := Aside0.mk hr0_3; have HC0_3 := Aside0.mk hc0_3; clear hr0_3 hc0_3; have HR0_8 := Aside0.mk hr0_8; have HC0_8 := Aside0.mk hc0_8; clear hr0_8 hc0_8; have HB := Aside0.mk (Below.refl w.heap.size w); have H : ((impl_ModelOk.f k a0_0 a0_1 a0_2 l0_3).bind fun t394 => (if t394 = true then ((impl_in.f a0_4 0 (l0_3.length : Int)).bind fun t395 => (if t395 = true then ((impl_TensorOk.f k a0_5 a0_6 a0_7 l0_8).bind fun t396 => (if t396 = true then ((impl_ShapesOf.f k a0_0 a0_1 a0_2 l0_3).bind fun t397 => (if 0 ≤ a0_4 then (if a0_4 < (t397.length : Int) then (if (a0_5 == ((rd_T31 t397 a0_4).f0) && (a0_6 == ((rd_T31 t397 a0_4).f1) && (a0_7 == ((rd_T31 t397 a0_4).f2)))) = true then ((impl_CostsOf.f k a0_0 a0_1 a0_2 l0_3).bind fun t401 => (if a0_4 ≤ (t401.length : Int) then ((impl_sum.f k (t401.take (a0_4 : Int).toNat)).bind fun t408 => (some (a0_9 == t408))) else (none))) else (some false)) else (none)) else (none))) else (some false))) else (some false))) else (some false))) = some r := h; clear h; replace H := Option.bind_eq_some_iff.mp H; obtain ⟨t394, A20, H⟩ := H; (try dsimp only at H); have A2 := Aside0.mk A20; clear A20
 by_cases c3 : t394 = true
 ·
  subst c3; rw [if_pos rfl] at H; replace H := Option.bind_eq_some_iff.mp H; obtain ⟨t395, A40, H⟩ := H; (try dsimp only at H); have A4 := Aside0.mk A40; clear A40
  by_cases c5 : t395 = true
  ·
   subst c5; rw [if_pos rfl] at H; replace H := Option.bind_eq_some_iff.mp H; obtain ⟨t396, A60, H⟩ := H; (try dsimp only at H); have A6 := Aside0.mk A60; clear A60
   by_cases c7 : t396 = true
   ·
    subst c7; rw [if_pos rfl] at H; replace H := Option.bind_eq_some_iff.mp H; obtain ⟨t397, A80, H⟩ := H; (try dsimp only at H); have A8 := Aside0.mk A80; clear A80
    by_cases c9 : 0 ≤ a0_4
    ·
     rw [if_pos c9] at H; have c9b0 : decide (0 ≤ a0_4) = true := decide_eq_true c9; clear c9
     by_cases c10 : a0_4 < (t397.length : Int)
     ·
      rw [if_pos c10] at H; have c10b0 : decide (a0_4 < (t397.length : Int)) = true := decide_eq_true c10; clear c10
      by_cases c11 : (a0_5 == ((rd_T31 t397 a0_4).f0) && (a0_6 == ((rd_T31 t397 a0_4).f1) && (a0_7 == ((rd_T31 t397 a0_4).f2)))) = true
      ·
       rw [if_pos c11] at H; have c11b0 : (a0_5 == ((rd_T31 t397 a0_4).f0) && (a0_6 == ((rd_T31 t397 a0_4).f1) && (a0_7 == ((rd_T31 t397 a0_4).f2)))) = true := c11; (try (have c11b1 : decide (a0_5 = ((rd_T31 t397 a0_4).f0) && (a0_6 == ((rd_T31 t397 a0_4).f1) && (a0_7 == ((rd_T31 t397 a0_4).f2)))) = true := by simpa using c11)); (try (have c11b2 : (a0_5 == ((rd_T31 t397 a0_4).f0) && (a0_6 == ((rd_T31 t397 a0_4).f1) && (a0_7 == ((rd_T31 t397 a0_4).f2)))) = true := by simpa using c11)); clear c11; replace H := Option.bind_eq_some_iff.mp H; obtain ⟨t401, A120, H⟩ := H; (try dsimp only at H); have A12 := Aside0.mk A120; clear A120; have c13b0 := eq_true (of_decide_eq_true (by first | (with_reducible assumption) | assumption) : 0 ≤ a0_4)
       by_cases c14 : a0_4 ≤ (t401.length : Int)
       ·
        rw [if_pos c14] at H; have c14b0 := eq_true c14; have c14b1 : decide (a0_4 ≤ (t401.length : Int)) = true := decide_eq_true c14; clear c14; obtain ⟨y404, hy404⟩ : ∃ y_ : List Int, y_ = (t401.take (a0_4 : Int).toNat) := ⟨_, rfl⟩; replace H : ((impl_sum.f k y404).bind fun t408 => (some (a0_9 == t408))) = some r := by first | (rw [hy404]; with_reducible exact H) | (have H2_ := (Option.bind_some _ _).symm.trans H; rw [hy404]; with_reducible exact H2_) | (have H2_ := (Option.bind_some _ _).symm.trans H; with_reducible exact H2_) | with_reducible exact H | (rw [hy404]; exact H) | exact H
        have Ny404 := Aside0.mk hy404; clear hy404; replace H := Option.bind_eq_some_iff.mp H; obtain ⟨t408, A150, H⟩ := H; (try dsimp only at H); have A15 := Aside0.mk A150; clear A150; obtain rfl := Option.some.inj H
        go_enter Tryd.func31, Tryd.ntmps31
        try go_wp2_with (first | ((with_reducible refine gate_dst (N := 1) rfl ?_); (try (refine gate_guard (by rfl) ?_; dsimp only)); refine bx_ 1 #[.int .i64 a0_0, .int .i64 a0_1, .int .i64 a0_2, .slice A0_3 l0_3.length c0_3, .int .i64 a0_4, .int .i64 a0_5, .int .i64 a0_6, .int .i64 a0_7, .slice A0_8 l0_8.length c0_8, .int .i64 a0_9] 56 ?_; intro gb393 hg w16 hbox hb; have BK393 := Aside0.mk (hbox); have GW393 := gs_ hg HB; have GE393 := gs_ hg HB; replace HB := hb_ HB hb; clear hb hbox hg))
        replace BK393 := Aside0.mk (blk_drew BK393.out); replace HB := Aside0.mk (below_drew1 HB.out); refine start_ (n := 43) (S := fun w' => w'.cell? ⟨gb393, 0, none⟩ = some (.int .i64 a0_0) ∧ w'.cell? ⟨gb393, 1, none⟩ = some (.int .i64 a0_1) ∧ w'.cell? ⟨gb393, 2, none⟩ = some (.int .i64 a0_2) ∧ w'.cell? ⟨gb393, 3, none⟩ = some (.slice A0_3 l0_3.length c0_3) ∧ w'.cell? ⟨gb393, 4, none⟩ = some (.int .i64 a0_4) ∧ w'.cell? ⟨gb393, 5, none⟩ = some (.int .i64 a0_5) ∧ w'.cell? ⟨gb393, 6, none⟩ = some (.int .i64 a0_6) ∧ w'.cell? ⟨gb393, 7, none⟩ = some (.int .i64 a0_7) ∧ w'.cell? ⟨gb393, 8, none⟩ = some (.slice A0_8 l0_8.length c0_8) ∧ w'.cell? ⟨gb393, 9, none⟩ = some (.int .i64 a0_9)) (ds := []) #[false, false, false, false, false, false, false, false, false, false, false, false, false, false, false, false, false, false, false, false, false, false, false, false, false, false, false, false, false, false, false, false, false, false, false, false, false, false, false, false, false, false, false] (by kernel_rfl) rfl rfl (cel10_ (bu_ BK393.out)) (fun hHeld => ?_); refine with_tabW impl_JobOk.tab1 impl_JobOk.bits1 (fun HT_ HW_ => ?_); generalize w16.drew = w17 at BK393 HB hHeld ⊢; refine pl_ 0 (some 3) 43 1 HT_.out ?_; refine tk_ 1 (some 4) 43 3 HT_.out HW_.out hHeld (hy := by rintro w' ⟨s0, s1, s2, s3, s4, s5, s6, s7, s8, s9⟩; go_simp; with_reducible rfl) (h := ?_); refine one_ (i := 2) (N := some 5) (bl_ 43 7) rfl rfl (one_of HT_.out (by kernel_rfl)) (by decide) (fun K hK => ?_); refine goes_ Tryd.func48 (by kernel_rfl) rfl #[.agg #[.int .i64 a0_0, .int .i64 a0_1, .int .i64 a0_2, .slice A0_3 l0_3.length c0_3]] (by rfl) rfl rfl ar_ ?_
        (with_reducible refine (impl_ModelOk.calls k a0_0 a0_1 a0_2 _ _ l0_3 true _ ?side1 ?side2 A2.out).mono ?_)
        (case side1 => exact cu_ HR0_3.out HB.out); (case side2 => exact HC0_3.out); rintro e w18 ⟨rfl, hb⟩; refine ⟨_, rfl, ?_⟩; replace BK393 := bb_ BK393 hb; replace HB := hb_ HB hb; (try clear hb); (try clear hb2); (try clear hk); (try clear hi); refine hK.out _ _ (cel10_ (bu_ BK393.out)) (fun hHeld => ?_); clear hK K; refine nm_ 5 (h := ?_); refine pl_ 3 (some 6) 43 15 HT_.out ?_; refine pl_ 4 (some 7) 43 31 HT_.out ?_; refine pl_ 6 (some 9) 43 95 HT_.out ?_; refine pl_ 7 (some 10) 43 223 HT_.out ?_; refine tk_ 5 (some 8) 43 255 HT_.out HW_.out hHeld (hy := by rintro w' ⟨s0, s1, s2, s3, s4, s5, s6, s7, s8, s9⟩; go_simp; with_reducible rfl) (h := ?_); refine tk_ 8 (some 11) 43 511 HT_.out HW_.out hHeld (hy := by rintro w' ⟨s0, s1, s2, s3, s4, s5, s6, s7, s8, s9⟩; go_simp; with_reducible rfl) (h := ?_); refine pl_ 9 (some 12) 43 1023 HT_.out ?_; refine one_ (i := 10) (N := some 13) (bl_ 43 2047) rfl rfl (one_of HT_.out (by kernel_rfl)) (by decide) (fun K hK => ?_); refine goes_ Tryd.func49 (by kernel_rfl) rfl #[.int .i64 a0_4, .int .i64 0, .int .i64 (l0_3.length : Int)] (by rfl) rfl rfl ar_ ?_
        (with_reducible refine (impl_in.calls a0_4 0 (l0_3.length : Int) true _ A4.out).mono ?_)
        rintro e w' ⟨rfl, ⟨nd, rfl⟩⟩; refine ⟨_, rfl, ?_⟩; refine hK.out _ _ (cel10_ (bu_ BK393.out)) (fun hHeld => ?_); clear hK K; refine nm_ 13 (h := ?_); refine pl_ 11 (some 14) 43 4095 HT_.out ?_; refine pl_ 12 (some 15) 43 8191 HT_.out ?_; refine pl_ 13 (some 16) 43 16383 HT_.out ?_; refine tk_ 14 (some 17) 43 32767 HT_.out HW_.out hHeld (hy := by rintro w' ⟨s0, s1, s2, s3, s4, s5, s6, s7, s8, s9⟩; go_simp; with_reducible rfl) (h := ?_); refine one_ (i := 15) (N := some 18) (bl_ 43 65535) rfl rfl (one_of HT_.out (by kernel_rfl)) (by decide) (fun K hK => ?_); refine goes_ Tryd.func38 (by kernel_rfl) rfl #[.agg #[.int .i64 a0_5, .int .i64 a0_6, .int .i64 a0_7, .slice A0_8 l0_8.length c0_8]] (by rfl) rfl rfl ar_ ?_
        (with_reducible refine (impl_TensorOk.calls k a0_5 a0_6 a0_7 _ _ l0_8 true _ ?side1 ?side2 A6.out).mono ?_)
        (case side1 => repeat (first | exact (Kd.C_below HR0_8.out (be_ HB.out)) | (with_reducible refine Kd.C_alloc ?_ _) | (with_reducible refine Kd.C_drewN ?_ _) | (with_reducible refine Kd.C_drew ?_))); (case side2 => exact HC0_8.out); rintro e w19 ⟨rfl, hb⟩; refine ⟨_, rfl, ?_⟩; replace BK393 := bb_ BK393 hb; replace HB := hb_ HB hb; (try clear hb); (try clear hb2); (try clear hk); (try clear hi); refine hK.out _ _ (cel10_ (bu_ BK393.out)) (fun hHeld => ?_); clear hK K; refine nm_ 18 (h := ?_); refine pl_ 16 (some 19) 43 131071 HT_.out ?_; refine pl_ 17 (some 20) 43 262143 HT_.out ?_; refine pl_ 18 (some 21) 43 524287 HT_.out ?_; refine pl_ 19 (some 22) 43 1048575 HT_.out ?_; refine pl_ 21 (some 24) 43 3145727 HT_.out ?_; refine pl_ 24 (some 27) 43 19922943 HT_.out ?_; refine tk_ 20 (some 23) 43 20971519 HT_.out HW_.out hHeld (hy := by rintro w' ⟨s0, s1, s2, s3, s4, s5, s6, s7, s8, s9⟩; go_simp; with_reducible rfl) (h := ?_); refine tk_ 22 (some 25) 43 25165823 HT_.out HW_.out hHeld (hy := by rintro w' ⟨s0, s1, s2, s3, s4, s5, s6, s7, s8, s9⟩; go_simp; with_reducible rfl) (h := ?_); refine tk_ 25 (some 28) 43 58720255 HT_.out HW_.out hHeld (hy := by rintro w' ⟨s0, s1, s2, s3, s4, s5, s6, s7, s8, s9⟩; go_simp; with_reducible rfl) (h := ?_); refine one_ (i := 23) (N := some 26) (bl_ 43 67108863) rfl rfl (one_of HT_.out (by kernel_rfl)) (by decide) (fun K hK => ?_); refine goes_ Tryd.func50 (by kernel_rfl) rfl #[.agg #[.int .i64 a0_0, .int .i64 a0_1, .int .i64 a0_2, .slice A0_3 l0_3.length c0_3]] (by rfl) rfl rfl ar_ ?_
        (with_reducible refine (impl_ShapesOf.calls k a0_0 a0_1 a0_2 _ _ l0_3 t397 _ ?side1 ?side2 A8.out).mono ?_)
        (case side1 => exact cu_ HR0_3.out HB.out); (case side2 => exact HC0_3.out); rintro e w20 ⟨v398, rfl, ho0, hb⟩; refine ⟨_, rfl, ?_⟩; have HO399 := Aside0.mk (Kd.R_lower ho0 (below_size (be_ HB.out))); replace BK393 := bb_ BK393 hb; replace HB := hb_ HB hb; (try clear hb); (try clear hb2); (try clear hk); (try clear hi); (try clear ho0); obtain ⟨Ao21, co21, eo21⟩ := Kd.R_slice HO399.out; (first | subst eo21 | (injection eo21 with f1_ f2_ f3_; have f4_ := f1_.symm; have f5_ := f3_.symm; clear f1_ f2_ f3_; subst f4_; subst f5_)); have p400 : 0 ≤ (a0_4 : Int) := of_decide_eq_true (by first | (with_reducible assumption) | assumption); have q400 : a0_4 < (t397.length : Int) := of_decide_eq_true (by first | (with_reducible assumption) | assumption); obtain ⟨ad400, e400, hx400_0, hx400_1, hx400_2⟩ := at_T31 (Kd.R_reads' HO399.out).2.2 a0_4 p400 q400
        cases e400
        replace p400 := eq_true p400; replace q400 := eq_true q400; refine hK.out _ _ (cel10_ (bu_ BK393.out)) (fun hHeld => ?_); clear hK K; refine swS_ (S2 := fun w' => w'.cell? ⟨gb393, 0, none⟩ = some (.int .i64 a0_0) ∧ w'.cell? ⟨gb393, 1, none⟩ = some (.int .i64 a0_1) ∧ w'.cell? ⟨gb393, 2, none⟩ = some (.int .i64 a0_2) ∧ w'.cell? ⟨gb393, 3, none⟩ = some (.slice A0_3 l0_3.length c0_3) ∧ w'.cell? ⟨gb393, 4, none⟩ = some (.int .i64 a0_4) ∧ w'.cell? ⟨gb393, 5, none⟩ = some (.int .i64 a0_5) ∧ w'.cell? ⟨gb393, 6, none⟩ = some (.int .i64 a0_6) ∧ w'.cell? ⟨gb393, 7, none⟩ = some (.int .i64 a0_7) ∧ w'.cell? ⟨gb393, 8, none⟩ = some (.slice A0_8 l0_8.length c0_8) ∧ w'.cell? ⟨gb393, 9, none⟩ = some (.int .i64 a0_9) ∧ w'.cell? (ad400.add ((a0_4).toNat * 3)) = some (.int .i64 ((rd_T31 t397 a0_4).f0)) ∧ w'.cell? ⟨(ad400.add ((a0_4).toNat * 3)).block, (ad400.add ((a0_4).toNat * 3)).off + 1, none⟩ = some (.int .i64 ((rd_T31 t397 a0_4).f1)) ∧ w'.cell? ⟨(ad400.add ((a0_4).toNat * 3)).block, (ad400.add ((a0_4).toNat * 3)).off + 2, none⟩ = some (.int .i64 ((rd_T31 t397 a0_4).f2))) (fun w h => ⟨h.1, h.2.1, h.2.2.1, h.2.2.2.1, h.2.2.2.2.1, h.2.2.2.2.2.1, h.2.2.2.2.2.2.1, h.2.2.2.2.2.2.2.1, h.2.2.2.2.2.2.2.2.1, h.2.2.2.2.2.2.2.2.2.1⟩) ⟨(blk_cell BK393.out 0).trans rfl, (blk_cell BK393.out 1).trans rfl, (blk_cell BK393.out 2).trans rfl, (blk_cell BK393.out 3).trans rfl, (blk_cell BK393.out 4).trans rfl, (blk_cell BK393.out 5).trans rfl, (blk_cell BK393.out 6).trans rfl, (blk_cell BK393.out 7).trans rfl, (blk_cell BK393.out 8).trans rfl, (blk_cell BK393.out 9).trans rfl, hx400_0, hx400_1, hx400_2⟩ (fun hHeld => ?_); refine nm_ 26 (h := ?_); refine pl_ 26 (some 29) 43 134217727 HT_.out ?_; refine tk_ 27 (some 30) 43 268435455 HT_.out HW_.out hHeld (hy := by rintro w' ⟨s0, s1, s2, s3, s4, s5, s6, s7, s8, s9, s10, s11, s12⟩; go_simp; with_reducible rfl) (h := ?_); refine pl_ 28 (some 31) 43 536870911 HT_.out ?_; refine pl_ 29 (some 32) 43 1073741823 HT_.out ?_; refine pl_ 30 (some 33) 43 2147483647 HT_.out ?_; refine pl_ 31 (some 34) 43 4294967295 HT_.out ?_; refine pl_ 33 (some 36) 43 12884901887 HT_.out ?_; refine pl_ 36 (some 39) 43 81604378623 HT_.out ?_; refine tk_ 32 (some 35) 43 85899345919 HT_.out HW_.out hHeld (hy := by rintro w' ⟨s0, s1, s2, s3, s4, s5, s6, s7, s8, s9, s10, s11, s12⟩; go_simp; with_reducible rfl) (h := ?_); refine tk_ 34 (some 37) 43 103079215103 HT_.out HW_.out hHeld (hy := by rintro w' ⟨s0, s1, s2, s3, s4, s5, s6, s7, s8, s9, s10, s11, s12⟩; go_simp; with_reducible rfl) (h := ?_); refine tk_ 37 (some 40) 43 240518168575 HT_.out HW_.out hHeld (hy := by rintro w' ⟨s0, s1, s2, s3, s4, s5, s6, s7, s8, s9, s10, s11, s12⟩; go_simp; with_reducible rfl) (h := ?_); refine one_ (i := 35) (N := some 38) (bl_ 43 274877906943) rfl rfl (one_of HT_.out (by kernel_rfl)) (by decide) (fun K hK => ?_); refine goes_ Tryd.func52 (by kernel_rfl) rfl #[.agg #[.int .i64 a0_0, .int .i64 a0_1, .int .i64 a0_2, .slice A0_3 l0_3.length c0_3]] (by rfl) rfl rfl ar_ ?_
        (with_reducible refine (impl_CostsOf.calls k a0_0 a0_1 a0_2 _ _ l0_3 t401 _ ?side1 ?side2 A12.out).mono ?_)
        (case side1 => exact cu_ HR0_3.out HB.out); (case side2 => exact HC0_3.out); rintro e w22 ⟨v402, rfl, ho0, hb⟩; have HS10_ := (hb.cell (World.block_lt_of_cell? _ _ (hHeld.2.2.2.2.2.2.2.2.2.2.1))).trans (hHeld.2.2.2.2.2.2.2.2.2.2.1); have HS11_ := (hb.cell (World.block_lt_of_cell? _ _ (hHeld.2.2.2.2.2.2.2.2.2.2.2.1))).trans (hHeld.2.2.2.2.2.2.2.2.2.2.2.1); have HS12_ := (hb.cell (World.block_lt_of_cell? _ _ (hHeld.2.2.2.2.2.2.2.2.2.2.2.2))).trans (hHeld.2.2.2.2.2.2.2.2.2.2.2.2); refine ⟨_, rfl, ?_⟩; replace HO399 := rb_ HO399 hb; have HO403 := Aside0.mk (Kd.R_lower ho0 (below_size (be_ HB.out))); replace BK393 := bb_ BK393 hb; replace HB := hb_ HB hb; (try clear hb); (try clear hb2); (try clear hk); (try clear hi); (try clear ho0); obtain ⟨Ao24, co24, eo24⟩ := Kd.R_slice HO403.out; (first | subst eo24 | (injection eo24 with f1_ f2_ f3_; have f4_ := f1_.symm; have f5_ := f3_.symm; clear f1_ f2_ f3_; subst f4_; subst f5_)); have q23 : (a0_4 : Int) ≤ ((t401.length : Int) : Int) := of_decide_eq_true (by first | (with_reducible assumption) | assumption); obtain ⟨i023, hi023, _, hsz23, _⟩ := info_parts info3; have hroom23 : t401.length ≤ co24 := (Kd.R_reads' HO403.out).2.1; have hC23 : Kd.C (Kd.int .i64) _ Ao24 t401.length t401 := (Kd.R_reads' HO403.out).2.2; have hcut23 := cut_to (P := Tryd.prog) 24 3 .i64 Tryd.underlying24 hi023 Ao24 t401.length co24 a0_4 (of_decide_eq_true (by first | (with_reducible assumption) | assumption)) q23 hroom23; have hr23 := Kd.C_take (m := (a0_4 : Int).toNat) hC23 (by omega); have hy23 : y404.length = (a0_4 : Int).toNat := (by rw [Ny404.out, List.length_take]; omega); rw [← Ny404.out] at hr23; rw [← hy23] at hcut23; have HR407 := Aside0.mk hr23; have HC407 := Aside0.mk (show y404.length ≤ co24 from by omega); clear hr23 hC23 hroom23 hi023 hsz23; have KY23 := Aside0.mk hy23; clear hy23; have KL23 := Aside0.mk (show (a0_4 : Int).toNat ≤ t401.length from by omega); replace q23 := eq_true q23; refine hK.out _ _ ⟨(blk_cell BK393.out 0).trans rfl, (blk_cell BK393.out 1).trans rfl, (blk_cell BK393.out 2).trans rfl, (blk_cell BK393.out 3).trans rfl, (blk_cell BK393.out 4).trans rfl, (blk_cell BK393.out 5).trans rfl, (blk_cell BK393.out 6).trans rfl, (blk_cell BK393.out 7).trans rfl, (blk_cell BK393.out 8).trans rfl, (blk_cell BK393.out 9).trans rfl, HS10_, HS11_, HS12_⟩ (fun hHeld => ?_); clear hK K; refine nm_ 38 (h := ?_); refine pl_ 38 (some 41) 43 549755813887 HT_.out ?_; refine one_ (i := 39) (N := some 42) (bl_ 43 1099511627775) rfl rfl (one_of HT_.out (by kernel_rfl)) (by decide) (fun K hK => ?_); refine goes_ Tryd.func51 (by kernel_rfl) rfl #[.slice Ao24 y404.length co24] (by rfl) rfl rfl ar_ ?_
        (with_reducible refine (impl_sum.calls k _ _ y404 t408 _ ?side1 ?side2 A15.out).mono ?_)
        (case side1 => repeat (first | exact (by repeat (first | (with_reducible exact HR407.out) | (with_reducible refine Kd.C_alloc ?_ _) | (with_reducible refine Kd.C_drewN ?_ _) | (with_reducible refine Kd.C_drew ?_) | exact HR407.out)) | (with_reducible refine Kd.C_alloc ?_ _) | (with_reducible refine Kd.C_drewN ?_ _) | (with_reducible refine Kd.C_drew ?_))); (case side2 => exact HC407.out); rintro e w' ⟨rfl, ⟨nd, rfl⟩⟩; refine ⟨_, rfl, ?_⟩; refine hK.out _ _ ⟨(blk_cell BK393.out 0).trans rfl, (blk_cell BK393.out 1).trans rfl, (blk_cell BK393.out 2).trans rfl, (blk_cell BK393.out 3).trans rfl, (blk_cell BK393.out 4).trans rfl, (blk_cell BK393.out 5).trans rfl, (blk_cell BK393.out 6).trans rfl, (blk_cell BK393.out 7).trans rfl, (blk_cell BK393.out 8).trans rfl, (blk_cell BK393.out 9).trans rfl, hHeld.2.2.2.2.2.2.2.2.2.2.1, hHeld.2.2.2.2.2.2.2.2.2.2.2.1, hHeld.2.2.2.2.2.2.2.2.2.2.2.2⟩ (fun hHeld => ?_); clear hK K; refine nm_ 42 (h := ?_); refine pl_ 40 (some 43) 43 2199023255551 HT_.out ?_; refine pl_ 41 (some 44) 43 4398046511103 HT_.out ?_; refine pl_ 42 (some 2) 43 8796093022207 HT_.out ?_; refine done_ (done_of HT_.out (by kernel_rfl)) ?_
        try go_wp2
        go_ret
        exact ⟨by first | rfl | (simp [errW_none, errW_some] <;> rfl) | (simp [*, errW_none, errW_some] <;> rfl), be_ HB.out⟩
       ·
        rw [if_neg c14] at H; exact absurd H (by simp)
      ·
       rw [if_neg c11] at H; have c11b0 : (a0_5 == ((rd_T31 t397 a0_4).f0) && (a0_6 == ((rd_T31 t397 a0_4).f1) && (a0_7 == ((rd_T31 t397 a0_4).f2)))) = false := by simpa using c11
       (try (have c11b1 : decide (a0_5 = ((rd_T31 t397 a0_4).f0) && (a0_6 == ((rd_T31 t397 a0_4).f1) && (a0_7 == ((rd_T31 t397 a0_4).f2)))) = false := by simpa using c11)); (try (have c11b2 : (a0_5 == ((rd_T31 t397 a0_4).f0) && (a0_6 == ((rd_T31 t397 a0_4).f1) && (a0_7 == ((rd_T31 t397 a0_4).f2)))) = false := by simpa using c11)); (try (have c11b3 : ¬ (a0_5 = ((rd_T31 t397 a0_4).f0) && (a0_6 == ((rd_T31 t397 a0_4).f1) && (a0_7 == ((rd_T31 t397 a0_4).f2)))) := by simpa using c11)); clear c11; obtain rfl := Option.some.inj H
       go_enter Tryd.func31, Tryd.ntmps31
       try go_wp2_with (first | ((with_reducible refine gate_dst (N := 1) rfl ?_); (try (refine gate_guard (by rfl) ?_; dsimp only)); refine bx_ 1 #[.int .i64 a0_0, .int .i64 a0_1, .int .i64 a0_2, .slice A0_3 l0_3.length c0_3, .int .i64 a0_4, .int .i64 a0_5, .int .i64 a0_6, .int .i64 a0_7, .slice A0_8 l0_8.length c0_8, .int .i64 a0_9] 56 ?_; intro gb393 hg w25 hbox hb; have BK393 := Aside0.mk (hbox); have GW393 := gs_ hg HB; have GE393 := gs_ hg HB; replace HB := hb_ HB hb; clear hb hbox hg))
       replace BK393 := Aside0.mk (blk_drew BK393.out); replace HB := Aside0.mk (below_drew1 HB.out); refine start_ (n := 43) (S := fun w' => w'.cell? ⟨gb393, 0, none⟩ = some (.int .i64 a0_0) ∧ w'.cell? ⟨gb393, 1, none⟩ = some (.int .i64 a0_1) ∧ w'.cell? ⟨gb393, 2, none⟩ = some (.int .i64 a0_2) ∧ w'.cell? ⟨gb393, 3, none⟩ = some (.slice A0_3 l0_3.length c0_3) ∧ w'.cell? ⟨gb393, 4, none⟩ = some (.int .i64 a0_4) ∧ w'.cell? ⟨gb393, 5, none⟩ = some (.int .i64 a0_5) ∧ w'.cell? ⟨gb393, 6, none⟩ = some (.int .i64 a0_6) ∧ w'.cell? ⟨gb393, 7, none⟩ = some (.int .i64 a0_7) ∧ w'.cell? ⟨gb393, 8, none⟩ = some (.slice A0_8 l0_8.length c0_8) ∧ w'.cell? ⟨gb393, 9, none⟩ = some (.int .i64 a0_9)) (ds := []) #[false, false, false, false, false, false, false, false, false, false, false, false, false, false, false, false, false, false, false, false, false, false, false, false, false, false, false, false, false, false, false, false, false, false, false, false, false, false, false, false, false, false, false] (by kernel_rfl) rfl rfl (cel10_ (bu_ BK393.out)) (fun hHeld => ?_); refine with_tabW impl_JobOk.tab1 impl_JobOk.bits1 (fun HT_ HW_ => ?_); generalize w25.drew = w26 at BK393 HB hHeld ⊢; refine pl_ 0 (some 3) 43 1 HT_.out ?_; refine tk_ 1 (some 4) 43 3 HT_.out HW_.out hHeld (hy := by rintro w' ⟨s0, s1, s2, s3, s4, s5, s6, s7, s8, s9⟩; go_simp; with_reducible rfl) (h := ?_); refine one_ (i := 2) (N := some 5) (bl_ 43 7) rfl rfl (one_of HT_.out (by kernel_rfl)) (by decide) (fun K hK => ?_); refine goes_ Tryd.func48 (by kernel_rfl) rfl #[.agg #[.int .i64 a0_0, .int .i64 a0_1, .int .i64 a0_2, .slice A0_3 l0_3.length c0_3]] (by rfl) rfl rfl ar_ ?_
       (with_reducible refine (impl_ModelOk.calls k a0_0 a0_1 a0_2 _ _ l0_3 true _ ?side1 ?side2 A2.out).mono ?_)
       (case side1 => exact cu_ HR0_3.out HB.out); (case side2 => exact HC0_3.out); rintro e w27 ⟨rfl, hb⟩; refine ⟨_, rfl, ?_⟩; replace BK393 := bb_ BK393 hb; replace HB := hb_ HB hb; (try clear hb); (try clear hb2); (try clear hk); (try clear hi); refine hK.out _ _ (cel10_ (bu_ BK393.out)) (fun hHeld => ?_); clear hK K; refine nm_ 5 (h := ?_); refine pl_ 3 (some 6) 43 15 HT_.out ?_; refine pl_ 4 (some 7) 43 31 HT_.out ?_; refine pl_ 6 (some 9) 43 95 HT_.out ?_; refine pl_ 7 (some 10) 43 223 HT_.out ?_; refine tk_ 5 (some 8) 43 255 HT_.out HW_.out hHeld (hy := by rintro w' ⟨s0, s1, s2, s3, s4, s5, s6, s7, s8, s9⟩; go_simp; with_reducible rfl) (h := ?_); refine tk_ 8 (some 11) 43 511 HT_.out HW_.out hHeld (hy := by rintro w' ⟨s0, s1, s2, s3, s4, s5, s6, s7, s8, s9⟩; go_simp; with_reducible rfl) (h := ?_); refine pl_ 9 (some 12) 43 1023 HT_.out ?_; refine one_ (i := 10) (N := some 13) (bl_ 43 2047) rfl rfl (one_of HT_.out (by kernel_rfl)) (by decide) (fun K hK => ?_); refine goes_ Tryd.func49 (by kernel_rfl) rfl #[.int .i64 a0_4, .int .i64 0, .int .i64 (l0_3.length : Int)] (by rfl) rfl rfl ar_ ?_
       (with_reducible refine (impl_in.calls a0_4 0 (l0_3.length : Int) true _ A4.out).mono ?_)
       rintro e w' ⟨rfl, ⟨nd, rfl⟩⟩; refine ⟨_, rfl, ?_⟩; refine hK.out _ _ (cel10_ (bu_ BK393.out)) (fun hHeld => ?_); clear hK K; refine nm_ 13 (h := ?_); refine pl_ 11 (some 14) 43 4095 HT_.out ?_; refine pl_ 12 (some 15) 43 8191 HT_.out ?_; refine pl_ 13 (some 16) 43 16383 HT_.out ?_; refine tk_ 14 (some 17) 43 32767 HT_.out HW_.out hHeld (hy := by rintro w' ⟨s0, s1, s2, s3, s4, s5, s6, s7, s8, s9⟩; go_simp; with_reducible rfl) (h := ?_); refine one_ (i := 15) (N := some 18) (bl_ 43 65535) rfl rfl (one_of HT_.out (by kernel_rfl)) (by decide) (fun K hK => ?_); refine goes_ Tryd.func38 (by kernel_rfl) rfl #[.agg #[.int .i64 a0_5, .int .i64 a0_6, .int .i64 a0_7, .slice A0_8 l0_8.length c0_8]] (by rfl) rfl rfl ar_ ?_
       (with_reducible refine (impl_TensorOk.calls k a0_5 a0_6 a0_7 _ _ l0_8 true _ ?side1 ?side2 A6.out).mono ?_)
       (case side1 => repeat (first | exact (Kd.C_below HR0_8.out (be_ HB.out)) | (with_reducible refine Kd.C_alloc ?_ _) | (with_reducible refine Kd.C_drewN ?_ _) | (with_reducible refine Kd.C_drew ?_))); (case side2 => exact HC0_8.out); rintro e w28 ⟨rfl, hb⟩; refine ⟨_, rfl, ?_⟩; replace BK393 := bb_ BK393 hb; replace HB := hb_ HB hb; (try clear hb); (try clear hb2); (try clear hk); (try clear hi); refine hK.out _ _ (cel10_ (bu_ BK393.out)) (fun hHeld => ?_); clear hK K; refine nm_ 18 (h := ?_); refine pl_ 16 (some 19) 43 131071 HT_.out ?_; refine pl_ 17 (some 20) 43 262143 HT_.out ?_; refine pl_ 18 (some 21) 43 524287 HT_.out ?_; refine pl_ 19 (some 22) 43 1048575 HT_.out ?_; refine pl_ 21 (some 24) 43 3145727 HT_.out ?_; refine pl_ 24 (some 27) 43 19922943 HT_.out ?_; refine tk_ 20 (some 23) 43 20971519 HT_.out HW_.out hHeld (hy := by rintro w' ⟨s0, s1, s2, s3, s4, s5, s6, s7, s8, s9⟩; go_simp; with_reducible rfl) (h := ?_); refine tk_ 22 (some 25) 43 25165823 HT_.out HW_.out hHeld (hy := by rintro w' ⟨s0, s1, s2, s3, s4, s5, s6, s7, s8, s9⟩; go_simp; with_reducible rfl) (h := ?_); refine tk_ 25 (some 28) 43 58720255 HT_.out HW_.out hHeld (hy := by rintro w' ⟨s0, s1, s2, s3, s4, s5, s6, s7, s8, s9⟩; go_simp; with_reducible rfl) (h := ?_); refine one_ (i := 23) (N := some 26) (bl_ 43 67108863) rfl rfl (one_of HT_.out (by kernel_rfl)) (by decide) (fun K hK => ?_); refine goes_ Tryd.func50 (by kernel_rfl) rfl #[.agg #[.int .i64 a0_0, .int .i64 a0_1, .int .i64 a0_2, .slice A0_3 l0_3.length c0_3]] (by rfl) rfl rfl ar_ ?_
       (with_reducible refine (impl_ShapesOf.calls k a0_0 a0_1 a0_2 _ _ l0_3 t397 _ ?side1 ?side2 A8.out).mono ?_)
       (case side1 => exact cu_ HR0_3.out HB.out); (case side2 => exact HC0_3.out); rintro e w29 ⟨v398, rfl, ho0, hb⟩; refine ⟨_, rfl, ?_⟩; have HO399 := Aside0.mk (Kd.R_lower ho0 (below_size (be_ HB.out))); replace BK393 := bb_ BK393 hb; replace HB := hb_ HB hb; (try clear hb); (try clear hb2); (try clear hk); (try clear hi); (try clear ho0); obtain ⟨Ao30, co30, eo30⟩ := Kd.R_slice HO399.out; (first | subst eo30 | (injection eo30 with f1_ f2_ f3_; have f4_ := f1_.symm; have f5_ := f3_.symm; clear f1_ f2_ f3_; subst f4_; subst f5_)); have p400 : 0 ≤ (a0_4 : Int) := of_decide_eq_true (by first | (with_reducible assumption) | assumption); have q400 : a0_4 < (t397.length : Int) := of_decide_eq_true (by first | (with_reducible assumption) | assumption); obtain ⟨ad400, e400, hx400_0, hx400_1, hx400_2⟩ := at_T31 (Kd.R_reads' HO399.out).2.2 a0_4 p400 q400
       cases e400
       replace p400 := eq_true p400; replace q400 := eq_true q400; refine hK.out _ _ (cel10_ (bu_ BK393.out)) (fun hHeld => ?_); clear hK K; refine swS_ (S2 := fun w' => w'.cell? ⟨gb393, 0, none⟩ = some (.int .i64 a0_0) ∧ w'.cell? ⟨gb393, 1, none⟩ = some (.int .i64 a0_1) ∧ w'.cell? ⟨gb393, 2, none⟩ = some (.int .i64 a0_2) ∧ w'.cell? ⟨gb393, 3, none⟩ = some (.slice A0_3 l0_3.length c0_3) ∧ w'.cell? ⟨gb393, 4, none⟩ = some (.int .i64 a0_4) ∧ w'.cell? ⟨gb393, 5, none⟩ = some (.int .i64 a0_5) ∧ w'.cell? ⟨gb393, 6, none⟩ = some (.int .i64 a0_6) ∧ w'.cell? ⟨gb393, 7, none⟩ = some (.int .i64 a0_7) ∧ w'.cell? ⟨gb393, 8, none⟩ = some (.slice A0_8 l0_8.length c0_8) ∧ w'.cell? ⟨gb393, 9, none⟩ = some (.int .i64 a0_9) ∧ w'.cell? (ad400.add ((a0_4).toNat * 3)) = some (.int .i64 ((rd_T31 t397 a0_4).f0)) ∧ w'.cell? ⟨(ad400.add ((a0_4).toNat * 3)).block, (ad400.add ((a0_4).toNat * 3)).off + 1, none⟩ = some (.int .i64 ((rd_T31 t397 a0_4).f1)) ∧ w'.cell? ⟨(ad400.add ((a0_4).toNat * 3)).block, (ad400.add ((a0_4).toNat * 3)).off + 2, none⟩ = some (.int .i64 ((rd_T31 t397 a0_4).f2))) (fun w h => ⟨h.1, h.2.1, h.2.2.1, h.2.2.2.1, h.2.2.2.2.1, h.2.2.2.2.2.1, h.2.2.2.2.2.2.1, h.2.2.2.2.2.2.2.1, h.2.2.2.2.2.2.2.2.1, h.2.2.2.2.2.2.2.2.2.1⟩) ⟨(blk_cell BK393.out 0).trans rfl, (blk_cell BK393.out 1).trans rfl, (blk_cell BK393.out 2).trans rfl, (blk_cell BK393.out 3).trans rfl, (blk_cell BK393.out 4).trans rfl, (blk_cell BK393.out 5).trans rfl, (blk_cell BK393.out 6).trans rfl, (blk_cell BK393.out 7).trans rfl, (blk_cell BK393.out 8).trans rfl, (blk_cell BK393.out 9).trans rfl, hx400_0, hx400_1, hx400_2⟩ (fun hHeld => ?_); refine nm_ 26 (h := ?_); refine pl_ 26 (some 29) 43 134217727 HT_.out ?_; refine tk_ 27 (some 30) 43 268435455 HT_.out HW_.out hHeld (hy := by rintro w' ⟨s0, s1, s2, s3, s4, s5, s6, s7, s8, s9, s10, s11, s12⟩; go_simp; with_reducible rfl) (h := ?_); refine pl_ 28 (some 31) 43 536870911 HT_.out ?_; refine pl_ 29 (some 32) 43 1073741823 HT_.out ?_; refine pl_ 30 (some 33) 43 2147483647 HT_.out ?_; refine pure_ (i := 31) (N := some 34) (v := undef) (a' := ?_) (bl_ 43 4294967295) rfl rfl (any_of HT_.out (by kernel_rfl)) (fun _ _ _ h => h) (Or.inr ⟨by rfl, rfl⟩) ?_ ?_
       rotate_left
       ·
        simp only [Act.put, List.setIfInBounds_toArray, List.set_cons_zero, List.set_cons_succ, i64_w, i32_w]; rfl
       refine pure_ (i := 32) (N := some 35) (v := undef) (a' := ?_) (bl_ 43 8589934591) rfl rfl (any_of HT_.out (by kernel_rfl)) (fun _ _ _ h => h) (Or.inr ⟨by rfl, rfl⟩) ?_ ?_
       rotate_left
       ·
        simp only [Act.put, List.setIfInBounds_toArray, List.set_cons_zero, List.set_cons_succ, i64_w, i32_w]; rfl
       refine pure_ (i := 33) (N := some 36) (v := undef) (a' := ?_) (bl_ 43 17179869183) rfl rfl (any_of HT_.out (by kernel_rfl)) (fun _ _ _ h => h) (Or.inr ⟨by rfl, rfl⟩) ?_ ?_
       rotate_left
       ·
        simp only [Act.put, List.setIfInBounds_toArray, List.set_cons_zero, List.set_cons_succ, i64_w, i32_w]; rfl
       refine pure_ (i := 34) (N := some 37) (v := undef) (a' := ?_) (bl_ 43 34359738367) rfl rfl (any_of HT_.out (by kernel_rfl)) (fun _ _ _ h => h) (Or.inr ⟨by rfl, rfl⟩) ?_ ?_
       rotate_left
       ·
        simp only [Act.put, List.setIfInBounds_toArray, List.set_cons_zero, List.set_cons_succ, i64_w, i32_w]; rfl
       refine pure_ (i := 35) (N := some 38) (v := undef) (a' := ?_) (bl_ 43 68719476735) rfl rfl (any_of HT_.out (by kernel_rfl)) (fun _ _ _ h => h) (Or.inr ⟨by rfl, rfl⟩) ?_ ?_
       rotate_left
       ·
        simp only [Act.put, List.setIfInBounds_toArray, List.set_cons_zero, List.set_cons_succ, i64_w, i32_w]; rfl
       refine pure_ (i := 36) (N := some 39) (v := undef) (a' := ?_) (bl_ 43 137438953471) rfl rfl (any_of HT_.out (by kernel_rfl)) (fun _ _ _ h => h) (Or.inr ⟨by rfl, rfl⟩) ?_ ?_
       rotate_left
       ·
        simp only [Act.put, List.setIfInBounds_toArray, List.set_cons_zero, List.set_cons_succ, i64_w, i32_w]; rfl
       refine pure_ (i := 37) (N := some 40) (v := undef) (a' := ?_) (bl_ 43 274877906943) rfl rfl (any_of HT_.out (by kernel_rfl)) (fun _ _ _ h => h) (Or.inr ⟨by rfl, rfl⟩) ?_ ?_
       rotate_left
       ·
        simp only [Act.put, List.setIfInBounds_toArray, List.set_cons_zero, List.set_cons_succ, i64_w, i32_w]; rfl
       refine pure_ (i := 38) (N := some 41) (v := undef) (a' := ?_) (bl_ 43 549755813887) rfl rfl (any_of HT_.out (by kernel_rfl)) (fun _ _ _ h => h) (Or.inr ⟨by rfl, rfl⟩) ?_ ?_
       rotate_left
       ·
        simp only [Act.put, List.setIfInBounds_toArray, List.set_cons_zero, List.set_cons_succ, i64_w, i32_w]; rfl
       refine pure_ (i := 39) (N := some 42) (v := undef) (a' := ?_) (bl_ 43 1099511627775) rfl rfl (any_of HT_.out (by kernel_rfl)) (fun _ _ _ h => h) (Or.inr ⟨by rfl, rfl⟩) ?_ ?_
       rotate_left
       ·
        simp only [Act.put, List.setIfInBounds_toArray, List.set_cons_zero, List.set_cons_succ, i64_w, i32_w]; rfl
       refine pure_ (i := 40) (N := some 43) (v := undef) (a' := ?_) (bl_ 43 2199023255551) rfl rfl (any_of HT_.out (by kernel_rfl)) (fun _ _ _ h => h) (Or.inr ⟨by rfl, rfl⟩) ?_ ?_
       rotate_left
       ·
        simp only [Act.put, List.setIfInBounds_toArray, List.set_cons_zero, List.set_cons_succ, i64_w, i32_w]; rfl
       refine pl_ 41 (some 44) 43 4398046511103 HT_.out ?_; refine pl_ 42 (some 2) 43 8796093022207 HT_.out ?_; refine done_ (done_of HT_.out (by kernel_rfl)) ?_
       try go_wp2
       go_ret
       exact ⟨by first | rfl | (simp [errW_none, errW_some] <;> rfl) | (simp [*, errW_none, errW_some] <;> rfl), be_ HB.out⟩
     ·
      rw [if_neg c10] at H; exact absurd H (by simp)
    ·
     rw [if_neg c9] at H; exact absurd H (by simp)
   ·
    replace c7 := Bool.eq_false_iff.mpr c7; subst c7; have H1 : (some false) = some r := by rw [if_neg (show ¬ (false = true) by decide)] at H; exact H
    clear H; have H := H1; clear H1; obtain rfl := Option.some.inj H
    go_enter Tryd.func31, Tryd.ntmps31
    try go_wp2_with (first | ((with_reducible refine gate_dst (N := 1) rfl ?_); (try (refine gate_guard (by rfl) ?_; dsimp only)); refine bx_ 1 #[.int .i64 a0_0, .int .i64 a0_1, .int .i64 a0_2, .slice A0_3 l0_3.length c0_3, .int .i64 a0_4, .int .i64 a0_5, .int .i64 a0_6, .int .i64 a0_7, .slice A0_8 l0_8.length c0_8, .int .i64 a0_9] 56 ?_; intro gb393 hg w31 hbox hb; have BK393 := Aside0.mk (hbox); have GW393 := gs_ hg HB; have GE393 := gs_ hg HB; replace HB := hb_ HB hb; clear hb hbox hg))
    replace BK393 := Aside0.mk (blk_drew BK393.out); replace HB := Aside0.mk (below_drew1 HB.out); refine start_ (n := 43) (S := fun w' => w'.cell? ⟨gb393, 0, none⟩ = some (.int .i64 a0_0) ∧ w'.cell? ⟨gb393, 1, none⟩ = some (.int .i64 a0_1) ∧ w'.cell? ⟨gb393, 2, none⟩ = some (.int .i64 a0_2) ∧ w'.cell? ⟨gb393, 3, none⟩ = some (.slice A0_3 l0_3.length c0_3) ∧ w'.cell? ⟨gb393, 4, none⟩ = some (.int .i64 a0_4) ∧ w'.cell? ⟨gb393, 5, none⟩ = some (.int .i64 a0_5) ∧ w'.cell? ⟨gb393, 6, none⟩ = some (.int .i64 a0_6) ∧ w'.cell? ⟨gb393, 7, none⟩ = some (.int .i64 a0_7) ∧ w'.cell? ⟨gb393, 8, none⟩ = some (.slice A0_8 l0_8.length c0_8) ∧ w'.cell? ⟨gb393, 9, none⟩ = some (.int .i64 a0_9)) (ds := []) #[false, false, false, false, false, false, false, false, false, false, false, false, false, false, false, false, false, false, false, false, false, false, false, false, false, false, false, false, false, false, false, false, false, false, false, false, false, false, false, false, false, false, false] (by kernel_rfl) rfl rfl (cel10_ (bu_ BK393.out)) (fun hHeld => ?_); refine with_tabW impl_JobOk.tab1 impl_JobOk.bits1 (fun HT_ HW_ => ?_); generalize w31.drew = w32 at BK393 HB hHeld ⊢; refine pl_ 0 (some 3) 43 1 HT_.out ?_; refine tk_ 1 (some 4) 43 3 HT_.out HW_.out hHeld (hy := by rintro w' ⟨s0, s1, s2, s3, s4, s5, s6, s7, s8, s9⟩; go_simp; with_reducible rfl) (h := ?_); refine one_ (i := 2) (N := some 5) (bl_ 43 7) rfl rfl (one_of HT_.out (by kernel_rfl)) (by decide) (fun K hK => ?_); refine goes_ Tryd.func48 (by kernel_rfl) rfl #[.agg #[.int .i64 a0_0, .int .i64 a0_1, .int .i64 a0_2, .slice A0_3 l0_3.length c0_3]] (by rfl) rfl rfl ar_ ?_
    (with_reducible refine (impl_ModelOk.calls k a0_0 a0_1 a0_2 _ _ l0_3 true _ ?side1 ?side2 A2.out).mono ?_)
    (case side1 => exact cu_ HR0_3.out HB.out); (case side2 => exact HC0_3.out); rintro e w33 ⟨rfl, hb⟩; refine ⟨_, rfl, ?_⟩; replace BK393 := bb_ BK393 hb; replace HB := hb_ HB hb; (try clear hb); (try clear hb2); (try clear hk); (try clear hi); refine hK.out _ _ (cel10_ (bu_ BK393.out)) (fun hHeld => ?_); clear hK K; refine nm_ 5 (h := ?_); refine pl_ 3 (some 6) 43 15 HT_.out ?_; refine pl_ 4 (some 7) 43 31 HT_.out ?_; refine pl_ 6 (some 9) 43 95 HT_.out ?_; refine pl_ 7 (some 10) 43 223 HT_.out ?_; refine tk_ 5 (some 8) 43 255 HT_.out HW_.out hHeld (hy := by rintro w' ⟨s0, s1, s2, s3, s4, s5, s6, s7, s8, s9⟩; go_simp; with_reducible rfl) (h := ?_); refine tk_ 8 (some 11) 43 511 HT_.out HW_.out hHeld (hy := by rintro w' ⟨s0, s1, s2, s3, s4, s5, s6, s7, s8, s9⟩; go_simp; with_reducible rfl) (h := ?_); refine pl_ 9 (some 12) 43 1023 HT_.out ?_; refine one_ (i := 10) (N := some 13) (bl_ 43 2047) rfl rfl (one_of HT_.out (by kernel_rfl)) (by decide) (fun K hK => ?_); refine goes_ Tryd.func49 (by kernel_rfl) rfl #[.int .i64 a0_4, .int .i64 0, .int .i64 (l0_3.length : Int)] (by rfl) rfl rfl ar_ ?_
    (with_reducible refine (impl_in.calls a0_4 0 (l0_3.length : Int) true _ A4.out).mono ?_)
    rintro e w' ⟨rfl, ⟨nd, rfl⟩⟩; refine ⟨_, rfl, ?_⟩; refine hK.out _ _ (cel10_ (bu_ BK393.out)) (fun hHeld => ?_); clear hK K; refine nm_ 13 (h := ?_); refine pl_ 11 (some 14) 43 4095 HT_.out ?_; refine pl_ 12 (some 15) 43 8191 HT_.out ?_; refine pl_ 13 (some 16) 43 16383 HT_.out ?_; refine tk_ 14 (some 17) 43 32767 HT_.out HW_.out hHeld (hy := by rintro w' ⟨s0, s1, s2, s3, s4, s5, s6, s7, s8, s9⟩; go_simp; with_reducible rfl) (h := ?_); refine one_ (i := 15) (N := some 18) (bl_ 43 65535) rfl rfl (one_of HT_.out (by kernel_rfl)) (by decide) (fun K hK => ?_); refine goes_ Tryd.func38 (by kernel_rfl) rfl #[.agg #[.int .i64 a0_5, .int .i64 a0_6, .int .i64 a0_7, .slice A0_8 l0_8.length c0_8]] (by rfl) rfl rfl ar_ ?_
    (with_reducible refine (impl_TensorOk.calls k a0_5 a0_6 a0_7 _ _ l0_8 false _ ?side1 ?side2 A6.out).mono ?_)
    (case side1 => repeat (first | exact (Kd.C_below HR0_8.out (be_ HB.out)) | (with_reducible refine Kd.C_alloc ?_ _) | (with_reducible refine Kd.C_drewN ?_ _) | (with_reducible refine Kd.C_drew ?_))); (case side2 => exact HC0_8.out); rintro e w34 ⟨rfl, hb⟩; refine ⟨_, rfl, ?_⟩; replace BK393 := bb_ BK393 hb; replace HB := hb_ HB hb; (try clear hb); (try clear hb2); (try clear hk); (try clear hi); refine hK.out _ _ (cel10_ (bu_ BK393.out)) (fun hHeld => ?_); clear hK K; refine nm_ 18 (h := ?_); refine pl_ 16 (some 19) 43 131071 HT_.out ?_; refine pl_ 17 (some 20) 43 262143 HT_.out ?_; refine pure_ (i := 18) (N := some 21) (v := undef) (a' := ?_) (bl_ 43 524287) rfl rfl (any_of HT_.out (by kernel_rfl)) (fun _ _ _ h => h) (Or.inr ⟨by rfl, rfl⟩) ?_ ?_
    rotate_left
    ·
     simp only [Act.put, List.setIfInBounds_toArray, List.set_cons_zero, List.set_cons_succ, i64_w, i32_w]; rfl
    refine pure_ (i := 19) (N := some 22) (v := undef) (a' := ?_) (bl_ 43 1048575) rfl rfl (any_of HT_.out (by kernel_rfl)) (fun _ _ _ h => h) (Or.inr ⟨by rfl, rfl⟩) ?_ ?_
    rotate_left
    ·
     simp only [Act.put, List.setIfInBounds_toArray, List.set_cons_zero, List.set_cons_succ, i64_w, i32_w]; rfl
    refine pure_ (i := 20) (N := some 23) (v := undef) (a' := ?_) (bl_ 43 2097151) rfl rfl (any_of HT_.out (by kernel_rfl)) (fun _ _ _ h => h) (Or.inr ⟨by rfl, rfl⟩) ?_ ?_
    rotate_left
    ·
     simp only [Act.put, List.setIfInBounds_toArray, List.set_cons_zero, List.set_cons_succ, i64_w, i32_w]; rfl
    refine pure_ (i := 21) (N := some 24) (v := undef) (a' := ?_) (bl_ 43 4194303) rfl rfl (any_of HT_.out (by kernel_rfl)) (fun _ _ _ h => h) (Or.inr ⟨by rfl, rfl⟩) ?_ ?_
    rotate_left
    ·
     simp only [Act.put, List.setIfInBounds_toArray, List.set_cons_zero, List.set_cons_succ, i64_w, i32_w]; rfl
    refine pure_ (i := 22) (N := some 25) (v := undef) (a' := ?_) (bl_ 43 8388607) rfl rfl (any_of HT_.out (by kernel_rfl)) (fun _ _ _ h => h) (Or.inr ⟨by rfl, rfl⟩) ?_ ?_
    rotate_left
    ·
     simp only [Act.put, List.setIfInBounds_toArray, List.set_cons_zero, List.set_cons_succ, i64_w, i32_w]; rfl
    refine pure_ (i := 23) (N := some 26) (v := undef) (a' := ?_) (bl_ 43 16777215) rfl rfl (any_of HT_.out (by kernel_rfl)) (fun _ _ _ h => h) (Or.inr ⟨by rfl, rfl⟩) ?_ ?_
    rotate_left
    ·
     simp only [Act.put, List.setIfInBounds_toArray, List.set_cons_zero, List.set_cons_succ, i64_w, i32_w]; rfl
    refine pure_ (i := 24) (N := some 27) (v := undef) (a' := ?_) (bl_ 43 33554431) rfl rfl (any_of HT_.out (by kernel_rfl)) (fun _ _ _ h => h) (Or.inr ⟨by rfl, rfl⟩) ?_ ?_
    rotate_left
    ·
     simp only [Act.put, List.setIfInBounds_toArray, List.set_cons_zero, List.set_cons_succ, i64_w, i32_w]; rfl
    refine pure_ (i := 25) (N := some 28) (v := undef) (a' := ?_) (bl_ 43 67108863) rfl rfl (any_of HT_.out (by kernel_rfl)) (fun _ _ _ h => h) (Or.inr ⟨by rfl, rfl⟩) ?_ ?_
    rotate_left
    ·
     simp only [Act.put, List.setIfInBounds_toArray, List.set_cons_zero, List.set_cons_succ, i64_w, i32_w]; rfl
    refine pure_ (i := 26) (N := some 29) (v := undef) (a' := ?_) (bl_ 43 134217727) rfl rfl (any_of HT_.out (by kernel_rfl)) (fun _ _ _ h => h) (Or.inr ⟨by rfl, rfl⟩) ?_ ?_
    rotate_left
    ·
     simp only [Act.put, List.setIfInBounds_toArray, List.set_cons_zero, List.set_cons_succ, i64_w, i32_w]; rfl
    refine pure_ (i := 27) (N := some 30) (v := undef) (a' := ?_) (bl_ 43 268435455) rfl rfl (any_of HT_.out (by kernel_rfl)) (fun _ _ _ h => h) (Or.inr ⟨by rfl, rfl⟩) ?_ ?_
    rotate_left
    ·
     simp only [Act.put, List.setIfInBounds_toArray, List.set_cons_zero, List.set_cons_succ, i64_w, i32_w]; rfl
    refine pure_ (i := 28) (N := some 31) (v := undef) (a' := ?_) (bl_ 43 536870911) rfl rfl (any_of HT_.out (by kernel_rfl)) (fun _ _ _ h => h) (Or.inr ⟨by rfl, rfl⟩) ?_ ?_
    rotate_left
    ·
     simp only [Act.put, List.setIfInBounds_toArray, List.set_cons_zero, List.set_cons_succ, i64_w, i32_w]; rfl
    refine pl_ 29 (some 32) 43 1073741823 HT_.out ?_; refine pl_ 30 (some 33) 43 2147483647 HT_.out ?_; refine pure_ (i := 31) (N := some 34) (v := undef) (a' := ?_) (bl_ 43 4294967295) rfl rfl (any_of HT_.out (by kernel_rfl)) (fun _ _ _ h => h) (Or.inr ⟨by rfl, rfl⟩) ?_ ?_
    rotate_left
    ·
     simp only [Act.put, List.setIfInBounds_toArray, List.set_cons_zero, List.set_cons_succ, i64_w, i32_w]; rfl
    refine pure_ (i := 32) (N := some 35) (v := undef) (a' := ?_) (bl_ 43 8589934591) rfl rfl (any_of HT_.out (by kernel_rfl)) (fun _ _ _ h => h) (Or.inr ⟨by rfl, rfl⟩) ?_ ?_
    rotate_left
    ·
     simp only [Act.put, List.setIfInBounds_toArray, List.set_cons_zero, List.set_cons_succ, i64_w, i32_w]; rfl
    refine pure_ (i := 33) (N := some 36) (v := undef) (a' := ?_) (bl_ 43 17179869183) rfl rfl (any_of HT_.out (by kernel_rfl)) (fun _ _ _ h => h) (Or.inr ⟨by rfl, rfl⟩) ?_ ?_
    rotate_left
    ·
     simp only [Act.put, List.setIfInBounds_toArray, List.set_cons_zero, List.set_cons_succ, i64_w, i32_w]; rfl
    refine pure_ (i := 34) (N := some 37) (v := undef) (a' := ?_) (bl_ 43 34359738367) rfl rfl (any_of HT_.out (by kernel_rfl)) (fun _ _ _ h => h) (Or.inr ⟨by rfl, rfl⟩) ?_ ?_
    rotate_left
    ·
     simp only [Act.put, List.setIfInBounds_toArray, List.set_cons_zero, List.set_cons_succ, i64_w, i32_w]; rfl
    refine pure_ (i := 35) (N := some 38) (v := undef) (a' := ?_) (bl_ 43 68719476735) rfl rfl (any_of HT_.out (by kernel_rfl)) (fun _ _ _ h => h) (Or.inr ⟨by rfl, rfl⟩) ?_ ?_
    rotate_left
    ·
     simp only [Act.put, List.setIfInBounds_toArray, List.set_cons_zero, List.set_cons_succ, i64_w, i32_w]; rfl
    refine pure_ (i := 36) (N := some 39) (v := undef) (a' := ?_) (bl_ 43 137438953471) rfl rfl (any_of HT_.out (by kernel_rfl)) (fun _ _ _ h => h) (Or.inr ⟨by rfl, rfl⟩) ?_ ?_
    rotate_left
    ·
     simp only [Act.put, List.setIfInBounds_toArray, List.set_cons_zero, List.set_cons_succ, i64_w, i32_w]; rfl
    refine pure_ (i := 37) (N := some 40) (v := undef) (a' := ?_) (bl_ 43 274877906943) rfl rfl (any_of HT_.out (by kernel_rfl)) (fun _ _ _ h => h) (Or.inr ⟨by rfl, rfl⟩) ?_ ?_
    rotate_left
    ·
     simp only [Act.put, List.setIfInBounds_toArray, List.set_cons_zero, List.set_cons_succ, i64_w, i32_w]; rfl
    refine pure_ (i := 38) (N := some 41) (v := undef) (a' := ?_) (bl_ 43 549755813887) rfl rfl (any_of HT_.out (by kernel_rfl)) (fun _ _ _ h => h) (Or.inr ⟨by rfl, rfl⟩) ?_ ?_
    rotate_left
    ·
     simp only [Act.put, List.setIfInBounds_toArray, List.set_cons_zero, List.set_cons_succ, i64_w, i32_w]; rfl
    refine pure_ (i := 39) (N := some 42) (v := undef) (a' := ?_) (bl_ 43 1099511627775) rfl rfl (any_of HT_.out (by kernel_rfl)) (fun _ _ _ h => h) (Or.inr ⟨by rfl, rfl⟩) ?_ ?_
    rotate_left
    ·
     simp only [Act.put, List.setIfInBounds_toArray, List.set_cons_zero, List.set_cons_succ, i64_w, i32_w]; rfl
    refine pure_ (i := 40) (N := some 43) (v := undef) (a' := ?_) (bl_ 43 2199023255551) rfl rfl (any_of HT_.out (by kernel_rfl)) (fun _ _ _ h => h) (Or.inr ⟨by rfl, rfl⟩) ?_ ?_
    rotate_left
    ·
     simp only [Act.put, List.setIfInBounds_toArray, List.set_cons_zero, List.set_cons_succ, i64_w, i32_w]; rfl
    refine pl_ 41 (some 44) 43 4398046511103 HT_.out ?_; refine pl_ 42 (some 2) 43 8796093022207 HT_.out ?_; refine done_ (done_of HT_.out (by kernel_rfl)) ?_
    try go_wp2
    go_ret
    exact ⟨by first | rfl | (simp [errW_none, errW_some] <;> rfl) | (simp [*, errW_none, errW_some] <;> rfl), be_ HB.out⟩
  ·
   replace c5 := Bool.eq_false_iff.mpr c5; subst c5; have H1 : (some false) = some r := by rw [if_neg (show ¬ (false = true) by decide)] at H; exact H
   clear H; have H := H1; clear H1; obtain rfl := Option.some.inj H
   go_enter Tryd.func31, Tryd.ntmps31
   try go_wp2_with (first | ((with_reducible refine gate_dst (N := 1) rfl ?_); (try (refine gate_guard (by rfl) ?_; dsimp only)); refine bx_ 1 #[.int .i64 a0_0, .int .i64 a0_1, .int .i64 a0_2, .slice A0_3 l0_3.length c0_3, .int .i64 a0_4, .int .i64 a0_5, .int .i64 a0_6, .int .i64 a0_7, .slice A0_8 l0_8.length c0_8, .int .i64 a0_9] 56 ?_; intro gb393 hg w35 hbox hb; have BK393 := Aside0.mk (hbox); have GW393 := gs_ hg HB; have GE393 := gs_ hg HB; replace HB := hb_ HB hb; clear hb hbox hg))
   replace BK393 := Aside0.mk (blk_drew BK393.out); replace HB := Aside0.mk (below_drew1 HB.out); refine start_ (n := 43) (S := fun w' => w'.cell? ⟨gb393, 0, none⟩ = some (.int .i64 a0_0) ∧ w'.cell? ⟨gb393, 1, none⟩ = some (.int .i64 a0_1) ∧ w'.cell? ⟨gb393, 2, none⟩ = some (.int .i64 a0_2) ∧ w'.cell? ⟨gb393, 3, none⟩ = some (.slice A0_3 l0_3.length c0_3) ∧ w'.cell? ⟨gb393, 4, none⟩ = some (.int .i64 a0_4) ∧ w'.cell? ⟨gb393, 5, none⟩ = some (.int .i64 a0_5) ∧ w'.cell? ⟨gb393, 6, none⟩ = some (.int .i64 a0_6) ∧ w'.cell? ⟨gb393, 7, none⟩ = some (.int .i64 a0_7) ∧ w'.cell? ⟨gb393, 8, none⟩ = some (.slice A0_8 l0_8.length c0_8) ∧ w'.cell? ⟨gb393, 9, none⟩ = some (.int .i64 a0_9)) (ds := []) #[false, false, false, false, false, false, false, false, false, false, false, false, false, false, false, false, false, false, false, false, false, false, false, false, false, false, false, false, false, false, false, false, false, false, false, false, false, false, false, false, false, false, false] (by kernel_rfl) rfl rfl (cel10_ (bu_ BK393.out)) (fun hHeld => ?_); refine with_tabW impl_JobOk.tab1 impl_JobOk.bits1 (fun HT_ HW_ => ?_); generalize w35.drew = w36 at BK393 HB hHeld ⊢; refine pl_ 0 (some 3) 43 1 HT_.out ?_; refine tk_ 1 (some 4) 43 3 HT_.out HW_.out hHeld (hy := by rintro w' ⟨s0, s1, s2, s3, s4, s5, s6, s7, s8, s9⟩; go_simp; with_reducible rfl) (h := ?_); refine one_ (i := 2) (N := some 5) (bl_ 43 7) rfl rfl (one_of HT_.out (by kernel_rfl)) (by decide) (fun K hK => ?_); refine goes_ Tryd.func48 (by kernel_rfl) rfl #[.agg #[.int .i64 a0_0, .int .i64 a0_1, .int .i64 a0_2, .slice A0_3 l0_3.length c0_3]] (by rfl) rfl rfl ar_ ?_
   (with_reducible refine (impl_ModelOk.calls k a0_0 a0_1 a0_2 _ _ l0_3 true _ ?side1 ?side2 A2.out).mono ?_)
   (case side1 => exact cu_ HR0_3.out HB.out); (case side2 => exact HC0_3.out); rintro e w37 ⟨rfl, hb⟩; refine ⟨_, rfl, ?_⟩; replace BK393 := bb_ BK393 hb; replace HB := hb_ HB hb; (try clear hb); (try clear hb2); (try clear hk); (try clear hi); refine hK.out _ _ (cel10_ (bu_ BK393.out)) (fun hHeld => ?_); clear hK K; refine nm_ 5 (h := ?_); refine pl_ 3 (some 6) 43 15 HT_.out ?_; refine pl_ 4 (some 7) 43 31 HT_.out ?_; refine pl_ 6 (some 9) 43 95 HT_.out ?_; refine pl_ 7 (some 10) 43 223 HT_.out ?_; refine tk_ 5 (some 8) 43 255 HT_.out HW_.out hHeld (hy := by rintro w' ⟨s0, s1, s2, s3, s4, s5, s6, s7, s8, s9⟩; go_simp; with_reducible rfl) (h := ?_); refine tk_ 8 (some 11) 43 511 HT_.out HW_.out hHeld (hy := by rintro w' ⟨s0, s1, s2, s3, s4, s5, s6, s7, s8, s9⟩; go_simp; with_reducible rfl) (h := ?_); refine pl_ 9 (some 12) 43 1023 HT_.out ?_; refine one_ (i := 10) (N := some 13) (bl_ 43 2047) rfl rfl (one_of HT_.out (by kernel_rfl)) (by decide) (fun K hK => ?_); refine goes_ Tryd.func49 (by kernel_rfl) rfl #[.int .i64 a0_4, .int .i64 0, .int .i64 (l0_3.length : Int)] (by rfl) rfl rfl ar_ ?_
   (with_reducible refine (impl_in.calls a0_4 0 (l0_3.length : Int) false _ A4.out).mono ?_)
   rintro e w' ⟨rfl, ⟨nd, rfl⟩⟩; refine ⟨_, rfl, ?_⟩; refine hK.out _ _ (cel10_ (bu_ BK393.out)) (fun hHeld => ?_); clear hK K; refine nm_ 13 (h := ?_); refine pl_ 11 (some 14) 43 4095 HT_.out ?_; refine pl_ 12 (some 15) 43 8191 HT_.out ?_; refine pure_ (i := 13) (N := some 16) (v := undef) (a' := ?_) (bl_ 43 16383) rfl rfl (any_of HT_.out (by kernel_rfl)) (fun _ _ _ h => h) (Or.inr ⟨by rfl, rfl⟩) ?_ ?_
   rotate_left
   ·
    simp only [Act.put, List.setIfInBounds_toArray, List.set_cons_zero, List.set_cons_succ, i64_w, i32_w]; rfl
   refine pure_ (i := 14) (N := some 17) (v := undef) (a' := ?_) (bl_ 43 32767) rfl rfl (any_of HT_.out (by kernel_rfl)) (fun _ _ _ h => h) (Or.inr ⟨by rfl, rfl⟩) ?_ ?_
   rotate_left
   ·
    simp only [Act.put, List.setIfInBounds_toArray, List.set_cons_zero, List.set_cons_succ, i64_w, i32_w]; rfl
   refine pure_ (i := 15) (N := some 18) (v := undef) (a' := ?_) (bl_ 43 65535) rfl rfl (any_of HT_.out (by kernel_rfl)) (fun _ _ _ h => h) (Or.inr ⟨by rfl, rfl⟩) ?_ ?_
   rotate_left
   ·
    simp only [Act.put, List.setIfInBounds_toArray, List.set_cons_zero, List.set_cons_succ, i64_w, i32_w]; rfl
   refine pl_ 16 (some 19) 43 131071 HT_.out ?_; refine pl_ 17 (some 20) 43 262143 HT_.out ?_; refine pure_ (i := 18) (N := some 21) (v := undef) (a' := ?_) (bl_ 43 524287) rfl rfl (any_of HT_.out (by kernel_rfl)) (fun _ _ _ h => h) (Or.inr ⟨by rfl, rfl⟩) ?_ ?_
   rotate_left
   ·
    simp only [Act.put, List.setIfInBounds_toArray, List.set_cons_zero, List.set_cons_succ, i64_w, i32_w]; rfl
   refine pure_ (i := 19) (N := some 22) (v := undef) (a' := ?_) (bl_ 43 1048575) rfl rfl (any_of HT_.out (by kernel_rfl)) (fun _ _ _ h => h) (Or.inr ⟨by rfl, rfl⟩) ?_ ?_
   rotate_left
   ·
    simp only [Act.put, List.setIfInBounds_toArray, List.set_cons_zero, List.set_cons_succ, i64_w, i32_w]; rfl
   refine pure_ (i := 20) (N := some 23) (v := undef) (a' := ?_) (bl_ 43 2097151) rfl rfl (any_of HT_.out (by kernel_rfl)) (fun _ _ _ h => h) (Or.inr ⟨by rfl, rfl⟩) ?_ ?_
   rotate_left
   ·
    simp only [Act.put, List.setIfInBounds_toArray, List.set_cons_zero, List.set_cons_succ, i64_w, i32_w]; rfl
   refine pure_ (i := 21) (N := some 24) (v := undef) (a' := ?_) (bl_ 43 4194303) rfl rfl (any_of HT_.out (by kernel_rfl)) (fun _ _ _ h => h) (Or.inr ⟨by rfl, rfl⟩) ?_ ?_
   rotate_left
   ·
    simp only [Act.put, List.setIfInBounds_toArray, List.set_cons_zero, List.set_cons_succ, i64_w, i32_w]; rfl
   refine pure_ (i := 22) (N := some 25) (v := undef) (a' := ?_) (bl_ 43 8388607) rfl rfl (any_of HT_.out (by kernel_rfl)) (fun _ _ _ h => h) (Or.inr ⟨by rfl, rfl⟩) ?_ ?_
   rotate_left
   ·
    simp only [Act.put, List.setIfInBounds_toArray, List.set_cons_zero, List.set_cons_succ, i64_w, i32_w]; rfl
   refine pure_ (i := 23) (N := some 26) (v := undef) (a' := ?_) (bl_ 43 16777215) rfl rfl (any_of HT_.out (by kernel_rfl)) (fun _ _ _ h => h) (Or.inr ⟨by rfl, rfl⟩) ?_ ?_
   rotate_left
   ·
    simp only [Act.put, List.setIfInBounds_toArray, List.set_cons_zero, List.set_cons_succ, i64_w, i32_w]; rfl
   refine pure_ (i := 24) (N := some 27) (v := undef) (a' := ?_) (bl_ 43 33554431) rfl rfl (any_of HT_.out (by kernel_rfl)) (fun _ _ _ h => h) (Or.inr ⟨by rfl, rfl⟩) ?_ ?_
   rotate_left
   ·
    simp only [Act.put, List.setIfInBounds_toArray, List.set_cons_zero, List.set_cons_succ, i64_w, i32_w]; rfl
   refine pure_ (i := 25) (N := some 28) (v := undef) (a' := ?_) (bl_ 43 67108863) rfl rfl (any_of HT_.out (by kernel_rfl)) (fun _ _ _ h => h) (Or.inr ⟨by rfl, rfl⟩) ?_ ?_
   rotate_left
   ·
    simp only [Act.put, List.setIfInBounds_toArray, List.set_cons_zero, List.set_cons_succ, i64_w, i32_w]; rfl
   refine pure_ (i := 26) (N := some 29) (v := undef) (a' := ?_) (bl_ 43 134217727) rfl rfl (any_of HT_.out (by kernel_rfl)) (fun _ _ _ h => h) (Or.inr ⟨by rfl, rfl⟩) ?_ ?_
   rotate_left
   ·
    simp only [Act.put, List.setIfInBounds_toArray, List.set_cons_zero, List.set_cons_succ, i64_w, i32_w]; rfl
   refine pure_ (i := 27) (N := some 30) (v := undef) (a' := ?_) (bl_ 43 268435455) rfl rfl (any_of HT_.out (by kernel_rfl)) (fun _ _ _ h => h) (Or.inr ⟨by rfl, rfl⟩) ?_ ?_
   rotate_left
   ·
    simp only [Act.put, List.setIfInBounds_toArray, List.set_cons_zero, List.set_cons_succ, i64_w, i32_w]; rfl
   refine pure_ (i := 28) (N := some 31) (v := undef) (a' := ?_) (bl_ 43 536870911) rfl rfl (any_of HT_.out (by kernel_rfl)) (fun _ _ _ h => h) (Or.inr ⟨by rfl, rfl⟩) ?_ ?_
   rotate_left
   ·
    simp only [Act.put, List.setIfInBounds_toArray, List.set_cons_zero, List.set_cons_succ, i64_w, i32_w]; rfl
   refine pl_ 29 (some 32) 43 1073741823 HT_.out ?_; refine pl_ 30 (some 33) 43 2147483647 HT_.out ?_; refine pure_ (i := 31) (N := some 34) (v := undef) (a' := ?_) (bl_ 43 4294967295) rfl rfl (any_of HT_.out (by kernel_rfl)) (fun _ _ _ h => h) (Or.inr ⟨by rfl, rfl⟩) ?_ ?_
   rotate_left
   ·
    simp only [Act.put, List.setIfInBounds_toArray, List.set_cons_zero, List.set_cons_succ, i64_w, i32_w]; rfl
   refine pure_ (i := 32) (N := some 35) (v := undef) (a' := ?_) (bl_ 43 8589934591) rfl rfl (any_of HT_.out (by kernel_rfl)) (fun _ _ _ h => h) (Or.inr ⟨by rfl, rfl⟩) ?_ ?_
   rotate_left
   ·
    simp only [Act.put, List.setIfInBounds_toArray, List.set_cons_zero, List.set_cons_succ, i64_w, i32_w]; rfl
   refine pure_ (i := 33) (N := some 36) (v := undef) (a' := ?_) (bl_ 43 17179869183) rfl rfl (any_of HT_.out (by kernel_rfl)) (fun _ _ _ h => h) (Or.inr ⟨by rfl, rfl⟩) ?_ ?_
   rotate_left
   ·
    simp only [Act.put, List.setIfInBounds_toArray, List.set_cons_zero, List.set_cons_succ, i64_w, i32_w]; rfl
   refine pure_ (i := 34) (N := some 37) (v := undef) (a' := ?_) (bl_ 43 34359738367) rfl rfl (any_of HT_.out (by kernel_rfl)) (fun _ _ _ h => h) (Or.inr ⟨by rfl, rfl⟩) ?_ ?_
   rotate_left
   ·
    simp only [Act.put, List.setIfInBounds_toArray, List.set_cons_zero, List.set_cons_succ, i64_w, i32_w]; rfl
   refine pure_ (i := 35) (N := some 38) (v := undef) (a' := ?_) (bl_ 43 68719476735) rfl rfl (any_of HT_.out (by kernel_rfl)) (fun _ _ _ h => h) (Or.inr ⟨by rfl, rfl⟩) ?_ ?_
   rotate_left
   ·
    simp only [Act.put, List.setIfInBounds_toArray, List.set_cons_zero, List.set_cons_succ, i64_w, i32_w]; rfl
   refine pure_ (i := 36) (N := some 39) (v := undef) (a' := ?_) (bl_ 43 137438953471) rfl rfl (any_of HT_.out (by kernel_rfl)) (fun _ _ _ h => h) (Or.inr ⟨by rfl, rfl⟩) ?_ ?_
   rotate_left
   ·
    simp only [Act.put, List.setIfInBounds_toArray, List.set_cons_zero, List.set_cons_succ, i64_w, i32_w]; rfl
   refine pure_ (i := 37) (N := some 40) (v := undef) (a' := ?_) (bl_ 43 274877906943) rfl rfl (any_of HT_.out (by kernel_rfl)) (fun _ _ _ h => h) (Or.inr ⟨by rfl, rfl⟩) ?_ ?_
   rotate_left
   ·
    simp only [Act.put, List.setIfInBounds_toArray, List.set_cons_zero, List.set_cons_succ, i64_w, i32_w]; rfl
   refine pure_ (i := 38) (N := some 41) (v := undef) (a' := ?_) (bl_ 43 549755813887) rfl rfl (any_of HT_.out (by kernel_rfl)) (fun _ _ _ h => h) (Or.inr ⟨by rfl, rfl⟩) ?_ ?_
   rotate_left
   ·
    simp only [Act.put, List.setIfInBounds_toArray, List.set_cons_zero, List.set_cons_succ, i64_w, i32_w]; rfl
   refine pure_ (i := 39) (N := some 42) (v := undef) (a' := ?_) (bl_ 43 1099511627775) rfl rfl (any_of HT_.out (by kernel_rfl)) (fun _ _ _ h => h) (Or.inr ⟨by rfl, rfl⟩) ?_ ?_
   rotate_left
   ·
    simp only [Act.put, List.setIfInBounds_toArray, List.set_cons_zero, List.set_cons_succ, i64_w, i32_w]; rfl
   refine pure_ (i := 40) (N := some 43) (v := undef) (a' := ?_) (bl_ 43 2199023255551) rfl rfl (any_of HT_.out (by kernel_rfl)) (fun _ _ _ h => h) (Or.inr ⟨by rfl, rfl⟩) ?_ ?_
   rotate_left
   ·
    simp only [Act.put, List.setIfInBounds_toArray, List.set_cons_zero, List.set_cons_succ, i64_w, i32_w]; rfl
   refine pl_ 41 (some 44) 43 4398046511103 HT_.out ?_; refine pl_ 42 (some 2) 43 8796093022207 HT_.out ?_; refine done_ (done_of HT_.out (by kernel_rfl)) ?_
   try go_wp2
   go_ret
   exact ⟨by first | rfl | (simp [errW_none, errW_some] <;> rfl) | (simp [*, errW_none, errW_some] <;> rfl), be_ HB.out⟩
 ·
  replace c3 := Bool.eq_false_iff.mpr c3; subst c3; have H1 : (some false) = some r := by rw [if_neg (show ¬ (false = true) by decide)] at H; exact H
  clear H; have H := H1; clear H1; obtain rfl := Option.some.inj H
  go_enter Tryd.func31, Tryd.ntmps31
  try go_wp2_with (first | ((with_reducible refine gate_dst (N := 1) rfl ?_); (try (refine gate_guard (by rfl) ?_; dsimp only)); refine bx_ 1 #[.int .i64 a0_0, .int .i64 a0_1, .int .i64 a0_2, .slice A0_3 l0_3.length c0_3, .int .i64 a0_4, .int .i64 a0_5, .int .i64 a0_6, .int .i64 a0_7, .slice A0_8 l0_8.length c0_8, .int .i64 a0_9] 56 ?_; intro gb393 hg w38 hbox hb; have BK393 := Aside0.mk (hbox); have GW393 := gs_ hg HB; have GE393 := gs_ hg HB; replace HB := hb_ HB hb; clear hb hbox hg))
  replace BK393 := Aside0.mk (blk_drew BK393.out); replace HB := Aside0.mk (below_drew1 HB.out); refine start_ (n := 43) (S := fun w' => w'.cell? ⟨gb393, 0, none⟩ = some (.int .i64 a0_0) ∧ w'.cell? ⟨gb393, 1, none⟩ = some (.int .i64 a0_1) ∧ w'.cell? ⟨gb393, 2, none⟩ = some (.int .i64 a0_2) ∧ w'.cell? ⟨gb393, 3, none⟩ = some (.slice A0_3 l0_3.length c0_3) ∧ w'.cell? ⟨gb393, 4, none⟩ = some (.int .i64 a0_4) ∧ w'.cell? ⟨gb393, 5, none⟩ = some (.int .i64 a0_5) ∧ w'.cell? ⟨gb393, 6, none⟩ = some (.int .i64 a0_6) ∧ w'.cell? ⟨gb393, 7, none⟩ = some (.int .i64 a0_7) ∧ w'.cell? ⟨gb393, 8, none⟩ = some (.slice A0_8 l0_8.length c0_8) ∧ w'.cell? ⟨gb393, 9, none⟩ = some (.int .i64 a0_9)) (ds := []) #[false, false, false, false, false, false, false, false, false, false, false, false, false, false, false, false, false, false, false, false, false, false, false, false, false, false, false, false, false, false, false, false, false, false, false, false, false, false, false, false, false, false, false] (by kernel_rfl) rfl rfl (cel10_ (bu_ BK393.out)) (fun hHeld => ?_); refine with_tabW impl_JobOk.tab1 impl_JobOk.bits1 (fun HT_ HW_ => ?_); generalize w38.drew = w39 at BK393 HB hHeld ⊢; refine pl_ 0 (some 3) 43 1 HT_.out ?_; refine tk_ 1 (some 4) 43 3 HT_.out HW_.out hHeld (hy := by rintro w' ⟨s0, s1, s2, s3, s4, s5, s6, s7, s8, s9⟩; go_simp; with_reducible rfl) (h := ?_); refine one_ (i := 2) (N := some 5) (bl_ 43 7) rfl rfl (one_of HT_.out (by kernel_rfl)) (by decide) (fun K hK => ?_); refine goes_ Tryd.func48 (by kernel_rfl) rfl #[.agg #[.int .i64 a0_0, .int .i64 a0_1, .int .i64 a0_2, .slice A0_3 l0_3.length c0_3]] (by rfl) rfl rfl ar_ ?_
  (with_reducible refine (impl_ModelOk.calls k a0_0 a0_1 a0_2 _ _ l0_3 false _ ?side1 ?side2 A2.out).mono ?_)
  (case side1 => exact cu_ HR0_3.out HB.out); (case side2 => exact HC0_3.out); rintro e w40 ⟨rfl, hb⟩; refine ⟨_, rfl, ?_⟩; replace BK393 := bb_ BK393 hb; replace HB := hb_ HB hb; (try clear hb); (try clear hb2); (try clear hk); (try clear hi); refine hK.out _ _ (cel10_ (bu_ BK393.out)) (fun hHeld => ?_); clear hK K; refine nm_ 5 (h := ?_); refine pl_ 3 (some 6) 43 15 HT_.out ?_; refine pure_ (i := 4) (N := some 7) (v := undef) (a' := ?_) (bl_ 43 31) rfl rfl (any_of HT_.out (by kernel_rfl)) (fun _ _ _ h => h) (Or.inr ⟨by rfl, rfl⟩) ?_ ?_
  rotate_left
  ·
   simp only [Act.put, List.setIfInBounds_toArray, List.set_cons_zero, List.set_cons_succ, i64_w, i32_w]; rfl
  refine pure_ (i := 5) (N := some 8) (v := undef) (a' := ?_) (bl_ 43 63) rfl rfl (any_of HT_.out (by kernel_rfl)) (fun _ _ _ h => h) (Or.inr ⟨by rfl, rfl⟩) ?_ ?_
  rotate_left
  ·
   simp only [Act.put, List.setIfInBounds_toArray, List.set_cons_zero, List.set_cons_succ, i64_w, i32_w]; rfl
  refine pure_ (i := 6) (N := some 9) (v := undef) (a' := ?_) (bl_ 43 127) rfl rfl (any_of HT_.out (by kernel_rfl)) (fun _ _ _ h => h) (Or.inr ⟨by rfl, rfl⟩) ?_ ?_
  rotate_left
  ·
   simp only [Act.put, List.setIfInBounds_toArray, List.set_cons_zero, List.set_cons_succ, i64_w, i32_w]; rfl
  refine pure_ (i := 7) (N := some 10) (v := undef) (a' := ?_) (bl_ 43 255) rfl rfl (any_of HT_.out (by kernel_rfl)) (fun _ _ _ h => h) (Or.inr ⟨by rfl, rfl⟩) ?_ ?_
  rotate_left
  ·
   simp only [Act.put, List.setIfInBounds_toArray, List.set_cons_zero, List.set_cons_succ, i64_w, i32_w]; rfl
  refine pure_ (i := 8) (N := some 11) (v := undef) (a' := ?_) (bl_ 43 511) rfl rfl (any_of HT_.out (by kernel_rfl)) (fun _ _ _ h => h) (Or.inr ⟨by rfl, rfl⟩) ?_ ?_
  rotate_left
  ·
   simp only [Act.put, List.setIfInBounds_toArray, List.set_cons_zero, List.set_cons_succ, i64_w, i32_w]; rfl
  refine pure_ (i := 9) (N := some 12) (v := undef) (a' := ?_) (bl_ 43 1023) rfl rfl (any_of HT_.out (by kernel_rfl)) (fun _ _ _ h => h) (Or.inr ⟨by rfl, rfl⟩) ?_ ?_
  rotate_left
  ·
   simp only [Act.put, List.setIfInBounds_toArray, List.set_cons_zero, List.set_cons_succ, i64_w, i32_w]; rfl
  refine pure_ (i := 10) (N := some 13) (v := undef) (a' := ?_) (bl_ 43 2047) rfl rfl (any_of HT_.out (by kernel_rfl)) (fun _ _ _ h => h) (Or.inr ⟨by rfl, rfl⟩) ?_ ?_
  rotate_left
  ·
   simp only [Act.put, List.setIfInBounds_toArray, List.set_cons_zero, List.set_cons_succ, i64_w, i32_w]; rfl
  refine pl_ 11 (some 14) 43 4095 HT_.out ?_; refine pl_ 12 (some 15) 43 8191 HT_.out ?_; refine pure_ (i := 13) (N := some 16) (v := undef) (a' := ?_) (bl_ 43 16383) rfl rfl (any_of HT_.out (by kernel_rfl)) (fun _ _ _ h => h) (Or.inr ⟨by rfl, rfl⟩) ?_ ?_
  rotate_left
  ·
   simp only [Act.put, List.setIfInBounds_toArray, List.set_cons_zero, List.set_cons_succ, i64_w, i32_w]; rfl
  refine pure_ (i := 14) (N := some 17) (v := undef) (a' := ?_) (bl_ 43 32767) rfl rfl (any_of HT_.out (by kernel_rfl)) (fun _ _ _ h => h) (Or.inr ⟨by rfl, rfl⟩) ?_ ?_
  rotate_left
  ·
   simp only [Act.put, List.setIfInBounds_toArray, List.set_cons_zero, List.set_cons_succ, i64_w, i32_w]; rfl
  refine pure_ (i := 15) (N := some 18) (v := undef) (a' := ?_) (bl_ 43 65535) rfl rfl (any_of HT_.out (by kernel_rfl)) (fun _ _ _ h => h) (Or.inr ⟨by rfl, rfl⟩) ?_ ?_
  rotate_left
  ·
   simp only [Act.put, List.setIfInBounds_toArray, List.set_cons_zero, List.set_cons_succ, i64_w, i32_w]; rfl
  refine pl_ 16 (some 19) 43 131071 HT_.out ?_; refine pl_ 17 (some 20) 43 262143 HT_.out ?_; refine pure_ (i := 18) (N := some 21) (v := undef) (a' := ?_) (bl_ 43 524287) rfl rfl (any_of HT_.out (by kernel_rfl)) (fun _ _ _ h => h) (Or.inr ⟨by rfl, rfl⟩) ?_ ?_
  rotate_left
  ·
   simp only [Act.put, List.setIfInBounds_toArray, List.set_cons_zero, List.set_cons_succ, i64_w, i32_w]; rfl
  refine pure_ (i := 19) (N := some 22) (v := undef) (a' := ?_) (bl_ 43 1048575) rfl rfl (any_of HT_.out (by kernel_rfl)) (fun _ _ _ h => h) (Or.inr ⟨by rfl, rfl⟩) ?_ ?_
  rotate_left
  ·
   simp only [Act.put, List.setIfInBounds_toArray, List.set_cons_zero, List.set_cons_succ, i64_w, i32_w]; rfl
  refine pure_ (i := 20) (N := some 23) (v := undef) (a' := ?_) (bl_ 43 2097151) rfl rfl (any_of HT_.out (by kernel_rfl)) (fun _ _ _ h => h) (Or.inr ⟨by rfl, rfl⟩) ?_ ?_
  rotate_left
  ·
   simp only [Act.put, List.setIfInBounds_toArray, List.set_cons_zero, List.set_cons_succ, i64_w, i32_w]; rfl
  refine pure_ (i := 21) (N := some 24) (v := undef) (a' := ?_) (bl_ 43 4194303) rfl rfl (any_of HT_.out (by kernel_rfl)) (fun _ _ _ h => h) (Or.inr ⟨by rfl, rfl⟩) ?_ ?_
  rotate_left
  ·
   simp only [Act.put, List.setIfInBounds_toArray, List.set_cons_zero, List.set_cons_succ, i64_w, i32_w]; rfl
  refine pure_ (i := 22) (N := some 25) (v := undef) (a' := ?_) (bl_ 43 8388607) rfl rfl (any_of HT_.out (by kernel_rfl)) (fun _ _ _ h => h) (Or.inr ⟨by rfl, rfl⟩) ?_ ?_
  rotate_left
  ·
   simp only [Act.put, List.setIfInBounds_toArray, List.set_cons_zero, List.set_cons_succ, i64_w, i32_w]; rfl
  refine pure_ (i := 23) (N := some 26) (v := undef) (a' := ?_) (bl_ 43 16777215) rfl rfl (any_of HT_.out (by kernel_rfl)) (fun _ _ _ h => h) (Or.inr ⟨by rfl, rfl⟩) ?_ ?_
  rotate_left
  ·
   simp only [Act.put, List.setIfInBounds_toArray, List.set_cons_zero, List.set_cons_succ, i64_w, i32_w]; rfl
  refine pure_ (i := 24) (N := some 27) (v := undef) (a' := ?_) (bl_ 43 33554431) rfl rfl (any_of HT_.out (by kernel_rfl)) (fun _ _ _ h => h) (Or.inr ⟨by rfl, rfl⟩) ?_ ?_
  rotate_left
  ·
   simp only [Act.put, List.setIfInBounds_toArray, List.set_cons_zero, List.set_cons_succ, i64_w, i32_w]; rfl
  refine pure_ (i := 25) (N := some 28) (v := undef) (a' := ?_) (bl_ 43 67108863) rfl rfl (any_of HT_.out (by kernel_rfl)) (fun _ _ _ h => h) (Or.inr ⟨by rfl, rfl⟩) ?_ ?_
  rotate_left
  ·
   simp only [Act.put, List.setIfInBounds_toArray, List.set_cons_zero, List.set_cons_succ, i64_w, i32_w]; rfl
  refine pure_ (i := 26) (N := some 29) (v := undef) (a' := ?_) (bl_ 43 134217727) rfl rfl (any_of HT_.out (by kernel_rfl)) (fun _ _ _ h => h) (Or.inr ⟨by rfl, rfl⟩) ?_ ?_
  rotate_left
  ·
   simp only [Act.put, List.setIfInBounds_toArray, List.set_cons_zero, List.set_cons_succ, i64_w, i32_w]; rfl
  refine pure_ (i := 27) (N := some 30) (v := undef) (a' := ?_) (bl_ 43 268435455) rfl rfl (any_of HT_.out (by kernel_rfl)) (fun _ _ _ h => h) (Or.inr ⟨by rfl, rfl⟩) ?_ ?_
  rotate_left
  ·
   simp only [Act.put, List.setIfInBounds_toArray, List.set_cons_zero, List.set_cons_succ, i64_w, i32_w]; rfl
  refine pure_ (i := 28) (N := some 31) (v := undef) (a' := ?_) (bl_ 43 536870911) rfl rfl (any_of HT_.out (by kernel_rfl)) (fun _ _ _ h => h) (Or.inr ⟨by rfl, rfl⟩) ?_ ?_
  rotate_left
  ·
   simp only [Act.put, List.setIfInBounds_toArray, List.set_cons_zero, List.set_cons_succ, i64_w, i32_w]; rfl
  refine pl_ 29 (some 32) 43 1073741823 HT_.out ?_; refine pl_ 30 (some 33) 43 2147483647 HT_.out ?_; refine pure_ (i := 31) (N := some 34) (v := undef) (a' := ?_) (bl_ 43 4294967295) rfl rfl (any_of HT_.out (by kernel_rfl)) (fun _ _ _ h => h) (Or.inr ⟨by rfl, rfl⟩) ?_ ?_
  rotate_left
  ·
   simp only [Act.put, List.setIfInBounds_toArray, List.set_cons_zero, List.set_cons_succ, i64_w, i32_w]; rfl
  refine pure_ (i := 32) (N := some 35) (v := undef) (a' := ?_) (bl_ 43 8589934591) rfl rfl (any_of HT_.out (by kernel_rfl)) (fun _ _ _ h => h) (Or.inr ⟨by rfl, rfl⟩) ?_ ?_
  rotate_left
  ·
   simp only [Act.put, List.setIfInBounds_toArray, List.set_cons_zero, List.set_cons_succ, i64_w, i32_w]; rfl
  refine pure_ (i := 33) (N := some 36) (v := undef) (a' := ?_) (bl_ 43 17179869183) rfl rfl (any_of HT_.out (by kernel_rfl)) (fun _ _ _ h => h) (Or.inr ⟨by rfl, rfl⟩) ?_ ?_
  rotate_left
  ·
   simp only [Act.put, List.setIfInBounds_toArray, List.set_cons_zero, List.set_cons_succ, i64_w, i32_w]; rfl
  refine pure_ (i := 34) (N := some 37) (v := undef) (a' := ?_) (bl_ 43 34359738367) rfl rfl (any_of HT_.out (by kernel_rfl)) (fun _ _ _ h => h) (Or.inr ⟨by rfl, rfl⟩) ?_ ?_
  rotate_left
  ·
   simp only [Act.put, List.setIfInBounds_toArray, List.set_cons_zero, List.set_cons_succ, i64_w, i32_w]; rfl
  refine pure_ (i := 35) (N := some 38) (v := undef) (a' := ?_) (bl_ 43 68719476735) rfl rfl (any_of HT_.out (by kernel_rfl)) (fun _ _ _ h => h) (Or.inr ⟨by rfl, rfl⟩) ?_ ?_
  rotate_left
  ·
   simp only [Act.put, List.setIfInBounds_toArray, List.set_cons_zero, List.set_cons_succ, i64_w, i32_w]; rfl
  refine pure_ (i := 36) (N := some 39) (v := undef) (a' := ?_) (bl_ 43 137438953471) rfl rfl (any_of HT_.out (by kernel_rfl)) (fun _ _ _ h => h) (Or.inr ⟨by rfl, rfl⟩) ?_ ?_
  rotate_left
  ·
   simp only [Act.put, List.setIfInBounds_toArray, List.set_cons_zero, List.set_cons_succ, i64_w, i32_w]; rfl
  refine pure_ (i := 37) (N := some 40) (v := undef) (a' := ?_) (bl_ 43 274877906943) rfl rfl (any_of HT_.out (by kernel_rfl)) (fun _ _ _ h => h) (Or.inr ⟨by rfl, rfl⟩) ?_ ?_
  rotate_left
  ·
   simp only [Act.put, List.setIfInBounds_toArray, List.set_cons_zero, List.set_cons_succ, i64_w, i32_w]; rfl
  refine pure_ (i := 38) (N := some 41) (v := undef) (a' := ?_) (bl_ 43 549755813887) rfl rfl (any_of HT_.out (by kernel_rfl)) (fun _ _ _ h => h) (Or.inr ⟨by rfl, rfl⟩) ?_ ?_
  rotate_left
  ·
   simp only [Act.put, List.setIfInBounds_toArray, List.set_cons_zero, List.set_cons_succ, i64_w, i32_w]; rfl
  refine pure_ (i := 39) (N := some 42) (v := undef) (a' := ?_) (bl_ 43 1099511627775) rfl rfl (any_of HT_.out (by kernel_rfl)) (fun _ _ _ h => h) (Or.inr ⟨by rfl, rfl⟩) ?_ ?_
  rotate_left
  ·
   simp only [Act.put, List.setIfInBounds_toArray, List.set_cons_zero, List.set_cons_succ, i64_w, i32_w]; rfl
  refine pure_ (i := 40) (N := some 43) (v := undef) (a' := ?_) (bl_ 43 2199023255551) rfl rfl (any_of HT_.out (by kernel_rfl)) (fun _ _ _ h => h) (Or.inr ⟨by rfl, rfl⟩) ?_ ?_
  rotate_left
  ·
   simp only [Act.put, List.setIfInBounds_toArray, List.set_cons_zero, List.set_cons_succ, i64_w, i32_w]; rfl
  refine pl_ 41 (some 44) 43 4398046511103 HT_.out ?_; refine pl_ 42 (some 2) 43 8796093022207 HT_.out ?_; refine done_ (done_of HT_.out (by kernel_rfl)) ?_
  try go_wp2
  go_ret
  exact ⟨by first | rfl | (simp [errW_none, errW_some] <;> rfl) | (simp [*, errW_none, errW_some] <;> rfl), be_ HB.out⟩

def impl_JobText.f (k : Nat) (a0_0 : Int) (a0_1 : Int) (a0_2 : Int) (l0_3 : List (S106)) (a0_4 : Int) (a0_5 : Int) (a0_6 : Int) (a0_7 : Int) (l0_8 : List Int) (a0_9 : Int) : Option (ByteArray) := (impl_JobOk.f k a0_0 a0_1 a0_2 l0_3 a0_4 a0_5 a0_6 a0_7 l0_8 a0_9).bind fun t410 => (if t410 = true then ((strconv_Itoa.f a0_4).bind fun t411 => (if t411.size + 1 ≤ 9223372036854775807 then ((strconv_Itoa.f (l0_3.length : Int)).bind fun t412 => (if (t411 ++ (⟨#[47]⟩ : ByteArray)).size + t412.size ≤ 9223372036854775807 then (if ((t411 ++ (⟨#[47]⟩ : ByteArray)) ++ t412).size + 1 ≤ 9223372036854775807 then ((strconv_Itoa.f a0_9).bind fun t413 => (if (((t411 ++ (⟨#[47]⟩ : ByteArray)) ++ t412) ++ (⟨#[32]⟩ : ByteArray)).size + t413.size ≤ 9223372036854775807 then (some ((((t411 ++ (⟨#[47]⟩ : ByteArray)) ++ t412) ++ (⟨#[32]⟩ : ByteArray)) ++ t413)) else (none))) else (none)) else (none))) else (none))) else (some (⟨#[]⟩ : ByteArray)))
theorem impl_JobText.mono : ∀ a0 a1 a2 a3 a4 a5 a6 a7 a8 a9 k, LeO (impl_JobText.f k a0 a1 a2 a3 a4 a5 a6 a7 a8 a9) (impl_JobText.f (k + 1) a0 a1 a2 a3 a4 a5 a6 a7 a8 a9) := by
 intro a0 a1 a2 a3 a4 a5 a6 a7 a8 a9 k
 unfold impl_JobText.f
 repeat' first
   | (with_reducible exact impl_JobOk.mono _ _ _ _ _ _ _ _ _ _ _)
   | (with_reducible exact LeO.refl _)
   | (with_reducible exact LeO.none _)
   | (with_reducible refine LeO.ite ?_ ?_)
   | (with_reducible refine LeO.bind ?_ (fun _ => ?_))
   | exact impl_JobOk.mono _ _ _ _ _ _ _ _ _ _ _
   | exact LeO.none _
   | refine LeO.ite ?_ ?_
   | refine LeO.bind ?_ (fun _ => ?_)
def impl_JobText.T3 : Bool × List (List Nat × List Nat) := (true, [([], []), ([0], [0]), ([1], [1]), ([2], [2]), ([], []), ([4], [4]), ([5], [5]), ([6], [6]), ([7, 2], [7]), ([3, 8], [3, 8]), ([9], [9]), ([], []), ([11], [11]), ([12, 8], [12]), ([10, 13], [10, 13]), ([14, 13, 0, 1, 2, 3, 4, 5, 6, 7, 8, 9, 10, 11, 12, 13, 14], [14])])
def impl_JobText.B3 : List Nat := [0, 1, 3, 7, 0, 16, 48, 112, 247, 511, 1023, 0, 2048, 6647, 16383, 32767]
theorem impl_JobText.tab3 : rtab .any (opsOf Tryd.f19 3) = impl_JobText.T3 := by kernel_rfl
theorem impl_JobText.bits3 : waitsOk impl_JobText.T3.2 impl_JobText.B3 = true := by kernel_rfl
set_option maxHeartbeats 8000000 in
set_option maxRecDepth 100000 in
theorem impl_JobText.calls (k : Nat) (a0_0 : Int) (a0_1 : Int) (a0_2 : Int) (A0_3 : Option Addr) (c0_3 : Nat) (l0_3 : List (S106)) (a0_4 : Int) (a0_5 : Int) (a0_6 : Int) (a0_7 : Int) (A0_8 : Option Addr) (c0_8 : Nat) (l0_8 : List Int) (a0_9 : Int) (r : ByteArray) (w : World) (hr0_3 : Kd.C k106 w A0_3 l0_3.length l0_3) (hc0_3 : l0_3.length ≤ c0_3) (hr0_8 : Kd.C (Kd.int .i64) w A0_8 l0_8.length l0_8) (hc0_8 : l0_8.length ≤ c0_8) (h : impl_JobText.f k a0_0 a0_1 a0_2 l0_3 a0_4 a0_5 a0_6 a0_7 l0_8 a0_9 = some r) (tb_ : Tab w := by exact Tab.on HTab_.out (by repeat (first | exact HB.out | apply below_alloc | apply pw_below_drewN | apply below_drew1 | (refine below_cell_ ?_ (by apply Aside0.out; with_reducible assumption))))) :
  Calls Tryd.prog 19 #[.agg #[.int .i64 a0_0, .int .i64 a0_1, .int .i64 a0_2, .slice A0_3 l0_3.length c0_3, .int .i64 a0_4, .int .i64 a0_5, .int .i64 a0_6, .int .i64 a0_7, .slice A0_8 l0_8.length c0_8, .int .i64 a0_9]] w fun e w' => e = .returned (.string r) ∧ Below w.heap.size w w' := by
 have HTab_ := Aside0.mk tb_; clear tb_; have hu56 := Tryd.underlying56; have HR0_3 := Aside0.mk hr0_3; have HC0_3 := Aside0.mk hc0_3; clear hr0_3 hc0_3; have HR0_8 := Aside0.mk hr0_8; have HC0_8 := Aside0.mk hc0_8; clear hr0_8 hc0_8; have HB := Aside0.mk (Below.refl w.heap.size w); have H : ((impl_JobOk.f k a0_0 a0_1 a0_2 l0_3 a0_4 a0_5 a0_6 a0_7 l0_8 a0_9).bind fun t410 => (if t410 = true then ((strconv_Itoa.f a0_4).bind fun t411 => (if t411.size + 1 ≤ 9223372036854775807 then ((strconv_Itoa.f (l0_3.length : Int)).bind fun t412 => (if (t411 ++ (⟨#[47]⟩ : ByteArray)).size + t412.size ≤ 9223372036854775807 then (if ((t411 ++ (⟨#[47]⟩ : ByteArray)) ++ t412).size + 1 ≤ 9223372036854775807 then ((strconv_Itoa.f a0_9).bind fun t413 => (if (((t411 ++ (⟨#[47]⟩ : ByteArray)) ++ t412) ++ (⟨#[32]⟩ : ByteArray)).size + t413.size ≤ 9223372036854775807 then (some ((((t411 ++ (⟨#[47]⟩ : ByteArray)) ++ t412) ++ (⟨#[32]⟩ : ByteArray)) ++ t413)) else (none))) else (none)) else (none))) else (none))) else (some (⟨#[]⟩ : ByteArray)))) = some r := h; clear h; replace H := Option.bind_eq_some_iff.mp H; obtain ⟨t410, A20, H⟩ := H; (try dsimp only at H); have A2 := Aside0.mk A20; clear A20
 by_cases c3 : t410 = true
 ·
  subst c3; rw [if_pos rfl] at H; replace H := Option.bind_eq_some_iff.mp H; obtain ⟨t411, A40, H⟩ := H; (try dsimp only at H); have A4 := Aside0.mk A40; clear A40
  by_cases c5 : t411.size + 1 ≤ 9223372036854775807
  ·
   rw [if_pos c5] at H; have c5b0 := eq_true c5; have c5b1 : decide (t411.size + 1 ≤ 9223372036854775807) = true := decide_eq_true c5; (try have c5b2 : (9223372036854775807 < t411.size + 1) = False := eq_false (Nat.not_lt.2 c5)); replace H := Option.bind_eq_some_iff.mp H; obtain ⟨t412, A60, H⟩ := H; (try dsimp only at H); have A6 := Aside0.mk A60; clear A60
   by_cases c7 : (t411 ++ (⟨#[47]⟩ : ByteArray)).size + t412.size ≤ 9223372036854775807
   ·
    rw [if_pos c7] at H; have c7b0 := eq_true c7; have c7b1 : decide ((t411 ++ (⟨#[47]⟩ : ByteArray)).size + t412.size ≤ 9223372036854775807) = true := decide_eq_true c7; (try have c7b2 : (9223372036854775807 < (t411 ++ (⟨#[47]⟩ : ByteArray)).size + t412.size) = False := eq_false (Nat.not_lt.2 c7))
    try have c7b3 : (9223372036854775807 < t411.size + 1 + t412.size) = False := by have e_ : t411.size + 1 + t412.size = (t411 ++ (⟨#[47]⟩ : ByteArray)).size + t412.size := (by simp only [ByteArray.size_append] <;> rfl); rw [e_]; exact c7b2
    by_cases c8 : ((t411 ++ (⟨#[47]⟩ : ByteArray)) ++ t412).size + 1 ≤ 9223372036854775807
    ·
     rw [if_pos c8] at H; have c8b0 := eq_true c8; have c8b1 : decide (((t411 ++ (⟨#[47]⟩ : ByteArray)) ++ t412).size + 1 ≤ 9223372036854775807) = true := decide_eq_true c8; (try have c8b2 : (9223372036854775807 < ((t411 ++ (⟨#[47]⟩ : ByteArray)) ++ t412).size + 1) = False := eq_false (Nat.not_lt.2 c8))
     try have c8b3 : (9223372036854775807 < t411.size + 1 + t412.size + 1) = False := by have e_ : t411.size + 1 + t412.size + 1 = ((t411 ++ (⟨#[47]⟩ : ByteArray)) ++ t412).size + 1 := (by simp only [ByteArray.size_append] <;> rfl); rw [e_]; exact c8b2
     replace H := Option.bind_eq_some_iff.mp H; obtain ⟨t413, A90, H⟩ := H; (try dsimp only at H); have A9 := Aside0.mk A90; clear A90
     by_cases c10 : (((t411 ++ (⟨#[47]⟩ : ByteArray)) ++ t412) ++ (⟨#[32]⟩ : ByteArray)).size + t413.size ≤ 9223372036854775807
     ·
      rw [if_pos c10] at H; have c10b0 := eq_true c10; have c10b1 : decide ((((t411 ++ (⟨#[47]⟩ : ByteArray)) ++ t412) ++ (⟨#[32]⟩ : ByteArray)).size + t413.size ≤ 9223372036854775807) = true := decide_eq_true c10; (try have c10b2 : (9223372036854775807 < (((t411 ++ (⟨#[47]⟩ : ByteArray)) ++ t412) ++ (⟨#[32]⟩ : ByteArray)).size + t413.size) = False := eq_false (Nat.not_lt.2 c10))
      try have c10b3 : (9223372036854775807 < t411.size + 1 + t412.size + 1 + t413.size) = False := by have e_ : t411.size + 1 + t412.size + 1 + t413.size = (((t411 ++ (⟨#[47]⟩ : ByteArray)) ++ t412) ++ (⟨#[32]⟩ : ByteArray)).size + t413.size := (by simp only [ByteArray.size_append] <;> rfl); rw [e_]; exact c10b2
      obtain rfl := Option.some.inj H
      go_enter Tryd.func19, Tryd.ntmps19
      try go_wp2_with (first | ((with_reducible refine gate_dst (N := 1) rfl ?_); refine bx_ 1 #[.int .i64 a0_0, .int .i64 a0_1, .int .i64 a0_2, .slice A0_3 l0_3.length c0_3, .int .i64 a0_4, .int .i64 a0_5, .int .i64 a0_6, .int .i64 a0_7, .slice A0_8 l0_8.length c0_8, .int .i64 a0_9] 56 ?_; intro gb409 hg w11 hbox hb; have BK409 := Aside0.mk (hbox); have GW409 := gs_ hg HB; have GE409 := gs_ hg HB; replace HB := hb_ HB hb; clear hb hbox hg; obtain ⟨hcz12_0, hcz12_1, hcz12_2, hcz12_3, hcz12_4, hcz12_5, hcz12_6, hcz12_7, hcz12_8, hcz12_9, hfz12_0, hfz12_1, hfz12_2, hfz12_3, hfz12_4, hfz12_5, hfz12_6, hfz12_7, hfz12_8, hfz12_9⟩ := box10_ BK409.out) | ((with_reducible refine gate_callee (f := 31) rfl ?_); refine goesL_ (some 4) rfl rfl Tryd.func31 (by kernel_rfl) rfl #[.agg #[.int .i64 a0_0, .int .i64 a0_1, .int .i64 a0_2, .slice A0_3 l0_3.length c0_3, .int .i64 a0_4, .int .i64 a0_5, .int .i64 a0_6, .int .i64 a0_7, .slice A0_8 l0_8.length c0_8, .int .i64 a0_9]] rfl ar_ ?_; (with_reducible refine (impl_JobOk.calls k a0_0 a0_1 a0_2 _ _ l0_3 a0_4 a0_5 a0_6 a0_7 _ _ l0_8 a0_9 true _ ?side1 ?side2 ?side3 ?side4 A2.out).mono ?_); (case side1 => exact cu_ HR0_3.out HB.out); (case side2 => exact HC0_3.out); (case side3 => exact cu_ HR0_8.out HB.out); (case side4 => exact HC0_8.out); rintro e w13 ⟨rfl, hb⟩; refine ⟨_, rfl, ?_⟩; replace BK409 := bb_ BK409 hb; replace HB := hb_ HB hb; (try clear hb); (try clear hb2); (try clear hk); (try clear hi)))
      replace BK409 := Aside0.mk (blk_drew BK409.out); replace HB := Aside0.mk (below_drew1 HB.out); refine start_ (n := 16) (S := fun w' => w'.cell? ⟨gb409, 0, none⟩ = some (.int .i64 a0_0) ∧ w'.cell? ⟨gb409, 1, none⟩ = some (.int .i64 a0_1) ∧ w'.cell? ⟨gb409, 2, none⟩ = some (.int .i64 a0_2) ∧ w'.cell? ⟨gb409, 3, none⟩ = some (.slice A0_3 l0_3.length c0_3) ∧ w'.cell? ⟨gb409, 4, none⟩ = some (.int .i64 a0_4) ∧ w'.cell? ⟨gb409, 5, none⟩ = some (.int .i64 a0_5) ∧ w'.cell? ⟨gb409, 6, none⟩ = some (.int .i64 a0_6) ∧ w'.cell? ⟨gb409, 7, none⟩ = some (.int .i64 a0_7) ∧ w'.cell? ⟨gb409, 8, none⟩ = some (.slice A0_8 l0_8.length c0_8) ∧ w'.cell? ⟨gb409, 9, none⟩ = some (.int .i64 a0_9)) (ds := []) #[false, false, false, false, false, false, false, false, false, false, false, false, false, false, false, false] (by kernel_rfl) rfl rfl (cel10_ (bu_ BK409.out)) (fun hHeld => ?_); refine with_tabW impl_JobText.tab3 impl_JobText.bits3 (fun HT_ HW_ => ?_); generalize w13.drew = w14 at BK409 HB hHeld ⊢; refine pl_ 0 (some 6) 16 1 HT_.out ?_; refine pl_ 4 (some 10) 16 17 HT_.out ?_; refine pl_ 5 (some 11) 16 49 HT_.out ?_; refine pl_ 11 (some 17) 16 2097 HT_.out ?_; refine tk_ 1 (some 7) 16 2099 HT_.out HW_.out hHeld (hy := by rintro w' ⟨s0, s1, s2, s3, s4, s5, s6, s7, s8, s9⟩; go_simp; with_reducible rfl) (h := ?_); refine tk_ 6 (some 12) 16 2163 HT_.out HW_.out hHeld (hy := by rintro w' ⟨s0, s1, s2, s3, s4, s5, s6, s7, s8, s9⟩; go_simp; with_reducible rfl) (h := ?_); refine pl_ 7 (some 13) 16 2291 HT_.out ?_; refine tk_ 12 (some 18) 16 6387 HT_.out HW_.out hHeld (hy := by rintro w' ⟨s0, s1, s2, s3, s4, s5, s6, s7, s8, s9⟩; go_simp; with_reducible rfl) (h := ?_); refine one_ (i := 2) (N := some 8) (bl_ 16 6391) rfl rfl (one_of HT_.out (by kernel_rfl)) (by decide) (fun K hK => ?_); refine goes_ Tryd.func25 (by kernel_rfl) rfl #[.int .i64 a0_4] (by rfl) rfl rfl ar_ ?_
      (with_reducible refine (strconv_Itoa.calls a0_4 t411 _ A4.out).mono ?_)
      rintro e w15 ⟨rfl, hb⟩; refine ⟨_, rfl, ?_⟩; replace BK409 := bb_ BK409 hb; replace HB := hb_ HB hb; (try clear hb); (try clear hb2); (try clear hk); (try clear hi); refine hK.out _ _ (cel10_ (bu_ BK409.out)) (fun hHeld => ?_); clear hK K; refine nm_ 8 (h := ?_); refine pl_ 3 (some 9) 16 6399 HT_.out ?_; refine one_ (i := 8) (N := some 14) (bl_ 16 6655) rfl rfl (one_of HT_.out (by kernel_rfl)) (by decide) (fun K hK => ?_); refine goes_ Tryd.func25 (by kernel_rfl) rfl #[.int .i64 (l0_3.length : Int)] (by rfl) rfl rfl ar_ ?_
      (with_reducible refine (strconv_Itoa.calls (l0_3.length : Int) t412 _ A6.out).mono ?_)
      rintro e w16 ⟨rfl, hb⟩; refine ⟨_, rfl, ?_⟩; replace BK409 := bb_ BK409 hb; replace HB := hb_ HB hb; (try clear hb); (try clear hb2); (try clear hk); (try clear hi); refine hK.out _ _ (cel10_ (bu_ BK409.out)) (fun hHeld => ?_); clear hK K; refine nm_ 14 (h := ?_); refine pl_ 9 (some 15) 16 7167 HT_.out ?_; refine pl_ 10 (some 16) 16 8191 HT_.out ?_; refine one_ (i := 13) (N := some 19) (bl_ 16 16383) rfl rfl (one_of HT_.out (by kernel_rfl)) (by decide) (fun K hK => ?_); refine goes_ Tryd.func25 (by kernel_rfl) rfl #[.int .i64 a0_9] (by rfl) rfl rfl ar_ ?_
      (with_reducible refine (strconv_Itoa.calls a0_9 t413 _ A9.out).mono ?_)
      rintro e w17 ⟨rfl, hb⟩; refine ⟨_, rfl, ?_⟩; replace BK409 := bb_ BK409 hb; replace HB := hb_ HB hb; (try clear hb); (try clear hb2); (try clear hk); (try clear hi); refine hK.out _ _ (cel10_ (bu_ BK409.out)) (fun hHeld => ?_); clear hK K; refine nm_ 19 (h := ?_); refine pl_ 14 (some 20) 16 32767 HT_.out ?_; refine pl_ 15 (some 2) 16 65535 HT_.out ?_; refine done_ (done_of HT_.out (by kernel_rfl)) ?_
      try go_wp2
      go_ret
      exact ⟨by first | rfl | (simp [errW_none, errW_some] <;> rfl) | (simp [*, errW_none, errW_some] <;> rfl), be_ HB.out⟩
     ·
      rw [if_neg c10] at H; exact absurd H (by simp)
    ·
     rw [if_neg c8] at H; exact absurd H (by simp)
   ·
    rw [if_neg c7] at H; exact absurd H (by simp)
  ·
   rw [if_neg c5] at H; exact absurd H (by simp)
 ·
  replace c3 := Bool.eq_false_iff.mpr c3; subst c3; have H1 : (some (⟨#[]⟩ : ByteArray)) = some r := by rw [if_neg (show ¬ (false = true) by decide)] at H; exact H
  clear H; have H := H1; clear H1; obtain rfl := Option.some.inj H
  go_enter Tryd.func19, Tryd.ntmps19
  go_wp2_with (first | ((with_reducible refine gate_dst (N := 1) rfl ?_); refine bx_ 1 #[.int .i64 a0_0, .int .i64 a0_1, .int .i64 a0_2, .slice A0_3 l0_3.length c0_3, .int .i64 a0_4, .int .i64 a0_5, .int .i64 a0_6, .int .i64 a0_7, .slice A0_8 l0_8.length c0_8, .int .i64 a0_9] 56 ?_; intro gb409 hg w18 hbox hb; have BK409 := Aside0.mk (hbox); have GW409 := gs_ hg HB; have GE409 := gs_ hg HB; replace HB := hb_ HB hb; clear hb hbox hg; obtain ⟨hcz19_0, hcz19_1, hcz19_2, hcz19_3, hcz19_4, hcz19_5, hcz19_6, hcz19_7, hcz19_8, hcz19_9, hfz19_0, hfz19_1, hfz19_2, hfz19_3, hfz19_4, hfz19_5, hfz19_6, hfz19_7, hfz19_8, hfz19_9⟩ := box10_ BK409.out) | ((with_reducible refine gate_callee (f := 31) rfl ?_); refine goesL_ (some 4) rfl rfl Tryd.func31 (by kernel_rfl) rfl #[.agg #[.int .i64 a0_0, .int .i64 a0_1, .int .i64 a0_2, .slice A0_3 l0_3.length c0_3, .int .i64 a0_4, .int .i64 a0_5, .int .i64 a0_6, .int .i64 a0_7, .slice A0_8 l0_8.length c0_8, .int .i64 a0_9]] rfl ar_ ?_; (with_reducible refine (impl_JobOk.calls k a0_0 a0_1 a0_2 _ _ l0_3 a0_4 a0_5 a0_6 a0_7 _ _ l0_8 a0_9 false _ ?side1 ?side2 ?side3 ?side4 A2.out).mono ?_); (case side1 => exact cu_ HR0_3.out HB.out); (case side2 => exact HC0_3.out); (case side3 => exact cu_ HR0_8.out HB.out); (case side4 => exact HC0_8.out); rintro e w20 ⟨rfl, hb⟩; refine ⟨_, rfl, ?_⟩; replace BK409 := bb_ BK409 hb; replace HB := hb_ HB hb; (try clear hb); (try clear hb2); (try clear hk); (try clear hi)))
  go_ret
  exact ⟨by first | rfl | (simp [errW_none, errW_some] <;> rfl) | (simp [*, errW_none, errW_some] <;> rfl), be_ HB.out⟩

def laws_eqShape.f (a0_0 : Int) (a0_1 : Int) (a0_2 : Int) (a1_0 : Int) (a1_1 : Int) (a1_2 : Int) : Option (Bool) := if a0_0 = a1_0 then (if a0_1 = a1_1 then (if a0_2 = a1_2 then (some true) else (some false)) else (some false)) else (some false)
set_option maxHeartbeats 8000000 in
set_option maxRecDepth 100000 in
theorem laws_eqShape.calls (a0_0 : Int) (a0_1 : Int) (a0_2 : Int) (a1_0 : Int) (a1_1 : Int) (a1_2 : Int) (r : Bool) (w : World) (h : laws_eqShape.f a0_0 a0_1 a0_2 a1_0 a1_1 a1_2 = some r) :
  Calls Tryd.prog 41 #[.agg #[.int .i64 a0_0, .int .i64 a0_1, .int .i64 a0_2], .agg #[.int .i64 a1_0, .int .i64 a1_1, .int .i64 a1_2]] w fun e w' => e = .returned (.bool r) ∧ Below w.heap.size w w' := by
 have hu31 := Tryd.underlying31; have HB := Aside0.mk (Below.refl w.heap.size w); have H : (if a0_0 = a1_0 then (if a0_1 = a1_1 then (if a0_2 = a1_2 then (some true) else (some false)) else (some false)) else (some false)) = some r := h; clear h
 by_cases c3 : a0_0 = a1_0
 ·
  rw [if_pos c3] at H; have c3b0 : (a0_0 == a1_0) = true := beq_iff_eq.mpr c3; have c3b1 : (a0_0 != a1_0) = false := bne_eq_false_iff_eq.mpr c3; clear c3
  by_cases c4 : a0_1 = a1_1
  ·
   rw [if_pos c4] at H; have c4b0 : (a0_1 == a1_1) = true := beq_iff_eq.mpr c4; have c4b1 : (a0_1 != a1_1) = false := bne_eq_false_iff_eq.mpr c4; clear c4
   by_cases c5 : a0_2 = a1_2
   ·
    rw [if_pos c5] at H; have c5b0 : (a0_2 == a1_2) = true := beq_iff_eq.mpr c5; have c5b1 : (a0_2 != a1_2) = false := bne_eq_false_iff_eq.mpr c5; clear c5; obtain rfl := Option.some.inj H
    go_enter Tryd.func41, Tryd.ntmps41
    go_wp2_with (first | ((with_reducible refine gate_dst (N := 2) rfl ?_); refine bx_ 2 #[.int .i64 a0_0, .int .i64 a0_1, .int .i64 a0_2] 31 ?_; intro gb414 hg w6 hbox hb; have BK414 := Aside0.mk (hbox); have GW414 := gs_ hg HB; have GE414 := gs_ hg HB; replace HB := hb_ HB hb; clear hb hbox hg) | ((with_reducible refine gate_dst (N := 3) rfl ?_); refine bx_ 3 #[.int .i64 a1_0, .int .i64 a1_1, .int .i64 a1_2] 31 ?_; intro gb415 hg w7 hbox hb; have BK415 := Aside0.mk (hbox); have GW415 := gs_ hg HB; have GE415 := gs_ hg HB; replace HB := hb_ HB hb; have NB414_415 := nx_ hg BK414; have NB415_414 := ny_ hg BK414; replace BK414 := bb_ BK414 hb; clear hb hbox hg; have hnb8 := NB414_415.out; have hnc8 := NB415_414.out; obtain ⟨hcz9_0, hcz9_1, hcz9_2, hfz9_0, hfz9_1, hfz9_2⟩ := box3_ BK414.out; obtain ⟨hcz10_0, hcz10_1, hcz10_2, hfz10_0, hfz10_1, hfz10_2⟩ := box3_ BK415.out))
    go_ret
    exact ⟨by first | rfl | (simp [errW_none, errW_some] <;> rfl) | (simp [*, errW_none, errW_some] <;> rfl), be_ HB.out⟩
   ·
    rw [if_neg c5] at H; have c5b0 : (a0_2 == a1_2) = false := beq_eq_false_iff_ne.mpr c5; have c5b1 : (a0_2 != a1_2) = true := bne_iff_ne.mpr c5; obtain rfl := Option.some.inj H
    go_enter Tryd.func41, Tryd.ntmps41
    go_wp2_with (first | ((with_reducible refine gate_dst (N := 2) rfl ?_); refine bx_ 2 #[.int .i64 a0_0, .int .i64 a0_1, .int .i64 a0_2] 31 ?_; intro gb414 hg w11 hbox hb; have BK414 := Aside0.mk (hbox); have GW414 := gs_ hg HB; have GE414 := gs_ hg HB; replace HB := hb_ HB hb; clear hb hbox hg) | ((with_reducible refine gate_dst (N := 3) rfl ?_); refine bx_ 3 #[.int .i64 a1_0, .int .i64 a1_1, .int .i64 a1_2] 31 ?_; intro gb415 hg w12 hbox hb; have BK415 := Aside0.mk (hbox); have GW415 := gs_ hg HB; have GE415 := gs_ hg HB; replace HB := hb_ HB hb; have NB414_415 := nx_ hg BK414; have NB415_414 := ny_ hg BK414; replace BK414 := bb_ BK414 hb; clear hb hbox hg; have hnb13 := NB414_415.out; have hnc13 := NB415_414.out; obtain ⟨hcz14_0, hcz14_1, hcz14_2, hfz14_0, hfz14_1, hfz14_2⟩ := box3_ BK414.out; obtain ⟨hcz15_0, hcz15_1, hcz15_2, hfz15_0, hfz15_1, hfz15_2⟩ := box3_ BK415.out))
    go_ret
    exact ⟨by first | rfl | (simp [errW_none, errW_some] <;> rfl) | (simp [*, errW_none, errW_some] <;> rfl), be_ HB.out⟩
  ·
   rw [if_neg c4] at H; have c4b0 : (a0_1 == a1_1) = false := beq_eq_false_iff_ne.mpr c4; have c4b1 : (a0_1 != a1_1) = true := bne_iff_ne.mpr c4; obtain rfl := Option.some.inj H
   go_enter Tryd.func41, Tryd.ntmps41
   go_wp2_with (first | ((with_reducible refine gate_dst (N := 2) rfl ?_); refine bx_ 2 #[.int .i64 a0_0, .int .i64 a0_1, .int .i64 a0_2] 31 ?_; intro gb414 hg w16 hbox hb; have BK414 := Aside0.mk (hbox); have GW414 := gs_ hg HB; have GE414 := gs_ hg HB; replace HB := hb_ HB hb; clear hb hbox hg) | ((with_reducible refine gate_dst (N := 3) rfl ?_); refine bx_ 3 #[.int .i64 a1_0, .int .i64 a1_1, .int .i64 a1_2] 31 ?_; intro gb415 hg w17 hbox hb; have BK415 := Aside0.mk (hbox); have GW415 := gs_ hg HB; have GE415 := gs_ hg HB; replace HB := hb_ HB hb; have NB414_415 := nx_ hg BK414; have NB415_414 := ny_ hg BK414; replace BK414 := bb_ BK414 hb; clear hb hbox hg; have hnb18 := NB414_415.out; have hnc18 := NB415_414.out; obtain ⟨hcz19_0, hcz19_1, hcz19_2, hfz19_0, hfz19_1, hfz19_2⟩ := box3_ BK414.out; obtain ⟨hcz20_0, hcz20_1, hcz20_2, hfz20_0, hfz20_1, hfz20_2⟩ := box3_ BK415.out))
   go_ret
   exact ⟨by first | rfl | (simp [errW_none, errW_some] <;> rfl) | (simp [*, errW_none, errW_some] <;> rfl), be_ HB.out⟩
 ·
  rw [if_neg c3] at H; have c3b0 : (a0_0 == a1_0) = false := beq_eq_false_iff_ne.mpr c3; have c3b1 : (a0_0 != a1_0) = true := bne_iff_ne.mpr c3; obtain rfl := Option.some.inj H
  go_enter Tryd.func41, Tryd.ntmps41
  go_wp2_with (first | ((with_reducible refine gate_dst (N := 2) rfl ?_); refine bx_ 2 #[.int .i64 a0_0, .int .i64 a0_1, .int .i64 a0_2] 31 ?_; intro gb414 hg w21 hbox hb; have BK414 := Aside0.mk (hbox); have GW414 := gs_ hg HB; have GE414 := gs_ hg HB; replace HB := hb_ HB hb; clear hb hbox hg) | ((with_reducible refine gate_dst (N := 3) rfl ?_); refine bx_ 3 #[.int .i64 a1_0, .int .i64 a1_1, .int .i64 a1_2] 31 ?_; intro gb415 hg w22 hbox hb; have BK415 := Aside0.mk (hbox); have GW415 := gs_ hg HB; have GE415 := gs_ hg HB; replace HB := hb_ HB hb; have NB414_415 := nx_ hg BK414; have NB415_414 := ny_ hg BK414; replace BK414 := bb_ BK414 hb; clear hb hbox hg; have hnb23 := NB414_415.out; have hnc23 := NB415_414.out; obtain ⟨hcz24_0, hcz24_1, hcz24_2, hfz24_0, hfz24_1, hfz24_2⟩ := box3_ BK414.out; obtain ⟨hcz25_0, hcz25_1, hcz25_2, hfz25_0, hfz25_1, hfz25_2⟩ := box3_ BK415.out))
  go_ret
  exact ⟨by first | rfl | (simp [errW_none, errW_some] <;> rfl) | (simp [*, errW_none, errW_some] <;> rfl), be_ HB.out⟩

def laws_eqIntS.l0 : Nat → List Int → List Int → Int → Option (Bool)
 | 0, _, _, _ => none
 | k + 1, x0, x1, x5 => if x5 < (x0.length : Int) then (if 0 ≤ x5 then (if x5 < (x1.length : Int) then (if (rd x0 x5) = (rd x1 x5) then (laws_eqIntS.l0 k x0 x1 (wrap64 (x5 + 1))) else (some false)) else (none)) else (none)) else (some true)
def laws_eqIntS.f (k : Nat) (l0 : List Int) (l1 : List Int) : Option (Bool) := if (l0.length : Int) = (l1.length : Int) then (laws_eqIntS.l0 k l0 l1 0) else (some false)
theorem laws_eqIntS.mono_l : ∀ k, (∀ y0 y1 y2, LeO (laws_eqIntS.l0 k y0 y1 y2) (laws_eqIntS.l0 (k + 1) y0 y1 y2))
 | 0 => fun _ _ _ r h => by simp [laws_eqIntS.l0] at h
 | k + 1 => by
  have ih0 := laws_eqIntS.mono_l k
  ·
   intro y0 y1 y2
   unfold laws_eqIntS.l0
   repeat' first
   | (with_reducible exact ih0 _ _ _)
   | (with_reducible exact LeO.refl _)
   | (with_reducible exact LeO.none _)
   | (with_reducible refine LeO.ite ?_ ?_)
   | (with_reducible refine LeO.bind ?_ (fun _ => ?_))
   | exact ih0 _ _ _
   | exact LeO.none _
   | refine LeO.ite ?_ ?_
   | refine LeO.bind ?_ (fun _ => ?_)
theorem laws_eqIntS.mono : ∀ a0 a1 k, LeO (laws_eqIntS.f k a0 a1) (laws_eqIntS.f (k + 1) a0 a1) := by
 intro a0 a1 k; have ih0 := laws_eqIntS.mono_l k
 unfold laws_eqIntS.f
 repeat' first
   | (with_reducible exact ih0 _ _ _)
   | (with_reducible exact LeO.refl _)
   | (with_reducible exact LeO.none _)
   | (with_reducible refine LeO.ite ?_ ?_)
   | (with_reducible refine LeO.bind ?_ (fun _ => ?_))
   | exact ih0 _ _ _
   | exact LeO.none _
   | refine LeO.ite ?_ ?_
   | refine LeO.bind ?_ (fun _ => ?_)
set_option maxHeartbeats 8000000 in
set_option maxRecDepth 100000 in
theorem laws_eqIntS.calls (k : Nat) (A0 : Option Addr) (c0 : Nat) (l0 : List Int) (A1 : Option Addr) (c1 : Nat) (l1 : List Int) (r : Bool) (w : World) (hr0 : Kd.C (Kd.int .i64) w A0 l0.length l0) (hc0 : l0.length ≤ c0) (hr1 : Kd.C (Kd.int .i64) w A1 l1.length l1) (hc1 : l1.length ≤ c1) (h : laws_eqIntS.f k l0 l1 = some r) :
  Calls Tryd.prog 42 #[.slice A0 l0.length c0, .slice A1 l1.length c1] w fun e w' => e = .returned (.bool r) ∧ Drawn0 w w' := by
 have HR0 := Aside0.mk hr0; have HC0 := Aside0.mk hc0; clear hr0 hc0; have HR1 := Aside0.mk hr1; have HC1 := Aside0.mk hc1; clear hr1 hc1; have H : (if (l0.length : Int) = (l1.length : Int) then (laws_eqIntS.l0 k l0 l1 0) else (some false)) = some r := h; clear h
 by_cases c3 : (l0.length : Int) = (l1.length : Int)
 ·
  rw [if_pos c3] at H; have c3b0 : ((l0.length : Int) == (l1.length : Int)) = true := beq_iff_eq.mpr c3; have c3b1 : ((l0.length : Int) != (l1.length : Int)) = false := bne_eq_false_iff_eq.mpr c3; have c3b2 : (l0.length == l1.length) = true := by first | simpa using c3 | (simp at c3 ⊢; omega)
  clear c3; have H' := Aside0.mk H; clear H
  go_enter Tryd.func42, Tryd.ntmps42
  go_wp2
  repeat (go_quiet (fail); try go_wp2)
  go_loopg [5] k (fun kq v5 w' => ∃ (x5_1 : Int), v5 = .int .i64 x5_1 ∧ Aside0 (laws_eqIntS.l0 kq l0 l1 x5_1 = some r) ∧ Aside0 (kq ≤ k) ∧ Drawn0 w w')
  case atStart => exact ⟨(0), (by first | rfl | (simp; done) | (simp [*]; done)), H', ⟨Nat.le_refl _⟩, by repeat (first | exact Drawn0.refl _ | apply Drawn0.step)⟩
  case round =>
   clear H'; (try clear c1); (try clear p2); (try clear c3); (try clear c3b0); (try clear c3b1); (try clear c3b2); obtain ⟨x5_1, rfl, HA, HK1, ⟨m1, rfl⟩⟩ := hrel
   cases gk with
   | zero => exact absurd HA.out (by simp [laws_eqIntS.l0])
   | succ k1 =>
    have H := HA.out; clear HA; simp only [laws_eqIntS.l0] at H
    by_cases c4 : x5_1 < (l0.length : Int)
    ·
     rw [if_pos c4] at H; have c4b0 : decide (x5_1 < (l0.length : Int)) = true := decide_eq_true c4; clear c4
     by_cases c5 : 0 ≤ x5_1
     ·
      rw [if_pos c5] at H; have c5b0 : decide (0 ≤ x5_1) = true := decide_eq_true c5; clear c5
      by_cases c6 : x5_1 < (l1.length : Int)
      ·
       rw [if_pos c6] at H; have c6b0 : decide (x5_1 < (l1.length : Int)) = true := decide_eq_true c6; clear c6
       by_cases c7 : (rd l0 x5_1) = (rd l1 x5_1)
       ·
        rw [if_pos c7] at H; have c7b0 : ((rd l0 x5_1) == (rd l1 x5_1)) = true := beq_iff_eq.mpr c7; have c7b1 : ((rd l0 x5_1) != (rd l1 x5_1)) = false := bne_eq_false_iff_eq.mpr c7; clear c7; have H' := Aside0.mk H; clear H; have p416 : 0 ≤ (x5_1 : Int) := of_decide_eq_true (by first | (with_reducible assumption) | assumption); have q416 : x5_1 < (l0.length : Int) := of_decide_eq_true (by first | (with_reducible assumption) | assumption); obtain ⟨ad416, e416, hx416_0⟩ := Kd.at_int HR0.out x5_1 p416 q416
        cases e416
        replace p416 := eq_true p416; replace q416 := eq_true q416; have p417 : 0 ≤ (x5_1 : Int) := of_decide_eq_true (by first | (with_reducible assumption) | assumption); have q417 : x5_1 < (l1.length : Int) := of_decide_eq_true (by first | (with_reducible assumption) | assumption); obtain ⟨ad417, e417, hx417_0⟩ := Kd.at_int HR1.out x5_1 p417 q417
        cases e417
        replace p417 := eq_true p417; replace q417 := eq_true q417
        go_wp2
        repeat (go_quiet (fail); try go_wp2)
        go_roundg k1
        case measure => have := HK1.out; omega
        case rel => exact ⟨(wrap64 (x5_1 + 1)), (by first | rfl | (simp; done) | (simp [*]; done)), H', ⟨by have := HK1.out; omega⟩, by repeat (first | exact Drawn0.refl _ | apply Drawn0.step)⟩
       ·
        rw [if_neg c7] at H; have c7b0 : ((rd l0 x5_1) == (rd l1 x5_1)) = false := beq_eq_false_iff_ne.mpr c7; have c7b1 : ((rd l0 x5_1) != (rd l1 x5_1)) = true := bne_iff_ne.mpr c7; obtain rfl := Option.some.inj H; have p416 : 0 ≤ (x5_1 : Int) := of_decide_eq_true (by first | (with_reducible assumption) | assumption); have q416 : x5_1 < (l0.length : Int) := of_decide_eq_true (by first | (with_reducible assumption) | assumption); obtain ⟨ad416, e416, hx416_0⟩ := Kd.at_int HR0.out x5_1 p416 q416
        cases e416
        replace p416 := eq_true p416; replace q416 := eq_true q416; have p417 : 0 ≤ (x5_1 : Int) := of_decide_eq_true (by first | (with_reducible assumption) | assumption); have q417 : x5_1 < (l1.length : Int) := of_decide_eq_true (by first | (with_reducible assumption) | assumption); obtain ⟨ad417, e417, hx417_0⟩ := Kd.at_int HR1.out x5_1 p417 q417
        cases e417
        replace p417 := eq_true p417; replace q417 := eq_true q417
        go_wp2
        repeat (go_quiet (fail); try go_wp2)
        go_ret
        exact ⟨by first | rfl | (simp; done) | (simp [*]; done), by repeat (first | exact Drawn0.refl _ | apply Drawn0.step)⟩
      ·
       rw [if_neg c6] at H; exact absurd H (by simp)
     ·
      rw [if_neg c5] at H; exact absurd H (by simp)
    ·
     rw [if_neg c4] at H; have c4b0 : decide (x5_1 < (l0.length : Int)) = false := decide_eq_false c4; clear c4; obtain rfl := Option.some.inj H
     go_wp2
     repeat (go_quiet (fail); try go_wp2)
     go_ret
     exact ⟨by first | rfl | (simp; done) | (simp [*]; done), by repeat (first | exact Drawn0.refl _ | apply Drawn0.step)⟩
 ·
  rw [if_neg c3] at H; have c3b0 : ((l0.length : Int) == (l1.length : Int)) = false := beq_eq_false_iff_ne.mpr c3; have c3b1 : ((l0.length : Int) != (l1.length : Int)) = true := bne_iff_ne.mpr c3; have c3b2 : (l0.length == l1.length) = false := by first | simpa using c3 | (simp at c3 ⊢; omega)
  obtain rfl := Option.some.inj H
  go_enter Tryd.func42, Tryd.ntmps42
  go_wp2
  repeat (go_quiet (fail); try go_wp2)
  go_ret
  exact ⟨by first | rfl | (simp; done) | (simp [*]; done), by repeat (first | exact Drawn0.refl _ | apply Drawn0.step)⟩

def laws_eqTensor.f (k : Nat) (a0_0 : Int) (a0_1 : Int) (a0_2 : Int) (l0_3 : List Int) (a1_0 : Int) (a1_1 : Int) (a1_2 : Int) (l1_3 : List Int) : Option (Bool) := (laws_eqShape.f a0_0 a0_1 a0_2 a1_0 a1_1 a1_2).bind fun t420 => (if t420 = true then ((laws_eqIntS.f k l0_3 l1_3).bind fun t421 => (if t421 = true then (some true) else (some false))) else (some false))
theorem laws_eqTensor.mono : ∀ a0 a1 a2 a3 a4 a5 a6 a7 k, LeO (laws_eqTensor.f k a0 a1 a2 a3 a4 a5 a6 a7) (laws_eqTensor.f (k + 1) a0 a1 a2 a3 a4 a5 a6 a7) := by
 intro a0 a1 a2 a3 a4 a5 a6 a7 k
 unfold laws_eqTensor.f
 repeat' first
   | (with_reducible exact laws_eqIntS.mono _ _ _)
   | (with_reducible exact LeO.refl _)
   | (with_reducible exact LeO.none _)
   | (with_reducible refine LeO.ite ?_ ?_)
   | (with_reducible refine LeO.bind ?_ (fun _ => ?_))
   | exact laws_eqIntS.mono _ _ _
   | exact LeO.none _
   | refine LeO.ite ?_ ?_
   | refine LeO.bind ?_ (fun _ => ?_)
set_option maxHeartbeats 8000000 in
set_option maxRecDepth 100000 in
theorem laws_eqTensor.calls (k : Nat) (a0_0 : Int) (a0_1 : Int) (a0_2 : Int) (A0_3 : Option Addr) (c0_3 : Nat) (l0_3 : List Int) (a1_0 : Int) (a1_1 : Int) (a1_2 : Int) (A1_3 : Option Addr) (c1_3 : Nat) (l1_3 : List Int) (r : Bool) (w : World) (hr0_3 : Kd.C (Kd.int .i64) w A0_3 l0_3.length l0_3) (hc0_3 : l0_3.length ≤ c0_3) (hr1_3 : Kd.C (Kd.int .i64) w A1_3 l1_3.length l1_3) (hc1_3 : l1_3.length ≤ c1_3) (h : laws_eqTensor.f k a0_0 a0_1 a0_2 l0_3 a1_0 a1_1 a1_2 l1_3 = some r) :
  Calls Tryd.prog 27 #[.agg #[.int .i64 a0_0, .int .i64 a0_1, .int .i64 a0_2, .slice A0_3 l0_3.length c0_3], .agg #[.int .i64 a1_0, .int .i64 a1_1, .int .i64 a1_2, .slice A1_3 l1_3.length c1_3]] w fun e w' => e = .returned (.bool r) ∧ Below w.heap.size w w' := by
 have hu33 := Tryd.underlying33; have hu31 := Tryd.underlying31; have HR0_3 := Aside0.mk hr0_3; have HC0_3 := Aside0.mk hc0_3; clear hr0_3 hc0_3; have HR1_3 := Aside0.mk hr1_3; have HC1_3 := Aside0.mk hc1_3; clear hr1_3 hc1_3; have HB := Aside0.mk (Below.refl w.heap.size w); have H : ((laws_eqShape.f a0_0 a0_1 a0_2 a1_0 a1_1 a1_2).bind fun t420 => (if t420 = true then ((laws_eqIntS.f k l0_3 l1_3).bind fun t421 => (if t421 = true then (some true) else (some false))) else (some false))) = some r := h; clear h; replace H := Option.bind_eq_some_iff.mp H; obtain ⟨t420, A30, H⟩ := H; (try dsimp only at H); have A3 := Aside0.mk A30; clear A30
 by_cases c4 : t420 = true
 ·
  subst c4; rw [if_pos rfl] at H; replace H := Option.bind_eq_some_iff.mp H; obtain ⟨t421, A50, H⟩ := H; (try dsimp only at H); have A5 := Aside0.mk A50; clear A50
  by_cases c6 : t421 = true
  ·
   subst c6; rw [if_pos rfl] at H; obtain rfl := Option.some.inj H
   go_enter Tryd.func27, Tryd.ntmps27
   go_wp2_with (first | ((with_reducible refine gate_dst (N := 2) rfl ?_); refine bx_ 2 #[.int .i64 a0_0, .int .i64 a0_1, .int .i64 a0_2, .slice A0_3 l0_3.length c0_3] 33 ?_; intro gb418 hg w7 hbox hb; have BK418 := Aside0.mk (hbox); have GW418 := gs_ hg HB; have GE418 := gs_ hg HB; replace HB := hb_ HB hb; clear hb hbox hg) | ((with_reducible refine gate_dst (N := 3) rfl ?_); refine bx_ 3 #[.int .i64 a1_0, .int .i64 a1_1, .int .i64 a1_2, .slice A1_3 l1_3.length c1_3] 33 ?_; intro gb419 hg w8 hbox hb; have BK419 := Aside0.mk (hbox); have GW419 := gs_ hg HB; have GE419 := gs_ hg HB; replace HB := hb_ HB hb; have NB418_419 := nx_ hg BK418; have NB419_418 := ny_ hg BK418; replace BK418 := bb_ BK418 hb; clear hb hbox hg; have hnb9 := NB418_419.out; have hnc9 := NB419_418.out; obtain ⟨hcz10_0, hcz10_1, hcz10_2, hcz10_3, hfz10_0, hfz10_1, hfz10_2, hfz10_3⟩ := box4_ BK418.out; obtain ⟨hcz11_0, hcz11_1, hcz11_2, hcz11_3, hfz11_0, hfz11_1, hfz11_2, hfz11_3⟩ := box4_ BK419.out) | ((with_reducible refine gate_callee (f := 41) rfl ?_); refine goesL_ (some 9) rfl rfl Tryd.func41 (by kernel_rfl) rfl #[.agg #[.int .i64 a0_0, .int .i64 a0_1, .int .i64 a0_2], .agg #[.int .i64 a1_0, .int .i64 a1_1, .int .i64 a1_2]] rfl ar_ ?_; (with_reducible refine (laws_eqShape.calls a0_0 a0_1 a0_2 a1_0 a1_1 a1_2 true _ A3.out).mono ?_); rintro e w12 ⟨rfl, hb⟩; refine ⟨_, rfl, ?_⟩; replace BK418 := bb_ BK418 hb; replace BK419 := bb_ BK419 hb; replace HB := hb_ HB hb; (try clear hb); (try clear hb2); (try clear hk); (try clear hi); obtain ⟨hcz13_0, hcz13_1, hcz13_2, hcz13_3, hfz13_0, hfz13_1, hfz13_2, hfz13_3⟩ := box4_ BK418.out; obtain ⟨hcz14_0, hcz14_1, hcz14_2, hcz14_3, hfz14_0, hfz14_1, hfz14_2, hfz14_3⟩ := box4_ BK419.out) | ((with_reducible refine gate_callee (f := 42) rfl ?_); refine goesL_ (some 15) rfl rfl Tryd.func42 (by kernel_rfl) rfl #[.slice A0_3 l0_3.length c0_3, .slice A1_3 l1_3.length c1_3] rfl ar_ ?_; (with_reducible refine (laws_eqIntS.calls k _ _ l0_3 _ _ l1_3 true _ ?side1 ?side2 ?side3 ?side4 A5.out).mono ?_); (case side1 => exact cu_ HR0_3.out HB.out); (case side2 => exact HC0_3.out); (case side3 => exact cu_ HR1_3.out HB.out); (case side4 => exact HC1_3.out); rintro e w' ⟨rfl, ⟨nd, rfl⟩⟩; refine ⟨_, rfl, ?_⟩))
   go_ret
   exact ⟨by first | rfl | (simp [errW_none, errW_some] <;> rfl) | (simp [*, errW_none, errW_some] <;> rfl), be_ HB.out⟩
  ·
   replace c6 := Bool.eq_false_iff.mpr c6; subst c6; have H1 : (some false) = some r := by rw [if_neg (show ¬ (false = true) by decide)] at H; exact H
   clear H; have H := H1; clear H1; obtain rfl := Option.some.inj H
   go_enter Tryd.func27, Tryd.ntmps27
   go_wp2_with (first | ((with_reducible refine gate_dst (N := 2) rfl ?_); refine bx_ 2 #[.int .i64 a0_0, .int .i64 a0_1, .int .i64 a0_2, .slice A0_3 l0_3.length c0_3] 33 ?_; intro gb418 hg w15 hbox hb; have BK418 := Aside0.mk (hbox); have GW418 := gs_ hg HB; have GE418 := gs_ hg HB; replace HB := hb_ HB hb; clear hb hbox hg) | ((with_reducible refine gate_dst (N := 3) rfl ?_); refine bx_ 3 #[.int .i64 a1_0, .int .i64 a1_1, .int .i64 a1_2, .slice A1_3 l1_3.length c1_3] 33 ?_; intro gb419 hg w16 hbox hb; have BK419 := Aside0.mk (hbox); have GW419 := gs_ hg HB; have GE419 := gs_ hg HB; replace HB := hb_ HB hb; have NB418_419 := nx_ hg BK418; have NB419_418 := ny_ hg BK418; replace BK418 := bb_ BK418 hb; clear hb hbox hg; have hnb17 := NB418_419.out; have hnc17 := NB419_418.out; obtain ⟨hcz18_0, hcz18_1, hcz18_2, hcz18_3, hfz18_0, hfz18_1, hfz18_2, hfz18_3⟩ := box4_ BK418.out; obtain ⟨hcz19_0, hcz19_1, hcz19_2, hcz19_3, hfz19_0, hfz19_1, hfz19_2, hfz19_3⟩ := box4_ BK419.out) | ((with_reducible refine gate_callee (f := 41) rfl ?_); refine goesL_ (some 9) rfl rfl Tryd.func41 (by kernel_rfl) rfl #[.agg #[.int .i64 a0_0, .int .i64 a0_1, .int .i64 a0_2], .agg #[.int .i64 a1_0, .int .i64 a1_1, .int .i64 a1_2]] rfl ar_ ?_; (with_reducible refine (laws_eqShape.calls a0_0 a0_1 a0_2 a1_0 a1_1 a1_2 true _ A3.out).mono ?_); rintro e w20 ⟨rfl, hb⟩; refine ⟨_, rfl, ?_⟩; replace BK418 := bb_ BK418 hb; replace BK419 := bb_ BK419 hb; replace HB := hb_ HB hb; (try clear hb); (try clear hb2); (try clear hk); (try clear hi); obtain ⟨hcz21_0, hcz21_1, hcz21_2, hcz21_3, hfz21_0, hfz21_1, hfz21_2, hfz21_3⟩ := box4_ BK418.out; obtain ⟨hcz22_0, hcz22_1, hcz22_2, hcz22_3, hfz22_0, hfz22_1, hfz22_2, hfz22_3⟩ := box4_ BK419.out) | ((with_reducible refine gate_callee (f := 42) rfl ?_); refine goesL_ (some 15) rfl rfl Tryd.func42 (by kernel_rfl) rfl #[.slice A0_3 l0_3.length c0_3, .slice A1_3 l1_3.length c1_3] rfl ar_ ?_; (with_reducible refine (laws_eqIntS.calls k _ _ l0_3 _ _ l1_3 false _ ?side1 ?side2 ?side3 ?side4 A5.out).mono ?_); (case side1 => exact cu_ HR0_3.out HB.out); (case side2 => exact HC0_3.out); (case side3 => exact cu_ HR1_3.out HB.out); (case side4 => exact HC1_3.out); rintro e w' ⟨rfl, ⟨nd, rfl⟩⟩; refine ⟨_, rfl, ?_⟩))
   go_ret
   exact ⟨by first | rfl | (simp [errW_none, errW_some] <;> rfl) | (simp [*, errW_none, errW_some] <;> rfl), be_ HB.out⟩
 ·
  replace c4 := Bool.eq_false_iff.mpr c4; subst c4; have H1 : (some false) = some r := by rw [if_neg (show ¬ (false = true) by decide)] at H; exact H
  clear H; have H := H1; clear H1; obtain rfl := Option.some.inj H
  go_enter Tryd.func27, Tryd.ntmps27
  go_wp2_with (first | ((with_reducible refine gate_dst (N := 2) rfl ?_); refine bx_ 2 #[.int .i64 a0_0, .int .i64 a0_1, .int .i64 a0_2, .slice A0_3 l0_3.length c0_3] 33 ?_; intro gb418 hg w23 hbox hb; have BK418 := Aside0.mk (hbox); have GW418 := gs_ hg HB; have GE418 := gs_ hg HB; replace HB := hb_ HB hb; clear hb hbox hg) | ((with_reducible refine gate_dst (N := 3) rfl ?_); refine bx_ 3 #[.int .i64 a1_0, .int .i64 a1_1, .int .i64 a1_2, .slice A1_3 l1_3.length c1_3] 33 ?_; intro gb419 hg w24 hbox hb; have BK419 := Aside0.mk (hbox); have GW419 := gs_ hg HB; have GE419 := gs_ hg HB; replace HB := hb_ HB hb; have NB418_419 := nx_ hg BK418; have NB419_418 := ny_ hg BK418; replace BK418 := bb_ BK418 hb; clear hb hbox hg; have hnb25 := NB418_419.out; have hnc25 := NB419_418.out; obtain ⟨hcz26_0, hcz26_1, hcz26_2, hcz26_3, hfz26_0, hfz26_1, hfz26_2, hfz26_3⟩ := box4_ BK418.out; obtain ⟨hcz27_0, hcz27_1, hcz27_2, hcz27_3, hfz27_0, hfz27_1, hfz27_2, hfz27_3⟩ := box4_ BK419.out) | ((with_reducible refine gate_callee (f := 41) rfl ?_); refine goesL_ (some 9) rfl rfl Tryd.func41 (by kernel_rfl) rfl #[.agg #[.int .i64 a0_0, .int .i64 a0_1, .int .i64 a0_2], .agg #[.int .i64 a1_0, .int .i64 a1_1, .int .i64 a1_2]] rfl ar_ ?_; (with_reducible refine (laws_eqShape.calls a0_0 a0_1 a0_2 a1_0 a1_1 a1_2 false _ A3.out).mono ?_); rintro e w28 ⟨rfl, hb⟩; refine ⟨_, rfl, ?_⟩; replace BK418 := bb_ BK418 hb; replace BK419 := bb_ BK419 hb; replace HB := hb_ HB hb; (try clear hb); (try clear hb2); (try clear hk); (try clear hi)))
  go_ret
  exact ⟨by first | rfl | (simp [errW_none, errW_some] <;> rfl) | (simp [*, errW_none, errW_some] <;> rfl), be_ HB.out⟩

end Go.Proofs.YtemnodpabflkoaaDoor.QFnExactJobText
