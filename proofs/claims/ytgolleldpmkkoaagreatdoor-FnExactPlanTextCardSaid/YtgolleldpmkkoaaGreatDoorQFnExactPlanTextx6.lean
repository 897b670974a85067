/- The Go functions that the statement FnExactPlanText reaches, as Lean functions, each with a proof that the call does what its function says; laid by a program of this session. No condition. -/
import Derived.Test.YtgolleldpmkkoaaGreatDoorQFnExactPlanTextx0
import Derived.Test.YtgolleldpmkkoaaGreatDoorQFnExactPlanTextx5
namespace Go.Proofs.YtgolleldpmkkoaaGreatDoor.QFnExactPlanText
open Go.RowKit Go.Proofs.YtgolleldpmkkoaaGreatDoorW.PrintWords Go.Proofs.YtgolleldpmkkoaaGreatDoorW.PrintLast Go.Proofs.YtgolleldpmkkoaaGreatDoorW.PrintMore
attribute [local go_sem] max2_int min2_int max_two min_two max_three min_three max_four min_four   -- for this text's walks alone
set_option linter.unusedVariables false
set_option linter.unusedSimpArgs false

def impl_filled.f (a0_0 : Int) (a0_1 : Int) (a0_2 : Int) (a0_3 : Int) (a0_4 : Int) (a0_5 : Int) (a0_6 : Int) (l0_7 : List Int) (l0_8 : List Int) (a1 : Int) (l2 : List Int) : Option (Int × Int × Int × Int × Int × Int × Int × List Int × List Int × Bool) := (impl_in.f a0_1 1 8).bind fun t417 => (if t417 = true then ((impl_in.f (wrap64 (a0_1 * a1)) 1 600).bind fun t418 => (if t418 = true then (if 0 < (l2.length : Int) then (if 1 < (l2.length : Int) then (if 2 < (l2.length : Int) then (if 3 < (l2.length : Int) then ((slices_Repeat.f (([rd l2 3] : List Int)) (wrap64 (a0_1 * a1))).bind fun t426 => (if 0 ≤ a0_1 then (if (a0_1 : Int).toNat ≤ 35184372088832 then (some (a0_0, a0_1, a0_2, a0_3, wrap64 ((rd l2 0) * 1000), rd l2 1, rd l2 2, t426, (List.replicate (a0_1 : Int).toNat 0), true)) else (none)) else (none))) else (none)) else (none)) else (none)) else (none)) else (some (0, 0, 0, 0, 0, 0, 0, ([] : List Int), ([] : List Int), false)))) else (some (0, 0, 0, 0, 0, 0, 0, ([] : List Int), ([] : List Int), false)))
def impl_filled.T3 : Bool × List (List Nat × List Nat) := (true, [([], []), ([0], [0]), ([1], [1]), ([2], [2]), ([], []), ([4], [4]), ([5], [5]), ([], []), ([7], [7]), ([8], [8]), ([0, 1, 2, 3], []), ([10, 3, 0, 1, 2, 3], [3, 10]), ([0, 1, 2, 3, 4, 5, 6, 10, 11], []), ([12, 6, 11, 0, 1, 2, 3, 4, 5, 6, 10, 11], [6, 12]), ([0, 1, 2, 3, 4, 5, 6, 7, 8, 9, 10, 11, 12, 13], []), ([14, 9, 13, 0, 1, 2, 3, 4, 5, 6, 7, 8, 9, 10, 11, 12, 13], [9, 14])])
def impl_filled.B3 : List Nat := [0, 1, 3, 7, 0, 16, 48, 0, 128, 384, 15, 1039, 3199, 7295, 16383, 32767]
theorem impl_filled.tab3 : rtab .any (opsOf Tryz.f66 3) = impl_filled.T3 := by kernel_rfl
theorem impl_filled.bits3 : waitsOk impl_filled.T3.2 impl_filled.B3 = true := by kernel_rfl
def impl_filled.T4 : Bool × List (List Nat × List Nat) := (true, [([], []), ([0], [0]), ([1], [1]), ([2], [2]), ([], []), ([4], [4]), ([], []), ([5, 6], [5, 6]), ([3, 7], [3, 7]), ([], []), ([9], [9]), ([10, 10], [10]), ([0, 1, 2, 3, 4, 5, 6, 7, 8, 9, 10], []), ([12, 8, 8, 0, 1, 2, 3, 4, 5, 6, 7, 8, 9, 10], [8, 12]), ([0, 1, 2, 3, 4, 5, 6, 7, 8, 9, 10, 11, 12, 13], []), ([14, 11, 13, 0, 1, 2, 3, 4, 5, 6, 7, 8, 9, 10, 11, 12, 13], [11, 14])])
def impl_filled.B4 : List Nat := [0, 1, 3, 7, 0, 16, 0, 112, 255, 0, 512, 1536, 2047, 6143, 16383, 32767]
theorem impl_filled.tab4 : rtab .any (opsOf Tryz.f66 4) = impl_filled.T4 := by kernel_rfl
theorem impl_filled.bits4 : waitsOk impl_filled.T4.2 impl_filled.B4 = true := by kernel_rfl
set_option maxHeartbeats 8000000 in
set_option maxRecDepth 100000 in
theorem impl_filled.calls (a0_0 : Int) (a0_1 : Int) (a0_2 : Int) (a0_3 : Int) (a0_4 : Int) (a0_5 : Int) (a0_6 : Int) (A0_7 : Option Addr) (c0_7 : Nat) (l0_7 : List Int) (A0_8 : Option Addr) (c0_8 : Nat) (l0_8 : List Int) (a1 : Int) (A2 : Option Addr) (c2 : Nat) (l2 : List Int) (r1 : Int) (r2 : Int) (r3 : Int) (r4 : Int) (r5 : Int) (r6 : Int) (r7 : Int) (r8 : List Int) (r9 : List Int) (r10 : Bool) (w : World) (hr0_7 : Kd.C (Kd.int .i64) w A0_7 l0_7.length l0_7) (hc0_7 : l0_7.length ≤ c0_7) (hr0_8 : Kd.C (Kd.int .i64) w A0_8 l0_8.length l0_8) (hc0_8 : l0_8.length ≤ c0_8) (hr2 : Kd.C (Kd.int .i64) w A2 l2.length l2) (hc2 : l2.length ≤ c2) (h : impl_filled.f a0_0 a0_1 a0_2 a0_3 a0_4 a0_5 a0_6 l0_7 l0_8 a1 l2 = some (r1, r2, r3, r4, r5, r6, r7, r8, r9, r10)) :
  Calls Tryz.prog 66 #[.agg #[.int .i64 a0_0, .int .i64 a0_1, .int .i64 a0_2, .int .i64 a0_3, .int .i64 a0_4, .int .i64 a0_5, .int .i64 a0_6, .slice A0_7 l0_7.length c0_7, .slice A0_8 l0_8.length c0_8], .int .i64 a1, .slice A2 l2.length c2] w fun e w' => ∃ v7_ v8_ : Value, e = .returned (.tuple #[.agg #[.int .i64 r1, .int .i64 r2, .int .i64 r3, .int .i64 r4, .int .i64 r5, .int .i64 r6, .int .i64 r7, v7_, v8_], .bool r10]) ∧ Kd.R (Kd.int .i64) 3 w' w.heap.size (fun k_ => some k_ ≠ (v8_ : Value).ownBlock) v7_ r8 ∧ Kd.R (Kd.int .i64) 3 w' w.heap.size (fun k_ => some k_ ≠ (v7_ : Value).ownBlock) v8_ r9 ∧ Below w.heap.size w w' := by
 have hu55 := Tryz.underlying55; have bh := Aside0.mk hr0_7; have bi := Aside0.mk hc0_7; clear hr0_7 hc0_7; have bj := Aside0.mk hr0_8; have bk := Aside0.mk hc0_8; clear hr0_8 hc0_8; have aI := Aside0.mk hr2; have bU := Aside0.mk hc2; clear hr2 hc2; have HB := Aside0.mk (Below.refl w.heap.size w); have H : ((impl_in.f a0_1 1 8).bind fun aK => (if aK = true then ((impl_in.f (wrap64 (a0_1 * a1)) 1 600).bind fun aL => (if aL = true then (if 0 < (l2.length : Int) then (if 1 < (l2.length : Int) then (if 2 < (l2.length : Int) then (if 3 < (l2.length : Int) then ((slices_Repeat.f (([rd l2 3] : List Int)) (wrap64 (a0_1 * a1))).bind fun T => (if 0 ≤ a0_1 then (if (a0_1 : Int).toNat ≤ 35184372088832 then (some (a0_0, a0_1, a0_2, a0_3, wrap64 ((rd l2 0) * 1000), rd l2 1, rd l2 2, T, (List.replicate (a0_1 : Int).toNat 0), true)) else (none)) else (none))) else (none)) else (none)) else (none)) else (none)) else (some (0, 0, 0, 0, 0, 0, 0, ([] : List Int), ([] : List Int), false)))) else (some (0, 0, 0, 0, 0, 0, 0, ([] : List Int), ([] : List Int), false)))) = some (r1, r2, r3, r4, r5, r6, r7, r8, r9, r10) := h; clear h; obtain ⟨aK, A4, H⟩ := bo_ H; (try dsimp only at H)
 go_enter Tryz.func66, Tryz.ntmps66
 go_wp2_with (first | ((with_reducible refine gate_dst (N := 3) rfl ?_); refine bz_ 3 ?_; intro G hg bV hbox hb; obtain ⟨A, P, bl, HB⟩ := nb_ hg hbox HB hb; clear hb hbox hg) | ((with_reducible refine gate_dst (N := 6) rfl ?_); refine bz_ 6 ?_; intro ac hg a8 hbox hb; obtain ⟨B, bm, bn, HB⟩ := nb_ hg hbox HB hb; have L := nx_ hg A; have O := ny_ hg A; replace A := bb_ A hb; clear hb hbox hg; have bo := nn_ L O; have bp := box9_ A.out; refine Aside0.out ?_))
 replace H := icb_ H; obtain ⟨rfl, H⟩ | ⟨rfl, H⟩ := H
 ·
  obtain ⟨aL, A6, H⟩ := bo_ H; (try dsimp only at H); refine ⟨?_⟩
  go_wp2_with (first | ((with_reducible refine gc_ 56 ?_); refine gw_ (some 10) Tryz.func56 ?_; (with_reducible refine (impl_in.calls A4.out).mono ?_); rintro e w' ⟨rfl, ⟨nd, rfl⟩⟩; refine ⟨_, rfl, ?_⟩; (try (rw [drewN_self a8]; generalize hq_ : World.drewN a8 _ = a8; replace A := Aside0.mk (blk_at hq_ A.out); replace B := Aside0.mk (blk_at hq_ B.out); replace HB := Aside0.mk (below_at hq_ HB.out); clear hq_; have hczq := box9_ A.out)); refine Aside0.out ?_))
  replace H := icb_ H; obtain ⟨rfl, H⟩ | ⟨rfl, H⟩ := H
  ·
   obtain ⟨c8, H⟩ := ip_ H; have bN : decide (0 < (l2.length : Int)) = true := dt_ c8; have bO : decide (0 < l2.length) = true := decide_eq_true (by omega); clear c8
   obtain ⟨c9, H⟩ := ip_ H; have bP : decide (1 < (l2.length : Int)) = true := dt_ c9; have bQ : decide (1 < l2.length) = true := decide_eq_true (by omega); clear c9
   obtain ⟨c10, H⟩ := ip_ H; have bq : decide (2 < (l2.length : Int)) = true := dt_ c10; have br : decide (2 < l2.length) = true := decide_eq_true (by omega); clear c10
   obtain ⟨b0, H⟩ := ip_ H; have bs : decide (3 < (l2.length : Int)) = true := dt_ b0; have bu : decide (3 < l2.length) = true := decide_eq_true (by omega); clear b0; obtain ⟨aa, hy_⟩ : ∃ y_ : List Int, y_ = (([rd l2 3] : List Int)) := ⟨_, rfl⟩; replace H : ((slices_Repeat.f aa (wrap64 (a0_1 * a1))).bind fun T => (if 0 ≤ a0_1 then (if (a0_1 : Int).toNat ≤ 35184372088832 then (some (a0_0, a0_1, a0_2, a0_3, wrap64 ((rd l2 0) * 1000), rd l2 1, rd l2 2, T, (List.replicate (a0_1 : Int).toNat 0), true)) else (none)) else (none))) = some (r1, r2, r3, r4, r5, r6, r7, r8, r9, r10) := yh_
   have ah := Aside0.mk hy_; clear hy_; obtain ⟨T, aR, H⟩ := bo_ H; (try dsimp only at H)
   obtain ⟨aS, H⟩ := ip_ H; have bv := eq_true aS; have bw : decide (0 ≤ a0_1) = true := dt_ aS; clear aS
   obtain ⟨aT, H⟩ := ip_ H; have bx := eq_true aT; have bz : decide ((a0_1 : Int).toNat ≤ 35184372088832) = true := dt_ aT; clear aT; obtain ⟨ab, hy_⟩ : ∃ y_ : List Int, y_ = (List.replicate (a0_1 : Int).toNat 0) := ⟨_, rfl⟩; replace H : (some (a0_0, a0_1, a0_2, a0_3, wrap64 ((rd l2 0) * 1000), rd l2 1, rd l2 2, T, ab, true)) = some (r1, r2, r3, r4, r5, r6, r7, r8, r9, r10) := yh_
   have a6 := Aside0.mk hy_; clear hy_; simp only [Option.some.injEq, Prod.mk.injEq] at H; obtain ⟨rfl, rfl, rfl, rfl, rfl, rfl, rfl, rfl, rfl, rfl⟩ := H
   refine ⟨?_⟩
   try go_wp2_with (first | (go_at_call 56; (with_reducible refine (impl_in.calls A6.out).mono ?_); rintro e w' ⟨rfl, ⟨nd, rfl⟩⟩; (try (rw [drewN_self a8]; generalize hq_ : World.drewN a8 _ = a8; replace A := Aside0.mk (blk_at hq_ A.out); replace B := Aside0.mk (blk_at hq_ B.out); replace HB := Aside0.mk (below_at hq_ HB.out); clear hq_; have hczq := box9_ A.out))))
   replace A := Aside0.mk (blk_drew A.out); replace B := Aside0.mk (blk_drew B.out); replace HB := Aside0.mk (below_drew1 HB.out)
   have ao : 0 ≤ (0 : Int) := (by omega)
   have ap : 0 < (l2.length : Int) := od_
   obtain ⟨Z, b1, a0⟩ := Kd.at_int aI.out 0 ao ap; have U := a0; (try rw [show ((0 : Int)).toNat = 0 from rfl] at U); (try rw [show 0 * 1 = 0 from rfl] at U); (try rw [Addr.add_zero'] at U)
   cases b1
   have bA : (0 < l2.length) = True := eq_true (by omega); (try rw [show ((0 : Int)).toNat = 0 from rfl] at a0); (try rw [Addr.add_zero'] at a0); replace a0 := cw_ HB.out a0; replace ao := eq_true ao; replace ap := eq_true ap; have aq : 0 ≤ (1 : Int) := (by omega); have ar : 1 < (l2.length : Int) := od_; obtain ⟨aU, b2, a2⟩ := Kd.at_int aI.out 1 aq ar; have W := a2; (try rw [show ((1 : Int)).toNat = 1 from rfl] at W); (try rw [show 1 * 1 = 1 from rfl] at W); (try simp only [Nat.reduceMul, Nat.reduceEqDiff, Go.Addr.add, ↓reduceIte] at W); obtain rfl : Z = aU := (by injection b2); (try simp only [show (1 : Int).toNat = 1 from rfl, Nat.reduceMul, Nat.reduceEqDiff, Go.Addr.add, ↓reduceIte] at a2); have bB : (1 < l2.length) = True := eq_true (by omega); (try rw [show ((1 : Int)).toNat = 1 from rfl] at a2); replace a2 := cw_ HB.out a2; replace aq := eq_true aq; replace ar := eq_true ar; have au : 0 ≤ (2 : Int) := (by omega); have av : 2 < (l2.length : Int) := od_; obtain ⟨aV, b3, a3⟩ := Kd.at_int aI.out 2 au av; have X := a3; (try rw [show ((2 : Int)).toNat = 2 from rfl] at X); (try rw [show 2 * 1 = 2 from rfl] at X); (try simp only [Nat.reduceMul, Nat.reduceEqDiff, Go.Addr.add, ↓reduceIte] at X); obtain rfl : Z = aV := (by injection b3); (try simp only [show (2 : Int).toNat = 2 from rfl, Nat.reduceMul, Nat.reduceEqDiff, Go.Addr.add, ↓reduceIte] at a3); have bC : (2 < l2.length) = True := eq_true (by omega); (try rw [show ((2 : Int)).toNat = 2 from rfl] at a3); replace a3 := cw_ HB.out a3; replace au := eq_true au; replace av := eq_true av; refine sta_ 16 (fun w' => w'.cell? Z = some (.int .i64 (rd l2 0)) ∧ CF_ w' Z 1 (.int .i64 (rd l2 1)) ∧ CF_ w' Z 2 (.int .i64 (rd l2 2))) ⟨(cw_ HB.out U), (cw_ HB.out W), (cw_ HB.out X)⟩ (fun hHeld => ?_); refine with_tabW impl_filled.tab3 impl_filled.bits3 (fun HT_ HW_ => ?_); generalize a8.drew = aJ at A B HB a0 a2 a3 hHeld ⊢; refine pv_ 0 16 1 ?_; refine pv_ 1 16 3 ?_; refine pv_ 4 16 19 ?_; refine pv_ 5 16 51 ?_; refine pv_ 7 16 179 ?_; refine pv_ 8 16 435 ?_; refine tv_ 2 16 439 ?_; refine pv_ 3 16 447 ?_; refine pv_ 10 16 1471 ?_; refine tv_ 6 16 1535 ?_; refine tv_ 9 16 2047 ?_; refine one_ (i := 11) (N := none) (bl_ 16 4095) rfl rfl (one_of HT_.out (by kernel_rfl)) (by decide) (fun K hK => ?_); have bR : aJ.cell? ⟨G, 4, none⟩ = some (.int .i64 a0_4) := bk_ A 4; have bD := blk_frozen A.out 4; have b4 := O.out; have b5 := L.out; refine skip_ (w1 := ?_) (by rfl) rfl ?_ ?_
   rotate_left
   ·
    go_simp
    rfl
   refine hK.out _ _ ⟨(cfa_ (nw_ U P.out) (hHeld.1)), (cfa_ (nw_ W P.out) (hHeld.2.1)), (cfa_ (nw_ X P.out) (hHeld.2.2))⟩ (fun hHeld => ?_); clear hK K; refine pv_ 12 16 8191 ?_; refine one_ (i := 13) (N := none) (bl_ 16 16383) rfl rfl (one_of HT_.out (by kernel_rfl)) (by decide) (fun K hK => ?_); have bS : aJ.cell? ⟨G, 5, none⟩ = some (.int .i64 a0_5) := bk_ A 5; have bE := blk_frozen A.out 5; have b6 := O.out; have b7 := L.out; refine skip_ (w1 := ?_) (by rfl) rfl ?_ ?_
   rotate_left
   ·
    go_simp
    rfl
   refine hK.out _ _ ⟨(cfa_ (nw_ U P.out) (hHeld.1)), (cfa_ (nw_ W P.out) (hHeld.2.1)), (cfa_ (nw_ X P.out) (hHeld.2.2))⟩ (fun hHeld => ?_); clear hK K; refine pv_ 14 16 32767 ?_; refine one_ (i := 15) (N := none) (bl_ 16 65535) rfl rfl (one_of HT_.out (by kernel_rfl)) (by decide) (fun K hK => ?_); have bT : aJ.cell? ⟨G, 6, none⟩ = some (.int .i64 a0_6) := bk_ A 6; have bF := blk_frozen A.out 6; have b8 := O.out; have b9 := L.out; refine skip_ (w1 := ?_) (by rfl) rfl ?_ ?_
   rotate_left
   ·
    go_simp
    rfl
   refine hK.out _ _ ⟨(cfa_ (nw_ U P.out) (hHeld.1)), (cfa_ (nw_ W P.out) (hHeld.2.1)), (cfa_ (nw_ X P.out) (hHeld.2.2))⟩ (fun hHeld => ?_); clear hK K; refine done_ (done_of HT_.out (by kernel_rfl)) ?_
   try go_wp2
   generalize hq_ : (((aJ.setCell ⟨G, 4, none⟩ (.int .i64 (wrap64 ((rd l2 0) * 1000)))).setCell ⟨G, 5, none⟩ (.int .i64 (rd l2 1))).setCell ⟨G, 6, none⟩ (.int .i64 (rd l2 2))) = bG; replace A := sb_ hq_ A; replace B := sb_ hq_ B; replace HB := sh_ hq_ HB; clear hq_; replace A := Aside0.mk (blk_drew A.out); replace B := Aside0.mk (blk_drew B.out); replace HB := Aside0.mk (below_drew1 HB.out); have aw : 0 ≤ (3 : Int) := (by omega); have ax : 3 < (l2.length : Int) := od_; obtain ⟨aW, ba, a4⟩ := Kd.at_int aI.out 3 aw ax; have E := a4; (try rw [show ((3 : Int)).toNat = 3 from rfl] at E); (try rw [show 3 * 1 = 3 from rfl] at E); (try simp only [Nat.reduceMul, Nat.reduceEqDiff, Go.Addr.add, ↓reduceIte] at E); obtain rfl : Z = aW := (by injection ba); (try simp only [show (3 : Int).toNat = 3 from rfl, Nat.reduceMul, Nat.reduceEqDiff, Go.Addr.add, ↓reduceIte] at a4); have bH : (3 < l2.length) = True := eq_true (by omega); (try rw [show ((3 : Int)).toNat = 3 from rfl] at a4); replace a4 := cw_ HB.out a4; replace aw := eq_true aw; replace ax := eq_true ax; refine start_ (n := 16) (S := fun w' => w'.cell? ⟨G, 1, none⟩ = some (.int .i64 a0_1) ∧ w'.cell? ⟨Z.block, Z.off + 3, none⟩ = some (.int .i64 (rd l2 3))) (ds := []) #[false, false, false, false, false, false, false, false, false, false, false, false, false, false, false, false] (by kernel_rfl) rfl rfl ⟨bk_ A 1, (cw_ HB.out E)⟩ (fun hHeld => ?_); refine with_tabW impl_filled.tab4 impl_filled.bits4 (fun HT_ HW_ => ?_); generalize bG.drew = bW at A B HB a4 hHeld ⊢; refine pv_ 0 16 1 ?_; refine pv_ 1 16 3 ?_; refine pv_ 4 16 19 ?_; refine pv_ 6 16 83 ?_; refine pv_ 9 16 595 ?_; refine tv_ 2 16 599 ?_; refine tv_ 5 16 631 ?_; refine pv_ 7 16 759 ?_; refine tv_ 10 16 1783 ?_; refine join_ (σ := Value × Value × Value) 3 (bl_ 16 8191) (fun s_ => [(37, s_.1), (42, s_.2.1), (45, s_.2.2), (46, .pointer (some ⟨G, 7, none⟩))]) (fun s_ w' => (w'.cell? ⟨G, 1, none⟩ = some (.int .i64 a0_1) ∧ w'.cell? ⟨Z.block, Z.off + 3, none⟩ = some (.int .i64 (rd l2 3))) ∧ (Kd.R (Kd.int .i64) 3 w' w.heap.size (fun k_ => some k_ ≠ (s_.2.1 : Value).ownBlock ∧ some k_ ≠ (s_.2.2 : Value).ownBlock) s_.1 aa) ∧ (Kd.R (Kd.int .i64) 3 w' w.heap.size (fun k_ => some k_ ≠ (s_.1 : Value).ownBlock ∧ some k_ ≠ (s_.2.2 : Value).ownBlock) s_.2.1 T) ∧ (Kd.R (Kd.int .i64) 3 w' w.heap.size (fun k_ => some k_ ≠ (s_.1 : Value).ownBlock ∧ some k_ ≠ (s_.2.1 : Value).ownBlock) s_.2.2 ab) ∧ (w'.heap[G]? = some (.cells #[.int .i64 a0_0, .int .i64 a0_1, .int .i64 a0_2, .int .i64 a0_3, .int .i64 (wrap64 ((rd l2 0) * 1000)), .int .i64 (rd l2 1), .int .i64 (rd l2 2), .slice A0_7 l0_7.length c0_7, .slice A0_8 l0_8.length c0_8] 55 (0, 0))) ∧ (w'.heap[ac]? = some (.cells #[.int .i64 0, .int .i64 0, .int .i64 0, .int .i64 0, .int .i64 0, .int .i64 0, .int .i64 0, .slice none 0 0, .slice none 0 0] 55 (0, 0))) ∧ (Below w.heap.size w w')) ?_ ?_
   rotate_left
   ·
    intro hCont; refine two_ (i := 3) (j := 11) (Ni := some 37) (Nj := some 45) (bl_ 16 1791) (bl_ 16 3831) rfl rfl rfl rfl (two_of HT_.out (by kernel_rfl)) (by decide) (by decide) (fun K hK => ?_) (fun K hK => ?_)
    ·
     refine Kd.R_lit_step (Kd.int .i64) _ 3 ?hg (N := 37) ?hd (xs := ([rd l2 3] : List Int)) (inner := [.int .i64 (rd l2 3)]) (ok := fun _ => True) (okp := fun _ => True) ?hr ?hp (fun _ hk => hk) trivial (Below.refl _ _) (Nat.le_refl _) (by simp) ?_; (case hd => rfl); (case hg => rfl); (case hr => first | (go_simp; done) | (go_simp; rfl)); (case hp => exact (Reps.one (show Kd.M (Kd.int .i64) _ _ _ (rd l2 3) [.int .i64 (rd l2 3)] from rfl) (Reps.none _ _))); intro aM bI a7 hb hg_ hnew_; clear hg_ hnew_; (first | rw [← ah.out] at a7 | (simp only [Int.reduceToNat] at a7; rw [← ah.out] at a7)); have D := Aside0.mk (Kd.R_lower a7 (below_size (be_ HB.out))); replace A := bb_ A hb; replace B := bb_ B hb; replace HB := hb_ HB hb; clear hb a7; obtain ⟨bb, bc, aN⟩ := Kd.R_slice D.out; (first | subst aN | (injection aN with f1_ f2_ f3_; have f4_ := f1_.symm; have f5_ := f3_.symm; clear f1_ f2_ f3_; subst f4_; subst f5_)); refine hK.out _ _ ⟨bk_ A 1, (cw_ HB.out E)⟩ (fun hHeld => ?_); clear hK K; refine nm_ 37 (h := ?_); refine two_ (i := 8) (j := 11) (Ni := some 42) (Nj := some 45) (bl_ 16 2047) (bl_ 16 3839) rfl rfl rfl rfl (two_of HT_.out (by kernel_rfl)) (by decide) (by decide) (fun K hK => ?_) (fun K hK => ?_)
     ·
      refine gv_ Tryz.func102 ?_
      (with_reducible refine (slices_Repeat.calls _ _ aa (wrap64 (a0_1 * a1)) T _ ?_ ?_ aR.out).mono ?_); exact rc_ D.out; exact (Kd.R_reads' D.out).2.1; rintro e bd ⟨ag, rfl, a9, hb⟩; refine ⟨_, rfl, ?_⟩; have I := Aside0.mk (Kd.R_lower (Kd.R_new' a9 (Kd.R_lt (ra_ D.out))) (below_size (be_ HB.out))); replace D := Aside0.mk (Kd.R_elder' (ra_ D.out) (Kd.R_base a9) hb); replace A := bb_ A hb; replace B := bb_ B hb; replace HB := hb_ HB hb; (try clear hb a9); refine hK.out _ _ ⟨bk_ A 1, (cw_ HB.out E)⟩ (fun hHeld => ?_); clear hK K; refine nm_ 42 (h := ?_)
      refine pv_ 12 16 6143 ?_; refine two_ (i := 11) (j := 13) (Ni := some 45) (Nj := none) (bl_ 16 8191) (bl_ 16 14335) rfl rfl rfl rfl (two_of HT_.out (by kernel_rfl)) (by decide) (by decide) (fun K hK => ?_) (fun K hK => ?_)
      ·
       refine Kd.R_make_step (Kd.int .i64) _ 3 (by rfl) (N := 45) rfl 47 _ _ rfl a0_1 rfl rfl Tryz.underlying47 (.int .i64 0) 8 info3 rfl (by decide) (by omega) 0 (ok := fun _ => True) (okp := fun _ => True) rfl (fun _ hk => hk) trivial (od_) (Nat.le_trans (Nat.mul_le_mul_right _ (od_ : a0_1.toNat ≤ 35184372088832)) (by omega)) (Below.refl _ _) (Nat.le_refl _) ?_; intro ad be Y hb hg_ hnew_; clear hg_ hnew_; (first | rw [← a6.out] at Y | (simp only [Int.reduceToNat] at Y; rw [← a6.out] at Y)); have J := Aside0.mk (Kd.R_lower (Kd.R_new' (Kd.R_new' Y (Kd.R_lt (ra_ D.out))) (Kd.R_lt (ra_ I.out))) (below_size (be_ HB.out))); replace D := Aside0.mk (Kd.R_elder' (ra_ D.out) (Kd.R_base Y) hb); replace I := Aside0.mk (Kd.R_elder' (ra_ I.out) (Kd.R_base Y) hb); replace A := bb_ A hb; replace B := bb_ B hb; replace HB := hb_ HB hb; clear hb Y; refine hK.out _ _ ⟨bk_ A 1, (cw_ HB.out E)⟩ (fun hHeld => ?_); clear hK K; refine nm_ 45 (h := ?_); exact norm_ (by simp only [putAll, Act.put, List.setIfInBounds_toArray, List.set_cons_zero, List.set_cons_succ]) (hCont (.slice bb aa.length bc, ag, ad) _ ⟨hHeld, (Kd.R_mono (ra_ D.out) (fun _ hk => ⟨hk.1.2, hk.2⟩)), (Kd.R_mono (ra_ I.out) (fun _ hk => ⟨hk.1.2, hk.2⟩)), (Kd.R_mono (ra_ J.out) (fun _ hk => ⟨hk.1.2, hk.2⟩)), (bu_ A.out), (bu_ B.out), (be_ HB.out)⟩)
      ·
       obtain ⟨am, an, aO⟩ := Kd.R_slice I.out; (first | subst aO | (injection aO with f1_ f2_ f3_; have f4_ := f1_.symm; have f5_ := f3_.symm; clear f1_ f2_ f3_; subst f4_; subst f5_)); have aP : bd.cell? ⟨G, 7, none⟩ = some (.slice A0_7 l0_7.length c0_7) := bk_ A 7; have ay := blk_frozen A.out 7; have ai := O.out; have aj := L.out; refine skip_ (w1 := ?_) (by rfl) rfl ?_ ?_
       rotate_left
       ·
        go_simp
        rfl
       refine hK.out _ _ ⟨((World.cell?_setCell_other _ _ _ _ (by simp)).trans hHeld.1), (cfa_ (nw_ E P.out) (hHeld.2))⟩ (fun hHeld => ?_); clear hK K aP ay ai aj; have az := Aside0.mk (Kd.R_far (p := ⟨G, 7, none⟩) (Kd.R_types I.out A.out (by decide)) (fun _ hk => hk.2) (.slice am T.length an)); have aA := Aside0.mk (Kd.R_far (p := ⟨G, 7, none⟩) (Kd.R_types D.out A.out (by decide)) (fun _ hk => hk.2) (.slice am T.length an)); clear I D; have I := az; have D := aA; clear az aA
       generalize hq_ : bd.setCell ⟨G, 7, none⟩ (.slice am T.length an) = bX at I D hHeld ⊢; replace A := sb_ hq_ A; replace B := sb_ hq_ B; replace HB := sh_ hq_ HB; clear hq_
       refine one_ (i := 11) (N := some 45) (bl_ 16 16383) rfl rfl (one_of HT_.out (by kernel_rfl)) (by decide) (fun K hK => ?_); refine Kd.R_make_step (Kd.int .i64) _ 3 (by rfl) (N := 45) rfl 47 _ _ rfl a0_1 rfl rfl Tryz.underlying47 (.int .i64 0) 8 info3 rfl (by decide) (by omega) 0 (ok := fun _ => True) (okp := fun _ => True) rfl (fun _ hk => hk) trivial (od_) (Nat.le_trans (Nat.mul_le_mul_right _ (od_ : a0_1.toNat ≤ 35184372088832)) (by omega)) (Below.refl _ _) (Nat.le_refl _) ?_; intro ad be Y hb hg_ hnew_; clear hg_ hnew_; (first | rw [← a6.out] at Y | (simp only [Int.reduceToNat] at Y; rw [← a6.out] at Y)); have J := Aside0.mk (Kd.R_lower (Kd.R_new' (Kd.R_new' Y (Kd.R_lt (ra_ D.out))) (Kd.R_lt (ra_ I.out))) (below_size (be_ HB.out))); replace D := Aside0.mk (Kd.R_elder' (ra_ D.out) (Kd.R_base Y) hb); replace I := Aside0.mk (Kd.R_elder' (ra_ I.out) (Kd.R_base Y) hb); replace A := bb_ A hb; replace B := bb_ B hb; replace HB := hb_ HB hb; clear hb Y; refine hK.out _ _ ⟨bk_ A 1, (cw_ HB.out E)⟩ (fun hHeld => ?_); clear hK K; refine nm_ 45 (h := ?_)
       obtain ⟨ae, af, ak⟩ := Kd.R_slice J.out; (first | subst ak | (injection ak with f1_ f2_ f3_; have f4_ := f1_.symm; have f5_ := f3_.symm; clear f1_ f2_ f3_; subst f4_; subst f5_)); refine pv_ 14 16 32767 ?_; refine one_ (i := 15) (N := none) (bl_ 16 65535) rfl rfl (one_of HT_.out (by kernel_rfl)) (by decide) (fun K hK => ?_); have bf : be.cell? ⟨G, 8, none⟩ = some (.slice A0_8 l0_8.length c0_8) := bk_ A 8; have aX := blk_frozen A.out 8; have aC := O.out; have aD := L.out; refine skip_ (w1 := ?_) (by rfl) rfl ?_ ?_
       rotate_left
       ·
        go_simp
        rfl
       refine hK.out _ _ ⟨((World.cell?_setCell_other _ _ _ _ (by simp)).trans hHeld.1), (cfa_ (nw_ E P.out) (hHeld.2))⟩ (fun hHeld => ?_); clear hK K; refine done_ (done_of HT_.out (by kernel_rfl)) ?_; have aY := box9_ A.out; have aZ := box9_ B.out
       try go_wp2
       refine bodyPost_ret (results_ct rfl _ _ ac 55 #[.int .i64 a0_0, .int .i64 a0_1, .int .i64 a0_2, .int .i64 a0_3, .int .i64 (wrap64 ((rd l2 0) * 1000)), .int .i64 (rd l2 1), .int .i64 (rd l2 2), .slice am T.length an, .slice ae ab.length af] (0, 0) _ rfl (bq_ B.out) Tryz.underlying55 rfl (by kernel_rfl)) rfl ?_; exact ⟨_, _, by first | rfl | (simp [errW_none, errW_some] <;> rfl) | (simp [*, errW_none, errW_some] <;> rfl), by (with_reducible repeat (first | apply Kd.R_alloc | apply Kd.R_drewN | apply Kd.R_drew)); exact Kd.R_mono (rs9_ (Kd.R_far (p := ⟨G, 8, none⟩) (Kd.R_types (Kd.R_types I.out A.out (by decide)) B.out (by decide)) (fun _ hk => hk.1.2) (.slice ae ab.length af)) (fun _ hk => hk.2)) (fun _ hk => hk.1.1.2), by (with_reducible repeat (first | apply Kd.R_alloc | apply Kd.R_drewN | apply Kd.R_drew)); exact Kd.R_mono (rs9_ (Kd.R_far (p := ⟨G, 8, none⟩) (Kd.R_types (Kd.R_types J.out A.out (by decide)) B.out (by decide)) (fun _ hk => hk.1.2) (.slice ae ab.length af)) (fun _ hk => hk.2)) (fun _ hk => hk.1.1.2), be_ HB.out⟩
     ·
      refine Kd.R_make_step (Kd.int .i64) _ 3 (by rfl) (N := 45) rfl 47 _ _ rfl a0_1 rfl rfl Tryz.underlying47 (.int .i64 0) 8 info3 rfl (by decide) (by omega) 0 (ok := fun _ => True) (okp := fun _ => True) rfl (fun _ hk => hk) trivial (od_) (Nat.le_trans (Nat.mul_le_mul_right _ (od_ : a0_1.toNat ≤ 35184372088832)) (by omega)) (Below.refl _ _) (Nat.le_refl _) ?_; intro ad bJ a5 hb hg_ hnew_; clear hg_ hnew_; (first | rw [← a6.out] at a5 | (simp only [Int.reduceToNat] at a5; rw [← a6.out] at a5)); have J := Aside0.mk (Kd.R_lower (Kd.R_new' a5 (Kd.R_lt (ra_ D.out))) (below_size (be_ HB.out))); replace D := Aside0.mk (Kd.R_elder' (ra_ D.out) (Kd.R_base a5) hb); replace A := bb_ A hb; replace B := bb_ B hb; replace HB := hb_ HB hb; clear hb a5; obtain ⟨aE, aF, al⟩ := Kd.R_slice D.out; (first | subst al | (injection al with f1_ f2_ f3_; have f4_ := f1_.symm; have f5_ := f3_.symm; clear f1_ f2_ f3_; subst f4_; subst f5_)); refine hK.out _ _ ⟨bk_ A 1, (cw_ HB.out E)⟩ (fun hHeld => ?_); clear hK K; refine nm_ 45 (h := ?_); refine one_ (i := 8) (N := some 42) (bl_ 16 4095) rfl rfl (one_of HT_.out (by kernel_rfl)) (by decide) (fun K hK => ?_); refine gv_ Tryz.func102 ?_
      (with_reducible refine (slices_Repeat.calls _ _ aa (wrap64 (a0_1 * a1)) T _ ?_ ?_ aR.out).mono ?_); exact rc_ D.out; exact (Kd.R_reads' D.out).2.1; rintro e bK ⟨ag, rfl, a9, hb⟩; refine ⟨_, rfl, ?_⟩; have I := Aside0.mk (Kd.R_lower (Kd.R_new' (Kd.R_new' a9 (Kd.R_lt (ra_ D.out))) (Kd.R_lt (ra_ J.out))) (below_size (be_ HB.out))); replace D := Aside0.mk (Kd.R_elder' (ra_ D.out) (Kd.R_base a9) hb); replace J := Aside0.mk (Kd.R_elder' (ra_ J.out) (Kd.R_base a9) hb); replace A := bb_ A hb; replace B := bb_ B hb; replace HB := hb_ HB hb; (try clear hb a9); refine hK.out _ _ ⟨bk_ A 1, (cw_ HB.out E)⟩ (fun hHeld => ?_); clear hK K; refine nm_ 42 (h := ?_); refine pv_ 12 16 8191 ?_; exact norm_ (by simp only [putAll, Act.put, List.setIfInBounds_toArray, List.set_cons_zero, List.set_cons_succ]) (hCont (.slice aE aa.length aF, ag, ad) _ ⟨hHeld, (Kd.R_mono (ra_ D.out) (fun _ hk => ⟨hk.2, hk.1.2⟩)), (Kd.R_mono (ra_ I.out) (fun _ hk => ⟨hk.1.2, hk.2⟩)), (Kd.R_mono (ra_ J.out) (fun _ hk => ⟨hk.1.2, hk.2⟩)), (bu_ A.out), (bu_ B.out), (be_ HB.out)⟩)
    ·
     refine Kd.R_make_step (Kd.int .i64) _ 3 (by rfl) (N := 45) rfl 47 _ _ rfl a0_1 rfl rfl Tryz.underlying47 (.int .i64 0) 8 info3 rfl (by decide) (by omega) 0 (ok := fun _ => True) (okp := fun _ => True) rfl (fun _ hk => hk) trivial (od_) (Nat.le_trans (Nat.mul_le_mul_right _ (od_ : a0_1.toNat ≤ 35184372088832)) (by omega)) (Below.refl _ _) (Nat.le_refl _) ?_; intro ad bI a7 hb hg_ hnew_; clear hg_ hnew_; (first | rw [← a6.out] at a7 | (simp only [Int.reduceToNat] at a7; rw [← a6.out] at a7)); have J := Aside0.mk (Kd.R_lower a7 (below_size (be_ HB.out))); replace A := bb_ A hb; replace B := bb_ B hb; replace HB := hb_ HB hb; clear hb a7; refine hK.out _ _ ⟨bk_ A 1, (cw_ HB.out E)⟩ (fun hHeld => ?_); clear hK K; refine nm_ 45 (h := ?_); refine one_ (i := 3) (N := some 37) (bl_ 16 3839) rfl rfl (one_of HT_.out (by kernel_rfl)) (by decide) (fun K hK => ?_); refine Kd.R_lit_step (Kd.int .i64) _ 3 ?hgz (N := 37) ?hdz (xs := ([rd l2 3] : List Int)) (inner := [.int .i64 (rd l2 3)]) (ok := fun _ => True) (okp := fun _ => True) ?hrz ?hpz (fun _ hk => hk) trivial (Below.refl _ _) (Nat.le_refl _) (by simp) ?_; (case hdz => rfl); (case hgz => rfl); (case hrz => first | (go_simp; done) | (go_simp; rfl)); (case hpz => exact (Reps.one (show Kd.M (Kd.int .i64) _ _ _ (rd l2 3) [.int .i64 (rd l2 3)] from rfl) (Reps.none _ _))); intro aM bJ a5 hb hg_ hnew_; clear hg_ hnew_; (first | rw [← ah.out] at a5 | (simp only [Int.reduceToNat] at a5; rw [← ah.out] at a5)); have D := Aside0.mk (Kd.R_lower (Kd.R_new' a5 (Kd.R_lt (ra_ J.out))) (below_size (be_ HB.out))); replace J := Aside0.mk (Kd.R_elder' (ra_ J.out) (Kd.R_base a5) hb); replace A := bb_ A hb; replace B := bb_ B hb; replace HB := hb_ HB hb; clear hb a5; obtain ⟨aE, aF, al⟩ := Kd.R_slice D.out; (first | subst al | (injection al with f1_ f2_ f3_; have f4_ := f1_.symm; have f5_ := f3_.symm; clear f1_ f2_ f3_; subst f4_; subst f5_)); refine hK.out _ _ ⟨bk_ A 1, (cw_ HB.out E)⟩ (fun hHeld => ?_); clear hK K; refine nm_ 37 (h := ?_); refine one_ (i := 8) (N := some 42) (bl_ 16 4095) rfl rfl (one_of HT_.out (by kernel_rfl)) (by decide) (fun K hK => ?_); refine gv_ Tryz.func102 ?_
     (with_reducible refine (slices_Repeat.calls _ _ aa (wrap64 (a0_1 * a1)) T _ ?_ ?_ aR.out).mono ?_); exact rc_ D.out; exact (Kd.R_reads' D.out).2.1; rintro e bK ⟨ag, rfl, a9, hb⟩; refine ⟨_, rfl, ?_⟩; have I := Aside0.mk (Kd.R_lower (Kd.R_new' (Kd.R_new' a9 (Kd.R_lt (ra_ J.out))) (Kd.R_lt (ra_ D.out))) (below_size (be_ HB.out))); replace J := Aside0.mk (Kd.R_elder' (ra_ J.out) (Kd.R_base a9) hb); replace D := Aside0.mk (Kd.R_elder' (ra_ D.out) (Kd.R_base a9) hb); replace A := bb_ A hb; replace B := bb_ B hb; replace HB := hb_ HB hb; (try clear hb a9); refine hK.out _ _ ⟨bk_ A 1, (cw_ HB.out E)⟩ (fun hHeld => ?_); clear hK K; refine nm_ 42 (h := ?_); refine pv_ 12 16 8191 ?_; exact norm_ (by simp only [putAll, Act.put, List.setIfInBounds_toArray, List.set_cons_zero, List.set_cons_succ]) (hCont (.slice aE aa.length aF, ag, ad) _ ⟨hHeld, (Kd.R_mono (ra_ D.out) (fun _ hk => ⟨hk.2, hk.1.2⟩)), (Kd.R_mono (ra_ I.out) (fun _ hk => ⟨hk.2, hk.1.2⟩)), (Kd.R_mono (ra_ J.out) (fun _ hk => ⟨hk.1.2, hk.2⟩)), (bu_ A.out), (bu_ B.out), (be_ HB.out)⟩)
   rintro ⟨aM, ag, ad⟩ bg ⟨hS_, h0_, h1_, h2_, h3_, h4_, h5_⟩; (try dsimp only at h0_ h1_ h2_ h3_ h4_ h5_); have D := Aside0.mk h0_; have I := Aside0.mk h1_; have J := Aside0.mk h2_; replace A := Aside0.mk h3_; replace B := Aside0.mk h4_; replace HB := Aside0.mk h5_; clear h0_ h1_ h2_ h3_ h4_ h5_; have hHeld := hS_; obtain ⟨aG, aH, aQ⟩ := Kd.R_slice I.out; (first | subst aQ | (injection aQ with f1_ f2_ f3_; have f4_ := f1_.symm; have f5_ := f3_.symm; clear f1_ f2_ f3_; subst f4_; subst f5_)); obtain ⟨ae, af, ak⟩ := Kd.R_slice J.out; (first | subst ak | (injection ak with f1_ f2_ f3_; have f4_ := f1_.symm; have f5_ := f3_.symm; clear f1_ f2_ f3_; subst f4_; subst f5_)); refine nf_ ?_; refine one_ (i := 13) (N := none) (bl_ 16 16383) rfl rfl (one_of HT_.out (by kernel_rfl)) (by decide) (fun K hK => ?_); have aP : bg.cell? ⟨G, 7, none⟩ = some (.slice A0_7 l0_7.length c0_7) := bk_ A 7; have ay := blk_frozen A.out 7; have ai := O.out; have aj := L.out; refine skip_ (w1 := ?_) (by rfl) rfl ?_ ?_
   rotate_left
   ·
    go_simp
    rfl
   refine hK.out _ _ ⟨((World.cell?_setCell_other _ _ _ _ (by simp)).trans hHeld.1), (cfa_ (nw_ E P.out) (hHeld.2))⟩ (fun hHeld => ?_); clear hK K; refine pv_ 14 16 32767 ?_; refine one_ (i := 15) (N := none) (bl_ 16 65535) rfl rfl (one_of HT_.out (by kernel_rfl)) (by decide) (fun K hK => ?_); have bf : bg.cell? ⟨G, 8, none⟩ = some (.slice A0_8 l0_8.length c0_8) := bk_ A 8; have aX := blk_frozen A.out 8; have aC := O.out; have aD := L.out; refine skip_ (w1 := ?_) (by rfl) rfl ?_ ?_
   rotate_left
   ·
    go_simp
    rfl
   refine hK.out _ _ ⟨((World.cell?_setCell_other _ _ _ _ (by simp)).trans hHeld.1), (cfa_ (nw_ E P.out) (hHeld.2))⟩ (fun hHeld => ?_); clear hK K; refine done_ (done_of HT_.out (by kernel_rfl)) ?_; have aY := box9_ A.out; have aZ := box9_ B.out
   try go_wp2
   refine bodyPost_ret (results_ct rfl _ _ ac 55 #[.int .i64 a0_0, .int .i64 a0_1, .int .i64 a0_2, .int .i64 a0_3, .int .i64 (wrap64 ((rd l2 0) * 1000)), .int .i64 (rd l2 1), .int .i64 (rd l2 2), .slice aG T.length aH, .slice ae ab.length af] (0, 0) _ rfl (bq_ B.out) Tryz.underlying55 rfl (by kernel_rfl)) rfl ?_; exact ⟨_, _, by first | rfl | (simp [errW_none, errW_some] <;> rfl) | (simp [*, errW_none, errW_some] <;> rfl), by (with_reducible repeat (first | apply Kd.R_alloc | apply Kd.R_drewN | apply Kd.R_drew)); exact Kd.R_mono (rs9_ (Kd.R_far (p := ⟨G, 8, none⟩) (Kd.R_far (p := ⟨G, 7, none⟩) (Kd.R_types (Kd.R_types I.out A.out (by decide)) B.out (by decide)) (fun _ hk => hk.1.2) (.slice aG T.length aH)) (fun _ hk => hk.1.2) (.slice ae ab.length af)) (fun _ hk => hk.2)) (fun _ hk => hk.1.1.2), by (with_reducible repeat (first | apply Kd.R_alloc | apply Kd.R_drewN | apply Kd.R_drew)); exact Kd.R_mono (rs9_ (Kd.R_far (p := ⟨G, 8, none⟩) (Kd.R_far (p := ⟨G, 7, none⟩) (Kd.R_types (Kd.R_types J.out A.out (by decide)) B.out (by decide)) (fun _ hk => hk.1.2) (.slice aG T.length aH)) (fun _ hk => hk.1.2) (.slice ae ab.length af)) (fun _ hk => hk.2)) (fun _ hk => hk.1.1.2), be_ HB.out⟩
  ·
   simp only [Option.some.injEq, Prod.mk.injEq] at H; obtain ⟨rfl, rfl, rfl, rfl, rfl, rfl, rfl, rfl, rfl, rfl⟩ := H
   refine ⟨?_⟩
   go_wp2_with (first | (go_at_call 56; (with_reducible refine (impl_in.calls A6.out).mono ?_); rintro e w' ⟨rfl, ⟨nd, rfl⟩⟩; (try (rw [drewN_self a8]; generalize hq_ : World.drewN a8 _ = a8; replace A := Aside0.mk (blk_at hq_ A.out); replace B := Aside0.mk (blk_at hq_ B.out); replace HB := Aside0.mk (below_at hq_ HB.out); clear hq_; have hczq := box9_ A.out)); have bL := box9_ B.out))
   refine bodyPost_ret (results_ct rfl _ _ ac 55 #[.int .i64 0, .int .i64 0, .int .i64 0, .int .i64 0, .int .i64 0, .int .i64 0, .int .i64 0, .slice none 0 0, .slice none 0 0] (0, 0) _ rfl (bq_ B.out) Tryz.underlying55 rfl (by kernel_rfl)) rfl ?_
   exact ⟨_, _, by first | rfl | (simp [errW_none, errW_some] <;> rfl) | (simp [*, errW_none, errW_some] <;> rfl), by first | exact Kd.R_nil _ _ _ _ _ | exact Kd.N_nil _ _ _ _ _ | exact Kd.V_nil _ _ _ _ _ | exact Kd.Q_nil _ _ _ _ _ | exact Kd.S_nil _ _ _ _ _, by first | exact Kd.R_nil _ _ _ _ _ | exact Kd.N_nil _ _ _ _ _ | exact Kd.V_nil _ _ _ _ _ | exact Kd.Q_nil _ _ _ _ _ | exact Kd.S_nil _ _ _ _ _, be_ HB.out⟩
 ·
  simp only [Option.some.injEq, Prod.mk.injEq] at H; obtain ⟨rfl, rfl, rfl, rfl, rfl, rfl, rfl, rfl, rfl, rfl⟩ := H
  refine ⟨?_⟩
  go_wp2_with (first | ((with_reducible refine gc_ 56 ?_); refine gw_ (some 10) Tryz.func56 ?_; (with_reducible refine (impl_in.calls A4.out).mono ?_); rintro e w' ⟨rfl, ⟨nd, rfl⟩⟩; refine ⟨_, rfl, ?_⟩; (try (rw [drewN_self a8]; generalize hq_ : World.drewN a8 _ = a8; replace A := Aside0.mk (blk_at hq_ A.out); replace B := Aside0.mk (blk_at hq_ B.out); replace HB := Aside0.mk (below_at hq_ HB.out); clear hq_; have hczq := box9_ A.out)); have bM := box9_ B.out))
  refine bodyPost_ret (results_ct rfl _ _ ac 55 #[.int .i64 0, .int .i64 0, .int .i64 0, .int .i64 0, .int .i64 0, .int .i64 0, .int .i64 0, .slice none 0 0, .slice none 0 0] (0, 0) _ rfl (bq_ B.out) Tryz.underlying55 rfl (by kernel_rfl)) rfl ?_
  exact ⟨_, _, by first | rfl | (simp [errW_none, errW_some] <;> rfl) | (simp [*, errW_none, errW_some] <;> rfl), by first | exact Kd.R_nil _ _ _ _ _ | exact Kd.N_nil _ _ _ _ _ | exact Kd.V_nil _ _ _ _ _ | exact Kd.Q_nil _ _ _ _ _ | exact Kd.S_nil _ _ _ _ _, by first | exact Kd.R_nil _ _ _ _ _ | exact Kd.N_nil _ _ _ _ _ | exact Kd.V_nil _ _ _ _ _ | exact Kd.Q_nil _ _ _ _ _ | exact Kd.S_nil _ _ _ _ _, be_ HB.out⟩


def impl_ShapeOk.f (a0_0 : Int) (a0_1 : Int) (a0_2 : Int) : Option (Bool) := (impl_in.f a0_0 1 8).bind fun t416 => (if t416 = true then ((impl_in.f a0_1 1 8).bind fun t417 => (if t417 = true then ((impl_in.f a0_2 1 8).bind fun t418 => (some t418)) else (some false))) else (some false))
set_option maxHeartbeats 8000000 in
set_option maxRecDepth 100000 in
theorem impl_ShapeOk.calls {a0_0 : Int} {a0_1 : Int} {a0_2 : Int} {r : Bool} {w : World} (h : impl_ShapeOk.f a0_0 a0_1 a0_2 = some r) :
  Calls Tryz.prog 68 #[.agg #[.int .i64 a0_0, .int .i64 a0_1, .int .i64 a0_2]] w fun e w' => e = .returned (.bool r) ∧ Below w.heap.size w w' := by
 have hu23 := Tryz.underlying23; have HB := Aside0.mk (Below.refl w.heap.size w); have H : ((impl_in.f a0_0 1 8).bind fun A => (if A = true then ((impl_in.f a0_1 1 8).bind fun B => (if B = true then ((impl_in.f a0_2 1 8).bind fun D => (some D)) else (some false))) else (some false))) = some r := h; clear h; obtain ⟨A, A2, H⟩ := bo_ H; (try dsimp only at H)
 go_enter Tryz.func68, Tryz.ntmps68
 go_wp2_with (first | ((with_reducible refine gate_dst (N := 1) rfl ?_); refine bz_ 1 ?_; intro G hg w7 hbox hb; obtain ⟨E, I, J, HB⟩ := nb_ hg hbox HB hb; clear hb hbox hg; have K := box3_ E.out) | ((with_reducible refine gc_ 56 ?_); refine gw_ (some 5) Tryz.func56 ?_; (with_reducible refine (impl_in.calls A2.out).mono ?_); rintro e w' ⟨rfl, ⟨nd, rfl⟩⟩; refine ⟨_, rfl, ?_⟩; refine Aside0.out ?_))
 replace H := icb_ H; obtain ⟨rfl, H⟩ | ⟨rfl, H⟩ := H
 ·
  obtain ⟨B, A4, H⟩ := bo_ H; (try dsimp only at H); refine ⟨?_⟩
  go_wp2_with (first | (go_at_call 56; (with_reducible refine (impl_in.calls A4.out).mono ?_); rintro e w' ⟨rfl, ⟨nd, rfl⟩⟩; refine Aside0.out ?_))
  replace H := icb_ H; obtain ⟨rfl, H⟩ | ⟨rfl, H⟩ := H
  ·
   obtain ⟨D, A6, H⟩ := bo_ H; (try dsimp only at H); obtain rfl := oi_ H; refine ⟨?_⟩
   go_wp2_with (first | (go_at_call 56; (with_reducible refine (impl_in.calls A6.out).mono ?_); rintro e w' ⟨rfl, ⟨nd, rfl⟩⟩))
   go_ret
   exact rt_ HB.out
  ·
   obtain rfl := oi_ H; refine ⟨?_⟩
   try go_wp2
   go_ret
   exact rt_ HB.out
 ·
  obtain rfl := oi_ H; refine ⟨?_⟩
  try go_wp2
  go_ret
  exact rt_ HB.out

def impl_SizeOf.f (a0_0 : Int) (a0_1 : Int) (a0_2 : Int) : Option (Int) := (impl_ShapeOk.f a0_0 a0_1 a0_2).bind fun t420 => (if t420 = true then (some (wrap64 ((wrap64 (a0_0 * a0_1)) * a0_2))) else (some 0))
set_option maxHeartbeats 8000000 in
set_option maxRecDepth 100000 in
theorem impl_SizeOf.calls {a0_0 : Int} {a0_1 : Int} {a0_2 : Int} {r : Int} {w : World} (h : impl_SizeOf.f a0_0 a0_1 a0_2 = some r) :
  Calls Tryz.prog 67 #[.agg #[.int .i64 a0_0, .int .i64 a0_1, .int .i64 a0_2]] w fun e w' => e = .returned (.int .i64 r) ∧ Below w.heap.size w w' := by
 have hu23 := Tryz.underlying23; have HB := Aside0.mk (Below.refl w.heap.size w); have H : ((impl_ShapeOk.f a0_0 a0_1 a0_2).bind fun B => (if B = true then (some (wrap64 ((wrap64 (a0_0 * a0_1)) * a0_2))) else (some 0))) = some r := h; clear h; obtain ⟨B, A2, H⟩ := bo_ H; (try dsimp only at H)
 go_enter Tryz.func67, Tryz.ntmps67
 go_wp2_with (first | ((with_reducible refine gate_dst (N := 1) rfl ?_); refine bz_ 1 ?_; intro D hg w4 hbox hb; obtain ⟨A, E, G, HB⟩ := nb_ hg hbox HB hb; clear hb hbox hg; have I := box3_ A.out; refine Aside0.out ?_))
 replace H := icb_ H; obtain ⟨rfl, H⟩ | ⟨rfl, H⟩ := H
 ·
  obtain rfl := oi_ H; refine ⟨?_⟩
  go_wp2_with (first | ((with_reducible refine gc_ 68 ?_); refine gw_ (some 4) Tryz.func68 ?_; (with_reducible refine (impl_ShapeOk.calls A2.out).mono ?_); rintro e w6 ⟨rfl, hb⟩; refine ⟨_, rfl, ?_⟩; replace A := bb_ A hb; replace HB := hb_ HB hb; (try clear hb); have J := box3_ A.out))
  go_ret
  exact rt_ HB.out
 ·
  obtain rfl := oi_ H; refine ⟨?_⟩
  go_wp2_with (first | ((with_reducible refine gc_ 68 ?_); refine gw_ (some 4) Tryz.func68 ?_; (with_reducible refine (impl_ShapeOk.calls A2.out).mono ?_); rintro e K ⟨rfl, hb⟩; refine ⟨_, rfl, ?_⟩; replace A := bb_ A hb; replace HB := hb_ HB hb; (try clear hb)))
  go_ret
  exact rt_ HB.out

def impl_planned.j0 : Nat → List ByteArray → List Int → Bool → Int → Int → Int → Option (Int × Int × Int × Int × Int × Int × Int × List Int × List Int × Bool)
 | 0, _, _, _, _, _, _ => none
 | k + 1, x6, x10, x36, x422000, x422001, x422002 => if x36 = true then (some (0, 0, 0, 0, 0, 0, 0, ([] : List Int), ([] : List Int), false)) else (if 0 < (x6.length : Int) then (if (rdOf ByteArray.empty x6 0).toList = ([100, 101, 110, 115, 101] : List UInt8) then (if 0 < (x10.length : Int) then ((impl_SizeOf.f x422000 x422001 x422002).bind fun t440 => (if 1 ≤ (x10.length : Int) then ((impl_filled.f 0 (rd x10 0) 0 0 0 0 0 ([] : List Int) ([] : List Int) t440 (x10.drop 1)).bind fun bt445 => (some (bt445.1, bt445.2.1, bt445.2.2.1, bt445.2.2.2.1, bt445.2.2.2.2.1, bt445.2.2.2.2.2.1, bt445.2.2.2.2.2.2.1, bt445.2.2.2.2.2.2.2.1, bt445.2.2.2.2.2.2.2.2.1, bt445.2.2.2.2.2.2.2.2.2))) else (none))) else (none)) else (if (rdOf ByteArray.empty x6 0).toList = ([99, 111, 110, 118] : List UInt8) then (if 1 < (x10.length : Int) then ((impl_in.f (rd x10 1) 1 3).bind fun t460 => (if t460 = true then (if 0 < (x10.length : Int) then (if 2 < (x10.length : Int) then (if 3 ≤ (x10.length : Int) then ((impl_filled.f 1 (rd x10 0) (rd x10 1) (rd x10 2) 0 0 0 ([] : List Int) ([] : List Int) (wrap64 ((wrap64 ((rd x10 1) * (rd x10 1))) * x422002)) (x10.drop 3)).bind fun bt470 => (some (bt470.1, bt470.2.1, bt470.2.2.1, bt470.2.2.2.1, bt470.2.2.2.2.1, bt470.2.2.2.2.2.1, bt470.2.2.2.2.2.2.1, bt470.2.2.2.2.2.2.2.1, bt470.2.2.2.2.2.2.2.2.1, bt470.2.2.2.2.2.2.2.2.2))) else (none)) else (none)) else (none)) else (some (0, 0, 0, 0, 0, 0, 0, ([] : List Int), ([] : List Int), false)))) else (none)) else (if (rdOf ByteArray.empty x6 0).toList = ([109, 97, 120] : List UInt8) then (if 0 < (x10.length : Int) then (if 1 < (x10.length : Int) then (some (2, 0, rd x10 0, rd x10 1, 0, 0, 0, ([] : List Int), ([] : List Int), true)) else (none)) else (none)) else (if (rdOf ByteArray.empty x6 0).toList = ([97, 118, 103] : List UInt8) then (if 0 < (x10.length : Int) then (if 1 < (x10.length : Int) then (some (3, 0, rd x10 0, rd x10 1, 0, 0, 0, ([] : List Int), ([] : List Int), true)) else (none)) else (none)) else (if (rdOf ByteArray.empty x6 0).toList = ([114, 101, 108, 117] : List UInt8) then (if 0 < (x10.length : Int) then (some (4, 0, 0, 0, 0, 0, rd x10 0, ([] : List Int), ([] : List Int), true)) else (none)) else (some (5, 0, 0, 0, 0, 0, 0, ([] : List Int), ([] : List Int), true))))))) else (none))
def impl_planned.f (k : Nat) (a0_0 : Int) (a0_1 : Int) (a0_2 : Int) (a1 : ByteArray) : Option (Int × Int × Int × Int × Int × Int × Int × List Int × List Int × Bool) := (strings_Split.f a1 (⟨#[32]⟩ : ByteArray)).bind fun t423 => ((kinds.f).bind fun t426 => (if 0 < (t423.length : Int) then ((kind_look.f (rdOf ByteArray.empty t423 0)).bind fun bt428 => (if 1 ≤ (t423.length : Int) then ((impl_numbersOf.f k (t423.drop 1) bt428.1).bind fun bt434 => (if bt428.2 = true then (impl_planned.j0 k t423 bt434.1 (!bt434.2) a0_0 a0_1 a0_2) else (impl_planned.j0 k t423 bt434.1 true a0_0 a0_1 a0_2))) else (none))) else (none)))
def impl_planned.T9 : Bool × List (List Nat × List Nat) := (true, [([], []), ([0], [0]), ([1], [1]), ([2], [2]), ([], []), ([4], [4]), ([], []), ([6], [6]), ([3, 5, 7, 5], [3, 5, 7]), ([8], [8]), ([8], [8]), ([9, 8, 0, 1, 2, 3, 4, 5, 6, 7, 8, 9, 10], [9]), ([10, 11, 0, 1, 2, 3, 4, 5, 6, 7, 8, 9, 10, 11], [10])])
def impl_planned.B9 : List Nat := [0, 1, 3, 7, 0, 16, 0, 64, 255, 511, 511, 2047, 4095]
theorem impl_planned.tab9 : rtab .any (opsOf Tryz.f30 9) = impl_planned.T9 := by kernel_rfl
theorem impl_planned.bits9 : waitsOk impl_planned.T9.2 impl_planned.B9 = true := by kernel_rfl
def impl_planned.T13 : Bool × List (List Nat × List Nat) := (true, [([], []), ([0], [0]), ([1], [1]), ([], []), ([3], [3]), ([4], [4]), ([], []), ([6], [6]), ([7], [7]), ([2, 5, 8], [2, 5, 8]), ([], []), ([10], [10]), ([11], [11]), ([], []), ([13], [13]), ([14], [14]), ([12, 15], [12, 15]), ([], []), ([17], [17]), ([16, 18], [16, 18]), ([], []), ([20], [20]), ([9, 19, 21], [9, 19, 21]), ([22], [22]), ([22], [22]), ([23, 22, 0, 1, 2, 3, 4, 5, 6, 7, 8, 9, 10, 11, 12, 13, 14, 15, 16, 17, 18, 19, 20, 21, 22, 23, 24], [23]), ([24, 25, 0, 1, 2, 3, 4, 5, 6, 7, 8, 9, 10, 11, 12, 13, 14, 15, 16, 17, 18, 19, 20, 21, 22, 23, 24, 25], [24])])
def impl_planned.B13 : List Nat := [0, 1, 3, 0, 8, 24, 0, 64, 192, 511, 0, 1024, 3072, 0, 8192, 24576, 64512, 0, 131072, 523264, 0, 1048576, 4194303, 8388607, 8388607, 33554431, 67108863]
theorem impl_planned.tab13 : rtab .any (opsOf Tryz.f30 13) = impl_planned.T13 := by kernel_rfl
theorem impl_planned.bits13 : waitsOk impl_planned.T13.2 impl_planned.B13 = true := by kernel_rfl
def impl_planned.T15 : Bool × List (List Nat × List Nat) := (true, [([], []), ([0], [0]), ([1], [1]), ([], []), ([3], [3]), ([4], [4]), ([2, 5], [2, 5]), ([6, 0, 1, 2, 3, 4, 5, 6], [6]), ([7, 0, 1, 2, 3, 4, 5, 6, 7], [])])
def impl_planned.B15 : List Nat := [0, 1, 3, 0, 8, 24, 63, 127, 255]
theorem impl_planned.tab15 : rtab .any (opsOf Tryz.f30 15) = impl_planned.T15 := by kernel_rfl
theorem impl_planned.bits15 : waitsOk impl_planned.T15.2 impl_planned.B15 = true := by kernel_rfl
def impl_planned.T17 : Bool × List (List Nat × List Nat) := (true, [([], []), ([0], [0]), ([1], [1]), ([], []), ([3], [3]), ([4], [4]), ([2, 5], [2, 5]), ([6, 0, 1, 2, 3, 4, 5, 6], [6]), ([7, 0, 1, 2, 3, 4, 5, 6, 7], [])])
def impl_planned.B17 : List Nat := [0, 1, 3, 0, 8, 24, 63, 127, 255]
theorem impl_planned.tab17 : rtab .any (opsOf Tryz.f30 17) = impl_planned.T17 := by kernel_rfl
theorem impl_planned.bits17 : waitsOk impl_planned.T17.2 impl_planned.B17 = true := by kernel_rfl
set_option maxHeartbeats 8000000 in
set_option maxRecDepth 100000 in
theorem impl_planned.calls {k : Nat} {a0_0 : Int} {a0_1 : Int} {a0_2 : Int} {a1 : ByteArray} {r1 : Int} {r2 : Int} {r3 : Int} {r4 : Int} {r5 : Int} {r6 : Int} {r7 : Int} {r8 : List Int} {r9 : List Int} {r10 : Bool} {w : World} (h : impl_planned.f k a0_0 a0_1 a0_2 a1 = some (r1, r2, r3, r4, r5, r6, r7, r8, r9, r10)) (tb_ : Tab w := by exact Tab.on HTab_.out (by repeat (first | exact HB.out | apply below_alloc | apply pw_below_drewN | apply below_drew1 | (refine below_cell_ ?_ (by apply Aside0.out; with_reducible assumption))))) :
  Calls Tryz.prog 30 #[.agg #[.int .i64 a0_0, .int .i64 a0_1, .int .i64 a0_2], .string a1] w fun e w' => ∃ v7_ v8_ : Value, e = .returned (.tuple #[.agg #[.int .i64 r1, .int .i64 r2, .int .i64 r3, .int .i64 r4, .int .i64 r5, .int .i64 r6, .int .i64 r7, v7_, v8_], .bool r10]) ∧ Kd.R (Kd.int .i64) 3 w' w.heap.size (fun k_ => some k_ ≠ (v8_ : Value).ownBlock) v7_ r8 ∧ Kd.R (Kd.int .i64) 3 w' w.heap.size (fun k_ => some k_ ≠ (v7_ : Value).ownBlock) v8_ r9 ∧ Below w.heap.size w w' := by
 have HTab_ := Aside0.mk tb_; clear tb_; have hu23 := Tryz.underlying23; have hu55 := Tryz.underlying55; have HB := Aside0.mk (Below.refl w.heap.size w); have H : ((strings_Split.f a1 (⟨#[32]⟩ : ByteArray)).bind fun L => ((kinds.f).bind fun cA => (if 0 < (L.length : Int) then ((kind_look.f (rdOf ByteArray.empty L 0)).bind fun aO => (if 1 ≤ (L.length : Int) then ((impl_numbersOf.f k (L.drop 1) aO.1).bind fun Z => (if aO.2 = true then (impl_planned.j0 k L Z.1 (!Z.2) a0_0 a0_1 a0_2) else (impl_planned.j0 k L Z.1 true a0_0 a0_1 a0_2))) else (none))) else (none)))) = some (r1, r2, r3, r4, r5, r6, r7, r8, r9, r10) := h; clear h; obtain ⟨L, A3, H⟩ := bo_ H; (try dsimp only at H); obtain ⟨cA, A4, H⟩ := bo_ H; (try dsimp only at H)
 obtain ⟨c5, H⟩ := ip_ H; have cC : decide (0 < (L.length : Int)) = true := dt_ c5; have cD : decide (0 < L.length) = true := decide_eq_true (by omega); clear c5; obtain ⟨⟨bv, aP⟩, A6, H⟩ := bo_ H; (try dsimp only at H)
 obtain ⟨c7, H⟩ := ip_ H; have cE := eq_true c7; have cF : decide (1 ≤ (L.length : Int)) = true := dt_ c7; clear c7; obtain ⟨ag, hy_⟩ : ∃ y_ : List ByteArray, y_ = (L.drop 1) := ⟨_, rfl⟩; replace H : ((impl_numbersOf.f k ag bv).bind fun Z => (if aP = true then (impl_planned.j0 k L Z.1 (!Z.2) a0_0 a0_1 a0_2) else (impl_planned.j0 k L Z.1 true a0_0 a0_1 a0_2))) = some (r1, r2, r3, r4, r5, r6, r7, r8, r9, r10) := yh_
 have aQ := Aside0.mk hy_; clear hy_; obtain ⟨⟨G, cG⟩, A8, H⟩ := bo_ H; (try dsimp only at H); have bZ := Aside0.mk H; clear H
 go_enter Tryz.func30, Tryz.ntmps30
 go_upto_region 5 with (first | ((with_reducible refine gate_dst (N := 2) rfl ?_); refine bz_ 2 ?_; intro a0 hg h1 hbox hb; obtain ⟨I, eF, eG, HB⟩ := nb_ hg hbox HB hb; clear hb hbox hg) | ((with_reducible refine gate_dst (N := 4) rfl ?_); refine bz_ 4 ?_; intro J hg h2 hbox hb; obtain ⟨A, eH, eI, HB⟩ := nb_ hg hbox HB hb; have B := nx_ hg I; have E := ny_ hg I; replace I := bb_ I hb; clear hb hbox hg) | ((with_reducible refine gc_ 28 ?_); refine gw_ (some 13) Tryz.func28 ?_; (with_reducible refine (strings_Split.calls a1 (⟨#[32]⟩ : ByteArray) L _ A3.out).mono ?_); rintro e h3 ⟨ga, rfl, ad, hb⟩; refine ⟨_, rfl, ?_⟩; have U := Aside0.mk (Kd.R_lower ad (below_size (be_ HB.out))); replace I := bb_ I hb; replace A := bb_ A hb; replace HB := hb_ HB hb; (try clear hb ad)) | ((with_reducible refine gate_dst (N := 14) rfl ?_); refine kinds_step (by simp) rfl rfl rfl rfl rfl rfl rfl rfl rfl rfl rfl rfl rfl rfl rfl rfl rfl rfl rfl rfl rfl ?_; intro h4 bm_ hm_ hb; have HM_ := Aside0.mk hm_; clear hm_; replace U := rb_ U hb; replace I := bb_ I hb; replace A := bb_ A hb; replace HB := hb_ HB hb; (try clear hb); obtain ⟨gb, al, cH⟩ := Kd.R_slice U.out; subst cH; have aH : 0 ≤ (0 : Int) := (by omega); have aI : 0 < (L.length : Int) := od_; obtain ⟨ae, cI, ah⟩ := Kd.at_string (Kd.R_reads' U.out).2.2 0 aH aI; cases cI; have eJ : (0 < L.length) = True := eq_true (by omega); (try rw [show ((0 : Int)).toNat = 0 from rfl] at ah); (try rw [Addr.add_zero'] at ah); replace aH := eq_true aH; replace aI := eq_true aI) | ((with_reducible refine gate_dst (N := 21) rfl ?_); refine look_step rfl _ _ rfl rfl HM_.out _ rfl bv aP A6.out ?_; intro h5 hb; replace U := rb_ U hb; replace I := bb_ I hb; replace A := bb_ A hb; replace HB := hb_ HB hb; (try clear hb); have aR : (1 : Int) ≤ ((L.length : Int) : Int) := od_; obtain ⟨i016, aS, _, hsz16, _⟩ := info_parts info9; have hroom16 : L.length ≤ al := (Kd.R_reads' U.out).2.1; have hC16 : Kd.C Kd.string _ (some ae) L.length L := (Kd.R_reads' U.out).2.2; have hcut16 := cut_from (P := Tryz.prog) 50 9 .i64 Tryz.underlying50 aS 1 hsz16 (some ae) L.length al 1 (by omega) aR; have aq := Kd.C_drop (m := (1 : Int).toNat) (c := al) hC16 (by omega) hroom16; obtain ⟨eK, hA16⟩ : ∃ A1, A1 = (if al = (1 : Int).toNat then (some ae) else ((some ae) : Option Addr).map (·.add ((1 : Int).toNat * 1))) := ⟨_, rfl⟩; obtain ⟨cJ, aT⟩ : ∃ c1, c1 = al - (1 : Int).toNat := ⟨_, rfl⟩; have hy16 : ag.length = L.length - (1 : Int).toNat := (by rw [aQ.out, List.length_drop] <;> omega); rw [show (L).drop (1 : Int).toNat = ag from aQ.out.symm] at aq; replace aq : Kd.C Kd.string _ eK ag.length ag := (by rw [hA16]; exact aq); rw [← hy16, ← hA16, ← aT] at hcut16; have M := Aside0.mk aq; have c0 := Aside0.mk (show ag.length ≤ cJ from by rw [hy16, aT]; exact Nat.sub_le_sub_right hroom16 _); clear aq hC16 hroom16 aS hsz16 aT; have KY16 := Aside0.mk hy16; have KA16 := Aside0.mk hA16; clear hy16 hA16; have KL16 := Aside0.mk (show 1 ≤ L.length from by omega); replace aR := eq_true aR) | ((with_reducible refine gc_ 29 ?_); refine gw_ (some 28) Tryz.func29 ?_; (with_reducible refine (impl_numbersOf.calls ?side1 ?side2 A8.out).mono ?_); (case side1 => repeat (first | exact (by repeat (first | (with_reducible exact M.out) | (with_reducible refine Kd.C_alloc ?_ _) | (with_reducible refine Kd.C_drewN ?_ _) | (with_reducible refine Kd.C_drew ?_) | exact M.out)) | (with_reducible refine Kd.C_alloc ?_ _) | (with_reducible refine Kd.C_drewN ?_ _) | (with_reducible refine Kd.C_drew ?_))); (case side2 => exact c0.out); rintro e h6 ⟨cK, rfl, ad, hb⟩; refine ⟨_, rfl, ?_⟩; replace U := rb_ U hb; have aU := Aside0.mk (Kd.R_lower ad (below_size (be_ HB.out))); replace I := bb_ I hb; replace A := bb_ A hb; replace M := Aside0.mk (Kd.C_below (by repeat (first | (with_reducible exact M.out) | (with_reducible refine Kd.C_alloc ?_ _) | (with_reducible refine Kd.C_drewN ?_ _) | (with_reducible refine Kd.C_drew ?_) | exact M.out)) hb); replace HB := hb_ HB hb; (try clear hb ad)))
 (try simp only [Act.put, List.setIfInBounds_toArray, List.set_cons_zero, List.set_cons_succ])
 go_cut [36] (fun v36 wc => ∃ (kq : Nat) (aD : Bool) (bw : Option Addr), v36 = .bool aD ∧ Aside0 (impl_planned.j0 kq L G aD a0_0 a0_1 a0_2 = some (r1, r2, r3, r4, r5, r6, r7, r8, r9, r10)) ∧ Aside0 (kq ≤ k) ∧ Aside0 (Kd.R Kd.string 9 wc w.heap.size (fun _ => True) (.slice (some ae) L.length al) L) ∧ Aside0 (Kd.R (Kd.int .i64) 3 wc w.heap.size (fun _ => True) cK G) ∧ Aside0 (wc.heap[a0]? = some (.cells #[.int .i64 a0_0, .int .i64 a0_1, .int .i64 a0_2] 23 (0, 0))) ∧ Aside0 (wc.heap[J]? = some (.cells #[.int .i64 0, .int .i64 0, .int .i64 0, .int .i64 0, .int .i64 0, .int .i64 0, .int .i64 0, (.slice none 0 0), (.slice none 0 0)] 55 (0, 0))) ∧ Aside0 (Kd.C Kd.string wc bw ag.length ag) ∧ Aside0 (Below w.heap.size w wc))
 case first =>
  have H := bZ.out; clear bZ
  by_cases aV : aP = true
  ·
   subst aV; rw [if_pos rfl] at H; have H' := Aside0.mk H; clear H
   go_wp2
   go_meet
   case rel => exact ⟨_, (!cG), _, rl_, H', ⟨ro_⟩, ⟨ra_ U.out⟩, ⟨ra_ aU.out⟩, ⟨bu_ I.out⟩, ⟨bu_ A.out⟩, ⟨by repeat (first | (with_reducible exact M.out) | (with_reducible refine Kd.C_alloc ?_ _) | (with_reducible refine Kd.C_drewN ?_ _) | (with_reducible refine Kd.C_drew ?_) | exact M.out)⟩, ⟨be_ HB.out⟩⟩
  ·
   replace aV := fb_ aV; subst aV; replace H := if0_ H
   have H' := Aside0.mk H; clear H
   go_wp2
   go_meet
   case rel => exact ⟨_, (true), _, rl_, H', ⟨ro_⟩, ⟨ra_ U.out⟩, ⟨ra_ aU.out⟩, ⟨bu_ I.out⟩, ⟨bu_ A.out⟩, ⟨by repeat (first | (with_reducible exact M.out) | (with_reducible refine Kd.C_alloc ?_ _) | (with_reducible refine Kd.C_drewN ?_ _) | (with_reducible refine Kd.C_drew ?_) | exact M.out)⟩, ⟨be_ HB.out⟩⟩
 case rest =>
  clear bZ; (try clear c1); (try clear q1); (try clear c2); (try clear p2); (try clear c3); (try clear p4); (try clear q4); (try clear hx4); (try clear qi4); (try clear c5); (try clear cC); (try clear cD); (try clear c7); (try clear cE); (try clear cF); (try clear c9); (try clear cJ); (try clear aR); (try clear aV); (try clear ah); (try clear aH); (try clear aR); (try clear aI); obtain ⟨kq, aD, bw, rfl, HA, h7, O, D, I, A, M, HB⟩ := hcut
  cases kq with
  | zero => exact absurd HA.out (by simp [impl_planned.j0])
  | succ kj8 =>
   have H := HA.out; clear HA; simp only [impl_planned.j0] at H
   replace H := icb_ H; obtain ⟨rfl, H⟩ | ⟨rfl, H⟩ := H
   ·
    simp only [Option.some.injEq, Prod.mk.injEq] at H; obtain ⟨rfl, rfl, rfl, rfl, rfl, rfl, rfl, rfl, rfl, rfl⟩ := H; have eL := nn_ E B; have eM := box9_ A.out
    go_wp2
    refine bodyPost_ret (results_ct rfl _ _ J 55 #[.int .i64 0, .int .i64 0, .int .i64 0, .int .i64 0, .int .i64 0, .int .i64 0, .int .i64 0, .slice none 0 0, .slice none 0 0] (0, 0) _ rfl (bq_ A.out) Tryz.underlying55 rfl (by kernel_rfl)) rfl ?_; exact ⟨_, _, by first | rfl | (simp [errW_none, errW_some] <;> rfl) | (simp [*, errW_none, errW_some] <;> rfl), by first | exact Kd.R_nil _ _ _ _ _ | exact Kd.N_nil _ _ _ _ _ | exact Kd.V_nil _ _ _ _ _ | exact Kd.Q_nil _ _ _ _ _ | exact Kd.S_nil _ _ _ _ _, by first | exact Kd.R_nil _ _ _ _ _ | exact Kd.N_nil _ _ _ _ _ | exact Kd.V_nil _ _ _ _ _ | exact Kd.Q_nil _ _ _ _ _ | exact Kd.S_nil _ _ _ _ _, be_ HB.out⟩
   ·
    obtain ⟨cL, H⟩ := ip_ H; have eN : decide (0 < (L.length : Int)) = true := dt_ cL; have eO : decide (0 < L.length) = true := decide_eq_true (by omega); clear cL
    have aW : 0 ≤ (0 : Int) := (by omega)
    have aX : 0 < (L.length : Int) := od_
    obtain ⟨ca, cM, ar⟩ := Kd.at_string (Kd.R_reads' O.out).2.2 0 aW aX; obtain rfl : ae = ca := (by injection cM)
    have eP : (0 < L.length) = True := eq_true (by omega)
    (try rw [show ((0 : Int)).toNat = 0 from rfl] at ar); (try rw [Addr.add_zero'] at ar); replace aW := eq_true aW; replace aX := eq_true aX; refine Aside0.out ?_
    replace H := ic_ H; obtain ⟨aJ, H⟩ | ⟨aJ, H⟩ := H
    ·
     have cb : ((rdOf ByteArray.empty L 0).toList == ([100, 101, 110, 115, 101] : List UInt8)) = true := beq_iff_eq.mpr aJ; have cc : ((rdOf ByteArray.empty L 0).toList != ([100, 101, 110, 115, 101] : List UInt8)) = false := bne_eq_false_iff_eq.mpr aJ; clear aJ
     obtain ⟨cN, H⟩ := ip_ H; have eQ : decide (0 < (G.length : Int)) = true := dt_ cN; have eR : decide (0 < G.length) = true := decide_eq_true (by omega); clear cN; obtain ⟨bx, eS, H⟩ := bo_ H; (try dsimp only at H)
     obtain ⟨cd, H⟩ := ip_ H; have eT := eq_true cd; have eU : decide (1 ≤ (G.length : Int)) = true := dt_ cd; clear cd; obtain ⟨ai, hy_⟩ : ∃ y_ : List Int, y_ = (G.drop 1) := ⟨_, rfl⟩; replace H : ((impl_filled.f 0 (rd G 0) 0 0 0 0 0 ([] : List Int) ([] : List Int) bx ai).bind fun W => (some (W.1, W.2.1, W.2.2.1, W.2.2.2.1, W.2.2.2.2.1, W.2.2.2.2.2.1, W.2.2.2.2.2.2.1, W.2.2.2.2.2.2.2.1, W.2.2.2.2.2.2.2.2.1, W.2.2.2.2.2.2.2.2.2))) = some (r1, r2, r3, r4, r5, r6, r7, r8, r9, r10) := yh_
     have aY := Aside0.mk hy_; clear hy_; obtain ⟨⟨bz, bA, bB, bC, bD, bE, bF, bG, bH, cO⟩, eV, H⟩ := bo_ H; (try dsimp only at H); simp only [Option.some.injEq, Prod.mk.injEq] at H; obtain ⟨rfl, rfl, rfl, rfl, rfl, rfl, rfl, rfl, rfl, rfl⟩ := H; refine ⟨?_⟩
     try go_wp2
     replace O := Aside0.mk (Kd.R_drew O.out); replace D := Aside0.mk (Kd.R_drew D.out); replace I := Aside0.mk (blk_drew I.out); replace A := Aside0.mk (blk_drew A.out); replace M := Aside0.mk (Kd.C_drew M.out); replace HB := Aside0.mk (below_drew1 HB.out); obtain ⟨gc, au, bI⟩ := Kd.R_slice D.out
     (first | subst bI | (injection bI with f1_ f2_ f3_; have f4_ := f1_.symm; have f5_ := f3_.symm; clear f1_ f2_ f3_; subst f4_; subst f5_))
     have aZ : 0 ≤ (0 : Int) := (by omega)
     have b0 : 0 < (G.length : Int) := od_
     obtain ⟨aj, cP, a2⟩ := Kd.at_int (Kd.R_reads' D.out).2.2 0 aZ b0
     cases cP
     have eW : (0 < G.length) = True := eq_true (by omega); (try rw [show ((0 : Int)).toNat = 0 from rfl] at a2); (try rw [Addr.add_zero'] at a2); replace aZ := eq_true aZ; replace b0 := eq_true b0; have ce : (1 : Int) ≤ ((G.length : Int) : Int) := od_; obtain ⟨i030, b1, _, hsz30, _⟩ := info_parts info3; have hroom30 : G.length ≤ au := (Kd.R_reads' D.out).2.1; have hC30 : Kd.C (Kd.int .i64) _ (some aj) G.length G := (Kd.R_reads' D.out).2.2; have hcut30 := cut_from (P := Tryz.prog) 47 3 .i64 Tryz.underlying47 b1 1 hsz30 (some aj) G.length au 1 (by omega) ce; have av := Kd.C_drop (m := (1 : Int).toNat) (c := au) hC30 (by omega) hroom30; obtain ⟨eX, hA30⟩ : ∃ A1, A1 = (if au = (1 : Int).toNat then (some aj) else ((some aj) : Option Addr).map (·.add ((1 : Int).toNat * 1))) := ⟨_, rfl⟩; obtain ⟨eY, b2⟩ : ∃ c1, c1 = au - (1 : Int).toNat := ⟨_, rfl⟩; have hy30 : ai.length = G.length - (1 : Int).toNat := (by rw [aY.out, List.length_drop] <;> omega); rw [show (G).drop (1 : Int).toNat = ai from aY.out.symm] at av; replace av : Kd.C (Kd.int .i64) _ eX ai.length ai := (by rw [hA30]; exact av); rw [← hy30, ← hA30, ← b2] at hcut30; have Y := Aside0.mk av; have cf := Aside0.mk (show ai.length ≤ eY from by rw [hy30, b2]; exact Nat.sub_le_sub_right hroom30 _); clear av hC30 hroom30 b1 hsz30 b2; have KY30 := Aside0.mk hy30; have KA30 := Aside0.mk hA30; clear hy30 hA30; have KL30 := Aside0.mk (show 1 ≤ G.length from by omega); replace ce := eq_true ce; refine sta_ 13 (fun w' => CE_ w' a0 0 (.int .i64 a0_0) ∧ CE_ w' a0 1 (.int .i64 a0_1) ∧ CE_ w' a0 2 (.int .i64 a0_2) ∧ w'.cell? aj = some (.int .i64 (rd G 0))) ⟨bk_ I 0, bk_ I 1, bk_ I 2, a2⟩ (fun hHeld => ?_); refine with_tabW impl_planned.tab9 impl_planned.bits9 (fun HT_ HW_ => ?_); generalize wc.drew = h8 at O D I A M HB Y a2 hHeld ⊢; refine pv_ 0 13 1 ?_; refine pv_ 1 13 3 ?_; refine pv_ 6 13 67 ?_; refine pv_ 7 13 195 ?_; refine tv_ 2 13 199 ?_; refine pv_ 3 13 207 ?_; refine tv_ 4 13 223 ?_; refine one_ (i := 5) (N := some 48) (bl_ 13 255) rfl rfl (one_of HT_.out (by kernel_rfl)) (by decide) (fun K hK => ?_); refine gv_ Tryz.func67 ?_
     (with_reducible refine (impl_SizeOf.calls eS.out).mono ?_)
     rintro e h9 ⟨rfl, hb⟩; have aw := cw_ hb hHeld.2.2.2; refine ⟨_, rfl, ?_⟩; replace O := rb_ O hb; replace D := rb_ D hb; replace I := bb_ I hb; replace A := bb_ A hb; replace M := Aside0.mk (Kd.C_below (by repeat (first | (with_reducible exact M.out) | (with_reducible refine Kd.C_alloc ?_ _) | (with_reducible refine Kd.C_drewN ?_ _) | (with_reducible refine Kd.C_drew ?_) | exact M.out)) hb); replace Y := Aside0.mk (Kd.C_below (by repeat (first | (with_reducible exact Y.out) | (with_reducible refine Kd.C_alloc ?_ _) | (with_reducible refine Kd.C_drewN ?_ _) | (with_reducible refine Kd.C_drew ?_) | exact Y.out)) hb); replace HB := hb_ HB hb; (try clear hb); refine hK.out _ _ ⟨bk_ I 0, bk_ I 1, bk_ I 2, aw⟩ (fun hHeld => ?_); clear hK K; refine nm_ 48 (h := ?_); refine one_ (i := 8) (N := some 51) (bl_ 13 511) rfl rfl (one_of HT_.out (by kernel_rfl)) (by decide) (fun K hK => ?_); refine gv_ Tryz.func66 ?_; refine (impl_filled.calls 0 (rd G 0) 0 0 0 0 0 _ _ ([] : List Int) _ _ ([] : List Int) bx _ _ ai bz bA bB bC bD bE bF bG bH cO _ ?side1 ?side2 ?side3 ?side4 ?side5 ?side6 eV.out).mono ?_; (case side1 => exact Kd.C_nil _ _); (case side2 => exact Nat.le_refl _); (case side3 => exact Kd.C_nil _ _); (case side4 => exact Nat.le_refl _); (case side5 => repeat (first | exact (by repeat (first | (with_reducible exact Y.out) | (with_reducible refine Kd.C_alloc ?_ _) | (with_reducible refine Kd.C_drewN ?_ _) | (with_reducible refine Kd.C_drew ?_) | exact Y.out)) | (with_reducible refine Kd.C_alloc ?_ _) | (with_reducible refine Kd.C_drewN ?_ _) | (with_reducible refine Kd.C_drew ?_))); (case side6 => exact cf.out); rintro e am ⟨gf, gg, rfl, ad, aE, hb⟩; have aw := cw_ hb hHeld.2.2.2; refine ⟨_, rfl, ?_⟩; replace O := rb_ O hb; have b3 := Aside0.mk (Kd.R_lower (Kd.R_new' ad (Kd.R_lt (ra_ D.out))) (below_size (be_ HB.out))); have b4 := Aside0.mk (Kd.R_lower (Kd.R_new' aE (Kd.R_lt (ra_ D.out))) (below_size (be_ HB.out))); replace D := Aside0.mk (Kd.R_mono (Kd.R_told (Kd.R_told (Kd.R_old (ra_ D.out) hb) (Kd.R_base ad)) (Kd.R_base aE)) (fun _ h_ => h_.1)); replace I := bb_ I hb; replace A := bb_ A hb; replace M := Aside0.mk (Kd.C_below (by repeat (first | (with_reducible exact M.out) | (with_reducible refine Kd.C_alloc ?_ _) | (with_reducible refine Kd.C_drewN ?_ _) | (with_reducible refine Kd.C_drew ?_) | exact M.out)) hb); replace Y := Aside0.mk (Kd.C_below (by repeat (first | (with_reducible exact Y.out) | (with_reducible refine Kd.C_alloc ?_ _) | (with_reducible refine Kd.C_drewN ?_ _) | (with_reducible refine Kd.C_drew ?_) | exact Y.out)) hb); replace HB := hb_ HB hb; (try clear hb ad aE); obtain ⟨cQ, cR, bJ⟩ := Kd.R_slice b3.out; (first | subst bJ | (injection bJ with f1_ f2_ f3_; have f4_ := f1_.symm; have f5_ := f3_.symm; clear f1_ f2_ f3_; subst f4_; subst f5_)); obtain ⟨cS, cT, bK⟩ := Kd.R_slice b4.out; (first | subst bK | (injection bK with f1_ f2_ f3_; have f4_ := f1_.symm; have f5_ := f3_.symm; clear f1_ f2_ f3_; subst f4_; subst f5_)); refine hK.out _ _ ⟨bk_ I 0, bk_ I 1, bk_ I 2, aw⟩ (fun hHeld => ?_); clear hK K; refine nm_ 51 (h := ?_); refine pv_ 9 13 1023 ?_; refine pv_ 10 13 2047 ?_; refine one_ (i := 11) (N := none) (bl_ 13 4095) rfl rfl (one_of HT_.out (by kernel_rfl)) (by decide) (fun K hK => ?_); have gh : am.cell? ⟨J, 0, none⟩ = some (.int .i64 0) := bk_ A 0; have eZ := blk_frozen A.out 0; have cU := B.out; have cV := E.out; have gi : am.cell? ⟨J, 1, none⟩ = some (.int .i64 0) := bk_ A 1; have f0 := blk_frozen A.out 1; have cW := B.out; have cX := E.out; have gj : am.cell? ⟨J, 2, none⟩ = some (.int .i64 0) := bk_ A 2; have f1 := blk_frozen A.out 2; have cY := B.out; have cZ := E.out; have gl : am.cell? ⟨J, 3, none⟩ = some (.int .i64 0) := bk_ A 3; have f2 := blk_frozen A.out 3; have d0 := B.out; have d1 := E.out; have gm : am.cell? ⟨J, 4, none⟩ = some (.int .i64 0) := bk_ A 4; have f3 := blk_frozen A.out 4; have d2 := B.out; have d3 := E.out; have gn : am.cell? ⟨J, 5, none⟩ = some (.int .i64 0) := bk_ A 5; have f4 := blk_frozen A.out 5; have d4 := B.out; have d5 := E.out; have go : am.cell? ⟨J, 6, none⟩ = some (.int .i64 0) := bk_ A 6; have f5 := blk_frozen A.out 6; have d6 := B.out; have d7 := E.out; have gp : am.cell? ⟨J, 7, none⟩ = some (.slice none 0 0) := bk_ A 7; have f6 := blk_frozen A.out 7; have d8 := B.out; have d9 := E.out; have gq : am.cell? ⟨J, 8, none⟩ = some (.slice none 0 0) := bk_ A 8; have f7 := blk_frozen A.out 8; have da := B.out; have db := E.out; refine skip_ (w1 := ?_) (by rfl) rfl ?_ ?_
     rotate_left
     ·
      go_simp
      rfl
     refine hK.out _ _ ⟨(cfn_ B.out ((cfn_ B.out ((cfn_ B.out ((cfn_ B.out ((cfn_ B.out ((c3_ B.out ((cfn_ B.out (hHeld.1)))))))))))))), (cfn_ B.out ((cfn_ B.out ((cfn_ B.out ((cfn_ B.out ((cfn_ B.out ((c3_ B.out ((cfn_ B.out (hHeld.2.1)))))))))))))), (cfn_ B.out ((cfn_ B.out ((cfn_ B.out ((cfn_ B.out ((cfn_ B.out ((c3_ B.out ((cfn_ B.out (hHeld.2.2.1)))))))))))))), (cff_ (Kd.own_blk (Kd.R_ne D.out A.out (by decide))) ((cff_ (Kd.own_blk (Kd.R_ne D.out A.out (by decide))) ((cff_ (Kd.own_blk (Kd.R_ne D.out A.out (by decide))) ((cff_ (Kd.own_blk (Kd.R_ne D.out A.out (by decide))) ((cff_ (Kd.own_blk (Kd.R_ne D.out A.out (by decide))) ((cff_ (Kd.own_blk (Kd.R_ne D.out A.out (by decide))) ((cff_ (Kd.own_blk (Kd.R_ne D.out A.out (by decide))) ((cff_ (Kd.own_blk (Kd.R_ne D.out A.out (by decide))) ((cff_ (Kd.own_blk (Kd.R_ne D.out A.out (by decide))) (hHeld.2.2.2))))))))))))))))))⟩ (fun hHeld => ?_); clear hK K; refine pv_ 12 13 8191 ?_; refine done_ (done_of HT_.out (by kernel_rfl)) ?_
     try go_wp2
     refine bodyPost_ret (results_ct rfl _ _ J 55 #[.int .i64 bz, .int .i64 bA, .int .i64 bB, .int .i64 bC, .int .i64 bD, .int .i64 bE, .int .i64 bF, .slice cQ bG.length cR, .slice cS bH.length cT] (0, 0) _ rfl (bq_ A.out) Tryz.underlying55 rfl (by kernel_rfl)) rfl ?_; exact ⟨_, _, by first | rfl | (simp [errW_none, errW_some] <;> rfl) | (simp [*, errW_none, errW_some] <;> rfl), by (with_reducible repeat (first | apply Kd.R_alloc | apply Kd.R_drewN | apply Kd.R_drew)); exact Kd.R_mono (rs9_ (Kd.R_types b3.out A.out (by decide)) (fun _ hk => hk.2)) (fun _ hk => hk.1.1), by (with_reducible repeat (first | apply Kd.R_alloc | apply Kd.R_drewN | apply Kd.R_drew)); exact Kd.R_mono (rs9_ (Kd.R_types b4.out A.out (by decide)) (fun _ hk => hk.2)) (fun _ hk => hk.1.1), be_ HB.out⟩
    ·
     have cb : ((rdOf ByteArray.empty L 0).toList == ([100, 101, 110, 115, 101] : List UInt8)) = false := beq_eq_false_iff_ne.mpr aJ; have cc : ((rdOf ByteArray.empty L 0).toList != ([100, 101, 110, 115, 101] : List UInt8)) = true := bne_iff_ne.mpr aJ
     replace H := ic_ H; obtain ⟨aK, H⟩ | ⟨aK, H⟩ := H
     ·
      have cg : ((rdOf ByteArray.empty L 0).toList == ([99, 111, 110, 118] : List UInt8)) = true := beq_iff_eq.mpr aK; have ch : ((rdOf ByteArray.empty L 0).toList != ([99, 111, 110, 118] : List UInt8)) = false := bne_eq_false_iff_eq.mpr aK; clear aK
      refine ⟨?_⟩; obtain ⟨gr, ax, dc⟩ := Kd.R_slice D.out; subst dc
      have ay : 0 ≤ (1 : Int) := (by omega)
      refine Aside0.out ?_
      obtain ⟨dd, H⟩ := ip_ H; have f8 : decide (1 < (G.length : Int)) = true := dt_ dd; have f9 : decide (1 < G.length) = true := decide_eq_true (by omega); clear dd; obtain ⟨gs, de, H⟩ := bo_ H; (try dsimp only at H)
      refine ⟨?_⟩
      have az : 1 < (G.length : Int) := od_
      obtain ⟨T, bL, a3⟩ := Kd.at_int (Kd.R_reads' D.out).2.2 1 ay az; refine Aside0.out ?_
      replace H := icb_ H; obtain ⟨rfl, H⟩ | ⟨rfl, H⟩ := H
      ·
       obtain ⟨df, H⟩ := ip_ H; have fa : decide (0 < (G.length : Int)) = true := dt_ df; have fb : decide (0 < G.length) = true := decide_eq_true (by omega); clear df
       obtain ⟨dg, H⟩ := ip_ H; have fc : decide (2 < (G.length : Int)) = true := dt_ dg; have fd : decide (2 < G.length) = true := decide_eq_true (by omega); clear dg
       obtain ⟨ci, H⟩ := ip_ H; have fe := eq_true ci; have ff : decide (3 ≤ (G.length : Int)) = true := dt_ ci; clear ci; obtain ⟨ak, hy_⟩ : ∃ y_ : List Int, y_ = (G.drop 3) := ⟨_, rfl⟩; replace H : ((impl_filled.f 1 (rd G 0) (rd G 1) (rd G 2) 0 0 0 ([] : List Int) ([] : List Int) (wrap64 ((wrap64 ((rd G 1) * (rd G 1))) * a0_2)) ak).bind fun X => (some (X.1, X.2.1, X.2.2.1, X.2.2.2.1, X.2.2.2.2.1, X.2.2.2.2.2.1, X.2.2.2.2.2.2.1, X.2.2.2.2.2.2.2.1, X.2.2.2.2.2.2.2.2.1, X.2.2.2.2.2.2.2.2.2))) = some (r1, r2, r3, r4, r5, r6, r7, r8, r9, r10) := yh_
       have b5 := Aside0.mk hy_; clear hy_; obtain ⟨⟨bM, bN, bO, bP, bQ, bR, bS, bT, bU, dh⟩, fg, H⟩ := bo_ H; (try dsimp only at H); simp only [Option.some.injEq, Prod.mk.injEq] at H; obtain ⟨rfl, rfl, rfl, rfl, rfl, rfl, rfl, rfl, rfl, rfl⟩ := H; refine ⟨?_⟩
       cases bL
       (try simp only [show (1 : Int).toNat = 1 from rfl, Nat.reduceMul, Nat.reduceEqDiff, Go.Addr.add, ↓reduceIte] at a3); have cj : (1 < G.length) = True := eq_true (by omega); (try rw [show ((1 : Int)).toNat = 1 from rfl] at a3); replace ay := eq_true ay; replace az := eq_true az
       try go_wp2_with (first | ((with_reducible refine gc_ 56 ?_); refine gw_ (some 59) Tryz.func56 ?_; (with_reducible refine (impl_in.calls de.out).mono ?_); rintro e w' ⟨rfl, ⟨nd, rfl⟩⟩; refine ⟨_, rfl, ?_⟩; (try (rw [drewN_self wc]; generalize hq_ : World.drewN wc _ = wc; replace O := Aside0.mk (Kd.R_at hq_ O.out); replace D := Aside0.mk (Kd.R_at hq_ D.out); replace I := Aside0.mk (blk_at hq_ I.out); replace A := Aside0.mk (blk_at hq_ A.out); replace M := Aside0.mk (Kd.C_at hq_ M.out); replace HB := Aside0.mk (below_at hq_ HB.out); clear hq_))))
       replace O := Aside0.mk (Kd.R_drew O.out); replace D := Aside0.mk (Kd.R_drew D.out); replace I := Aside0.mk (blk_drew I.out); replace A := Aside0.mk (blk_drew A.out); replace M := Aside0.mk (Kd.C_drew M.out); replace HB := Aside0.mk (below_drew1 HB.out); have b6 : 0 ≤ (0 : Int) := (by omega); have b7 : 0 < (G.length : Int) := od_; obtain ⟨ck, di, a4⟩ := Kd.at_int (Kd.R_reads' D.out).2.2 0 b6 b7; obtain rfl : T = ck := (by injection di); have fh : (0 < G.length) = True := eq_true (by omega); (try rw [show ((0 : Int)).toNat = 0 from rfl] at a4); (try rw [Addr.add_zero'] at a4); replace b6 := eq_true b6; replace b7 := eq_true b7; have b8 : 0 ≤ (1 : Int) := (by omega); have b9 : 1 < (G.length : Int) := od_; obtain ⟨cl, dj, a5⟩ := Kd.at_int (Kd.R_reads' D.out).2.2 1 b8 b9; obtain rfl : T = cl := (by injection dj); (try simp only [show (1 : Int).toNat = 1 from rfl, Nat.reduceMul, Nat.reduceEqDiff, Go.Addr.add, ↓reduceIte] at a5); have fi : (1 < G.length) = True := eq_true (by omega); (try rw [show ((1 : Int)).toNat = 1 from rfl] at a5); replace b8 := eq_true b8; replace b9 := eq_true b9; have ba : 0 ≤ (2 : Int) := (by omega); have bb : 2 < (G.length : Int) := od_; obtain ⟨cm, dk, a6⟩ := Kd.at_int (Kd.R_reads' D.out).2.2 2 ba bb; obtain rfl : T = cm := (by injection dk); (try simp only [show (2 : Int).toNat = 2 from rfl, Nat.reduceMul, Nat.reduceEqDiff, Go.Addr.add, ↓reduceIte] at a6); have fj : (2 < G.length) = True := eq_true (by omega); (try rw [show ((2 : Int)).toNat = 2 from rfl] at a6); replace ba := eq_true ba; replace bb := eq_true bb; have bc : 0 ≤ (1 : Int) := (by omega); have bd : 1 < (G.length : Int) := od_; obtain ⟨cn, dl, a7⟩ := Kd.at_int (Kd.R_reads' D.out).2.2 1 bc bd; obtain rfl : T = cn := (by injection dl); (try simp only [show (1 : Int).toNat = 1 from rfl, Nat.reduceMul, Nat.reduceEqDiff, Go.Addr.add, ↓reduceIte] at a7); have fk : (1 < G.length) = True := eq_true (by omega); (try rw [show ((1 : Int)).toNat = 1 from rfl] at a7); replace bc := eq_true bc; replace bd := eq_true bd; have be : 0 ≤ (1 : Int) := (by omega); have bf : 1 < (G.length : Int) := od_; obtain ⟨co, dm, a8⟩ := Kd.at_int (Kd.R_reads' D.out).2.2 1 be bf; obtain rfl : T = co := (by injection dm); (try simp only [show (1 : Int).toNat = 1 from rfl, Nat.reduceMul, Nat.reduceEqDiff, Go.Addr.add, ↓reduceIte] at a8); have fl : (1 < G.length) = True := eq_true (by omega); (try rw [show ((1 : Int)).toNat = 1 from rfl] at a8); replace be := eq_true be; replace bf := eq_true bf; have cp : (3 : Int) ≤ ((G.length : Int) : Int) := od_; obtain ⟨i054, bg, _, hsz54, _⟩ := info_parts info3; have hroom54 : G.length ≤ ax := (Kd.R_reads' D.out).2.1; have hC54 : Kd.C (Kd.int .i64) _ (some T) G.length G := (Kd.R_reads' D.out).2.2; have hcut54 := cut_from (P := Tryz.prog) 47 3 .i64 Tryz.underlying47 bg 1 hsz54 (some T) G.length ax 3 (by omega) cp; have aA := Kd.C_drop (m := (3 : Int).toNat) (c := ax) hC54 (by omega) hroom54; obtain ⟨fm, hA54⟩ : ∃ A1, A1 = (if ax = (3 : Int).toNat then (some T) else ((some T) : Option Addr).map (·.add ((3 : Int).toNat * 1))) := ⟨_, rfl⟩; obtain ⟨fn, bh⟩ : ∃ c1, c1 = ax - (3 : Int).toNat := ⟨_, rfl⟩; have hy54 : ak.length = G.length - (3 : Int).toNat := (by rw [b5.out, List.length_drop] <;> omega); rw [show (G).drop (3 : Int).toNat = ak from b5.out.symm] at aA; replace aA : Kd.C (Kd.int .i64) _ fm ak.length ak := (by rw [hA54]; exact aA); rw [← hy54, ← hA54, ← bh] at hcut54; have af := Aside0.mk aA; have cq := Aside0.mk (show ak.length ≤ fn from by rw [hy54, bh]; exact Nat.sub_le_sub_right hroom54 _); clear aA hC54 hroom54 bg hsz54 bh; have KY54 := Aside0.mk hy54; have KA54 := Aside0.mk hA54; clear hy54 hA54; have KL54 := Aside0.mk (show 3 ≤ G.length from by omega); replace cp := eq_true cp; refine sta_ 27 (fun w' => CE_ w' a0 0 (.int .i64 a0_0) ∧ CE_ w' a0 1 (.int .i64 a0_1) ∧ CE_ w' a0 2 (.int .i64 a0_2) ∧ w'.cell? T = some (.int .i64 (rd G 0)) ∧ CF_ w' T 1 (.int .i64 (rd G 1)) ∧ CF_ w' T 2 (.int .i64 (rd G 2)) ∧ CF_ w' T 1 (.int .i64 (rd G 1)) ∧ CF_ w' T 1 (.int .i64 (rd G 1))) ⟨bk_ I 0, bk_ I 1, bk_ I 2, a4, a5, a6, a7, a8⟩ (fun hHeld => ?_); refine with_tabW impl_planned.tab13 impl_planned.bits13 (fun HT_ HW_ => ?_); generalize wc.drew = ha at O D I A M HB af a4 a5 a6 a7 a8 hHeld ⊢; refine pv_ 0 27 1 ?_; refine pv_ 1 27 3 ?_; refine pv_ 3 27 11 ?_; refine pv_ 4 27 27 ?_; refine pv_ 6 27 91 ?_; refine pv_ 7 27 219 ?_; refine pv_ 10 27 1243 ?_; refine pv_ 11 27 3291 ?_; refine pv_ 13 27 11483 ?_; refine pv_ 14 27 27867 ?_; refine pv_ 17 27 158939 ?_; refine pv_ 20 27 1207515 ?_; refine pv_ 21 27 3304667 ?_; refine tv_ 2 27 3304671 ?_; refine tv_ 5 27 3304703 ?_; refine tv_ 8 27 3304959 ?_; refine pv_ 9 27 3305471 ?_; refine tv_ 12 27 3309567 ?_; refine tv_ 15 27 3342335 ?_; refine pv_ 16 27 3407871 ?_; refine tv_ 18 27 3670015 ?_; refine pv_ 19 27 4194303 ?_; refine one_ (i := 22) (N := some 84) (bl_ 27 8388607) rfl rfl (one_of HT_.out (by kernel_rfl)) (by decide) (fun K hK => ?_); refine gv_ Tryz.func66 ?_; refine (impl_filled.calls 1 (rd G 0) (rd G 1) (rd G 2) 0 0 0 _ _ ([] : List Int) _ _ ([] : List Int) (wrap64 ((wrap64 ((rd G 1) * (rd G 1))) * a0_2)) _ _ ak bM bN bO bP bQ bR bS bT bU dh _ ?side1 ?side2 ?side3 ?side4 ?side5 ?side6 fg.out).mono ?_; (case side1 => exact Kd.C_nil _ _); (case side2 => exact Nat.le_refl _); (case side3 => exact Kd.C_nil _ _); (case side4 => exact Nat.le_refl _); (case side5 => repeat (first | exact (by repeat (first | (with_reducible exact af.out) | (with_reducible refine Kd.C_alloc ?_ _) | (with_reducible refine Kd.C_drewN ?_ _) | (with_reducible refine Kd.C_drew ?_) | exact af.out)) | (with_reducible refine Kd.C_alloc ?_ _) | (with_reducible refine Kd.C_drewN ?_ _) | (with_reducible refine Kd.C_drew ?_))); (case side6 => exact cq.out); rintro e an ⟨gu, gv, rfl, ad, aE, hb⟩; have aw := cw_ hb hHeld.2.2.2.1; have dn := cw_ hb hHeld.2.2.2.2.1; have dp := cw_ hb hHeld.2.2.2.2.2.1; have dq := cw_ hb hHeld.2.2.2.2.2.2.1; have dr := cw_ hb hHeld.2.2.2.2.2.2.2; refine ⟨_, rfl, ?_⟩; replace O := rb_ O hb; have bi := Aside0.mk (Kd.R_lower (Kd.R_new' ad (Kd.R_lt (ra_ D.out))) (below_size (be_ HB.out))); have bj := Aside0.mk (Kd.R_lower (Kd.R_new' aE (Kd.R_lt (ra_ D.out))) (below_size (be_ HB.out))); replace D := Aside0.mk (Kd.R_mono (Kd.R_told (Kd.R_told (Kd.R_old (ra_ D.out) hb) (Kd.R_base ad)) (Kd.R_base aE)) (fun _ h_ => h_.1)); replace I := bb_ I hb; replace A := bb_ A hb; replace M := Aside0.mk (Kd.C_below (by repeat (first | (with_reducible exact M.out) | (with_reducible refine Kd.C_alloc ?_ _) | (with_reducible refine Kd.C_drewN ?_ _) | (with_reducible refine Kd.C_drew ?_) | exact M.out)) hb); replace af := Aside0.mk (Kd.C_below (by repeat (first | (with_reducible exact af.out) | (with_reducible refine Kd.C_alloc ?_ _) | (with_reducible refine Kd.C_drewN ?_ _) | (with_reducible refine Kd.C_drew ?_) | exact af.out)) hb); replace HB := hb_ HB hb; (try clear hb ad aE); obtain ⟨ds, dt, bV⟩ := Kd.R_slice bi.out; (first | subst bV | (injection bV with f1_ f2_ f3_; have f4_ := f1_.symm; have f5_ := f3_.symm; clear f1_ f2_ f3_; subst f4_; subst f5_)); obtain ⟨du, dw, bW⟩ := Kd.R_slice bj.out; (first | subst bW | (injection bW with f1_ f2_ f3_; have f4_ := f1_.symm; have f5_ := f3_.symm; clear f1_ f2_ f3_; subst f4_; subst f5_)); refine hK.out _ _ ⟨bk_ I 0, bk_ I 1, bk_ I 2, aw, dn, dp, dq, dr⟩ (fun hHeld => ?_); clear hK K; refine nm_ 84 (h := ?_); refine pv_ 23 27 16777215 ?_; refine pv_ 24 27 33554431 ?_; refine one_ (i := 25) (N := none) (bl_ 27 67108863) rfl rfl (one_of HT_.out (by kernel_rfl)) (by decide) (fun K hK => ?_); have gw : an.cell? ⟨J, 0, none⟩ = some (.int .i64 0) := bk_ A 0; have fo := blk_frozen A.out 0; have dx := B.out; have dy := E.out; have gx : an.cell? ⟨J, 1, none⟩ = some (.int .i64 0) := bk_ A 1; have fp := blk_frozen A.out 1; have dz := B.out; have dA := E.out; have gy : an.cell? ⟨J, 2, none⟩ = some (.int .i64 0) := bk_ A 2; have fq := blk_frozen A.out 2; have dC := B.out; have dD := E.out; have gz : an.cell? ⟨J, 3, none⟩ = some (.int .i64 0) := bk_ A 3; have fr := blk_frozen A.out 3; have dE := B.out; have dF := E.out; have gA : an.cell? ⟨J, 4, none⟩ = some (.int .i64 0) := bk_ A 4; have fs := blk_frozen A.out 4; have dG := B.out; have dH := E.out; have gB : an.cell? ⟨J, 5, none⟩ = some (.int .i64 0) := bk_ A 5; have ft := blk_frozen A.out 5; have dI := B.out; have dJ := E.out; have gC : an.cell? ⟨J, 6, none⟩ = some (.int .i64 0) := bk_ A 6; have fu := blk_frozen A.out 6; have dK := B.out; have dL := E.out; have gD : an.cell? ⟨J, 7, none⟩ = some (.slice none 0 0) := bk_ A 7; have fv := blk_frozen A.out 7; have dM := B.out; have dN := E.out; have gE : an.cell? ⟨J, 8, none⟩ = some (.slice none 0 0) := bk_ A 8; have fw := blk_frozen A.out 8; have dO := B.out; have dP := E.out; refine skip_ (w1 := ?_) (by rfl) rfl ?_ ?_
       rotate_left
       ·
        go_simp
        rfl
       refine hK.out _ _ ⟨(cfn_ B.out ((cfn_ B.out ((cfn_ B.out ((cfn_ B.out ((cfn_ B.out ((c3_ B.out ((cfn_ B.out (hHeld.1)))))))))))))), (cfn_ B.out ((cfn_ B.out ((cfn_ B.out ((cfn_ B.out ((cfn_ B.out ((c3_ B.out ((cfn_ B.out (hHeld.2.1)))))))))))))), (cfn_ B.out ((cfn_ B.out ((cfn_ B.out ((cfn_ B.out ((cfn_ B.out ((c3_ B.out ((cfn_ B.out (hHeld.2.2.1)))))))))))))), (cff_ (Kd.own_blk (Kd.R_ne D.out A.out (by decide))) ((cff_ (Kd.own_blk (Kd.R_ne D.out A.out (by decide))) ((cff_ (Kd.own_blk (Kd.R_ne D.out A.out (by decide))) ((cff_ (Kd.own_blk (Kd.R_ne D.out A.out (by decide))) ((cff_ (Kd.own_blk (Kd.R_ne D.out A.out (by decide))) ((cff_ (Kd.own_blk (Kd.R_ne D.out A.out (by decide))) ((cff_ (Kd.own_blk (Kd.R_ne D.out A.out (by decide))) ((cff_ (Kd.own_blk (Kd.R_ne D.out A.out (by decide))) ((cff_ (Kd.own_blk (Kd.R_ne D.out A.out (by decide))) (hHeld.2.2.2.1)))))))))))))))))), (cff_ (Kd.own_blk (Kd.R_ne D.out A.out (by decide))) ((cff_ (Kd.own_blk (Kd.R_ne D.out A.out (by decide))) ((cff_ (Kd.own_blk (Kd.R_ne D.out A.out (by decide))) ((cff_ (Kd.own_blk (Kd.R_ne D.out A.out (by decide))) ((cff_ (Kd.own_blk (Kd.R_ne D.out A.out (by decide))) ((cff_ (Kd.own_blk (Kd.R_ne D.out A.out (by decide))) ((cff_ (Kd.own_blk (Kd.R_ne D.out A.out (by decide))) ((cff_ (Kd.own_blk (Kd.R_ne D.out A.out (by decide))) ((cff_ (Kd.own_blk (Kd.R_ne D.out A.out (by decide))) (hHeld.2.2.2.2.1)))))))))))))))))), (cff_ (Kd.own_blk (Kd.R_ne D.out A.out (by decide))) ((cff_ (Kd.own_blk (Kd.R_ne D.out A.out (by decide))) ((cff_ (Kd.own_blk (Kd.R_ne D.out A.out (by decide))) ((cff_ (Kd.own_blk (Kd.R_ne D.out A.out (by decide))) ((cff_ (Kd.own_blk (Kd.R_ne D.out A.out (by decide))) ((cff_ (Kd.own_blk (Kd.R_ne D.out A.out (by decide))) ((cff_ (Kd.own_blk (Kd.R_ne D.out A.out (by decide))) ((cff_ (Kd.own_blk (Kd.R_ne D.out A.out (by decide))) ((cff_ (Kd.own_blk (Kd.R_ne D.out A.out (by decide))) (hHeld.2.2.2.2.2.1)))))))))))))))))), (cff_ (Kd.own_blk (Kd.R_ne D.out A.out (by decide))) ((cff_ (Kd.own_blk (Kd.R_ne D.out A.out (by decide))) ((cff_ (Kd.own_blk (Kd.R_ne D.out A.out (by decide))) ((cff_ (Kd.own_blk (Kd.R_ne D.out A.out (by decide))) ((cff_ (Kd.own_blk (Kd.R_ne D.out A.out (by decide))) ((cff_ (Kd.own_blk (Kd.R_ne D.out A.out (by decide))) ((cff_ (Kd.own_blk (Kd.R_ne D.out A.out (by decide))) ((cff_ (Kd.own_blk (Kd.R_ne D.out A.out (by decide))) ((cff_ (Kd.own_blk (Kd.R_ne D.out A.out (by decide))) (hHeld.2.2.2.2.2.2.1)))))))))))))))))), (cff_ (Kd.own_blk (Kd.R_ne D.out A.out (by decide))) ((cff_ (Kd.own_blk (Kd.R_ne D.out A.out (by decide))) ((cff_ (Kd.own_blk (Kd.R_ne D.out A.out (by decide))) ((cff_ (Kd.own_blk (Kd.R_ne D.out A.out (by decide))) ((cff_ (Kd.own_blk (Kd.R_ne D.out A.out (by decide))) ((cff_ (Kd.own_blk (Kd.R_ne D.out A.out (by decide))) ((cff_ (Kd.own_blk (Kd.R_ne D.out A.out (by decide))) ((cff_ (Kd.own_blk (Kd.R_ne D.out A.out (by decide))) ((cff_ (Kd.own_blk (Kd.R_ne D.out A.out (by decide))) (hHeld.2.2.2.2.2.2.2))))))))))))))))))⟩ (fun hHeld => ?_); clear hK K; refine pv_ 26 27 134217727 ?_; refine done_ (done_of HT_.out (by kernel_rfl)) ?_
       try go_wp2
       refine bodyPost_ret (results_ct rfl _ _ J 55 #[.int .i64 bM, .int .i64 bN, .int .i64 bO, .int .i64 bP, .int .i64 bQ, .int .i64 bR, .int .i64 bS, .slice ds bT.length dt, .slice du bU.length dw] (0, 0) _ rfl (bq_ A.out) Tryz.underlying55 rfl (by kernel_rfl)) rfl ?_; exact ⟨_, _, by first | rfl | (simp [errW_none, errW_some] <;> rfl) | (simp [*, errW_none, errW_some] <;> rfl), by (with_reducible repeat (first | apply Kd.R_alloc | apply Kd.R_drewN | apply Kd.R_drew)); exact Kd.R_mono (rs9_ (Kd.R_types bi.out A.out (by decide)) (fun _ hk => hk.2)) (fun _ hk => hk.1.1), by (with_reducible repeat (first | apply Kd.R_alloc | apply Kd.R_drewN | apply Kd.R_drew)); exact Kd.R_mono (rs9_ (Kd.R_types bj.out A.out (by decide)) (fun _ hk => hk.2)) (fun _ hk => hk.1.1), be_ HB.out⟩
      ·
       simp only [Option.some.injEq, Prod.mk.injEq] at H; obtain ⟨rfl, rfl, rfl, rfl, rfl, rfl, rfl, rfl, rfl, rfl⟩ := H; refine ⟨?_⟩
       cases bL
       (try simp only [show (1 : Int).toNat = 1 from rfl, Nat.reduceMul, Nat.reduceEqDiff, Go.Addr.add, ↓reduceIte] at a3); have cj : (1 < G.length) = True := eq_true (by omega); (try rw [show ((1 : Int)).toNat = 1 from rfl] at a3); replace ay := eq_true ay; replace az := eq_true az
       go_wp2_with (first | ((with_reducible refine gc_ 56 ?_); refine gw_ (some 59) Tryz.func56 ?_; (with_reducible refine (impl_in.calls de.out).mono ?_); rintro e w' ⟨rfl, ⟨nd, rfl⟩⟩; refine ⟨_, rfl, ?_⟩; (try (rw [drewN_self wc]; generalize hq_ : World.drewN wc _ = wc; replace O := Aside0.mk (Kd.R_at hq_ O.out); replace D := Aside0.mk (Kd.R_at hq_ D.out); replace I := Aside0.mk (blk_at hq_ I.out); replace A := Aside0.mk (blk_at hq_ A.out); replace M := Aside0.mk (Kd.C_at hq_ M.out); replace HB := Aside0.mk (below_at hq_ HB.out); clear hq_)); have fx := nn_ E B; have fy := box9_ A.out))
       refine bodyPost_ret (results_ct rfl _ _ J 55 #[.int .i64 0, .int .i64 0, .int .i64 0, .int .i64 0, .int .i64 0, .int .i64 0, .int .i64 0, .slice none 0 0, .slice none 0 0] (0, 0) _ rfl (bq_ A.out) Tryz.underlying55 rfl (by kernel_rfl)) rfl ?_; exact ⟨_, _, by first | rfl | (simp [errW_none, errW_some] <;> rfl) | (simp [*, errW_none, errW_some] <;> rfl), by first | exact Kd.R_nil _ _ _ _ _ | exact Kd.N_nil _ _ _ _ _ | exact Kd.V_nil _ _ _ _ _ | exact Kd.Q_nil _ _ _ _ _ | exact Kd.S_nil _ _ _ _ _, by first | exact Kd.R_nil _ _ _ _ _ | exact Kd.N_nil _ _ _ _ _ | exact Kd.V_nil _ _ _ _ _ | exact Kd.Q_nil _ _ _ _ _ | exact Kd.S_nil _ _ _ _ _, be_ HB.out⟩
     ·
      have cg : ((rdOf ByteArray.empty L 0).toList == ([99, 111, 110, 118] : List UInt8)) = false := beq_eq_false_iff_ne.mpr aK; have ch : ((rdOf ByteArray.empty L 0).toList != ([99, 111, 110, 118] : List UInt8)) = true := bne_iff_ne.mpr aK
      replace H := ic_ H; obtain ⟨aL, H⟩ | ⟨aL, H⟩ := H
      ·
       have cr : ((rdOf ByteArray.empty L 0).toList == ([109, 97, 120] : List UInt8)) = true := beq_iff_eq.mpr aL; have cs : ((rdOf ByteArray.empty L 0).toList != ([109, 97, 120] : List UInt8)) = false := bne_eq_false_iff_eq.mpr aL; clear aL
       obtain ⟨dQ, H⟩ := ip_ H; have fz : decide (0 < (G.length : Int)) = true := dt_ dQ; have fA : decide (0 < G.length) = true := decide_eq_true (by omega); clear dQ
       obtain ⟨dR, H⟩ := ip_ H; have fC : decide (1 < (G.length : Int)) = true := dt_ dR; have fD : decide (1 < G.length) = true := decide_eq_true (by omega); clear dR; simp only [Option.some.injEq, Prod.mk.injEq] at H; obtain ⟨rfl, rfl, rfl, rfl, rfl, rfl, rfl, rfl, rfl, rfl⟩ := H; refine ⟨?_⟩
       try go_wp2
       replace O := Aside0.mk (Kd.R_drew O.out); replace D := Aside0.mk (Kd.R_drew D.out); replace I := Aside0.mk (blk_drew I.out); replace A := Aside0.mk (blk_drew A.out); replace M := Aside0.mk (Kd.C_drew M.out); replace HB := Aside0.mk (below_drew1 HB.out); obtain ⟨gF, gG, bX⟩ := Kd.R_slice D.out
       (first | subst bX | (injection bX with f1_ f2_ f3_; have f4_ := f1_.symm; have f5_ := f3_.symm; clear f1_ f2_ f3_; subst f4_; subst f5_))
       have bk : 0 ≤ (0 : Int) := (by omega)
       have bl : 0 < (G.length : Int) := od_
       obtain ⟨aF, dS, a9⟩ := Kd.at_int (Kd.R_reads' D.out).2.2 0 bk bl
       cases dS
       have fE : (0 < G.length) = True := eq_true (by omega); (try rw [show ((0 : Int)).toNat = 0 from rfl] at a9); (try rw [Addr.add_zero'] at a9); replace bk := eq_true bk; replace bl := eq_true bl; have bm : 0 ≤ (1 : Int) := (by omega); have bn : 1 < (G.length : Int) := od_; obtain ⟨ct, dT, aa⟩ := Kd.at_int (Kd.R_reads' D.out).2.2 1 bm bn; obtain rfl : aF = ct := (by injection dT); (try simp only [show (1 : Int).toNat = 1 from rfl, Nat.reduceMul, Nat.reduceEqDiff, Go.Addr.add, ↓reduceIte] at aa); have fF : (1 < G.length) = True := eq_true (by omega); (try rw [show ((1 : Int)).toNat = 1 from rfl] at aa); replace bm := eq_true bm; replace bn := eq_true bn; refine sta_ 9 (fun w' => w'.cell? aF = some (.int .i64 (rd G 0)) ∧ CF_ w' aF 1 (.int .i64 (rd G 1))) ⟨a9, aa⟩ (fun hHeld => ?_); refine with_tabW impl_planned.tab15 impl_planned.bits15 (fun HT_ HW_ => ?_); generalize wc.drew = ao at O D I A M HB a9 aa hHeld ⊢; refine pv_ 0 9 1 ?_; refine pv_ 1 9 3 ?_; refine pv_ 3 9 11 ?_; refine pv_ 4 9 27 ?_; refine tv_ 2 9 31 ?_; refine tv_ 5 9 63 ?_; refine pv_ 6 9 127 ?_; refine one_ (i := 7) (N := none) (bl_ 9 255) rfl rfl (one_of HT_.out (by kernel_rfl)) (by decide) (fun K hK => ?_); have gH : ao.cell? ⟨J, 0, none⟩ = some (.int .i64 0) := bk_ A 0; have fG := blk_frozen A.out 0; have dU := B.out; have dV := E.out; have gI : ao.cell? ⟨J, 1, none⟩ = some (.int .i64 0) := bk_ A 1; have fH := blk_frozen A.out 1; have dW := B.out; have dX := E.out; have gJ : ao.cell? ⟨J, 2, none⟩ = some (.int .i64 0) := bk_ A 2; have fI := blk_frozen A.out 2; have dY := B.out; have dZ := E.out; have gK : ao.cell? ⟨J, 3, none⟩ = some (.int .i64 0) := bk_ A 3; have fJ := blk_frozen A.out 3; have e0 := B.out; have e1 := E.out; have gL : ao.cell? ⟨J, 4, none⟩ = some (.int .i64 0) := bk_ A 4; have fK := blk_frozen A.out 4; have e2 := B.out; have e3 := E.out; have gM : ao.cell? ⟨J, 5, none⟩ = some (.int .i64 0) := bk_ A 5; have fL := blk_frozen A.out 5; have e4 := B.out; have e5 := E.out; have gN : ao.cell? ⟨J, 6, none⟩ = some (.int .i64 0) := bk_ A 6; have fM := blk_frozen A.out 6; have e6 := B.out; have e7 := E.out; have gO : ao.cell? ⟨J, 7, none⟩ = some (.slice none 0 0) := bk_ A 7; have fN := blk_frozen A.out 7; have e8 := B.out; have e9 := E.out; have gP : ao.cell? ⟨J, 8, none⟩ = some (.slice none 0 0) := bk_ A 8; have fO := blk_frozen A.out 8; have ea := B.out; have eb := E.out; refine skip_ (w1 := ?_) (by rfl) rfl ?_ ?_
       rotate_left
       ·
        go_simp
        rfl
       refine hK.out _ _ ⟨(cff_ (Kd.own_blk (Kd.R_ne D.out A.out (by decide))) ((cff_ (Kd.own_blk (Kd.R_ne D.out A.out (by decide))) ((cff_ (Kd.own_blk (Kd.R_ne D.out A.out (by decide))) ((cff_ (Kd.own_blk (Kd.R_ne D.out A.out (by decide))) ((cff_ (Kd.own_blk (Kd.R_ne D.out A.out (by decide))) ((cff_ (Kd.own_blk (Kd.R_ne D.out A.out (by decide))) ((cff_ (Kd.own_blk (Kd.R_ne D.out A.out (by decide))) ((cff_ (Kd.own_blk (Kd.R_ne D.out A.out (by decide))) ((cff_ (Kd.own_blk (Kd.R_ne D.out A.out (by decide))) (hHeld.1)))))))))))))))))), (cff_ (Kd.own_blk (Kd.R_ne D.out A.out (by decide))) ((cff_ (Kd.own_blk (Kd.R_ne D.out A.out (by decide))) ((cff_ (Kd.own_blk (Kd.R_ne D.out A.out (by decide))) ((cff_ (Kd.own_blk (Kd.R_ne D.out A.out (by decide))) ((cff_ (Kd.own_blk (Kd.R_ne D.out A.out (by decide))) ((cff_ (Kd.own_blk (Kd.R_ne D.out A.out (by decide))) ((cff_ (Kd.own_blk (Kd.R_ne D.out A.out (by decide))) ((cff_ (Kd.own_blk (Kd.R_ne D.out A.out (by decide))) ((cff_ (Kd.own_blk (Kd.R_ne D.out A.out (by decide))) (hHeld.2))))))))))))))))))⟩ (fun hHeld => ?_); clear hK K; refine pv_ 8 9 511 ?_; refine done_ (done_of HT_.out (by kernel_rfl)) ?_
       try go_wp2
       refine bodyPost_ret (results_ct rfl _ _ J 55 #[.int .i64 2, .int .i64 0, .int .i64 (rd G 0), .int .i64 (rd G 1), .int .i64 0, .int .i64 0, .int .i64 0, .slice none 0 0, .slice none 0 0] (0, 0) _ rfl (bq_ A.out) Tryz.underlying55 rfl (by kernel_rfl)) rfl ?_; exact ⟨_, _, by first | rfl | (simp [errW_none, errW_some] <;> rfl) | (simp [*, errW_none, errW_some] <;> rfl), by first | exact Kd.R_nil _ _ _ _ _ | exact Kd.N_nil _ _ _ _ _ | exact Kd.V_nil _ _ _ _ _ | exact Kd.Q_nil _ _ _ _ _ | exact Kd.S_nil _ _ _ _ _, by first | exact Kd.R_nil _ _ _ _ _ | exact Kd.N_nil _ _ _ _ _ | exact Kd.V_nil _ _ _ _ _ | exact Kd.Q_nil _ _ _ _ _ | exact Kd.S_nil _ _ _ _ _, be_ HB.out⟩
      ·
       have cr : ((rdOf ByteArray.empty L 0).toList == ([109, 97, 120] : List UInt8)) = false := beq_eq_false_iff_ne.mpr aL; have cs : ((rdOf ByteArray.empty L 0).toList != ([109, 97, 120] : List UInt8)) = true := bne_iff_ne.mpr aL
       replace H := ic_ H; obtain ⟨aM, H⟩ | ⟨aM, H⟩ := H
       ·
        have cu : ((rdOf ByteArray.empty L 0).toList == ([97, 118, 103] : List UInt8)) = true := beq_iff_eq.mpr aM; have cv : ((rdOf ByteArray.empty L 0).toList != ([97, 118, 103] : List UInt8)) = false := bne_eq_false_iff_eq.mpr aM; clear aM
        obtain ⟨ec, H⟩ := ip_ H; have fP : decide (0 < (G.length : Int)) = true := dt_ ec; have fQ : decide (0 < G.length) = true := decide_eq_true (by omega); clear ec
        obtain ⟨ed, H⟩ := ip_ H; have fR : decide (1 < (G.length : Int)) = true := dt_ ed; have fS : decide (1 < G.length) = true := decide_eq_true (by omega); clear ed; simp only [Option.some.injEq, Prod.mk.injEq] at H; obtain ⟨rfl, rfl, rfl, rfl, rfl, rfl, rfl, rfl, rfl, rfl⟩ := H; refine ⟨?_⟩
        try go_wp2
        replace O := Aside0.mk (Kd.R_drew O.out); replace D := Aside0.mk (Kd.R_drew D.out); replace I := Aside0.mk (blk_drew I.out); replace A := Aside0.mk (blk_drew A.out); replace M := Aside0.mk (Kd.C_drew M.out); replace HB := Aside0.mk (below_drew1 HB.out); obtain ⟨gQ, gR, bY⟩ := Kd.R_slice D.out
        (first | subst bY | (injection bY with f1_ f2_ f3_; have f4_ := f1_.symm; have f5_ := f3_.symm; clear f1_ f2_ f3_; subst f4_; subst f5_))
        have bo : 0 ≤ (0 : Int) := (by omega)
        have bp : 0 < (G.length : Int) := od_
        obtain ⟨aG, ee, ab⟩ := Kd.at_int (Kd.R_reads' D.out).2.2 0 bo bp
        cases ee
        have fT : (0 < G.length) = True := eq_true (by omega); (try rw [show ((0 : Int)).toNat = 0 from rfl] at ab); (try rw [Addr.add_zero'] at ab); replace bo := eq_true bo; replace bp := eq_true bp; have bq : 0 ≤ (1 : Int) := (by omega); have br : 1 < (G.length : Int) := od_; obtain ⟨cw, ef, ac⟩ := Kd.at_int (Kd.R_reads' D.out).2.2 1 bq br; obtain rfl : aG = cw := (by injection ef); (try simp only [show (1 : Int).toNat = 1 from rfl, Nat.reduceMul, Nat.reduceEqDiff, Go.Addr.add, ↓reduceIte] at ac); have fU : (1 < G.length) = True := eq_true (by omega); (try rw [show ((1 : Int)).toNat = 1 from rfl] at ac); replace bq := eq_true bq; replace br := eq_true br; refine sta_ 9 (fun w' => w'.cell? aG = some (.int .i64 (rd G 0)) ∧ CF_ w' aG 1 (.int .i64 (rd G 1))) ⟨ab, ac⟩ (fun hHeld => ?_); refine with_tabW impl_planned.tab17 impl_planned.bits17 (fun HT_ HW_ => ?_); generalize wc.drew = ap at O D I A M HB ab ac hHeld ⊢; refine pv_ 0 9 1 ?_; refine pv_ 1 9 3 ?_; refine pv_ 3 9 11 ?_; refine pv_ 4 9 27 ?_; refine tv_ 2 9 31 ?_; refine tv_ 5 9 63 ?_; refine pv_ 6 9 127 ?_; refine one_ (i := 7) (N := none) (bl_ 9 255) rfl rfl (one_of HT_.out (by kernel_rfl)) (by decide) (fun K hK => ?_); have gS : ap.cell? ⟨J, 0, none⟩ = some (.int .i64 0) := bk_ A 0; have fV := blk_frozen A.out 0; have eg := B.out; have eh := E.out; have gT : ap.cell? ⟨J, 1, none⟩ = some (.int .i64 0) := bk_ A 1; have fW := blk_frozen A.out 1; have ei := B.out; have ej := E.out; have gU : ap.cell? ⟨J, 2, none⟩ = some (.int .i64 0) := bk_ A 2; have fX := blk_frozen A.out 2; have ek := B.out; have el := E.out; have gV : ap.cell? ⟨J, 3, none⟩ = some (.int .i64 0) := bk_ A 3; have fY := blk_frozen A.out 3; have em := B.out; have en := E.out; have gW : ap.cell? ⟨J, 4, none⟩ = some (.int .i64 0) := bk_ A 4; have fZ := blk_frozen A.out 4; have eo := B.out; have ep := E.out; have gX : ap.cell? ⟨J, 5, none⟩ = some (.int .i64 0) := bk_ A 5; have g0 := blk_frozen A.out 5; have er := B.out; have es := E.out; have gY : ap.cell? ⟨J, 6, none⟩ = some (.int .i64 0) := bk_ A 6; have g1 := blk_frozen A.out 6; have et := B.out; have eu := E.out; have gZ : ap.cell? ⟨J, 7, none⟩ = some (.slice none 0 0) := bk_ A 7; have g2 := blk_frozen A.out 7; have ev := B.out; have ew := E.out; have h0 : ap.cell? ⟨J, 8, none⟩ = some (.slice none 0 0) := bk_ A 8; have g3 := blk_frozen A.out 8; have ex := B.out; have ey := E.out; refine skip_ (w1 := ?_) (by rfl) rfl ?_ ?_
        rotate_left
        ·
         go_simp
         rfl
        refine hK.out _ _ ⟨(cff_ (Kd.own_blk (Kd.R_ne D.out A.out (by decide))) ((cff_ (Kd.own_blk (Kd.R_ne D.out A.out (by decide))) ((cff_ (Kd.own_blk (Kd.R_ne D.out A.out (by decide))) ((cff_ (Kd.own_blk (Kd.R_ne D.out A.out (by decide))) ((cff_ (Kd.own_blk (Kd.R_ne D.out A.out (by decide))) ((cff_ (Kd.own_blk (Kd.R_ne D.out A.out (by decide))) ((cff_ (Kd.own_blk (Kd.R_ne D.out A.out (by decide))) ((cff_ (Kd.own_blk (Kd.R_ne D.out A.out (by decide))) ((cff_ (Kd.own_blk (Kd.R_ne D.out A.out (by decide))) (hHeld.1)))))))))))))))))), (cff_ (Kd.own_blk (Kd.R_ne D.out A.out (by decide))) ((cff_ (Kd.own_blk (Kd.R_ne D.out A.out (by decide))) ((cff_ (Kd.own_blk (Kd.R_ne D.out A.out (by decide))) ((cff_ (Kd.own_blk (Kd.R_ne D.out A.out (by decide))) ((cff_ (Kd.own_blk (Kd.R_ne D.out A.out (by decide))) ((cff_ (Kd.own_blk (Kd.R_ne D.out A.out (by decide))) ((cff_ (Kd.own_blk (Kd.R_ne D.out A.out (by decide))) ((cff_ (Kd.own_blk (Kd.R_ne D.out A.out (by decide))) ((cff_ (Kd.own_blk (Kd.R_ne D.out A.out (by decide))) (hHeld.2))))))))))))))))))⟩ (fun hHeld => ?_); clear hK K; refine pv_ 8 9 511 ?_; refine done_ (done_of HT_.out (by kernel_rfl)) ?_
        try go_wp2
        refine bodyPost_ret (results_ct rfl _ _ J 55 #[.int .i64 3, .int .i64 0, .int .i64 (rd G 0), .int .i64 (rd G 1), .int .i64 0, .int .i64 0, .int .i64 0, .slice none 0 0, .slice none 0 0] (0, 0) _ rfl (bq_ A.out) Tryz.underlying55 rfl (by kernel_rfl)) rfl ?_; exact ⟨_, _, by first | rfl | (simp [errW_none, errW_some] <;> rfl) | (simp [*, errW_none, errW_some] <;> rfl), by first | exact Kd.R_nil _ _ _ _ _ | exact Kd.N_nil _ _ _ _ _ | exact Kd.V_nil _ _ _ _ _ | exact Kd.Q_nil _ _ _ _ _ | exact Kd.S_nil _ _ _ _ _, by first | exact Kd.R_nil _ _ _ _ _ | exact Kd.N_nil _ _ _ _ _ | exact Kd.V_nil _ _ _ _ _ | exact Kd.Q_nil _ _ _ _ _ | exact Kd.S_nil _ _ _ _ _, be_ HB.out⟩
       ·
        have cu : ((rdOf ByteArray.empty L 0).toList == ([97, 118, 103] : List UInt8)) = false := beq_eq_false_iff_ne.mpr aM; have cv : ((rdOf ByteArray.empty L 0).toList != ([97, 118, 103] : List UInt8)) = true := bne_iff_ne.mpr aM
        replace H := ic_ H; obtain ⟨aN, H⟩ | ⟨aN, H⟩ := H
        ·
         have cx : ((rdOf ByteArray.empty L 0).toList == ([114, 101, 108, 117] : List UInt8)) = true := beq_iff_eq.mpr aN; have cy : ((rdOf ByteArray.empty L 0).toList != ([114, 101, 108, 117] : List UInt8)) = false := bne_eq_false_iff_eq.mpr aN; clear aN
         obtain ⟨ez, H⟩ := ip_ H; have g4 : decide (0 < (G.length : Int)) = true := dt_ ez; have g5 : decide (0 < G.length) = true := decide_eq_true (by omega); clear ez; simp only [Option.some.injEq, Prod.mk.injEq] at H; obtain ⟨rfl, rfl, rfl, rfl, rfl, rfl, rfl, rfl, rfl, rfl⟩ := H; refine ⟨?_⟩
         obtain ⟨g6, g7, cz⟩ := Kd.R_slice D.out; subst cz
         have bs : 0 ≤ (0 : Int) := (by omega)
         have bu : 0 < (G.length : Int) := od_
         obtain ⟨g8, eA, aC⟩ := Kd.at_int (Kd.R_reads' D.out).2.2 0 bs bu
         cases eA
         have g9 : (0 < G.length) = True := eq_true (by omega); (try rw [show ((0 : Int)).toNat = 0 from rfl] at aC); (try rw [Addr.add_zero'] at aC); replace bs := eq_true bs; replace bu := eq_true bu; have eB := nn_ E B; have eC := box9_ A.out
         go_wp2
         refine bodyPost_ret (results_ct rfl _ _ J 55 #[.int .i64 4, .int .i64 0, .int .i64 0, .int .i64 0, .int .i64 0, .int .i64 0, .int .i64 (rd G 0), .slice none 0 0, .slice none 0 0] (0, 0) _ rfl (bq_ A.out) Tryz.underlying55 rfl (by kernel_rfl)) rfl ?_; exact ⟨_, _, by first | rfl | (simp [errW_none, errW_some] <;> rfl) | (simp [*, errW_none, errW_some] <;> rfl), by first | exact Kd.R_nil _ _ _ _ _ | exact Kd.N_nil _ _ _ _ _ | exact Kd.V_nil _ _ _ _ _ | exact Kd.Q_nil _ _ _ _ _ | exact Kd.S_nil _ _ _ _ _, by first | exact Kd.R_nil _ _ _ _ _ | exact Kd.N_nil _ _ _ _ _ | exact Kd.V_nil _ _ _ _ _ | exact Kd.Q_nil _ _ _ _ _ | exact Kd.S_nil _ _ _ _ _, be_ HB.out⟩
        ·
         have cx : ((rdOf ByteArray.empty L 0).toList == ([114, 101, 108, 117] : List UInt8)) = false := beq_eq_false_iff_ne.mpr aN; have cy : ((rdOf ByteArray.empty L 0).toList != ([114, 101, 108, 117] : List UInt8)) = true := bne_iff_ne.mpr aN; simp only [Option.some.injEq, Prod.mk.injEq] at H; obtain ⟨rfl, rfl, rfl, rfl, rfl, rfl, rfl, rfl, rfl, rfl⟩ := H; refine ⟨?_⟩
         have eD := nn_ E B; have eE := box9_ A.out
         go_wp2
         refine bodyPost_ret (results_ct rfl _ _ J 55 #[.int .i64 5, .int .i64 0, .int .i64 0, .int .i64 0, .int .i64 0, .int .i64 0, .int .i64 0, .slice none 0 0, .slice none 0 0] (0, 0) _ rfl (bq_ A.out) Tryz.underlying55 rfl (by kernel_rfl)) rfl ?_
         exact ⟨_, _, by first | rfl | (simp [errW_none, errW_some] <;> rfl) | (simp [*, errW_none, errW_some] <;> rfl), by first | exact Kd.R_nil _ _ _ _ _ | exact Kd.N_nil _ _ _ _ _ | exact Kd.V_nil _ _ _ _ _ | exact Kd.Q_nil _ _ _ _ _ | exact Kd.S_nil _ _ _ _ _, by first | exact Kd.R_nil _ _ _ _ _ | exact Kd.N_nil _ _ _ _ _ | exact Kd.V_nil _ _ _ _ _ | exact Kd.Q_nil _ _ _ _ _ | exact Kd.S_nil _ _ _ _ _, be_ HB.out⟩

def impl_Layer_hasNone.f (a0_0 : Int) (a0_1 : Int) (a0_2 : Int) (a0_3 : Int) (a0_4 : Int) (a0_5 : Int) (a0_6 : Int) (l0_7 : List Int) (l0_8 : List Int) : Option (Bool) := if a0_2 = 0 then (some (a0_3 == 0)) else (some false)
set_option maxHeartbeats 8000000 in
set_option maxRecDepth 100000 in
theorem impl_Layer_hasNone.calls {a0_0 : Int} {a0_1 : Int} {a0_2 : Int} {a0_3 : Int} {a0_4 : Int} {a0_5 : Int} {a0_6 : Int} {A0_7 : Option Addr} {c0_7 : Nat} {l0_7 : List Int} {A0_8 : Option Addr} {c0_8 : Nat} {l0_8 : List Int} {r : Bool} {w : World} (hr0_7 : Kd.C (Kd.int .i64) w A0_7 l0_7.length l0_7) (hc0_7 : l0_7.length ≤ c0_7) (hr0_8 : Kd.C (Kd.int .i64) w A0_8 l0_8.length l0_8) (hc0_8 : l0_8.length ≤ c0_8) (h : impl_Layer_hasNone.f a0_0 a0_1 a0_2 a0_3 a0_4 a0_5 a0_6 l0_7 l0_8 = some r) :
  Calls Tryz.prog 69 #[.agg #[.int .i64 a0_0, .int .i64 a0_1, .int .i64 a0_2, .int .i64 a0_3, .int .i64 a0_4, .int .i64 a0_5, .int .i64 a0_6, .slice A0_7 l0_7.length c0_7, .slice A0_8 l0_8.length c0_8]] w fun e w' => e = .returned (.bool r) ∧ Below w.heap.size w w' := by
 have hu55 := Tryz.underlying55; have E := Aside0.mk hr0_7; have G := Aside0.mk hc0_7; clear hr0_7 hc0_7; have I := Aside0.mk hr0_8; have J := Aside0.mk hc0_8; clear hr0_8 hc0_8; have HB := Aside0.mk (Below.refl w.heap.size w); have H : (if a0_2 = 0 then (some (a0_3 == 0)) else (some false)) = some r := h; clear h
 go_enter Tryz.func69, Tryz.ntmps69
 go_wp2_with (first | ((with_reducible refine gate_dst (N := 1) rfl ?_); refine bz_ 1 ?_; intro K hg w3 hbox hb; obtain ⟨A, L, M, HB⟩ := nb_ hg hbox HB hb; clear hb hbox hg; have O := box9_ A.out; refine Aside0.out ?_))
 replace H := ic_ H; obtain ⟨c2, H⟩ | ⟨c2, H⟩ := H
 ·
  have B : (a0_2 == 0) = true := eq1_ c2; have D : (a0_2 != 0) = false := ne0_ c2; clear c2; obtain rfl := oi_ H
  refine ⟨?_⟩
  try go_wp2
  go_ret
  exact rt_ HB.out
 ·
  have B : (a0_2 == 0) = false := eq0_ c2; have D : (a0_2 != 0) = true := ne1_ c2; obtain rfl := oi_ H
  refine ⟨?_⟩
  try go_wp2
  go_ret
  exact rt_ HB.out

def impl_areItems_1.f (a0 : Int) : Option (Bool) := (impl_in.f a0 (-128) 127).bind fun t490 => (some (!t490))
set_option maxHeartbeats 8000000 in
set_option maxRecDepth 100000 in
theorem impl_areItems_1.calls {a0 : Int} {r : Bool} {w : World} (h : impl_areItems_1.f a0 = some r) :
  Calls Tryz.prog 135 #[.int .i64 a0] w fun e w' => e = .returned (.bool r) ∧ Drawn0 w w' := by
 have H : ((impl_in.f a0 (-128) 127).bind fun A => (some (!A))) = some r := h; clear h; obtain ⟨A, A2, H⟩ := bo_ H; (try dsimp only at H); obtain rfl := oi_ H
 go_enter Tryz.func135, Tryz.ntmps135
 go_wp2_with (first | ((with_reducible refine gc_ 56 ?_); refine gw_ (some 4) Tryz.func56 ?_; (with_reducible refine (impl_in.calls A2.out).mono ?_); rintro e w' ⟨rfl, ⟨nd, rfl⟩⟩; refine ⟨_, rfl, ?_⟩))
 go_ret
 exact ⟨by first | rfl | (simp; done) | (simp [*]; done), by repeat (first | exact Drawn0.refl _ | apply Drawn0.step)⟩

def slices_IndexFunc_int_int_at_135.l0 : Nat → List Int → Int → Int → Option (Int)
 | 0, _, _, _ => none
 | k + 1, x0, x7, x8 => if x8 < x7 then (if 0 ≤ x8 then (if x8 < (x0.length : Int) then ((impl_areItems_1.f (rd x0 x8)).bind fun t492 => (if t492 = true then (some x8) else (slices_IndexFunc_int_int_at_135.l0 k x0 x7 (wrap64 (x8 + 1))))) else (none)) else (none)) else (some (-1))
def slices_IndexFunc_int_int_at_135.f (k : Nat) (l0 : List Int)  : Option (Int) := slices_IndexFunc_int_int_at_135.l0 k l0 (l0.length : Int) 0
set_option maxHeartbeats 8000000 in
set_option maxRecDepth 100000 in
theorem slices_IndexFunc_int_int_at_135.calls {k : Nat} {A0 : Option Addr} {c0 : Nat} {l0 : List Int}  {r : Int} {w : World} (hr0 : Kd.C (Kd.int .i64) w A0 l0.length l0) (hc0 : l0.length ≤ c0) (h : slices_IndexFunc_int_int_at_135.f k l0 = some r) :
  Calls Tryz.prog 136 #[.slice A0 l0.length c0, .func (.func 135) #[] #[]] w fun e w' => e = .returned (.int .i64 r) ∧ Drawn0 w w' := by
 have K := Aside0.mk hr0; have T := Aside0.mk hc0; clear hr0 hc0; have H : (slices_IndexFunc_int_int_at_135.l0 k l0 (l0.length : Int) 0) = some r := h; clear h; have H' := Aside0.mk H; clear H
 go_enter Tryz.func136, Tryz.ntmps136
 go_wp2
 go_loopg [8] k (fun kq v8 w' => ∃ (A : Int), v8 = .int .i64 A ∧ Aside0 (slices_IndexFunc_int_int_at_135.l0 kq l0 (l0.length : Int) A = some r) ∧ Aside0 (kq ≤ k) ∧ Drawn0 w w')
 case atStart => exact ⟨(0), rl_, H', ⟨Nat.le_refl _⟩, by repeat (first | exact Drawn0.refl _ | apply Drawn0.step)⟩
 case round =>
  clear H'; (try clear p2); obtain ⟨A, rfl, HA, G, ⟨m1, rfl⟩⟩ := hrel
  cases gk with
  | zero => exact absurd HA.out (by simp [slices_IndexFunc_int_int_at_135.l0])
  | succ k1 =>
   have H := HA.out; clear HA; simp only [slices_IndexFunc_int_int_at_135.l0] at H
   replace H := icd_ H; obtain ⟨I, H⟩ | ⟨I, H⟩ := H
   ·
    obtain ⟨M, H⟩ := ipd_ H; obtain ⟨O, H⟩ := ipd_ H; obtain ⟨P, A6, H⟩ := bo_ H; (try dsimp only at H)
    have B : 0 ≤ (A : Int) := od_
    have D : A < (l0.length : Int) := od_
    obtain ⟨L, E, J⟩ := Kd.at_int K.out A B D; refine Aside0.out ?_
    replace H := icb_ H; obtain ⟨rfl, H⟩ | ⟨rfl, H⟩ := H
    ·
     obtain rfl := oi_ H; refine ⟨?_⟩
     cases E
     replace B := eq_true B; replace D := eq_true D
     go_wp2_with (first | (refine goesV_ 11 (some 16) rfl rfl Tryz.func135 (by kernel_rfl) rfl #[.int .i64 (rd l0 A)] rfl rfl ar_ ?_; (with_reducible refine (impl_areItems_1.calls A6.out).mono ?_); rintro e w' ⟨rfl, ⟨nd, rfl⟩⟩; refine ⟨_, rfl, ?_⟩))
     go_ret
     exact ⟨by first | rfl | (simp; done) | (simp [*]; done), by repeat (first | exact Drawn0.refl _ | apply Drawn0.step)⟩
    ·
     have H' := Aside0.mk H; clear H; refine ⟨?_⟩
     cases E
     replace B := eq_true B; replace D := eq_true D
     go_wp2_with (first | (refine goesV_ 11 (some 16) rfl rfl Tryz.func135 (by kernel_rfl) rfl #[.int .i64 (rd l0 A)] rfl rfl ar_ ?_; (with_reducible refine (impl_areItems_1.calls A6.out).mono ?_); rintro e w' ⟨rfl, ⟨nd, rfl⟩⟩; refine ⟨_, rfl, ?_⟩))
     go_roundg k1
     case measure => have := G.out; omega
     case rel => exact ⟨(wrap64 (A + 1)), rl_, H', ⟨by have := G.out; omega⟩, by repeat (first | exact Drawn0.refl _ | apply Drawn0.step)⟩
   ·
    obtain rfl := oi_ H
    go_wp2
    go_ret
    exact ⟨by first | rfl | (simp; done) | (simp [*]; done), by repeat (first | exact Drawn0.refl _ | apply Drawn0.step)⟩

def slices_ContainsFunc_int_int_at_135.f (k : Nat) (l0 : List Int)  : Option (Bool) := (slices_IndexFunc_int_int_at_135.f k l0).bind fun t493 => (some (decide (t493 ≥ 0)))
set_option maxHeartbeats 8000000 in
set_option maxRecDepth 100000 in
theorem slices_ContainsFunc_int_int_at_135.calls {k : Nat} {A0 : Option Addr} {c0 : Nat} {l0 : List Int}  {r : Bool} {w : World} (hr0 : Kd.C (Kd.int .i64) w A0 l0.length l0) (hc0 : l0.length ≤ c0) (h : slices_ContainsFunc_int_int_at_135.f k l0 = some r) :
  Calls Tryz.prog 104 #[.slice A0 l0.length c0, .func (.func 135) #[] #[]] w fun e w' => e = .returned (.bool r) ∧ Drawn0 w w' := by
 have B := Aside0.mk hr0; have D := Aside0.mk hc0; clear hr0 hc0; have H : ((slices_IndexFunc_int_int_at_135.f k l0).bind fun A => (some (decide (A ≥ 0)))) = some r := h; clear h; obtain ⟨A, A3, H⟩ := bo_ H; (try dsimp only at H); obtain rfl := oi_ H
 go_enter Tryz.func104, Tryz.ntmps104
 go_wp2_with (first | ((with_reducible refine gc_ 136 ?_); refine gw_ (some 7) Tryz.func136 ?_; (with_reducible refine (slices_IndexFunc_int_int_at_135.calls ?side1 ?side2 A3.out).mono ?_); (case side1 => repeat (first | exact B.out | (with_reducible refine Kd.C_alloc ?_ _) | (with_reducible refine Kd.C_drewN ?_ _) | (with_reducible refine Kd.C_drew ?_))); (case side2 => exact D.out); rintro e w' ⟨rfl, ⟨nd, rfl⟩⟩; refine ⟨_, rfl, ?_⟩))
 go_ret
 exact ⟨by first | rfl | (simp; done) | (simp [*]; done), by repeat (first | exact Drawn0.refl _ | apply Drawn0.step)⟩

def impl_areItems.f (k : Nat) (l0 : List Int) : Option (Bool) := (slices_ContainsFunc_int_int_at_135.f k l0).bind fun t494 => (some (!t494))
set_option maxHeartbeats 8000000 in
set_option maxRecDepth 100000 in
theorem impl_areItems.calls {k : Nat} {A0 : Option Addr} {c0 : Nat} {l0 : List Int} {r : Bool} {w : World} (hr0 : Kd.C (Kd.int .i64) w A0 l0.length l0) (hc0 : l0.length ≤ c0) (h : impl_areItems.f k l0 = some r) :
  Calls Tryz.prog 103 #[.slice A0 l0.length c0] w fun e w' => e = .returned (.bool r) ∧ Drawn0 w w' := by
 have B := Aside0.mk hr0; have D := Aside0.mk hc0; clear hr0 hc0; have H : ((slices_ContainsFunc_int_int_at_135.f k l0).bind fun A => (some (!A))) = some r := h; clear h; obtain ⟨A, A2, H⟩ := bo_ H; (try dsimp only at H); obtain rfl := oi_ H
 go_enter Tryz.func103, Tryz.ntmps103
 go_wp2_with (first | ((with_reducible refine gc_ 104 ?_); refine gw_ (some 4) Tryz.func104 ?_; (with_reducible refine (slices_ContainsFunc_int_int_at_135.calls ?side1 ?side2 A2.out).mono ?_); (case side1 => repeat (first | exact B.out | (with_reducible refine Kd.C_alloc ?_ _) | (with_reducible refine Kd.C_drewN ?_ _) | (with_reducible refine Kd.C_drew ?_))); (case side2 => exact D.out); rintro e w' ⟨rfl, ⟨nd, rfl⟩⟩; refine ⟨_, rfl, ?_⟩))
 go_ret
 exact ⟨by first | rfl | (simp; done) | (simp [*]; done), by repeat (first | exact Drawn0.refl _ | apply Drawn0.step)⟩

def impl_Layer_isScaled_1.f (a0 : Int) : Option (Bool) := (impl_in.f a0 (-1000000) 1000000).bind fun t495 => (some (!t495))
set_option maxHeartbeats 8000000 in
set_option maxRecDepth 100000 in
theorem impl_Layer_isScaled_1.calls {a0 : Int} {r : Bool} {w : World} (h : impl_Layer_isScaled_1.f a0 = some r) :
  Calls Tryz.prog 105 #[.int .i64 a0] w fun e w' => e = .returned (.bool r) ∧ Drawn0 w w' := by
 have H : ((impl_in.f a0 (-1000000) 1000000).bind fun A => (some (!A))) = some r := h; clear h; obtain ⟨A, A2, H⟩ := bo_ H; (try dsimp only at H); obtain rfl := oi_ H
 go_enter Tryz.func105, Tryz.ntmps105
 go_wp2_with (first | ((with_reducible refine gc_ 56 ?_); refine gw_ (some 4) Tryz.func56 ?_; (with_reducible refine (impl_in.calls A2.out).mono ?_); rintro e w' ⟨rfl, ⟨nd, rfl⟩⟩; refine ⟨_, rfl, ?_⟩))
 go_ret
 exact ⟨by first | rfl | (simp; done) | (simp [*]; done), by repeat (first | exact Drawn0.refl _ | apply Drawn0.step)⟩

def slices_IndexFunc_int_int_at_105.l0 : Nat → List Int → Int → Int → Option (Int)
 | 0, _, _, _ => none
 | k + 1, x0, x7, x8 => if x8 < x7 then (if 0 ≤ x8 then (if x8 < (x0.length : Int) then ((impl_Layer_isScaled_1.f (rd x0 x8)).bind fun t497 => (if t497 = true then (some x8) else (slices_IndexFunc_int_int_at_105.l0 k x0 x7 (wrap64 (x8 + 1))))) else (none)) else (none)) else (some (-1))
def slices_IndexFunc_int_int_at_105.f (k : Nat) (l0 : List Int)  : Option (Int) := slices_IndexFunc_int_int_at_105.l0 k l0 (l0.length : Int) 0
set_option maxHeartbeats 8000000 in
set_option maxRecDepth 100000 in
theorem slices_IndexFunc_int_int_at_105.calls {k : Nat} {A0 : Option Addr} {c0 : Nat} {l0 : List Int}  {r : Int} {w : World} (hr0 : Kd.C (Kd.int .i64) w A0 l0.length l0) (hc0 : l0.length ≤ c0) (h : slices_IndexFunc_int_int_at_105.f k l0 = some r) :
  Calls Tryz.prog 136 #[.slice A0 l0.length c0, .func (.func 105) #[] #[]] w fun e w' => e = .returned (.int .i64 r) ∧ Drawn0 w w' := by
 have K := Aside0.mk hr0; have T := Aside0.mk hc0; clear hr0 hc0; have H : (slices_IndexFunc_int_int_at_105.l0 k l0 (l0.length : Int) 0) = some r := h; clear h; have H' := Aside0.mk H; clear H
 go_enter Tryz.func136, Tryz.ntmps136
 go_wp2
 go_loopg [8] k (fun kq v8 w' => ∃ (A : Int), v8 = .int .i64 A ∧ Aside0 (slices_IndexFunc_int_int_at_105.l0 kq l0 (l0.length : Int) A = some r) ∧ Aside0 (kq ≤ k) ∧ Drawn0 w w')
 case atStart => exact ⟨(0), rl_, H', ⟨Nat.le_refl _⟩, by repeat (first | exact Drawn0.refl _ | apply Drawn0.step)⟩
 case round =>
  clear H'; (try clear p2); obtain ⟨A, rfl, HA, G, ⟨m1, rfl⟩⟩ := hrel
  cases gk with
  | zero => exact absurd HA.out (by simp [slices_IndexFunc_int_int_at_105.l0])
  | succ k1 =>
   have H := HA.out; clear HA; simp only [slices_IndexFunc_int_int_at_105.l0] at H
   replace H := icd_ H; obtain ⟨I, H⟩ | ⟨I, H⟩ := H
   ·
    obtain ⟨M, H⟩ := ipd_ H; obtain ⟨O, H⟩ := ipd_ H; obtain ⟨P, A6, H⟩ := bo_ H; (try dsimp only at H)
    have B : 0 ≤ (A : Int) := od_
    have D : A < (l0.length : Int) := od_
    obtain ⟨L, E, J⟩ := Kd.at_int K.out A B D; refine Aside0.out ?_
    replace H := icb_ H; obtain ⟨rfl, H⟩ | ⟨rfl, H⟩ := H
    ·
     obtain rfl := oi_ H; refine ⟨?_⟩
     cases E
     replace B := eq_true B; replace D := eq_true D
     go_wp2_with (first | (refine goesV_ 11 (some 16) rfl rfl Tryz.func105 (by kernel_rfl) rfl #[.int .i64 (rd l0 A)] rfl rfl ar_ ?_; (with_reducible refine (impl_Layer_isScaled_1.calls A6.out).mono ?_); rintro e w' ⟨rfl, ⟨nd, rfl⟩⟩; refine ⟨_, rfl, ?_⟩))
     go_ret
     exact ⟨by first | rfl | (simp; done) | (simp [*]; done), by repeat (first | exact Drawn0.refl _ | apply Drawn0.step)⟩
    ·
     have H' := Aside0.mk H; clear H; refine ⟨?_⟩
     cases E
     replace B := eq_true B; replace D := eq_true D
     go_wp2_with (first | (refine goesV_ 11 (some 16) rfl rfl Tryz.func105 (by kernel_rfl) rfl #[.int .i64 (rd l0 A)] rfl rfl ar_ ?_; (with_reducible refine (impl_Layer_isScaled_1.calls A6.out).mono ?_); rintro e w' ⟨rfl, ⟨nd, rfl⟩⟩; refine ⟨_, rfl, ?_⟩))
     go_roundg k1
     case measure => have := G.out; omega
     case rel => exact ⟨(wrap64 (A + 1)), rl_, H', ⟨by have := G.out; omega⟩, by repeat (first | exact Drawn0.refl _ | apply Drawn0.step)⟩
   ·
    obtain rfl := oi_ H
    go_wp2
    go_ret
    exact ⟨by first | rfl | (simp; done) | (simp [*]; done), by repeat (first | exact Drawn0.refl _ | apply Drawn0.step)⟩

def slices_ContainsFunc_int_int_at_105.f (k : Nat) (l0 : List Int)  : Option (Bool) := (slices_IndexFunc_int_int_at_105.f k l0).bind fun t498 => (some (decide (t498 ≥ 0)))
set_option maxHeartbeats 8000000 in
set_option maxRecDepth 100000 in
theorem slices_ContainsFunc_int_int_at_105.calls {k : Nat} {A0 : Option Addr} {c0 : Nat} {l0 : List Int}  {r : Bool} {w : World} (hr0 : Kd.C (Kd.int .i64) w A0 l0.length l0) (hc0 : l0.length ≤ c0) (h : slices_ContainsFunc_int_int_at_105.f k l0 = some r) :
  Calls Tryz.prog 104 #[.slice A0 l0.length c0, .func (.func 105) #[] #[]] w fun e w' => e = .returned (.bool r) ∧ Drawn0 w w' := by
 have B := Aside0.mk hr0; have D := Aside0.mk hc0; clear hr0 hc0; have H : ((slices_IndexFunc_int_int_at_105.f k l0).bind fun A => (some (decide (A ≥ 0)))) = some r := h; clear h; obtain ⟨A, A3, H⟩ := bo_ H; (try dsimp only at H); obtain rfl := oi_ H
 go_enter Tryz.func104, Tryz.ntmps104
 go_wp2_with (first | ((with_reducible refine gc_ 136 ?_); refine gw_ (some 7) Tryz.func136 ?_; (with_reducible refine (slices_IndexFunc_int_int_at_105.calls ?side1 ?side2 A3.out).mono ?_); (case side1 => repeat (first | exact B.out | (with_reducible refine Kd.C_alloc ?_ _) | (with_reducible refine Kd.C_drewN ?_ _) | (with_reducible refine Kd.C_drew ?_))); (case side2 => exact D.out); rintro e w' ⟨rfl, ⟨nd, rfl⟩⟩; refine ⟨_, rfl, ?_⟩))
 go_ret
 exact ⟨by first | rfl | (simp; done) | (simp [*]; done), by repeat (first | exact Drawn0.refl _ | apply Drawn0.step)⟩

def impl_Layer_isScaled.f (k : Nat) (a0_0 : Int) (a0_1 : Int) (a0_2 : Int) (a0_3 : Int) (a0_4 : Int) (a0_5 : Int) (a0_6 : Int) (l0_7 : List Int) (l0_8 : List Int) (a1 : Int) : Option (Bool) := (impl_in.f a0_1 1 8).bind fun t500 => (if t500 = true then ((impl_in.f a0_4 0 2147483647).bind fun t501 => (if t501 = true then ((impl_in.f a0_5 0 31).bind fun t502 => (if t502 = true then ((impl_in.f a0_6 (-128) 127).bind fun t503 => (if t503 = true then (if (l0_7.length : Int) = (wrap64 (a0_1 * a1)) then ((impl_areItems.f k l0_7).bind fun t504 => (if t504 = true then (if (l0_8.length : Int) = a0_1 then ((slices_ContainsFunc_int_int_at_105.f k l0_8).bind fun t505 => (some (!t505))) else (some false)) else (some false))) else (some false)) else (some false))) else (some false))) else (some false))) else (some false))
set_option maxHeartbeats 8000000 in
set_option maxRecDepth 100000 in
theorem impl_Layer_isScaled.calls {k : Nat} {a0_0 : Int} {a0_1 : Int} {a0_2 : Int} {a0_3 : Int} {a0_4 : Int} {a0_5 : Int} {a0_6 : Int} {A0_7 : Option Addr} {c0_7 : Nat} {l0_7 : List Int} {A0_8 : Option Addr} {c0_8 : Nat} {l0_8 : List Int} {a1 : Int} {r : Bool} {w : World} (hr0_7 : Kd.C (Kd.int .i64) w A0_7 l0_7.length l0_7) (hc0_7 : l0_7.length ≤ c0_7) (hr0_8 : Kd.C (Kd.int .i64) w A0_8 l0_8.length l0_8) (hc0_8 : l0_8.length ≤ c0_8) (h : impl_Layer_isScaled.f k a0_0 a0_1 a0_2 a0_3 a0_4 a0_5 a0_6 l0_7 l0_8 a1 = some r) :
  Calls Tryz.prog 70 #[.agg #[.int .i64 a0_0, .int .i64 a0_1, .int .i64 a0_2, .int .i64 a0_3, .int .i64 a0_4, .int .i64 a0_5, .int .i64 a0_6, .slice A0_7 l0_7.length c0_7, .slice A0_8 l0_8.length c0_8], .int .i64 a1] w fun e w' => e = .returned (.bool r) ∧ Below w.heap.size w w' := by
 have hu55 := Tryz.underlying55; have L := Aside0.mk hr0_7; have M := Aside0.mk hc0_7; clear hr0_7 hc0_7; have O := Aside0.mk hr0_8; have P := Aside0.mk hc0_8; clear hr0_8 hc0_8; have HB := Aside0.mk (Below.refl w.heap.size w); have H : ((impl_in.f a0_1 1 8).bind fun D => (if D = true then ((impl_in.f a0_4 0 2147483647).bind fun E => (if E = true then ((impl_in.f a0_5 0 31).bind fun G => (if G = true then ((impl_in.f a0_6 (-128) 127).bind fun I => (if I = true then (if (l0_7.length : Int) = (wrap64 (a0_1 * a1)) then ((impl_areItems.f k l0_7).bind fun J => (if J = true then (if (l0_8.length : Int) = a0_1 then ((slices_ContainsFunc_int_int_at_105.f k l0_8).bind fun K => (some (!K))) else (some false)) else (some false))) else (some false)) else (some false))) else (some false))) else (some false))) else (some false))) = some r := h; clear h; obtain ⟨D, A3, H⟩ := bo_ H; (try dsimp only at H)
 go_enter Tryz.func70, Tryz.ntmps70
 go_wp2_with (first | ((with_reducible refine gate_dst (N := 2) rfl ?_); (try (refine gate_guard (by rfl) ?_; dsimp only)); refine bz_ 2 ?_; intro Z hg a6 hbox hb; obtain ⟨T, a0, a2, HB⟩ := nb_ hg hbox HB hb; clear hb hbox hg; have a3 := box9_ T.out) | ((with_reducible refine gc_ 56 ?_); refine gw_ (some 7) Tryz.func56 ?_; (with_reducible refine (impl_in.calls A3.out).mono ?_); rintro e w' ⟨rfl, ⟨nd, rfl⟩⟩; refine ⟨_, rfl, ?_⟩; refine Aside0.out ?_))
 replace H := icb_ H; obtain ⟨rfl, H⟩ | ⟨rfl, H⟩ := H
 ·
  obtain ⟨E, A5, H⟩ := bo_ H; (try dsimp only at H); refine ⟨?_⟩
  go_wp2_with (first | (go_at_call 56; (with_reducible refine (impl_in.calls A5.out).mono ?_); rintro e w' ⟨rfl, ⟨nd, rfl⟩⟩; refine Aside0.out ?_))
  replace H := icb_ H; obtain ⟨rfl, H⟩ | ⟨rfl, H⟩ := H
  ·
   obtain ⟨G, A7, H⟩ := bo_ H; (try dsimp only at H); refine ⟨?_⟩
   go_wp2_with (first | (go_at_call 56; (with_reducible refine (impl_in.calls A7.out).mono ?_); rintro e w' ⟨rfl, ⟨nd, rfl⟩⟩; refine Aside0.out ?_))
   replace H := icb_ H; obtain ⟨rfl, H⟩ | ⟨rfl, H⟩ := H
   ·
    obtain ⟨I, A9, H⟩ := bo_ H; (try dsimp only at H); refine ⟨?_⟩
    go_wp2_with (first | (go_at_call 56; (with_reducible refine (impl_in.calls A9.out).mono ?_); rintro e w' ⟨rfl, ⟨nd, rfl⟩⟩; refine Aside0.out ?_))
    replace H := icb_ H; obtain ⟨rfl, H⟩ | ⟨rfl, H⟩ := H
    ·
     replace H := ic_ H; obtain ⟨A, H⟩ | ⟨A, H⟩ := H
     ·
      have U : ((l0_7.length : Int) == (wrap64 (a0_1 * a1))) = true := eq1_ A; have W : ((l0_7.length : Int) != (wrap64 (a0_1 * a1))) = false := ne0_ A; clear A; obtain ⟨J, a4, H⟩ := bo_ H; (try dsimp only at H)
      refine ⟨?_⟩
      go_wp2_with (first | (go_at_call 103; (with_reducible refine (impl_areItems.calls ?_ ?_ a4.out).mono ?_); exact cu_ L.out HB.out; exact M.out; rintro e w' ⟨rfl, ⟨nd, rfl⟩⟩; refine Aside0.out ?_))
      replace H := icb_ H; obtain ⟨rfl, H⟩ | ⟨rfl, H⟩ := H
      ·
       replace H := ic_ H; obtain ⟨B, H⟩ | ⟨B, H⟩ := H
       ·
        have X : ((l0_8.length : Int) == a0_1) = true := eq1_ B; have Y : ((l0_8.length : Int) != a0_1) = false := ne0_ B; clear B; obtain ⟨K, a5, H⟩ := bo_ H; (try dsimp only at H); obtain rfl := oi_ H
        refine ⟨?_⟩
        go_wp2_with (first | (go_at_call 104; (with_reducible refine (slices_ContainsFunc_int_int_at_105.calls ?_ ?_ a5.out).mono ?_); exact cu_ O.out HB.out; exact P.out; rintro e w' ⟨rfl, ⟨nd, rfl⟩⟩))
        go_ret
        exact rt_ HB.out
       ·
        have X : ((l0_8.length : Int) == a0_1) = false := eq0_ B; have Y : ((l0_8.length : Int) != a0_1) = true := ne1_ B; obtain rfl := oi_ H
        refine ⟨?_⟩
        try go_wp2
        go_ret
        exact rt_ HB.out
      ·
       obtain rfl := oi_ H; refine ⟨?_⟩
       try go_wp2
       go_ret
       exact rt_ HB.out
     ·
      have U : ((l0_7.length : Int) == (wrap64 (a0_1 * a1))) = false := eq0_ A; have W : ((l0_7.length : Int) != (wrap64 (a0_1 * a1))) = true := ne1_ A; obtain rfl := oi_ H
      refine ⟨?_⟩
      try go_wp2
      go_ret
      exact rt_ HB.out
    ·
     obtain rfl := oi_ H; refine ⟨?_⟩
     try go_wp2
     go_ret
     exact rt_ HB.out
   ·
    obtain rfl := oi_ H; refine ⟨?_⟩
    try go_wp2
    go_ret
    exact rt_ HB.out
  ·
   obtain rfl := oi_ H; refine ⟨?_⟩
   try go_wp2
   go_ret
   exact rt_ HB.out
 ·
  obtain rfl := oi_ H; refine ⟨?_⟩
  try go_wp2
  go_ret
  exact rt_ HB.out

def impl_Layer_isWindow.f (a0_0 : Int) (a0_1 : Int) (a0_2 : Int) (a0_3 : Int) (a0_4 : Int) (a0_5 : Int) (a0_6 : Int) (l0_7 : List Int) (l0_8 : List Int) (a1_0 : Int) (a1_1 : Int) (a1_2 : Int) : Option (Bool) := (impl_in.f a0_2 1 (mn (mn 3 a1_0) a1_1)).bind fun t508 => (if t508 = true then ((impl_in.f a0_3 1 2).bind fun t509 => (some t509)) else (some false))
set_option maxHeartbeats 8000000 in
set_option maxRecDepth 100000 in
theorem impl_Layer_isWindow.calls {a0_0 : Int} {a0_1 : Int} {a0_2 : Int} {a0_3 : Int} {a0_4 : Int} {a0_5 : Int} {a0_6 : Int} {A0_7 : Option Addr} {c0_7 : Nat} {l0_7 : List Int} {A0_8 : Option Addr} {c0_8 : Nat} {l0_8 : List Int} {a1_0 : Int} {a1_1 : Int} {a1_2 : Int} {r : Bool} {w : World} (hr0_7 : Kd.C (Kd.int .i64) w A0_7 l0_7.length l0_7) (hc0_7 : l0_7.length ≤ c0_7) (hr0_8 : Kd.C (Kd.int .i64) w A0_8 l0_8.length l0_8) (hc0_8 : l0_8.length ≤ c0_8) (h : impl_Layer_isWindow.f a0_0 a0_1 a0_2 a0_3 a0_4 a0_5 a0_6 l0_7 l0_8 a1_0 a1_1 a1_2 = some r) :
  Calls Tryz.prog 71 #[.agg #[.int .i64 a0_0, .int .i64 a0_1, .int .i64 a0_2, .int .i64 a0_3, .int .i64 a0_4, .int .i64 a0_5, .int .i64 a0_6, .slice A0_7 l0_7.length c0_7, .slice A0_8 l0_8.length c0_8], .agg #[.int .i64 a1_0, .int .i64 a1_1, .int .i64 a1_2]] w fun e w' => e = .returned (.bool r) ∧ Below w.heap.size w w' := by
 have hu55 := Tryz.underlying55; have hu23 := Tryz.underlying23; have O := Aside0.mk hr0_7; have P := Aside0.mk hc0_7; clear hr0_7 hc0_7; have T := Aside0.mk hr0_8; have U := Aside0.mk hc0_8; clear hr0_8 hc0_8; have HB := Aside0.mk (Below.refl w.heap.size w); have H : ((impl_in.f a0_2 1 (mn (mn 3 a1_0) a1_1)).bind fun B => (if B = true then ((impl_in.f a0_3 1 2).bind fun D => (some D)) else (some false))) = some r := h; clear h; obtain ⟨I, E⟩ : ∃ j_ : Int, (mn 3 a1_0) = j_ := ⟨_, rfl⟩; replace H : ((impl_in.f a0_2 1 (mn (I) a1_1)).bind fun B => (if B = true then ((impl_in.f a0_3 1 2).bind fun D => (some D)) else (some false))) = some r := by first | (rw [E] at H; exact H) | (simp only [E] at H ⊢; exact H)
 (try (have W : I ≤ 3 := by (rw [← E]; unfold mn; (repeat' split) <;> omega))); (try (have X : I ≤ 64 := by omega)); have Y : (if a1_0 < 3 then a1_0 else 3) = I := E; obtain ⟨L, G⟩ : ∃ j_ : Int, (mn (I) a1_1) = j_ := ⟨_, rfl⟩; replace H : ((impl_in.f a0_2 1 (L)).bind fun B => (if B = true then ((impl_in.f a0_3 1 2).bind fun D => (some D)) else (some false))) = some r := by first | (rw [G] at H; exact H) | (simp only [G] at H ⊢; exact H)
 have Z : (if a1_1 < (I) then a1_1 else (I)) = L := G; obtain ⟨B, A5, H⟩ := bo_ H; (try dsimp only at H)
 go_enter Tryz.func71, Tryz.ntmps71
 go_wp2_with (first | ((with_reducible refine gate_dst (N := 2) rfl ?_); refine bz_ 2 ?_; intro a0 hg w8 hbox hb; obtain ⟨A, a1, a2, HB⟩ := nb_ hg hbox HB hb; clear hb hbox hg) | ((with_reducible refine gate_dst (N := 3) rfl ?_); refine bz_ 3 ?_; intro a3 hg w9 hbox hb; obtain ⟨M, a4, a5, HB⟩ := nb_ hg hbox HB hb; have J := nx_ hg A; have K := ny_ hg A; replace A := bb_ A hb; clear hb hbox hg; have a6 := nn_ J K; have a7 := box9_ A.out; have a8 := box3_ M.out) | ((with_reducible refine gc_ 56 ?_); refine gl_ (some 12) Tryz.func56 #[.int .i64 a0_2, .int .i64 1, .int .i64 L] ?_ (hargs := (by (try simp only [List.map_toArray, List.map_cons, List.map_nil]); first | done | (simp only [G]; rfl) | rfl | (simp only [List.length_drop, List.length_take]; rfl))); (with_reducible refine (impl_in.calls A5.out).mono ?_); rintro e w' ⟨rfl, ⟨nd, rfl⟩⟩; refine ⟨_, rfl, ?_⟩; refine Aside0.out ?_))
 replace H := icb_ H; obtain ⟨rfl, H⟩ | ⟨rfl, H⟩ := H
 ·
  obtain ⟨D, A7, H⟩ := bo_ H; (try dsimp only at H); obtain rfl := oi_ H; refine ⟨?_⟩
  go_wp2_with (first | (go_at_call 56; (with_reducible refine (impl_in.calls A7.out).mono ?_); rintro e w' ⟨rfl, ⟨nd, rfl⟩⟩))
  go_ret
  exact ⟨by first | rfl | (simp [errW_none, errW_some] <;> rfl) | (simp only [← E, ← G]; first | rfl | (simp [errW_none, errW_some] <;> rfl)) | (simp [*, errW_none, errW_some] <;> rfl), be_ HB.out⟩
 ·
  obtain rfl := oi_ H; refine ⟨?_⟩
  try go_wp2
  go_ret
  exact ⟨by first | rfl | (simp [errW_none, errW_some] <;> rfl) | (simp only [← E, ← G]; first | rfl | (simp [errW_none, errW_some] <;> rfl)) | (simp [*, errW_none, errW_some] <;> rfl), be_ HB.out⟩

def impl_Layer_windows.f (a0_0 : Int) (a0_1 : Int) (a0_2 : Int) (a0_3 : Int) (a0_4 : Int) (a0_5 : Int) (a0_6 : Int) (l0_7 : List Int) (l0_8 : List Int) (a1_0 : Int) (a1_1 : Int) (a1_2 : Int) (a2 : Int) : Option (Int × Int × Int) := if a0_3 = 0 then (none) else (some (wrap64 ((wrap64 (Int.tdiv (wrap64 (a1_0 - a0_2)) a0_3)) + 1), wrap64 ((wrap64 (Int.tdiv (wrap64 (a1_1 - a0_2)) a0_3)) + 1), a2))
def impl_Layer_windows.T1 : Bool × List (List Nat × List Nat) := (true, [([], []), ([0], [0]), ([], []), ([2], [2]), ([1, 3], [1, 3]), ([], []), ([5], [5]), ([4, 6], [4, 6]), ([7], [7]), ([], []), ([9], [9]), ([], []), ([11], [11]), ([10, 12], [10, 12]), ([], []), ([14], [14]), ([13, 15], [13, 15]), ([16], [16]), ([], []), ([8, 17, 18], [8, 17, 18]), ([19, 0, 1, 2, 3, 4, 5, 6, 7, 8, 9, 10, 11, 12, 13, 14, 15, 16, 17, 18, 19], [19])])
def impl_Layer_windows.B1 : List Nat := [0, 1, 0, 4, 15, 0, 32, 127, 255, 0, 512, 0, 2048, 7680, 0, 16384, 65024, 130560, 0, 524287, 1048575]
theorem impl_Layer_windows.tab1 : rtab .any (opsOf Tryz.f72 1) = impl_Layer_windows.T1 := by kernel_rfl
theorem impl_Layer_windows.bits1 : waitsOk impl_Layer_windows.T1.2 impl_Layer_windows.B1 = true := by kernel_rfl
set_option maxHeartbeats 8000000 in
set_option maxRecDepth 100000 in
theorem impl_Layer_windows.calls {a0_0 : Int} {a0_1 : Int} {a0_2 : Int} {a0_3 : Int} {a0_4 : Int} {a0_5 : Int} {a0_6 : Int} {A0_7 : Option Addr} {c0_7 : Nat} {l0_7 : List Int} {A0_8 : Option Addr} {c0_8 : Nat} {l0_8 : List Int} {a1_0 : Int} {a1_1 : Int} {a1_2 : Int} {a2 : Int} {r1 : Int} {r2 : Int} {r3 : Int} {w : World} (hr0_7 : Kd.C (Kd.int .i64) w A0_7 l0_7.length l0_7) (hc0_7 : l0_7.length ≤ c0_7) (hr0_8 : Kd.C (Kd.int .i64) w A0_8 l0_8.length l0_8) (hc0_8 : l0_8.length ≤ c0_8) (h : impl_Layer_windows.f a0_0 a0_1 a0_2 a0_3 a0_4 a0_5 a0_6 l0_7 l0_8 a1_0 a1_1 a1_2 a2 = some (r1, r2, r3)) :
  Calls Tryz.prog 72 #[.agg #[.int .i64 a0_0, .int .i64 a0_1, .int .i64 a0_2, .int .i64 a0_3, .int .i64 a0_4, .int .i64 a0_5, .int .i64 a0_6, .slice A0_7 l0_7.length c0_7, .slice A0_8 l0_8.length c0_8], .agg #[.int .i64 a1_0, .int .i64 a1_1, .int .i64 a1_2], .int .i64 a2] w fun e w' => e = .returned (.agg #[.int .i64 r1, .int .i64 r2, .int .i64 r3]) ∧ Below w.heap.size w w' := by
 have hu55 := Tryz.underlying55; have hu23 := Tryz.underlying23; have a8 := Aside0.mk hr0_7; have a9 := Aside0.mk hc0_7; clear hr0_7 hc0_7; have aa := Aside0.mk hr0_8; have ab := Aside0.mk hc0_8; clear hr0_8 hc0_8; have HB := Aside0.mk (Below.refl w.heap.size w); have H : (if a0_3 = 0 then (none) else (some (wrap64 ((wrap64 (Int.tdiv (wrap64 (a1_0 - a0_2)) a0_3)) + 1), wrap64 ((wrap64 (Int.tdiv (wrap64 (a1_1 - a0_2)) a0_3)) + 1), a2))) = some (r1, r2, r3) := h; clear h
 obtain ⟨c4, H⟩ := in_ H; have ak : (a0_3 == 0) = false := eq0_ c4; have al : (a0_3 != 0) = true := ne1_ c4; simp only [Option.some.injEq, Prod.mk.injEq] at H; obtain ⟨rfl, rfl, rfl⟩ := H
 go_enter Tryz.func72, Tryz.ntmps72
 try go_wp2_with (first | ((with_reducible refine gate_dst (N := 3) rfl ?_); refine bz_ 3 ?_; intro I hg w5 hbox hb; obtain ⟨B, ac, ad, HB⟩ := nb_ hg hbox HB hb; clear hb hbox hg) | ((with_reducible refine gate_dst (N := 4) rfl ?_); refine bz_ 4 ?_; intro O hg w6 hbox hb; obtain ⟨E, ae, af, HB⟩ := nb_ hg hbox HB hb; have P := nx_ hg B; have T := ny_ hg B; replace B := bb_ B hb; clear hb hbox hg) | ((with_reducible refine gate_dst (N := 6) rfl ?_); refine bz_ 6 ?_; intro M hg w7 hbox hb; obtain ⟨G, ag, ah, HB⟩ := nb_ hg hbox HB hb; have A := nx_ hg B; have J := ny_ hg B; replace B := bb_ B hb; have D := nx_ hg E; have L := ny_ hg E; replace E := bb_ E hb; clear hb hbox hg))
 replace B := Aside0.mk (blk_drew B.out); replace E := Aside0.mk (blk_drew E.out); replace G := Aside0.mk (blk_drew G.out); replace HB := Aside0.mk (below_drew1 HB.out); refine sta_ 21 (fun w' => CE_ w' O 0 (.int .i64 a1_0) ∧ CE_ w' O 1 (.int .i64 a1_1) ∧ CE_ w' O 2 (.int .i64 a1_2) ∧ CE_ w' I 0 (.int .i64 a0_0) ∧ CE_ w' I 1 (.int .i64 a0_1) ∧ CE_ w' I 2 (.int .i64 a0_2) ∧ CE_ w' I 3 (.int .i64 a0_3) ∧ CE_ w' I 4 (.int .i64 a0_4) ∧ CE_ w' I 5 (.int .i64 a0_5) ∧ CE_ w' I 6 (.int .i64 a0_6) ∧ CE_ w' I 7 (.slice A0_7 l0_7.length c0_7) ∧ CE_ w' I 8 (.slice A0_8 l0_8.length c0_8)) ⟨bk_ E 0, bk_ E 1, bk_ E 2, bk_ B 0, bk_ B 1, bk_ B 2, bk_ B 3, bk_ B 4, bk_ B 5, bk_ B 6, bk_ B 7, bk_ B 8⟩ (fun hHeld => ?_); refine with_tabW impl_Layer_windows.tab1 impl_Layer_windows.bits1 (fun HT_ HW_ => ?_); generalize w7.drew = w8 at B E G HB hHeld ⊢; refine pv_ 0 21 1 ?_; refine pv_ 2 21 5 ?_; refine pv_ 5 21 37 ?_; refine pv_ 9 21 549 ?_; refine pv_ 11 21 2597 ?_; refine pv_ 14 21 18981 ?_; refine pv_ 18 21 281125 ?_; refine tv_ 1 21 281127 ?_; refine tv_ 3 21 281135 ?_; refine pv_ 4 21 281151 ?_; refine tv_ 6 21 281215 ?_; refine pv_ 7 21 281343 ?_; refine pv_ 8 21 281599 ?_; refine tv_ 10 21 282623 ?_; refine tv_ 12 21 286719 ?_; refine pv_ 13 21 294911 ?_; refine tv_ 15 21 327679 ?_; refine pv_ 16 21 393215 ?_; refine pv_ 17 21 524287 ?_; refine pv_ 19 21 1048575 ?_; refine one_ (i := 20) (N := none) (bl_ 21 2097151) rfl rfl (one_of HT_.out (by kernel_rfl)) (by decide) (fun K hK => ?_); have ap : w8.cell? ⟨M, 0, none⟩ = some (.int .i64 0) := bk_ G 0; have am := blk_frozen G.out 0; have a4 := A.out; have a5 := D.out; have a6 := J.out; have a7 := L.out; have an : w8.cell? ⟨M, 1, none⟩ = some (.int .i64 0) := bk_ G 1; have ai := blk_frozen G.out 1; have U := A.out; have W := D.out; have X := J.out; have Y := L.out; have ao : w8.cell? ⟨M, 2, none⟩ = some (.int .i64 0) := bk_ G 2; have aj := blk_frozen G.out 2; have Z := A.out; have a0 := D.out; have a1 := J.out; have a3 := L.out; refine skip_ (w1 := ?_) (by rfl) rfl ?_ ?_
 rotate_left
 ·
  go_simp
  rfl
 refine hK.out _ _ ⟨(c3_ D.out (hHeld.1)), (c3_ D.out (hHeld.2.1)), (c3_ D.out (hHeld.2.2.1)), (c3_ A.out (hHeld.2.2.2.1)), (c3_ A.out (hHeld.2.2.2.2.1)), (c3_ A.out (hHeld.2.2.2.2.2.1)), (c3_ A.out (hHeld.2.2.2.2.2.2.1)), (c3_ A.out (hHeld.2.2.2.2.2.2.2.1)), (c3_ A.out (hHeld.2.2.2.2.2.2.2.2.1)), (c3_ A.out (hHeld.2.2.2.2.2.2.2.2.2.1)), (c3_ A.out (hHeld.2.2.2.2.2.2.2.2.2.2.1)), (c3_ A.out (hHeld.2.2.2.2.2.2.2.2.2.2.2))⟩ (fun hHeld => ?_); clear hK K; refine done_ (done_of HT_.out (by kernel_rfl)) ?_
 try go_wp2
 refine bodyPost_ret (results_cell_row rfl _ _ M 23 #[.int .i64 (wrap64 ((wrap64 (Int.tdiv (wrap64 (a1_0 - a0_2)) a0_3)) + 1)), .int .i64 (wrap64 ((wrap64 (Int.tdiv (wrap64 (a1_1 - a0_2)) a0_3)) + 1)), .int .i64 a2] (0, 0) _ rfl (bq_ G.out) Tryz.underlying23 rfl (by kernel_rfl)) rfl ?_; exact rt_ HB.out

def impl_Layer_isBare.f (a0_0 : Int) (a0_1 : Int) (a0_2 : Int) (a0_3 : Int) (a0_4 : Int) (a0_5 : Int) (a0_6 : Int) (l0_7 : List Int) (l0_8 : List Int) : Option (Bool) := if a0_1 = 0 then (if a0_4 = 0 then (if a0_5 = 0 then (if (l0_7.length : Int) = 0 then (some ((l0_8.length : Int) == 0)) else (some false)) else (some false)) else (some false)) else (some false)
set_option maxHeartbeats 8000000 in
set_option maxRecDepth 100000 in
theorem impl_Layer_isBare.calls {a0_0 : Int} {a0_1 : Int} {a0_2 : Int} {a0_3 : Int} {a0_4 : Int} {a0_5 : Int} {a0_6 : Int} {A0_7 : Option Addr} {c0_7 : Nat} {l0_7 : List Int} {A0_8 : Option Addr} {c0_8 : Nat} {l0_8 : List Int} {r : Bool} {w : World} (hr0_7 : Kd.C (Kd.int .i64) w A0_7 l0_7.length l0_7) (hc0_7 : l0_7.length ≤ c0_7) (hr0_8 : Kd.C (Kd.int .i64) w A0_8 l0_8.length l0_8) (hc0_8 : l0_8.length ≤ c0_8) (h : impl_Layer_isBare.f a0_0 a0_1 a0_2 a0_3 a0_4 a0_5 a0_6 l0_7 l0_8 = some r) :
  Calls Tryz.prog 73 #[.agg #[.int .i64 a0_0, .int .i64 a0_1, .int .i64 a0_2, .int .i64 a0_3, .int .i64 a0_4, .int .i64 a0_5, .int .i64 a0_6, .slice A0_7 l0_7.length c0_7, .slice A0_8 l0_8.length c0_8]] w fun e w' => e = .returned (.bool r) ∧ Below w.heap.size w w' := by
 have hu55 := Tryz.underlying55; have M := Aside0.mk hr0_7; have O := Aside0.mk hc0_7; clear hr0_7 hc0_7; have P := Aside0.mk hr0_8; have T := Aside0.mk hc0_8; clear hr0_8 hc0_8; have HB := Aside0.mk (Below.refl w.heap.size w); have H : (if a0_1 = 0 then (if a0_4 = 0 then (if a0_5 = 0 then (if (l0_7.length : Int) = 0 then (some ((l0_8.length : Int) == 0)) else (some false)) else (some false)) else (some false)) else (some false)) = some r := h; clear h
 go_enter Tryz.func73, Tryz.ntmps73
 go_wp2_with (first | ((with_reducible refine gate_dst (N := 1) rfl ?_); (try (refine gate_guard (by rfl) ?_; dsimp only)); refine bz_ 1 ?_; intro U hg w6 hbox hb; obtain ⟨A, W, X, HB⟩ := nb_ hg hbox HB hb; clear hb hbox hg; have Y := box9_ A.out; refine Aside0.out ?_))
 replace H := ic_ H; obtain ⟨c2, H⟩ | ⟨c2, H⟩ := H
 ·
  have B : (a0_1 == 0) = true := eq1_ c2; have D : (a0_1 != 0) = false := ne0_ c2; clear c2
  replace H := ic_ H; obtain ⟨c3, H⟩ | ⟨c3, H⟩ := H
  ·
   have E : (a0_4 == 0) = true := eq1_ c3; have G : (a0_4 != 0) = false := ne0_ c3; clear c3
   replace H := ic_ H; obtain ⟨c4, H⟩ | ⟨c4, H⟩ := H
   ·
    have I : (a0_5 == 0) = true := eq1_ c4; have J : (a0_5 != 0) = false := ne0_ c4; clear c4
    replace H := ic_ H; obtain ⟨c5, H⟩ | ⟨c5, H⟩ := H
    ·
     have K : ((l0_7.length : Int) == 0) = true := eq1_ c5; have L : ((l0_7.length : Int) != 0) = false := ne0_ c5; clear c5; obtain rfl := oi_ H
     refine ⟨?_⟩
     try go_wp2
     go_ret
     exact rt_ HB.out
    ·
     have K : ((l0_7.length : Int) == 0) = false := eq0_ c5; have L : ((l0_7.length : Int) != 0) = true := ne1_ c5; have Z : ¬ (l0_7 = []) := fun h_ => c5 (by rw [h_]; rfl); obtain rfl := oi_ H
     refine ⟨?_⟩
     try go_wp2
     go_ret
     exact rt_ HB.out
   ·
    have I : (a0_5 == 0) = false := eq0_ c4; have J : (a0_5 != 0) = true := ne1_ c4; obtain rfl := oi_ H
    refine ⟨?_⟩
    try go_wp2
    go_ret
    exact rt_ HB.out
  ·
   have E : (a0_4 == 0) = false := eq0_ c3; have G : (a0_4 != 0) = true := ne1_ c3; obtain rfl := oi_ H
   refine ⟨?_⟩
   try go_wp2
   go_ret
   exact rt_ HB.out
 ·
  have B : (a0_1 == 0) = false := eq0_ c2; have D : (a0_1 != 0) = true := ne1_ c2; obtain rfl := oi_ H
  refine ⟨?_⟩
  try go_wp2
  go_ret
  exact rt_ HB.out

end Go.Proofs.YtgolleldpmkkoaaGreatDoor.QFnExactPlanText
