/- The Go functions that the statement FnExactParsePlan reaches, as Lean functions, each with a proof that the call does what its function says; laid by a program of this session. No condition. -/
import Derived.Test.YtgolleldpmkkoaaGreatDoorQFnExactParsePlanx0
import Derived.Test.YtgolleldpmkkoaaGreatDoorQFnExactParsePlanx3
namespace Go.Proofs.YtgolleldpmkkoaaGreatDoor.QFnExactParsePlan
open Go.RowKit Go.Proofs.YtgolleldpmkkoaaGreatDoorW.PrintWords Go.Proofs.YtgolleldpmkkoaaGreatDoorW.PrintLast Go.Proofs.YtgolleldpmkkoaaGreatDoorW.PrintMore
attribute [local go_sem] max2_int min2_int max_two min_two max_three min_three max_four min_four   -- for this text's walks alone
set_option linter.unusedVariables false
set_option linter.unusedSimpArgs false

def impl_ShapeOk.f (a0_0 : Int) (a0_1 : Int) (a0_2 : Int) : Option (Bool) := (impl_in.f a0_0 1 8).bind fun t300 => (if t300 = true then ((impl_in.f a0_1 1 8).bind fun t301 => (if t301 = true then ((impl_in.f a0_2 1 8).bind fun t302 => (some t302)) else (some false))) else (some false))
set_option maxHeartbeats 8000000 in
set_option maxRecDepth 100000 in
theorem impl_ShapeOk.calls {a0_0 : Int} {a0_1 : Int} {a0_2 : Int} {r : Bool} {w : World} (h : impl_ShapeOk.f a0_0 a0_1 a0_2 = some r) :
  Calls Tryz.prog 68 #[.agg #[.int .i64 a0_0, .int .i64 a0_1, .int .i64 a0_2]] w fun e w' => e = .returned (.bool r) ∧ Below w.heap.size w w' := by
 have hu23 := Tryz.underlying23; have HB := Aside0.mk (Below.refl w.heap.size w); have H : ((impl_in.f a0_0 1 8).bind fun t300 => (if t300 = true then ((impl_in.f a0_1 1 8).bind fun t301 => (if t301 = true then ((impl_in.f a0_2 1 8).bind fun t302 => (some t302)) else (some false))) else (some false))) = some r := h; clear h; obtain ⟨t300, A2, H⟩ := bo_ H; (try dsimp only at H)
 by_cases c3 : t300 = true
 ·
  subst c3; rw [if_pos rfl] at H; obtain ⟨t301, A4, H⟩ := bo_ H; (try dsimp only at H)
  by_cases c5 : t301 = true
  ·
   subst c5; rw [if_pos rfl] at H; obtain ⟨t302, A6, H⟩ := bo_ H; (try dsimp only at H); obtain rfl := oi_ H
   go_enter Tryz.func68, Tryz.ntmps68
   go_wp2_with (first | ((with_reducible refine gate_dst (N := 1) rfl ?_); refine bz_ 1 ?_; intro gb299 hg w7 hbox hb; obtain ⟨BK299, GW299, GE299, HB⟩ := nb_ hg hbox HB hb; clear hb hbox hg; have hcz8 := box3_ BK299.out) | ((with_reducible refine gc_ 56 ?_); refine gw_ (some 5) Tryz.func56 ?_; (with_reducible refine (impl_in.calls A2.out).mono ?_); rintro e w' ⟨rfl, ⟨nd, rfl⟩⟩; refine ⟨_, rfl, ?_⟩) | (go_at_call 56; (with_reducible refine (impl_in.calls A4.out).mono ?_); rintro e w' ⟨rfl, ⟨nd, rfl⟩⟩) | (go_at_call 56; (with_reducible refine (impl_in.calls A6.out).mono ?_); rintro e w' ⟨rfl, ⟨nd, rfl⟩⟩))
   go_ret
   exact rt_ HB.out
  ·
   replace c5 := fb_ c5; subst c5; replace H := if0_ H
   obtain rfl := oi_ H
   go_enter Tryz.func68, Tryz.ntmps68
   go_wp2_with (first | ((with_reducible refine gate_dst (N := 1) rfl ?_); refine bz_ 1 ?_; intro gb299 hg w9 hbox hb; obtain ⟨BK299, GW299, GE299, HB⟩ := nb_ hg hbox HB hb; clear hb hbox hg; have hcz10 := box3_ BK299.out) | ((with_reducible refine gc_ 56 ?_); refine gw_ (some 5) Tryz.func56 ?_; (with_reducible refine (impl_in.calls A2.out).mono ?_); rintro e w' ⟨rfl, ⟨nd, rfl⟩⟩; refine ⟨_, rfl, ?_⟩) | (go_at_call 56; (with_reducible refine (impl_in.calls A4.out).mono ?_); rintro e w' ⟨rfl, ⟨nd, rfl⟩⟩))
   go_ret
   exact rt_ HB.out
 ·
  replace c3 := fb_ c3; subst c3; replace H := if0_ H
  obtain rfl := oi_ H
  go_enter Tryz.func68, Tryz.ntmps68
  go_wp2_with (first | ((with_reducible refine gate_dst (N := 1) rfl ?_); refine bz_ 1 ?_; intro gb299 hg w11 hbox hb; obtain ⟨BK299, GW299, GE299, HB⟩ := nb_ hg hbox HB hb; clear hb hbox hg; have hcz12 := box3_ BK299.out) | ((with_reducible refine gc_ 56 ?_); refine gw_ (some 5) Tryz.func56 ?_; (with_reducible refine (impl_in.calls A2.out).mono ?_); rintro e w' ⟨rfl, ⟨nd, rfl⟩⟩; refine ⟨_, rfl, ?_⟩))
  go_ret
  exact rt_ HB.out

def impl_SizeOf.f (a0_0 : Int) (a0_1 : Int) (a0_2 : Int) : Option (Int) := (impl_ShapeOk.f a0_0 a0_1 a0_2).bind fun t304 => (if t304 = true then (some (wrap64 ((wrap64 (a0_0 * a0_1)) * a0_2))) else (some 0))
set_option maxHeartbeats 8000000 in
set_option maxRecDepth 100000 in
theorem impl_SizeOf.calls {a0_0 : Int} {a0_1 : Int} {a0_2 : Int} {r : Int} {w : World} (h : impl_SizeOf.f a0_0 a0_1 a0_2 = some r) :
  Calls Tryz.prog 67 #[.agg #[.int .i64 a0_0, .int .i64 a0_1, .int .i64 a0_2]] w fun e w' => e = .returned (.int .i64 r) ∧ Below w.heap.size w w' := by
 have hu23 := Tryz.underlying23; have HB := Aside0.mk (Below.refl w.heap.size w); have H : ((impl_ShapeOk.f a0_0 a0_1 a0_2).bind fun t304 => (if t304 = true then (some (wrap64 ((wrap64 (a0_0 * a0_1)) * a0_2))) else (some 0))) = some r := h; clear h; obtain ⟨t304, A2, H⟩ := bo_ H; (try dsimp only at H)
 by_cases c3 : t304 = true
 ·
  subst c3; rw [if_pos rfl] at H; obtain rfl := oi_ H
  go_enter Tryz.func67, Tryz.ntmps67
  go_wp2_with (first | ((with_reducible refine gate_dst (N := 1) rfl ?_); refine bz_ 1 ?_; intro gb303 hg w4 hbox hb; obtain ⟨BK303, GW303, GE303, HB⟩ := nb_ hg hbox HB hb; clear hb hbox hg; have hcz5 := box3_ BK303.out) | ((with_reducible refine gc_ 68 ?_); refine gw_ (some 4) Tryz.func68 ?_; (with_reducible refine (impl_ShapeOk.calls A2.out).mono ?_); rintro e w6 ⟨rfl, hb⟩; refine ⟨_, rfl, ?_⟩; replace BK303 := bb_ BK303 hb; replace HB := hb_ HB hb; (try clear hb); have hcz7 := box3_ BK303.out))
  go_ret
  exact rt_ HB.out
 ·
  replace c3 := fb_ c3; subst c3; replace H := if0_ H
  obtain rfl := oi_ H
  go_enter Tryz.func67, Tryz.ntmps67
  go_wp2_with (first | ((with_reducible refine gate_dst (N := 1) rfl ?_); refine bz_ 1 ?_; intro gb303 hg w8 hbox hb; obtain ⟨BK303, GW303, GE303, HB⟩ := nb_ hg hbox HB hb; clear hb hbox hg; have hcz9 := box3_ BK303.out) | ((with_reducible refine gc_ 68 ?_); refine gw_ (some 4) Tryz.func68 ?_; (with_reducible refine (impl_ShapeOk.calls A2.out).mono ?_); rintro e w10 ⟨rfl, hb⟩; refine ⟨_, rfl, ?_⟩; replace BK303 := bb_ BK303 hb; replace HB := hb_ HB hb; (try clear hb)))
  go_ret
  exact rt_ HB.out

def impl_planned.j0 : Nat → List ByteArray → List Int → Bool → Int → Int → Int → Option (Int × Int × Int × Int × Int × Int × Int × List Int × List Int × Bool)
 | 0, _, _, _, _, _, _ => none
 | k + 1, x6, x10, x36, x306000, x306001, x306002 => if x36 = true then (some (0, 0, 0, 0, 0, 0, 0, ([] : List Int), ([] : List Int), false)) else (if 0 < (x6.length : Int) then (if (rdOf ByteArray.empty x6 0).toList = ([100, 101, 110, 115, 101] : List UInt8) then (if 0 < (x10.length : Int) then ((impl_SizeOf.f x306000 x306001 x306002).bind fun t324 => (if 1 ≤ (x10.length : Int) then ((impl_filled.f 0 (rd x10 0) 0 0 0 0 0 ([] : List Int) ([] : List Int) t324 (x10.drop 1)).bind fun bt329 => (some (bt329.1, bt329.2.1, bt329.2.2.1, bt329.2.2.2.1, bt329.2.2.2.2.1, bt329.2.2.2.2.2.1, bt329.2.2.2.2.2.2.1, bt329.2.2.2.2.2.2.2.1, bt329.2.2.2.2.2.2.2.2.1, bt329.2.2.2.2.2.2.2.2.2))) else (none))) else (none)) else (if (rdOf ByteArray.empty x6 0).toList = ([99, 111, 110, 118] : List UInt8) then (if 1 < (x10.length : Int) then ((impl_in.f (rd x10 1) 1 3).bind fun t344 => (if t344 = true then (if 0 < (x10.length : Int) then (if 2 < (x10.length : Int) then (if 3 ≤ (x10.length : Int) then ((impl_filled.f 1 (rd x10 0) (rd x10 1) (rd x10 2) 0 0 0 ([] : List Int) ([] : List Int) (wrap64 ((wrap64 ((rd x10 1) * (rd x10 1))) * x306002)) (x10.drop 3)).bind fun bt354 => (some (bt354.1, bt354.2.1, bt354.2.2.1, bt354.2.2.2.1, bt354.2.2.2.2.1, bt354.2.2.2.2.2.1, bt354.2.2.2.2.2.2.1, bt354.2.2.2.2.2.2.2.1, bt354.2.2.2.2.2.2.2.2.1, bt354.2.2.2.2.2.2.2.2.2))) else (none)) else (none)) else (none)) else (some (0, 0, 0, 0, 0, 0, 0, ([] : List Int), ([] : List Int), false)))) else (none)) else (if (rdOf ByteArray.empty x6 0).toList = ([109, 97, 120] : List UInt8) then (if 0 < (x10.length : Int) then (if 1 < (x10.length : Int) then (some (2, 0, rd x10 0, rd x10 1, 0, 0, 0, ([] : List Int), ([] : List Int), true)) else (none)) else (none)) else (if (rdOf ByteArray.empty x6 0).toList = ([97, 118, 103] : List UInt8) then (if 0 < (x10.length : Int) then (if 1 < (x10.length : Int) then (some (3, 0, rd x10 0, rd x10 1, 0, 0, 0, ([] : List Int), ([] : List Int), true)) else (none)) else (none)) else (if (rdOf ByteArray.empty x6 0).toList = ([114, 101, 108, 117] : List UInt8) then (if 0 < (x10.length : Int) then (some (4, 0, 0, 0, 0, 0, rd x10 0, ([] : List Int), ([] : List Int), true)) else (none)) else (some (5, 0, 0, 0, 0, 0, 0, ([] : List Int), ([] : List Int), true))))))) else (none))
def impl_planned.f (k : Nat) (a0_0 : Int) (a0_1 : Int) (a0_2 : Int) (a1 : ByteArray) : Option (Int × Int × Int × Int × Int × Int × Int × List Int × List Int × Bool) := (strings_Split.f a1 (⟨#[32]⟩ : ByteArray)).bind fun t307 => ((kinds.f).bind fun t310 => (if 0 < (t307.length : Int) then ((kind_look.f (rdOf ByteArray.empty t307 0)).bind fun bt312 => (if 1 ≤ (t307.length : Int) then ((impl_numbersOf.f k (t307.drop 1) bt312.1).bind fun bt318 => (if bt312.2 = true then (impl_planned.j0 k t307 bt318.1 (!bt318.2) a0_0 a0_1 a0_2) else (impl_planned.j0 k t307 bt318.1 true a0_0 a0_1 a0_2))) else (none))) else (none)))
def impl_planned.T9 : Bool × List (List Nat × List Nat) := (true, [([], []), ([0], [0]), ([1], [1]), ([2], [2]), ([], []), ([4], [4]), ([], []), ([6], [6]), ([3, 5, 7, 5], [3, 5, 7]), ([8], [8]), ([8], [8]), ([9, 8, 0, 1, 2, 3, 4, 5, 6, 7, 8, 9, 10], [9]), ([10, 11, 0, 1, 2, 3, 4, 5, 6, 7, 8, 9, 10, 11], [10])])
def impl_planned.B9 : List Nat := [0, 1, 3, 7, 0, 16, 0, 64, 255, 511, 511, 2047, 4095]
theorem impl_planned.tab9 : rtab .any (opsOf Tryz.f30 9) = impl_planned.T9 := by kernel_rfl
theorem impl_planned.bits9 : waitsOk impl_planned.T9.2 impl_planned.B9 = true := by kernel_rfl
def impl_planned.T13 : Bool × List (List Nat × List Nat) := (true, [([], []), ([0], [0]), ([1], [1]), ([], []), ([3], [3]), ([4], [4]), ([], []), ([6], [6]), ([7], [7]), ([2, 5, 8], [2, 5, 8]), ([], []), ([10], [10]), ([11], [11]), ([], []), ([13], [13]), ([14], [14]), ([12, 15], [12, 15]), ([], []), ([17], [17]), ([16, 18], [16, 18]), ([], []), ([20], [20]), ([9, 19, 21], [9, 19, 21]), ([22], [22]), ([22], [22]), ([23, 22, 0, 1, 2, 3, 4, 5, 6, 7, 8, 9, 10, 11, 12, 13, 14, 15, 16, 17, 18, 19, 20, 21, 22, 23, 24], [23]), ([24, 25, 0, 1, 2, 3, 4, 5, 6, 7, 8, 9, 10, 11, 12, 13, 14, 15, 16, 17, 18, 19, 20, 21, 22, 23, 24, 25], [24])])
def impl_planned.B13 : List Nat := [0, 1, 3, 0, 8, 24, 0, 64, 192, 511, 0, 1024, 3072, 0, 8192, 24576, 64512, 0, 131072, 523264, 0, 1048576, 4194303, 8388607, 8388607, 33554431, 67108863]
theorem impl_planned.tab13 : rtab .any (opsOf Tryz.f30 13) = impl_planned.T13 := by kernel_rfl
theorem impl_planned.bits13 : waitsOk impl_planned.T13.2 impl_planned.B13 = true := by kernel_rfl
def impl_planned.T15 : Bool × List (List Nat × List Nat) := (true, [([], []), ([0], [0]), ([1], [1]), ([], []), ([3], [3]), ([4], [4]), ([2, 5], [2, 5]), ([6, 0, 1, 2, 3, 4, 5, 6], [6]), ([7, 0, 1, 2, 3, 4, 5, 6, 7], [])])
def impl_planned.B15 : List Nat := [0, 1, 3, 0, 8, 24, 63, 127, 255]
theorem impl_planned.tab15 : rtab .any (opsOf Tryz.f30 15) = impl_planned.T15 := by kernel_rfl
theorem impl_planned.bits15 : waitsOk impl_planned.T15.2 impl_planned.B15 = true := by kernel_rfl
def impl_planned.T17 : Bool × List (List Nat × List Nat) := (true, [([], []), ([0], [0]), ([1], [1]), ([], []), ([3], [3]), ([4], [4]), ([2, 5], [2, 5]), ([6, 0, 1, 2, 3, 4, 5, 6], [6]), ([7, 0, 1, 2, 3, 4, 5, 6, 7], [])])
def impl_planned.B17 : List Nat := [0, 1, 3, 0, 8, 24, 63, 127, 255]
theorem impl_planned.tab17 : rtab .any (opsOf Tryz.f30 17) = impl_planned.T17 := by kernel_rfl
theorem impl_planned.bits17 : waitsOk impl_planned.T17.2 impl_planned.B17 = true := by kernel_rfl
set_option maxHeartbeats 8000000 in
set_option maxRecDepth 100000 in
theorem impl_planned.calls {k : Nat} {a0_0 : Int} {a0_1 : Int} {a0_2 : Int} {a1 : ByteArray} {r1 : Int} {r2 : Int} {r3 : Int} {r4 : Int} {r5 : Int} {r6 : Int} {r7 : Int} {r8 : List Int} {r9 : List Int} {r10 : Bool} {w : World} (h : impl_planned.f k a0_0 a0_1 a0_2 a1 = some (r1, r2, r3, r4, r5, r6, r7, r8, r9, r10)) (tb_ : Tab w := by exact Tab.on HTab_.out (by repeat (first | exact HB.out | apply below_alloc | apply pw_below_drewN | apply below_drew1 | (refine below_cell_ ?_ (by apply Aside0.out; with_reducible assumption))))) :
  Calls Tryz.prog 30 #[.agg #[.int .i64 a0_0, .int .i64 a0_1, .int .i64 a0_2], .string a1] w fun e w' => ∃ v7_ v8_ : Value, e = .returned (.tuple #[.agg #[.int .i64 r1, .int .i64 r2, .int .i64 r3, .int .i64 r4, .int .i64 r5, .int .i64 r6, .int .i64 r7, v7_, v8_], .bool r10]) ∧ Kd.R (Kd.int .i64) 3 w' w.heap.size (fun k_ => some k_ ≠ (v8_ : Value).ownBlock) v7_ r8 ∧ Kd.R (Kd.int .i64) 3 w' w.heap.size (fun k_ => some k_ ≠ (v7_ : Value).ownBlock) v8_ r9 ∧ Below w.heap.size w w' := by
 have HTab_ := Aside0.mk tb_; clear tb_; have hu23 := Tryz.underlying23; have hu55 := Tryz.underlying55; have HB := Aside0.mk (Below.refl w.heap.size w); have H : ((strings_Split.f a1 (⟨#[32]⟩ : ByteArray)).bind fun t307 => ((kinds.f).bind fun t310 => (if 0 < (t307.length : Int) then ((kind_look.f (rdOf ByteArray.empty t307 0)).bind fun bt312 => (if 1 ≤ (t307.length : Int) then ((impl_numbersOf.f k (t307.drop 1) bt312.1).bind fun bt318 => (if bt312.2 = true then (impl_planned.j0 k t307 bt318.1 (!bt318.2) a0_0 a0_1 a0_2) else (impl_planned.j0 k t307 bt318.1 true a0_0 a0_1 a0_2))) else (none))) else (none)))) = some (r1, r2, r3, r4, r5, r6, r7, r8, r9, r10) := h; clear h; obtain ⟨t307, A3, H⟩ := bo_ H; (try dsimp only at H); obtain ⟨t310, A4, H⟩ := bo_ H; (try dsimp only at H)
 by_cases c5 : 0 < (t307.length : Int)
 ·
  rw [if_pos c5] at H; have c5b0 : decide (0 < (t307.length : Int)) = true := dt_ c5; have c5b1 : decide (0 < t307.length) = true := decide_eq_true (by omega); clear c5; obtain ⟨⟨t312, t313⟩, A6, H⟩ := bo_ H; (try dsimp only at H)
  by_cases c7 : 1 ≤ (t307.length : Int)
  ·
   rw [if_pos c7] at H; have c7b0 := eq_true c7; have c7b1 : decide (1 ≤ (t307.length : Int)) = true := dt_ c7; clear c7; obtain ⟨y314, hy_⟩ : ∃ y_ : List ByteArray, y_ = (t307.drop 1) := ⟨_, rfl⟩; replace H : ((impl_numbersOf.f k y314 t312).bind fun bt318 => (if t313 = true then (impl_planned.j0 k t307 bt318.1 (!bt318.2) a0_0 a0_1 a0_2) else (impl_planned.j0 k t307 bt318.1 true a0_0 a0_1 a0_2))) = some (r1, r2, r3, r4, r5, r6, r7, r8, r9, r10) := yh_
   have Ny314 := Aside0.mk hy_; clear hy_; obtain ⟨⟨t318, t319⟩, A8, H⟩ := bo_ H; (try dsimp only at H); have HC9 := Aside0.mk H; clear H
   go_enter Tryz.func30, Tryz.ntmps30
   go_upto_region 5 with (first | ((with_reducible refine gate_dst (N := 2) rfl ?_); refine bz_ 2 ?_; intro gb305 hg w10 hbox hb; obtain ⟨BK305, GW305, GE305, HB⟩ := nb_ hg hbox HB hb; clear hb hbox hg) | ((with_reducible refine gate_dst (N := 4) rfl ?_); refine bz_ 4 ?_; intro gb306 hg w11 hbox hb; obtain ⟨BK306, GW306, GE306, HB⟩ := nb_ hg hbox HB hb; have NB305_306 := nx_ hg BK305; have NB306_305 := ny_ hg BK305; replace BK305 := bb_ BK305 hb; clear hb hbox hg) | ((with_reducible refine gc_ 28 ?_); refine gw_ (some 13) Tryz.func28 ?_; (with_reducible refine (strings_Split.calls a1 (⟨#[32]⟩ : ByteArray) t307 _ A3.out).mono ?_); rintro e w12 ⟨v308, rfl, ho0, hb⟩; refine ⟨_, rfl, ?_⟩; have HO309 := Aside0.mk (Kd.R_lower ho0 (below_size (be_ HB.out))); replace BK305 := bb_ BK305 hb; replace BK306 := bb_ BK306 hb; replace HB := hb_ HB hb; (try clear hb ho0)) | ((with_reducible refine gate_dst (N := 14) rfl ?_); refine kinds_step (by simp) rfl rfl rfl rfl rfl rfl rfl rfl rfl rfl rfl rfl rfl rfl rfl rfl rfl rfl rfl rfl rfl ?_; intro w13 bm_ hm_ hb; have HM_ := Aside0.mk hm_; clear hm_; replace HO309 := rb_ HO309 hb; replace BK305 := bb_ BK305 hb; replace BK306 := bb_ BK306 hb; replace HB := hb_ HB hb; (try clear hb); obtain ⟨Ao14, co14, eo14⟩ := Kd.R_slice HO309.out; subst eo14; have p311 : 0 ≤ (0 : Int) := (by omega); have q311 : 0 < (t307.length : Int) := od_; obtain ⟨ad311, e311, hx311_0⟩ := Kd.at_string (Kd.R_reads' HO309.out).2.2 0 p311 q311; cases e311; have qi311 : (0 < t307.length) = True := eq_true (by omega); (try rw [show ((0 : Int)).toNat = 0 from rfl] at hx311_0); (try rw [Addr.add_zero'] at hx311_0); replace p311 := eq_true p311; replace q311 := eq_true q311) | ((with_reducible refine gate_dst (N := 21) rfl ?_); refine look_step rfl _ _ rfl rfl HM_.out _ rfl t312 t313 A6.out ?_; intro w15 hb; replace HO309 := rb_ HO309 hb; replace BK305 := bb_ BK305 hb; replace BK306 := bb_ BK306 hb; replace HB := hb_ HB hb; (try clear hb); have q16 : (1 : Int) ≤ ((t307.length : Int) : Int) := od_; obtain ⟨i016, hi016, _, hsz16, _⟩ := info_parts info9; have hroom16 : t307.length ≤ co14 := (Kd.R_reads' HO309.out).2.1; have hC16 : Kd.C Kd.string _ (some ad311) t307.length t307 := (Kd.R_reads' HO309.out).2.2; have hcut16 := cut_from (P := Tryz.prog) 50 9 .i64 Tryz.underlying50 hi016 1 hsz16 (some ad311) t307.length co14 1 (by omega) q16; have hr16 := Kd.C_drop (m := (1 : Int).toNat) (c := co14) hC16 (by omega) hroom16; obtain ⟨A16, hA16⟩ : ∃ A1, A1 = (if co14 = (1 : Int).toNat then (some ad311) else ((some ad311) : Option Addr).map (·.add ((1 : Int).toNat * 1))) := ⟨_, rfl⟩; obtain ⟨c16, hc16⟩ : ∃ c1, c1 = co14 - (1 : Int).toNat := ⟨_, rfl⟩; have hy16 : y314.length = t307.length - (1 : Int).toNat := (by rw [Ny314.out, List.length_drop] <;> omega); rw [show (t307).drop (1 : Int).toNat = y314 from Ny314.out.symm] at hr16; replace hr16 : Kd.C Kd.string _ A16 y314.length y314 := (by rw [hA16]; exact hr16); rw [← hy16, ← hA16, ← hc16] at hcut16; have HR317 := Aside0.mk hr16; have HC317 := Aside0.mk (show y314.length ≤ c16 from by rw [hy16, hc16]; exact Nat.sub_le_sub_right hroom16 _); clear hr16 hC16 hroom16 hi016 hsz16 hc16; have KY16 := Aside0.mk hy16; have KA16 := Aside0.mk hA16; clear hy16 hA16; have KL16 := Aside0.mk (show 1 ≤ t307.length from by omega); replace q16 := eq_true q16) | ((with_reducible refine gc_ 29 ?_); refine gw_ (some 28) Tryz.func29 ?_; (with_reducible refine (impl_numbersOf.calls ?side1 ?side2 A8.out).mono ?_); (case side1 => repeat (first | exact (by repeat (first | (with_reducible exact HR317.out) | (with_reducible refine Kd.C_alloc ?_ _) | (with_reducible refine Kd.C_drewN ?_ _) | (with_reducible refine Kd.C_drew ?_) | exact HR317.out)) | (with_reducible refine Kd.C_alloc ?_ _) | (with_reducible refine Kd.C_drewN ?_ _) | (with_reducible refine Kd.C_drew ?_))); (case side2 => exact HC317.out); rintro e w17 ⟨v320, rfl, ho0, hb⟩; refine ⟨_, rfl, ?_⟩; replace HO309 := rb_ HO309 hb; have HO321 := Aside0.mk (Kd.R_lower ho0 (below_size (be_ HB.out))); replace BK305 := bb_ BK305 hb; replace BK306 := bb_ BK306 hb; replace HR317 := Aside0.mk (Kd.C_below (by repeat (first | (with_reducible exact HR317.out) | (with_reducible refine Kd.C_alloc ?_ _) | (with_reducible refine Kd.C_drewN ?_ _) | (with_reducible refine Kd.C_drew ?_) | exact HR317.out)) hb); replace HB := hb_ HB hb; (try clear hb ho0)))
   (try simp only [Act.put, List.setIfInBounds_toArray, List.set_cons_zero, List.set_cons_succ])
   go_cut [36] (fun v36 wc => ∃ (kq : Nat) (x36_8 : Bool) (A317 : Option Addr), v36 = .bool x36_8 ∧ Aside0 (impl_planned.j0 kq t307 t318 x36_8 a0_0 a0_1 a0_2 = some (r1, r2, r3, r4, r5, r6, r7, r8, r9, r10)) ∧ Aside0 (kq ≤ k) ∧ Aside0 (Kd.R Kd.string 9 wc w.heap.size (fun _ => True) (.slice (some ad311) t307.length co14) t307) ∧ Aside0 (Kd.R (Kd.int .i64) 3 wc w.heap.size (fun _ => True) v320 t318) ∧ Aside0 (wc.heap[gb305]? = some (.cells #[.int .i64 a0_0, .int .i64 a0_1, .int .i64 a0_2] 23 (0, 0))) ∧ Aside0 (wc.heap[gb306]? = some (.cells #[.int .i64 0, .int .i64 0, .int .i64 0, .int .i64 0, .int .i64 0, .int .i64 0, .int .i64 0, (.slice none 0 0), (.slice none 0 0)] 55 (0, 0))) ∧ Aside0 (Kd.C Kd.string wc A317 y314.length y314) ∧ Aside0 (Below w.heap.size w wc))
   case first =>
    have H := HC9.out; clear HC9
    by_cases c18 : t313 = true
    ·
     subst c18; rw [if_pos rfl] at H; have H' := Aside0.mk H; clear H
     go_wp2
     go_meet
     case rel => exact ⟨_, (!t319), _, rl_, H', ⟨ro_⟩, ⟨ra_ HO309.out⟩, ⟨ra_ HO321.out⟩, ⟨bu_ BK305.out⟩, ⟨bu_ BK306.out⟩, ⟨by repeat (first | (with_reducible exact HR317.out) | (with_reducible refine Kd.C_alloc ?_ _) | (with_reducible refine Kd.C_drewN ?_ _) | (with_reducible refine Kd.C_drew ?_) | exact HR317.out)⟩, ⟨be_ HB.out⟩⟩
    ·
     replace c18 := fb_ c18; subst c18; replace H := if0_ H
     have H' := Aside0.mk H; clear H
     go_wp2
     go_meet
     case rel => exact ⟨_, (true), _, rl_, H', ⟨ro_⟩, ⟨ra_ HO309.out⟩, ⟨ra_ HO321.out⟩, ⟨bu_ BK305.out⟩, ⟨bu_ BK306.out⟩, ⟨by repeat (first | (with_reducible exact HR317.out) | (with_reducible refine Kd.C_alloc ?_ _) | (with_reducible refine Kd.C_drewN ?_ _) | (with_reducible refine Kd.C_drew ?_) | exact HR317.out)⟩, ⟨be_ HB.out⟩⟩
   case rest =>
    clear HC9; (try clear c1); (try clear q1); (try clear c2); (try clear p2); (try clear c3); (try clear p3); (try clear q3); (try clear hx3); (try clear qi3); (try clear c5); (try clear c5b0); (try clear c5b1); (try clear c7); (try clear c7b0); (try clear c7b1); (try clear c9); (try clear c16); (try clear q16); (try clear c18); (try clear hx311_0); (try clear p311); (try clear q16); (try clear q311); obtain ⟨kq, x36_8, A317, rfl, HA, HJ8, HO_6, HO_10, BK305, BK306, HR317, HB⟩ := hcut
    cases kq with
    | zero => exact absurd HA.out (by simp [impl_planned.j0])
    | succ kj8 =>
     have H := HA.out; clear HA; simp only [impl_planned.j0] at H
     by_cases c19 : x36_8 = true
     ·
      subst c19; rw [if_pos rfl] at H; simp only [Option.some.injEq, Prod.mk.injEq] at H; obtain ⟨rfl, rfl, rfl, rfl, rfl, rfl, rfl, rfl, rfl, rfl⟩ := H; have hnb20 := nn_ NB306_305 NB305_306; have hcz21 := box9_ BK306.out
      go_wp2
      refine bodyPost_ret (results_ct rfl _ _ gb306 55 #[.int .i64 0, .int .i64 0, .int .i64 0, .int .i64 0, .int .i64 0, .int .i64 0, .int .i64 0, .slice none 0 0, .slice none 0 0] (0, 0) _ rfl (bq_ BK306.out) Tryz.underlying55 rfl (by kernel_rfl)) rfl ?_; exact ⟨_, _, by first | rfl | (simp [errW_none, errW_some] <;> rfl) | (simp [*, errW_none, errW_some] <;> rfl), by first | exact Kd.R_nil _ _ _ _ _ | exact Kd.N_nil _ _ _ _ _ | exact Kd.V_nil _ _ _ _ _ | exact Kd.Q_nil _ _ _ _ _ | exact Kd.S_nil _ _ _ _ _, by first | exact Kd.R_nil _ _ _ _ _ | exact Kd.N_nil _ _ _ _ _ | exact Kd.V_nil _ _ _ _ _ | exact Kd.Q_nil _ _ _ _ _ | exact Kd.S_nil _ _ _ _ _, be_ HB.out⟩
     ·
      replace c19 := fb_ c19; subst c19; replace H := if0_ H
      by_cases c22 : 0 < (t307.length : Int)
      ·
       rw [if_pos c22] at H; have c22b0 : decide (0 < (t307.length : Int)) = true := dt_ c22; have c22b1 : decide (0 < t307.length) = true := decide_eq_true (by omega); clear c22
       by_cases c23 : (rdOf ByteArray.empty t307 0).toList = ([100, 101, 110, 115, 101] : List UInt8)
       ·
        rw [if_pos c23] at H; have c23b0 : ((rdOf ByteArray.empty t307 0).toList == ([100, 101, 110, 115, 101] : List UInt8)) = true := beq_iff_eq.mpr c23; have c23b1 : ((rdOf ByteArray.empty t307 0).toList != ([100, 101, 110, 115, 101] : List UInt8)) = false := bne_eq_false_iff_eq.mpr c23; clear c23
        by_cases c24 : 0 < (t318.length : Int)
        ·
         rw [if_pos c24] at H; have c24b0 : decide (0 < (t318.length : Int)) = true := dt_ c24; have c24b1 : decide (0 < t318.length) = true := decide_eq_true (by omega); clear c24; obtain ⟨t324, A25, H⟩ := bo_ H; (try dsimp only at H)
         by_cases c26 : 1 ≤ (t318.length : Int)
         ·
          rw [if_pos c26] at H; have c26b0 := eq_true c26; have c26b1 : decide (1 ≤ (t318.length : Int)) = true := dt_ c26; clear c26; obtain ⟨y325, hy_⟩ : ∃ y_ : List Int, y_ = (t318.drop 1) := ⟨_, rfl⟩; replace H : ((impl_filled.f 0 (rd t318 0) 0 0 0 0 0 ([] : List Int) ([] : List Int) t324 y325).bind fun bt329 => (some (bt329.1, bt329.2.1, bt329.2.2.1, bt329.2.2.2.1, bt329.2.2.2.2.1, bt329.2.2.2.2.2.1, bt329.2.2.2.2.2.2.1, bt329.2.2.2.2.2.2.2.1, bt329.2.2.2.2.2.2.2.2.1, bt329.2.2.2.2.2.2.2.2.2))) = some (r1, r2, r3, r4, r5, r6, r7, r8, r9, r10) := yh_
          have Ny325 := Aside0.mk hy_; clear hy_; obtain ⟨⟨t329, t330, t331, t332, t333, t334, t335, t336, t339, t342⟩, A27, H⟩ := bo_ H; (try dsimp only at H); simp only [Option.some.injEq, Prod.mk.injEq] at H; obtain ⟨rfl, rfl, rfl, rfl, rfl, rfl, rfl, rfl, rfl, rfl⟩ := H; have p322 : 0 ≤ (0 : Int) := (by omega); have q322 : 0 < (t307.length : Int) := od_; obtain ⟨ad322, e322, hx322_0⟩ := Kd.at_string (Kd.R_reads' HO_6.out).2.2 0 p322 q322; obtain rfl : ad311 = ad322 := (by injection e322); have qi322 : (0 < t307.length) = True := eq_true (by omega); (try rw [show ((0 : Int)).toNat = 0 from rfl] at hx322_0); (try rw [Addr.add_zero'] at hx322_0); replace p322 := eq_true p322; replace q322 := eq_true q322
          try go_wp2
          replace HO_6 := Aside0.mk (Kd.R_drew HO_6.out); replace HO_10 := Aside0.mk (Kd.R_drew HO_10.out); replace BK305 := Aside0.mk (blk_drew BK305.out); replace BK306 := Aside0.mk (blk_drew BK306.out); replace HR317 := Aside0.mk (Kd.C_drew HR317.out); replace HB := Aside0.mk (below_drew1 HB.out); obtain ⟨Ao29, co29, eo29⟩ := Kd.R_slice HO_10.out; (first | subst eo29 | (injection eo29 with f1_ f2_ f3_; have f4_ := f1_.symm; have f5_ := f3_.symm; clear f1_ f2_ f3_; subst f4_; subst f5_)); have p323 : 0 ≤ (0 : Int) := (by omega); have q323 : 0 < (t318.length : Int) := od_; obtain ⟨ad323, e323, hx323_0⟩ := Kd.at_int (Kd.R_reads' HO_10.out).2.2 0 p323 q323
          cases e323
          have qi323 : (0 < t318.length) = True := eq_true (by omega); (try rw [show ((0 : Int)).toNat = 0 from rfl] at hx323_0); (try rw [Addr.add_zero'] at hx323_0); replace p323 := eq_true p323; replace q323 := eq_true q323; have q30 : (1 : Int) ≤ ((t318.length : Int) : Int) := od_; obtain ⟨i030, hi030, _, hsz30, _⟩ := info_parts info3; have hroom30 : t318.length ≤ co29 := (Kd.R_reads' HO_10.out).2.1; have hC30 : Kd.C (Kd.int .i64) _ (some ad323) t318.length t318 := (Kd.R_reads' HO_10.out).2.2; have hcut30 := cut_from (P := Tryz.prog) 47 3 .i64 Tryz.underlying47 hi030 1 hsz30 (some ad323) t318.length co29 1 (by omega) q30; have hr30 := Kd.C_drop (m := (1 : Int).toNat) (c := co29) hC30 (by omega) hroom30; obtain ⟨A30, hA30⟩ : ∃ A1, A1 = (if co29 = (1 : Int).toNat then (some ad323) else ((some ad323) : Option Addr).map (·.add ((1 : Int).toNat * 1))) := ⟨_, rfl⟩; obtain ⟨c30, hc30⟩ : ∃ c1, c1 = co29 - (1 : Int).toNat := ⟨_, rfl⟩; have hy30 : y325.length = t318.length - (1 : Int).toNat := (by rw [Ny325.out, List.length_drop] <;> omega); rw [show (t318).drop (1 : Int).toNat = y325 from Ny325.out.symm] at hr30; replace hr30 : Kd.C (Kd.int .i64) _ A30 y325.length y325 := (by rw [hA30]; exact hr30); rw [← hy30, ← hA30, ← hc30] at hcut30; have HR328 := Aside0.mk hr30; have HC328 := Aside0.mk (show y325.length ≤ c30 from by rw [hy30, hc30]; exact Nat.sub_le_sub_right hroom30 _); clear hr30 hC30 hroom30 hi030 hsz30 hc30; have KY30 := Aside0.mk hy30; have KA30 := Aside0.mk hA30; clear hy30 hA30; have KL30 := Aside0.mk (show 1 ≤ t318.length from by omega); replace q30 := eq_true q30; refine sta_ 13 (fun w' => CE_ w' gb305 0 (.int .i64 a0_0) ∧ CE_ w' gb305 1 (.int .i64 a0_1) ∧ CE_ w' gb305 2 (.int .i64 a0_2) ∧ w'.cell? ad323 = some (.int .i64 (rd t318 0))) ⟨bk_ BK305 0, bk_ BK305 1, bk_ BK305 2, hx323_0⟩ (fun hHeld => ?_); refine with_tabW impl_planned.tab9 impl_planned.bits9 (fun HT_ HW_ => ?_); generalize wc.drew = w28 at HO_6 HO_10 BK305 BK306 HR317 HB HR328 hx323_0 hHeld ⊢; refine pv_ 0 13 1 ?_; refine pv_ 1 13 3 ?_; refine pv_ 6 13 67 ?_; refine pv_ 7 13 195 ?_; refine tv_ 2 13 199 ?_; refine pv_ 3 13 207 ?_; refine tv_ 4 13 223 ?_; refine one_ (i := 5) (N := some 48) (bl_ 13 255) rfl rfl (one_of HT_.out (by kernel_rfl)) (by decide) (fun K hK => ?_); refine gv_ Tryz.func67 ?_
          (with_reducible refine (impl_SizeOf.calls A25.out).mono ?_)
          rintro e w31 ⟨rfl, hb⟩; have HS3_ := cw_ hb hHeld.2.2.2; refine ⟨_, rfl, ?_⟩; replace HO_6 := rb_ HO_6 hb; replace HO_10 := rb_ HO_10 hb; replace BK305 := bb_ BK305 hb; replace BK306 := bb_ BK306 hb; replace HR317 := Aside0.mk (Kd.C_below (by repeat (first | (with_reducible exact HR317.out) | (with_reducible refine Kd.C_alloc ?_ _) | (with_reducible refine Kd.C_drewN ?_ _) | (with_reducible refine Kd.C_drew ?_) | exact HR317.out)) hb); replace HR328 := Aside0.mk (Kd.C_below (by repeat (first | (with_reducible exact HR328.out) | (with_reducible refine Kd.C_alloc ?_ _) | (with_reducible refine Kd.C_drewN ?_ _) | (with_reducible refine Kd.C_drew ?_) | exact HR328.out)) hb); replace HB := hb_ HB hb; (try clear hb); refine hK.out _ _ ⟨bk_ BK305 0, bk_ BK305 1, bk_ BK305 2, HS3_⟩ (fun hHeld => ?_); clear hK K; refine nm_ 48 (h := ?_); refine one_ (i := 8) (N := some 51) (bl_ 13 511) rfl rfl (one_of HT_.out (by kernel_rfl)) (by decide) (fun K hK => ?_); refine gv_ Tryz.func66 ?_; refine (impl_filled.calls 0 (rd t318 0) 0 0 0 0 0 _ _ ([] : List Int) _ _ ([] : List Int) t324 _ _ y325 t329 t330 t331 t332 t333 t334 t335 t336 t339 t342 _ ?side1 ?side2 ?side3 ?side4 ?side5 ?side6 A27.out).mono ?_; (case side1 => exact Kd.C_nil _ _); (case side2 => exact Nat.le_refl _); (case side3 => exact Kd.C_nil _ _); (case side4 => exact Nat.le_refl _); (case side5 => repeat (first | exact (by repeat (first | (with_reducible exact HR328.out) | (with_reducible refine Kd.C_alloc ?_ _) | (with_reducible refine Kd.C_drewN ?_ _) | (with_reducible refine Kd.C_drew ?_) | exact HR328.out)) | (with_reducible refine Kd.C_alloc ?_ _) | (with_reducible refine Kd.C_drewN ?_ _) | (with_reducible refine Kd.C_drew ?_))); (case side6 => exact HC328.out); rintro e w32 ⟨v337, v340, rfl, ho0, ho1, hb⟩; have HS3_ := cw_ hb hHeld.2.2.2; refine ⟨_, rfl, ?_⟩; replace HO_6 := rb_ HO_6 hb; have HO338 := Aside0.mk (Kd.R_lower (Kd.R_new' ho0 (Kd.R_lt (ra_ HO_10.out))) (below_size (be_ HB.out))); have HO341 := Aside0.mk (Kd.R_lower (Kd.R_new' ho1 (Kd.R_lt (ra_ HO_10.out))) (below_size (be_ HB.out))); replace HO_10 := Aside0.mk (Kd.R_mono (Kd.R_told (Kd.R_told (Kd.R_old (ra_ HO_10.out) hb) (Kd.R_base ho0)) (Kd.R_base ho1)) (fun _ h_ => h_.1)); replace BK305 := bb_ BK305 hb; replace BK306 := bb_ BK306 hb; replace HR317 := Aside0.mk (Kd.C_below (by repeat (first | (with_reducible exact HR317.out) | (with_reducible refine Kd.C_alloc ?_ _) | (with_reducible refine Kd.C_drewN ?_ _) | (with_reducible refine Kd.C_drew ?_) | exact HR317.out)) hb); replace HR328 := Aside0.mk (Kd.C_below (by repeat (first | (with_reducible exact HR328.out) | (with_reducible refine Kd.C_alloc ?_ _) | (with_reducible refine Kd.C_drewN ?_ _) | (with_reducible refine Kd.C_drew ?_) | exact HR328.out)) hb); replace HB := hb_ HB hb; (try clear hb ho0 ho1); obtain ⟨Ao40, co40, eo40⟩ := Kd.R_slice HO338.out; (first | subst eo40 | (injection eo40 with f1_ f2_ f3_; have f4_ := f1_.symm; have f5_ := f3_.symm; clear f1_ f2_ f3_; subst f4_; subst f5_)); obtain ⟨Ao42, co42, eo42⟩ := Kd.R_slice HO341.out; (first | subst eo42 | (injection eo42 with f1_ f2_ f3_; have f4_ := f1_.symm; have f5_ := f3_.symm; clear f1_ f2_ f3_; subst f4_; subst f5_)); refine hK.out _ _ ⟨bk_ BK305 0, bk_ BK305 1, bk_ BK305 2, HS3_⟩ (fun hHeld => ?_); clear hK K; refine nm_ 51 (h := ?_); refine pv_ 9 13 1023 ?_; refine pv_ 10 13 2047 ?_; refine one_ (i := 11) (N := none) (bl_ 13 4095) rfl rfl (one_of HT_.out (by kernel_rfl)) (by decide) (fun K hK => ?_); have hs33 : w32.cell? ⟨gb306, 0, none⟩ = some (.int .i64 0) := bk_ BK306 0; have hfs33 := blk_frozen BK306.out 0; have hns33_0 := NB305_306.out; have hms33_0 := NB306_305.out; have hs34 : w32.cell? ⟨gb306, 1, none⟩ = some (.int .i64 0) := bk_ BK306 1; have hfs34 := blk_frozen BK306.out 1; have hns34_0 := NB305_306.out; have hms34_0 := NB306_305.out; have hs35 : w32.cell? ⟨gb306, 2, none⟩ = some (.int .i64 0) := bk_ BK306 2; have hfs35 := blk_frozen BK306.out 2; have hns35_0 := NB305_306.out; have hms35_0 := NB306_305.out; have hs36 : w32.cell? ⟨gb306, 3, none⟩ = some (.int .i64 0) := bk_ BK306 3; have hfs36 := blk_frozen BK306.out 3; have hns36_0 := NB305_306.out; have hms36_0 := NB306_305.out; have hs37 : w32.cell? ⟨gb306, 4, none⟩ = some (.int .i64 0) := bk_ BK306 4; have hfs37 := blk_frozen BK306.out 4; have hns37_0 := NB305_306.out; have hms37_0 := NB306_305.out; have hs38 : w32.cell? ⟨gb306, 5, none⟩ = some (.int .i64 0) := bk_ BK306 5; have hfs38 := blk_frozen BK306.out 5; have hns38_0 := NB305_306.out; have hms38_0 := NB306_305.out; have hs39 : w32.cell? ⟨gb306, 6, none⟩ = some (.int .i64 0) := bk_ BK306 6; have hfs39 := blk_frozen BK306.out 6; have hns39_0 := NB305_306.out; have hms39_0 := NB306_305.out; have hs41 : w32.cell? ⟨gb306, 7, none⟩ = some (.slice none 0 0) := bk_ BK306 7; have hfs41 := blk_frozen BK306.out 7; have hns41_0 := NB305_306.out; have hms41_0 := NB306_305.out; have hs43 : w32.cell? ⟨gb306, 8, none⟩ = some (.slice none 0 0) := bk_ BK306 8; have hfs43 := blk_frozen BK306.out 8; have hns43_0 := NB305_306.out; have hms43_0 := NB306_305.out; refine skip_ (w1 := ?_) (by rfl) rfl ?_ ?_
          rotate_left
          ·
           go_simp
           rfl
          refine hK.out _ _ ⟨(cfn_ NB305_306.out ((cfn_ NB305_306.out ((cfn_ NB305_306.out ((cfn_ NB305_306.out ((cfn_ NB305_306.out ((c3_ NB305_306.out ((cfn_ NB305_306.out (hHeld.1)))))))))))))), (cfn_ NB305_306.out ((cfn_ NB305_306.out ((cfn_ NB305_306.out ((cfn_ NB305_306.out ((cfn_ NB305_306.out ((c3_ NB305_306.out ((cfn_ NB305_306.out (hHeld.2.1)))))))))))))), (cfn_ NB305_306.out ((cfn_ NB305_306.out ((cfn_ NB305_306.out ((cfn_ NB305_306.out ((cfn_ NB305_306.out ((c3_ NB305_306.out ((cfn_ NB305_306.out (hHeld.2.2.1)))))))))))))), (cff_ (Kd.own_blk (Kd.R_ne HO_10.out BK306.out (by decide))) ((cff_ (Kd.own_blk (Kd.R_ne HO_10.out BK306.out (by decide))) ((cff_ (Kd.own_blk (Kd.R_ne HO_10.out BK306.out (by decide))) ((cff_ (Kd.own_blk (Kd.R_ne HO_10.out BK306.out (by decide))) ((cff_ (Kd.own_blk (Kd.R_ne HO_10.out BK306.out (by decide))) ((cff_ (Kd.own_blk (Kd.R_ne HO_10.out BK306.out (by decide))) ((cff_ (Kd.own_blk (Kd.R_ne HO_10.out BK306.out (by decide))) ((cff_ (Kd.own_blk (Kd.R_ne HO_10.out BK306.out (by decide))) ((cff_ (Kd.own_blk (Kd.R_ne HO_10.out BK306.out (by decide))) (hHeld.2.2.2))))))))))))))))))⟩ (fun hHeld => ?_); clear hK K; refine pv_ 12 13 8191 ?_; refine done_ (done_of HT_.out (by kernel_rfl)) ?_
          try go_wp2
          refine bodyPost_ret (results_ct rfl _ _ gb306 55 #[.int .i64 t329, .int .i64 t330, .int .i64 t331, .int .i64 t332, .int .i64 t333, .int .i64 t334, .int .i64 t335, .slice Ao40 t336.length co40, .slice Ao42 t339.length co42] (0, 0) _ rfl (bq_ BK306.out) Tryz.underlying55 rfl (by kernel_rfl)) rfl ?_; exact ⟨_, _, by first | rfl | (simp [errW_none, errW_some] <;> rfl) | (simp [*, errW_none, errW_some] <;> rfl), by (with_reducible repeat (first | apply Kd.R_alloc | apply Kd.R_drewN | apply Kd.R_drew)); exact Kd.R_mono (Kd.R_far (p := ⟨gb306, 8, none⟩) (Kd.R_far (p := ⟨gb306, 7, none⟩) (Kd.R_far (p := ⟨gb306, 6, none⟩) (Kd.R_far (p := ⟨gb306, 5, none⟩) (Kd.R_far (p := ⟨gb306, 4, none⟩) (Kd.R_far (p := ⟨gb306, 3, none⟩) (Kd.R_far (p := ⟨gb306, 2, none⟩) (Kd.R_far (p := ⟨gb306, 1, none⟩) (Kd.R_far (p := ⟨gb306, 0, none⟩) (Kd.R_types HO338.out BK306.out (by decide)) (fun _ hk => hk.2) (.int .i64 t329)) (fun _ hk => hk.2) (.int .i64 t330)) (fun _ hk => hk.2) (.int .i64 t331)) (fun _ hk => hk.2) (.int .i64 t332)) (fun _ hk => hk.2) (.int .i64 t333)) (fun _ hk => hk.2) (.int .i64 t334)) (fun _ hk => hk.2) (.int .i64 t335)) (fun _ hk => hk.2) (.slice Ao40 t336.length co40)) (fun _ hk => hk.2) (.slice Ao42 t339.length co42)) (fun _ hk => hk.1.1), by (with_reducible repeat (first | apply Kd.R_alloc | apply Kd.R_drewN | apply Kd.R_drew)); exact Kd.R_mono (Kd.R_far (p := ⟨gb306, 8, none⟩) (Kd.R_far (p := ⟨gb306, 7, none⟩) (Kd.R_far (p := ⟨gb306, 6, none⟩) (Kd.R_far (p := ⟨gb306, 5, none⟩) (Kd.R_far (p := ⟨gb306, 4, none⟩) (Kd.R_far (p := ⟨gb306, 3, none⟩) (Kd.R_far (p := ⟨gb306, 2, none⟩) (Kd.R_far (p := ⟨gb306, 1, none⟩) (Kd.R_far (p := ⟨gb306, 0, none⟩) (Kd.R_types HO341.out BK306.out (by decide)) (fun _ hk => hk.2) (.int .i64 t329)) (fun _ hk => hk.2) (.int .i64 t330)) (fun _ hk => hk.2) (.int .i64 t331)) (fun _ hk => hk.2) (.int .i64 t332)) (fun _ hk => hk.2) (.int .i64 t333)) (fun _ hk => hk.2) (.int .i64 t334)) (fun _ hk => hk.2) (.int .i64 t335)) (fun _ hk => hk.2) (.slice Ao40 t336.length co40)) (fun _ hk => hk.2) (.slice Ao42 t339.length co42)) (fun _ hk => hk.1.1), be_ HB.out⟩
         ·
          rw [if_neg c26] at H; exact absurd H (by simp)
        ·
         rw [if_neg c24] at H; exact absurd H (by simp)
       ·
        rw [if_neg c23] at H; have c23b0 : ((rdOf ByteArray.empty t307 0).toList == ([100, 101, 110, 115, 101] : List UInt8)) = false := beq_eq_false_iff_ne.mpr c23; have c23b1 : ((rdOf ByteArray.empty t307 0).toList != ([100, 101, 110, 115, 101] : List UInt8)) = true := bne_iff_ne.mpr c23
        by_cases c44 : (rdOf ByteArray.empty t307 0).toList = ([99, 111, 110, 118] : List UInt8)
        ·
         rw [if_pos c44] at H; have c44b0 : ((rdOf ByteArray.empty t307 0).toList == ([99, 111, 110, 118] : List UInt8)) = true := beq_iff_eq.mpr c44; have c44b1 : ((rdOf ByteArray.empty t307 0).toList != ([99, 111, 110, 118] : List UInt8)) = false := bne_eq_false_iff_eq.mpr c44; clear c44
         by_cases c45 : 1 < (t318.length : Int)
         ·
          rw [if_pos c45] at H; have c45b0 : decide (1 < (t318.length : Int)) = true := dt_ c45; have c45b1 : decide (1 < t318.length) = true := decide_eq_true (by omega); clear c45; obtain ⟨t344, A46, H⟩ := bo_ H; (try dsimp only at H)
          by_cases c47 : t344 = true
          ·
           subst c47; rw [if_pos rfl] at H
           by_cases c48 : 0 < (t318.length : Int)
           ·
            rw [if_pos c48] at H; have c48b0 : decide (0 < (t318.length : Int)) = true := dt_ c48; have c48b1 : decide (0 < t318.length) = true := decide_eq_true (by omega); clear c48
            by_cases c49 : 2 < (t318.length : Int)
            ·
             rw [if_pos c49] at H; have c49b0 : decide (2 < (t318.length : Int)) = true := dt_ c49; have c49b1 : decide (2 < t318.length) = true := decide_eq_true (by omega); clear c49
             by_cases c50 : 3 ≤ (t318.length : Int)
             ·
              rw [if_pos c50] at H; have c50b0 := eq_true c50; have c50b1 : decide (3 ≤ (t318.length : Int)) = true := dt_ c50; clear c50; obtain ⟨y350, hy_⟩ : ∃ y_ : List Int, y_ = (t318.drop 3) := ⟨_, rfl⟩; replace H : ((impl_filled.f 1 (rd t318 0) (rd t318 1) (rd t318 2) 0 0 0 ([] : List Int) ([] : List Int) (wrap64 ((wrap64 ((rd t318 1) * (rd t318 1))) * a0_2)) y350).bind fun bt354 => (some (bt354.1, bt354.2.1, bt354.2.2.1, bt354.2.2.2.1, bt354.2.2.2.2.1, bt354.2.2.2.2.2.1, bt354.2.2.2.2.2.2.1, bt354.2.2.2.2.2.2.2.1, bt354.2.2.2.2.2.2.2.2.1, bt354.2.2.2.2.2.2.2.2.2))) = some (r1, r2, r3, r4, r5, r6, r7, r8, r9, r10) := yh_
              have Ny350 := Aside0.mk hy_; clear hy_; obtain ⟨⟨t354, t355, t356, t357, t358, t359, t360, t361, t364, t367⟩, A51, H⟩ := bo_ H; (try dsimp only at H); simp only [Option.some.injEq, Prod.mk.injEq] at H; obtain ⟨rfl, rfl, rfl, rfl, rfl, rfl, rfl, rfl, rfl, rfl⟩ := H; have p322 : 0 ≤ (0 : Int) := (by omega); have q322 : 0 < (t307.length : Int) := od_; obtain ⟨ad322, e322, hx322_0⟩ := Kd.at_string (Kd.R_reads' HO_6.out).2.2 0 p322 q322; obtain rfl : ad311 = ad322 := (by injection e322); have qi322 : (0 < t307.length) = True := eq_true (by omega); (try rw [show ((0 : Int)).toNat = 0 from rfl] at hx322_0); (try rw [Addr.add_zero'] at hx322_0); replace p322 := eq_true p322; replace q322 := eq_true q322; obtain ⟨Ao52, co52, eo52⟩ := Kd.R_slice HO_10.out; subst eo52; have p343 : 0 ≤ (1 : Int) := (by omega); have q343 : 1 < (t318.length : Int) := od_; obtain ⟨ad343, e343, hx343_0⟩ := Kd.at_int (Kd.R_reads' HO_10.out).2.2 1 p343 q343
              cases e343
              (try simp only [show (1 : Int).toNat = 1 from rfl, Nat.reduceMul, Nat.reduceEqDiff, Go.Addr.add, ↓reduceIte] at hx343_0); have qi343 : (1 < t318.length) = True := eq_true (by omega); (try rw [show ((1 : Int)).toNat = 1 from rfl] at hx343_0); replace p343 := eq_true p343; replace q343 := eq_true q343
              try go_wp2_with (first | ((with_reducible refine gc_ 56 ?_); refine gw_ (some 59) Tryz.func56 ?_; (with_reducible refine (impl_in.calls A46.out).mono ?_); rintro e w' ⟨rfl, ⟨nd, rfl⟩⟩; refine ⟨_, rfl, ?_⟩; (try (rw [drewN_self wc]; generalize hq_ : World.drewN wc _ = wc; replace HO_6 := Aside0.mk (Kd.R_at hq_ HO_6.out); replace HO_10 := Aside0.mk (Kd.R_at hq_ HO_10.out); replace BK305 := Aside0.mk (blk_at hq_ BK305.out); replace BK306 := Aside0.mk (blk_at hq_ BK306.out); replace HR317 := Aside0.mk (Kd.C_at hq_ HR317.out); replace HB := Aside0.mk (below_at hq_ HB.out); clear hq_))))
              replace HO_6 := Aside0.mk (Kd.R_drew HO_6.out); replace HO_10 := Aside0.mk (Kd.R_drew HO_10.out); replace BK305 := Aside0.mk (blk_drew BK305.out); replace BK306 := Aside0.mk (blk_drew BK306.out); replace HR317 := Aside0.mk (Kd.C_drew HR317.out); replace HB := Aside0.mk (below_drew1 HB.out); have p345 : 0 ≤ (0 : Int) := (by omega); have q345 : 0 < (t318.length : Int) := od_; obtain ⟨ad345, e345, hx345_0⟩ := Kd.at_int (Kd.R_reads' HO_10.out).2.2 0 p345 q345; obtain rfl : ad343 = ad345 := (by injection e345); have qi345 : (0 < t318.length) = True := eq_true (by omega); (try rw [show ((0 : Int)).toNat = 0 from rfl] at hx345_0); (try rw [Addr.add_zero'] at hx345_0); replace p345 := eq_true p345; replace q345 := eq_true q345; have p346 : 0 ≤ (1 : Int) := (by omega); have q346 : 1 < (t318.length : Int) := od_; obtain ⟨ad346, e346, hx346_0⟩ := Kd.at_int (Kd.R_reads' HO_10.out).2.2 1 p346 q346; obtain rfl : ad343 = ad346 := (by injection e346); (try simp only [show (1 : Int).toNat = 1 from rfl, Nat.reduceMul, Nat.reduceEqDiff, Go.Addr.add, ↓reduceIte] at hx346_0); have qi346 : (1 < t318.length) = True := eq_true (by omega); (try rw [show ((1 : Int)).toNat = 1 from rfl] at hx346_0); replace p346 := eq_true p346; replace q346 := eq_true q346; have p347 : 0 ≤ (2 : Int) := (by omega); have q347 : 2 < (t318.length : Int) := od_; obtain ⟨ad347, e347, hx347_0⟩ := Kd.at_int (Kd.R_reads' HO_10.out).2.2 2 p347 q347; obtain rfl : ad343 = ad347 := (by injection e347); (try simp only [show (2 : Int).toNat = 2 from rfl, Nat.reduceMul, Nat.reduceEqDiff, Go.Addr.add, ↓reduceIte] at hx347_0); have qi347 : (2 < t318.length) = True := eq_true (by omega); (try rw [show ((2 : Int)).toNat = 2 from rfl] at hx347_0); replace p347 := eq_true p347; replace q347 := eq_true q347; have p348 : 0 ≤ (1 : Int) := (by omega); have q348 : 1 < (t318.length : Int) := od_; obtain ⟨ad348, e348, hx348_0⟩ := Kd.at_int (Kd.R_reads' HO_10.out).2.2 1 p348 q348; obtain rfl : ad343 = ad348 := (by injection e348); (try simp only [show (1 : Int).toNat = 1 from rfl, Nat.reduceMul, Nat.reduceEqDiff, Go.Addr.add, ↓reduceIte] at hx348_0); have qi348 : (1 < t318.length) = True := eq_true (by omega); (try rw [show ((1 : Int)).toNat = 1 from rfl] at hx348_0); replace p348 := eq_true p348; replace q348 := eq_true q348; have p349 : 0 ≤ (1 : Int) := (by omega); have q349 : 1 < (t318.length : Int) := od_; obtain ⟨ad349, e349, hx349_0⟩ := Kd.at_int (Kd.R_reads' HO_10.out).2.2 1 p349 q349; obtain rfl : ad343 = ad349 := (by injection e349); (try simp only [show (1 : Int).toNat = 1 from rfl, Nat.reduceMul, Nat.reduceEqDiff, Go.Addr.add, ↓reduceIte] at hx349_0); have qi349 : (1 < t318.length) = True := eq_true (by omega); (try rw [show ((1 : Int)).toNat = 1 from rfl] at hx349_0); replace p349 := eq_true p349; replace q349 := eq_true q349; have q54 : (3 : Int) ≤ ((t318.length : Int) : Int) := od_; obtain ⟨i054, hi054, _, hsz54, _⟩ := info_parts info3; have hroom54 : t318.length ≤ co52 := (Kd.R_reads' HO_10.out).2.1; have hC54 : Kd.C (Kd.int .i64) _ (some ad343) t318.length t318 := (Kd.R_reads' HO_10.out).2.2; have hcut54 := cut_from (P := Tryz.prog) 47 3 .i64 Tryz.underlying47 hi054 1 hsz54 (some ad343) t318.length co52 3 (by omega) q54; have hr54 := Kd.C_drop (m := (3 : Int).toNat) (c := co52) hC54 (by omega) hroom54; obtain ⟨A54, hA54⟩ : ∃ A1, A1 = (if co52 = (3 : Int).toNat then (some ad343) else ((some ad343) : Option Addr).map (·.add ((3 : Int).toNat * 1))) := ⟨_, rfl⟩; obtain ⟨c54, hc54⟩ : ∃ c1, c1 = co52 - (3 : Int).toNat := ⟨_, rfl⟩; have hy54 : y350.length = t318.length - (3 : Int).toNat := (by rw [Ny350.out, List.length_drop] <;> omega); rw [show (t318).drop (3 : Int).toNat = y350 from Ny350.out.symm] at hr54; replace hr54 : Kd.C (Kd.int .i64) _ A54 y350.length y350 := (by rw [hA54]; exact hr54); rw [← hy54, ← hA54, ← hc54] at hcut54; have HR353 := Aside0.mk hr54; have HC353 := Aside0.mk (show y350.length ≤ c54 from by rw [hy54, hc54]; exact Nat.sub_le_sub_right hroom54 _); clear hr54 hC54 hroom54 hi054 hsz54 hc54; have KY54 := Aside0.mk hy54; have KA54 := Aside0.mk hA54; clear hy54 hA54; have KL54 := Aside0.mk (show 3 ≤ t318.length from by omega); replace q54 := eq_true q54; refine sta_ 27 (fun w' => CE_ w' gb305 0 (.int .i64 a0_0) ∧ CE_ w' gb305 1 (.int .i64 a0_1) ∧ CE_ w' gb305 2 (.int .i64 a0_2) ∧ w'.cell? ad343 = some (.int .i64 (rd t318 0)) ∧ CF_ w' ad343 1 (.int .i64 (rd t318 1)) ∧ CF_ w' ad343 2 (.int .i64 (rd t318 2)) ∧ CF_ w' ad343 1 (.int .i64 (rd t318 1)) ∧ CF_ w' ad343 1 (.int .i64 (rd t318 1))) ⟨bk_ BK305 0, bk_ BK305 1, bk_ BK305 2, hx345_0, hx346_0, hx347_0, hx348_0, hx349_0⟩ (fun hHeld => ?_); refine with_tabW impl_planned.tab13 impl_planned.bits13 (fun HT_ HW_ => ?_); generalize wc.drew = w53 at HO_6 HO_10 BK305 BK306 HR317 HB HR353 hx345_0 hx346_0 hx347_0 hx348_0 hx349_0 hHeld ⊢; refine pv_ 0 27 1 ?_; refine pv_ 1 27 3 ?_; refine pv_ 3 27 11 ?_; refine pv_ 4 27 27 ?_; refine pv_ 6 27 91 ?_; refine pv_ 7 27 219 ?_; refine pv_ 10 27 1243 ?_; refine pv_ 11 27 3291 ?_; refine pv_ 13 27 11483 ?_; refine pv_ 14 27 27867 ?_; refine pv_ 17 27 158939 ?_; refine pv_ 20 27 1207515 ?_; refine pv_ 21 27 3304667 ?_; refine tv_ 2 27 3304671 ?_; refine tv_ 5 27 3304703 ?_; refine tv_ 8 27 3304959 ?_; refine pv_ 9 27 3305471 ?_; refine tv_ 12 27 3309567 ?_; refine tv_ 15 27 3342335 ?_; refine pv_ 16 27 3407871 ?_; refine tv_ 18 27 3670015 ?_; refine pv_ 19 27 4194303 ?_; refine one_ (i := 22) (N := some 84) (bl_ 27 8388607) rfl rfl (one_of HT_.out (by kernel_rfl)) (by decide) (fun K hK => ?_); refine gv_ Tryz.func66 ?_; refine (impl_filled.calls 1 (rd t318 0) (rd t318 1) (rd t318 2) 0 0 0 _ _ ([] : List Int) _ _ ([] : List Int) (wrap64 ((wrap64 ((rd t318 1) * (rd t318 1))) * a0_2)) _ _ y350 t354 t355 t356 t357 t358 t359 t360 t361 t364 t367 _ ?side1 ?side2 ?side3 ?side4 ?side5 ?side6 A51.out).mono ?_; (case side1 => exact Kd.C_nil _ _); (case side2 => exact Nat.le_refl _); (case side3 => exact Kd.C_nil _ _); (case side4 => exact Nat.le_refl _); (case side5 => repeat (first | exact (by repeat (first | (with_reducible exact HR353.out) | (with_reducible refine Kd.C_alloc ?_ _) | (with_reducible refine Kd.C_drewN ?_ _) | (with_reducible refine Kd.C_drew ?_) | exact HR353.out)) | (with_reducible refine Kd.C_alloc ?_ _) | (with_reducible refine Kd.C_drewN ?_ _) | (with_reducible refine Kd.C_drew ?_))); (case side6 => exact HC353.out); rintro e w55 ⟨v362, v365, rfl, ho0, ho1, hb⟩; have HS3_ := cw_ hb hHeld.2.2.2.1; have HS4_ := cw_ hb hHeld.2.2.2.2.1; have HS5_ := cw_ hb hHeld.2.2.2.2.2.1; have HS6_ := cw_ hb hHeld.2.2.2.2.2.2.1; have HS7_ := cw_ hb hHeld.2.2.2.2.2.2.2; refine ⟨_, rfl, ?_⟩; replace HO_6 := rb_ HO_6 hb; have HO363 := Aside0.mk (Kd.R_lower (Kd.R_new' ho0 (Kd.R_lt (ra_ HO_10.out))) (below_size (be_ HB.out))); have HO366 := Aside0.mk (Kd.R_lower (Kd.R_new' ho1 (Kd.R_lt (ra_ HO_10.out))) (below_size (be_ HB.out))); replace HO_10 := Aside0.mk (Kd.R_mono (Kd.R_told (Kd.R_told (Kd.R_old (ra_ HO_10.out) hb) (Kd.R_base ho0)) (Kd.R_base ho1)) (fun _ h_ => h_.1)); replace BK305 := bb_ BK305 hb; replace BK306 := bb_ BK306 hb; replace HR317 := Aside0.mk (Kd.C_below (by repeat (first | (with_reducible exact HR317.out) | (with_reducible refine Kd.C_alloc ?_ _) | (with_reducible refine Kd.C_drewN ?_ _) | (with_reducible refine Kd.C_drew ?_) | exact HR317.out)) hb); replace HR353 := Aside0.mk (Kd.C_below (by repeat (first | (with_reducible exact HR353.out) | (with_reducible refine Kd.C_alloc ?_ _) | (with_reducible refine Kd.C_drewN ?_ _) | (with_reducible refine Kd.C_drew ?_) | exact HR353.out)) hb); replace HB := hb_ HB hb; (try clear hb ho0 ho1); obtain ⟨Ao63, co63, eo63⟩ := Kd.R_slice HO363.out; (first | subst eo63 | (injection eo63 with f1_ f2_ f3_; have f4_ := f1_.symm; have f5_ := f3_.symm; clear f1_ f2_ f3_; subst f4_; subst f5_)); obtain ⟨Ao65, co65, eo65⟩ := Kd.R_slice HO366.out; (first | subst eo65 | (injection eo65 with f1_ f2_ f3_; have f4_ := f1_.symm; have f5_ := f3_.symm; clear f1_ f2_ f3_; subst f4_; subst f5_)); refine hK.out _ _ ⟨bk_ BK305 0, bk_ BK305 1, bk_ BK305 2, HS3_, HS4_, HS5_, HS6_, HS7_⟩ (fun hHeld => ?_); clear hK K; refine nm_ 84 (h := ?_); refine pv_ 23 27 16777215 ?_; refine pv_ 24 27 33554431 ?_; refine one_ (i := 25) (N := none) (bl_ 27 67108863) rfl rfl (one_of HT_.out (by kernel_rfl)) (by decide) (fun K hK => ?_); have hs56 : w55.cell? ⟨gb306, 0, none⟩ = some (.int .i64 0) := bk_ BK306 0; have hfs56 := blk_frozen BK306.out 0; have hns56_0 := NB305_306.out; have hms56_0 := NB306_305.out; have hs57 : w55.cell? ⟨gb306, 1, none⟩ = some (.int .i64 0) := bk_ BK306 1; have hfs57 := blk_frozen BK306.out 1; have hns57_0 := NB305_306.out; have hms57_0 := NB306_305.out; have hs58 : w55.cell? ⟨gb306, 2, none⟩ = some (.int .i64 0) := bk_ BK306 2; have hfs58 := blk_frozen BK306.out 2; have hns58_0 := NB305_306.out; have hms58_0 := NB306_305.out; have hs59 : w55.cell? ⟨gb306, 3, none⟩ = some (.int .i64 0) := bk_ BK306 3; have hfs59 := blk_frozen BK306.out 3; have hns59_0 := NB305_306.out; have hms59_0 := NB306_305.out; have hs60 : w55.cell? ⟨gb306, 4, none⟩ = some (.int .i64 0) := bk_ BK306 4; have hfs60 := blk_frozen BK306.out 4; have hns60_0 := NB305_306.out; have hms60_0 := NB306_305.out; have hs61 : w55.cell? ⟨gb306, 5, none⟩ = some (.int .i64 0) := bk_ BK306 5; have hfs61 := blk_frozen BK306.out 5; have hns61_0 := NB305_306.out; have hms61_0 := NB306_305.out; have hs62 : w55.cell? ⟨gb306, 6, none⟩ = some (.int .i64 0) := bk_ BK306 6; have hfs62 := blk_frozen BK306.out 6; have hns62_0 := NB305_306.out; have hms62_0 := NB306_305.out; have hs64 : w55.cell? ⟨gb306, 7, none⟩ = some (.slice none 0 0) := bk_ BK306 7; have hfs64 := blk_frozen BK306.out 7; have hns64_0 := NB305_306.out; have hms64_0 := NB306_305.out; have hs66 : w55.cell? ⟨gb306, 8, none⟩ = some (.slice none 0 0) := bk_ BK306 8; have hfs66 := blk_frozen BK306.out 8; have hns66_0 := NB305_306.out; have hms66_0 := NB306_305.out; refine skip_ (w1 := ?_) (by rfl) rfl ?_ ?_
              rotate_left
              ·
               go_simp
               rfl
              refine hK.out _ _ ⟨(cfn_ NB305_306.out ((cfn_ NB305_306.out ((cfn_ NB305_306.out ((cfn_ NB305_306.out ((cfn_ NB305_306.out ((c3_ NB305_306.out ((cfn_ NB305_306.out (hHeld.1)))))))))))))), (cfn_ NB305_306.out ((cfn_ NB305_306.out ((cfn_ NB305_306.out ((cfn_ NB305_306.out ((cfn_ NB305_306.out ((c3_ NB305_306.out ((cfn_ NB305_306.out (hHeld.2.1)))))))))))))), (cfn_ NB305_306.out ((cfn_ NB305_306.out ((cfn_ NB305_306.out ((cfn_ NB305_306.out ((cfn_ NB305_306.out ((c3_ NB305_306.out ((cfn_ NB305_306.out (hHeld.2.2.1)))))))))))))), (cff_ (Kd.own_blk (Kd.R_ne HO_10.out BK306.out (by decide))) ((cff_ (Kd.own_blk (Kd.R_ne HO_10.out BK306.out (by decide))) ((cff_ (Kd.own_blk (Kd.R_ne HO_10.out BK306.out (by decide))) ((cff_ (Kd.own_blk (Kd.R_ne HO_10.out BK306.out (by decide))) ((cff_ (Kd.own_blk (Kd.R_ne HO_10.out BK306.out (by decide))) ((cff_ (Kd.own_blk (Kd.R_ne HO_10.out BK306.out (by decide))) ((cff_ (Kd.own_blk (Kd.R_ne HO_10.out BK306.out (by decide))) ((cff_ (Kd.own_blk (Kd.R_ne HO_10.out BK306.out (by decide))) ((cff_ (Kd.own_blk (Kd.R_ne HO_10.out BK306.out (by decide))) (hHeld.2.2.2.1)))))))))))))))))), (cff_ (Kd.own_blk (Kd.R_ne HO_10.out BK306.out (by decide))) ((cff_ (Kd.own_blk (Kd.R_ne HO_10.out BK306.out (by decide))) ((cff_ (Kd.own_blk (Kd.R_ne HO_10.out BK306.out (by decide))) ((cff_ (Kd.own_blk (Kd.R_ne HO_10.out BK306.out (by decide))) ((cff_ (Kd.own_blk (Kd.R_ne HO_10.out BK306.out (by decide))) ((cff_ (Kd.own_blk (Kd.R_ne HO_10.out BK306.out (by decide))) ((cff_ (Kd.own_blk (Kd.R_ne HO_10.out BK306.out (by decide))) ((cff_ (Kd.own_blk (Kd.R_ne HO_10.out BK306.out (by decide))) ((cff_ (Kd.own_blk (Kd.R_ne HO_10.out BK306.out (by decide))) (hHeld.2.2.2.2.1)))))))))))))))))), (cff_ (Kd.own_blk (Kd.R_ne HO_10.out BK306.out (by decide))) ((cff_ (Kd.own_blk (Kd.R_ne HO_10.out BK306.out (by decide))) ((cff_ (Kd.own_blk (Kd.R_ne HO_10.out BK306.out (by decide))) ((cff_ (Kd.own_blk (Kd.R_ne HO_10.out BK306.out (by decide))) ((cff_ (Kd.own_blk (Kd.R_ne HO_10.out BK306.out (by decide))) ((cff_ (Kd.own_blk (Kd.R_ne HO_10.out BK306.out (by decide))) ((cff_ (Kd.own_blk (Kd.R_ne HO_10.out BK306.out (by decide))) ((cff_ (Kd.own_blk (Kd.R_ne HO_10.out BK306.out (by decide))) ((cff_ (Kd.own_blk (Kd.R_ne HO_10.out BK306.out (by decide))) (hHeld.2.2.2.2.2.1)))))))))))))))))), (cff_ (Kd.own_blk (Kd.R_ne HO_10.out BK306.out (by decide))) ((cff_ (Kd.own_blk (Kd.R_ne HO_10.out BK306.out (by decide))) ((cff_ (Kd.own_blk (Kd.R_ne HO_10.out BK306.out (by decide))) ((cff_ (Kd.own_blk (Kd.R_ne HO_10.out BK306.out (by decide))) ((cff_ (Kd.own_blk (Kd.R_ne HO_10.out BK306.out (by decide))) ((cff_ (Kd.own_blk (Kd.R_ne HO_10.out BK306.out (by decide))) ((cff_ (Kd.own_blk (Kd.R_ne HO_10.out BK306.out (by decide))) ((cff_ (Kd.own_blk (Kd.R_ne HO_10.out BK306.out (by decide))) ((cff_ (Kd.own_blk (Kd.R_ne HO_10.out BK306.out (by decide))) (hHeld.2.2.2.2.2.2.1)))))))))))))))))), (cff_ (Kd.own_blk (Kd.R_ne HO_10.out BK306.out (by decide))) ((cff_ (Kd.own_blk (Kd.R_ne HO_10.out BK306.out (by decide))) ((cff_ (Kd.own_blk (Kd.R_ne HO_10.out BK306.out (by decide))) ((cff_ (Kd.own_blk (Kd.R_ne HO_10.out BK306.out (by decide))) ((cff_ (Kd.own_blk (Kd.R_ne HO_10.out BK306.out (by decide))) ((cff_ (Kd.own_blk (Kd.R_ne HO_10.out BK306.out (by decide))) ((cff_ (Kd.own_blk (Kd.R_ne HO_10.out BK306.out (by decide))) ((cff_ (Kd.own_blk (Kd.R_ne HO_10.out BK306.out (by decide))) ((cff_ (Kd.own_blk (Kd.R_ne HO_10.out BK306.out (by decide))) (hHeld.2.2.2.2.2.2.2))))))))))))))))))⟩ (fun hHeld => ?_); clear hK K; refine pv_ 26 27 134217727 ?_; refine done_ (done_of HT_.out (by kernel_rfl)) ?_
              try go_wp2
              refine bodyPost_ret (results_ct rfl _ _ gb306 55 #[.int .i64 t354, .int .i64 t355, .int .i64 t356, .int .i64 t357, .int .i64 t358, .int .i64 t359, .int .i64 t360, .slice Ao63 t361.length co63, .slice Ao65 t364.length co65] (0, 0) _ rfl (bq_ BK306.out) Tryz.underlying55 rfl (by kernel_rfl)) rfl ?_; exact ⟨_, _, by first | rfl | (simp [errW_none, errW_some] <;> rfl) | (simp [*, errW_none, errW_some] <;> rfl), by (with_reducible repeat (first | apply Kd.R_alloc | apply Kd.R_drewN | apply Kd.R_drew)); exact Kd.R_mono (Kd.R_far (p := ⟨gb306, 8, none⟩) (Kd.R_far (p := ⟨gb306, 7, none⟩) (Kd.R_far (p := ⟨gb306, 6, none⟩) (Kd.R_far (p := ⟨gb306, 5, none⟩) (Kd.R_far (p := ⟨gb306, 4, none⟩) (Kd.R_far (p := ⟨gb306, 3, none⟩) (Kd.R_far (p := ⟨gb306, 2, none⟩) (Kd.R_far (p := ⟨gb306, 1, none⟩) (Kd.R_far (p := ⟨gb306, 0, none⟩) (Kd.R_types HO363.out BK306.out (by decide)) (fun _ hk => hk.2) (.int .i64 t354)) (fun _ hk => hk.2) (.int .i64 t355)) (fun _ hk => hk.2) (.int .i64 t356)) (fun _ hk => hk.2) (.int .i64 t357)) (fun _ hk => hk.2) (.int .i64 t358)) (fun _ hk => hk.2) (.int .i64 t359)) (fun _ hk => hk.2) (.int .i64 t360)) (fun _ hk => hk.2) (.slice Ao63 t361.length co63)) (fun _ hk => hk.2) (.slice Ao65 t364.length co65)) (fun _ hk => hk.1.1), by (with_reducible repeat (first | apply Kd.R_alloc | apply Kd.R_drewN | apply Kd.R_drew)); exact Kd.R_mono (Kd.R_far (p := ⟨gb306, 8, none⟩) (Kd.R_far (p := ⟨gb306, 7, none⟩) (Kd.R_far (p := ⟨gb306, 6, none⟩) (Kd.R_far (p := ⟨gb306, 5, none⟩) (Kd.R_far (p := ⟨gb306, 4, none⟩) (Kd.R_far (p := ⟨gb306, 3, none⟩) (Kd.R_far (p := ⟨gb306, 2, none⟩) (Kd.R_far (p := ⟨gb306, 1, none⟩) (Kd.R_far (p := ⟨gb306, 0, none⟩) (Kd.R_types HO366.out BK306.out (by decide)) (fun _ hk => hk.2) (.int .i64 t354)) (fun _ hk => hk.2) (.int .i64 t355)) (fun _ hk => hk.2) (.int .i64 t356)) (fun _ hk => hk.2) (.int .i64 t357)) (fun _ hk => hk.2) (.int .i64 t358)) (fun _ hk => hk.2) (.int .i64 t359)) (fun _ hk => hk.2) (.int .i64 t360)) (fun _ hk => hk.2) (.slice Ao63 t361.length co63)) (fun _ hk => hk.2) (.slice Ao65 t364.length co65)) (fun _ hk => hk.1.1), be_ HB.out⟩
             ·
              rw [if_neg c50] at H; exact absurd H (by simp)
            ·
             rw [if_neg c49] at H; exact absurd H (by simp)
           ·
            rw [if_neg c48] at H; exact absurd H (by simp)
          ·
           replace c47 := fb_ c47; subst c47; replace H := if0_ H
           simp only [Option.some.injEq, Prod.mk.injEq] at H; obtain ⟨rfl, rfl, rfl, rfl, rfl, rfl, rfl, rfl, rfl, rfl⟩ := H; have p322 : 0 ≤ (0 : Int) := (by omega); have q322 : 0 < (t307.length : Int) := od_; obtain ⟨ad322, e322, hx322_0⟩ := Kd.at_string (Kd.R_reads' HO_6.out).2.2 0 p322 q322; obtain rfl : ad311 = ad322 := (by injection e322); have qi322 : (0 < t307.length) = True := eq_true (by omega); (try rw [show ((0 : Int)).toNat = 0 from rfl] at hx322_0); (try rw [Addr.add_zero'] at hx322_0); replace p322 := eq_true p322; replace q322 := eq_true q322; obtain ⟨Ao67, co67, eo67⟩ := Kd.R_slice HO_10.out; subst eo67; have p343 : 0 ≤ (1 : Int) := (by omega); have q343 : 1 < (t318.length : Int) := od_; obtain ⟨ad343, e343, hx343_0⟩ := Kd.at_int (Kd.R_reads' HO_10.out).2.2 1 p343 q343
           cases e343
           (try simp only [show (1 : Int).toNat = 1 from rfl, Nat.reduceMul, Nat.reduceEqDiff, Go.Addr.add, ↓reduceIte] at hx343_0); have qi343 : (1 < t318.length) = True := eq_true (by omega); (try rw [show ((1 : Int)).toNat = 1 from rfl] at hx343_0); replace p343 := eq_true p343; replace q343 := eq_true q343
           go_wp2_with (first | ((with_reducible refine gc_ 56 ?_); refine gw_ (some 59) Tryz.func56 ?_; (with_reducible refine (impl_in.calls A46.out).mono ?_); rintro e w' ⟨rfl, ⟨nd, rfl⟩⟩; refine ⟨_, rfl, ?_⟩; (try (rw [drewN_self wc]; generalize hq_ : World.drewN wc _ = wc; replace HO_6 := Aside0.mk (Kd.R_at hq_ HO_6.out); replace HO_10 := Aside0.mk (Kd.R_at hq_ HO_10.out); replace BK305 := Aside0.mk (blk_at hq_ BK305.out); replace BK306 := Aside0.mk (blk_at hq_ BK306.out); replace HR317 := Aside0.mk (Kd.C_at hq_ HR317.out); replace HB := Aside0.mk (below_at hq_ HB.out); clear hq_)); have hnb68 := nn_ NB306_305 NB305_306; have hcz69 := box9_ BK306.out))
           refine bodyPost_ret (results_ct rfl _ _ gb306 55 #[.int .i64 0, .int .i64 0, .int .i64 0, .int .i64 0, .int .i64 0, .int .i64 0, .int .i64 0, .slice none 0 0, .slice none 0 0] (0, 0) _ rfl (bq_ BK306.out) Tryz.underlying55 rfl (by kernel_rfl)) rfl ?_; exact ⟨_, _, by first | rfl | (simp [errW_none, errW_some] <;> rfl) | (simp [*, errW_none, errW_some] <;> rfl), by first | exact Kd.R_nil _ _ _ _ _ | exact Kd.N_nil _ _ _ _ _ | exact Kd.V_nil _ _ _ _ _ | exact Kd.Q_nil _ _ _ _ _ | exact Kd.S_nil _ _ _ _ _, by first | exact Kd.R_nil _ _ _ _ _ | exact Kd.N_nil _ _ _ _ _ | exact Kd.V_nil _ _ _ _ _ | exact Kd.Q_nil _ _ _ _ _ | exact Kd.S_nil _ _ _ _ _, be_ HB.out⟩
         ·
          rw [if_neg c45] at H; exact absurd H (by simp)
        ·
         rw [if_neg c44] at H; have c44b0 : ((rdOf ByteArray.empty t307 0).toList == ([99, 111, 110, 118] : List UInt8)) = false := beq_eq_false_iff_ne.mpr c44; have c44b1 : ((rdOf ByteArray.empty t307 0).toList != ([99, 111, 110, 118] : List UInt8)) = true := bne_iff_ne.mpr c44
         by_cases c70 : (rdOf ByteArray.empty t307 0).toList = ([109, 97, 120] : List UInt8)
         ·
          rw [if_pos c70] at H; have c70b0 : ((rdOf ByteArray.empty t307 0).toList == ([109, 97, 120] : List UInt8)) = true := beq_iff_eq.mpr c70; have c70b1 : ((rdOf ByteArray.empty t307 0).toList != ([109, 97, 120] : List UInt8)) = false := bne_eq_false_iff_eq.mpr c70; clear c70
          by_cases c71 : 0 < (t318.length : Int)
          ·
           rw [if_pos c71] at H; have c71b0 : decide (0 < (t318.length : Int)) = true := dt_ c71; have c71b1 : decide (0 < t318.length) = true := decide_eq_true (by omega); clear c71
           by_cases c72 : 1 < (t318.length : Int)
           ·
            rw [if_pos c72] at H; have c72b0 : decide (1 < (t318.length : Int)) = true := dt_ c72; have c72b1 : decide (1 < t318.length) = true := decide_eq_true (by omega); clear c72; simp only [Option.some.injEq, Prod.mk.injEq] at H; obtain ⟨rfl, rfl, rfl, rfl, rfl, rfl, rfl, rfl, rfl, rfl⟩ := H; have p322 : 0 ≤ (0 : Int) := (by omega); have q322 : 0 < (t307.length : Int) := od_; obtain ⟨ad322, e322, hx322_0⟩ := Kd.at_string (Kd.R_reads' HO_6.out).2.2 0 p322 q322; obtain rfl : ad311 = ad322 := (by injection e322); have qi322 : (0 < t307.length) = True := eq_true (by omega); (try rw [show ((0 : Int)).toNat = 0 from rfl] at hx322_0); (try rw [Addr.add_zero'] at hx322_0); replace p322 := eq_true p322; replace q322 := eq_true q322
            try go_wp2
            replace HO_6 := Aside0.mk (Kd.R_drew HO_6.out); replace HO_10 := Aside0.mk (Kd.R_drew HO_10.out); replace BK305 := Aside0.mk (blk_drew BK305.out); replace BK306 := Aside0.mk (blk_drew BK306.out); replace HR317 := Aside0.mk (Kd.C_drew HR317.out); replace HB := Aside0.mk (below_drew1 HB.out); obtain ⟨Ao74, co74, eo74⟩ := Kd.R_slice HO_10.out; (first | subst eo74 | (injection eo74 with f1_ f2_ f3_; have f4_ := f1_.symm; have f5_ := f3_.symm; clear f1_ f2_ f3_; subst f4_; subst f5_)); have p368 : 0 ≤ (0 : Int) := (by omega); have q368 : 0 < (t318.length : Int) := od_; obtain ⟨ad368, e368, hx368_0⟩ := Kd.at_int (Kd.R_reads' HO_10.out).2.2 0 p368 q368
            cases e368
            have qi368 : (0 < t318.length) = True := eq_true (by omega); (try rw [show ((0 : Int)).toNat = 0 from rfl] at hx368_0); (try rw [Addr.add_zero'] at hx368_0); replace p368 := eq_true p368; replace q368 := eq_true q368; have p369 : 0 ≤ (1 : Int) := (by omega); have q369 : 1 < (t318.length : Int) := od_; obtain ⟨ad369, e369, hx369_0⟩ := Kd.at_int (Kd.R_reads' HO_10.out).2.2 1 p369 q369; obtain rfl : ad368 = ad369 := (by injection e369); (try simp only [show (1 : Int).toNat = 1 from rfl, Nat.reduceMul, Nat.reduceEqDiff, Go.Addr.add, ↓reduceIte] at hx369_0); have qi369 : (1 < t318.length) = True := eq_true (by omega); (try rw [show ((1 : Int)).toNat = 1 from rfl] at hx369_0); replace p369 := eq_true p369; replace q369 := eq_true q369; refine sta_ 9 (fun w' => w'.cell? ad368 = some (.int .i64 (rd t318 0)) ∧ CF_ w' ad368 1 (.int .i64 (rd t318 1))) ⟨hx368_0, hx369_0⟩ (fun hHeld => ?_); refine with_tabW impl_planned.tab15 impl_planned.bits15 (fun HT_ HW_ => ?_); generalize wc.drew = w73 at HO_6 HO_10 BK305 BK306 HR317 HB hx368_0 hx369_0 hHeld ⊢; refine pv_ 0 9 1 ?_; refine pv_ 1 9 3 ?_; refine pv_ 3 9 11 ?_; refine pv_ 4 9 27 ?_; refine tv_ 2 9 31 ?_; refine tv_ 5 9 63 ?_; refine pv_ 6 9 127 ?_; refine one_ (i := 7) (N := none) (bl_ 9 255) rfl rfl (one_of HT_.out (by kernel_rfl)) (by decide) (fun K hK => ?_); have hs75 : w73.cell? ⟨gb306, 0, none⟩ = some (.int .i64 0) := bk_ BK306 0; have hfs75 := blk_frozen BK306.out 0; have hns75_0 := NB305_306.out; have hms75_0 := NB306_305.out; have hs76 : w73.cell? ⟨gb306, 1, none⟩ = some (.int .i64 0) := bk_ BK306 1; have hfs76 := blk_frozen BK306.out 1; have hns76_0 := NB305_306.out; have hms76_0 := NB306_305.out; have hs77 : w73.cell? ⟨gb306, 2, none⟩ = some (.int .i64 0) := bk_ BK306 2; have hfs77 := blk_frozen BK306.out 2; have hns77_0 := NB305_306.out; have hms77_0 := NB306_305.out; have hs78 : w73.cell? ⟨gb306, 3, none⟩ = some (.int .i64 0) := bk_ BK306 3; have hfs78 := blk_frozen BK306.out 3; have hns78_0 := NB305_306.out; have hms78_0 := NB306_305.out; have hs79 : w73.cell? ⟨gb306, 4, none⟩ = some (.int .i64 0) := bk_ BK306 4; have hfs79 := blk_frozen BK306.out 4; have hns79_0 := NB305_306.out; have hms79_0 := NB306_305.out; have hs80 : w73.cell? ⟨gb306, 5, none⟩ = some (.int .i64 0) := bk_ BK306 5; have hfs80 := blk_frozen BK306.out 5; have hns80_0 := NB305_306.out; have hms80_0 := NB306_305.out; have hs81 : w73.cell? ⟨gb306, 6, none⟩ = some (.int .i64 0) := bk_ BK306 6; have hfs81 := blk_frozen BK306.out 6; have hns81_0 := NB305_306.out; have hms81_0 := NB306_305.out; have hs82 : w73.cell? ⟨gb306, 7, none⟩ = some (.slice none 0 0) := bk_ BK306 7; have hfs82 := blk_frozen BK306.out 7; have hns82_0 := NB305_306.out; have hms82_0 := NB306_305.out; have hs83 : w73.cell? ⟨gb306, 8, none⟩ = some (.slice none 0 0) := bk_ BK306 8; have hfs83 := blk_frozen BK306.out 8; have hns83_0 := NB305_306.out; have hms83_0 := NB306_305.out; refine skip_ (w1 := ?_) (by rfl) rfl ?_ ?_
            rotate_left
            ·
             go_simp
             rfl
            refine hK.out _ _ ⟨(cff_ (Kd.own_blk (Kd.R_ne HO_10.out BK306.out (by decide))) ((cff_ (Kd.own_blk (Kd.R_ne HO_10.out BK306.out (by decide))) ((cff_ (Kd.own_blk (Kd.R_ne HO_10.out BK306.out (by decide))) ((cff_ (Kd.own_blk (Kd.R_ne HO_10.out BK306.out (by decide))) ((cff_ (Kd.own_blk (Kd.R_ne HO_10.out BK306.out (by decide))) ((cff_ (Kd.own_blk (Kd.R_ne HO_10.out BK306.out (by decide))) ((cff_ (Kd.own_blk (Kd.R_ne HO_10.out BK306.out (by decide))) ((cff_ (Kd.own_blk (Kd.R_ne HO_10.out BK306.out (by decide))) ((cff_ (Kd.own_blk (Kd.R_ne HO_10.out BK306.out (by decide))) (hHeld.1)))))))))))))))))), (cff_ (Kd.own_blk (Kd.R_ne HO_10.out BK306.out (by decide))) ((cff_ (Kd.own_blk (Kd.R_ne HO_10.out BK306.out (by decide))) ((cff_ (Kd.own_blk (Kd.R_ne HO_10.out BK306.out (by decide))) ((cff_ (Kd.own_blk (Kd.R_ne HO_10.out BK306.out (by decide))) ((cff_ (Kd.own_blk (Kd.R_ne HO_10.out BK306.out (by decide))) ((cff_ (Kd.own_blk (Kd.R_ne HO_10.out BK306.out (by decide))) ((cff_ (Kd.own_blk (Kd.R_ne HO_10.out BK306.out (by decide))) ((cff_ (Kd.own_blk (Kd.R_ne HO_10.out BK306.out (by decide))) ((cff_ (Kd.own_blk (Kd.R_ne HO_10.out BK306.out (by decide))) (hHeld.2))))))))))))))))))⟩ (fun hHeld => ?_); clear hK K; refine pv_ 8 9 511 ?_; refine done_ (done_of HT_.out (by kernel_rfl)) ?_
            try go_wp2
            refine bodyPost_ret (results_ct rfl _ _ gb306 55 #[.int .i64 2, .int .i64 0, .int .i64 (rd t318 0), .int .i64 (rd t318 1), .int .i64 0, .int .i64 0, .int .i64 0, .slice none 0 0, .slice none 0 0] (0, 0) _ rfl (bq_ BK306.out) Tryz.underlying55 rfl (by kernel_rfl)) rfl ?_; exact ⟨_, _, by first | rfl | (simp [errW_none, errW_some] <;> rfl) | (simp [*, errW_none, errW_some] <;> rfl), by first | exact Kd.R_nil _ _ _ _ _ | exact Kd.N_nil _ _ _ _ _ | exact Kd.V_nil _ _ _ _ _ | exact Kd.Q_nil _ _ _ _ _ | exact Kd.S_nil _ _ _ _ _, by first | exact Kd.R_nil _ _ _ _ _ | exact Kd.N_nil _ _ _ _ _ | exact Kd.V_nil _ _ _ _ _ | exact Kd.Q_nil _ _ _ _ _ | exact Kd.S_nil _ _ _ _ _, be_ HB.out⟩
           ·
            rw [if_neg c72] at H; exact absurd H (by simp)
          ·
           rw [if_neg c71] at H; exact absurd H (by simp)
         ·
          rw [if_neg c70] at H; have c70b0 : ((rdOf ByteArray.empty t307 0).toList == ([109, 97, 120] : List UInt8)) = false := beq_eq_false_iff_ne.mpr c70; have c70b1 : ((rdOf ByteArray.empty t307 0).toList != ([109, 97, 120] : List UInt8)) = true := bne_iff_ne.mpr c70
          by_cases c84 : (rdOf ByteArray.empty t307 0).toList = ([97, 118, 103] : List UInt8)
          ·
           rw [if_pos c84] at H; have c84b0 : ((rdOf ByteArray.empty t307 0).toList == ([97, 118, 103] : List UInt8)) = true := beq_iff_eq.mpr c84; have c84b1 : ((rdOf ByteArray.empty t307 0).toList != ([97, 118, 103] : List UInt8)) = false := bne_eq_false_iff_eq.mpr c84; clear c84
           by_cases c85 : 0 < (t318.length : Int)
           ·
            rw [if_pos c85] at H; have c85b0 : decide (0 < (t318.length : Int)) = true := dt_ c85; have c85b1 : decide (0 < t318.length) = true := decide_eq_true (by omega); clear c85
            by_cases c86 : 1 < (t318.length : Int)
            ·
             rw [if_pos c86] at H; have c86b0 : decide (1 < (t318.length : Int)) = true := dt_ c86; have c86b1 : decide (1 < t318.length) = true := decide_eq_true (by omega); clear c86; simp only [Option.some.injEq, Prod.mk.injEq] at H; obtain ⟨rfl, rfl, rfl, rfl, rfl, rfl, rfl, rfl, rfl, rfl⟩ := H; have p322 : 0 ≤ (0 : Int) := (by omega); have q322 : 0 < (t307.length : Int) := od_; obtain ⟨ad322, e322, hx322_0⟩ := Kd.at_string (Kd.R_reads' HO_6.out).2.2 0 p322 q322; obtain rfl : ad311 = ad322 := (by injection e322); have qi322 : (0 < t307.length) = True := eq_true (by omega); (try rw [show ((0 : Int)).toNat = 0 from rfl] at hx322_0); (try rw [Addr.add_zero'] at hx322_0); replace p322 := eq_true p322; replace q322 := eq_true q322
             try go_wp2
             replace HO_6 := Aside0.mk (Kd.R_drew HO_6.out); replace HO_10 := Aside0.mk (Kd.R_drew HO_10.out); replace BK305 := Aside0.mk (blk_drew BK305.out); replace BK306 := Aside0.mk (blk_drew BK306.out); replace HR317 := Aside0.mk (Kd.C_drew HR317.out); replace HB := Aside0.mk (below_drew1 HB.out); obtain ⟨Ao88, co88, eo88⟩ := Kd.R_slice HO_10.out; (first | subst eo88 | (injection eo88 with f1_ f2_ f3_; have f4_ := f1_.symm; have f5_ := f3_.symm; clear f1_ f2_ f3_; subst f4_; subst f5_)); have p370 : 0 ≤ (0 : Int) := (by omega); have q370 : 0 < (t318.length : Int) := od_; obtain ⟨ad370, e370, hx370_0⟩ := Kd.at_int (Kd.R_reads' HO_10.out).2.2 0 p370 q370
             cases e370
             have qi370 : (0 < t318.length) = True := eq_true (by omega); (try rw [show ((0 : Int)).toNat = 0 from rfl] at hx370_0); (try rw [Addr.add_zero'] at hx370_0); replace p370 := eq_true p370; replace q370 := eq_true q370; have p371 : 0 ≤ (1 : Int) := (by omega); have q371 : 1 < (t318.length : Int) := od_; obtain ⟨ad371, e371, hx371_0⟩ := Kd.at_int (Kd.R_reads' HO_10.out).2.2 1 p371 q371; obtain rfl : ad370 = ad371 := (by injection e371); (try simp only [show (1 : Int).toNat = 1 from rfl, Nat.reduceMul, Nat.reduceEqDiff, Go.Addr.add, ↓reduceIte] at hx371_0); have qi371 : (1 < t318.length) = True := eq_true (by omega); (try rw [show ((1 : Int)).toNat = 1 from rfl] at hx371_0); replace p371 := eq_true p371; replace q371 := eq_true q371; refine sta_ 9 (fun w' => w'.cell? ad370 = some (.int .i64 (rd t318 0)) ∧ CF_ w' ad370 1 (.int .i64 (rd t318 1))) ⟨hx370_0, hx371_0⟩ (fun hHeld => ?_); refine with_tabW impl_planned.tab17 impl_planned.bits17 (fun HT_ HW_ => ?_); generalize wc.drew = w87 at HO_6 HO_10 BK305 BK306 HR317 HB hx370_0 hx371_0 hHeld ⊢; refine pv_ 0 9 1 ?_; refine pv_ 1 9 3 ?_; refine pv_ 3 9 11 ?_; refine pv_ 4 9 27 ?_; refine tv_ 2 9 31 ?_; refine tv_ 5 9 63 ?_; refine pv_ 6 9 127 ?_; refine one_ (i := 7) (N := none) (bl_ 9 255) rfl rfl (one_of HT_.out (by kernel_rfl)) (by decide) (fun K hK => ?_); have hs89 : w87.cell? ⟨gb306, 0, none⟩ = some (.int .i64 0) := bk_ BK306 0; have hfs89 := blk_frozen BK306.out 0; have hns89_0 := NB305_306.out; have hms89_0 := NB306_305.out; have hs90 : w87.cell? ⟨gb306, 1, none⟩ = some (.int .i64 0) := bk_ BK306 1; have hfs90 := blk_frozen BK306.out 1; have hns90_0 := NB305_306.out; have hms90_0 := NB306_305.out; have hs91 : w87.cell? ⟨gb306, 2, none⟩ = some (.int .i64 0) := bk_ BK306 2; have hfs91 := blk_frozen BK306.out 2; have hns91_0 := NB305_306.out; have hms91_0 := NB306_305.out; have hs92 : w87.cell? ⟨gb306, 3, none⟩ = some (.int .i64 0) := bk_ BK306 3; have hfs92 := blk_frozen BK306.out 3; have hns92_0 := NB305_306.out; have hms92_0 := NB306_305.out; have hs93 : w87.cell? ⟨gb306, 4, none⟩ = some (.int .i64 0) := bk_ BK306 4; have hfs93 := blk_frozen BK306.out 4; have hns93_0 := NB305_306.out; have hms93_0 := NB306_305.out; have hs94 : w87.cell? ⟨gb306, 5, none⟩ = some (.int .i64 0) := bk_ BK306 5; have hfs94 := blk_frozen BK306.out 5; have hns94_0 := NB305_306.out; have hms94_0 := NB306_305.out; have hs95 : w87.cell? ⟨gb306, 6, none⟩ = some (.int .i64 0) := bk_ BK306 6; have hfs95 := blk_frozen BK306.out 6; have hns95_0 := NB305_306.out; have hms95_0 := NB306_305.out; have hs96 : w87.cell? ⟨gb306, 7, none⟩ = some (.slice none 0 0) := bk_ BK306 7; have hfs96 := blk_frozen BK306.out 7; have hns96_0 := NB305_306.out; have hms96_0 := NB306_305.out; have hs97 : w87.cell? ⟨gb306, 8, none⟩ = some (.slice none 0 0) := bk_ BK306 8; have hfs97 := blk_frozen BK306.out 8; have hns97_0 := NB305_306.out; have hms97_0 := NB306_305.out; refine skip_ (w1 := ?_) (by rfl) rfl ?_ ?_
             rotate_left
             ·
              go_simp
              rfl
             refine hK.out _ _ ⟨(cff_ (Kd.own_blk (Kd.R_ne HO_10.out BK306.out (by decide))) ((cff_ (Kd.own_blk (Kd.R_ne HO_10.out BK306.out (by decide))) ((cff_ (Kd.own_blk (Kd.R_ne HO_10.out BK306.out (by decide))) ((cff_ (Kd.own_blk (Kd.R_ne HO_10.out BK306.out (by decide))) ((cff_ (Kd.own_blk (Kd.R_ne HO_10.out BK306.out (by decide))) ((cff_ (Kd.own_blk (Kd.R_ne HO_10.out BK306.out (by decide))) ((cff_ (Kd.own_blk (Kd.R_ne HO_10.out BK306.out (by decide))) ((cff_ (Kd.own_blk (Kd.R_ne HO_10.out BK306.out (by decide))) ((cff_ (Kd.own_blk (Kd.R_ne HO_10.out BK306.out (by decide))) (hHeld.1)))))))))))))))))), (cff_ (Kd.own_blk (Kd.R_ne HO_10.out BK306.out (by decide))) ((cff_ (Kd.own_blk (Kd.R_ne HO_10.out BK306.out (by decide))) ((cff_ (Kd.own_blk (Kd.R_ne HO_10.out BK306.out (by decide))) ((cff_ (Kd.own_blk (Kd.R_ne HO_10.out BK306.out (by decide))) ((cff_ (Kd.own_blk (Kd.R_ne HO_10.out BK306.out (by decide))) ((cff_ (Kd.own_blk (Kd.R_ne HO_10.out BK306.out (by decide))) ((cff_ (Kd.own_blk (Kd.R_ne HO_10.out BK306.out (by decide))) ((cff_ (Kd.own_blk (Kd.R_ne HO_10.out BK306.out (by decide))) ((cff_ (Kd.own_blk (Kd.R_ne HO_10.out BK306.out (by decide))) (hHeld.2))))))))))))))))))⟩ (fun hHeld => ?_); clear hK K; refine pv_ 8 9 511 ?_; refine done_ (done_of HT_.out (by kernel_rfl)) ?_
             try go_wp2
             refine bodyPost_ret (results_ct rfl _ _ gb306 55 #[.int .i64 3, .int .i64 0, .int .i64 (rd t318 0), .int .i64 (rd t318 1), .int .i64 0, .int .i64 0, .int .i64 0, .slice none 0 0, .slice none 0 0] (0, 0) _ rfl (bq_ BK306.out) Tryz.underlying55 rfl (by kernel_rfl)) rfl ?_; exact ⟨_, _, by first | rfl | (simp [errW_none, errW_some] <;> rfl) | (simp [*, errW_none, errW_some] <;> rfl), by first | exact Kd.R_nil _ _ _ _ _ | exact Kd.N_nil _ _ _ _ _ | exact Kd.V_nil _ _ _ _ _ | exact Kd.Q_nil _ _ _ _ _ | exact Kd.S_nil _ _ _ _ _, by first | exact Kd.R_nil _ _ _ _ _ | exact Kd.N_nil _ _ _ _ _ | exact Kd.V_nil _ _ _ _ _ | exact Kd.Q_nil _ _ _ _ _ | exact Kd.S_nil _ _ _ _ _, be_ HB.out⟩
            ·
             rw [if_neg c86] at H; exact absurd H (by simp)
           ·
            rw [if_neg c85] at H; exact absurd H (by simp)
          ·
           rw [if_neg c84] at H; have c84b0 : ((rdOf ByteArray.empty t307 0).toList == ([97, 118, 103] : List UInt8)) = false := beq_eq_false_iff_ne.mpr c84; have c84b1 : ((rdOf ByteArray.empty t307 0).toList != ([97, 118, 103] : List UInt8)) = true := bne_iff_ne.mpr c84
           by_cases c98 : (rdOf ByteArray.empty t307 0).toList = ([114, 101, 108, 117] : List UInt8)
           ·
            rw [if_pos c98] at H; have c98b0 : ((rdOf ByteArray.empty t307 0).toList == ([114, 101, 108, 117] : List UInt8)) = true := beq_iff_eq.mpr c98; have c98b1 : ((rdOf ByteArray.empty t307 0).toList != ([114, 101, 108, 117] : List UInt8)) = false := bne_eq_false_iff_eq.mpr c98; clear c98
            by_cases c99 : 0 < (t318.length : Int)
            ·
             rw [if_pos c99] at H; have c99b0 : decide (0 < (t318.length : Int)) = true := dt_ c99; have c99b1 : decide (0 < t318.length) = true := decide_eq_true (by omega); clear c99; simp only [Option.some.injEq, Prod.mk.injEq] at H; obtain ⟨rfl, rfl, rfl, rfl, rfl, rfl, rfl, rfl, rfl, rfl⟩ := H; have p322 : 0 ≤ (0 : Int) := (by omega); have q322 : 0 < (t307.length : Int) := od_; obtain ⟨ad322, e322, hx322_0⟩ := Kd.at_string (Kd.R_reads' HO_6.out).2.2 0 p322 q322; obtain rfl : ad311 = ad322 := (by injection e322); have qi322 : (0 < t307.length) = True := eq_true (by omega); (try rw [show ((0 : Int)).toNat = 0 from rfl] at hx322_0); (try rw [Addr.add_zero'] at hx322_0); replace p322 := eq_true p322; replace q322 := eq_true q322; obtain ⟨Ao100, co100, eo100⟩ := Kd.R_slice HO_10.out; subst eo100; have p372 : 0 ≤ (0 : Int) := (by omega); have q372 : 0 < (t318.length : Int) := od_; obtain ⟨ad372, e372, hx372_0⟩ := Kd.at_int (Kd.R_reads' HO_10.out).2.2 0 p372 q372
             cases e372
             have qi372 : (0 < t318.length) = True := eq_true (by omega); (try rw [show ((0 : Int)).toNat = 0 from rfl] at hx372_0); (try rw [Addr.add_zero'] at hx372_0); replace p372 := eq_true p372; replace q372 := eq_true q372; have hnb101 := nn_ NB306_305 NB305_306; have hcz102 := box9_ BK306.out
             go_wp2
             refine bodyPost_ret (results_ct rfl _ _ gb306 55 #[.int .i64 4, .int .i64 0, .int .i64 0, .int .i64 0, .int .i64 0, .int .i64 0, .int .i64 (rd t318 0), .slice none 0 0, .slice none 0 0] (0, 0) _ rfl (bq_ BK306.out) Tryz.underlying55 rfl (by kernel_rfl)) rfl ?_; exact ⟨_, _, by first | rfl | (simp [errW_none, errW_some] <;> rfl) | (simp [*, errW_none, errW_some] <;> rfl), by first | exact Kd.R_nil _ _ _ _ _ | exact Kd.N_nil _ _ _ _ _ | exact Kd.V_nil _ _ _ _ _ | exact Kd.Q_nil _ _ _ _ _ | exact Kd.S_nil _ _ _ _ _, by first | exact Kd.R_nil _ _ _ _ _ | exact Kd.N_nil _ _ _ _ _ | exact Kd.V_nil _ _ _ _ _ | exact Kd.Q_nil _ _ _ _ _ | exact Kd.S_nil _ _ _ _ _, be_ HB.out⟩
            ·
             rw [if_neg c99] at H; exact absurd H (by simp)
           ·
            rw [if_neg c98] at H; have c98b0 : ((rdOf ByteArray.empty t307 0).toList == ([114, 101, 108, 117] : List UInt8)) = false := beq_eq_false_iff_ne.mpr c98; have c98b1 : ((rdOf ByteArray.empty t307 0).toList != ([114, 101, 108, 117] : List UInt8)) = true := bne_iff_ne.mpr c98; simp only [Option.some.injEq, Prod.mk.injEq] at H; obtain ⟨rfl, rfl, rfl, rfl, rfl, rfl, rfl, rfl, rfl, rfl⟩ := H; have p322 : 0 ≤ (0 : Int) := (by omega); have q322 : 0 < (t307.length : Int) := od_; obtain ⟨ad322, e322, hx322_0⟩ := Kd.at_string (Kd.R_reads' HO_6.out).2.2 0 p322 q322; obtain rfl : ad311 = ad322 := (by injection e322); have qi322 : (0 < t307.length) = True := eq_true (by omega); (try rw [show ((0 : Int)).toNat = 0 from rfl] at hx322_0); (try rw [Addr.add_zero'] at hx322_0); replace p322 := eq_true p322; replace q322 := eq_true q322; have hnb103 := nn_ NB306_305 NB305_306; have hcz104 := box9_ BK306.out
            go_wp2
            refine bodyPost_ret (results_ct rfl _ _ gb306 55 #[.int .i64 5, .int .i64 0, .int .i64 0, .int .i64 0, .int .i64 0, .int .i64 0, .int .i64 0, .slice none 0 0, .slice none 0 0] (0, 0) _ rfl (bq_ BK306.out) Tryz.underlying55 rfl (by kernel_rfl)) rfl ?_; exact ⟨_, _, by first | rfl | (simp [errW_none, errW_some] <;> rfl) | (simp [*, errW_none, errW_some] <;> rfl), by first | exact Kd.R_nil _ _ _ _ _ | exact Kd.N_nil _ _ _ _ _ | exact Kd.V_nil _ _ _ _ _ | exact Kd.Q_nil _ _ _ _ _ | exact Kd.S_nil _ _ _ _ _, by first | exact Kd.R_nil _ _ _ _ _ | exact Kd.N_nil _ _ _ _ _ | exact Kd.V_nil _ _ _ _ _ | exact Kd.Q_nil _ _ _ _ _ | exact Kd.S_nil _ _ _ _ _, be_ HB.out⟩
      ·
       rw [if_neg c22] at H; exact absurd H (by simp)
  ·
   rw [if_neg c7] at H; exact absurd H (by simp)
 ·
  rw [if_neg c5] at H; exact absurd H (by simp)

def impl_Layer_hasNone.f (a0_0 : Int) (a0_1 : Int) (a0_2 : Int) (a0_3 : Int) (a0_4 : Int) (a0_5 : Int) (a0_6 : Int) (l0_7 : List Int) (l0_8 : List Int) : Option (Bool) := if a0_2 = 0 then (some (a0_3 == 0)) else (some false)
set_option maxHeartbeats 8000000 in
set_option maxRecDepth 100000 in
theorem impl_Layer_hasNone.calls {a0_0 : Int} {a0_1 : Int} {a0_2 : Int} {a0_3 : Int} {a0_4 : Int} {a0_5 : Int} {a0_6 : Int} {A0_7 : Option Addr} {c0_7 : Nat} {l0_7 : List Int} {A0_8 : Option Addr} {c0_8 : Nat} {l0_8 : List Int} {r : Bool} {w : World} (hr0_7 : Kd.C (Kd.int .i64) w A0_7 l0_7.length l0_7) (hc0_7 : l0_7.length ≤ c0_7) (hr0_8 : Kd.C (Kd.int .i64) w A0_8 l0_8.length l0_8) (hc0_8 : l0_8.length ≤ c0_8) (h : impl_Layer_hasNone.f a0_0 a0_1 a0_2 a0_3 a0_4 a0_5 a0_6 l0_7 l0_8 = some r) :
  Calls Tryz.prog 69 #[.agg #[.int .i64 a0_0, .int .i64 a0_1, .int .i64 a0_2, .int .i64 a0_3, .int .i64 a0_4, .int .i64 a0_5, .int .i64 a0_6, .slice A0_7 l0_7.length c0_7, .slice A0_8 l0_8.length c0_8]] w fun e w' => e = .returned (.bool r) ∧ Below w.heap.size w w' := by
 have hu55 := Tryz.underlying55; have HR0_7 := Aside0.mk hr0_7; have HC0_7 := Aside0.mk hc0_7; clear hr0_7 hc0_7; have HR0_8 := Aside0.mk hr0_8; have HC0_8 := Aside0.mk hc0_8; clear hr0_8 hc0_8; have HB := Aside0.mk (Below.refl w.heap.size w); have H : (if a0_2 = 0 then (some (a0_3 == 0)) else (some false)) = some r := h; clear h
 by_cases c2 : a0_2 = 0
 ·
  rw [if_pos c2] at H; have c2b0 : (a0_2 == 0) = true := eq1_ c2; have c2b1 : (a0_2 != 0) = false := ne0_ c2; clear c2; obtain rfl := oi_ H
  go_enter Tryz.func69, Tryz.ntmps69
  go_wp2_with (first | ((with_reducible refine gate_dst (N := 1) rfl ?_); refine bz_ 1 ?_; intro gb373 hg w3 hbox hb; obtain ⟨BK373, GW373, GE373, HB⟩ := nb_ hg hbox HB hb; clear hb hbox hg; have hcz4 := box9_ BK373.out))
  go_ret
  exact rt_ HB.out
 ·
  rw [if_neg c2] at H; have c2b0 : (a0_2 == 0) = false := eq0_ c2; have c2b1 : (a0_2 != 0) = true := ne1_ c2; obtain rfl := oi_ H
  go_enter Tryz.func69, Tryz.ntmps69
  go_wp2_with (first | ((with_reducible refine gate_dst (N := 1) rfl ?_); refine bz_ 1 ?_; intro gb373 hg w5 hbox hb; obtain ⟨BK373, GW373, GE373, HB⟩ := nb_ hg hbox HB hb; clear hb hbox hg; have hcz6 := box9_ BK373.out))
  go_ret
  exact rt_ HB.out

def impl_areItems_1.f (a0 : Int) : Option (Bool) := (impl_in.f a0 (-128) 127).bind fun t374 => (some (!t374))
set_option maxHeartbeats 8000000 in
set_option maxRecDepth 100000 in
theorem impl_areItems_1.calls {a0 : Int} {r : Bool} {w : World} (h : impl_areItems_1.f a0 = some r) :
  Calls Tryz.prog 135 #[.int .i64 a0] w fun e w' => e = .returned (.bool r) ∧ Drawn0 w w' := by
 have H : ((impl_in.f a0 (-128) 127).bind fun t374 => (some (!t374))) = some r := h; clear h; obtain ⟨t374, A2, H⟩ := bo_ H; (try dsimp only at H); obtain rfl := oi_ H
 go_enter Tryz.func135, Tryz.ntmps135
 go_wp2_with (first | ((with_reducible refine gc_ 56 ?_); refine gw_ (some 4) Tryz.func56 ?_; (with_reducible refine (impl_in.calls A2.out).mono ?_); rintro e w' ⟨rfl, ⟨nd, rfl⟩⟩; refine ⟨_, rfl, ?_⟩))
 go_ret
 exact ⟨by first | rfl | (simp; done) | (simp [*]; done), by repeat (first | exact Drawn0.refl _ | apply Drawn0.step)⟩

def slices_IndexFunc_int_int_at_135.l0 : Nat → List Int → Int → Int → Option (Int)
 | 0, _, _, _ => none
 | k + 1, x0, x7, x8 => if x8 < x7 then (if 0 ≤ x8 then (if x8 < (x0.length : Int) then ((impl_areItems_1.f (rd x0 x8)).bind fun t376 => (if t376 = true then (some x8) else (slices_IndexFunc_int_int_at_135.l0 k x0 x7 (wrap64 (x8 + 1))))) else (none)) else (none)) else (some (-1))
def slices_IndexFunc_int_int_at_135.f (k : Nat) (l0 : List Int)  : Option (Int) := slices_IndexFunc_int_int_at_135.l0 k l0 (l0.length : Int) 0
set_option maxHeartbeats 8000000 in
set_option maxRecDepth 100000 in
theorem slices_IndexFunc_int_int_at_135.calls {k : Nat} {A0 : Option Addr} {c0 : Nat} {l0 : List Int}  {r : Int} {w : World} (hr0 : Kd.C (Kd.int .i64) w A0 l0.length l0) (hc0 : l0.length ≤ c0) (h : slices_IndexFunc_int_int_at_135.f k l0 = some r) :
  Calls Tryz.prog 136 #[.slice A0 l0.length c0, .func (.func 135) #[] #[]] w fun e w' => e = .returned (.int .i64 r) ∧ Drawn0 w w' := by
 have HR0 := Aside0.mk hr0; have HC0 := Aside0.mk hc0; clear hr0 hc0; have H : (slices_IndexFunc_int_int_at_135.l0 k l0 (l0.length : Int) 0) = some r := h; clear h; have H' := Aside0.mk H; clear H
 go_enter Tryz.func136, Tryz.ntmps136
 go_wp2
 go_loopg [8] k (fun kq v8 w' => ∃ (x8_1 : Int), v8 = .int .i64 x8_1 ∧ Aside0 (slices_IndexFunc_int_int_at_135.l0 kq l0 (l0.length : Int) x8_1 = some r) ∧ Aside0 (kq ≤ k) ∧ Drawn0 w w')
 case atStart => exact ⟨(0), rl_, H', ⟨Nat.le_refl _⟩, by repeat (first | exact Drawn0.refl _ | apply Drawn0.step)⟩
 case round =>
  clear H'; (try clear p2); obtain ⟨x8_1, rfl, HA, HK1, ⟨m1, rfl⟩⟩ := hrel
  cases gk with
  | zero => exact absurd HA.out (by simp [slices_IndexFunc_int_int_at_135.l0])
  | succ k1 =>
   have H := HA.out; clear HA; simp only [slices_IndexFunc_int_int_at_135.l0] at H
   by_cases c3 : x8_1 < (l0.length : Int)
   ·
    rw [if_pos c3] at H; have c3b0 : decide (x8_1 < (l0.length : Int)) = true := dt_ c3; clear c3
    by_cases c4 : 0 ≤ x8_1
    ·
     rw [if_pos c4] at H; have c4b0 : decide (0 ≤ x8_1) = true := dt_ c4; clear c4
     by_cases c5 : x8_1 < (l0.length : Int)
     ·
      rw [if_pos c5] at H; have c5b0 : decide (x8_1 < (l0.length : Int)) = true := dt_ c5; clear c5; obtain ⟨t376, A6, H⟩ := bo_ H; (try dsimp only at H)
      by_cases c7 : t376 = true
      ·
       subst c7; rw [if_pos rfl] at H; obtain rfl := oi_ H; have p375 : 0 ≤ (x8_1 : Int) := od_; have q375 : x8_1 < (l0.length : Int) := od_; obtain ⟨ad375, e375, hx375_0⟩ := Kd.at_int HR0.out x8_1 p375 q375
       cases e375
       replace p375 := eq_true p375; replace q375 := eq_true q375
       go_wp2_with (first | (refine goesV_ 11 (some 16) rfl rfl Tryz.func135 (by kernel_rfl) rfl #[.int .i64 (rd l0 x8_1)] rfl rfl ar_ ?_; (with_reducible refine (impl_areItems_1.calls A6.out).mono ?_); rintro e w' ⟨rfl, ⟨nd, rfl⟩⟩; refine ⟨_, rfl, ?_⟩))
       go_ret
       exact ⟨by first | rfl | (simp; done) | (simp [*]; done), by repeat (first | exact Drawn0.refl _ | apply Drawn0.step)⟩
      ·
       replace c7 := fb_ c7; subst c7; replace H := if0_ H
       have H' := Aside0.mk H; clear H; have p375 : 0 ≤ (x8_1 : Int) := od_; have q375 : x8_1 < (l0.length : Int) := od_; obtain ⟨ad375, e375, hx375_0⟩ := Kd.at_int HR0.out x8_1 p375 q375
       cases e375
       replace p375 := eq_true p375; replace q375 := eq_true q375
       go_wp2_with (first | (refine goesV_ 11 (some 16) rfl rfl Tryz.func135 (by kernel_rfl) rfl #[.int .i64 (rd l0 x8_1)] rfl rfl ar_ ?_; (with_reducible refine (impl_areItems_1.calls A6.out).mono ?_); rintro e w' ⟨rfl, ⟨nd, rfl⟩⟩; refine ⟨_, rfl, ?_⟩))
       go_roundg k1
       case measure => have := HK1.out; omega
       case rel => exact ⟨(wrap64 (x8_1 + 1)), rl_, H', ⟨by have := HK1.out; omega⟩, by repeat (first | exact Drawn0.refl _ | apply Drawn0.step)⟩
     ·
      rw [if_neg c5] at H; exact absurd H (by simp)
    ·
     rw [if_neg c4] at H; exact absurd H (by simp)
   ·
    rw [if_neg c3] at H; have c3b0 : decide (x8_1 < (l0.length : Int)) = false := df_ c3; clear c3; obtain rfl := oi_ H
    go_wp2
    go_ret
    exact ⟨by first | rfl | (simp; done) | (simp [*]; done), by repeat (first | exact Drawn0.refl _ | apply Drawn0.step)⟩

def slices_ContainsFunc_int_int_at_135.f (k : Nat) (l0 : List Int)  : Option (Bool) := (slices_IndexFunc_int_int_at_135.f k l0).bind fun t377 => (some (decide (t377 ≥ 0)))
set_option maxHeartbeats 8000000 in
set_option maxRecDepth 100000 in
theorem slices_ContainsFunc_int_int_at_135.calls {k : Nat} {A0 : Option Addr} {c0 : Nat} {l0 : List Int}  {r : Bool} {w : World} (hr0 : Kd.C (Kd.int .i64) w A0 l0.length l0) (hc0 : l0.length ≤ c0) (h : slices_ContainsFunc_int_int_at_135.f k l0 = some r) :
  Calls Tryz.prog 104 #[.slice A0 l0.length c0, .func (.func 135) #[] #[]] w fun e w' => e = .returned (.bool r) ∧ Drawn0 w w' := by
 have HR0 := Aside0.mk hr0; have HC0 := Aside0.mk hc0; clear hr0 hc0; have H : ((slices_IndexFunc_int_int_at_135.f k l0).bind fun t377 => (some (decide (t377 ≥ 0)))) = some r := h; clear h; obtain ⟨t377, A3, H⟩ := bo_ H; (try dsimp only at H); obtain rfl := oi_ H
 go_enter Tryz.func104, Tryz.ntmps104
 go_wp2_with (first | ((with_reducible refine gc_ 136 ?_); refine gw_ (some 7) Tryz.func136 ?_; (with_reducible refine (slices_IndexFunc_int_int_at_135.calls ?side1 ?side2 A3.out).mono ?_); (case side1 => repeat (first | exact HR0.out | (with_reducible refine Kd.C_alloc ?_ _) | (with_reducible refine Kd.C_drewN ?_ _) | (with_reducible refine Kd.C_drew ?_))); (case side2 => exact HC0.out); rintro e w' ⟨rfl, ⟨nd, rfl⟩⟩; refine ⟨_, rfl, ?_⟩))
 go_ret
 exact ⟨by first | rfl | (simp; done) | (simp [*]; done), by repeat (first | exact Drawn0.refl _ | apply Drawn0.step)⟩

def impl_areItems.f (k : Nat) (l0 : List Int) : Option (Bool) := (slices_ContainsFunc_int_int_at_135.f k l0).bind fun t378 => (some (!t378))
set_option maxHeartbeats 8000000 in
set_option maxRecDepth 100000 in
theorem impl_areItems.calls {k : Nat} {A0 : Option Addr} {c0 : Nat} {l0 : List Int} {r : Bool} {w : World} (hr0 : Kd.C (Kd.int .i64) w A0 l0.length l0) (hc0 : l0.length ≤ c0) (h : impl_areItems.f k l0 = some r) :
  Calls Tryz.prog 103 #[.slice A0 l0.length c0] w fun e w' => e = .returned (.bool r) ∧ Drawn0 w w' := by
 have HR0 := Aside0.mk hr0; have HC0 := Aside0.mk hc0; clear hr0 hc0; have H : ((slices_ContainsFunc_int_int_at_135.f k l0).bind fun t378 => (some (!t378))) = some r := h; clear h; obtain ⟨t378, A2, H⟩ := bo_ H; (try dsimp only at H); obtain rfl := oi_ H
 go_enter Tryz.func103, Tryz.ntmps103
 go_wp2_with (first | ((with_reducible refine gc_ 104 ?_); refine gw_ (some 4) Tryz.func104 ?_; (with_reducible refine (slices_ContainsFunc_int_int_at_135.calls ?side1 ?side2 A2.out).mono ?_); (case side1 => repeat (first | exact HR0.out | (with_reducible refine Kd.C_alloc ?_ _) | (with_reducible refine Kd.C_drewN ?_ _) | (with_reducible refine Kd.C_drew ?_))); (case side2 => exact HC0.out); rintro e w' ⟨rfl, ⟨nd, rfl⟩⟩; refine ⟨_, rfl, ?_⟩))
 go_ret
 exact ⟨by first | rfl | (simp; done) | (simp [*]; done), by repeat (first | exact Drawn0.refl _ | apply Drawn0.step)⟩

def impl_Layer_isScaled_1.f (a0 : Int) : Option (Bool) := (impl_in.f a0 (-1000000) 1000000).bind fun t379 => (some (!t379))
set_option maxHeartbeats 8000000 in
set_option maxRecDepth 100000 in
theorem impl_Layer_isScaled_1.calls {a0 : Int} {r : Bool} {w : World} (h : impl_Layer_isScaled_1.f a0 = some r) :
  Calls Tryz.prog 105 #[.int .i64 a0] w fun e w' => e = .returned (.bool r) ∧ Drawn0 w w' := by
 have H : ((impl_in.f a0 (-1000000) 1000000).bind fun t379 => (some (!t379))) = some r := h; clear h; obtain ⟨t379, A2, H⟩ := bo_ H; (try dsimp only at H); obtain rfl := oi_ H
 go_enter Tryz.func105, Tryz.ntmps105
 go_wp2_with (first | ((with_reducible refine gc_ 56 ?_); refine gw_ (some 4) Tryz.func56 ?_; (with_reducible refine (impl_in.calls A2.out).mono ?_); rintro e w' ⟨rfl, ⟨nd, rfl⟩⟩; refine ⟨_, rfl, ?_⟩))
 go_ret
 exact ⟨by first | rfl | (simp; done) | (simp [*]; done), by repeat (first | exact Drawn0.refl _ | apply Drawn0.step)⟩

def slices_IndexFunc_int_int_at_105.l0 : Nat → List Int → Int → Int → Option (Int)
 | 0, _, _, _ => none
 | k + 1, x0, x7, x8 => if x8 < x7 then (if 0 ≤ x8 then (if x8 < (x0.length : Int) then ((impl_Layer_isScaled_1.f (rd x0 x8)).bind fun t381 => (if t381 = true then (some x8) else (slices_IndexFunc_int_int_at_105.l0 k x0 x7 (wrap64 (x8 + 1))))) else (none)) else (none)) else (some (-1))
def slices_IndexFunc_int_int_at_105.f (k : Nat) (l0 : List Int)  : Option (Int) := slices_IndexFunc_int_int_at_105.l0 k l0 (l0.length : Int) 0
set_option maxHeartbeats 8000000 in
set_option maxRecDepth 100000 in
theorem slices_IndexFunc_int_int_at_105.calls {k : Nat} {A0 : Option Addr} {c0 : Nat} {l0 : List Int}  {r : Int} {w : World} (hr0 : Kd.C (Kd.int .i64) w A0 l0.length l0) (hc0 : l0.length ≤ c0) (h : slices_IndexFunc_int_int_at_105.f k l0 = some r) :
  Calls Tryz.prog 136 #[.slice A0 l0.length c0, .func (.func 105) #[] #[]] w fun e w' => e = .returned (.int .i64 r) ∧ Drawn0 w w' := by
 have HR0 := Aside0.mk hr0; have HC0 := Aside0.mk hc0; clear hr0 hc0; have H : (slices_IndexFunc_int_int_at_105.l0 k l0 (l0.length : Int) 0) = some r := h; clear h; have H' := Aside0.mk H; clear H
 go_enter Tryz.func136, Tryz.ntmps136
 go_wp2
 go_loopg [8] k (fun kq v8 w' => ∃ (x8_1 : Int), v8 = .int .i64 x8_1 ∧ Aside0 (slices_IndexFunc_int_int_at_105.l0 kq l0 (l0.length : Int) x8_1 = some r) ∧ Aside0 (kq ≤ k) ∧ Drawn0 w w')
 case atStart => exact ⟨(0), rl_, H', ⟨Nat.le_refl _⟩, by repeat (first | exact Drawn0.refl _ | apply Drawn0.step)⟩
 case round =>
  clear H'; (try clear p2); obtain ⟨x8_1, rfl, HA, HK1, ⟨m1, rfl⟩⟩ := hrel
  cases gk with
  | zero => exact absurd HA.out (by simp [slices_IndexFunc_int_int_at_105.l0])
  | succ k1 =>
   have H := HA.out; clear HA; simp only [slices_IndexFunc_int_int_at_105.l0] at H
   by_cases c3 : x8_1 < (l0.length : Int)
   ·
    rw [if_pos c3] at H; have c3b0 : decide (x8_1 < (l0.length : Int)) = true := dt_ c3; clear c3
    by_cases c4 : 0 ≤ x8_1
    ·
     rw [if_pos c4] at H; have c4b0 : decide (0 ≤ x8_1) = true := dt_ c4; clear c4
     by_cases c5 : x8_1 < (l0.length : Int)
     ·
      rw [if_pos c5] at H; have c5b0 : decide (x8_1 < (l0.length : Int)) = true := dt_ c5; clear c5; obtain ⟨t381, A6, H⟩ := bo_ H; (try dsimp only at H)
      by_cases c7 : t381 = true
      ·
       subst c7; rw [if_pos rfl] at H; obtain rfl := oi_ H; have p380 : 0 ≤ (x8_1 : Int) := od_; have q380 : x8_1 < (l0.length : Int) := od_; obtain ⟨ad380, e380, hx380_0⟩ := Kd.at_int HR0.out x8_1 p380 q380
       cases e380
       replace p380 := eq_true p380; replace q380 := eq_true q380
       go_wp2_with (first | (refine goesV_ 11 (some 16) rfl rfl Tryz.func105 (by kernel_rfl) rfl #[.int .i64 (rd l0 x8_1)] rfl rfl ar_ ?_; (with_reducible refine (impl_Layer_isScaled_1.calls A6.out).mono ?_); rintro e w' ⟨rfl, ⟨nd, rfl⟩⟩; refine ⟨_, rfl, ?_⟩))
       go_ret
       exact ⟨by first | rfl | (simp; done) | (simp [*]; done), by repeat (first | exact Drawn0.refl _ | apply Drawn0.step)⟩
      ·
       replace c7 := fb_ c7; subst c7; replace H := if0_ H
       have H' := Aside0.mk H; clear H; have p380 : 0 ≤ (x8_1 : Int) := od_; have q380 : x8_1 < (l0.length : Int) := od_; obtain ⟨ad380, e380, hx380_0⟩ := Kd.at_int HR0.out x8_1 p380 q380
       cases e380
       replace p380 := eq_true p380; replace q380 := eq_true q380
       go_wp2_with (first | (refine goesV_ 11 (some 16) rfl rfl Tryz.func105 (by kernel_rfl) rfl #[.int .i64 (rd l0 x8_1)] rfl rfl ar_ ?_; (with_reducible refine (impl_Layer_isScaled_1.calls A6.out).mono ?_); rintro e w' ⟨rfl, ⟨nd, rfl⟩⟩; refine ⟨_, rfl, ?_⟩))
       go_roundg k1
       case measure => have := HK1.out; omega
       case rel => exact ⟨(wrap64 (x8_1 + 1)), rl_, H', ⟨by have := HK1.out; omega⟩, by repeat (first | exact Drawn0.refl _ | apply Drawn0.step)⟩
     ·
      rw [if_neg c5] at H; exact absurd H (by simp)
    ·
     rw [if_neg c4] at H; exact absurd H (by simp)
   ·
    rw [if_neg c3] at H; have c3b0 : decide (x8_1 < (l0.length : Int)) = false := df_ c3; clear c3; obtain rfl := oi_ H
    go_wp2
    go_ret
    exact ⟨by first | rfl | (simp; done) | (simp [*]; done), by repeat (first | exact Drawn0.refl _ | apply Drawn0.step)⟩

def slices_ContainsFunc_int_int_at_105.f (k : Nat) (l0 : List Int)  : Option (Bool) := (slices_IndexFunc_int_int_at_105.f k l0).bind fun t382 => (some (decide (t382 ≥ 0)))
set_option maxHeartbeats 8000000 in
set_option maxRecDepth 100000 in
theorem slices_ContainsFunc_int_int_at_105.calls {k : Nat} {A0 : Option Addr} {c0 : Nat} {l0 : List Int}  {r : Bool} {w : World} (hr0 : Kd.C (Kd.int .i64) w A0 l0.length l0) (hc0 : l0.length ≤ c0) (h : slices_ContainsFunc_int_int_at_105.f k l0 = some r) :
  Calls Tryz.prog 104 #[.slice A0 l0.length c0, .func (.func 105) #[] #[]] w fun e w' => e = .returned (.bool r) ∧ Drawn0 w w' := by
 have HR0 := Aside0.mk hr0; have HC0 := Aside0.mk hc0; clear hr0 hc0; have H : ((slices_IndexFunc_int_int_at_105.f k l0).bind fun t382 => (some (decide (t382 ≥ 0)))) = some r := h; clear h; obtain ⟨t382, A3, H⟩ := bo_ H; (try dsimp only at H); obtain rfl := oi_ H
 go_enter Tryz.func104, Tryz.ntmps104
 go_wp2_with (first | ((with_reducible refine gc_ 136 ?_); refine gw_ (some 7) Tryz.func136 ?_; (with_reducible refine (slices_IndexFunc_int_int_at_105.calls ?side1 ?side2 A3.out).mono ?_); (case side1 => repeat (first | exact HR0.out | (with_reducible refine Kd.C_alloc ?_ _) | (with_reducible refine Kd.C_drewN ?_ _) | (with_reducible refine Kd.C_drew ?_))); (case side2 => exact HC0.out); rintro e w' ⟨rfl, ⟨nd, rfl⟩⟩; refine ⟨_, rfl, ?_⟩))
 go_ret
 exact ⟨by first | rfl | (simp; done) | (simp [*]; done), by repeat (first | exact Drawn0.refl _ | apply Drawn0.step)⟩

def impl_Layer_isScaled.f (k : Nat) (a0_0 : Int) (a0_1 : Int) (a0_2 : Int) (a0_3 : Int) (a0_4 : Int) (a0_5 : Int) (a0_6 : Int) (l0_7 : List Int) (l0_8 : List Int) (a1 : Int) : Option (Bool) := (impl_in.f a0_1 1 8).bind fun t384 => (if t384 = true then ((impl_in.f a0_4 0 2147483647).bind fun t385 => (if t385 = true then ((impl_in.f a0_5 0 31).bind fun t386 => (if t386 = true then ((impl_in.f a0_6 (-128) 127).bind fun t387 => (if t387 = true then (if (l0_7.length : Int) = (wrap64 (a0_1 * a1)) then ((impl_areItems.f k l0_7).bind fun t388 => (if t388 = true then (if (l0_8.length : Int) = a0_1 then ((slices_ContainsFunc_int_int_at_105.f k l0_8).bind fun t389 => (some (!t389))) else (some false)) else (some false))) else (some false)) else (some false))) else (some false))) else (some false))) else (some false))
set_option maxHeartbeats 8000000 in
set_option maxRecDepth 100000 in
theorem impl_Layer_isScaled.calls {k : Nat} {a0_0 : Int} {a0_1 : Int} {a0_2 : Int} {a0_3 : Int} {a0_4 : Int} {a0_5 : Int} {a0_6 : Int} {A0_7 : Option Addr} {c0_7 : Nat} {l0_7 : List Int} {A0_8 : Option Addr} {c0_8 : Nat} {l0_8 : List Int} {a1 : Int} {r : Bool} {w : World} (hr0_7 : Kd.C (Kd.int .i64) w A0_7 l0_7.length l0_7) (hc0_7 : l0_7.length ≤ c0_7) (hr0_8 : Kd.C (Kd.int .i64) w A0_8 l0_8.length l0_8) (hc0_8 : l0_8.length ≤ c0_8) (h : impl_Layer_isScaled.f k a0_0 a0_1 a0_2 a0_3 a0_4 a0_5 a0_6 l0_7 l0_8 a1 = some r) :
  Calls Tryz.prog 70 #[.agg #[.int .i64 a0_0, .int .i64 a0_1, .int .i64 a0_2, .int .i64 a0_3, .int .i64 a0_4, .int .i64 a0_5, .int .i64 a0_6, .slice A0_7 l0_7.length c0_7, .slice A0_8 l0_8.length c0_8], .int .i64 a1] w fun e w' => e = .returned (.bool r) ∧ Below w.heap.size w w' := by
 have hu55 := Tryz.underlying55; have HR0_7 := Aside0.mk hr0_7; have HC0_7 := Aside0.mk hc0_7; clear hr0_7 hc0_7; have HR0_8 := Aside0.mk hr0_8; have HC0_8 := Aside0.mk hc0_8; clear hr0_8 hc0_8; have HB := Aside0.mk (Below.refl w.heap.size w); have H : ((impl_in.f a0_1 1 8).bind fun t384 => (if t384 = true then ((impl_in.f a0_4 0 2147483647).bind fun t385 => (if t385 = true then ((impl_in.f a0_5 0 31).bind fun t386 => (if t386 = true then ((impl_in.f a0_6 (-128) 127).bind fun t387 => (if t387 = true then (if (l0_7.length : Int) = (wrap64 (a0_1 * a1)) then ((impl_areItems.f k l0_7).bind fun t388 => (if t388 = true then (if (l0_8.length : Int) = a0_1 then ((slices_ContainsFunc_int_int_at_105.f k l0_8).bind fun t389 => (some (!t389))) else (some false)) else (some false))) else (some false)) else (some false))) else (some false))) else (some false))) else (some false))) = some r := h; clear h; obtain ⟨t384, A3, H⟩ := bo_ H; (try dsimp only at H)
 by_cases c4 : t384 = true
 ·
  subst c4; rw [if_pos rfl] at H; obtain ⟨t385, A5, H⟩ := bo_ H; (try dsimp only at H)
  by_cases c6 : t385 = true
  ·
   subst c6; rw [if_pos rfl] at H; obtain ⟨t386, A7, H⟩ := bo_ H; (try dsimp only at H)
   by_cases c8 : t386 = true
   ·
    subst c8; rw [if_pos rfl] at H; obtain ⟨t387, A9, H⟩ := bo_ H; (try dsimp only at H)
    by_cases c10 : t387 = true
    ·
     subst c10; rw [if_pos rfl] at H
     by_cases c11 : (l0_7.length : Int) = (wrap64 (a0_1 * a1))
     ·
      rw [if_pos c11] at H; have c11b0 : ((l0_7.length : Int) == (wrap64 (a0_1 * a1))) = true := eq1_ c11; have c11b1 : ((l0_7.length : Int) != (wrap64 (a0_1 * a1))) = false := ne0_ c11; clear c11; obtain ⟨t388, A12, H⟩ := bo_ H; (try dsimp only at H)
      by_cases c13 : t388 = true
      ·
       subst c13; rw [if_pos rfl] at H
       by_cases c14 : (l0_8.length : Int) = a0_1
       ·
        rw [if_pos c14] at H; have c14b0 : ((l0_8.length : Int) == a0_1) = true := eq1_ c14; have c14b1 : ((l0_8.length : Int) != a0_1) = false := ne0_ c14; clear c14; obtain ⟨t389, A15, H⟩ := bo_ H; (try dsimp only at H); obtain rfl := oi_ H
        go_enter Tryz.func70, Tryz.ntmps70
        go_wp2_with (first | ((with_reducible refine gate_dst (N := 2) rfl ?_); (try (refine gate_guard (by rfl) ?_; dsimp only)); refine bz_ 2 ?_; intro gb383 hg w16 hbox hb; obtain ⟨BK383, GW383, GE383, HB⟩ := nb_ hg hbox HB hb; clear hb hbox hg; have hcz17 := box9_ BK383.out) | ((with_reducible refine gc_ 56 ?_); refine gw_ (some 7) Tryz.func56 ?_; (with_reducible refine (impl_in.calls A3.out).mono ?_); rintro e w' ⟨rfl, ⟨nd, rfl⟩⟩; refine ⟨_, rfl, ?_⟩) | (go_at_call 56; (with_reducible refine (impl_in.calls A5.out).mono ?_); rintro e w' ⟨rfl, ⟨nd, rfl⟩⟩) | (go_at_call 56; (with_reducible refine (impl_in.calls A7.out).mono ?_); rintro e w' ⟨rfl, ⟨nd, rfl⟩⟩) | (go_at_call 56; (with_reducible refine (impl_in.calls A9.out).mono ?_); rintro e w' ⟨rfl, ⟨nd, rfl⟩⟩) | (go_at_call 103; (with_reducible refine (impl_areItems.calls ?_ ?_ A12.out).mono ?_); exact cu_ HR0_7.out HB.out; exact HC0_7.out; rintro e w' ⟨rfl, ⟨nd, rfl⟩⟩) | (go_at_call 104; (with_reducible refine (slices_ContainsFunc_int_int_at_105.calls ?_ ?_ A15.out).mono ?_); exact cu_ HR0_8.out HB.out; exact HC0_8.out; rintro e w' ⟨rfl, ⟨nd, rfl⟩⟩))
        go_ret
        exact rt_ HB.out
       ·
        rw [if_neg c14] at H; have c14b0 : ((l0_8.length : Int) == a0_1) = false := eq0_ c14; have c14b1 : ((l0_8.length : Int) != a0_1) = true := ne1_ c14; obtain rfl := oi_ H
        go_enter Tryz.func70, Tryz.ntmps70
        go_wp2_with (first | ((with_reducible refine gate_dst (N := 2) rfl ?_); (try (refine gate_guard (by rfl) ?_; dsimp only)); refine bz_ 2 ?_; intro gb383 hg w18 hbox hb; obtain ⟨BK383, GW383, GE383, HB⟩ := nb_ hg hbox HB hb; clear hb hbox hg; have hcz19 := box9_ BK383.out) | ((with_reducible refine gc_ 56 ?_); refine gw_ (some 7) Tryz.func56 ?_; (with_reducible refine (impl_in.calls A3.out).mono ?_); rintro e w' ⟨rfl, ⟨nd, rfl⟩⟩; refine ⟨_, rfl, ?_⟩) | (go_at_call 56; (with_reducible refine (impl_in.calls A5.out).mono ?_); rintro e w' ⟨rfl, ⟨nd, rfl⟩⟩) | (go_at_call 56; (with_reducible refine (impl_in.calls A7.out).mono ?_); rintro e w' ⟨rfl, ⟨nd, rfl⟩⟩) | (go_at_call 56; (with_reducible refine (impl_in.calls A9.out).mono ?_); rintro e w' ⟨rfl, ⟨nd, rfl⟩⟩) | (go_at_call 103; (with_reducible refine (impl_areItems.calls ?_ ?_ A12.out).mono ?_); exact cu_ HR0_7.out HB.out; exact HC0_7.out; rintro e w' ⟨rfl, ⟨nd, rfl⟩⟩))
        go_ret
        exact rt_ HB.out
      ·
       replace c13 := fb_ c13; subst c13; replace H := if0_ H
       obtain rfl := oi_ H
       go_enter Tryz.func70, Tryz.ntmps70
       go_wp2_with (first | ((with_reducible refine gate_dst (N := 2) rfl ?_); (try (refine gate_guard (by rfl) ?_; dsimp only)); refine bz_ 2 ?_; intro gb383 hg w20 hbox hb; obtain ⟨BK383, GW383, GE383, HB⟩ := nb_ hg hbox HB hb; clear hb hbox hg; have hcz21 := box9_ BK383.out) | ((with_reducible refine gc_ 56 ?_); refine gw_ (some 7) Tryz.func56 ?_; (with_reducible refine (impl_in.calls A3.out).mono ?_); rintro e w' ⟨rfl, ⟨nd, rfl⟩⟩; refine ⟨_, rfl, ?_⟩) | (go_at_call 56; (with_reducible refine (impl_in.calls A5.out).mono ?_); rintro e w' ⟨rfl, ⟨nd, rfl⟩⟩) | (go_at_call 56; (with_reducible refine (impl_in.calls A7.out).mono ?_); rintro e w' ⟨rfl, ⟨nd, rfl⟩⟩) | (go_at_call 56; (with_reducible refine (impl_in.calls A9.out).mono ?_); rintro e w' ⟨rfl, ⟨nd, rfl⟩⟩) | (go_at_call 103; (with_reducible refine (impl_areItems.calls ?_ ?_ A12.out).mono ?_); exact cu_ HR0_7.out HB.out; exact HC0_7.out; rintro e w' ⟨rfl, ⟨nd, rfl⟩⟩))
       go_ret
       exact rt_ HB.out
     ·
      rw [if_neg c11] at H; have c11b0 : ((l0_7.length : Int) == (wrap64 (a0_1 * a1))) = false := eq0_ c11; have c11b1 : ((l0_7.length : Int) != (wrap64 (a0_1 * a1))) = true := ne1_ c11; obtain rfl := oi_ H
      go_enter Tryz.func70, Tryz.ntmps70
      go_wp2_with (first | ((with_reducible refine gate_dst (N := 2) rfl ?_); (try (refine gate_guard (by rfl) ?_; dsimp only)); refine bz_ 2 ?_; intro gb383 hg w22 hbox hb; obtain ⟨BK383, GW383, GE383, HB⟩ := nb_ hg hbox HB hb; clear hb hbox hg; have hcz23 := box9_ BK383.out) | ((with_reducible refine gc_ 56 ?_); refine gw_ (some 7) Tryz.func56 ?_; (with_reducible refine (impl_in.calls A3.out).mono ?_); rintro e w' ⟨rfl, ⟨nd, rfl⟩⟩; refine ⟨_, rfl, ?_⟩) | (go_at_call 56; (with_reducible refine (impl_in.calls A5.out).mono ?_); rintro e w' ⟨rfl, ⟨nd, rfl⟩⟩) | (go_at_call 56; (with_reducible refine (impl_in.calls A7.out).mono ?_); rintro e w' ⟨rfl, ⟨nd, rfl⟩⟩) | (go_at_call 56; (with_reducible refine (impl_in.calls A9.out).mono ?_); rintro e w' ⟨rfl, ⟨nd, rfl⟩⟩))
      go_ret
      exact rt_ HB.out
    ·
     replace c10 := fb_ c10; subst c10; replace H := if0_ H
     obtain rfl := oi_ H
     go_enter Tryz.func70, Tryz.ntmps70
     go_wp2_with (first | ((with_reducible refine gate_dst (N := 2) rfl ?_); (try (refine gate_guard (by rfl) ?_; dsimp only)); refine bz_ 2 ?_; intro gb383 hg w24 hbox hb; obtain ⟨BK383, GW383, GE383, HB⟩ := nb_ hg hbox HB hb; clear hb hbox hg; have hcz25 := box9_ BK383.out) | ((with_reducible refine gc_ 56 ?_); refine gw_ (some 7) Tryz.func56 ?_; (with_reducible refine (impl_in.calls A3.out).mono ?_); rintro e w' ⟨rfl, ⟨nd, rfl⟩⟩; refine ⟨_, rfl, ?_⟩) | (go_at_call 56; (with_reducible refine (impl_in.calls A5.out).mono ?_); rintro e w' ⟨rfl, ⟨nd, rfl⟩⟩) | (go_at_call 56; (with_reducible refine (impl_in.calls A7.out).mono ?_); rintro e w' ⟨rfl, ⟨nd, rfl⟩⟩) | (go_at_call 56; (with_reducible refine (impl_in.calls A9.out).mono ?_); rintro e w' ⟨rfl, ⟨nd, rfl⟩⟩))
     go_ret
     exact rt_ HB.out
   ·
    replace c8 := fb_ c8; subst c8; replace H := if0_ H
    obtain rfl := oi_ H
    go_enter Tryz.func70, Tryz.ntmps70
    go_wp2_with (first | ((with_reducible refine gate_dst (N := 2) rfl ?_); (try (refine gate_guard (by rfl) ?_; dsimp only)); refine bz_ 2 ?_; intro gb383 hg w26 hbox hb; obtain ⟨BK383, GW383, GE383, HB⟩ := nb_ hg hbox HB hb; clear hb hbox hg; have hcz27 := box9_ BK383.out) | ((with_reducible refine gc_ 56 ?_); refine gw_ (some 7) Tryz.func56 ?_; (with_reducible refine (impl_in.calls A3.out).mono ?_); rintro e w' ⟨rfl, ⟨nd, rfl⟩⟩; refine ⟨_, rfl, ?_⟩) | (go_at_call 56; (with_reducible refine (impl_in.calls A5.out).mono ?_); rintro e w' ⟨rfl, ⟨nd, rfl⟩⟩) | (go_at_call 56; (with_reducible refine (impl_in.calls A7.out).mono ?_); rintro e w' ⟨rfl, ⟨nd, rfl⟩⟩))
    go_ret
    exact rt_ HB.out
  ·
   replace c6 := fb_ c6; subst c6; replace H := if0_ H
   obtain rfl := oi_ H
   go_enter Tryz.func70, Tryz.ntmps70
   go_wp2_with (first | ((with_reducible refine gate_dst (N := 2) rfl ?_); (try (refine gate_guard (by rfl) ?_; dsimp only)); refine bz_ 2 ?_; intro gb383 hg w28 hbox hb; obtain ⟨BK383, GW383, GE383, HB⟩ := nb_ hg hbox HB hb; clear hb hbox hg; have hcz29 := box9_ BK383.out) | ((with_reducible refine gc_ 56 ?_); refine gw_ (some 7) Tryz.func56 ?_; (with_reducible refine (impl_in.calls A3.out).mono ?_); rintro e w' ⟨rfl, ⟨nd, rfl⟩⟩; refine ⟨_, rfl, ?_⟩) | (go_at_call 56; (with_reducible refine (impl_in.calls A5.out).mono ?_); rintro e w' ⟨rfl, ⟨nd, rfl⟩⟩))
   go_ret
   exact rt_ HB.out
 ·
  replace c4 := fb_ c4; subst c4; replace H := if0_ H
  obtain rfl := oi_ H
  go_enter Tryz.func70, Tryz.ntmps70
  go_wp2_with (first | ((with_reducible refine gate_dst (N := 2) rfl ?_); (try (refine gate_guard (by rfl) ?_; dsimp only)); refine bz_ 2 ?_; intro gb383 hg w30 hbox hb; obtain ⟨BK383, GW383, GE383, HB⟩ := nb_ hg hbox HB hb; clear hb hbox hg; have hcz31 := box9_ BK383.out) | ((with_reducible refine gc_ 56 ?_); refine gw_ (some 7) Tryz.func56 ?_; (with_reducible refine (impl_in.calls A3.out).mono ?_); rintro e w' ⟨rfl, ⟨nd, rfl⟩⟩; refine ⟨_, rfl, ?_⟩))
  go_ret
  exact rt_ HB.out

def impl_Layer_isWindow.f (a0_0 : Int) (a0_1 : Int) (a0_2 : Int) (a0_3 : Int) (a0_4 : Int) (a0_5 : Int) (a0_6 : Int) (l0_7 : List Int) (l0_8 : List Int) (a1_0 : Int) (a1_1 : Int) (a1_2 : Int) : Option (Bool) := (impl_in.f a0_2 1 (mn (mn 3 a1_0) a1_1)).bind fun t392 => (if t392 = true then ((impl_in.f a0_3 1 2).bind fun t393 => (some t393)) else (some false))
set_option maxHeartbeats 8000000 in
set_option maxRecDepth 100000 in
theorem impl_Layer_isWindow.calls {a0_0 : Int} {a0_1 : Int} {a0_2 : Int} {a0_3 : Int} {a0_4 : Int} {a0_5 : Int} {a0_6 : Int} {A0_7 : Option Addr} {c0_7 : Nat} {l0_7 : List Int} {A0_8 : Option Addr} {c0_8 : Nat} {l0_8 : List Int} {a1_0 : Int} {a1_1 : Int} {a1_2 : Int} {r : Bool} {w : World} (hr0_7 : Kd.C (Kd.int .i64) w A0_7 l0_7.length l0_7) (hc0_7 : l0_7.length ≤ c0_7) (hr0_8 : Kd.C (Kd.int .i64) w A0_8 l0_8.length l0_8) (hc0_8 : l0_8.length ≤ c0_8) (h : impl_Layer_isWindow.f a0_0 a0_1 a0_2 a0_3 a0_4 a0_5 a0_6 l0_7 l0_8 a1_0 a1_1 a1_2 = some r) :
  Calls Tryz.prog 71 #[.agg #[.int .i64 a0_0, .int .i64 a0_1, .int .i64 a0_2, .int .i64 a0_3, .int .i64 a0_4, .int .i64 a0_5, .int .i64 a0_6, .slice A0_7 l0_7.length c0_7, .slice A0_8 l0_8.length c0_8], .agg #[.int .i64 a1_0, .int .i64 a1_1, .int .i64 a1_2]] w fun e w' => e = .returned (.bool r) ∧ Below w.heap.size w w' := by
 have hu55 := Tryz.underlying55; have hu23 := Tryz.underlying23; have HR0_7 := Aside0.mk hr0_7; have HC0_7 := Aside0.mk hc0_7; clear hr0_7 hc0_7; have HR0_8 := Aside0.mk hr0_8; have HC0_8 := Aside0.mk hc0_8; clear hr0_8 hc0_8; have HB := Aside0.mk (Below.refl w.heap.size w); have H : ((impl_in.f a0_2 1 (mn (mn 3 a1_0) a1_1)).bind fun t392 => (if t392 = true then ((impl_in.f a0_3 1 2).bind fun t393 => (some t393)) else (some false))) = some r := h; clear h; obtain ⟨ji3, hji3⟩ : ∃ j_ : Int, (mn 3 a1_0) = j_ := ⟨_, rfl⟩; replace H : ((impl_in.f a0_2 1 (mn (ji3) a1_1)).bind fun t392 => (if t392 = true then ((impl_in.f a0_3 1 2).bind fun t393 => (some t393)) else (some false))) = some r := by first | (rw [hji3] at H; exact H) | (simp only [hji3] at H ⊢; exact H)
 (try (have hji3h : ji3 ≤ 3 := by (rw [← hji3]; unfold mn; (repeat' split) <;> omega))); (try (have hji3g : ji3 ≤ 64 := by omega)); have hji3_ : (if a1_0 < 3 then a1_0 else 3) = ji3 := hji3; obtain ⟨ji4, hji4⟩ : ∃ j_ : Int, (mn (ji3) a1_1) = j_ := ⟨_, rfl⟩; replace H : ((impl_in.f a0_2 1 (ji4)).bind fun t392 => (if t392 = true then ((impl_in.f a0_3 1 2).bind fun t393 => (some t393)) else (some false))) = some r := by first | (rw [hji4] at H; exact H) | (simp only [hji4] at H ⊢; exact H)
 have hji4_ : (if a1_1 < (ji3) then a1_1 else (ji3)) = ji4 := hji4; obtain ⟨t392, A5, H⟩ := bo_ H; (try dsimp only at H)
 by_cases c6 : t392 = true
 ·
  subst c6; rw [if_pos rfl] at H; obtain ⟨t393, A7, H⟩ := bo_ H; (try dsimp only at H); obtain rfl := oi_ H
  go_enter Tryz.func71, Tryz.ntmps71
  go_wp2_with (first | ((with_reducible refine gate_dst (N := 2) rfl ?_); refine bz_ 2 ?_; intro gb390 hg w8 hbox hb; obtain ⟨BK390, GW390, GE390, HB⟩ := nb_ hg hbox HB hb; clear hb hbox hg) | ((with_reducible refine gate_dst (N := 3) rfl ?_); refine bz_ 3 ?_; intro gb391 hg w9 hbox hb; obtain ⟨BK391, GW391, GE391, HB⟩ := nb_ hg hbox HB hb; have NB390_391 := nx_ hg BK390; have NB391_390 := ny_ hg BK390; replace BK390 := bb_ BK390 hb; clear hb hbox hg; have hnb10 := nn_ NB390_391 NB391_390; have hcz11 := box9_ BK390.out; have hcz12 := box3_ BK391.out) | ((with_reducible refine gc_ 56 ?_); refine gl_ (some 12) Tryz.func56 #[.int .i64 a0_2, .int .i64 1, .int .i64 ji4] ?_ (hargs := (by (try simp only [List.map_toArray, List.map_cons, List.map_nil]); first | done | (simp only [hji4]; rfl) | rfl | (simp only [List.length_drop, List.length_take]; rfl))); (with_reducible refine (impl_in.calls A5.out).mono ?_); rintro e w' ⟨rfl, ⟨nd, rfl⟩⟩; refine ⟨_, rfl, ?_⟩) | (go_at_call 56; (with_reducible refine (impl_in.calls A7.out).mono ?_); rintro e w' ⟨rfl, ⟨nd, rfl⟩⟩))
  go_ret
  exact ⟨by first | rfl | (simp [errW_none, errW_some] <;> rfl) | (simp only [← hji3, ← hji4]; first | rfl | (simp [errW_none, errW_some] <;> rfl)) | (simp [*, errW_none, errW_some] <;> rfl), be_ HB.out⟩
 ·
  replace c6 := fb_ c6; subst c6; replace H := if0_ H
  obtain rfl := oi_ H
  go_enter Tryz.func71, Tryz.ntmps71
  go_wp2_with (first | ((with_reducible refine gate_dst (N := 2) rfl ?_); refine bz_ 2 ?_; intro gb390 hg w13 hbox hb; obtain ⟨BK390, GW390, GE390, HB⟩ := nb_ hg hbox HB hb; clear hb hbox hg) | ((with_reducible refine gate_dst (N := 3) rfl ?_); refine bz_ 3 ?_; intro gb391 hg w14 hbox hb; obtain ⟨BK391, GW391, GE391, HB⟩ := nb_ hg hbox HB hb; have NB390_391 := nx_ hg BK390; have NB391_390 := ny_ hg BK390; replace BK390 := bb_ BK390 hb; clear hb hbox hg; have hnb15 := nn_ NB390_391 NB391_390; have hcz16 := box9_ BK390.out; have hcz17 := box3_ BK391.out) | ((with_reducible refine gc_ 56 ?_); refine gl_ (some 12) Tryz.func56 #[.int .i64 a0_2, .int .i64 1, .int .i64 ji4] ?_ (hargs := (by (try simp only [List.map_toArray, List.map_cons, List.map_nil]); first | done | (simp only [hji4]; rfl) | rfl | (simp only [List.length_drop, List.length_take]; rfl))); (with_reducible refine (impl_in.calls A5.out).mono ?_); rintro e w' ⟨rfl, ⟨nd, rfl⟩⟩; refine ⟨_, rfl, ?_⟩))
  go_ret
  exact ⟨by first | rfl | (simp [errW_none, errW_some] <;> rfl) | (simp only [← hji3, ← hji4]; first | rfl | (simp [errW_none, errW_some] <;> rfl)) | (simp [*, errW_none, errW_some] <;> rfl), be_ HB.out⟩

def impl_Layer_windows.f (a0_0 : Int) (a0_1 : Int) (a0_2 : Int) (a0_3 : Int) (a0_4 : Int) (a0_5 : Int) (a0_6 : Int) (l0_7 : List Int) (l0_8 : List Int) (a1_0 : Int) (a1_1 : Int) (a1_2 : Int) (a2 : Int) : Option (Int × Int × Int) := if a0_3 = 0 then (none) else (some (wrap64 ((wrap64 (Int.tdiv (wrap64 (a1_0 - a0_2)) a0_3)) + 1), wrap64 ((wrap64 (Int.tdiv (wrap64 (a1_1 - a0_2)) a0_3)) + 1), a2))
def impl_Layer_windows.T1 : Bool × List (List Nat × List Nat) := (true, [([], []), ([0], [0]), ([], []), ([2], [2]), ([1, 3], [1, 3]), ([], []), ([5], [5]), ([4, 6], [4, 6]), ([7], [7]), ([], []), ([9], [9]), ([], []), ([11], [11]), ([10, 12], [10, 12]), ([], []), ([14], [14]), ([13, 15], [13, 15]), ([16], [16]), ([], []), ([8, 17, 18], [8, 17, 18]), ([19, 0, 1, 2, 3, 4, 5, 6, 7, 8, 9, 10, 11, 12, 13, 14, 15, 16, 17, 18, 19], [19])])
def impl_Layer_windows.B1 : List Nat := [0, 1, 0, 4, 15, 0, 32, 127, 255, 0, 512, 0, 2048, 7680, 0, 16384, 65024, 130560, 0, 524287, 1048575]
theorem impl_Layer_windows.tab1 : rtab .any (opsOf Tryz.f72 1) = impl_Layer_windows.T1 := by kernel_rfl
theorem impl_Layer_windows.bits1 : waitsOk impl_Layer_windows.T1.2 impl_Layer_windows.B1 = true := by kernel_rfl
set_option maxHeartbeats 8000000 in
set_option maxRecDepth 100000 in
theorem impl_Layer_windows.calls {a0_0 : Int} {a0_1 : Int} {a0_2 : Int} {a0_3 : Int} {a0_4 : Int} {a0_5 : Int} {a0_6 : Int} {A0_7 : Option Addr} {c0_7 : Nat} {l0_7 : List Int} {A0_8 : Option Addr} {c0_8 : Nat} {l0_8 : List Int} {a1_0 : Int} {a1_1 : Int} {a1_2 : Int} {a2 : Int} {r1 : Int} {r2 : Int} {r3 : Int} {w : World} (hr0_7 : Kd.C (Kd.int .i64) w A0_7 l0_7.length l0_7) (hc0_7 : l0_7.length ≤ c0_7) (hr0_8 : Kd.C (Kd.int .i64) w A0_8 l0_8.length l0_8) (hc0_8 : l0_8.length ≤ c0_8) (h : impl_Layer_windows.f a0_0 a0_1 a0_2 a0_3 a0_4 a0_5 a0_6 l0_7 l0_8 a1_0 a1_1 a1_2 a2 = some (r1, r2, r3)) :
  Calls Tryz.prog 72 #[.agg #[.int .i64 a0_0, .int .i64 a0_1, .int .i64 a0_2, .int .i64 a0_3, .int .i64 a0_4, .int .i64 a0_5, .int .i64 a0_6, .slice A0_7 l0_7.length c0_7, .slice A0_8 l0_8.length c0_8], .agg #[.int .i64 a1_0, .int .i64 a1_1, .int .i64 a1_2], .int .i64 a2] w fun e w' => e = .returned (.agg #[.int .i64 r1, .int .i64 r2, .int .i64 r3]) ∧ Below w.heap.size w w' := by
 have hu55 := Tryz.underlying55; have hu23 := Tryz.underlying23; have HR0_7 := Aside0.mk hr0_7; have HC0_7 := Aside0.mk hc0_7; clear hr0_7 hc0_7; have HR0_8 := Aside0.mk hr0_8; have HC0_8 := Aside0.mk hc0_8; clear hr0_8 hc0_8; have HB := Aside0.mk (Below.refl w.heap.size w); have H : (if a0_3 = 0 then (none) else (some (wrap64 ((wrap64 (Int.tdiv (wrap64 (a1_0 - a0_2)) a0_3)) + 1), wrap64 ((wrap64 (Int.tdiv (wrap64 (a1_1 - a0_2)) a0_3)) + 1), a2))) = some (r1, r2, r3) := h; clear h
 by_cases c4 : a0_3 = 0
 ·
  rw [if_pos c4] at H; exact absurd H (by simp)
 ·
  rw [if_neg c4] at H; have c4b0 : (a0_3 == 0) = false := eq0_ c4; have c4b1 : (a0_3 != 0) = true := ne1_ c4; simp only [Option.some.injEq, Prod.mk.injEq] at H; obtain ⟨rfl, rfl, rfl⟩ := H
  go_enter Tryz.func72, Tryz.ntmps72
  try go_wp2_with (first | ((with_reducible refine gate_dst (N := 3) rfl ?_); refine bz_ 3 ?_; intro gb394 hg w5 hbox hb; obtain ⟨BK394, GW394, GE394, HB⟩ := nb_ hg hbox HB hb; clear hb hbox hg) | ((with_reducible refine gate_dst (N := 4) rfl ?_); refine bz_ 4 ?_; intro gb395 hg w6 hbox hb; obtain ⟨BK395, GW395, GE395, HB⟩ := nb_ hg hbox HB hb; have NB394_395 := nx_ hg BK394; have NB395_394 := ny_ hg BK394; replace BK394 := bb_ BK394 hb; clear hb hbox hg) | ((with_reducible refine gate_dst (N := 6) rfl ?_); refine bz_ 6 ?_; intro gb396 hg w7 hbox hb; obtain ⟨BK396, GW396, GE396, HB⟩ := nb_ hg hbox HB hb; have NB394_396 := nx_ hg BK394; have NB396_394 := ny_ hg BK394; replace BK394 := bb_ BK394 hb; have NB395_396 := nx_ hg BK395; have NB396_395 := ny_ hg BK395; replace BK395 := bb_ BK395 hb; clear hb hbox hg))
  replace BK394 := Aside0.mk (blk_drew BK394.out); replace BK395 := Aside0.mk (blk_drew BK395.out); replace BK396 := Aside0.mk (blk_drew BK396.out); replace HB := Aside0.mk (below_drew1 HB.out); refine sta_ 21 (fun w' => CE_ w' gb395 0 (.int .i64 a1_0) ∧ CE_ w' gb395 1 (.int .i64 a1_1) ∧ CE_ w' gb395 2 (.int .i64 a1_2) ∧ CE_ w' gb394 0 (.int .i64 a0_0) ∧ CE_ w' gb394 1 (.int .i64 a0_1) ∧ CE_ w' gb394 2 (.int .i64 a0_2) ∧ CE_ w' gb394 3 (.int .i64 a0_3) ∧ CE_ w' gb394 4 (.int .i64 a0_4) ∧ CE_ w' gb394 5 (.int .i64 a0_5) ∧ CE_ w' gb394 6 (.int .i64 a0_6) ∧ CE_ w' gb394 7 (.slice A0_7 l0_7.length c0_7) ∧ CE_ w' gb394 8 (.slice A0_8 l0_8.length c0_8)) ⟨bk_ BK395 0, bk_ BK395 1, bk_ BK395 2, bk_ BK394 0, bk_ BK394 1, bk_ BK394 2, bk_ BK394 3, bk_ BK394 4, bk_ BK394 5, bk_ BK394 6, bk_ BK394 7, bk_ BK394 8⟩ (fun hHeld => ?_); refine with_tabW impl_Layer_windows.tab1 impl_Layer_windows.bits1 (fun HT_ HW_ => ?_); generalize w7.drew = w8 at BK394 BK395 BK396 HB hHeld ⊢; refine pv_ 0 21 1 ?_; refine pv_ 2 21 5 ?_; refine pv_ 5 21 37 ?_; refine pv_ 9 21 549 ?_; refine pv_ 11 21 2597 ?_; refine pv_ 14 21 18981 ?_; refine pv_ 18 21 281125 ?_; refine tv_ 1 21 281127 ?_; refine tv_ 3 21 281135 ?_; refine pv_ 4 21 281151 ?_; refine tv_ 6 21 281215 ?_; refine pv_ 7 21 281343 ?_; refine pv_ 8 21 281599 ?_; refine tv_ 10 21 282623 ?_; refine tv_ 12 21 286719 ?_; refine pv_ 13 21 294911 ?_; refine tv_ 15 21 327679 ?_; refine pv_ 16 21 393215 ?_; refine pv_ 17 21 524287 ?_; refine pv_ 19 21 1048575 ?_; refine one_ (i := 20) (N := none) (bl_ 21 2097151) rfl rfl (one_of HT_.out (by kernel_rfl)) (by decide) (fun K hK => ?_); have hs9 : w8.cell? ⟨gb396, 0, none⟩ = some (.int .i64 0) := bk_ BK396 0; have hfs9 := blk_frozen BK396.out 0; have hns9_0 := NB394_396.out; have hns9_1 := NB395_396.out; have hms9_0 := NB396_394.out; have hms9_1 := NB396_395.out; have hs10 : w8.cell? ⟨gb396, 1, none⟩ = some (.int .i64 0) := bk_ BK396 1; have hfs10 := blk_frozen BK396.out 1; have hns10_0 := NB394_396.out; have hns10_1 := NB395_396.out; have hms10_0 := NB396_394.out; have hms10_1 := NB396_395.out; have hs11 : w8.cell? ⟨gb396, 2, none⟩ = some (.int .i64 0) := bk_ BK396 2; have hfs11 := blk_frozen BK396.out 2; have hns11_0 := NB394_396.out; have hns11_1 := NB395_396.out; have hms11_0 := NB396_394.out; have hms11_1 := NB396_395.out; refine skip_ (w1 := ?_) (by rfl) rfl ?_ ?_
  rotate_left
  ·
   go_simp
   rfl
  refine hK.out _ _ ⟨(c3_ NB395_396.out (hHeld.1)), (c3_ NB395_396.out (hHeld.2.1)), (c3_ NB395_396.out (hHeld.2.2.1)), (c3_ NB394_396.out (hHeld.2.2.2.1)), (c3_ NB394_396.out (hHeld.2.2.2.2.1)), (c3_ NB394_396.out (hHeld.2.2.2.2.2.1)), (c3_ NB394_396.out (hHeld.2.2.2.2.2.2.1)), (c3_ NB394_396.out (hHeld.2.2.2.2.2.2.2.1)), (c3_ NB394_396.out (hHeld.2.2.2.2.2.2.2.2.1)), (c3_ NB394_396.out (hHeld.2.2.2.2.2.2.2.2.2.1)), (c3_ NB394_396.out (hHeld.2.2.2.2.2.2.2.2.2.2.1)), (c3_ NB394_396.out (hHeld.2.2.2.2.2.2.2.2.2.2.2))⟩ (fun hHeld => ?_); clear hK K; refine done_ (done_of HT_.out (by kernel_rfl)) ?_
  try go_wp2
  refine bodyPost_ret (results_cell_row rfl _ _ gb396 23 #[.int .i64 (wrap64 ((wrap64 (Int.tdiv (wrap64 (a1_0 - a0_2)) a0_3)) + 1)), .int .i64 (wrap64 ((wrap64 (Int.tdiv (wrap64 (a1_1 - a0_2)) a0_3)) + 1)), .int .i64 a2] (0, 0) _ rfl (bq_ BK396.out) Tryz.underlying23 rfl (by kernel_rfl)) rfl ?_; exact rt_ HB.out

def impl_Layer_isBare.f (a0_0 : Int) (a0_1 : Int) (a0_2 : Int) (a0_3 : Int) (a0_4 : Int) (a0_5 : Int) (a0_6 : Int) (l0_7 : List Int) (l0_8 : List Int) : Option (Bool) := if a0_1 = 0 then (if a0_4 = 0 then (if a0_5 = 0 then (if (l0_7.length : Int) = 0 then (some ((l0_8.length : Int) == 0)) else (some false)) else (some false)) else (some false)) else (some false)
set_option maxHeartbeats 8000000 in
set_option maxRecDepth 100000 in
theorem impl_Layer_isBare.calls {a0_0 : Int} {a0_1 : Int} {a0_2 : Int} {a0_3 : Int} {a0_4 : Int} {a0_5 : Int} {a0_6 : Int} {A0_7 : Option Addr} {c0_7 : Nat} {l0_7 : List Int} {A0_8 : Option Addr} {c0_8 : Nat} {l0_8 : List Int} {r : Bool} {w : World} (hr0_7 : Kd.C (Kd.int .i64) w A0_7 l0_7.length l0_7) (hc0_7 : l0_7.length ≤ c0_7) (hr0_8 : Kd.C (Kd.int .i64) w A0_8 l0_8.length l0_8) (hc0_8 : l0_8.length ≤ c0_8) (h : impl_Layer_isBare.f a0_0 a0_1 a0_2 a0_3 a0_4 a0_5 a0_6 l0_7 l0_8 = some r) :
  Calls Tryz.prog 73 #[.agg #[.int .i64 a0_0, .int .i64 a0_1, .int .i64 a0_2, .int .i64 a0_3, .int .i64 a0_4, .int .i64 a0_5, .int .i64 a0_6, .slice A0_7 l0_7.length c0_7, .slice A0_8 l0_8.length c0_8]] w fun e w' => e = .returned (.bool r) ∧ Below w.heap.size w w' := by
 have hu55 := Tryz.underlying55; have HR0_7 := Aside0.mk hr0_7; have HC0_7 := Aside0.mk hc0_7; clear hr0_7 hc0_7; have HR0_8 := Aside0.mk hr0_8; have HC0_8 := Aside0.mk hc0_8; clear hr0_8 hc0_8; have HB := Aside0.mk (Below.refl w.heap.size w); have H : (if a0_1 = 0 then (if a0_4 = 0 then (if a0_5 = 0 then (if (l0_7.length : Int) = 0 then (some ((l0_8.length : Int) == 0)) else (some false)) else (some false)) else (some false)) else (some false)) = some r := h; clear h
 by_cases c2 : a0_1 = 0
 ·
  rw [if_pos c2] at H; have c2b0 : (a0_1 == 0) = true := eq1_ c2; have c2b1 : (a0_1 != 0) = false := ne0_ c2; clear c2
  by_cases c3 : a0_4 = 0
  ·
   rw [if_pos c3] at H; have c3b0 : (a0_4 == 0) = true := eq1_ c3; have c3b1 : (a0_4 != 0) = false := ne0_ c3; clear c3
   by_cases c4 : a0_5 = 0
   ·
    rw [if_pos c4] at H; have c4b0 : (a0_5 == 0) = true := eq1_ c4; have c4b1 : (a0_5 != 0) = false := ne0_ c4; clear c4
    by_cases c5 : (l0_7.length : Int) = 0
    ·
     rw [if_pos c5] at H; have c5b0 : ((l0_7.length : Int) == 0) = true := eq1_ c5; have c5b1 : ((l0_7.length : Int) != 0) = false := ne0_ c5; clear c5; obtain rfl := oi_ H
     go_enter Tryz.func73, Tryz.ntmps73
     go_wp2_with (first | ((with_reducible refine gate_dst (N := 1) rfl ?_); (try (refine gate_guard (by rfl) ?_; dsimp only)); refine bz_ 1 ?_; intro gb397 hg w6 hbox hb; obtain ⟨BK397, GW397, GE397, HB⟩ := nb_ hg hbox HB hb; clear hb hbox hg; have hcz7 := box9_ BK397.out))
     go_ret
     exact rt_ HB.out
    ·
     rw [if_neg c5] at H; have c5b0 : ((l0_7.length : Int) == 0) = false := eq0_ c5; have c5b1 : ((l0_7.length : Int) != 0) = true := ne1_ c5; have c5b2 : ¬ (l0_7 = []) := fun h_ => c5 (by rw [h_]; rfl); obtain rfl := oi_ H
     go_enter Tryz.func73, Tryz.ntmps73
     go_wp2_with (first | ((with_reducible refine gate_dst (N := 1) rfl ?_); (try (refine gate_guard (by rfl) ?_; dsimp only)); refine bz_ 1 ?_; intro gb397 hg w8 hbox hb; obtain ⟨BK397, GW397, GE397, HB⟩ := nb_ hg hbox HB hb; clear hb hbox hg; have hcz9 := box9_ BK397.out))
     go_ret
     exact rt_ HB.out
   ·
    rw [if_neg c4] at H; have c4b0 : (a0_5 == 0) = false := eq0_ c4; have c4b1 : (a0_5 != 0) = true := ne1_ c4; obtain rfl := oi_ H
    go_enter Tryz.func73, Tryz.ntmps73
    go_wp2_with (first | ((with_reducible refine gate_dst (N := 1) rfl ?_); (try (refine gate_guard (by rfl) ?_; dsimp only)); refine bz_ 1 ?_; intro gb397 hg w10 hbox hb; obtain ⟨BK397, GW397, GE397, HB⟩ := nb_ hg hbox HB hb; clear hb hbox hg; have hcz11 := box9_ BK397.out))
    go_ret
    exact rt_ HB.out
  ·
   rw [if_neg c3] at H; have c3b0 : (a0_4 == 0) = false := eq0_ c3; have c3b1 : (a0_4 != 0) = true := ne1_ c3; obtain rfl := oi_ H
   go_enter Tryz.func73, Tryz.ntmps73
   go_wp2_with (first | ((with_reducible refine gate_dst (N := 1) rfl ?_); (try (refine gate_guard (by rfl) ?_; dsimp only)); refine bz_ 1 ?_; intro gb397 hg w12 hbox hb; obtain ⟨BK397, GW397, GE397, HB⟩ := nb_ hg hbox HB hb; clear hb hbox hg; have hcz13 := box9_ BK397.out))
   go_ret
   exact rt_ HB.out
 ·
  rw [if_neg c2] at H; have c2b0 : (a0_1 == 0) = false := eq0_ c2; have c2b1 : (a0_1 != 0) = true := ne1_ c2; obtain rfl := oi_ H
  go_enter Tryz.func73, Tryz.ntmps73
  go_wp2_with (first | ((with_reducible refine gate_dst (N := 1) rfl ?_); (try (refine gate_guard (by rfl) ?_; dsimp only)); refine bz_ 1 ?_; intro gb397 hg w14 hbox hb; obtain ⟨BK397, GW397, GE397, HB⟩ := nb_ hg hbox HB hb; clear hb hbox hg; have hcz15 := box9_ BK397.out))
  go_ret
  exact rt_ HB.out

end Go.Proofs.YtgolleldpmkkoaaGreatDoor.QFnExactParsePlan
