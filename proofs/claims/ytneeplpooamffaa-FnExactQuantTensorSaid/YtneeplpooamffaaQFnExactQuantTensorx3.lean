/- The Go functions that the statement FnExactQuantTensor reaches, as Lean functions, each with a proof that the call does what its function says; laid by a program of this session. No condition. -/
import Derived.Test.YtneeplpooamffaaQFnExactQuantTensorx0
import Derived.Test.YtneeplpooamffaaQFnExactQuantTensorx2
namespace Go.Proofs.Ytneeplpooamffaa.QFnExactQuantTensor
open Go.RowKit Go.Proofs.YtneeplpooamffaaW.PrintWords Go.Proofs.YtneeplpooamffaaW.PrintLast Go.Proofs.YtneeplpooamffaaW.PrintMore
attribute [local go_sem] max2_int min2_int max_two min_two max_three min_three max_four min_four   -- for this text's walks alone
set_option linter.unusedVariables false
set_option linter.unusedSimpArgs false

/-! ### impl_SizeOf: function 78 -/
def impl_SizeOf.f (a0_0 : Int) (a0_1 : Int) (a0_2 : Int) : Option (Int) := (impl_ShapeOk.f a0_0 a0_1 a0_2).bind fun t202 => (if t202 = true then (some (wrap64 ((wrap64 (a0_0 * a0_1)) * a0_2))) else (some 0))
set_option maxHeartbeats 8000000 in
set_option maxRecDepth 100000 in
theorem impl_SizeOf.calls (a0_0 : Int) (a0_1 : Int) (a0_2 : Int) (r : Int) (w : World) (h : impl_SizeOf.f a0_0 a0_1 a0_2 = some r) :
  Calls Try.prog 78 #[.agg #[.int .i64 a0_0, .int .i64 a0_1, .int .i64 a0_2]] w fun e w' => e = .returned (.int .i64 r) ∧ Below w.heap.size w w' := by
 have hu49 := Try.underlying49; have HB := Aside0.mk (Below.refl w.heap.size w); have H : ((impl_ShapeOk.f a0_0 a0_1 a0_2).bind fun t202 => (if t202 = true then (some (wrap64 ((wrap64 (a0_0 * a0_1)) * a0_2))) else (some 0))) = some r := h; clear h; replace H := Option.bind_eq_some_iff.mp H; obtain ⟨t202, A20, H⟩ := H; (try dsimp only at H); have A2 := Aside0.mk A20; clear A20
 by_cases c3 : t202 = true
 ·
  subst c3; rw [if_pos rfl] at H; obtain rfl := Option.some.inj H
  go_enter Try.func78, Try.ntmps78
  go_wp2_with (first | ((with_reducible refine gate_dst (N := 1) rfl ?_); refine bx_ 1 #[.int .i64 a0_0, .int .i64 a0_1, .int .i64 a0_2] 49 ?_; intro gb201 hg w4 hbox hb; have BK201 := Aside0.mk (hbox); have GW201 := gs_ hg HB; have GE201 := gs_ hg HB; replace HB := hb_ HB hb; clear hb hbox hg; obtain ⟨hcz5_0, hcz5_1, hcz5_2, hfz5_0, hfz5_1, hfz5_2⟩ := box3_ BK201.out) | ((with_reducible refine gate_callee (f := 77) rfl ?_); refine goesL_ (some 4) rfl rfl Try.func77 (by kernel_rfl) rfl #[.agg #[.int .i64 a0_0, .int .i64 a0_1, .int .i64 a0_2]] rfl ar_ ?_; (with_reducible refine (impl_ShapeOk.calls a0_0 a0_1 a0_2 true _ A2.out).mono ?_); rintro e w6 ⟨rfl, hb⟩; refine ⟨_, rfl, ?_⟩; replace BK201 := bb_ BK201 hb; replace HB := hb_ HB hb; (try clear hb); (try clear hb2); (try clear hk); (try clear hi); obtain ⟨hcz7_0, hcz7_1, hcz7_2, hfz7_0, hfz7_1, hfz7_2⟩ := box3_ BK201.out))
  go_ret
  exact ⟨by first | rfl | (simp [errW_none, errW_some] <;> rfl) | (simp [*, errW_none, errW_some] <;> rfl), be_ HB.out⟩
 ·
  replace c3 := Bool.eq_false_iff.mpr c3; subst c3; have H1 : (some 0) = some r := by rw [if_neg (show ¬ (false = true) by decide)] at H; exact H
  clear H; have H := H1; clear H1; obtain rfl := Option.some.inj H
  go_enter Try.func78, Try.ntmps78
  go_wp2_with (first | ((with_reducible refine gate_dst (N := 1) rfl ?_); refine bx_ 1 #[.int .i64 a0_0, .int .i64 a0_1, .int .i64 a0_2] 49 ?_; intro gb201 hg w8 hbox hb; have BK201 := Aside0.mk (hbox); have GW201 := gs_ hg HB; have GE201 := gs_ hg HB; replace HB := hb_ HB hb; clear hb hbox hg; obtain ⟨hcz9_0, hcz9_1, hcz9_2, hfz9_0, hfz9_1, hfz9_2⟩ := box3_ BK201.out) | ((with_reducible refine gate_callee (f := 77) rfl ?_); refine goesL_ (some 4) rfl rfl Try.func77 (by kernel_rfl) rfl #[.agg #[.int .i64 a0_0, .int .i64 a0_1, .int .i64 a0_2]] rfl ar_ ?_; (with_reducible refine (impl_ShapeOk.calls a0_0 a0_1 a0_2 false _ A2.out).mono ?_); rintro e w10 ⟨rfl, hb⟩; refine ⟨_, rfl, ?_⟩; replace BK201 := bb_ BK201 hb; replace HB := hb_ HB hb; (try clear hb); (try clear hb2); (try clear hk); (try clear hi)))
  go_ret
  exact ⟨by first | rfl | (simp [errW_none, errW_some] <;> rfl) | (simp [*, errW_none, errW_some] <;> rfl), be_ HB.out⟩

/-! ### impl_QuantTensor: function 44 -/
mutual
def impl_QuantTensor.j0 : Nat → List Int → Bool → Int → Int → Int → Int → Int → Option (Int × Int × Int × List Int × Int × Int × Bool)
 | 0, _, _, _, _, _, _, _ => none
 | k + 1, x0, x30, x204000, x204001, x204002, x210000, x210001 => if x30 = true then (some (0, 0, 0, ([] : List Int), 0, 0, false)) else (impl_QuantTensor.l0 k x0 (x0.length : Int) 0 x210000 x210001 x204000 x204001 x204002 ([] : List Int))
def impl_QuantTensor.l0 : Nat → List Int → Int → Int → Int → Int → Int → Int → Int → List Int → Option (Int × Int × Int × List Int × Int × Int × Bool)
 | 0, _, _, _, _, _, _, _, _, _ => none
 | k + 1, x35, x36, x37, x210000, x210001, x213000, x213001, x213002, x213003 => if x37 < x36 then (if 0 ≤ x37 then (if x37 < (x35.length : Int) then ((impl_Scale_toInt8.f k x210000 x210001 (rd x35 x37)).bind fun t214 => (if x213003.length < 17592186044416 then (impl_QuantTensor.l0 k x35 x36 (wrap64 (x37 + 1)) x210000 x210001 x213000 x213001 x213002 (x213003 ++ [t214])) else (none))) else (none)) else (none)) else (some (x213000, x213001, x213002, x213003, x210000, x210001, true))
end
def impl_QuantTensor.f (k : Nat) (l0 : List Int) (a1_0 : Int) (a1_1 : Int) (a1_2 : Int) : Option (Int × Int × Int × List Int × Int × Int × Bool) := (impl_ScaleFor.f k l0).bind fun bt206 => (if bt206.2.2 = true then ((impl_ShapeOk.f a1_0 a1_1 a1_2).bind fun t210 => (if t210 = true then ((impl_SizeOf.f a1_0 a1_1 a1_2).bind fun t211 => (impl_QuantTensor.j0 k l0 ((l0.length : Int) != t211) a1_0 a1_1 a1_2 bt206.1 bt206.2.1)) else (impl_QuantTensor.j0 k l0 true a1_0 a1_1 a1_2 bt206.1 bt206.2.1))) else (impl_QuantTensor.j0 k l0 true a1_0 a1_1 a1_2 bt206.1 bt206.2.1))
theorem impl_QuantTensor.mono_l : ∀ k, (∀ y0 y1 y2 y3 y4 y5 y6, LeO (impl_QuantTensor.j0 k y0 y1 y2 y3 y4 y5 y6) (impl_QuantTensor.j0 (k + 1) y0 y1 y2 y3 y4 y5 y6)) ∧ (∀ y0 y1 y2 y3 y4 y5 y6 y7 y8, LeO (impl_QuantTensor.l0 k y0 y1 y2 y3 y4 y5 y6 y7 y8) (impl_QuantTensor.l0 (k + 1) y0 y1 y2 y3 y4 y5 y6 y7 y8))
 | 0 => ⟨fun _ _ _ _ _ _ _ r h => by simp [impl_QuantTensor.j0] at h, fun _ _ _ _ _ _ _ _ _ r h => by simp [impl_QuantTensor.l0] at h⟩
 | k + 1 => by
  obtain ⟨ih0, ih1⟩ := impl_QuantTensor.mono_l k; refine ⟨?_, ?_⟩
  ·
   intro y0 y1 y2 y3 y4 y5 y6
   unfold impl_QuantTensor.j0
   repeat' first
   | (with_reducible exact ih0 _ _ _ _ _ _ _)
   | (with_reducible exact ih1 _ _ _ _ _ _ _ _ _)
   | (with_reducible exact impl_ScaleFor.mono _ _)
   | (with_reducible exact impl_Scale_toInt8.mono _ _ _ _)
   | (with_reducible exact LeO.refl _)
   | (with_reducible exact LeO.none _)
   | (with_reducible refine LeO.ite ?_ ?_)
   | (with_reducible refine LeO.bind ?_ (fun _ => ?_))
   | exact ih0 _ _ _ _ _ _ _
   | exact ih1 _ _ _ _ _ _ _ _ _
   | exact impl_ScaleFor.mono _ _
   | exact impl_Scale_toInt8.mono _ _ _ _
   | exact LeO.none _
   | refine LeO.ite ?_ ?_
   | refine LeO.bind ?_ (fun _ => ?_)
  ·
   intro y0 y1 y2 y3 y4 y5 y6 y7 y8
   unfold impl_QuantTensor.l0
   repeat' first
   | (with_reducible exact ih0 _ _ _ _ _ _ _)
   | (with_reducible exact ih1 _ _ _ _ _ _ _ _ _)
   | (with_reducible exact impl_ScaleFor.mono _ _)
   | (with_reducible exact impl_Scale_toInt8.mono _ _ _ _)
   | (with_reducible exact LeO.refl _)
   | (with_reducible exact LeO.none _)
   | (with_reducible refine LeO.ite ?_ ?_)
   | (with_reducible refine LeO.bind ?_ (fun _ => ?_))
   | exact ih0 _ _ _ _ _ _ _
   | exact ih1 _ _ _ _ _ _ _ _ _
   | exact impl_ScaleFor.mono _ _
   | exact impl_Scale_toInt8.mono _ _ _ _
   | exact LeO.none _
   | refine LeO.ite ?_ ?_
   | refine LeO.bind ?_ (fun _ => ?_)
theorem impl_QuantTensor.mono : ∀ a0 a1 a2 a3 k, LeO (impl_QuantTensor.f k a0 a1 a2 a3) (impl_QuantTensor.f (k + 1) a0 a1 a2 a3) := by
 intro a0 a1 a2 a3 k; obtain ⟨ih0, ih1⟩ := impl_QuantTensor.mono_l k
 unfold impl_QuantTensor.f
 repeat' first
   | (with_reducible exact ih0 _ _ _ _ _ _ _)
   | (with_reducible exact ih1 _ _ _ _ _ _ _ _ _)
   | (with_reducible exact impl_ScaleFor.mono _ _)
   | (with_reducible exact impl_Scale_toInt8.mono _ _ _ _)
   | (with_reducible exact LeO.refl _)
   | (with_reducible exact LeO.none _)
   | (with_reducible refine LeO.ite ?_ ?_)
   | (with_reducible refine LeO.bind ?_ (fun _ => ?_))
   | exact ih0 _ _ _ _ _ _ _
   | exact ih1 _ _ _ _ _ _ _ _ _
   | exact impl_ScaleFor.mono _ _
   | exact impl_Scale_toInt8.mono _ _ _ _
   | exact LeO.none _
   | refine LeO.ite ?_ ?_
   | refine LeO.bind ?_ (fun _ => ?_)
def impl_QuantTensor.T8 : Bool × List (List Nat × List Nat) := (true, [([], []), ([0], [0]), ([], []), ([], []), ([2, 3], [2, 3]), ([4], [4]), ([1, 5, 4], [1, 5]), ([0, 1, 2, 3, 4, 5, 6], []), ([7, 6, 6, 0, 1, 2, 3, 4, 5, 6], [6, 7])])
def impl_QuantTensor.B8 : List Nat := [0, 1, 0, 0, 12, 28, 63, 127, 255]
theorem impl_QuantTensor.tab8 : rtab .any (opsOf Try.f44 8) = impl_QuantTensor.T8 := by kernel_rfl
theorem impl_QuantTensor.bits8 : waitsOk impl_QuantTensor.T8.2 impl_QuantTensor.B8 = true := by kernel_rfl
set_option maxHeartbeats 8000000 in
set_option maxRecDepth 100000 in
theorem impl_QuantTensor.calls (k : Nat) (A0 : Option Addr) (c0 : Nat) (l0 : List Int) (a1_0 : Int) (a1_1 : Int) (a1_2 : Int) (r1 : Int) (r2 : Int) (r3 : Int) (r4 : List Int) (r5 : Int) (r6 : Int) (r7 : Bool) (w : World) (hr0 : Kd.C (Kd.int .i64) w A0 l0.length l0) (hc0 : l0.length ≤ c0) (h : impl_QuantTensor.f k l0 a1_0 a1_1 a1_2 = some (r1, r2, r3, r4, r5, r6, r7)) :
  Calls Try.prog 44 #[.slice A0 l0.length c0, .agg #[.int .i64 a1_0, .int .i64 a1_1, .int .i64 a1_2]] w fun e w' => ∃ v3_ : Value, e = .returned (.tuple #[.agg #[.int .i64 r1, .int .i64 r2, .int .i64 r3, v3_], .agg #[.int .i64 r5, .int .i64 r6], .bool r7]) ∧ Kd.R (Kd.int .i64) 3 w' w.heap.size (fun _ => True) v3_ r4 ∧ Below w.heap.size w w' := by
 have hu49 := Try.underlying49; have hu51 := Try.underlying51; have hu25 := Try.underlying25; have HR0 := Aside0.mk hr0; have HC0 := Aside0.mk hc0; clear hr0 hc0; have HB := Aside0.mk (Below.refl w.heap.size w); have H : ((impl_ScaleFor.f k l0).bind fun bt206 => (if bt206.2.2 = true then ((impl_ShapeOk.f a1_0 a1_1 a1_2).bind fun t210 => (if t210 = true then ((impl_SizeOf.f a1_0 a1_1 a1_2).bind fun t211 => (impl_QuantTensor.j0 k l0 ((l0.length : Int) != t211) a1_0 a1_1 a1_2 bt206.1 bt206.2.1)) else (impl_QuantTensor.j0 k l0 true a1_0 a1_1 a1_2 bt206.1 bt206.2.1))) else (impl_QuantTensor.j0 k l0 true a1_0 a1_1 a1_2 bt206.1 bt206.2.1))) = some (r1, r2, r3, r4, r5, r6, r7) := h; clear h; replace H := Option.bind_eq_some_iff.mp H; obtain ⟨⟨t206, t207, t208⟩, A30, H⟩ := H; (try dsimp only at H); have A3 := Aside0.mk A30; clear A30; have HC4 := Aside0.mk H; clear H
 go_enter Try.func44, Try.ntmps44
 go_upto_region 2 with (first | ((with_reducible refine gate_dst (N := 3) rfl ?_); (try (refine gate_guard (by rfl) ?_; dsimp only)); refine bx_ 3 #[.int .i64 a1_0, .int .i64 a1_1, .int .i64 a1_2] 49 ?_; intro gb203 hg w5 hbox hb; have BK203 := Aside0.mk (hbox); have GW203 := gs_ hg HB; have GE203 := gs_ hg HB; replace HB := hb_ HB hb; clear hb hbox hg) | ((with_reducible refine gate_dst (N := 4) rfl ?_); (try (refine gate_guard (by rfl) ?_; dsimp only)); refine bx_ 4 #[.int .i64 0, .int .i64 0, .int .i64 0, .slice none 0 0] 51 ?_; intro gb204 hg w6 hbox hb; have BK204 := Aside0.mk (hbox); have GW204 := gs_ hg HB; have GE204 := gs_ hg HB; replace HB := hb_ HB hb; have NB203_204 := nx_ hg BK203; have NB204_203 := ny_ hg BK203; replace BK203 := bb_ BK203 hb; clear hb hbox hg) | ((with_reducible refine gate_dst (N := 5) rfl ?_); (try (refine gate_guard (by rfl) ?_; dsimp only)); refine bx_ 5 #[.int .i64 0, .int .i64 0] 25 ?_; intro gb205 hg w7 hbox hb; have BK205 := Aside0.mk (hbox); have GW205 := gs_ hg HB; have GE205 := gs_ hg HB; replace HB := hb_ HB hb; have NB203_205 := nx_ hg BK203; have NB205_203 := ny_ hg BK203; replace BK203 := bb_ BK203 hb; have NB204_205 := nx_ hg BK204; have NB205_204 := ny_ hg BK204; replace BK204 := bb_ BK204 hb; clear hb hbox hg) | ((with_reducible refine gate_callee (f := 31) rfl ?_); refine goesL_ (some 14) rfl rfl Try.func31 (by kernel_rfl) rfl #[.slice A0 l0.length c0] rfl ar_ ?_; (with_reducible refine (impl_ScaleFor.calls k _ _ l0 t206 t207 t208 _ ?side1 ?side2 A3.out).mono ?_); (case side1 => exact cu_ HR0.out HB.out); (case side2 => exact HC0.out); rintro e w8 ⟨rfl, hb⟩; refine ⟨_, rfl, ?_⟩; replace BK203 := bb_ BK203 hb; replace BK204 := bb_ BK204 hb; replace BK205 := bb_ BK205 hb; replace HB := hb_ HB hb; (try clear hb); (try clear hb2); (try clear hk); (try clear hi)) | ((with_reducible refine gate_dst (N := 7) rfl ?_); (try (refine gate_guard (by rfl) ?_; dsimp only)); refine bx_ 7 #[.int .i64 0, .int .i64 0] 25 ?_; intro gb209 hg w9 hbox hb; have BK209 := Aside0.mk (hbox); have GW209 := gs_ hg HB; have GE209 := gs_ hg HB; replace HB := hb_ HB hb; have NB203_209 := nx_ hg BK203; have NB209_203 := ny_ hg BK203; replace BK203 := bb_ BK203 hb; have NB204_209 := nx_ hg BK204; have NB209_204 := ny_ hg BK204; replace BK204 := bb_ BK204 hb; have NB205_209 := nx_ hg BK205; have NB209_205 := ny_ hg BK205; replace BK205 := bb_ BK205 hb; clear hb hbox hg; have hnb10 := NB209_203.out; have hnc10 := NB203_209.out; have hnb11 := NB209_204.out; have hnc11 := NB204_209.out; have hnb12 := NB209_205.out; have hnc12 := NB205_209.out; obtain ⟨hcz13_0, hcz13_1, hfz13_0, hfz13_1⟩ := box2_ BK209.out))
 (try simp only [Act.put, List.setIfInBounds_toArray, List.set_cons_zero, List.set_cons_succ])
 go_cut [30] (fun v30 wc => ∃ (kq : Nat) (x30_3 : Bool), v30 = .bool x30_3 ∧ Aside0 (impl_QuantTensor.j0 kq l0 x30_3 a1_0 a1_1 a1_2 t206 t207 = some (r1, r2, r3, r4, r5, r6, r7)) ∧ Aside0 (kq ≤ k) ∧ Aside0 (wc.heap[gb203]? = some (.cells #[.int .i64 a1_0, .int .i64 a1_1, .int .i64 a1_2] 49 (0, 0))) ∧ Aside0 (wc.heap[gb204]? = some (.cells #[.int .i64 0, .int .i64 0, .int .i64 0, (.slice none 0 0)] 51 (0, 0))) ∧ Aside0 (wc.heap[gb205]? = some (.cells #[.int .i64 0, .int .i64 0] 25 (0, 0))) ∧ Aside0 (wc.heap[gb209]? = some (.cells #[.int .i64 t206, .int .i64 t207] 25 (0, 0))) ∧ Aside0 (Below w.heap.size w wc))
 case first =>
  have H := HC4.out; clear HC4
  by_cases c14 : t208 = true
  ·
   subst c14; rw [if_pos rfl] at H; replace H := Option.bind_eq_some_iff.mp H; obtain ⟨t210, A150, H⟩ := H; (try dsimp only at H); have A15 := Aside0.mk A150; clear A150
   by_cases c16 : t210 = true
   ·
    subst c16; rw [if_pos rfl] at H; replace H := Option.bind_eq_some_iff.mp H; obtain ⟨t211, A170, H⟩ := H; (try dsimp only at H); have A17 := Aside0.mk A170; clear A170; have H' := Aside0.mk H; clear H; have hnb18 := NB203_204.out; have hnc18 := NB204_203.out; have hnb19 := NB203_205.out; have hnc19 := NB205_203.out; have hnb20 := NB203_209.out; have hnc20 := NB209_203.out; obtain ⟨hcz21_0, hcz21_1, hcz21_2, hfz21_0, hfz21_1, hfz21_2⟩ := box3_ BK203.out
    go_wp2_with (first | (go_at_call 77; (with_reducible refine (impl_ShapeOk.calls a1_0 a1_1 a1_2 true _ A15.out).mono ?_); rintro e w22 ⟨rfl, hb⟩; replace BK203 := bc_ BK203 hb; replace BK204 := bc_ BK204 hb; replace BK205 := bc_ BK205 hb; replace BK209 := bp_ (#[.int .i64 t206, .int .i64 t207]) BK209 hb; replace HB := hb_ HB hb; (try clear hb); (try clear hb2); (try clear hk); (try clear hi); obtain ⟨hcz23_0, hcz23_1, hcz23_2, hfz23_0, hfz23_1, hfz23_2⟩ := box3_ BK203.out) | (go_at_call 78; (with_reducible refine (impl_SizeOf.calls a1_0 a1_1 a1_2 t211 _ A17.out).mono ?_); rintro e w24 ⟨rfl, hb⟩; replace BK203 := bb_ BK203 hb; replace BK204 := bb_ BK204 hb; replace BK205 := bb_ BK205 hb; replace BK209 := bb_ BK209 hb; replace HB := hb_ HB hb; (try clear hb); (try clear hb2); (try clear hk); (try clear hi)))
    go_meet
    case rel => exact ⟨_, (((l0.length : Int) != t211)), (by first | rfl | (simp; done) | (simp [*]; done)), H', ⟨by first | omega | exact Nat.le_refl _⟩, ⟨bu_ BK203.out⟩, ⟨bu_ BK204.out⟩, ⟨bu_ BK205.out⟩, ⟨bu_ BK209.out⟩, ⟨be_ HB.out⟩⟩
   ·
    replace c16 := Bool.eq_false_iff.mpr c16; subst c16; have H1 : (impl_QuantTensor.j0 k l0 true a1_0 a1_1 a1_2 t206 t207) = some (r1, r2, r3, r4, r5, r6, r7) := by rw [if_neg (show ¬ (false = true) by decide)] at H; exact H
    clear H; have H := H1; clear H1; have H' := Aside0.mk H; clear H; have hnb25 := NB203_204.out; have hnc25 := NB204_203.out; have hnb26 := NB203_205.out; have hnc26 := NB205_203.out; have hnb27 := NB203_209.out; have hnc27 := NB209_203.out; obtain ⟨hcz28_0, hcz28_1, hcz28_2, hfz28_0, hfz28_1, hfz28_2⟩ := box3_ BK203.out
    go_wp2_with (first | (go_at_call 77; (with_reducible refine (impl_ShapeOk.calls a1_0 a1_1 a1_2 false _ A15.out).mono ?_); rintro e w29 ⟨rfl, hb⟩; replace BK203 := bc_ BK203 hb; replace BK204 := bc_ BK204 hb; replace BK205 := bc_ BK205 hb; replace BK209 := bp_ (#[.int .i64 t206, .int .i64 t207]) BK209 hb; replace HB := hb_ HB hb; (try clear hb); (try clear hb2); (try clear hk); (try clear hi)))
    go_meet
    case rel => exact ⟨_, (true), (by first | rfl | (simp; done) | (simp [*]; done)), H', ⟨by first | omega | exact Nat.le_refl _⟩, ⟨bu_ BK203.out⟩, ⟨bu_ BK204.out⟩, ⟨bu_ BK205.out⟩, ⟨bu_ BK209.out⟩, ⟨be_ HB.out⟩⟩
  ·
   replace c14 := Bool.eq_false_iff.mpr c14; subst c14; have H1 : (impl_QuantTensor.j0 k l0 true a1_0 a1_1 a1_2 t206 t207) = some (r1, r2, r3, r4, r5, r6, r7) := by rw [if_neg (show ¬ (false = true) by decide)] at H; exact H
   clear H; have H := H1; clear H1; have H' := Aside0.mk H; clear H
   go_wp2
   go_meet
   case rel => exact ⟨_, (true), (by first | rfl | (simp; done) | (simp [*]; done)), H', ⟨by first | omega | exact Nat.le_refl _⟩, ⟨by (with_reducible repeat (first | refine blk_drewN ?_ _ | refine blk_drew ?_ | refine blk_alloc ?_ _)); refine blk_far ?_ NB203_209.out _; (with_reducible repeat (first | refine blk_drewN ?_ _ | refine blk_drew ?_ | refine blk_alloc ?_ _)); refine blk_far ?_ NB203_209.out _; (with_reducible repeat (first | refine blk_drewN ?_ _ | refine blk_drew ?_ | refine blk_alloc ?_ _)); exact BK203.out⟩, ⟨by (with_reducible repeat (first | refine blk_drewN ?_ _ | refine blk_drew ?_ | refine blk_alloc ?_ _)); refine blk_far ?_ NB204_209.out _; (with_reducible repeat (first | refine blk_drewN ?_ _ | refine blk_drew ?_ | refine blk_alloc ?_ _)); refine blk_far ?_ NB204_209.out _; (with_reducible repeat (first | refine blk_drewN ?_ _ | refine blk_drew ?_ | refine blk_alloc ?_ _)); exact BK204.out⟩, ⟨by (with_reducible repeat (first | refine blk_drewN ?_ _ | refine blk_drew ?_ | refine blk_alloc ?_ _)); refine blk_far ?_ NB205_209.out _; (with_reducible repeat (first | refine blk_drewN ?_ _ | refine blk_drew ?_ | refine blk_alloc ?_ _)); refine blk_far ?_ NB205_209.out _; (with_reducible repeat (first | refine blk_drewN ?_ _ | refine blk_drew ?_ | refine blk_alloc ?_ _)); exact BK205.out⟩, ⟨by (with_reducible repeat (first | refine blk_drewN ?_ _ | refine blk_drew ?_ | refine blk_alloc ?_ _)); refine blk_put (cs := #[.int .i64 t206, .int .i64 0]) ?_ 1 _ rfl; (with_reducible repeat (first | refine blk_drewN ?_ _ | refine blk_drew ?_ | refine blk_alloc ?_ _)); refine blk_put (cs := #[.int .i64 0, .int .i64 0]) ?_ 0 _ rfl; (with_reducible repeat (first | refine blk_drewN ?_ _ | refine blk_drew ?_ | refine blk_alloc ?_ _)); exact BK209.out⟩, ⟨be_ HB.out⟩⟩
 case rest =>
  clear HC4; (try clear c1); (try clear c2); (try clear p2); (try clear c3); (try clear c4); (try clear c10); (try clear c11); (try clear c12); (try clear c14); (try clear c16); (try clear c18); (try clear c19); (try clear c20); (try clear c25); (try clear c26); (try clear c27); (try clear hcz13_0 hcz13_1); (try clear hcz21_0 hcz21_1 hcz21_2); (try clear hcz23_0 hcz23_1 hcz23_2); (try clear hcz28_0 hcz28_1 hcz28_2); (try clear hfz13_0 hfz13_1); (try clear hfz21_0 hfz21_1 hfz21_2); (try clear hfz23_0 hfz23_1 hfz23_2); (try clear hfz28_0 hfz28_1 hfz28_2); obtain ⟨kq, x30_3, rfl, HA, HJ3, BK203, BK204, BK205, BK209, HB⟩ := hcut
  cases kq with
  | zero => exact absurd HA.out (by simp [impl_QuantTensor.j0])
  | succ kj3 =>
   have H := HA.out; clear HA; simp only [impl_QuantTensor.j0] at H
   by_cases c30 : x30_3 = true
   ·
    subst c30; rw [if_pos rfl] at H; simp only [Option.some.injEq, Prod.mk.injEq] at H; obtain ⟨rfl, rfl, rfl, rfl, rfl, rfl, rfl⟩ := H; have hnb31 := NB204_203.out; have hnc31 := NB203_204.out; have hnb32 := NB204_205.out; have hnc32 := NB205_204.out; have hnb33 := NB204_209.out; have hnc33 := NB209_204.out; obtain ⟨hcz34_0, hcz34_1, hcz34_2, hcz34_3, hfz34_0, hfz34_1, hfz34_2, hfz34_3⟩ := box4_ BK204.out; have hnb35 := NB205_203.out; have hnc35 := NB203_205.out; have hnb36 := NB205_209.out; have hnc36 := NB209_205.out; obtain ⟨hcz37_0, hcz37_1, hfz37_0, hfz37_1⟩ := box2_ BK205.out
    go_wp2
    refine bodyPost_ret (results_list (rs := [.cell 4 51, .cell 5 25, .tmp 6]) rfl (by simp) (.cell gb204 51 #[.int .i64 0, .int .i64 0, .int .i64 0, .slice none 0 0] (0, 0) _ rfl (by (with_reducible repeat (first | refine blk_drewN ?_ _ | refine blk_drew ?_ | refine blk_alloc ?_ _)); refine blk_far ?_ NB204_205.out _; (with_reducible repeat (first | refine blk_drewN ?_ _ | refine blk_drew ?_ | refine blk_alloc ?_ _)); refine blk_far ?_ NB204_205.out _; (with_reducible repeat (first | refine blk_drewN ?_ _ | refine blk_drew ?_ | refine blk_alloc ?_ _)); refine blk_put (cs := #[.int .i64 0, .int .i64 0, .int .i64 0, .slice none 0 0]) ?_ 3 _ rfl; (with_reducible repeat (first | refine blk_drewN ?_ _ | refine blk_drew ?_ | refine blk_alloc ?_ _)); refine blk_put (cs := #[.int .i64 0, .int .i64 0, .int .i64 0, .slice none 0 0]) ?_ 2 _ rfl; (with_reducible repeat (first | refine blk_drewN ?_ _ | refine blk_drew ?_ | refine blk_alloc ?_ _)); refine blk_put (cs := #[.int .i64 0, .int .i64 0, .int .i64 0, .slice none 0 0]) ?_ 1 _ rfl; (with_reducible repeat (first | refine blk_drewN ?_ _ | refine blk_drew ?_ | refine blk_alloc ?_ _)); refine blk_put (cs := #[.int .i64 0, .int .i64 0, .int .i64 0, .slice none 0 0]) ?_ 0 _ rfl; (with_reducible repeat (first | refine blk_drewN ?_ _ | refine blk_drew ?_ | refine blk_alloc ?_ _)); exact BK204.out) Try.underlying51 rfl (by kernel_rfl) (.cell gb205 25 #[.int .i64 0, .int .i64 0] (0, 0) _ rfl (by (with_reducible repeat (first | refine blk_drewN ?_ _ | refine blk_drew ?_ | refine blk_alloc ?_ _)); refine blk_put (cs := #[.int .i64 0, .int .i64 0]) ?_ 1 _ rfl; (with_reducible repeat (first | refine blk_drewN ?_ _ | refine blk_drew ?_ | refine blk_alloc ?_ _)); refine blk_put (cs := #[.int .i64 0, .int .i64 0]) ?_ 0 _ rfl; (with_reducible repeat (first | refine blk_drewN ?_ _ | refine blk_drew ?_ | refine blk_alloc ?_ _)); refine blk_far ?_ NB205_204.out _; (with_reducible repeat (first | refine blk_drewN ?_ _ | refine blk_drew ?_ | refine blk_alloc ?_ _)); refine blk_far ?_ NB205_204.out _; (with_reducible repeat (first | refine blk_drewN ?_ _ | refine blk_drew ?_ | refine blk_alloc ?_ _)); refine blk_far ?_ NB205_204.out _; (with_reducible repeat (first | refine blk_drewN ?_ _ | refine blk_drew ?_ | refine blk_alloc ?_ _)); refine blk_far ?_ NB205_204.out _; (with_reducible repeat (first | refine blk_drewN ?_ _ | refine blk_drew ?_ | refine blk_alloc ?_ _)); exact BK205.out) Try.underlying25 rfl (by kernel_rfl) (.tmp .nil)))) rfl ?_; exact ⟨_, by first | rfl | (simp [errW_none, errW_some] <;> rfl) | (simp [*, errW_none, errW_some] <;> rfl), by first | exact Kd.R_nil _ _ _ _ _ | exact Kd.N_nil _ _ _ _ _ | exact Kd.V_nil _ _ _ _ _ | exact Kd.Q_nil _ _ _ _ _ | exact Kd.S_nil _ _ _ _ _, be_ HB.out⟩
   ·
    replace c30 := Bool.eq_false_iff.mpr c30; subst c30; have H1 : (impl_QuantTensor.l0 kj3 l0 (l0.length : Int) 0 t206 t207 a1_0 a1_1 a1_2 ([] : List Int)) = some (r1, r2, r3, r4, r5, r6, r7) := by rw [if_neg (show ¬ (false = true) by decide)] at H; exact H
    clear H; have H := H1; clear H1; have H' := Aside0.mk H; clear H; have hnb38 := NB203_204.out; have hnc38 := NB204_203.out; have hnb39 := NB203_205.out; have hnc39 := NB205_203.out; have hnb40 := NB203_209.out; have hnc40 := NB209_203.out; obtain ⟨hcz41_0, hcz41_1, hcz41_2, hfz41_0, hfz41_1, hfz41_2⟩ := box3_ BK203.out
    go_wp2_with (first | ((with_reducible refine gate_dst (N := 9) rfl ?_); (try (refine gate_guard (by rfl) ?_; dsimp only)); refine bx_ 9 #[.int .i64 0, .int .i64 0, .int .i64 0, .slice none 0 0] 51 ?_; intro gb212 hg w42 hbox hb; have BK212 := Aside0.mk (hbox); have GW212 := gs_ hg HB; have GE212 := gs_ hg HB; replace HB := hb_ HB hb; have NB203_212 := nx_ hg BK203; have NB212_203 := ny_ hg BK203; replace BK203 := bb_ BK203 hb; have NB204_212 := nx_ hg BK204; have NB212_204 := ny_ hg BK204; replace BK204 := bb_ BK204 hb; have NB205_212 := nx_ hg BK205; have NB212_205 := ny_ hg BK205; replace BK205 := bb_ BK205 hb; have NB209_212 := nx_ hg BK209; have NB212_209 := ny_ hg BK209; replace BK209 := bb_ BK209 hb; clear hb hbox hg; have hnb43 := NB212_203.out; have hnc43 := NB203_212.out; have hnb44 := NB212_204.out; have hnc44 := NB204_212.out; have hnb45 := NB212_205.out; have hnc45 := NB205_212.out; have hnb46 := NB212_209.out; have hnc46 := NB209_212.out; obtain ⟨hcz47_0, hcz47_1, hcz47_2, hcz47_3, hfz47_0, hfz47_1, hfz47_2, hfz47_3⟩ := box4_ BK212.out))
    (try simp only [Act.put, List.setIfInBounds_toArray, List.set_cons_zero, List.set_cons_succ])
    go_loopg [37] kj3 (fun kq v37 w' => ∃ (x37_2 : Int) (x213003_2 : List Int) (u213003 : Value), v37 = .int .i64 x37_2 ∧ Aside0 (impl_QuantTensor.l0 kq l0 (l0.length : Int) x37_2 t206 t207 a1_0 a1_1 a1_2 x213003_2 = some (r1, r2, r3, r4, r5, r6, r7)) ∧ Aside0 (kq ≤ kj3) ∧ Aside0 (Kd.R (Kd.int .i64) 3 w' w.heap.size (fun _ => True) u213003 x213003_2) ∧ Aside0 (w'.heap[gb203]? = some (.cells #[.int .i64 a1_0, .int .i64 a1_1, .int .i64 a1_2] 49 (0, 0))) ∧ Aside0 (w'.heap[gb204]? = some (.cells #[.int .i64 0, .int .i64 0, .int .i64 0, (.slice none 0 0)] 51 (0, 0))) ∧ Aside0 (w'.heap[gb205]? = some (.cells #[.int .i64 0, .int .i64 0] 25 (0, 0))) ∧ Aside0 (w'.heap[gb209]? = some (.cells #[.int .i64 t206, .int .i64 t207] 25 (0, 0))) ∧ Aside0 (w'.heap[gb212]? = some (.cells #[.int .i64 a1_0, .int .i64 a1_1, .int .i64 a1_2, u213003] 51 (0, 0))) ∧ Aside0 (Below w.heap.size w w'))
    case atStart => exact ⟨(0), (([] : List Int)), (.slice none 0 0), (by first | rfl | (simp; done) | (simp [*]; done)), H', ⟨Nat.le_refl _⟩, ⟨by first | exact Kd.R_nil _ _ _ _ _ | exact Kd.N_nil _ _ _ _ _ | exact Kd.V_nil _ _ _ _ _ | exact Kd.Q_nil _ _ _ _ _ | exact Kd.S_nil _ _ _ _ _⟩, ⟨by (with_reducible repeat (first | refine blk_drewN ?_ _ | refine blk_drew ?_ | refine blk_alloc ?_ _)); refine blk_far ?_ NB203_212.out _; (with_reducible repeat (first | refine blk_drewN ?_ _ | refine blk_drew ?_ | refine blk_alloc ?_ _)); refine blk_far ?_ NB203_212.out _; (with_reducible repeat (first | refine blk_drewN ?_ _ | refine blk_drew ?_ | refine blk_alloc ?_ _)); refine blk_far ?_ NB203_212.out _; (with_reducible repeat (first | refine blk_drewN ?_ _ | refine blk_drew ?_ | refine blk_alloc ?_ _)); refine blk_far ?_ NB203_212.out _; (with_reducible repeat (first | refine blk_drewN ?_ _ | refine blk_drew ?_ | refine blk_alloc ?_ _)); exact BK203.out⟩, ⟨by (with_reducible repeat (first | refine blk_drewN ?_ _ | refine blk_drew ?_ | refine blk_alloc ?_ _)); refine blk_far ?_ NB204_212.out _; (with_reducible repeat (first | refine blk_drewN ?_ _ | refine blk_drew ?_ | refine blk_alloc ?_ _)); refine blk_far ?_ NB204_212.out _; (with_reducible repeat (first | refine blk_drewN ?_ _ | refine blk_drew ?_ | refine blk_alloc ?_ _)); refine blk_far ?_ NB204_212.out _; (with_reducible repeat (first | refine blk_drewN ?_ _ | refine blk_drew ?_ | refine blk_alloc ?_ _)); refine blk_far ?_ NB204_212.out _; (with_reducible repeat (first | refine blk_drewN ?_ _ | refine blk_drew ?_ | refine blk_alloc ?_ _)); exact BK204.out⟩, ⟨by (with_reducible repeat (first | refine blk_drewN ?_ _ | refine blk_drew ?_ | refine blk_alloc ?_ _)); refine blk_far ?_ NB205_212.out _; (with_reducible repeat (first | refine blk_drewN ?_ _ | refine blk_drew ?_ | refine blk_alloc ?_ _)); refine blk_far ?_ NB205_212.out _; (with_reducible repeat (first | refine blk_drewN ?_ _ | refine blk_drew ?_ | refine blk_alloc ?_ _)); refine blk_far ?_ NB205_212.out _; (with_reducible repeat (first | refine blk_drewN ?_ _ | refine blk_drew ?_ | refine blk_alloc ?_ _)); refine blk_far ?_ NB205_212.out _; (with_reducible repeat (first | refine blk_drewN ?_ _ | refine blk_drew ?_ | refine blk_alloc ?_ _)); exact BK205.out⟩, ⟨by (with_reducible repeat (first | refine blk_drewN ?_ _ | refine blk_drew ?_ | refine blk_alloc ?_ _)); refine blk_far ?_ NB209_212.out _; (with_reducible repeat (first | refine blk_drewN ?_ _ | refine blk_drew ?_ | refine blk_alloc ?_ _)); refine blk_far ?_ NB209_212.out _; (with_reducible repeat (first | refine blk_drewN ?_ _ | refine blk_drew ?_ | refine blk_alloc ?_ _)); refine blk_far ?_ NB209_212.out _; (with_reducible repeat (first | refine blk_drewN ?_ _ | refine blk_drew ?_ | refine blk_alloc ?_ _)); refine blk_far ?_ NB209_212.out _; (with_reducible repeat (first | refine blk_drewN ?_ _ | refine blk_drew ?_ | refine blk_alloc ?_ _)); exact BK209.out⟩, ⟨by (with_reducible repeat (first | refine blk_drewN ?_ _ | refine blk_drew ?_ | refine blk_alloc ?_ _)); refine blk_put (cs := #[.int .i64 a1_0, .int .i64 a1_1, .int .i64 a1_2, .slice none 0 0]) ?_ 3 _ rfl; (with_reducible repeat (first | refine blk_drewN ?_ _ | refine blk_drew ?_ | refine blk_alloc ?_ _)); refine blk_put (cs := #[.int .i64 a1_0, .int .i64 a1_1, .int .i64 0, .slice none 0 0]) ?_ 2 _ rfl; (with_reducible repeat (first | refine blk_drewN ?_ _ | refine blk_drew ?_ | refine blk_alloc ?_ _)); refine blk_put (cs := #[.int .i64 a1_0, .int .i64 0, .int .i64 0, .slice none 0 0]) ?_ 1 _ rfl; (with_reducible repeat (first | refine blk_drewN ?_ _ | refine blk_drew ?_ | refine blk_alloc ?_ _)); refine blk_put (cs := #[.int .i64 0, .int .i64 0, .int .i64 0, .slice none 0 0]) ?_ 0 _ rfl; (with_reducible repeat (first | refine blk_drewN ?_ _ | refine blk_drew ?_ | refine blk_alloc ?_ _)); exact BK212.out⟩, ⟨be_ HB.out⟩⟩
    case round =>
     clear H'; (try clear c1); (try clear c2); (try clear p2); (try clear c3); (try clear c4); (try clear c10); (try clear c11); (try clear c12); (try clear c14); (try clear c16); (try clear c18); (try clear c19); (try clear c20); (try clear c25); (try clear c26); (try clear c27); (try clear c30); (try clear c31); (try clear c32); (try clear c33); (try clear c35); (try clear c36); (try clear c38); (try clear c39); (try clear c40); (try clear c43); (try clear c44); (try clear c45); (try clear c46); (try clear hcz13_0 hcz13_1); (try clear hcz21_0 hcz21_1 hcz21_2); (try clear hcz23_0 hcz23_1 hcz23_2); (try clear hcz28_0 hcz28_1 hcz28_2); (try clear hcz34_0 hcz34_1 hcz34_2 hcz34_3); (try clear hcz37_0 hcz37_1); (try clear hcz41_0 hcz41_1 hcz41_2); (try clear hcz47_0 hcz47_1 hcz47_2 hcz47_3); (try clear hfz13_0 hfz13_1); (try clear hfz21_0 hfz21_1 hfz21_2); (try clear hfz23_0 hfz23_1 hfz23_2); (try clear hfz28_0 hfz28_1 hfz28_2); (try clear hfz34_0 hfz34_1 hfz34_2 hfz34_3); (try clear hfz37_0 hfz37_1); (try clear hfz41_0 hfz41_1 hfz41_2); (try clear hfz47_0 hfz47_1 hfz47_2 hfz47_3); (try clear p2); obtain ⟨x37_2, x213003_2, u213003, rfl, HA, HK2, HO_213003, BK203, BK204, BK205, BK209, BK212, HB⟩ := hrel
     cases gk with
     | zero => exact absurd HA.out (by simp [impl_QuantTensor.l0])
     | succ k2 =>
      have H := HA.out; clear HA; simp only [impl_QuantTensor.l0] at H
      by_cases c48 : x37_2 < (l0.length : Int)
      ·
       rw [if_pos c48] at H; have c48b0 : decide (x37_2 < (l0.length : Int)) = true := decide_eq_true c48; clear c48
       by_cases c49 : 0 ≤ x37_2
       ·
        rw [if_pos c49] at H; have c49b0 : decide (0 ≤ x37_2) = true := decide_eq_true c49; clear c49
        by_cases c50 : x37_2 < (l0.length : Int)
        ·
         rw [if_pos c50] at H; have c50b0 : decide (x37_2 < (l0.length : Int)) = true := decide_eq_true c50; clear c50; replace H := Option.bind_eq_some_iff.mp H; obtain ⟨t214, A510, H⟩ := H; (try dsimp only at H); have A51 := Aside0.mk A510; clear A510
         by_cases c52 : x213003_2.length < 17592186044416
         ·
          rw [if_pos c52] at H; have LMc52 := Aside0.mk c52; clear c52; obtain ⟨y215, hy215⟩ : ∃ y_ : List Int, y_ = (x213003_2 ++ [t214]) := ⟨_, rfl⟩; replace H : (impl_QuantTensor.l0 k2 l0 (l0.length : Int) (wrap64 (x37_2 + 1)) t206 t207 a1_0 a1_1 a1_2 y215) = some (r1, r2, r3, r4, r5, r6, r7) := by first | (rw [hy215]; with_reducible exact H) | (have H2_ := (Option.bind_some _ _).symm.trans H; rw [hy215]; with_reducible exact H2_) | (have H2_ := (Option.bind_some _ _).symm.trans H; with_reducible exact H2_) | with_reducible exact H | (rw [hy215]; exact H) | exact H
          have Ny215 := Aside0.mk hy215; clear hy215; have H' := Aside0.mk H; clear H; have p213 : 0 ≤ (x37_2 : Int) := of_decide_eq_true (by first | (with_reducible assumption) | assumption); have q213 : x37_2 < (l0.length : Int) := of_decide_eq_true (by first | (with_reducible assumption) | assumption); obtain ⟨ad213, e213, hx213_0⟩ := Kd.at_int HR0.out x37_2 p213 q213
          cases e213
          replace hx213_0 := cw_ HB.out hx213_0; replace p213 := eq_true p213; replace q213 := eq_true q213
          try go_wp2
          replace HO_213003 := Aside0.mk (Kd.R_drew HO_213003.out); replace BK203 := Aside0.mk (blk_drew BK203.out); replace BK204 := Aside0.mk (blk_drew BK204.out); replace BK205 := Aside0.mk (blk_drew BK205.out); replace BK209 := Aside0.mk (blk_drew BK209.out); replace BK212 := Aside0.mk (blk_drew BK212.out); replace HB := Aside0.mk (below_drew1 HB.out); refine start_ (n := 9) (S := fun w' => w'.cell? ⟨gb212, 0, none⟩ = some (.int .i64 a1_0) ∧ w'.cell? ⟨gb212, 1, none⟩ = some (.int .i64 a1_1) ∧ w'.cell? ⟨gb212, 2, none⟩ = some (.int .i64 a1_2) ∧ w'.cell? ⟨gb212, 3, none⟩ = some (u213003) ∧ w'.cell? ⟨gb209, 0, none⟩ = some (.int .i64 t206) ∧ w'.cell? ⟨gb209, 1, none⟩ = some (.int .i64 t207)) (ds := [8]) #[false, false, false, false, false, false, false, false, false] (by kernel_rfl) rfl rfl ⟨(blk_cell BK212.out 0).trans rfl, (blk_cell BK212.out 1).trans rfl, (blk_cell BK212.out 2).trans rfl, (blk_cell BK212.out 3).trans rfl, (blk_cell BK209.out 0).trans rfl, (blk_cell BK209.out 1).trans rfl⟩ (fun hHeld => ?_); refine with_tabW impl_QuantTensor.tab8 impl_QuantTensor.bits8 (fun HT_ HW_ => ?_); generalize wr.drew = w53 at HO_213003 BK203 BK204 BK205 BK209 BK212 HB hHeld ⊢; refine pl_ 0 (some 41) 9 1 HT_.out ?_; refine pl_ 3 (some 44) 9 9 HT_.out ?_; refine tk_ 1 (some 42) 9 11 HT_.out HW_.out hHeld (hy := by rintro w' ⟨s0, s1, s2, s3, s4, s5⟩; go_simp; with_reducible rfl) (h := ?_); refine tk_ 2 (some 43) 9 15 HT_.out HW_.out hHeld (hy := by rintro w' ⟨s0, s1, s2, s3, s4, s5⟩; go_simp; with_reducible rfl) (h := ?_); refine one_ (i := 4) (N := some 45) (bl_ 9 31) rfl rfl (one_of HT_.out (by kernel_rfl)) (by decide) (fun K hK => ?_); refine goes_ Try.func57 (by kernel_rfl) rfl #[.agg #[.int .i64 t206, .int .i64 t207], .int .i64 (rd l0 x37_2)] (by rfl) rfl rfl ar_ ?_
          (with_reducible refine (impl_Scale_toInt8.calls k2 t206 t207 (rd l0 x37_2) t214 _ A51.out).mono ?_)
          rintro e w54 ⟨rfl, hb⟩; refine ⟨_, rfl, ?_⟩; replace HO_213003 := rb_ HO_213003 hb; replace BK203 := bb_ BK203 hb; replace BK204 := bb_ BK204 hb; replace BK205 := bb_ BK205 hb; replace BK209 := bb_ BK209 hb; replace BK212 := bb_ BK212 hb; replace HB := hb_ HB hb; (try clear hb); (try clear hb2); (try clear hk); (try clear hi); refine hK.out _ _ ⟨(blk_cell BK212.out 0).trans rfl, (blk_cell BK212.out 1).trans rfl, (blk_cell BK212.out 2).trans rfl, (blk_cell BK212.out 3).trans rfl, (blk_cell BK209.out 0).trans rfl, (blk_cell BK209.out 1).trans rfl⟩ (fun hHeld => ?_); clear hK K; refine nm_ 45 (h := ?_); refine one_ (i := 5) (N := some 46) (bl_ 9 63) rfl rfl (one_of HT_.out (by kernel_rfl)) (by decide) (fun K hK => ?_); refine value_ (w1 := ?_) (v := ?_) (by rfl) rfl ?_ ?_
          rotate_left 2
          ·
           go_simp
           constructor
           ·
            rfl
           ·
            rfl
          refine hK.out _ _ ⟨(blk_cell (blk_alloc BK212.out _) 0).trans rfl, (blk_cell (blk_alloc BK212.out _) 1).trans rfl, (blk_cell (blk_alloc BK212.out _) 2).trans rfl, (blk_cell (blk_alloc BK212.out _) 3).trans rfl, (blk_cell (blk_alloc BK209.out _) 0).trans rfl, (blk_cell (blk_alloc BK209.out _) 1).trans rfl⟩ (fun hHeld => ?_); clear hK K; refine nm_ 46 (h := ?_); refine one_ (i := 6) (N := some 47) (bl_ 9 127) rfl rfl (one_of HT_.out (by kernel_rfl)) (by decide) (fun K hK => ?_); refine Kd.R_append_step (Kd.int .i64) (w0 := w) w.heap.size (by rfl) (.tmp 42) (.tmp 46) 33 3 (.int .i64 0) 8 rfl Try.underlying33 info3 rfl (by decide) (by omega) u213003 x213003_2 t214 [.int .i64 t214] (fun _ => True) (fun _ => False) rfl rfl ?aP (fun _ hk => hk.elim) ?aF ?aO ?aB ?aS ?aL ?_; (case aP => exact rfl); (case aB => exact (be_ HB.out)); (case aF => exact (fun _ _ => trivial)); (case aO => exact (ra_ HO_213003.out)); (case aS => exact (below_size (be_ HB.out))); (case aL => have := LMc52.out; omega); intro v216 w55 ho hb hg hat; rw [← Ny215.out] at ho; replace BK203 := Aside0.mk (blk_grown (g := gb203) (o := .cells #[.int .i64 a1_0, .int .i64 a1_1, .int .i64 a1_2] 49 (0, 0)) (bu_ BK203.out) hg (Kd.R_ne HO_213003.out BK203.out (by decide))); replace BK204 := Aside0.mk (blk_grown (g := gb204) (o := .cells #[.int .i64 0, .int .i64 0, .int .i64 0, .slice none 0 0] 51 (0, 0)) (bu_ BK204.out) hg (Kd.R_ne HO_213003.out BK204.out (by decide))); replace BK205 := Aside0.mk (blk_grown (g := gb205) (o := .cells #[.int .i64 0, .int .i64 0] 25 (0, 0)) (bu_ BK205.out) hg (Kd.R_ne HO_213003.out BK205.out (by decide))); replace BK209 := Aside0.mk (blk_grown (g := gb209) (o := .cells #[.int .i64 t206, .int .i64 t207] 25 (0, 0)) (bu_ BK209.out) hg (Kd.R_ne HO_213003.out BK209.out (by decide))); replace BK212 := Aside0.mk (blk_grown (g := gb212) (o := .cells #[.int .i64 a1_0, .int .i64 a1_1, .int .i64 a1_2, u213003] 51 (0, 0)) (bu_ BK212.out) hg (Kd.R_ne HO_213003.out BK212.out (by decide))); replace HB := Aside0.mk (hb); have HO217 := Aside0.mk (ho); clear HO_213003; clear ho hb hg hat; obtain ⟨Ao56, co56, eo56⟩ := Kd.R_slice HO217.out; (first | subst eo56 | (injection eo56 with f1_ f2_ f3_; have f4_ := f1_.symm; have f5_ := f3_.symm; clear f1_ f2_ f3_; subst f4_; subst f5_)); refine hK.out _ _ ⟨(blk_cell BK212.out 0).trans rfl, (blk_cell BK212.out 1).trans rfl, (blk_cell BK212.out 2).trans rfl, (blk_cell BK212.out 3).trans rfl, (blk_cell BK209.out 0).trans rfl, (blk_cell BK209.out 1).trans rfl⟩ (fun hHeld => ?_); clear hK K; refine nm_ 47 (h := ?_); refine pl_ 7 (some 48) 9 255 HT_.out ?_; refine last_ (i := 8) (N := none) (bl_ 9 511) rfl rfl (one_of HT_.out (by kernel_rfl)) (by decide) (fun K hK => ?_); have hs57 : w55.cell? ⟨gb212, 3, none⟩ = some (u213003) := (blk_cell BK212.out 3).trans rfl; have hfs57 := blk_frozen BK212.out 3; have hns57_0 := NB203_212.out; have hns57_1 := NB204_212.out; have hns57_2 := NB205_212.out; have hns57_3 := NB209_212.out; have hms57_0 := NB212_203.out; have hms57_1 := NB212_204.out; have hms57_2 := NB212_205.out; have hms57_3 := NB212_209.out; refine skip_ (w1 := ?_) (by rfl) rfl ?_ ?_
          rotate_left
          ·
           go_simp
           rfl
          refine hK.out _ _ ?_; clear hK K; refine done_ (done_of HT_.out (by kernel_rfl)) ?_
          try go_wp2
          go_roundg k2
          case measure => have := HJ3.out; have := HK2.out; omega
          case rel => exact ⟨(wrap64 (x37_2 + 1)), (y215), (.slice Ao56 y215.length co56), (by first | rfl | (simp; done) | (simp [*]; done)), H', ⟨by have := HJ3.out; have := HK2.out; omega⟩, ⟨by (with_reducible repeat (first | apply Kd.R_alloc | apply Kd.R_drewN | apply Kd.R_drew)); exact Kd.R_mono (Kd.R_far (p := ⟨gb212, 3, none⟩) (Kd.R_types HO217.out BK212.out (by decide)) (fun _ hk => hk.2) (.slice Ao56 y215.length co56)) (fun _ hk => trivial)⟩, ⟨by (with_reducible repeat (first | refine blk_drewN ?_ _ | refine blk_drew ?_ | refine blk_alloc ?_ _)); refine blk_far ?_ NB203_212.out _; (with_reducible repeat (first | refine blk_drewN ?_ _ | refine blk_drew ?_ | refine blk_alloc ?_ _)); exact BK203.out⟩, ⟨by (with_reducible repeat (first | refine blk_drewN ?_ _ | refine blk_drew ?_ | refine blk_alloc ?_ _)); refine blk_far ?_ NB204_212.out _; (with_reducible repeat (first | refine blk_drewN ?_ _ | refine blk_drew ?_ | refine blk_alloc ?_ _)); exact BK204.out⟩, ⟨by (with_reducible repeat (first | refine blk_drewN ?_ _ | refine blk_drew ?_ | refine blk_alloc ?_ _)); refine blk_far ?_ NB205_212.out _; (with_reducible repeat (first | refine blk_drewN ?_ _ | refine blk_drew ?_ | refine blk_alloc ?_ _)); exact BK205.out⟩, ⟨by (with_reducible repeat (first | refine blk_drewN ?_ _ | refine blk_drew ?_ | refine blk_alloc ?_ _)); refine blk_far ?_ NB209_212.out _; (with_reducible repeat (first | refine blk_drewN ?_ _ | refine blk_drew ?_ | refine blk_alloc ?_ _)); exact BK209.out⟩, ⟨by (with_reducible repeat (first | refine blk_drewN ?_ _ | refine blk_drew ?_ | refine blk_alloc ?_ _)); refine blk_put (cs := #[.int .i64 a1_0, .int .i64 a1_1, .int .i64 a1_2, u213003]) ?_ 3 _ rfl; (with_reducible repeat (first | refine blk_drewN ?_ _ | refine blk_drew ?_ | refine blk_alloc ?_ _)); exact BK212.out⟩, ⟨be_ HB.out⟩⟩
         ·
          rw [if_neg c52] at H; exact absurd H (by simp)
        ·
         rw [if_neg c50] at H; exact absurd H (by simp)
       ·
        rw [if_neg c49] at H; exact absurd H (by simp)
      ·
       rw [if_neg c48] at H; have c48b0 : decide (x37_2 < (l0.length : Int)) = false := decide_eq_false c48; clear c48; simp only [Option.some.injEq, Prod.mk.injEq] at H; obtain ⟨rfl, rfl, rfl, rfl, rfl, rfl, rfl⟩ := H
       try go_wp2
       replace HO_213003 := Aside0.mk (Kd.R_drew HO_213003.out); replace BK203 := Aside0.mk (blk_drew BK203.out); replace BK204 := Aside0.mk (blk_drew BK204.out); replace BK205 := Aside0.mk (blk_drew BK205.out); replace BK209 := Aside0.mk (blk_drew BK209.out); replace BK212 := Aside0.mk (blk_drew BK212.out); replace HB := Aside0.mk (below_drew1 HB.out); obtain ⟨Ao62, co62, eo62⟩ := Kd.R_slice HO_213003.out; (first | subst eo62 | (injection eo62 with f1_ f2_ f3_; have f4_ := f1_.symm; have f5_ := f3_.symm; clear f1_ f2_ f3_; subst f4_; subst f5_)); refine start_ (n := 5) (S := fun w' => w'.cell? ⟨gb212, 0, none⟩ = some (.int .i64 a1_0) ∧ w'.cell? ⟨gb212, 1, none⟩ = some (.int .i64 a1_1) ∧ w'.cell? ⟨gb212, 2, none⟩ = some (.int .i64 a1_2) ∧ w'.cell? ⟨gb212, 3, none⟩ = some (.slice Ao62 x213003_2.length co62) ∧ w'.cell? ⟨gb209, 0, none⟩ = some (.int .i64 t206) ∧ w'.cell? ⟨gb209, 1, none⟩ = some (.int .i64 t207)) (ds := []) #[false, false, false, false, false] (by kernel_rfl) rfl rfl ⟨(blk_cell BK212.out 0).trans rfl, (blk_cell BK212.out 1).trans rfl, (blk_cell BK212.out 2).trans rfl, (blk_cell BK212.out 3).trans rfl, (blk_cell BK209.out 0).trans rfl, (blk_cell BK209.out 1).trans rfl⟩ (fun hHeld => ?_); generalize wr.drew = w58 at HO_213003 BK203 BK204 BK205 BK209 BK212 HB hHeld ⊢; refine take_ (i := 0) (N := some 50) (v := ?_) (a' := ?_) #[true, false, false, false, false] rfl rfl (by kernel_rfl) (fun _ _ _ h => h) (Or.inl ⟨by rfl, ?_⟩) hHeld ?_ ?_; rotate_left; (· rintro w' ⟨s0, s1, s2, s3, s4, s5⟩; go_simp; with_reducible rfl); rotate_left; (· simp only [Act.put, List.setIfInBounds_toArray, List.set_cons_zero, List.set_cons_succ, i64_w, i32_w]; rfl); refine take_ (i := 1) (N := some 51) (v := ?_) (a' := ?_) #[true, true, false, false, false] rfl rfl (by kernel_rfl) (fun _ _ _ h => h) (Or.inl ⟨by rfl, ?_⟩) hHeld ?_ ?_; rotate_left; (· rintro w' ⟨s0, s1, s2, s3, s4, s5⟩; go_simp; with_reducible rfl); rotate_left; (· simp only [Act.put, List.setIfInBounds_toArray, List.set_cons_zero, List.set_cons_succ, i64_w, i32_w]; rfl); refine one_ (i := 2) (N := none) #[true, true, true, false, false] rfl rfl (by kernel_rfl) (by decide) (fun K hK => ?_); have hs59 : w58.cell? ⟨gb204, 0, none⟩ = some (.int .i64 0) := (blk_cell BK204.out 0).trans rfl; have hfs59 := blk_frozen BK204.out 0; have hns59_0 := NB203_204.out; have hns59_2 := NB205_204.out; have hns59_3 := NB209_204.out; have hns59_4 := NB212_204.out; have hms59_0 := NB204_203.out; have hms59_2 := NB204_205.out; have hms59_3 := NB204_209.out; have hms59_4 := NB204_212.out; have hs60 : w58.cell? ⟨gb204, 1, none⟩ = some (.int .i64 0) := (blk_cell BK204.out 1).trans rfl; have hfs60 := blk_frozen BK204.out 1; have hns60_0 := NB203_204.out; have hns60_2 := NB205_204.out; have hns60_3 := NB209_204.out; have hns60_4 := NB212_204.out; have hms60_0 := NB204_203.out; have hms60_2 := NB204_205.out; have hms60_3 := NB204_209.out; have hms60_4 := NB204_212.out; have hs61 : w58.cell? ⟨gb204, 2, none⟩ = some (.int .i64 0) := (blk_cell BK204.out 2).trans rfl; have hfs61 := blk_frozen BK204.out 2; have hns61_0 := NB203_204.out; have hns61_2 := NB205_204.out; have hns61_3 := NB209_204.out; have hns61_4 := NB212_204.out; have hms61_0 := NB204_203.out; have hms61_2 := NB204_205.out; have hms61_3 := NB204_209.out; have hms61_4 := NB204_212.out; have hs63 : w58.cell? ⟨gb204, 3, none⟩ = some (.slice none 0 0) := (blk_cell BK204.out 3).trans rfl; have hfs63 := blk_frozen BK204.out 3; have hns63_0 := NB203_204.out; have hns63_2 := NB205_204.out; have hns63_3 := NB209_204.out; have hns63_4 := NB212_204.out; have hms63_0 := NB204_203.out; have hms63_2 := NB204_205.out; have hms63_3 := NB204_209.out; have hms63_4 := NB204_212.out; refine skip_ (w1 := ?_) (by rfl) rfl ?_ ?_
       rotate_left
       ·
        go_simp
        rfl
       refine hK.out _ _ ⟨(cfn_ NB212_204.out ((cfn_ NB212_204.out ((cfn_ NB212_204.out ((cfn_ NB212_204.out (hHeld.1)))))))), (cfn_ NB212_204.out ((cfn_ NB212_204.out ((cfn_ NB212_204.out ((cfn_ NB212_204.out (hHeld.2.1)))))))), (cfn_ NB212_204.out ((cfn_ NB212_204.out ((cfn_ NB212_204.out ((cfn_ NB212_204.out (hHeld.2.2.1)))))))), (cfn_ NB212_204.out ((cfn_ NB212_204.out ((cfn_ NB212_204.out ((cfn_ NB212_204.out (hHeld.2.2.2.1)))))))), (cfn_ NB209_204.out ((cfn_ NB209_204.out ((cfn_ NB209_204.out ((cfn_ NB209_204.out (hHeld.2.2.2.2.1)))))))), (cfn_ NB209_204.out ((cfn_ NB209_204.out ((cfn_ NB209_204.out ((cfn_ NB209_204.out (hHeld.2.2.2.2.2))))))))⟩ (fun hHeld => ?_); clear hK K; refine one_ (i := 3) (N := none) #[true, true, true, true, false] rfl rfl (by kernel_rfl) (by decide) (fun K hK => ?_); have hs64 : w58.cell? ⟨gb205, 0, none⟩ = some (.int .i64 0) := (blk_cell BK205.out 0).trans rfl; have hfs64 := blk_frozen BK205.out 0; have hns64_0 := NB203_205.out; have hns64_1 := NB204_205.out; have hns64_3 := NB209_205.out; have hns64_4 := NB212_205.out; have hms64_0 := NB205_203.out; have hms64_1 := NB205_204.out; have hms64_3 := NB205_209.out; have hms64_4 := NB205_212.out; have hs65 : w58.cell? ⟨gb205, 1, none⟩ = some (.int .i64 0) := (blk_cell BK205.out 1).trans rfl; have hfs65 := blk_frozen BK205.out 1; have hns65_0 := NB203_205.out; have hns65_1 := NB204_205.out; have hns65_3 := NB209_205.out; have hns65_4 := NB212_205.out; have hms65_0 := NB205_203.out; have hms65_1 := NB205_204.out; have hms65_3 := NB205_209.out; have hms65_4 := NB205_212.out; refine skip_ (w1 := ?_) (by rfl) rfl ?_ ?_
       rotate_left
       ·
        go_simp
        rfl
       refine hK.out _ _ ⟨(cfn_ NB212_205.out ((cfn_ NB212_205.out (hHeld.1)))), (cfn_ NB212_205.out ((cfn_ NB212_205.out (hHeld.2.1)))), (cfn_ NB212_205.out ((cfn_ NB212_205.out (hHeld.2.2.1)))), (cfn_ NB212_205.out ((cfn_ NB212_205.out (hHeld.2.2.2.1)))), (cfn_ NB209_205.out ((cfn_ NB209_205.out (hHeld.2.2.2.2.1)))), (cfn_ NB209_205.out ((cfn_ NB209_205.out (hHeld.2.2.2.2.2))))⟩ (fun hHeld => ?_); clear hK K; refine pure_ (i := 4) (N := some 6) (v := ?_) (a' := ?_) #[true, true, true, true, true] rfl rfl (by kernel_rfl) (fun _ _ _ h => h) (Or.inl ⟨by rfl, ?_⟩) ?_ ?_; rotate_left; (· intro w'; go_simp; with_reducible rfl); rotate_left; (· simp only [Act.put, List.setIfInBounds_toArray, List.set_cons_zero, List.set_cons_succ, i64_w, i32_w]; rfl); refine done_ (by kernel_rfl) ?_
       try go_wp2
       refine bodyPost_ret (results_list (rs := [.cell 4 51, .cell 5 25, .tmp 6]) rfl (by simp) (.cell gb204 51 #[.int .i64 a1_0, .int .i64 a1_1, .int .i64 a1_2, .slice Ao62 x213003_2.length co62] (0, 0) _ rfl (by (with_reducible repeat (first | refine blk_drewN ?_ _ | refine blk_drew ?_ | refine blk_alloc ?_ _)); refine blk_far ?_ NB204_205.out _; (with_reducible repeat (first | refine blk_drewN ?_ _ | refine blk_drew ?_ | refine blk_alloc ?_ _)); refine blk_far ?_ NB204_205.out _; (with_reducible repeat (first | refine blk_drewN ?_ _ | refine blk_drew ?_ | refine blk_alloc ?_ _)); refine blk_put (cs := #[.int .i64 a1_0, .int .i64 a1_1, .int .i64 a1_2, .slice none 0 0]) ?_ 3 _ rfl; (with_reducible repeat (first | refine blk_drewN ?_ _ | refine blk_drew ?_ | refine blk_alloc ?_ _)); refine blk_put (cs := #[.int .i64 a1_0, .int .i64 a1_1, .int .i64 0, .slice none 0 0]) ?_ 2 _ rfl; (with_reducible repeat (first | refine blk_drewN ?_ _ | refine blk_drew ?_ | refine blk_alloc ?_ _)); refine blk_put (cs := #[.int .i64 a1_0, .int .i64 0, .int .i64 0, .slice none 0 0]) ?_ 1 _ rfl; (with_reducible repeat (first | refine blk_drewN ?_ _ | refine blk_drew ?_ | refine blk_alloc ?_ _)); refine blk_put (cs := #[.int .i64 0, .int .i64 0, .int .i64 0, .slice none 0 0]) ?_ 0 _ rfl; (with_reducible repeat (first | refine blk_drewN ?_ _ | refine blk_drew ?_ | refine blk_alloc ?_ _)); exact BK204.out) Try.underlying51 rfl (by kernel_rfl) (.cell gb205 25 #[.int .i64 t206, .int .i64 t207] (0, 0) _ rfl (by (with_reducible repeat (first | refine blk_drewN ?_ _ | refine blk_drew ?_ | refine blk_alloc ?_ _)); refine blk_put (cs := #[.int .i64 t206, .int .i64 0]) ?_ 1 _ rfl; (with_reducible repeat (first | refine blk_drewN ?_ _ | refine blk_drew ?_ | refine blk_alloc ?_ _)); refine blk_put (cs := #[.int .i64 0, .int .i64 0]) ?_ 0 _ rfl; (with_reducible repeat (first | refine blk_drewN ?_ _ | refine blk_drew ?_ | refine blk_alloc ?_ _)); refine blk_far ?_ NB205_204.out _; (with_reducible repeat (first | refine blk_drewN ?_ _ | refine blk_drew ?_ | refine blk_alloc ?_ _)); refine blk_far ?_ NB205_204.out _; (with_reducible repeat (first | refine blk_drewN ?_ _ | refine blk_drew ?_ | refine blk_alloc ?_ _)); refine blk_far ?_ NB205_204.out _; (with_reducible repeat (first | refine blk_drewN ?_ _ | refine blk_drew ?_ | refine blk_alloc ?_ _)); refine blk_far ?_ NB205_204.out _; (with_reducible repeat (first | refine blk_drewN ?_ _ | refine blk_drew ?_ | refine blk_alloc ?_ _)); exact BK205.out) Try.underlying25 rfl (by kernel_rfl) (.tmp .nil)))) rfl ?_; exact ⟨_, by first | rfl | (simp [errW_none, errW_some] <;> rfl) | (simp [*, errW_none, errW_some] <;> rfl), by (with_reducible repeat (first | apply Kd.R_alloc | apply Kd.R_drewN | apply Kd.R_drew)); exact Kd.R_mono (Kd.R_far (p := ⟨gb205, 1, none⟩) (Kd.R_far (p := ⟨gb205, 0, none⟩) (Kd.R_far (p := ⟨gb204, 3, none⟩) (Kd.R_far (p := ⟨gb204, 2, none⟩) (Kd.R_far (p := ⟨gb204, 1, none⟩) (Kd.R_far (p := ⟨gb204, 0, none⟩) (Kd.R_types (Kd.R_types HO_213003.out BK204.out (by decide)) BK205.out (by decide)) (fun _ hk => hk.1.2) (.int .i64 a1_0)) (fun _ hk => hk.1.2) (.int .i64 a1_1)) (fun _ hk => hk.1.2) (.int .i64 a1_2)) (fun _ hk => hk.1.2) (.slice Ao62 x213003_2.length co62)) (fun _ hk => hk.2) (.int .i64 t206)) (fun _ hk => hk.2) (.int .i64 t207)) (fun _ hk => trivial), be_ HB.out⟩

/-! ### laws_heldIntS: function 41 -/
def laws_heldIntS.l0 : Nat → List Int → Int → Int → Option (Int)
 | 0, _, _, _ => none
 | k + 1, x0, x1, x5 => if x5 < (x0.length : Int) then (if 0 ≤ x5 then (if (rd x0 x5) = x1 then (laws_heldIntS.l0 k x0 (wrap64 (x1 + 1)) (wrap64 (x5 + 1))) else (some (-1))) else (none)) else (some x1)
def laws_heldIntS.f (k : Nat) (l0 : List Int) (a1 : Int) : Option (Int) := laws_heldIntS.l0 k l0 a1 0
theorem laws_heldIntS.mono_l : ∀ k, (∀ y0 y1 y2, LeO (laws_heldIntS.l0 k y0 y1 y2) (laws_heldIntS.l0 (k + 1) y0 y1 y2))
 | 0 => fun _ _ _ r h => by simp [laws_heldIntS.l0] at h
 | k + 1 => by
  have ih0 := laws_heldIntS.mono_l k
  ·
   intro y0 y1 y2
   unfold laws_heldIntS.l0
   repeat' first
   | (with_reducible exact ih0 _ _ _)
   | (with_reducible exact LeO.refl _)
   | (with_reducible exact LeO.none _)
   | (with_reducible refine LeO.ite ?_ ?_)
   | (with_reducible refine LeO.bind ?_ (fun _ => ?_))
   | exact ih0 _ _ _
   | exact LeO.none _
   | refine LeO.ite ?_ ?_
   | refine LeO.bind ?_ (fun _ => ?_)
theorem laws_heldIntS.mono : ∀ a0 a1 k, LeO (laws_heldIntS.f k a0 a1) (laws_heldIntS.f (k + 1) a0 a1) := by
 intro a0 a1 k; have ih0 := laws_heldIntS.mono_l k
 unfold laws_heldIntS.f
 repeat' first
   | (with_reducible exact ih0 _ _ _)
   | (with_reducible exact LeO.refl _)
   | (with_reducible exact LeO.none _)
   | (with_reducible refine LeO.ite ?_ ?_)
   | (with_reducible refine LeO.bind ?_ (fun _ => ?_))
   | exact ih0 _ _ _
   | exact LeO.none _
   | refine LeO.ite ?_ ?_
   | refine LeO.bind ?_ (fun _ => ?_)
set_option maxHeartbeats 8000000 in
set_option maxRecDepth 100000 in
theorem laws_heldIntS.calls (k : Nat) (A0 : Option Addr) (c0 : Nat) (l0 : List Int) (a1 : Int) (r : Int) (w : World) (hr0 : Kd.C (Kd.int .i64) w A0 l0.length l0) (hc0 : l0.length ≤ c0) (h : laws_heldIntS.f k l0 a1 = some r) :
  Calls Try.prog 41 #[.slice A0 l0.length c0, .int .i64 a1] w fun e w' => e = .returned (.int .i64 r) ∧ Drawn0 w w' := by
 have HR0 := Aside0.mk hr0; have HC0 := Aside0.mk hc0; clear hr0 hc0; have H : (laws_heldIntS.l0 k l0 a1 0) = some r := h; clear h; have H' := Aside0.mk H; clear H
 go_enter Try.func41, Try.ntmps41
 go_wp2
 go_loopg [1, 5] k (fun kq v1 v5 w' => ∃ (x1_1 : Int) (x5_1 : Int), v1 = .int .i64 x1_1 ∧ v5 = .int .i64 x5_1 ∧ Aside0 (laws_heldIntS.l0 kq l0 x1_1 x5_1 = some r) ∧ Aside0 (kq ≤ k) ∧ Drawn0 w w')
 case atStart => exact ⟨(a1), (0), (by first | rfl | (simp; done) | (simp [*]; done)), (by first | rfl | (simp; done) | (simp [*]; done)), H', ⟨Nat.le_refl _⟩, by repeat (first | exact Drawn0.refl _ | apply Drawn0.step)⟩
 case round =>
  clear H'; (try clear p2); obtain ⟨x1_1, x5_1, rfl, rfl, HA, HK1, ⟨m1, rfl⟩⟩ := hrel
  cases gk with
  | zero => exact absurd HA.out (by simp [laws_heldIntS.l0])
  | succ k1 =>
   have H := HA.out; clear HA; simp only [laws_heldIntS.l0] at H
   by_cases c3 : x5_1 < (l0.length : Int)
   ·
    rw [if_pos c3] at H; have c3b0 : decide (x5_1 < (l0.length : Int)) = true := decide_eq_true c3; clear c3
    by_cases c4 : 0 ≤ x5_1
    ·
     rw [if_pos c4] at H; have c4b0 : decide (0 ≤ x5_1) = true := decide_eq_true c4; clear c4
     by_cases c5 : (rd l0 x5_1) = x1_1
     ·
      rw [if_pos c5] at H; have c5b0 : ((rd l0 x5_1) == x1_1) = true := beq_iff_eq.mpr c5; have c5b1 : ((rd l0 x5_1) != x1_1) = false := bne_eq_false_iff_eq.mpr c5; clear c5; have H' := Aside0.mk H; clear H; have p218 : 0 ≤ (x5_1 : Int) := of_decide_eq_true (by first | (with_reducible assumption) | assumption); have q218 : x5_1 < (l0.length : Int) := of_decide_eq_true (by first | (with_reducible assumption) | assumption); obtain ⟨ad218, e218, hx218_0⟩ := Kd.at_int HR0.out x5_1 p218 q218
      cases e218
      replace p218 := eq_true p218; replace q218 := eq_true q218
      go_wp2
      go_roundg k1
      case measure => have := HK1.out; omega
      case rel => exact ⟨(wrap64 (x1_1 + 1)), (wrap64 (x5_1 + 1)), (by first | rfl | (simp; done) | (simp [*]; done)), (by first | rfl | (simp; done) | (simp [*]; done)), H', ⟨by have := HK1.out; omega⟩, by repeat (first | exact Drawn0.refl _ | apply Drawn0.step)⟩
     ·
      rw [if_neg c5] at H; have c5b0 : ((rd l0 x5_1) == x1_1) = false := beq_eq_false_iff_ne.mpr c5; have c5b1 : ((rd l0 x5_1) != x1_1) = true := bne_iff_ne.mpr c5; obtain rfl := Option.some.inj H; have p218 : 0 ≤ (x5_1 : Int) := of_decide_eq_true (by first | (with_reducible assumption) | assumption); have q218 : x5_1 < (l0.length : Int) := of_decide_eq_true (by first | (with_reducible assumption) | assumption); obtain ⟨ad218, e218, hx218_0⟩ := Kd.at_int HR0.out x5_1 p218 q218
      cases e218
      replace p218 := eq_true p218; replace q218 := eq_true q218
      go_wp2
      go_ret
      exact ⟨by first | rfl | (simp; done) | (simp [*]; done), by repeat (first | exact Drawn0.refl _ | apply Drawn0.step)⟩
    ·
     rw [if_neg c4] at H; exact absurd H (by simp)
   ·
    rw [if_neg c3] at H; have c3b0 : decide (x5_1 < (l0.length : Int)) = false := decide_eq_false c3; clear c3; obtain rfl := Option.some.inj H
    go_wp2
    go_ret
    exact ⟨by first | rfl | (simp; done) | (simp [*]; done), by repeat (first | exact Drawn0.refl _ | apply Drawn0.step)⟩

/-! ### laws_heldTensor: function 45 -/
def laws_heldTensor.f (k : Nat) (a0_0 : Int) (a0_1 : Int) (a0_2 : Int) (l0_3 : List Int) (a1 : Int) : Option (Int) := (laws_heldIntS.f k l0_3 a1).bind fun t220 => (if t220 < 0 then (some (-1)) else (some t220))
theorem laws_heldTensor.mono : ∀ a0 a1 a2 a3 a4 k, LeO (laws_heldTensor.f k a0 a1 a2 a3 a4) (laws_heldTensor.f (k + 1) a0 a1 a2 a3 a4) := by
 intro a0 a1 a2 a3 a4 k
 unfold laws_heldTensor.f
 repeat' first
   | (with_reducible exact laws_heldIntS.mono _ _ _)
   | (with_reducible exact LeO.refl _)
   | (with_reducible exact LeO.none _)
   | (with_reducible refine LeO.ite ?_ ?_)
   | (with_reducible refine LeO.bind ?_ (fun _ => ?_))
   | exact laws_heldIntS.mono _ _ _
   | exact LeO.none _
   | refine LeO.ite ?_ ?_
   | refine LeO.bind ?_ (fun _ => ?_)
set_option maxHeartbeats 8000000 in
set_option maxRecDepth 100000 in
theorem laws_heldTensor.calls (k : Nat) (a0_0 : Int) (a0_1 : Int) (a0_2 : Int) (A0_3 : Option Addr) (c0_3 : Nat) (l0_3 : List Int) (a1 : Int) (r : Int) (w : World) (hr0_3 : Kd.C (Kd.int .i64) w A0_3 l0_3.length l0_3) (hc0_3 : l0_3.length ≤ c0_3) (h : laws_heldTensor.f k a0_0 a0_1 a0_2 l0_3 a1 = some r) :
  Calls Try.prog 45 #[.agg #[.int .i64 a0_0, .int .i64 a0_1, .int .i64 a0_2, .slice A0_3 l0_3.length c0_3], .int .i64 a1] w fun e w' => e = .returned (.int .i64 r) ∧ Below w.heap.size w w' := by
 have hu51 := Try.underlying51; have HR0_3 := Aside0.mk hr0_3; have HC0_3 := Aside0.mk hc0_3; clear hr0_3 hc0_3; have HB := Aside0.mk (Below.refl w.heap.size w); have H : ((laws_heldIntS.f k l0_3 a1).bind fun t220 => (if t220 < 0 then (some (-1)) else (some t220))) = some r := h; clear h; replace H := Option.bind_eq_some_iff.mp H; obtain ⟨t220, A30, H⟩ := H; (try dsimp only at H); have A3 := Aside0.mk A30; clear A30
 by_cases c4 : t220 < 0
 ·
  rw [if_pos c4] at H; have c4b0 : decide (t220 < 0) = true := decide_eq_true c4; clear c4; obtain rfl := Option.some.inj H
  go_enter Try.func45, Try.ntmps45
  go_wp2_with (first | ((with_reducible refine gate_dst (N := 2) rfl ?_); refine bx_ 2 #[.int .i64 a0_0, .int .i64 a0_1, .int .i64 a0_2, .slice A0_3 l0_3.length c0_3] 51 ?_; intro gb219 hg w5 hbox hb; have BK219 := Aside0.mk (hbox); have GW219 := gs_ hg HB; have GE219 := gs_ hg HB; replace HB := hb_ HB hb; clear hb hbox hg; obtain ⟨hcz6_0, hcz6_1, hcz6_2, hcz6_3, hfz6_0, hfz6_1, hfz6_2, hfz6_3⟩ := box4_ BK219.out) | ((with_reducible refine gate_callee (f := 41) rfl ?_); refine goesL_ (some 8) rfl rfl Try.func41 (by kernel_rfl) rfl #[.slice A0_3 l0_3.length c0_3, .int .i64 a1] rfl ar_ ?_; (with_reducible refine (laws_heldIntS.calls k _ _ l0_3 a1 t220 _ ?side1 ?side2 A3.out).mono ?_); (case side1 => exact cu_ HR0_3.out HB.out); (case side2 => exact HC0_3.out); rintro e w' ⟨rfl, ⟨nd, rfl⟩⟩; refine ⟨_, rfl, ?_⟩))
  go_ret
  exact ⟨by first | rfl | (simp [errW_none, errW_some] <;> rfl) | (simp [*, errW_none, errW_some] <;> rfl), be_ HB.out⟩
 ·
  rw [if_neg c4] at H; have c4b0 : decide (t220 < 0) = false := decide_eq_false c4; clear c4; obtain rfl := Option.some.inj H
  go_enter Try.func45, Try.ntmps45
  go_wp2_with (first | ((with_reducible refine gate_dst (N := 2) rfl ?_); refine bx_ 2 #[.int .i64 a0_0, .int .i64 a0_1, .int .i64 a0_2, .slice A0_3 l0_3.length c0_3] 51 ?_; intro gb219 hg w7 hbox hb; have BK219 := Aside0.mk (hbox); have GW219 := gs_ hg HB; have GE219 := gs_ hg HB; replace HB := hb_ HB hb; clear hb hbox hg; obtain ⟨hcz8_0, hcz8_1, hcz8_2, hcz8_3, hfz8_0, hfz8_1, hfz8_2, hfz8_3⟩ := box4_ BK219.out) | ((with_reducible refine gate_callee (f := 41) rfl ?_); refine goesL_ (some 8) rfl rfl Try.func41 (by kernel_rfl) rfl #[.slice A0_3 l0_3.length c0_3, .int .i64 a1] rfl ar_ ?_; (with_reducible refine (laws_heldIntS.calls k _ _ l0_3 a1 t220 _ ?side1 ?side2 A3.out).mono ?_); (case side1 => exact cu_ HR0_3.out HB.out); (case side2 => exact HC0_3.out); rintro e w' ⟨rfl, ⟨nd, rfl⟩⟩; refine ⟨_, rfl, ?_⟩))
  go_ret
  exact ⟨by first | rfl | (simp [errW_none, errW_some] <;> rfl) | (simp [*, errW_none, errW_some] <;> rfl), be_ HB.out⟩

end Go.Proofs.Ytneeplpooamffaa.QFnExactQuantTensor
