/- The Go functions that the statement FnExactSameEvents reaches, as Lean functions, each with a proof that the call does what its function says; laid by a program of this session. No condition. -/
import Derived.Test.YtemnodpabflkoaaDoorQFnExactSameEventsx0
import Derived.Test.YtemnodpabflkoaaDoorQFnExactSameEventsx4
namespace Go.Proofs.YtemnodpabflkoaaDoor.QFnExactSameEvents
open Go.RowKit Go.Proofs.YtemnodpabflkoaaDoorW.PrintWords Go.Proofs.YtemnodpabflkoaaDoorW.PrintLast Go.Proofs.YtemnodpabflkoaaDoorW.PrintMore
attribute [local go_sem] max2_int min2_int max_two min_two max_three min_three max_four min_four   -- for this text's walks alone
set_option linter.unusedVariables false
set_option linter.unusedSimpArgs false

/-! ### impl_Shape_sides: function 39 -/
def impl_Shape_sides.f (a0_0 : Int) (a0_1 : Int) (a0_2 : Int) : Option (ByteArray) := (strconv_Itoa.f a0_0).bind fun t196 => (if t196.size + 1 ≤ 9223372036854775807 then ((strconv_Itoa.f a0_1).bind fun t197 => (if (t196 ++ (⟨#[120]⟩ : ByteArray)).size + t197.size ≤ 9223372036854775807 then (if ((t196 ++ (⟨#[120]⟩ : ByteArray)) ++ t197).size + 1 ≤ 9223372036854775807 then ((strconv_Itoa.f a0_2).bind fun t198 => (if (((t196 ++ (⟨#[120]⟩ : ByteArray)) ++ t197) ++ (⟨#[120]⟩ : ByteArray)).size + t198.size ≤ 9223372036854775807 then (some ((((t196 ++ (⟨#[120]⟩ : ByteArray)) ++ t197) ++ (⟨#[120]⟩ : ByteArray)) ++ t198)) else (none))) else (none)) else (none))) else (none))
def impl_Shape_sides.T1 : Bool × List (List Nat × List Nat) := (true, [([], []), ([0], [0]), ([1], [1]), ([2], [2]), ([], []), ([4], [4]), ([5, 2], [5]), ([3, 6], [3, 6]), ([7], [7]), ([], []), ([9], [9]), ([10, 6], [10]), ([8, 11], [8, 11]), ([12, 11, 0, 1, 2, 3, 4, 5, 6, 7, 8, 9, 10, 11, 12], [12])])
def impl_Shape_sides.B1 : List Nat := [0, 1, 3, 7, 0, 16, 55, 127, 255, 0, 512, 1655, 4095, 8191]
theorem impl_Shape_sides.tab1 : rtab .any (opsOf Tryd.f39 1) = impl_Shape_sides.T1 := by kernel_rfl
theorem impl_Shape_sides.bits1 : waitsOk impl_Shape_sides.T1.2 impl_Shape_sides.B1 = true := by kernel_rfl
set_option maxHeartbeats 8000000 in
set_option maxRecDepth 100000 in
theorem impl_Shape_sides.calls (a0_0 : Int) (a0_1 : Int) (a0_2 : Int) (r : ByteArray) (w : World) (h : impl_Shape_sides.f a0_0 a0_1 a0_2 = some r) (tb_ : Tab w := by exact Tab.on HTab_.out (by repeat (first | exact HB.out | apply below_alloc | apply pw_below_drewN | apply below_drew1 | (refine below_cell_ ?_ (by apply Aside0.out; assumption))))) :
  Calls Tryd.prog 39 #[.agg #[.int .i64 a0_0, .int .i64 a0_1, .int .i64 a0_2]] w fun e w' => e = .returned (.string r) ∧ Below w.heap.size w w' := by
 have HTab_ := Aside0.mk tb_
 clear tb_
 have hu31 := Tryd.underlying31
 have HB := Aside0.mk (Below.refl w.heap.size w)
 have H : ((strconv_Itoa.f a0_0).bind fun t196 => (if t196.size + 1 ≤ 9223372036854775807 then ((strconv_Itoa.f a0_1).bind fun t197 => (if (t196 ++ (⟨#[120]⟩ : ByteArray)).size + t197.size ≤ 9223372036854775807 then (if ((t196 ++ (⟨#[120]⟩ : ByteArray)) ++ t197).size + 1 ≤ 9223372036854775807 then ((strconv_Itoa.f a0_2).bind fun t198 => (if (((t196 ++ (⟨#[120]⟩ : ByteArray)) ++ t197) ++ (⟨#[120]⟩ : ByteArray)).size + t198.size ≤ 9223372036854775807 then (some ((((t196 ++ (⟨#[120]⟩ : ByteArray)) ++ t197) ++ (⟨#[120]⟩ : ByteArray)) ++ t198)) else (none))) else (none)) else (none))) else (none))) = some r := h
 clear h
 replace H := Option.bind_eq_some_iff.mp H
 obtain ⟨t196, A20, H⟩ := H
 replace H : (if t196.size + 1 ≤ 9223372036854775807 then ((strconv_Itoa.f a0_1).bind fun t197 => (if (t196 ++ (⟨#[120]⟩ : ByteArray)).size + t197.size ≤ 9223372036854775807 then (if ((t196 ++ (⟨#[120]⟩ : ByteArray)) ++ t197).size + 1 ≤ 9223372036854775807 then ((strconv_Itoa.f a0_2).bind fun t198 => (if (((t196 ++ (⟨#[120]⟩ : ByteArray)) ++ t197) ++ (⟨#[120]⟩ : ByteArray)).size + t198.size ≤ 9223372036854775807 then (some ((((t196 ++ (⟨#[120]⟩ : ByteArray)) ++ t197) ++ (⟨#[120]⟩ : ByteArray)) ++ t198)) else (none))) else (none)) else (none))) else (none)) = some r := H
 have A2 := Aside0.mk A20
 clear A20
 by_cases c3 : t196.size + 1 ≤ 9223372036854775807
 ·
  rw [if_pos c3] at H
  have c3b0 := eq_true c3
  have c3b1 : decide (t196.size + 1 ≤ 9223372036854775807) = true := decide_eq_true c3
  try have c3b2 : (9223372036854775807 < t196.size + 1) = False := eq_false (Nat.not_lt.2 c3)
  replace H := Option.bind_eq_some_iff.mp H
  obtain ⟨t197, A40, H⟩ := H
  replace H : (if (t196 ++ (⟨#[120]⟩ : ByteArray)).size + t197.size ≤ 9223372036854775807 then (if ((t196 ++ (⟨#[120]⟩ : ByteArray)) ++ t197).size + 1 ≤ 9223372036854775807 then ((strconv_Itoa.f a0_2).bind fun t198 => (if (((t196 ++ (⟨#[120]⟩ : ByteArray)) ++ t197) ++ (⟨#[120]⟩ : ByteArray)).size + t198.size ≤ 9223372036854775807 then (some ((((t196 ++ (⟨#[120]⟩ : ByteArray)) ++ t197) ++ (⟨#[120]⟩ : ByteArray)) ++ t198)) else (none))) else (none)) else (none)) = some r := H
  have A4 := Aside0.mk A40
  clear A40
  by_cases c5 : (t196 ++ (⟨#[120]⟩ : ByteArray)).size + t197.size ≤ 9223372036854775807
  ·
   rw [if_pos c5] at H
   have c5b0 := eq_true c5
   have c5b1 : decide ((t196 ++ (⟨#[120]⟩ : ByteArray)).size + t197.size ≤ 9223372036854775807) = true := decide_eq_true c5
   try have c5b2 : (9223372036854775807 < (t196 ++ (⟨#[120]⟩ : ByteArray)).size + t197.size) = False := eq_false (Nat.not_lt.2 c5)
   try have c5b3 : (9223372036854775807 < t196.size + 1 + t197.size) = False := by have e_ : t196.size + 1 + t197.size = (t196 ++ (⟨#[120]⟩ : ByteArray)).size + t197.size := (by simp only [ByteArray.size_append] <;> rfl); rw [e_]; exact c5b2
   by_cases c6 : ((t196 ++ (⟨#[120]⟩ : ByteArray)) ++ t197).size + 1 ≤ 9223372036854775807
   ·
    rw [if_pos c6] at H
    have c6b0 := eq_true c6
    have c6b1 : decide (((t196 ++ (⟨#[120]⟩ : ByteArray)) ++ t197).size + 1 ≤ 9223372036854775807) = true := decide_eq_true c6
    try have c6b2 : (9223372036854775807 < ((t196 ++ (⟨#[120]⟩ : ByteArray)) ++ t197).size + 1) = False := eq_false (Nat.not_lt.2 c6)
    try have c6b3 : (9223372036854775807 < t196.size + 1 + t197.size + 1) = False := by have e_ : t196.size + 1 + t197.size + 1 = ((t196 ++ (⟨#[120]⟩ : ByteArray)) ++ t197).size + 1 := (by simp only [ByteArray.size_append] <;> rfl); rw [e_]; exact c6b2
    replace H := Option.bind_eq_some_iff.mp H
    obtain ⟨t198, A70, H⟩ := H
    replace H : (if (((t196 ++ (⟨#[120]⟩ : ByteArray)) ++ t197) ++ (⟨#[120]⟩ : ByteArray)).size + t198.size ≤ 9223372036854775807 then (some ((((t196 ++ (⟨#[120]⟩ : ByteArray)) ++ t197) ++ (⟨#[120]⟩ : ByteArray)) ++ t198)) else (none)) = some r := H
    have A7 := Aside0.mk A70
    clear A70
    by_cases c8 : (((t196 ++ (⟨#[120]⟩ : ByteArray)) ++ t197) ++ (⟨#[120]⟩ : ByteArray)).size + t198.size ≤ 9223372036854775807
    ·
     rw [if_pos c8] at H
     have c8b0 := eq_true c8
     have c8b1 : decide ((((t196 ++ (⟨#[120]⟩ : ByteArray)) ++ t197) ++ (⟨#[120]⟩ : ByteArray)).size + t198.size ≤ 9223372036854775807) = true := decide_eq_true c8
     try have c8b2 : (9223372036854775807 < (((t196 ++ (⟨#[120]⟩ : ByteArray)) ++ t197) ++ (⟨#[120]⟩ : ByteArray)).size + t198.size) = False := eq_false (Nat.not_lt.2 c8)
     try have c8b3 : (9223372036854775807 < t196.size + 1 + t197.size + 1 + t198.size) = False := by have e_ : t196.size + 1 + t197.size + 1 + t198.size = (((t196 ++ (⟨#[120]⟩ : ByteArray)) ++ t197) ++ (⟨#[120]⟩ : ByteArray)).size + t198.size := (by simp only [ByteArray.size_append] <;> rfl); rw [e_]; exact c8b2
     obtain rfl := Option.some.inj H
     go_enter Tryd.func39, Tryd.ntmps39
     try go_wp2_with (first | ((with_reducible refine gate_dst (N := 1) rfl ?_); refine box_event ?hg (N := 1) ?hd (cs := #[.int .i64 a0_0, .int .i64 a0_1, .int .i64 a0_2]) (t := 31) ?hr ?_; (case hd => rfl); (case hg => rfl); (case hr => first | (go_simp; done) | (go_simp; rfl)); intro gb195 hg w9 hbox hb; have n0_ := Aside0.mk (below_step (by repeat (first | (with_reducible first | exact HB.out | apply below_alloc | apply pw_below_drewN | apply below_drew1) | exact HB.out)) hb); have n1_ := Aside0.mk (hbox); have n2_ := Aside0.mk ((by rw [hg]; exact (below_size (by repeat (first | (with_reducible first | exact HB.out | apply below_alloc | apply pw_below_drewN | apply below_drew1) | exact HB.out))) : w.heap.size ≤ gb195)); have n3_ := Aside0.mk ((by rw [hg]; exact (below_size (by repeat (first | (with_reducible first | exact HB.out | apply below_alloc | apply pw_below_drewN | apply below_drew1) | exact HB.out))) : w.heap.size ≤ gb195)); clear HB; have HB := n0_; have BK195 := n1_; have GW195 := n2_; have GE195 := n3_; clear n0_ n1_ n2_ n3_; clear hb hbox hg))
     have n0_ := Aside0.mk (blk_drew BK195.out)
     have n1_ := Aside0.mk (below_drew1 HB.out)
     clear BK195
     clear HB
     have BK195 := n0_
     have HB := n1_
     clear n0_ n1_
     refine start_ (n := 14) (S := fun w' => w'.cell? ⟨gb195, 0, none⟩ = some (.int .i64 a0_0) ∧ w'.cell? ⟨gb195, 1, none⟩ = some (.int .i64 a0_1) ∧ w'.cell? ⟨gb195, 2, none⟩ = some (.int .i64 a0_2)) (ds := []) #[false, false, false, false, false, false, false, false, false, false, false, false, false, false] (by kernel_rfl) rfl rfl ⟨(blk_cell BK195.out 0).trans rfl, (blk_cell BK195.out 1).trans rfl, (blk_cell BK195.out 2).trans rfl⟩ (fun hHeld => ?_); refine with_tabW impl_Shape_sides.tab1 impl_Shape_sides.bits1 (fun HT_ HW_ => ?_)
     generalize w9.drew = w10 at BK195 HB hHeld ⊢
     refine pure_ (i := 0) (N := some 3) (v := ?_) (a' := ?_) (bl_ 14 1) rfl rfl (any_of HT_.out (by kernel_rfl)) (fun _ _ _ h => h) (Or.inl ⟨by rfl, ?_⟩) ?_ ?_; rotate_left; (· intro w'; go_simp; with_reducible rfl); rotate_left; (· simp only [Act.put, List.setIfInBounds_toArray, List.set_cons_zero, List.set_cons_succ, i64_w, i32_w]; rfl)
     refine pure_ (i := 4) (N := some 7) (v := ?_) (a' := ?_) (bl_ 14 17) rfl rfl (any_of HT_.out (by kernel_rfl)) (fun _ _ _ h => h) (Or.inl ⟨by rfl, ?_⟩) ?_ ?_; rotate_left; (· intro w'; go_simp; with_reducible rfl); rotate_left; (· simp only [Act.put, List.setIfInBounds_toArray, List.set_cons_zero, List.set_cons_succ, i64_w, i32_w]; rfl)
     refine pure_ (i := 9) (N := some 12) (v := ?_) (a' := ?_) (bl_ 14 529) rfl rfl (any_of HT_.out (by kernel_rfl)) (fun _ _ _ h => h) (Or.inl ⟨by rfl, ?_⟩) ?_ ?_; rotate_left; (· intro w'; go_simp; with_reducible rfl); rotate_left; (· simp only [Act.put, List.setIfInBounds_toArray, List.set_cons_zero, List.set_cons_succ, i64_w, i32_w]; rfl)
     refine take_ (i := 1) (N := some 4) (v := ?_) (a' := ?_) (bl_ 14 531) rfl rfl (take_ofW HT_.out HW_.out (by kernel_rfl)) (fun _ _ _ h => h) (Or.inl ⟨by rfl, ?_⟩) hHeld ?_ ?_; rotate_left; (· rintro w' ⟨s0, s1, s2⟩; go_simp; with_reducible rfl); rotate_left; (· simp only [Act.put, List.setIfInBounds_toArray, List.set_cons_zero, List.set_cons_succ, i64_w, i32_w]; rfl)
     refine take_ (i := 5) (N := some 8) (v := ?_) (a' := ?_) (bl_ 14 563) rfl rfl (take_ofW HT_.out HW_.out (by kernel_rfl)) (fun _ _ _ h => h) (Or.inl ⟨by rfl, ?_⟩) hHeld ?_ ?_; rotate_left; (· rintro w' ⟨s0, s1, s2⟩; go_simp; with_reducible rfl); rotate_left; (· simp only [Act.put, List.setIfInBounds_toArray, List.set_cons_zero, List.set_cons_succ, i64_w, i32_w]; rfl)
     refine take_ (i := 10) (N := some 13) (v := ?_) (a' := ?_) (bl_ 14 1587) rfl rfl (take_ofW HT_.out HW_.out (by kernel_rfl)) (fun _ _ _ h => h) (Or.inl ⟨by rfl, ?_⟩) hHeld ?_ ?_; rotate_left; (· rintro w' ⟨s0, s1, s2⟩; go_simp; with_reducible rfl); rotate_left; (· simp only [Act.put, List.setIfInBounds_toArray, List.set_cons_zero, List.set_cons_succ, i64_w, i32_w]; rfl)
     refine one_ (i := 2) (N := some 5) (bl_ 14 1591) rfl rfl (one_of HT_.out (by kernel_rfl)) (by decide) (fun K hK => ?_)
     refine goes_ Tryd.func25 (by kernel_rfl) rfl #[.int .i64 a0_0] (by rfl) rfl rfl (by (try simp only [List.map_toArray, List.map_cons, List.map_nil]); first | done | rfl | (simp only [List.length_drop, List.length_take]; rfl)) ?_
     with_reducible refine (strconv_Itoa.calls a0_0 t196 _ A2.out).mono ?_
     rintro e w11 ⟨rfl, hb⟩
     refine ⟨_, rfl, ?_⟩
     have n0_ := Aside0.mk (blk_below (g := gb195) (o := .cells #[.int .i64 a0_0, .int .i64 a0_1, .int .i64 a0_2] 31 (0, 0)) (by (with_reducible repeat (first | refine blk_drewN ?_ _ | refine blk_drew ?_ | refine blk_alloc ?_ _)); exact BK195.out) hb)
     have n1_ := Aside0.mk (below_step (by repeat (first | (with_reducible first | exact HB.out | apply below_alloc | apply pw_below_drewN | apply below_drew1 | refine below_set ?_ GE195.out) | exact HB.out)) hb)
     clear BK195
     clear HB
     have BK195 := n0_
     have HB := n1_
     clear n0_ n1_
     (try clear hb)
     (try clear hb2)
     (try clear hk)
     (try clear hi)
     refine hK.out _ _ ⟨(blk_cell BK195.out 0).trans rfl, (blk_cell BK195.out 1).trans rfl, (blk_cell BK195.out 2).trans rfl⟩ (fun hHeld => ?_)
     clear hK K
     refine norm_ (a' := ?_) ?_ ?_; rotate_left; (· show Act.put _ (some 5) _ = _; simp only [Act.put, List.setIfInBounds_toArray, List.set_cons_zero, List.set_cons_succ, i64_w, i32_w]; rfl)
     refine pure_ (i := 3) (N := some 6) (v := ?_) (a' := ?_) (bl_ 14 1599) rfl rfl (any_of HT_.out (by kernel_rfl)) (fun _ _ _ h => h) (Or.inl ⟨by rfl, ?_⟩) ?_ ?_; rotate_left; (· intro w'; go_simp; with_reducible rfl); rotate_left; (· simp only [Act.put, List.setIfInBounds_toArray, List.set_cons_zero, List.set_cons_succ, i64_w, i32_w]; rfl)
     refine one_ (i := 6) (N := some 9) (bl_ 14 1663) rfl rfl (one_of HT_.out (by kernel_rfl)) (by decide) (fun K hK => ?_)
     refine goes_ Tryd.func25 (by kernel_rfl) rfl #[.int .i64 a0_1] (by rfl) rfl rfl (by (try simp only [List.map_toArray, List.map_cons, List.map_nil]); first | done | rfl | (simp only [List.length_drop, List.length_take]; rfl)) ?_
     with_reducible refine (strconv_Itoa.calls a0_1 t197 _ A4.out).mono ?_
     rintro e w12 ⟨rfl, hb⟩
     refine ⟨_, rfl, ?_⟩
     have n0_ := Aside0.mk (blk_below (g := gb195) (o := .cells #[.int .i64 a0_0, .int .i64 a0_1, .int .i64 a0_2] 31 (0, 0)) (by (with_reducible repeat (first | refine blk_drewN ?_ _ | refine blk_drew ?_ | refine blk_alloc ?_ _)); exact BK195.out) hb)
     have n1_ := Aside0.mk (below_step (by repeat (first | (with_reducible first | exact HB.out | apply below_alloc | apply pw_below_drewN | apply below_drew1 | refine below_set ?_ GE195.out) | exact HB.out)) hb)
     clear BK195
     clear HB
     have BK195 := n0_
     have HB := n1_
     clear n0_ n1_
     (try clear hb)
     (try clear hb2)
     (try clear hk)
     (try clear hi)
     refine hK.out _ _ ⟨(blk_cell BK195.out 0).trans rfl, (blk_cell BK195.out 1).trans rfl, (blk_cell BK195.out 2).trans rfl⟩ (fun hHeld => ?_)
     clear hK K
     refine norm_ (a' := ?_) ?_ ?_; rotate_left; (· show Act.put _ (some 9) _ = _; simp only [Act.put, List.setIfInBounds_toArray, List.set_cons_zero, List.set_cons_succ, i64_w, i32_w]; rfl)
     refine pure_ (i := 7) (N := some 10) (v := ?_) (a' := ?_) (bl_ 14 1791) rfl rfl (any_of HT_.out (by kernel_rfl)) (fun _ _ _ h => h) (Or.inl ⟨by rfl, ?_⟩) ?_ ?_; rotate_left; (· intro w'; go_simp; with_reducible rfl); rotate_left; (· simp only [Act.put, List.setIfInBounds_toArray, List.set_cons_zero, List.set_cons_succ, i64_w, i32_w]; rfl)
     refine pure_ (i := 8) (N := some 11) (v := ?_) (a' := ?_) (bl_ 14 2047) rfl rfl (any_of HT_.out (by kernel_rfl)) (fun _ _ _ h => h) (Or.inl ⟨by rfl, ?_⟩) ?_ ?_; rotate_left; (· intro w'; go_simp; with_reducible rfl); rotate_left; (· simp only [Act.put, List.setIfInBounds_toArray, List.set_cons_zero, List.set_cons_succ, i64_w, i32_w]; rfl)
     refine one_ (i := 11) (N := some 14) (bl_ 14 4095) rfl rfl (one_of HT_.out (by kernel_rfl)) (by decide) (fun K hK => ?_)
     refine goes_ Tryd.func25 (by kernel_rfl) rfl #[.int .i64 a0_2] (by rfl) rfl rfl (by (try simp only [List.map_toArray, List.map_cons, List.map_nil]); first | done | rfl | (simp only [List.length_drop, List.length_take]; rfl)) ?_
     with_reducible refine (strconv_Itoa.calls a0_2 t198 _ A7.out).mono ?_
     rintro e w13 ⟨rfl, hb⟩
     refine ⟨_, rfl, ?_⟩
     have n0_ := Aside0.mk (blk_below (g := gb195) (o := .cells #[.int .i64 a0_0, .int .i64 a0_1, .int .i64 a0_2] 31 (0, 0)) (by (with_reducible repeat (first | refine blk_drewN ?_ _ | refine blk_drew ?_ | refine blk_alloc ?_ _)); exact BK195.out) hb)
     have n1_ := Aside0.mk (below_step (by repeat (first | (with_reducible first | exact HB.out | apply below_alloc | apply pw_below_drewN | apply below_drew1 | refine below_set ?_ GE195.out) | exact HB.out)) hb)
     clear BK195
     clear HB
     have BK195 := n0_
     have HB := n1_
     clear n0_ n1_
     (try clear hb)
     (try clear hb2)
     (try clear hk)
     (try clear hi)
     refine hK.out _ _ ⟨(blk_cell BK195.out 0).trans rfl, (blk_cell BK195.out 1).trans rfl, (blk_cell BK195.out 2).trans rfl⟩ (fun hHeld => ?_)
     clear hK K
     refine norm_ (a' := ?_) ?_ ?_; rotate_left; (· show Act.put _ (some 14) _ = _; simp only [Act.put, List.setIfInBounds_toArray, List.set_cons_zero, List.set_cons_succ, i64_w, i32_w]; rfl)
     refine pure_ (i := 12) (N := some 15) (v := ?_) (a' := ?_) (bl_ 14 8191) rfl rfl (any_of HT_.out (by kernel_rfl)) (fun _ _ _ h => h) (Or.inl ⟨by rfl, ?_⟩) ?_ ?_; rotate_left; (· intro w'; go_simp; with_reducible rfl); rotate_left; (· simp only [Act.put, List.setIfInBounds_toArray, List.set_cons_zero, List.set_cons_succ, i64_w, i32_w]; rfl)
     refine pure_ (i := 13) (N := some 2) (v := ?_) (a' := ?_) (bl_ 14 16383) rfl rfl (any_of HT_.out (by kernel_rfl)) (fun _ _ _ h => h) (Or.inl ⟨by rfl, ?_⟩) ?_ ?_; rotate_left; (· intro w'; go_simp; with_reducible rfl); rotate_left; (· simp only [Act.put, List.setIfInBounds_toArray, List.set_cons_zero, List.set_cons_succ, i64_w, i32_w]; rfl)
     refine done_ (done_of HT_.out (by kernel_rfl)) ?_
     try go_wp2
     go_ret
     exact ⟨by first | rfl | (simp [errW_none, errW_some] <;> rfl) | (simp [*, errW_none, errW_some] <;> rfl), by repeat (first | (with_reducible first | exact HB.out | apply below_alloc | apply pw_below_drewN | apply below_drew1 | refine below_set ?_ GE195.out) | exact HB.out)⟩
    ·
     rw [if_neg c8] at H
     exact absurd H (by simp)
   ·
    rw [if_neg c6] at H
    exact absurd H (by simp)
  ·
   rw [if_neg c5] at H
   exact absurd H (by simp)
 ·
  rw [if_neg c3] at H
  exact absurd H (by simp)

/-! ### impl_spaced: function 40, by hand -/
theorem mem_getD_ (l : List Int) (i : Nat) (h : i < l.length) : l.getD i 0 ∈ l := by
  rw [List.getD_eq_getElem?_getD, List.getElem?_eq_getElem h]
  exact List.getElem_mem h
theorem built_later {T e : TypeId} {B b : Nat} {p : Value} {bs : List Value} {w w' : World} (h : Go.Lib.BuilderAt T e B b p bs w) (hb : Below w.heap.size w w') : Go.Lib.BuilderAt T e B b p bs w' := by
  have hlt := h.lt
  obtain ⟨hB, v, hk, ho, hne⟩ := h
  exact ⟨hB, v, (hb.block b hlt).trans hk, own_move ho (fun k hk => hb.block k (own_lt ho k hk)), hne⟩
theorem is_later {T e : TypeId} {B b : Nat} {bs : List Value} {w w' : World} (h : Go.Lib.IsBuilder T e B b bs w) (hb : Below w.heap.size w w') : Go.Lib.IsBuilder T e B b bs w' := h.imp (fun h => built_later h hb) (fun h => built_later h hb)
/-- The numbers' texts, each behind a space. -/
def spacedB (l : List Int) : List UInt8 := (l.map fun x => 32 :: Go.Lib.itoa x).flatten
theorem spaced_next (l : List Int) (k : Nat) (h : k < l.length) : spacedB (l.take (k + 1)) = spacedB (l.take k) ++ (32 :: Go.Lib.itoa (l.getD k 0)) := by
  have e : l.take (k + 1) = l.take k ++ [l.getD k 0] := by rw [List.take_add_one, List.getElem?_eq_getElem h, List.getD_eq_getElem?_getD, List.getElem?_eq_getElem h]; rfl
  rw [e]
  simp only [spacedB, List.map_append, List.flatten_append, List.map_cons, List.map_nil, List.flatten_cons, List.flatten_nil, List.append_nil]
theorem spaced_len : ∀ (l : List Int), (∀ x ∈ l, -9223372036854775808 ≤ x ∧ x ≤ 9223372036854775807) → (spacedB l).length ≤ 22 * l.length
  | [], _ => by simp [spacedB]
  | x :: r, h => by
    have h1 := Go.Lib.itoa_length_le x (h x (by simp)).1 (h x (by simp)).2
    have h2 := spaced_len r (fun y hy => h y (by simp [hy]))
    have e : spacedB (x :: r) = 32 :: Go.Lib.itoa x ++ spacedB r := by simp [spacedB]
    rw [e]
    simp only [List.length_append, List.length_cons]
    omega
theorem spaced_cells (l : List Int) (x : Int) : Go.Lib.byteCells (spacedB l) ++ Go.Lib.strCells ((⟨#[32]⟩ : ByteArray) ++ itoaS x) = Go.Lib.byteCells (spacedB l ++ (32 :: Go.Lib.itoa x)) := by
  rw [Go.Lib.strCells_eq, Go.Lib.byteCells_append]
  congr 2
set_option maxHeartbeats 8000000 in
set_option maxRecDepth 100000 in
theorem spaced_walk (l : List Int) (A0 : Option Addr) (c : Nat) (w : World) (hl : l.length ≤ 1000000) (hx : ∀ x ∈ l, -9223372036854775808 ≤ x ∧ x ≤ 9223372036854775807) (hr : Kd.C (Kd.int .i64) w A0 l.length l) (ht : Tab w) :
    Calls Tryd.prog 40 #[.slice A0 l.length c] w fun e w' => e = .returned (.string ⟨(spacedB l).toArray⟩) ∧ Below w.heap.size w w' := by
  have hat : ∀ W, Below w.heap.size w W → ∀ i : Nat, i < l.length → ∃ ad, A0 = some ad ∧ W.cell? (ad.add i) = some (.int .i64 (l.getD i 0)) := by
    intro W hW i hi
    obtain ⟨ad, cs, e, _, hK, hcc⟩ := Kd.C_get (Kd.C_below hr hW) (0 : Int) (i : Int) (by omega) (by omega)
    obtain rfl : cs = [.int .i64 (l.getD i 0)] := hK
    have h := hcc 0 _ rfl
    rw [show (Kd.int .i64).sz = 1 from rfl, Nat.mul_one, Nat.add_zero] at h
    exact ⟨ad, e, h⟩
  have hit : ∀ W, Below w.heap.size w W → ∀ i : Nat, i < l.length → Calls Tryd.prog 25 #[.int .i64 (l.getD i 0)] W fun e w' => e = .returned (.string (itoaS (l.getD i 0))) ∧ Below W.heap.size W w' :=
    fun W hW i hi => itoa_walk _ (hx _ (mem_getD_ l i hi)).1 (hx _ (mem_getD_ l i hi)).2 W (ht.on hW)
  have hsz : ∀ i : Nat, i < l.length → (itoaS (l.getD i 0)).size ≤ 21 := fun i hi => by
    have := Go.Lib.itoa_length_le _ (hx _ (mem_getD_ l i hi)).1 (hx _ (mem_getD_ l i hi)).2
    simpa [itoaS, ByteArray.size] using this
  have hlen : ∀ i : Nat, (spacedB (l.take i)).length ≤ 22 * l.length := fun i => by
    have h1 := spaced_len (l.take i) (fun x hm => hx x (List.mem_of_mem_take hm))
    have h2 : (l.take i).length ≤ l.length := by rw [List.length_take]; omega
    omega
  have Hws : Aside0 (∀ (bs : List Value) (s : ByteArray) (W : World), Go.Lib.IsBuilder 96 5 w.heap.size w.heap.size bs W → bs.length + s.size ≤ 140737488355328 → w.heap.size ≤ W.heap.size → Calls Tryd.prog 61 #[.pointer (some ⟨w.heap.size, 0, none⟩), .string s] W fun e w' => e = .returned (.tuple #[.int .i64 s.size, .nilIface]) ∧ (Go.Lib.BuilderAt 96 5 w.heap.size w.heap.size (.pointer (some ⟨w.heap.size, 0, none⟩)) (bs ++ Go.Lib.strCells s) w' ∧ Below w.heap.size W w')) :=
    ⟨fun bs s W h1 h2 h3 => Tryd.Builder_WriteString _ _ bs s W h1 h2 h3⟩
  clear hr hx ht
  go_enter Tryd.func40, Tryd.ntmps40
  go_wp2
  go_loopg [5, 10] l.length (fun gg _ s10 wr => ∃ kk : Nat, kk ≤ l.length ∧ l.length - kk ≤ gg ∧ s10 = .int .i64 kk ∧ Aside0 (Below w.heap.size w wr) ∧ Aside0 (Go.Lib.IsBuilder 96 5 w.heap.size w.heap.size (Go.Lib.byteCells (spacedB (l.take kk))) wr))
  case atStart => exact ⟨0, Nat.zero_le _, by omega, rfl, ⟨(Below.refl _ w).alloc (Nat.le_refl _) _⟩, ⟨Go.Lib.fresh_isBuilder 96 5 w⟩⟩
  case round =>
    obtain ⟨kk, hkk, hg, rfl, BW, IB⟩ := hrel
    by_cases hlt : kk < l.length
    · have hltz : (kk : Int) < (l.length : Int) := by omega
      obtain ⟨ad, rfl, h0⟩ := hat wr BW.out kk hlt
      have HC := Aside0.mk (hit wr BW.out kk hlt)
      have hs := hsz kk hlt
      have H1 := Aside0.mk (hlen kk)
      have H2 := Aside0.mk (spaced_cells (l.take kk) (l.getD kk 0))
      have H3 := Aside0.mk (spaced_next l kk hlt)
      have H4 : Aside0 ((Go.Lib.byteCells (spacedB (l.take kk))).length + ((⟨#[32]⟩ : ByteArray) ++ itoaS (l.getD kk 0)).size ≤ 140737488355328) := ⟨by
        rw [Go.Lib.byteCells_length, ByteArray.size_append]
        have h1 := H1.out
        have h2 : (⟨#[32]⟩ : ByteArray).size = 1 := rfl
        omega⟩
      clear hat hit hsz hlen
      generalize l.getD kk 0 = y at h0 HC hs H2 H3 H4
      go_wp2_with (first
        | (go_at_call 25; refine HC.out.mono ?_; rintro e w1 ⟨rfl, hb1⟩; have IB1 := Aside0.mk (is_later IB.out hb1); have BW1 := Aside0.mk (BW.out.trans (hb1.mono BW.out.size)); clear hb1)
        | (go_at_call 61; refine (Hws.out _ _ _ IB1.out H4.out BW1.out.size).mono ?_; rintro e w2 ⟨rfl, hbld, hb2⟩; have IB2 := Aside0.mk hbld; have BW2 := Aside0.mk (BW1.out.trans hb2); clear hbld hb2))
      go_roundg (l.length - (kk + 1))
      case measure => omega
      case rel => exact ⟨kk + 1, by omega, by omega, by go_num, BW2, ⟨by rw [H3.out, ← H2.out]; exact .inr IB2.out⟩⟩
    · have hltz : ¬ (kk : Int) < (l.length : Int) := by omega
      have : kk = l.length := by omega
      subst this
      clear hat hit hsz hlen
      have IB3 : Aside0 (Go.Lib.IsBuilder 96 5 w.heap.size w.heap.size (Go.Lib.byteCells (spacedB l)) wr) := ⟨by have h := IB.out; rwa [List.take_length] at h⟩
      have Hst := Aside0.mk (Tryd.Builder_String_any _ _ (spacedB l) wr IB3.out BW.out.size)
      go_wp2_with (go_at_call 62; refine Hst.out.mono ?_; rintro e w1 ⟨rfl, hb1⟩; have BW1 := Aside0.mk (BW.out.trans hb1); clear hb1)
      go_ret
      exact ⟨rfl, BW1.out⟩
def impl_spaced.f (l0 : List Int) : Option (ByteArray) := if (decide (l0.length ≤ 1000000) && l0.all (fun x => decide (-9223372036854775808 ≤ x) && decide (x ≤ 9223372036854775807))) = true then some ⟨(spacedB l0).toArray⟩ else none
theorem impl_spaced.calls (A0 : Option Addr) (c0 : Nat) (l0 : List Int) (r : ByteArray) (w : World) (hr0 : Kd.C (Kd.int .i64) w A0 l0.length l0) (hc0 : l0.length ≤ c0) (h : impl_spaced.f l0 = some r) (tb_ : Tab w := by exact Tab.on HTab_.out (by repeat (first | exact HB.out | apply below_alloc | apply pw_below_drewN | apply below_drew1 | (refine below_cell_ ?_ (by apply Aside0.out; assumption))))) :
    Calls Tryd.prog 40 #[.slice A0 l0.length c0] w fun e w' => e = .returned (.string r) ∧ Below w.heap.size w w' := by
  unfold impl_spaced.f at h
  by_cases c : (decide (l0.length ≤ 1000000) && l0.all (fun x => decide (-9223372036854775808 ≤ x) && decide (x ≤ 9223372036854775807))) = true
  · rw [if_pos c] at h
    obtain rfl := Option.some.inj h
    simp only [Bool.and_eq_true, decide_eq_true_eq, List.all_eq_true] at c
    exact spaced_walk l0 A0 c0 w c.1 c.2 hr0 tb_
  · rw [if_neg c] at h; exact absurd h (by simp)


/-! ### impl_TensorText: function 26 -/
def impl_TensorText.f (k : Nat) (a0_0 : Int) (a0_1 : Int) (a0_2 : Int) (l0_3 : List Int) : Option (ByteArray) := (impl_TensorOk.f k a0_0 a0_1 a0_2 l0_3).bind fun t200 => (if t200 = true then ((impl_Shape_sides.f a0_0 a0_1 a0_2).bind fun t201 => (if t201.size + 1 ≤ 9223372036854775807 then ((impl_spaced.f l0_3).bind fun t202 => (if (t201 ++ (⟨#[58]⟩ : ByteArray)).size + t202.size ≤ 9223372036854775807 then (some ((t201 ++ (⟨#[58]⟩ : ByteArray)) ++ t202)) else (none))) else (none))) else (some (⟨#[]⟩ : ByteArray)))
theorem impl_TensorText.mono : ∀ a0 a1 a2 a3 k, LeO (impl_TensorText.f k a0 a1 a2 a3) (impl_TensorText.f (k + 1) a0 a1 a2 a3) := by
 intro a0 a1 a2 a3 k
 unfold impl_TensorText.f
 repeat' first
   | (with_reducible exact impl_TensorOk.mono _ _ _ _ _)
   | (with_reducible exact LeO.refl _)
   | (with_reducible exact LeO.none _)
   | (with_reducible refine LeO.ite ?_ ?_)
   | (with_reducible refine LeO.bind ?_ (fun _ => ?_))
   | exact impl_TensorOk.mono _ _ _ _ _
   | exact LeO.none _
   | refine LeO.ite ?_ ?_
   | refine LeO.bind ?_ (fun _ => ?_)
def impl_TensorText.T3 : Bool × List (List Nat × List Nat) := (true, [([], []), ([0], [0]), ([1], [1]), ([2], [2]), ([], []), ([4], [4]), ([5, 2], [5]), ([3, 6], [3, 6]), ([7, 6, 0, 1, 2, 3, 4, 5, 6, 7], [7])])
def impl_TensorText.B3 : List Nat := [0, 1, 3, 7, 0, 16, 55, 127, 255]
theorem impl_TensorText.tab3 : rtab .any (opsOf Tryd.f26 3) = impl_TensorText.T3 := by kernel_rfl
theorem impl_TensorText.bits3 : waitsOk impl_TensorText.T3.2 impl_TensorText.B3 = true := by kernel_rfl
set_option maxHeartbeats 8000000 in
set_option maxRecDepth 100000 in
theorem impl_TensorText.calls (k : Nat) (a0_0 : Int) (a0_1 : Int) (a0_2 : Int) (A0_3 : Option Addr) (c0_3 : Nat) (l0_3 : List Int) (r : ByteArray) (w : World) (hr0_3 : Kd.C (Kd.int .i64) w A0_3 l0_3.length l0_3) (hc0_3 : l0_3.length ≤ c0_3) (h : impl_TensorText.f k a0_0 a0_1 a0_2 l0_3 = some r) (tb_ : Tab w := by exact Tab.on HTab_.out (by repeat (first | exact HB.out | apply below_alloc | apply pw_below_drewN | apply below_drew1 | (refine below_cell_ ?_ (by apply Aside0.out; assumption))))) :
  Calls Tryd.prog 26 #[.agg #[.int .i64 a0_0, .int .i64 a0_1, .int .i64 a0_2, .slice A0_3 l0_3.length c0_3]] w fun e w' => e = .returned (.string r) ∧ Below w.heap.size w w' := by
 have HTab_ := Aside0.mk tb_
 clear tb_
 have hu33 := Tryd.underlying33
 have hu31 := Tryd.underlying31
 have HR0_3 := Aside0.mk hr0_3
 have HC0_3 := Aside0.mk hc0_3
 clear hr0_3 hc0_3
 have HB := Aside0.mk (Below.refl w.heap.size w)
 have H : ((impl_TensorOk.f k a0_0 a0_1 a0_2 l0_3).bind fun t200 => (if t200 = true then ((impl_Shape_sides.f a0_0 a0_1 a0_2).bind fun t201 => (if t201.size + 1 ≤ 9223372036854775807 then ((impl_spaced.f l0_3).bind fun t202 => (if (t201 ++ (⟨#[58]⟩ : ByteArray)).size + t202.size ≤ 9223372036854775807 then (some ((t201 ++ (⟨#[58]⟩ : ByteArray)) ++ t202)) else (none))) else (none))) else (some (⟨#[]⟩ : ByteArray)))) = some r := h
 clear h
 replace H := Option.bind_eq_some_iff.mp H
 obtain ⟨t200, A20, H⟩ := H
 replace H : (if t200 = true then ((impl_Shape_sides.f a0_0 a0_1 a0_2).bind fun t201 => (if t201.size + 1 ≤ 9223372036854775807 then ((impl_spaced.f l0_3).bind fun t202 => (if (t201 ++ (⟨#[58]⟩ : ByteArray)).size + t202.size ≤ 9223372036854775807 then (some ((t201 ++ (⟨#[58]⟩ : ByteArray)) ++ t202)) else (none))) else (none))) else (some (⟨#[]⟩ : ByteArray))) = some r := H
 have A2 := Aside0.mk A20
 clear A20
 by_cases c3 : t200 = true
 ·
  subst c3
  have H1 : ((impl_Shape_sides.f a0_0 a0_1 a0_2).bind fun t201 => (if t201.size + 1 ≤ 9223372036854775807 then ((impl_spaced.f l0_3).bind fun t202 => (if (t201 ++ (⟨#[58]⟩ : ByteArray)).size + t202.size ≤ 9223372036854775807 then (some ((t201 ++ (⟨#[58]⟩ : ByteArray)) ++ t202)) else (none))) else (none))) = some r := by rw [if_pos rfl] at H; exact H
  clear H
  have H := H1
  clear H1
  replace H := Option.bind_eq_some_iff.mp H
  obtain ⟨t201, A40, H⟩ := H
  replace H : (if t201.size + 1 ≤ 9223372036854775807 then ((impl_spaced.f l0_3).bind fun t202 => (if (t201 ++ (⟨#[58]⟩ : ByteArray)).size + t202.size ≤ 9223372036854775807 then (some ((t201 ++ (⟨#[58]⟩ : ByteArray)) ++ t202)) else (none))) else (none)) = some r := H
  have A4 := Aside0.mk A40
  clear A40
  by_cases c5 : t201.size + 1 ≤ 9223372036854775807
  ·
   rw [if_pos c5] at H
   have c5b0 := eq_true c5
   have c5b1 : decide (t201.size + 1 ≤ 9223372036854775807) = true := decide_eq_true c5
   try have c5b2 : (9223372036854775807 < t201.size + 1) = False := eq_false (Nat.not_lt.2 c5)
   replace H := Option.bind_eq_some_iff.mp H
   obtain ⟨t202, A60, H⟩ := H
   replace H : (if (t201 ++ (⟨#[58]⟩ : ByteArray)).size + t202.size ≤ 9223372036854775807 then (some ((t201 ++ (⟨#[58]⟩ : ByteArray)) ++ t202)) else (none)) = some r := H
   have A6 := Aside0.mk A60
   clear A60
   by_cases c7 : (t201 ++ (⟨#[58]⟩ : ByteArray)).size + t202.size ≤ 9223372036854775807
   ·
    rw [if_pos c7] at H
    have c7b0 := eq_true c7
    have c7b1 : decide ((t201 ++ (⟨#[58]⟩ : ByteArray)).size + t202.size ≤ 9223372036854775807) = true := decide_eq_true c7
    try have c7b2 : (9223372036854775807 < (t201 ++ (⟨#[58]⟩ : ByteArray)).size + t202.size) = False := eq_false (Nat.not_lt.2 c7)
    try have c7b3 : (9223372036854775807 < t201.size + 1 + t202.size) = False := by have e_ : t201.size + 1 + t202.size = (t201 ++ (⟨#[58]⟩ : ByteArray)).size + t202.size := (by simp only [ByteArray.size_append] <;> rfl); rw [e_]; exact c7b2
    obtain rfl := Option.some.inj H
    go_enter Tryd.func26, Tryd.ntmps26
    try go_wp2_with (first | ((with_reducible refine gate_dst (N := 1) rfl ?_); refine box_event ?hg (N := 1) ?hd (cs := #[.int .i64 a0_0, .int .i64 a0_1, .int .i64 a0_2, .slice A0_3 l0_3.length c0_3]) (t := 33) ?hr ?_; (case hd => rfl); (case hg => rfl); (case hr => first | (go_simp; done) | (go_simp; rfl)); intro gb199 hg w8 hbox hb; have n0_ := Aside0.mk (below_step (by repeat (first | (with_reducible first | exact HB.out | apply below_alloc | apply pw_below_drewN | apply below_drew1) | exact HB.out)) hb); have n1_ := Aside0.mk (hbox); have n2_ := Aside0.mk ((by rw [hg]; exact (below_size (by repeat (first | (with_reducible first | exact HB.out | apply below_alloc | apply pw_below_drewN | apply below_drew1) | exact HB.out))) : w.heap.size ≤ gb199)); have n3_ := Aside0.mk ((by rw [hg]; exact (below_size (by repeat (first | (with_reducible first | exact HB.out | apply below_alloc | apply pw_below_drewN | apply below_drew1) | exact HB.out))) : w.heap.size ≤ gb199)); clear HB; have HB := n0_; have BK199 := n1_; have GW199 := n2_; have GE199 := n3_; clear n0_ n1_ n2_ n3_; clear hb hbox hg; obtain ⟨hcz9_0, hcz9_1, hcz9_2, hcz9_3, hfz9_0, hfz9_1, hfz9_2, hfz9_3⟩ := box4_ BK199.out) | ((with_reducible refine gate_callee (f := 38) rfl ?_); refine goesL_ (some 4) rfl rfl Tryd.func38 (by kernel_rfl) rfl #[.agg #[.int .i64 a0_0, .int .i64 a0_1, .int .i64 a0_2, .slice A0_3 l0_3.length c0_3]] rfl (by (try simp only [List.map_toArray, List.map_cons, List.map_nil]); first | done | rfl | (simp only [List.length_drop, List.length_take]; rfl)) ?_; (with_reducible refine (impl_TensorOk.calls k a0_0 a0_1 a0_2 _ _ l0_3 true _ ?side1 ?side2 A2.out).mono ?_); (case side1 => repeat (first | exact (Kd.C_below HR0_3.out HB.out) | (with_reducible refine Kd.C_alloc ?_ _) | (with_reducible refine Kd.C_drewN ?_ _) | (with_reducible refine Kd.C_drew ?_))); (case side2 => exact HC0_3.out); rintro e w10 ⟨rfl, hb⟩; refine ⟨_, rfl, ?_⟩; have n0_ := Aside0.mk (blk_below (g := gb199) (o := .cells #[.int .i64 a0_0, .int .i64 a0_1, .int .i64 a0_2, .slice A0_3 l0_3.length c0_3] 33 (0, 0)) (by (with_reducible repeat (first | refine blk_drewN ?_ _ | refine blk_drew ?_ | refine blk_alloc ?_ _)); exact BK199.out) hb); have n1_ := Aside0.mk (below_step (by repeat (first | (with_reducible first | exact HB.out | apply below_alloc | apply pw_below_drewN | apply below_drew1 | refine below_set ?_ GE199.out) | exact HB.out)) hb); clear BK199; clear HB; have BK199 := n0_; have HB := n1_; clear n0_ n1_; (try clear hb); (try clear hb2); (try clear hk); (try clear hi)))
    have n0_ := Aside0.mk (blk_drew BK199.out)
    have n1_ := Aside0.mk (below_drew1 HB.out)
    clear BK199
    clear HB
    have BK199 := n0_
    have HB := n1_
    clear n0_ n1_
    refine start_ (n := 9) (S := fun w' => w'.cell? ⟨gb199, 0, none⟩ = some (.int .i64 a0_0) ∧ w'.cell? ⟨gb199, 1, none⟩ = some (.int .i64 a0_1) ∧ w'.cell? ⟨gb199, 2, none⟩ = some (.int .i64 a0_2) ∧ w'.cell? ⟨gb199, 3, none⟩ = some (.slice A0_3 l0_3.length c0_3)) (ds := []) #[false, false, false, false, false, false, false, false, false] (by kernel_rfl) rfl rfl ⟨(blk_cell BK199.out 0).trans rfl, (blk_cell BK199.out 1).trans rfl, (blk_cell BK199.out 2).trans rfl, (blk_cell BK199.out 3).trans rfl⟩ (fun hHeld => ?_); refine with_tabW impl_TensorText.tab3 impl_TensorText.bits3 (fun HT_ HW_ => ?_)
    generalize w10.drew = w11 at BK199 HB hHeld ⊢
    refine pure_ (i := 0) (N := some 6) (v := ?_) (a' := ?_) (bl_ 9 1) rfl rfl (any_of HT_.out (by kernel_rfl)) (fun _ _ _ h => h) (Or.inl ⟨by rfl, ?_⟩) ?_ ?_; rotate_left; (· intro w'; go_simp; with_reducible rfl); rotate_left; (· simp only [Act.put, List.setIfInBounds_toArray, List.set_cons_zero, List.set_cons_succ, i64_w, i32_w]; rfl)
    refine pure_ (i := 4) (N := some 10) (v := ?_) (a' := ?_) (bl_ 9 17) rfl rfl (any_of HT_.out (by kernel_rfl)) (fun _ _ _ h => h) (Or.inl ⟨by rfl, ?_⟩) ?_ ?_; rotate_left; (· intro w'; go_simp; with_reducible rfl); rotate_left; (· simp only [Act.put, List.setIfInBounds_toArray, List.set_cons_zero, List.set_cons_succ, i64_w, i32_w]; rfl)
    refine take_ (i := 1) (N := some 7) (v := ?_) (a' := ?_) (bl_ 9 19) rfl rfl (take_ofW HT_.out HW_.out (by kernel_rfl)) (fun _ _ _ h => h) (Or.inl ⟨by rfl, ?_⟩) hHeld ?_ ?_; rotate_left; (· rintro w' ⟨s0, s1, s2, s3⟩; go_simp; with_reducible rfl); rotate_left; (· simp only [Act.put, List.setIfInBounds_toArray, List.set_cons_zero, List.set_cons_succ, i64_w, i32_w]; rfl)
    refine take_ (i := 5) (N := some 11) (v := ?_) (a' := ?_) (bl_ 9 51) rfl rfl (take_ofW HT_.out HW_.out (by kernel_rfl)) (fun _ _ _ h => h) (Or.inl ⟨by rfl, ?_⟩) hHeld ?_ ?_; rotate_left; (· rintro w' ⟨s0, s1, s2, s3⟩; go_simp; with_reducible rfl); rotate_left; (· simp only [Act.put, List.setIfInBounds_toArray, List.set_cons_zero, List.set_cons_succ, i64_w, i32_w]; rfl)
    refine one_ (i := 2) (N := some 8) (bl_ 9 55) rfl rfl (one_of HT_.out (by kernel_rfl)) (by decide) (fun K hK => ?_)
    refine goes_ Tryd.func39 (by kernel_rfl) rfl #[.agg #[.int .i64 a0_0, .int .i64 a0_1, .int .i64 a0_2]] (by rfl) rfl rfl (by (try simp only [List.map_toArray, List.map_cons, List.map_nil]); first | done | rfl | (simp only [List.length_drop, List.length_take]; rfl)) ?_
    with_reducible refine (impl_Shape_sides.calls a0_0 a0_1 a0_2 t201 _ A4.out).mono ?_
    rintro e w12 ⟨rfl, hb⟩
    refine ⟨_, rfl, ?_⟩
    have n0_ := Aside0.mk (blk_below (g := gb199) (o := .cells #[.int .i64 a0_0, .int .i64 a0_1, .int .i64 a0_2, .slice A0_3 l0_3.length c0_3] 33 (0, 0)) (by (with_reducible repeat (first | refine blk_drewN ?_ _ | refine blk_drew ?_ | refine blk_alloc ?_ _)); exact BK199.out) hb)
    have n1_ := Aside0.mk (below_step (by repeat (first | (with_reducible first | exact HB.out | apply below_alloc | apply pw_below_drewN | apply below_drew1 | refine below_set ?_ GE199.out) | exact HB.out)) hb)
    clear BK199
    clear HB
    have BK199 := n0_
    have HB := n1_
    clear n0_ n1_
    (try clear hb)
    (try clear hb2)
    (try clear hk)
    (try clear hi)
    refine hK.out _ _ ⟨(blk_cell BK199.out 0).trans rfl, (blk_cell BK199.out 1).trans rfl, (blk_cell BK199.out 2).trans rfl, (blk_cell BK199.out 3).trans rfl⟩ (fun hHeld => ?_)
    clear hK K
    refine norm_ (a' := ?_) ?_ ?_; rotate_left; (· show Act.put _ (some 8) _ = _; simp only [Act.put, List.setIfInBounds_toArray, List.set_cons_zero, List.set_cons_succ, i64_w, i32_w]; rfl)
    refine pure_ (i := 3) (N := some 9) (v := ?_) (a' := ?_) (bl_ 9 63) rfl rfl (any_of HT_.out (by kernel_rfl)) (fun _ _ _ h => h) (Or.inl ⟨by rfl, ?_⟩) ?_ ?_; rotate_left; (· intro w'; go_simp; with_reducible rfl); rotate_left; (· simp only [Act.put, List.setIfInBounds_toArray, List.set_cons_zero, List.set_cons_succ, i64_w, i32_w]; rfl)
    refine one_ (i := 6) (N := some 12) (bl_ 9 127) rfl rfl (one_of HT_.out (by kernel_rfl)) (by decide) (fun K hK => ?_)
    refine goes_ Tryd.func40 (by kernel_rfl) rfl #[.slice A0_3 l0_3.length c0_3] (by rfl) rfl rfl (by (try simp only [List.map_toArray, List.map_cons, List.map_nil]); first | done | rfl | (simp only [List.length_drop, List.length_take]; rfl)) ?_
    with_reducible refine (impl_spaced.calls _ _ l0_3 t202 _ ?side1 ?side2 A6.out).mono ?_
    (case side1 => repeat (first | exact (Kd.C_below HR0_3.out HB.out) | (with_reducible refine Kd.C_alloc ?_ _) | (with_reducible refine Kd.C_drewN ?_ _) | (with_reducible refine Kd.C_drew ?_)))
    (case side2 => exact HC0_3.out)
    rintro e w13 ⟨rfl, hb⟩
    refine ⟨_, rfl, ?_⟩
    have n0_ := Aside0.mk (blk_below (g := gb199) (o := .cells #[.int .i64 a0_0, .int .i64 a0_1, .int .i64 a0_2, .slice A0_3 l0_3.length c0_3] 33 (0, 0)) (by (with_reducible repeat (first | refine blk_drewN ?_ _ | refine blk_drew ?_ | refine blk_alloc ?_ _)); exact BK199.out) hb)
    have n1_ := Aside0.mk (below_step (by repeat (first | (with_reducible first | exact HB.out | apply below_alloc | apply pw_below_drewN | apply below_drew1 | refine below_set ?_ GE199.out) | exact HB.out)) hb)
    clear BK199
    clear HB
    have BK199 := n0_
    have HB := n1_
    clear n0_ n1_
    (try clear hb)
    (try clear hb2)
    (try clear hk)
    (try clear hi)
    refine hK.out _ _ ⟨(blk_cell BK199.out 0).trans rfl, (blk_cell BK199.out 1).trans rfl, (blk_cell BK199.out 2).trans rfl, (blk_cell BK199.out 3).trans rfl⟩ (fun hHeld => ?_)
    clear hK K
    refine norm_ (a' := ?_) ?_ ?_; rotate_left; (· show Act.put _ (some 12) _ = _; simp only [Act.put, List.setIfInBounds_toArray, List.set_cons_zero, List.set_cons_succ, i64_w, i32_w]; rfl)
    refine pure_ (i := 7) (N := some 13) (v := ?_) (a' := ?_) (bl_ 9 255) rfl rfl (any_of HT_.out (by kernel_rfl)) (fun _ _ _ h => h) (Or.inl ⟨by rfl, ?_⟩) ?_ ?_; rotate_left; (· intro w'; go_simp; with_reducible rfl); rotate_left; (· simp only [Act.put, List.setIfInBounds_toArray, List.set_cons_zero, List.set_cons_succ, i64_w, i32_w]; rfl)
    refine pure_ (i := 8) (N := some 2) (v := ?_) (a' := ?_) (bl_ 9 511) rfl rfl (any_of HT_.out (by kernel_rfl)) (fun _ _ _ h => h) (Or.inl ⟨by rfl, ?_⟩) ?_ ?_; rotate_left; (· intro w'; go_simp; with_reducible rfl); rotate_left; (· simp only [Act.put, List.setIfInBounds_toArray, List.set_cons_zero, List.set_cons_succ, i64_w, i32_w]; rfl)
    refine done_ (done_of HT_.out (by kernel_rfl)) ?_
    try go_wp2
    go_ret
    exact ⟨by first | rfl | (simp [errW_none, errW_some] <;> rfl) | (simp [*, errW_none, errW_some] <;> rfl), by repeat (first | (with_reducible first | exact HB.out | apply below_alloc | apply pw_below_drewN | apply below_drew1 | refine below_set ?_ GE199.out) | exact HB.out)⟩
   ·
    rw [if_neg c7] at H
    exact absurd H (by simp)
  ·
   rw [if_neg c5] at H
   exact absurd H (by simp)
 ·
  replace c3 := Bool.eq_false_iff.mpr c3
  subst c3
  have H1 : (some (⟨#[]⟩ : ByteArray)) = some r := by rw [if_neg (show ¬ (false = true) by decide)] at H; exact H
  clear H
  have H := H1
  clear H1
  obtain rfl := Option.some.inj H
  go_enter Tryd.func26, Tryd.ntmps26
  go_wp2_with (first | ((with_reducible refine gate_dst (N := 1) rfl ?_); refine box_event ?hg (N := 1) ?hd (cs := #[.int .i64 a0_0, .int .i64 a0_1, .int .i64 a0_2, .slice A0_3 l0_3.length c0_3]) (t := 33) ?hr ?_; (case hd => rfl); (case hg => rfl); (case hr => first | (go_simp; done) | (go_simp; rfl)); intro gb199 hg w14 hbox hb; have n0_ := Aside0.mk (below_step (by repeat (first | (with_reducible first | exact HB.out | apply below_alloc | apply pw_below_drewN | apply below_drew1) | exact HB.out)) hb); have n1_ := Aside0.mk (hbox); have n2_ := Aside0.mk ((by rw [hg]; exact (below_size (by repeat (first | (with_reducible first | exact HB.out | apply below_alloc | apply pw_below_drewN | apply below_drew1) | exact HB.out))) : w.heap.size ≤ gb199)); have n3_ := Aside0.mk ((by rw [hg]; exact (below_size (by repeat (first | (with_reducible first | exact HB.out | apply below_alloc | apply pw_below_drewN | apply below_drew1) | exact HB.out))) : w.heap.size ≤ gb199)); clear HB; have HB := n0_; have BK199 := n1_; have GW199 := n2_; have GE199 := n3_; clear n0_ n1_ n2_ n3_; clear hb hbox hg; obtain ⟨hcz15_0, hcz15_1, hcz15_2, hcz15_3, hfz15_0, hfz15_1, hfz15_2, hfz15_3⟩ := box4_ BK199.out) | ((with_reducible refine gate_callee (f := 38) rfl ?_); refine goesL_ (some 4) rfl rfl Tryd.func38 (by kernel_rfl) rfl #[.agg #[.int .i64 a0_0, .int .i64 a0_1, .int .i64 a0_2, .slice A0_3 l0_3.length c0_3]] rfl (by (try simp only [List.map_toArray, List.map_cons, List.map_nil]); first | done | rfl | (simp only [List.length_drop, List.length_take]; rfl)) ?_; (with_reducible refine (impl_TensorOk.calls k a0_0 a0_1 a0_2 _ _ l0_3 false _ ?side1 ?side2 A2.out).mono ?_); (case side1 => repeat (first | exact (Kd.C_below HR0_3.out HB.out) | (with_reducible refine Kd.C_alloc ?_ _) | (with_reducible refine Kd.C_drewN ?_ _) | (with_reducible refine Kd.C_drew ?_))); (case side2 => exact HC0_3.out); rintro e w16 ⟨rfl, hb⟩; refine ⟨_, rfl, ?_⟩; have n0_ := Aside0.mk (blk_below (g := gb199) (o := .cells #[.int .i64 a0_0, .int .i64 a0_1, .int .i64 a0_2, .slice A0_3 l0_3.length c0_3] 33 (0, 0)) (by (with_reducible repeat (first | refine blk_drewN ?_ _ | refine blk_drew ?_ | refine blk_alloc ?_ _)); exact BK199.out) hb); have n1_ := Aside0.mk (below_step (by repeat (first | (with_reducible first | exact HB.out | apply below_alloc | apply pw_below_drewN | apply below_drew1 | refine below_set ?_ GE199.out) | exact HB.out)) hb); clear BK199; clear HB; have BK199 := n0_; have HB := n1_; clear n0_ n1_; (try clear hb); (try clear hb2); (try clear hk); (try clear hi)))
  go_ret
  exact ⟨by first | rfl | (simp [errW_none, errW_some] <;> rfl) | (simp [*, errW_none, errW_some] <;> rfl), by repeat (first | (with_reducible first | exact HB.out | apply below_alloc | apply pw_below_drewN | apply below_drew1 | refine below_set ?_ GE199.out) | exact HB.out)⟩

end Go.Proofs.YtemnodpabflkoaaDoor.QFnExactSameEvents
