/- The Go functions that the statement FnExactNewRuntime reaches, as Lean functions, each with a proof that the call does what its function says; laid by a program of this session. No condition. -/
import Derived.Test.YtljboinndpnefaaQFnExactNewRuntimex0
import Derived.Test.YtljboinndpnefaaQFnExactNewRuntimex1
namespace Go.Proofs.Ytljboinndpnefaa.QFnExactNewRuntime
open Go.RowKit Go.Proofs.YtljboinndpnefaaW.PrintWords Go.Proofs.YtljboinndpnefaaW.PrintLast Go.Proofs.YtljboinndpnefaaW.PrintMore
attribute [local go_sem] max2_int min2_int max_two min_two max_three min_three max_four min_four   -- for this text's walks alone
set_option linter.unusedVariables false
set_option linter.unusedSimpArgs false

/-! ### impl_SchedOk: function 22 -/
def impl_SchedOk.j0 : Nat → Bool → Int → Int → Int → List (S27) → Int → Int → Int → Int → Option (Bool)
 | 0, _, _, _, _, _, _, _, _, _ => none
 | k + 1, x36, x167000, x167001, x167002, x167003, x167004, x167005, x167006, x167007 => if x36 = true then (some false) else ((impl_Sched_find.f x167000 x167001 x167002 x167003 x167004 x167005 x167006 x167007 x167004).bind fun t173 => (if x167004 = 0 then (some (x167005 == 0)) else (if t173 < 0 then (some false) else (if 0 ≤ t173 then (if t173 < (x167003.length : Int) then (if 0 ≤ ((rd_T27 x167003 t173).f2) then (if ((rd_T27 x167003 t173).f2) < (((rd_T27 x167003 t173).f1).length : Int) then ((impl_in.f x167005 1 (rd ((rd_T27 x167003 t173).f1) ((rd_T27 x167003 t173).f2))).bind fun t177 => (some t177)) else (none)) else (none)) else (none)) else (none)))))
def impl_SchedOk.f (k : Nat) (a0_0 : Int) (a0_1 : Int) (a0_2 : Int) (l0_3 : List (S27)) (a0_4 : Int) (a0_5 : Int) (a0_6 : Int) (a0_7 : Int) : Option (Bool) := (impl_isTick.f a0_0).bind fun t167 => (if t167 = true then ((impl_in.f a0_1 0 1000).bind fun t168 => (if t168 = true then ((impl_in.f a0_2 0 20).bind fun t169 => (if t169 = true then ((impl_isTick.f a0_6).bind fun t170 => (if t170 = true then ((impl_in.f a0_7 1 1000000).bind fun t171 => (if t171 = true then ((impl_Sched_areTasks.f k a0_0 a0_1 a0_2 l0_3 a0_4 a0_5 a0_6 a0_7).bind fun t172 => (impl_SchedOk.j0 k (!t172) a0_0 a0_1 a0_2 l0_3 a0_4 a0_5 a0_6 a0_7)) else (impl_SchedOk.j0 k true a0_0 a0_1 a0_2 l0_3 a0_4 a0_5 a0_6 a0_7))) else (impl_SchedOk.j0 k true a0_0 a0_1 a0_2 l0_3 a0_4 a0_5 a0_6 a0_7))) else (impl_SchedOk.j0 k true a0_0 a0_1 a0_2 l0_3 a0_4 a0_5 a0_6 a0_7))) else (impl_SchedOk.j0 k true a0_0 a0_1 a0_2 l0_3 a0_4 a0_5 a0_6 a0_7))) else (impl_SchedOk.j0 k true a0_0 a0_1 a0_2 l0_3 a0_4 a0_5 a0_6 a0_7))
def impl_SchedOk.T6 : Bool × List (List Nat × List Nat) := (true, [([], []), ([0], [0]), ([], []), ([2], [2]), ([], []), ([3, 4], [3, 4]), ([5], [5]), ([6], [6]), ([], []), ([8], [8]), ([], []), ([9, 10], [9, 10]), ([11], [11]), ([12], [12]), ([7, 13], [7, 13]), ([14], [14]), ([1, 15], [1, 15]), ([16, 16, 0, 1, 2, 3, 4, 5, 6, 7, 8, 9, 10, 11, 12, 13, 14, 15, 16], [16])])
def impl_SchedOk.B6 : List Nat := [0, 1, 0, 4, 0, 28, 60, 124, 0, 256, 0, 1792, 3840, 7936, 16380, 32764, 65535, 131071]
theorem impl_SchedOk.tab6 : rtab .any (opsOf Try.f22 6) = impl_SchedOk.T6 := by kernel_rfl
theorem impl_SchedOk.bits6 : waitsOk impl_SchedOk.T6.2 impl_SchedOk.B6 = true := by kernel_rfl
set_option maxHeartbeats 8000000 in
set_option maxRecDepth 100000 in
theorem impl_SchedOk.calls {k : Nat} {a0_0 : Int} {a0_1 : Int} {a0_2 : Int} {A0_3 : Option Addr} {c0_3 : Nat} {l0_3 : List (S27)} {a0_4 : Int} {a0_5 : Int} {a0_6 : Int} {a0_7 : Int} {r : Bool} {w : World} (hr0_3 : Kd.C k27 w A0_3 l0_3.length l0_3) (hc0_3 : l0_3.length ≤ c0_3) (h : impl_SchedOk.f k a0_0 a0_1 a0_2 l0_3 a0_4 a0_5 a0_6 a0_7 = some r) :
  Calls Try.prog 22 #[.agg #[.int .i64 a0_0, .int .i64 a0_1, .int .i64 a0_2, .slice A0_3 l0_3.length c0_3, .int .i64 a0_4, .int .i64 a0_5, .int .i64 a0_6, .int .i64 a0_7]] w fun e w' => e = .returned (.bool r) ∧ Below w.heap.size w w' := by
 have hu38 := Try.underlying38; have HR0_3 := Aside0.mk hr0_3; have HC0_3 := Aside0.mk hc0_3; clear hr0_3 hc0_3; have HB := Aside0.mk (Below.refl w.heap.size w); have H : ((impl_isTick.f a0_0).bind fun t167 => (if t167 = true then ((impl_in.f a0_1 0 1000).bind fun t168 => (if t168 = true then ((impl_in.f a0_2 0 20).bind fun t169 => (if t169 = true then ((impl_isTick.f a0_6).bind fun t170 => (if t170 = true then ((impl_in.f a0_7 1 1000000).bind fun t171 => (if t171 = true then ((impl_Sched_areTasks.f k a0_0 a0_1 a0_2 l0_3 a0_4 a0_5 a0_6 a0_7).bind fun t172 => (impl_SchedOk.j0 k (!t172) a0_0 a0_1 a0_2 l0_3 a0_4 a0_5 a0_6 a0_7)) else (impl_SchedOk.j0 k true a0_0 a0_1 a0_2 l0_3 a0_4 a0_5 a0_6 a0_7))) else (impl_SchedOk.j0 k true a0_0 a0_1 a0_2 l0_3 a0_4 a0_5 a0_6 a0_7))) else (impl_SchedOk.j0 k true a0_0 a0_1 a0_2 l0_3 a0_4 a0_5 a0_6 a0_7))) else (impl_SchedOk.j0 k true a0_0 a0_1 a0_2 l0_3 a0_4 a0_5 a0_6 a0_7))) else (impl_SchedOk.j0 k true a0_0 a0_1 a0_2 l0_3 a0_4 a0_5 a0_6 a0_7))) = some r := h; clear h; have HC2 := Aside0.mk H; clear H
 go_enter Try.func22, Try.ntmps22
 go_upto_region 1 with (first | ((with_reducible refine gate_dst (N := 1) rfl ?_); refine bz_ 1 ?_; intro gb166 hg w3 hbox hb; obtain ⟨BK166, GW166, GE166, HB⟩ := nb_ hg hbox HB hb; clear hb hbox hg))
 (try simp only [Act.put, List.setIfInBounds_toArray, List.set_cons_zero, List.set_cons_succ])
 go_cut [36] (fun v36 wc => ∃ (kq : Nat) (x36_1 : Bool), v36 = .bool x36_1 ∧ Aside0 (impl_SchedOk.j0 kq x36_1 a0_0 a0_1 a0_2 l0_3 a0_4 a0_5 a0_6 a0_7 = some r) ∧ Aside0 (kq ≤ k) ∧ Aside0 (wc.heap[gb166]? = some (.cells #[.int .i64 a0_0, .int .i64 a0_1, .int .i64 a0_2, (.slice A0_3 l0_3.length c0_3), .int .i64 a0_4, .int .i64 a0_5, .int .i64 a0_6, .int .i64 a0_7] 38 (0, 0))) ∧ Aside0 (Below w.heap.size w wc))
 case first =>
  have H := HC2.out; clear HC2; obtain ⟨t167, A4, H⟩ := bo_ H; (try dsimp only at H)
  by_cases c5 : t167 = true
  ·
   subst c5; rw [if_pos rfl] at H; obtain ⟨t168, A6, H⟩ := bo_ H; (try dsimp only at H)
   by_cases c7 : t168 = true
   ·
    subst c7; rw [if_pos rfl] at H; obtain ⟨t169, A8, H⟩ := bo_ H; (try dsimp only at H)
    by_cases c9 : t169 = true
    ·
     subst c9; rw [if_pos rfl] at H; obtain ⟨t170, A10, H⟩ := bo_ H; (try dsimp only at H)
     by_cases c11 : t170 = true
     ·
      subst c11; rw [if_pos rfl] at H; obtain ⟨t171, A12, H⟩ := bo_ H; (try dsimp only at H)
      by_cases c13 : t171 = true
      ·
       subst c13; rw [if_pos rfl] at H; obtain ⟨t172, A14, H⟩ := bo_ H; (try dsimp only at H); have H' := Aside0.mk H; clear H; have hcz15 := box8_ BK166.out
       go_wp2_with (first | ((with_reducible refine gc_ 57 ?_); refine gl_ (some 6) Try.func57 #[.int .i64 a0_0] ?_; (with_reducible refine (impl_isTick.calls A4.out).mono ?_); rintro e w' ⟨rfl, ⟨nd, rfl⟩⟩; refine ⟨_, rfl, ?_⟩) | (go_at_call 54; (with_reducible refine (impl_in.calls A6.out).mono ?_); rintro e w' ⟨rfl, ⟨nd, rfl⟩⟩) | (go_at_call 54; (with_reducible refine (impl_in.calls A8.out).mono ?_); rintro e w' ⟨rfl, ⟨nd, rfl⟩⟩) | (go_at_call 57; (with_reducible refine (impl_isTick.calls A10.out).mono ?_); rintro e w' ⟨rfl, ⟨nd, rfl⟩⟩) | (go_at_call 54; (with_reducible refine (impl_in.calls A12.out).mono ?_); rintro e w' ⟨rfl, ⟨nd, rfl⟩⟩) | (go_at_call 61; (with_reducible refine (impl_Sched_areTasks.calls ?_ ?_ A14.out).mono ?_); exact cu_ HR0_3.out HB.out; exact HC0_3.out; rintro e w16 ⟨rfl, hb⟩; replace BK166 := bb_ BK166 hb; replace HB := hb_ HB hb; (try clear hb)))
       go_meet
       case rel => exact ⟨_, (!t172), (by first | rfl | (simp; done) | (simp [*]; done)), H', ⟨by first | omega | exact Nat.le_refl _⟩, ⟨bu_ BK166.out⟩, ⟨be_ HB.out⟩⟩
      ·
       replace c13 := Bool.eq_false_iff.mpr c13; subst c13; have H1 : (impl_SchedOk.j0 k true a0_0 a0_1 a0_2 l0_3 a0_4 a0_5 a0_6 a0_7) = some r := by rw [if_neg (show ¬ (false = true) by decide)] at H; exact H
       clear H; have H := H1; clear H1; have H' := Aside0.mk H; clear H; have hcz17 := box8_ BK166.out
       go_wp2_with (first | ((with_reducible refine gc_ 57 ?_); refine gl_ (some 6) Try.func57 #[.int .i64 a0_0] ?_; (with_reducible refine (impl_isTick.calls A4.out).mono ?_); rintro e w' ⟨rfl, ⟨nd, rfl⟩⟩; refine ⟨_, rfl, ?_⟩) | (go_at_call 54; (with_reducible refine (impl_in.calls A6.out).mono ?_); rintro e w' ⟨rfl, ⟨nd, rfl⟩⟩) | (go_at_call 54; (with_reducible refine (impl_in.calls A8.out).mono ?_); rintro e w' ⟨rfl, ⟨nd, rfl⟩⟩) | (go_at_call 57; (with_reducible refine (impl_isTick.calls A10.out).mono ?_); rintro e w' ⟨rfl, ⟨nd, rfl⟩⟩) | (go_at_call 54; (with_reducible refine (impl_in.calls A12.out).mono ?_); rintro e w' ⟨rfl, ⟨nd, rfl⟩⟩))
       go_meet
       case rel => exact ⟨_, (true), (by first | rfl | (simp; done) | (simp [*]; done)), H', ⟨by first | omega | exact Nat.le_refl _⟩, ⟨bu_ BK166.out⟩, ⟨be_ HB.out⟩⟩
     ·
      replace c11 := Bool.eq_false_iff.mpr c11; subst c11; have H1 : (impl_SchedOk.j0 k true a0_0 a0_1 a0_2 l0_3 a0_4 a0_5 a0_6 a0_7) = some r := by rw [if_neg (show ¬ (false = true) by decide)] at H; exact H
      clear H; have H := H1; clear H1; have H' := Aside0.mk H; clear H; have hcz18 := box8_ BK166.out
      go_wp2_with (first | ((with_reducible refine gc_ 57 ?_); refine gl_ (some 6) Try.func57 #[.int .i64 a0_0] ?_; (with_reducible refine (impl_isTick.calls A4.out).mono ?_); rintro e w' ⟨rfl, ⟨nd, rfl⟩⟩; refine ⟨_, rfl, ?_⟩) | (go_at_call 54; (with_reducible refine (impl_in.calls A6.out).mono ?_); rintro e w' ⟨rfl, ⟨nd, rfl⟩⟩) | (go_at_call 54; (with_reducible refine (impl_in.calls A8.out).mono ?_); rintro e w' ⟨rfl, ⟨nd, rfl⟩⟩) | (go_at_call 57; (with_reducible refine (impl_isTick.calls A10.out).mono ?_); rintro e w' ⟨rfl, ⟨nd, rfl⟩⟩))
      go_meet
      case rel => exact ⟨_, (true), (by first | rfl | (simp; done) | (simp [*]; done)), H', ⟨by first | omega | exact Nat.le_refl _⟩, ⟨bu_ BK166.out⟩, ⟨be_ HB.out⟩⟩
    ·
     replace c9 := Bool.eq_false_iff.mpr c9; subst c9; have H1 : (impl_SchedOk.j0 k true a0_0 a0_1 a0_2 l0_3 a0_4 a0_5 a0_6 a0_7) = some r := by rw [if_neg (show ¬ (false = true) by decide)] at H; exact H
     clear H; have H := H1; clear H1; have H' := Aside0.mk H; clear H; have hcz19 := box8_ BK166.out
     go_wp2_with (first | ((with_reducible refine gc_ 57 ?_); refine gl_ (some 6) Try.func57 #[.int .i64 a0_0] ?_; (with_reducible refine (impl_isTick.calls A4.out).mono ?_); rintro e w' ⟨rfl, ⟨nd, rfl⟩⟩; refine ⟨_, rfl, ?_⟩) | (go_at_call 54; (with_reducible refine (impl_in.calls A6.out).mono ?_); rintro e w' ⟨rfl, ⟨nd, rfl⟩⟩) | (go_at_call 54; (with_reducible refine (impl_in.calls A8.out).mono ?_); rintro e w' ⟨rfl, ⟨nd, rfl⟩⟩))
     go_meet
     case rel => exact ⟨_, (true), (by first | rfl | (simp; done) | (simp [*]; done)), H', ⟨by first | omega | exact Nat.le_refl _⟩, ⟨bu_ BK166.out⟩, ⟨be_ HB.out⟩⟩
   ·
    replace c7 := Bool.eq_false_iff.mpr c7; subst c7; have H1 : (impl_SchedOk.j0 k true a0_0 a0_1 a0_2 l0_3 a0_4 a0_5 a0_6 a0_7) = some r := by rw [if_neg (show ¬ (false = true) by decide)] at H; exact H
    clear H; have H := H1; clear H1; have H' := Aside0.mk H; clear H; have hcz20 := box8_ BK166.out
    go_wp2_with (first | ((with_reducible refine gc_ 57 ?_); refine gl_ (some 6) Try.func57 #[.int .i64 a0_0] ?_; (with_reducible refine (impl_isTick.calls A4.out).mono ?_); rintro e w' ⟨rfl, ⟨nd, rfl⟩⟩; refine ⟨_, rfl, ?_⟩) | (go_at_call 54; (with_reducible refine (impl_in.calls A6.out).mono ?_); rintro e w' ⟨rfl, ⟨nd, rfl⟩⟩))
    go_meet
    case rel => exact ⟨_, (true), (by first | rfl | (simp; done) | (simp [*]; done)), H', ⟨by first | omega | exact Nat.le_refl _⟩, ⟨bu_ BK166.out⟩, ⟨be_ HB.out⟩⟩
  ·
   replace c5 := Bool.eq_false_iff.mpr c5; subst c5; have H1 : (impl_SchedOk.j0 k true a0_0 a0_1 a0_2 l0_3 a0_4 a0_5 a0_6 a0_7) = some r := by rw [if_neg (show ¬ (false = true) by decide)] at H; exact H
   clear H; have H := H1; clear H1; have H' := Aside0.mk H; clear H; have hcz21 := box8_ BK166.out
   go_wp2_with (first | ((with_reducible refine gc_ 57 ?_); refine gl_ (some 6) Try.func57 #[.int .i64 a0_0] ?_; (with_reducible refine (impl_isTick.calls A4.out).mono ?_); rintro e w' ⟨rfl, ⟨nd, rfl⟩⟩; refine ⟨_, rfl, ?_⟩))
   go_meet
   case rel => exact ⟨_, (true), (by first | rfl | (simp; done) | (simp [*]; done)), H', ⟨by first | omega | exact Nat.le_refl _⟩, ⟨bu_ BK166.out⟩, ⟨be_ HB.out⟩⟩
 case rest =>
  clear HC2; (try clear c1); (try clear c2); (try clear p2); (try clear c5); (try clear c7); (try clear c9); (try clear c11); (try clear c13); (try clear hcz15); (try clear hcz17); (try clear hcz18); (try clear hcz19); (try clear hcz20); (try clear hcz21); obtain ⟨kq, x36_1, rfl, HA, HJ1, BK166, HB⟩ := hcut
  cases kq with
  | zero => exact absurd HA.out (by simp [impl_SchedOk.j0])
  | succ kj1 =>
   have H := HA.out; clear HA; simp only [impl_SchedOk.j0] at H
   by_cases c22 : x36_1 = true
   ·
    subst c22; rw [if_pos rfl] at H; obtain rfl := Option.some.inj H
    go_wp2
    go_ret
    exact rt_ HB.out
   ·
    replace c22 := Bool.eq_false_iff.mpr c22; subst c22; have H1 : ((impl_Sched_find.f a0_0 a0_1 a0_2 l0_3 a0_4 a0_5 a0_6 a0_7 a0_4).bind fun t173 => (if a0_4 = 0 then (some (a0_5 == 0)) else (if t173 < 0 then (some false) else (if 0 ≤ t173 then (if t173 < (l0_3.length : Int) then (if 0 ≤ ((rd_T27 l0_3 t173).f2) then (if ((rd_T27 l0_3 t173).f2) < (((rd_T27 l0_3 t173).f1).length : Int) then ((impl_in.f a0_5 1 (rd ((rd_T27 l0_3 t173).f1) ((rd_T27 l0_3 t173).f2))).bind fun t177 => (some t177)) else (none)) else (none)) else (none)) else (none))))) = some r := by rw [if_neg (show ¬ (false = true) by decide)] at H; exact H
    clear H; have H := H1; clear H1; obtain ⟨t173, A23, H⟩ := bo_ H; (try dsimp only at H)
    by_cases c24 : a0_4 = 0
    ·
     rw [if_pos c24] at H; have c24b0 : (a0_4 == 0) = true := beq_iff_eq.mpr c24; have c24b1 : (a0_4 != 0) = false := bne_eq_false_iff_eq.mpr c24; clear c24; obtain rfl := Option.some.inj H; have hcz25 := box8_ BK166.out
     go_wp2_with (first | ((with_reducible refine gc_ 62 ?_); refine gl_ (some 40) Try.func62 #[.agg #[.int .i64 a0_0, .int .i64 a0_1, .int .i64 a0_2, .slice A0_3 l0_3.length c0_3, .int .i64 a0_4, .int .i64 a0_5, .int .i64 a0_6, .int .i64 a0_7], .int .i64 a0_4] ?_; (with_reducible refine (impl_Sched_find.calls a0_0 a0_1 a0_2 _ _ l0_3 a0_4 a0_5 a0_6 a0_7 a0_4 t173 _ ?_ ?_ A23.out).mono ?_); exact cu_ HR0_3.out HB.out; exact HC0_3.out; rintro e w26 ⟨rfl, hb⟩; refine ⟨_, rfl, ?_⟩; replace BK166 := bb_ BK166 hb; replace HB := hb_ HB hb; (try clear hb); have hcz27 := box8_ BK166.out))
     go_ret
     exact rt_ HB.out
    ·
     rw [if_neg c24] at H; have c24b0 : (a0_4 == 0) = false := beq_eq_false_iff_ne.mpr c24; have c24b1 : (a0_4 != 0) = true := bne_iff_ne.mpr c24
     by_cases c28 : t173 < 0
     ·
      rw [if_pos c28] at H; have c28b0 : decide (t173 < 0) = true := decide_eq_true c28; clear c28; obtain rfl := Option.some.inj H; have hcz29 := box8_ BK166.out
      go_wp2_with (first | ((with_reducible refine gc_ 62 ?_); refine gl_ (some 40) Try.func62 #[.agg #[.int .i64 a0_0, .int .i64 a0_1, .int .i64 a0_2, .slice A0_3 l0_3.length c0_3, .int .i64 a0_4, .int .i64 a0_5, .int .i64 a0_6, .int .i64 a0_7], .int .i64 a0_4] ?_; (with_reducible refine (impl_Sched_find.calls a0_0 a0_1 a0_2 _ _ l0_3 a0_4 a0_5 a0_6 a0_7 a0_4 t173 _ ?_ ?_ A23.out).mono ?_); exact cu_ HR0_3.out HB.out; exact HC0_3.out; rintro e w30 ⟨rfl, hb⟩; refine ⟨_, rfl, ?_⟩; replace BK166 := bb_ BK166 hb; replace HB := hb_ HB hb; (try clear hb); have hcz31 := box8_ BK166.out))
      go_ret
      exact rt_ HB.out
     ·
      rw [if_neg c28] at H; have c28b0 : decide (t173 < 0) = false := decide_eq_false c28; clear c28
      by_cases c32 : 0 ≤ t173
      ·
       rw [if_pos c32] at H; have c32b0 : decide (0 ≤ t173) = true := decide_eq_true c32; clear c32
       by_cases c33 : t173 < (l0_3.length : Int)
       ·
        rw [if_pos c33] at H; have c33b0 : decide (t173 < (l0_3.length : Int)) = true := decide_eq_true c33; clear c33
        by_cases c34 : 0 ≤ ((rd_T27 l0_3 t173).f2)
        ·
         rw [if_pos c34] at H; have c34b0 : decide (0 ≤ ((rd_T27 l0_3 t173).f2)) = true := decide_eq_true c34; clear c34
         by_cases c35 : ((rd_T27 l0_3 t173).f2) < (((rd_T27 l0_3 t173).f1).length : Int)
         ·
          rw [if_pos c35] at H; have c35b0 : decide (((rd_T27 l0_3 t173).f2) < (((rd_T27 l0_3 t173).f1).length : Int)) = true := decide_eq_true c35; clear c35; obtain ⟨t177, A36, H⟩ := bo_ H; (try dsimp only at H); obtain rfl := Option.some.inj H; have hcz37 := box8_ BK166.out
          try go_wp2_with (first | ((with_reducible refine gc_ 62 ?_); refine gl_ (some 40) Try.func62 #[.agg #[.int .i64 a0_0, .int .i64 a0_1, .int .i64 a0_2, .slice A0_3 l0_3.length c0_3, .int .i64 a0_4, .int .i64 a0_5, .int .i64 a0_6, .int .i64 a0_7], .int .i64 a0_4] ?_; (with_reducible refine (impl_Sched_find.calls a0_0 a0_1 a0_2 _ _ l0_3 a0_4 a0_5 a0_6 a0_7 a0_4 t173 _ ?_ ?_ A23.out).mono ?_); exact cu_ HR0_3.out HB.out; exact HC0_3.out; rintro e w38 ⟨rfl, hb⟩; refine ⟨_, rfl, ?_⟩; replace BK166 := bb_ BK166 hb; replace HB := hb_ HB hb; (try clear hb); have hcz39 := box8_ BK166.out))
          replace BK166 := Aside0.mk (blk_drew BK166.out); replace HB := Aside0.mk (below_drew1 HB.out); have p174 : 0 ≤ (t173 : Int) := od_; have q174 : t173 < (l0_3.length : Int) := od_; obtain ⟨ad174, A174_1, c174_1, e174, hx174_0, hx174_1, hx174_2, hx174_3, hx174_4, hl174_1, hi174_1⟩ := at_T27 HR0_3.out t173 p174 q174; have hw174_4 := hx174_4; have hw174_3 := hx174_3; have hw174_2 := hx174_2; have hw174_1 := hx174_1; have hw174_0 := hx174_0
          cases e174
          replace hx174_0 := cw_ HB.out hx174_0; replace hx174_1 := cw_ HB.out hx174_1; replace hx174_2 := cw_ HB.out hx174_2; replace hx174_3 := cw_ HB.out hx174_3; replace hx174_4 := cw_ HB.out hx174_4; have HR174_1 := Aside0.mk hi174_1; have HC174_1 := Aside0.mk hl174_1; clear hi174_1 hl174_1; replace p174 := eq_true p174; replace q174 := eq_true q174; have p175 : 0 ≤ (t173 : Int) := od_; have q175 : t173 < (l0_3.length : Int) := od_; obtain ⟨ad175, A175_1, c175_1, e175, hx175_0, hx175_1, hx175_2, hx175_3, hx175_4, hl175_1, hi175_1⟩ := at_T27 HR0_3.out t173 p175 q175; have hw175_4 := hx175_4; have hw175_3 := hx175_3; have hw175_2 := hx175_2; have hw175_1 := hx175_1; have hw175_0 := hx175_0; obtain rfl : ad174 = ad175 := (by injection e175); replace hx175_0 := cw_ HB.out hx175_0; replace hx175_1 := cw_ HB.out hx175_1; replace hx175_2 := cw_ HB.out hx175_2; replace hx175_3 := cw_ HB.out hx175_3; replace hx175_4 := cw_ HB.out hx175_4; have HR175_1 := Aside0.mk hi175_1; have HC175_1 := Aside0.mk hl175_1; clear hi175_1 hl175_1; replace p175 := eq_true p175; replace q175 := eq_true q175; have ea_ := Option.some.inj (hx174_1.symm.trans hx175_1)
          injection ea_ with ea_ en_ ec_
          subst ea_; subst ec_; clear en_; have p176 : 0 ≤ (((rd_T27 l0_3 t173).f2) : Int) := od_; have q176 : ((rd_T27 l0_3 t173).f2) < (((rd_T27 l0_3 t173).f1).length : Int) := od_; obtain ⟨ad176, e176, hx176_0⟩ := Kd.at_int HR174_1.out ((rd_T27 l0_3 t173).f2) p176 q176; have hw176_0 := hx176_0
          cases e176
          replace hx176_0 := cw_ HB.out hx176_0; replace p176 := eq_true p176; replace q176 := eq_true q176; refine sta_ 18 (fun w' => CE_ w' gb166 0 (.int .i64 a0_0) ∧ CE_ w' gb166 1 (.int .i64 a0_1) ∧ CE_ w' gb166 2 (.int .i64 a0_2) ∧ CE_ w' gb166 3 (.slice (some ad174) l0_3.length c0_3) ∧ CE_ w' gb166 4 (.int .i64 a0_4) ∧ CE_ w' gb166 5 (.int .i64 a0_5) ∧ CE_ w' gb166 6 (.int .i64 a0_6) ∧ CE_ w' gb166 7 (.int .i64 a0_7) ∧ w'.cell? (ad174.add ((t173).toNat * 5)) = some (.int .i64 ((rd_T27 l0_3 t173).f0)) ∧ CF_ w' (ad174.add ((t173).toNat * 5)) 1 (.slice (some ad176) ((rd_T27 l0_3 t173).f1).length c174_1) ∧ CF_ w' (ad174.add ((t173).toNat * 5)) 2 (.int .i64 ((rd_T27 l0_3 t173).f2)) ∧ CF_ w' (ad174.add ((t173).toNat * 5)) 3 (.int .i64 ((rd_T27 l0_3 t173).f3)) ∧ CF_ w' (ad174.add ((t173).toNat * 5)) 4 (.int .i64 ((rd_T27 l0_3 t173).f4)) ∧ w'.cell? (ad174.add ((t173).toNat * 5)) = some (.int .i64 ((rd_T27 l0_3 t173).f0)) ∧ CF_ w' (ad174.add ((t173).toNat * 5)) 1 (.slice (some ad176) ((rd_T27 l0_3 t173).f1).length c174_1) ∧ CF_ w' (ad174.add ((t173).toNat * 5)) 2 (.int .i64 ((rd_T27 l0_3 t173).f2)) ∧ CF_ w' (ad174.add ((t173).toNat * 5)) 3 (.int .i64 ((rd_T27 l0_3 t173).f3)) ∧ CF_ w' (ad174.add ((t173).toNat * 5)) 4 (.int .i64 ((rd_T27 l0_3 t173).f4)) ∧ w'.cell? (ad176.add (((rd_T27 l0_3 t173).f2)).toNat) = some (.int .i64 (rd ((rd_T27 l0_3 t173).f1) ((rd_T27 l0_3 t173).f2)))) ⟨bk_ BK166 0, bk_ BK166 1, bk_ BK166 2, bk_ BK166 3, bk_ BK166 4, bk_ BK166 5, bk_ BK166 6, bk_ BK166 7, (cw_ HB.out hw174_0), (cw_ HB.out hw174_1), (cw_ HB.out hw174_2), (cw_ HB.out hw174_3), (cw_ HB.out hw174_4), (cw_ HB.out hw175_0), (cw_ HB.out hw175_1), (cw_ HB.out hw175_2), (cw_ HB.out hw175_3), (cw_ HB.out hw175_4), (cw_ HB.out hw176_0)⟩ (fun hHeld => ?_); refine with_tabW impl_SchedOk.tab6 impl_SchedOk.bits6 (fun HT_ HW_ => ?_); generalize w38.drew = w40 at BK166 HB HR174_1 HR175_1 hx174_0 hx174_1 hx174_2 hx174_3 hx174_4 hx175_0 hx175_1 hx175_2 hx175_3 hx175_4 hx176_0 hHeld ⊢; refine pv_ 0 18 1 HT_.out ?_; refine pv_ 2 18 5 HT_.out ?_; refine pv_ 4 18 21 HT_.out ?_; refine pv_ 8 18 277 HT_.out ?_; refine pv_ 10 18 1301 HT_.out ?_; refine tv_ 1 18 1303 HT_.out HW_.out hHeld ?_; refine tv_ 3 18 1311 HT_.out HW_.out hHeld ?_; refine pv_ 5 18 1343 HT_.out ?_; refine pv_ 6 18 1407 HT_.out ?_; refine tv_ 7 18 1535 HT_.out HW_.out hHeld ?_; refine tv_ 9 18 2047 HT_.out HW_.out hHeld ?_; refine pv_ 11 18 4095 HT_.out ?_; refine pv_ 12 18 8191 HT_.out ?_; refine tv_ 13 18 16383 HT_.out HW_.out hHeld ?_; refine pv_ 14 18 32767 HT_.out ?_; refine tv_ 15 18 65535 HT_.out HW_.out hHeld ?_; refine one_ (i := 16) (N := some 72) (bl_ 18 131071) rfl rfl (one_of HT_.out (by kernel_rfl)) (by decide) (fun K hK => ?_); refine ge_ Try.func54 #[.int .i64 a0_5, .int .i64 1, .int .i64 (rd ((rd_T27 l0_3 t173).f1) ((rd_T27 l0_3 t173).f2))] ?_
          (with_reducible refine (impl_in.calls A36.out).mono ?_)
          rintro e w' ⟨rfl, ⟨nd, rfl⟩⟩; refine ⟨_, rfl, ?_⟩; refine hK.out _ _ ⟨bk_ BK166 0, bk_ BK166 1, bk_ BK166 2, bk_ BK166 3, bk_ BK166 4, bk_ BK166 5, bk_ BK166 6, bk_ BK166 7, (cw_ HB.out hw174_0), (cw_ HB.out hw174_1), (cw_ HB.out hw174_2), (cw_ HB.out hw174_3), (cw_ HB.out hw174_4), (cw_ HB.out hw175_0), (cw_ HB.out hw175_1), (cw_ HB.out hw175_2), (cw_ HB.out hw175_3), (cw_ HB.out hw175_4), (cw_ HB.out hw176_0)⟩ (fun hHeld => ?_); clear hK K; refine nm_ 72 (h := ?_); refine pv_ 17 18 262143 HT_.out ?_; refine done_ (done_of HT_.out (by kernel_rfl)) ?_
          try go_wp2
          go_ret
          exact rt_ HB.out
         ·
          rw [if_neg c35] at H; exact absurd H (by simp)
        ·
         rw [if_neg c34] at H; exact absurd H (by simp)
       ·
        rw [if_neg c33] at H; exact absurd H (by simp)
      ·
       rw [if_neg c32] at H; exact absurd H (by simp)

/-! ### impl_NewSched: function 25 -/
def impl_NewSched.f (k : Nat) (a0 : Int) (a1 : Int) : Option (Int × Int × Int × (List (S27)) × Int × Int × Int × Int × Bool) := (impl_SchedOk.f k 0 a0 a1 ([] : List (S27)) 0 0 0 1).bind fun t180 => (if t180 = true then (some (0, a0, a1, ([] : List (S27)), 0, 0, 0, 1, true)) else (some (0, 0, 0, ([] : List (S27)), 0, 0, 0, 0, false)))
set_option maxHeartbeats 8000000 in
set_option maxRecDepth 100000 in
theorem impl_NewSched.calls {k : Nat} {a0 : Int} {a1 : Int} {r1 : Int} {r2 : Int} {r3 : Int} {r4 : List (S27)} {r5 : Int} {r6 : Int} {r7 : Int} {r8 : Int} {r9 : Bool} {w : World} (h : impl_NewSched.f k a0 a1 = some (r1, r2, r3, r4, r5, r6, r7, r8, r9)) :
  Calls Try.prog 25 #[.int .i64 a0, .int .i64 a1] w fun e w' => ∃ v3_ : Value, e = .returned (.tuple #[.agg #[.int .i64 r1, .int .i64 r2, .int .i64 r3, v3_, .int .i64 r5, .int .i64 r6, .int .i64 r7, .int .i64 r8], .bool r9]) ∧ Kd.S k27 27 w' w.heap.size (fun _ => True) v3_ r4 ∧ Below w.heap.size w w' := by
 have hu38 := Try.underlying38; have HB := Aside0.mk (Below.refl w.heap.size w); have H : ((impl_SchedOk.f k 0 a0 a1 ([] : List (S27)) 0 0 0 1).bind fun t180 => (if t180 = true then (some (0, a0, a1, ([] : List (S27)), 0, 0, 0, 1, true)) else (some (0, 0, 0, ([] : List (S27)), 0, 0, 0, 0, false)))) = some (r1, r2, r3, r4, r5, r6, r7, r8, r9) := h; clear h; obtain ⟨t180, A3, H⟩ := bo_ H; (try dsimp only at H)
 by_cases c4 : t180 = true
 ·
  subst c4; rw [if_pos rfl] at H; simp only [Option.some.injEq, Prod.mk.injEq] at H; obtain ⟨rfl, rfl, rfl, rfl, rfl, rfl, rfl, rfl, rfl⟩ := H
  go_enter Try.func25, Try.ntmps25
  go_wp2_with (first | ((with_reducible refine gate_dst (N := 4) rfl ?_); refine bz_ 4 ?_; intro gb178 hg w5 hbox hb; obtain ⟨BK178, GW178, GE178, HB⟩ := nb_ hg hbox HB hb; clear hb hbox hg) | ((with_reducible refine gate_dst (N := 6) rfl ?_); refine bz_ 6 ?_; intro gb179 hg w6 hbox hb; obtain ⟨BK179, GW179, GE179, HB⟩ := nb_ hg hbox HB hb; have NB178_179 := nx_ hg BK178; have NB179_178 := ny_ hg BK178; replace BK178 := bb_ BK178 hb; clear hb hbox hg; have hnb7 := NB179_178.out; have hnc7 := NB178_179.out; have hcz8 := box8_ BK179.out) | ((with_reducible refine gc_ 22 ?_); refine gl_ (some 11) Try.func22 #[.agg #[.int .i64 0, .int .i64 a0, .int .i64 a1, .slice none 0 0, .int .i64 0, .int .i64 0, .int .i64 0, .int .i64 1]] ?_; (refine (impl_SchedOk.calls ?side1 ?side2 A3.out).mono ?_); (case side1 => exact Kd.C_nil _ _); (case side2 => exact Nat.le_refl _); rintro e w9 ⟨rfl, hb⟩; refine ⟨_, rfl, ?_⟩; replace BK178 := bc_ BK178 hb; replace BK179 := bp_ (#[.int .i64 0, .int .i64 a0, .int .i64 a1, .slice none 0 0, .int .i64 0, .int .i64 0, .int .i64 0, .int .i64 1]) BK179 hb; replace HB := hb_ HB hb; (try clear hb); have hcz10 := box8_ BK179.out; have hcz11 := box8_ BK178.out))
  refine bodyPost_ret (results_ct rfl _ _ gb178 38 #[.int .i64 0, .int .i64 a0, .int .i64 a1, .slice none 0 0, .int .i64 0, .int .i64 0, .int .i64 0, .int .i64 1] (0, 0) _ rfl (bq_ BK178.out) Try.underlying38 rfl (by kernel_rfl)) rfl ?_; exact ⟨_, by first | rfl | (simp [errW_none, errW_some] <;> rfl) | (simp [*, errW_none, errW_some] <;> rfl), by first | exact Kd.S_nil _ _ _ _ _ | exact Kd.N_nil _ _ _ _ _ | exact Kd.V_nil _ _ _ _ _ | exact Kd.Q_nil _ _ _ _ _ | exact Kd.R_nil _ _ _ _ _, be_ HB.out⟩
 ·
  replace c4 := Bool.eq_false_iff.mpr c4; subst c4; have H1 : (some (0, 0, 0, ([] : List (S27)), 0, 0, 0, 0, false)) = some (r1, r2, r3, r4, r5, r6, r7, r8, r9) := by rw [if_neg (show ¬ (false = true) by decide)] at H; exact H
  clear H; have H := H1; clear H1; simp only [Option.some.injEq, Prod.mk.injEq] at H; obtain ⟨rfl, rfl, rfl, rfl, rfl, rfl, rfl, rfl, rfl⟩ := H
  go_enter Try.func25, Try.ntmps25
  go_wp2_with (first | ((with_reducible refine gate_dst (N := 4) rfl ?_); refine bz_ 4 ?_; intro gb178 hg w12 hbox hb; obtain ⟨BK178, GW178, GE178, HB⟩ := nb_ hg hbox HB hb; clear hb hbox hg) | ((with_reducible refine gate_dst (N := 6) rfl ?_); refine bz_ 6 ?_; intro gb179 hg w13 hbox hb; obtain ⟨BK179, GW179, GE179, HB⟩ := nb_ hg hbox HB hb; have NB178_179 := nx_ hg BK178; have NB179_178 := ny_ hg BK178; replace BK178 := bb_ BK178 hb; clear hb hbox hg; have hnb14 := NB179_178.out; have hnc14 := NB178_179.out; have hcz15 := box8_ BK179.out) | ((with_reducible refine gc_ 22 ?_); refine gl_ (some 11) Try.func22 #[.agg #[.int .i64 0, .int .i64 a0, .int .i64 a1, .slice none 0 0, .int .i64 0, .int .i64 0, .int .i64 0, .int .i64 1]] ?_; (refine (impl_SchedOk.calls ?side1 ?side2 A3.out).mono ?_); (case side1 => exact Kd.C_nil _ _); (case side2 => exact Nat.le_refl _); rintro e w16 ⟨rfl, hb⟩; refine ⟨_, rfl, ?_⟩; replace BK178 := bc_ BK178 hb; replace BK179 := bp_ (#[.int .i64 0, .int .i64 a0, .int .i64 a1, .slice none 0 0, .int .i64 0, .int .i64 0, .int .i64 0, .int .i64 1]) BK179 hb; replace HB := hb_ HB hb; (try clear hb); have hcz17 := box8_ BK178.out))
  refine bodyPost_ret (results_ct rfl _ _ gb178 38 #[.int .i64 0, .int .i64 0, .int .i64 0, .slice none 0 0, .int .i64 0, .int .i64 0, .int .i64 0, .int .i64 0] (0, 0) _ rfl (bq_ BK178.out) Try.underlying38 rfl (by kernel_rfl)) rfl ?_; exact ⟨_, by first | rfl | (simp [errW_none, errW_some] <;> rfl) | (simp [*, errW_none, errW_some] <;> rfl), by first | exact Kd.S_nil _ _ _ _ _ | exact Kd.N_nil _ _ _ _ _ | exact Kd.V_nil _ _ _ _ _ | exact Kd.Q_nil _ _ _ _ _ | exact Kd.R_nil _ _ _ _ _, be_ HB.out⟩

/-! ### impl_NewRuntime: function 46 -/
def impl_NewRuntime.f (k : Nat) (a0 : Int) (a1 : Int) : Option (Int × Int × Int × (List (S27)) × Int × Int × Int × Int × (List (S88)) × List Bool × (List (S95)) × Bool) := (impl_NewSched.f k a0 a1).bind fun bt182 => (if bt182.2.2.2.2.2.2.2.2 = true then (if 4 ≤ 5864062014805 then (if 4 ≤ 281474976710656 then (some (bt182.1, bt182.2.1, bt182.2.2.1, bt182.2.2.2.1, bt182.2.2.2.2.1, bt182.2.2.2.2.2.1, bt182.2.2.2.2.2.2.1, bt182.2.2.2.2.2.2.2.1, (List.replicate 4 z88), (List.replicate 4 false), ([] : List (S95)), true)) else (none)) else (none)) else (some (0, 0, 0, ([] : List (S27)), 0, 0, 0, 0, ([] : List (S88)), ([] : List Bool), ([] : List (S95)), false)))
set_option maxHeartbeats 8000000 in
set_option maxRecDepth 100000 in
theorem impl_NewRuntime.calls {k : Nat} {a0 : Int} {a1 : Int} {r1 : Int} {r2 : Int} {r3 : Int} {r4 : List (S27)} {r5 : Int} {r6 : Int} {r7 : Int} {r8 : Int} {r9 : List (S88)} {r10 : List Bool} {r11 : List (S95)} {r12 : Bool} {w : World} (h : impl_NewRuntime.f k a0 a1 = some (r1, r2, r3, r4, r5, r6, r7, r8, r9, r10, r11, r12)) :
  Calls Try.prog 46 #[.int .i64 a0, .int .i64 a1] w fun e w' => ∃ v3_ v8_ v9_ v10_ : Value, e = .returned (.tuple #[.agg #[.int .i64 r1, .int .i64 r2, .int .i64 r3, v3_, .int .i64 r5, .int .i64 r6, .int .i64 r7, .int .i64 r8, v8_, v9_, v10_], .bool r12]) ∧ Kd.S k27 27 w' w.heap.size (fun _ => True) v3_ r4 ∧ Kd.R k88 88 w' w.heap.size (fun _ => True) v8_ r9 ∧ Kd.R Kd.bool 4 w' w.heap.size (fun _ => True) v9_ r10 ∧ Kd.R k95 95 w' w.heap.size (fun _ => True) v10_ r11 ∧ Below w.heap.size w w' := by
 have hu55 := Try.underlying55; have hu38 := Try.underlying38; have HB := Aside0.mk (Below.refl w.heap.size w); have H : ((impl_NewSched.f k a0 a1).bind fun bt182 => (if bt182.2.2.2.2.2.2.2.2 = true then (if 4 ≤ 5864062014805 then (if 4 ≤ 281474976710656 then (some (bt182.1, bt182.2.1, bt182.2.2.1, bt182.2.2.2.1, bt182.2.2.2.2.1, bt182.2.2.2.2.2.1, bt182.2.2.2.2.2.2.1, bt182.2.2.2.2.2.2.2.1, (List.replicate 4 z88), (List.replicate 4 false), ([] : List (S95)), true)) else (none)) else (none)) else (some (0, 0, 0, ([] : List (S27)), 0, 0, 0, 0, ([] : List (S88)), ([] : List Bool), ([] : List (S95)), false)))) = some (r1, r2, r3, r4, r5, r6, r7, r8, r9, r10, r11, r12) := h; clear h; obtain ⟨⟨t182, t183, t184, t185, t188, t189, t190, t191, t192⟩, A3, H⟩ := bo_ H; (try dsimp only at H)
 by_cases c4 : t192 = true
 ·
  subst c4; rw [if_pos rfl] at H
  by_cases c5 : 4 ≤ 5864062014805
  ·
   rw [if_pos c5] at H; have c5b0 := eq_true c5; have c5b1 : decide (4 ≤ 5864062014805) = true := decide_eq_true c5; clear c5; obtain ⟨y194, hy194⟩ : ∃ y_ : List (S88), y_ = (List.replicate 4 z88) := ⟨_, rfl⟩; replace H : (if 4 ≤ 281474976710656 then (some (t182, t183, t184, t185, t188, t189, t190, t191, y194, (List.replicate 4 false), ([] : List (S95)), true)) else (none)) = some (r1, r2, r3, r4, r5, r6, r7, r8, r9, r10, r11, r12) := by first | (rw [hy194]; with_reducible exact H) | (have H2_ := (Option.bind_some _ _).symm.trans H; rw [hy194]; with_reducible exact H2_) | (have H2_ := (Option.bind_some _ _).symm.trans H; with_reducible exact H2_) | with_reducible exact H | (rw [hy194]; exact H) | exact H
   have Ny194 := Aside0.mk hy194; clear hy194
   by_cases c6 : 4 ≤ 281474976710656
   ·
    rw [if_pos c6] at H; have c6b0 := eq_true c6; have c6b1 : decide (4 ≤ 281474976710656) = true := decide_eq_true c6; clear c6; obtain ⟨y197, hy197⟩ : ∃ y_ : List Bool, y_ = (List.replicate 4 false) := ⟨_, rfl⟩; replace H : (some (t182, t183, t184, t185, t188, t189, t190, t191, y194, y197, ([] : List (S95)), true)) = some (r1, r2, r3, r4, r5, r6, r7, r8, r9, r10, r11, r12) := by first | (rw [hy197]; with_reducible exact H) | (have H2_ := (Option.bind_some _ _).symm.trans H; rw [hy197]; with_reducible exact H2_) | (have H2_ := (Option.bind_some _ _).symm.trans H; with_reducible exact H2_) | with_reducible exact H | (rw [hy197]; exact H) | exact H
    have Ny197 := Aside0.mk hy197; clear hy197; simp only [Option.some.injEq, Prod.mk.injEq] at H; obtain ⟨rfl, rfl, rfl, rfl, rfl, rfl, rfl, rfl, rfl, rfl, rfl, rfl⟩ := H
    go_enter Try.func46, Try.ntmps46
    try go_wp2_with (first | ((with_reducible refine gate_dst (N := 4) rfl ?_); refine bz_ 4 ?_; intro gb181 hg w7 hbox hb; obtain ⟨BK181, GW181, GE181, HB⟩ := nb_ hg hbox HB hb; clear hb hbox hg) | ((with_reducible refine gc_ 25 ?_); refine gl_ (some 11) Try.func25 #[.int .i64 a0, .int .i64 a1] ?_; (with_reducible refine (impl_NewSched.calls A3.out).mono ?_); rintro e w8 ⟨v186, rfl, ho0, hb⟩; refine ⟨_, rfl, ?_⟩; have HO187 := Aside0.mk (Kd.S_lower ho0 (below_size (be_ HB.out))); replace BK181 := bb_ BK181 hb; replace HB := hb_ HB hb; (try clear hb ho0)) | ((with_reducible refine gate_dst (N := 6) rfl ?_); refine bz_ 6 ?_; intro gb193 hg w9 hbox hb; replace HO187 := Aside0.mk (Kd.S_below (by (with_reducible repeat (first | apply Kd.S_alloc | apply Kd.S_drewN | apply Kd.S_drew)); exact HO187.out) hb); obtain ⟨BK193, GW193, GE193, HB⟩ := nb_ hg hbox HB hb; have NB181_193 := nx_ hg BK181; have NB193_181 := ny_ hg BK181; replace BK181 := bb_ BK181 hb; clear hb hbox hg; have hnb10 := NB193_181.out; have hnc10 := NB181_193.out; have hcz11 := box8_ BK193.out; obtain ⟨Ao12, co12, eo12⟩ := Kd.S_slice HO187.out; subst eo12))
    have n0_ : Aside0 (Kd.S k27 27 ((((((((w9.setCell ⟨gb193, 0, none⟩ (.int .i64 t182)).setCell ⟨gb193, 1, none⟩ (.int .i64 t183)).setCell ⟨gb193, 2, none⟩ (.int .i64 t184)).setCell ⟨gb193, 3, none⟩ (.slice Ao12 t185.length co12)).setCell ⟨gb193, 4, none⟩ (.int .i64 t188)).setCell ⟨gb193, 5, none⟩ (.int .i64 t189)).setCell ⟨gb193, 6, none⟩ (.int .i64 t190)).setCell ⟨gb193, 7, none⟩ (.int .i64 t191)) w.heap.size (fun _ => True) (.slice Ao12 t185.length co12) t185) := ⟨by (with_reducible repeat (first | apply Kd.S_alloc | apply Kd.S_drewN | apply Kd.S_drew)); exact Kd.S_mono (Kd.S_far (p := ⟨gb193, 7, none⟩) (Kd.S_far (p := ⟨gb193, 6, none⟩) (Kd.S_far (p := ⟨gb193, 5, none⟩) (Kd.S_far (p := ⟨gb193, 4, none⟩) (Kd.S_far (p := ⟨gb193, 3, none⟩) (Kd.S_far (p := ⟨gb193, 2, none⟩) (Kd.S_far (p := ⟨gb193, 1, none⟩) (Kd.S_far (p := ⟨gb193, 0, none⟩) (Kd.S_types HO187.out BK193.out (by decide)) (fun _ hk => hk.2) (.int .i64 t182)) (fun _ hk => hk.2) (.int .i64 t183)) (fun _ hk => hk.2) (.int .i64 t184)) (fun _ hk => hk.2) (.slice Ao12 t185.length co12)) (fun _ hk => hk.2) (.int .i64 t188)) (fun _ hk => hk.2) (.int .i64 t189)) (fun _ hk => hk.2) (.int .i64 t190)) (fun _ hk => hk.2) (.int .i64 t191)) (fun _ hk => trivial)⟩; have n1_ : Aside0 (((((((((w9.setCell ⟨gb193, 0, none⟩ (.int .i64 t182)).setCell ⟨gb193, 1, none⟩ (.int .i64 t183)).setCell ⟨gb193, 2, none⟩ (.int .i64 t184)).setCell ⟨gb193, 3, none⟩ (.slice Ao12 t185.length co12)).setCell ⟨gb193, 4, none⟩ (.int .i64 t188)).setCell ⟨gb193, 5, none⟩ (.int .i64 t189)).setCell ⟨gb193, 6, none⟩ (.int .i64 t190)).setCell ⟨gb193, 7, none⟩ (.int .i64 t191)).heap[gb181]? = some (.cells #[.int .i64 0, .int .i64 0, .int .i64 0, .slice none 0 0, .int .i64 0, .int .i64 0, .int .i64 0, .int .i64 0, .slice none 0 0, .slice none 0 0, .slice none 0 0] 55 (0, 0))) := ⟨by (with_reducible repeat (first | refine blk_drewN ?_ _ | refine blk_drew ?_ | refine blk_alloc ?_ _)); refine blk_far ?_ NB181_193.out _; (with_reducible repeat (first | refine blk_drewN ?_ _ | refine blk_drew ?_ | refine blk_alloc ?_ _)); refine blk_far ?_ NB181_193.out _; (with_reducible repeat (first | refine blk_drewN ?_ _ | refine blk_drew ?_ | refine blk_alloc ?_ _)); refine blk_far ?_ NB181_193.out _; (with_reducible repeat (first | refine blk_drewN ?_ _ | refine blk_drew ?_ | refine blk_alloc ?_ _)); refine blk_far ?_ NB181_193.out _; (with_reducible repeat (first | refine blk_drewN ?_ _ | refine blk_drew ?_ | refine blk_alloc ?_ _)); refine blk_far ?_ NB181_193.out _; (with_reducible repeat (first | refine blk_drewN ?_ _ | refine blk_drew ?_ | refine blk_alloc ?_ _)); refine blk_far ?_ NB181_193.out _; (with_reducible repeat (first | refine blk_drewN ?_ _ | refine blk_drew ?_ | refine blk_alloc ?_ _)); refine blk_far ?_ NB181_193.out _; (with_reducible repeat (first | refine blk_drewN ?_ _ | refine blk_drew ?_ | refine blk_alloc ?_ _)); refine blk_far ?_ NB181_193.out _; (with_reducible repeat (first | refine blk_drewN ?_ _ | refine blk_drew ?_ | refine blk_alloc ?_ _)); exact BK181.out⟩; have n2_ : Aside0 (((((((((w9.setCell ⟨gb193, 0, none⟩ (.int .i64 t182)).setCell ⟨gb193, 1, none⟩ (.int .i64 t183)).setCell ⟨gb193, 2, none⟩ (.int .i64 t184)).setCell ⟨gb193, 3, none⟩ (.slice Ao12 t185.length co12)).setCell ⟨gb193, 4, none⟩ (.int .i64 t188)).setCell ⟨gb193, 5, none⟩ (.int .i64 t189)).setCell ⟨gb193, 6, none⟩ (.int .i64 t190)).setCell ⟨gb193, 7, none⟩ (.int .i64 t191)).heap[gb193]? = some (.cells #[.int .i64 t182, .int .i64 t183, .int .i64 t184, .slice Ao12 t185.length co12, .int .i64 t188, .int .i64 t189, .int .i64 t190, .int .i64 t191] 38 (0, 0))) := ⟨by (with_reducible repeat (first | refine blk_drewN ?_ _ | refine blk_drew ?_ | refine blk_alloc ?_ _)); refine blk_put (cs := #[.int .i64 t182, .int .i64 t183, .int .i64 t184, .slice Ao12 t185.length co12, .int .i64 t188, .int .i64 t189, .int .i64 t190, .int .i64 0]) ?_ 7 _ rfl; (with_reducible repeat (first | refine blk_drewN ?_ _ | refine blk_drew ?_ | refine blk_alloc ?_ _)); refine blk_put (cs := #[.int .i64 t182, .int .i64 t183, .int .i64 t184, .slice Ao12 t185.length co12, .int .i64 t188, .int .i64 t189, .int .i64 0, .int .i64 0]) ?_ 6 _ rfl; (with_reducible repeat (first | refine blk_drewN ?_ _ | refine blk_drew ?_ | refine blk_alloc ?_ _)); refine blk_put (cs := #[.int .i64 t182, .int .i64 t183, .int .i64 t184, .slice Ao12 t185.length co12, .int .i64 t188, .int .i64 0, .int .i64 0, .int .i64 0]) ?_ 5 _ rfl; (with_reducible repeat (first | refine blk_drewN ?_ _ | refine blk_drew ?_ | refine blk_alloc ?_ _)); refine blk_put (cs := #[.int .i64 t182, .int .i64 t183, .int .i64 t184, .slice Ao12 t185.length co12, .int .i64 0, .int .i64 0, .int .i64 0, .int .i64 0]) ?_ 4 _ rfl; (with_reducible repeat (first | refine blk_drewN ?_ _ | refine blk_drew ?_ | refine blk_alloc ?_ _)); refine blk_put (cs := #[.int .i64 t182, .int .i64 t183, .int .i64 t184, .slice none 0 0, .int .i64 0, .int .i64 0, .int .i64 0, .int .i64 0]) ?_ 3 _ rfl; (with_reducible repeat (first | refine blk_drewN ?_ _ | refine blk_drew ?_ | refine blk_alloc ?_ _)); refine blk_put (cs := #[.int .i64 t182, .int .i64 t183, .int .i64 0, .slice none 0 0, .int .i64 0, .int .i64 0, .int .i64 0, .int .i64 0]) ?_ 2 _ rfl; (with_reducible repeat (first | refine blk_drewN ?_ _ | refine blk_drew ?_ | refine blk_alloc ?_ _)); refine blk_put (cs := #[.int .i64 t182, .int .i64 0, .int .i64 0, .slice none 0 0, .int .i64 0, .int .i64 0, .int .i64 0, .int .i64 0]) ?_ 1 _ rfl; (with_reducible repeat (first | refine blk_drewN ?_ _ | refine blk_drew ?_ | refine blk_alloc ?_ _)); refine blk_put (cs := #[.int .i64 0, .int .i64 0, .int .i64 0, .slice none 0 0, .int .i64 0, .int .i64 0, .int .i64 0, .int .i64 0]) ?_ 0 _ rfl; (with_reducible repeat (first | refine blk_drewN ?_ _ | refine blk_drew ?_ | refine blk_alloc ?_ _)); exact BK193.out⟩; have n3_ : Aside0 (Below w.heap.size w ((((((((w9.setCell ⟨gb193, 0, none⟩ (.int .i64 t182)).setCell ⟨gb193, 1, none⟩ (.int .i64 t183)).setCell ⟨gb193, 2, none⟩ (.int .i64 t184)).setCell ⟨gb193, 3, none⟩ (.slice Ao12 t185.length co12)).setCell ⟨gb193, 4, none⟩ (.int .i64 t188)).setCell ⟨gb193, 5, none⟩ (.int .i64 t189)).setCell ⟨gb193, 6, none⟩ (.int .i64 t190)).setCell ⟨gb193, 7, none⟩ (.int .i64 t191))) := ⟨be_ HB.out⟩; (try clear HO187); (try clear BK181); (try clear BK193); (try clear HB); generalize ((((((((w9.setCell ⟨gb193, 0, none⟩ (.int .i64 t182)).setCell ⟨gb193, 1, none⟩ (.int .i64 t183)).setCell ⟨gb193, 2, none⟩ (.int .i64 t184)).setCell ⟨gb193, 3, none⟩ (.slice Ao12 t185.length co12)).setCell ⟨gb193, 4, none⟩ (.int .i64 t188)).setCell ⟨gb193, 5, none⟩ (.int .i64 t189)).setCell ⟨gb193, 6, none⟩ (.int .i64 t190)).setCell ⟨gb193, 7, none⟩ (.int .i64 t191)) = w13 at n0_ n1_ n2_ n3_ ⊢; have HO187 := n0_; have BK181 := n1_; have BK193 := n2_; have HB := n3_; clear n0_ n1_ n2_ n3_; replace HO187 := Aside0.mk (Kd.S_drew HO187.out); replace BK181 := Aside0.mk (blk_drew BK181.out); replace BK193 := Aside0.mk (blk_drew BK193.out); replace HB := Aside0.mk (below_drew1 HB.out); refine sta_ 6 (fun w' => CE_ w' gb193 0 (.int .i64 t182) ∧ CE_ w' gb193 1 (.int .i64 t183) ∧ CE_ w' gb193 2 (.int .i64 t184) ∧ CE_ w' gb193 3 (.slice Ao12 t185.length co12) ∧ CE_ w' gb193 4 (.int .i64 t188) ∧ CE_ w' gb193 5 (.int .i64 t189) ∧ CE_ w' gb193 6 (.int .i64 t190) ∧ CE_ w' gb193 7 (.int .i64 t191)) (cel8_ (bu_ BK193.out)) (fun hHeld => ?_); generalize w13.drew = w14 at HO187 BK181 BK193 HB hHeld ⊢; refine take_ (i := 0) (N := some 17) (v := ?_) (a' := ?_) (bl_ 6 1) rfl rfl (by kernel_rfl) (fun _ _ _ h => h) (Or.inl ⟨by rfl, ?_⟩) hHeld ?_ ?_; rotate_left; (· rintro w' ⟨s0, s1, s2, s3, s4, s5, s6, s7⟩; go_simp; with_reducible rfl); rotate_left; (· simp only [Act.put, List.setIfInBounds_toArray, List.set_cons_zero, List.set_cons_succ, i64_w, i32_w]; rfl); refine join_ (σ := Value × Value) 3 (bl_ 6 7) (fun s_ => [(18, s_.1), (19, s_.2)]) (fun s_ w' => (w'.cell? ⟨gb193, 0, none⟩ = some (.int .i64 t182) ∧ w'.cell? ⟨gb193, 1, none⟩ = some (.int .i64 t183) ∧ w'.cell? ⟨gb193, 2, none⟩ = some (.int .i64 t184) ∧ w'.cell? ⟨gb193, 3, none⟩ = some (.slice Ao12 t185.length co12) ∧ w'.cell? ⟨gb193, 4, none⟩ = some (.int .i64 t188) ∧ w'.cell? ⟨gb193, 5, none⟩ = some (.int .i64 t189) ∧ w'.cell? ⟨gb193, 6, none⟩ = some (.int .i64 t190) ∧ w'.cell? ⟨gb193, 7, none⟩ = some (.int .i64 t191)) ∧ (Kd.S k27 27 w' w.heap.size (fun _ => True) (.slice Ao12 t185.length co12) t185) ∧ (Kd.R k88 88 w' w.heap.size (fun _ => True) s_.1 y194) ∧ (Kd.R Kd.bool 4 w' w.heap.size (fun _ => True) s_.2 y197) ∧ (w'.heap[gb181]? = some (.cells #[.int .i64 0, .int .i64 0, .int .i64 0, .slice none 0 0, .int .i64 0, .int .i64 0, .int .i64 0, .int .i64 0, .slice none 0 0, .slice none 0 0, .slice none 0 0] 55 (0, 0))) ∧ (w'.heap[gb193]? = some (.cells #[.int .i64 t182, .int .i64 t183, .int .i64 t184, .slice Ao12 t185.length co12, .int .i64 t188, .int .i64 t189, .int .i64 t190, .int .i64 t191] 38 (0, 0))) ∧ (Below w.heap.size w w')) ?_ ?_
    rotate_left
    ·
     intro hCont; refine two_ (i := 1) (j := 2) (Ni := some 18) (Nj := some 19) (bl_ 6 3) (bl_ 6 5) rfl rfl rfl rfl (by kernel_rfl) (by decide) (by decide) (fun K hK => ?_) (fun K hK => ?_)
     ·
      refine Kd.R_make_step k88 _ 88 (by rfl) (N := 18) rfl 51 _ _ rfl 4 rfl rfl Try.underlying51 (.agg #[(.int .i64 0), (.int .i64 0), (.int .i64 0), (.slice none 0 0)]) 48 info88 rfl (by decide) (by omega) z88 (ok := fun _ => True) (okp := fun _ => True) (k88_mkM _ _ _ z88 (Kd.R_nil _ _ _ _ _)) (fun _ hk => hk) trivial (by omega) (by omega) (Below.refl _ _) (Nat.le_refl _) ?_; intro v195 w15 ho16 hb hg_ hnew_; clear hg_ hnew_; (first | rw [← Ny194.out] at ho16 | (simp only [Int.reduceToNat] at ho16; rw [← Ny194.out] at ho16)); replace HO187 := Aside0.mk (Kd.S_below (by (with_reducible repeat (first | apply Kd.S_alloc | apply Kd.S_drewN | apply Kd.S_drew)); exact HO187.out) hb); have HO196 := Aside0.mk (Kd.R_lower ho16 (below_size (be_ HB.out))); replace BK181 := bb_ BK181 hb; replace BK193 := bb_ BK193 hb; replace HB := hb_ HB hb; clear hb ho16; refine hK.out _ _ (cel8_ (bu_ BK193.out)) (fun hHeld => ?_); clear hK K; refine nm_ 18 (h := ?_); refine one_ (i := 2) (N := some 19) (bl_ 6 7) rfl rfl (by kernel_rfl) (by decide) (fun K hK => ?_); refine Kd.R_make_step Kd.bool _ 4 (by rfl) (N := 19) rfl 52 _ _ rfl 4 rfl rfl Try.underlying52 (.bool false) 1 info4 rfl (by decide) (by omega) false (ok := fun _ => True) (okp := fun _ => True) rfl (fun _ hk => hk) trivial (by omega) (by omega) (Below.refl _ _) (Nat.le_refl _) ?_; intro v198 w17 ho18 hb hg_ hnew_; clear hg_ hnew_; (first | rw [← Ny197.out] at ho18 | (simp only [Int.reduceToNat] at ho18; rw [← Ny197.out] at ho18)); replace HO187 := Aside0.mk (Kd.S_below (by (with_reducible repeat (first | apply Kd.S_alloc | apply Kd.S_drewN | apply Kd.S_drew)); exact HO187.out) hb); replace HO196 := rb_ HO196 hb; have HO199 := Aside0.mk (Kd.R_lower ho18 (below_size (be_ HB.out))); replace BK181 := bb_ BK181 hb; replace BK193 := bb_ BK193 hb; replace HB := hb_ HB hb; clear hb ho18; obtain ⟨Ao19, co19, eo19⟩ := Kd.R_slice HO199.out; (first | subst eo19 | (injection eo19 with f1_ f2_ f3_; have f4_ := f1_.symm; have f5_ := f3_.symm; clear f1_ f2_ f3_; subst f4_; subst f5_)); obtain ⟨Ao20, co20, eo20⟩ := Kd.R_slice HO196.out; (first | subst eo20 | (injection eo20 with f1_ f2_ f3_; have f4_ := f1_.symm; have f5_ := f3_.symm; clear f1_ f2_ f3_; subst f4_; subst f5_)); refine hK.out _ _ (cel8_ (bu_ BK193.out)) (fun hHeld => ?_); clear hK K; refine nm_ 19 (h := ?_); exact norm_ (by simp only [putAll, Act.put, List.setIfInBounds_toArray, List.set_cons_zero, List.set_cons_succ]) (hCont (.slice Ao20 y194.length co20, .slice Ao19 y197.length co19) _ ⟨hHeld, (by (with_reducible repeat (first | apply Kd.S_alloc | apply Kd.S_drewN | apply Kd.S_drew)); exact HO187.out), (ra_ HO196.out), (ra_ HO199.out), (bu_ BK181.out), (bu_ BK193.out), (be_ HB.out)⟩)
     ·
      refine Kd.R_make_step Kd.bool _ 4 (by rfl) (N := 19) rfl 52 _ _ rfl 4 rfl rfl Try.underlying52 (.bool false) 1 info4 rfl (by decide) (by omega) false (ok := fun _ => True) (okp := fun _ => True) rfl (fun _ hk => hk) trivial (by omega) (by omega) (Below.refl _ _) (Nat.le_refl _) ?_; intro v198 w15 ho16 hb hg_ hnew_; clear hg_ hnew_; (first | rw [← Ny197.out] at ho16 | (simp only [Int.reduceToNat] at ho16; rw [← Ny197.out] at ho16)); replace HO187 := Aside0.mk (Kd.S_below (by (with_reducible repeat (first | apply Kd.S_alloc | apply Kd.S_drewN | apply Kd.S_drew)); exact HO187.out) hb); have HO199 := Aside0.mk (Kd.R_lower ho16 (below_size (be_ HB.out))); replace BK181 := bb_ BK181 hb; replace BK193 := bb_ BK193 hb; replace HB := hb_ HB hb; clear hb ho16; refine hK.out _ _ (cel8_ (bu_ BK193.out)) (fun hHeld => ?_); clear hK K; refine nm_ 19 (h := ?_); refine one_ (i := 1) (N := some 18) (bl_ 6 7) rfl rfl (by kernel_rfl) (by decide) (fun K hK => ?_); refine Kd.R_make_step k88 _ 88 (by rfl) (N := 18) rfl 51 _ _ rfl 4 rfl rfl Try.underlying51 (.agg #[(.int .i64 0), (.int .i64 0), (.int .i64 0), (.slice none 0 0)]) 48 info88 rfl (by decide) (by omega) z88 (ok := fun _ => True) (okp := fun _ => True) (k88_mkM _ _ _ z88 (Kd.R_nil _ _ _ _ _)) (fun _ hk => hk) trivial (by omega) (by omega) (Below.refl _ _) (Nat.le_refl _) ?_; intro v195 w17 ho18 hb hg_ hnew_; clear hg_ hnew_; (first | rw [← Ny194.out] at ho18 | (simp only [Int.reduceToNat] at ho18; rw [← Ny194.out] at ho18)); replace HO187 := Aside0.mk (Kd.S_below (by (with_reducible repeat (first | apply Kd.S_alloc | apply Kd.S_drewN | apply Kd.S_drew)); exact HO187.out) hb); replace HO199 := rb_ HO199 hb; have HO196 := Aside0.mk (Kd.R_lower ho18 (below_size (be_ HB.out))); replace BK181 := bb_ BK181 hb; replace BK193 := bb_ BK193 hb; replace HB := hb_ HB hb; clear hb ho18; obtain ⟨Ao19, co19, eo19⟩ := Kd.R_slice HO199.out; (first | subst eo19 | (injection eo19 with f1_ f2_ f3_; have f4_ := f1_.symm; have f5_ := f3_.symm; clear f1_ f2_ f3_; subst f4_; subst f5_)); obtain ⟨Ao20, co20, eo20⟩ := Kd.R_slice HO196.out; (first | subst eo20 | (injection eo20 with f1_ f2_ f3_; have f4_ := f1_.symm; have f5_ := f3_.symm; clear f1_ f2_ f3_; subst f4_; subst f5_)); refine hK.out _ _ (cel8_ (bu_ BK193.out)) (fun hHeld => ?_); clear hK K; refine nm_ 18 (h := ?_); exact norm_ (by simp only [putAll, Act.put, List.setIfInBounds_toArray, List.set_cons_zero, List.set_cons_succ]) (hCont (.slice Ao20 y194.length co20, .slice Ao19 y197.length co19) _ ⟨hHeld, (by (with_reducible repeat (first | apply Kd.S_alloc | apply Kd.S_drewN | apply Kd.S_drew)); exact HO187.out), (ra_ HO196.out), (ra_ HO199.out), (bu_ BK181.out), (bu_ BK193.out), (be_ HB.out)⟩)
    rintro ⟨v195, v198⟩ w21 ⟨hS_, h0_, h1_, h2_, h3_, h4_, h5_⟩; (try dsimp only at h0_ h1_ h2_ h3_ h4_ h5_); replace HO187 := Aside0.mk h0_; have HO196 := Aside0.mk h1_; have HO199 := Aside0.mk h2_; replace BK181 := Aside0.mk h3_; replace BK193 := Aside0.mk h4_; replace HB := Aside0.mk h5_; clear h0_ h1_ h2_ h3_ h4_ h5_; have hHeld : w21.cell? ⟨gb193, 0, none⟩ = some (.int .i64 t182) ∧ w21.cell? ⟨gb193, 1, none⟩ = some (.int .i64 t183) ∧ w21.cell? ⟨gb193, 2, none⟩ = some (.int .i64 t184) ∧ w21.cell? ⟨gb193, 3, none⟩ = some (.slice Ao12 t185.length co12) ∧ w21.cell? ⟨gb193, 4, none⟩ = some (.int .i64 t188) ∧ w21.cell? ⟨gb193, 5, none⟩ = some (.int .i64 t189) ∧ w21.cell? ⟨gb193, 6, none⟩ = some (.int .i64 t190) ∧ w21.cell? ⟨gb193, 7, none⟩ = some (.int .i64 t191) := hS_; obtain ⟨Ao22, co22, eo22⟩ := Kd.R_slice HO199.out; (first | subst eo22 | (injection eo22 with f1_ f2_ f3_; have f4_ := f1_.symm; have f5_ := f3_.symm; clear f1_ f2_ f3_; subst f4_; subst f5_)); obtain ⟨Ao23, co23, eo23⟩ := Kd.R_slice HO196.out; (first | subst eo23 | (injection eo23 with f1_ f2_ f3_; have f4_ := f1_.symm; have f5_ := f3_.symm; clear f1_ f2_ f3_; subst f4_; subst f5_)); refine nf_ ?_; refine pure_ (i := 3) (N := some 20) (v := ?_) (a' := ?_) (bl_ 6 15) rfl rfl (by kernel_rfl) (fun _ _ _ h => h) (Or.inl ⟨by rfl, ?_⟩) ?_ ?_; rotate_left; (· intro w'; go_simp; with_reducible rfl); rotate_left; (· simp only [Act.put, List.setIfInBounds_toArray, List.set_cons_zero, List.set_cons_succ, i64_w, i32_w]; rfl); refine one_ (i := 4) (N := none) (bl_ 6 31) rfl rfl (by kernel_rfl) (by decide) (fun K hK => ?_); have hs24 : w21.cell? ⟨gb181, 0, none⟩ = some (.int .i64 0) := bk_ BK181 0; have hfs24 := blk_frozen BK181.out 0; have hns24_1 := NB193_181.out; have hms24_1 := NB181_193.out; have hs25 : w21.cell? ⟨gb181, 1, none⟩ = some (.int .i64 0) := bk_ BK181 1; have hfs25 := blk_frozen BK181.out 1; have hns25_1 := NB193_181.out; have hms25_1 := NB181_193.out; have hs26 : w21.cell? ⟨gb181, 2, none⟩ = some (.int .i64 0) := bk_ BK181 2; have hfs26 := blk_frozen BK181.out 2; have hns26_1 := NB193_181.out; have hms26_1 := NB181_193.out; have hs27 : w21.cell? ⟨gb181, 3, none⟩ = some (.slice none 0 0) := bk_ BK181 3; have hfs27 := blk_frozen BK181.out 3; have hns27_1 := NB193_181.out; have hms27_1 := NB181_193.out; have hs28 : w21.cell? ⟨gb181, 4, none⟩ = some (.int .i64 0) := bk_ BK181 4; have hfs28 := blk_frozen BK181.out 4; have hns28_1 := NB193_181.out; have hms28_1 := NB181_193.out; have hs29 : w21.cell? ⟨gb181, 5, none⟩ = some (.int .i64 0) := bk_ BK181 5; have hfs29 := blk_frozen BK181.out 5; have hns29_1 := NB193_181.out; have hms29_1 := NB181_193.out; have hs30 : w21.cell? ⟨gb181, 6, none⟩ = some (.int .i64 0) := bk_ BK181 6; have hfs30 := blk_frozen BK181.out 6; have hns30_1 := NB193_181.out; have hms30_1 := NB181_193.out; have hs31 : w21.cell? ⟨gb181, 7, none⟩ = some (.int .i64 0) := bk_ BK181 7; have hfs31 := blk_frozen BK181.out 7; have hns31_1 := NB193_181.out; have hms31_1 := NB181_193.out; have hs32 : w21.cell? ⟨gb181, 8, none⟩ = some (.slice none 0 0) := bk_ BK181 8; have hfs32 := blk_frozen BK181.out 8; have hns32_1 := NB193_181.out; have hms32_1 := NB181_193.out; have hs33 : w21.cell? ⟨gb181, 9, none⟩ = some (.slice none 0 0) := bk_ BK181 9; have hfs33 := blk_frozen BK181.out 9; have hns33_1 := NB193_181.out; have hms33_1 := NB181_193.out; have hs34 : w21.cell? ⟨gb181, 10, none⟩ = some (.slice none 0 0) := bk_ BK181 10; have hfs34 := blk_frozen BK181.out 10; have hns34_1 := NB193_181.out; have hms34_1 := NB181_193.out; refine skip_ (w1 := ?_) (by rfl) rfl ?_ ?_
    rotate_left
    ·
     go_simp
     rfl
    refine hK.out _ _ ⟨(cfn_ NB193_181.out ((cfn_ NB193_181.out ((cfn_ NB193_181.out ((cfn_ NB193_181.out ((cfn_ NB193_181.out ((cfn_ NB193_181.out ((cfn_ NB193_181.out ((cfn_ NB193_181.out ((cfn_ NB193_181.out ((cfn_ NB193_181.out ((cfn_ NB193_181.out (hHeld.1)))))))))))))))))))))), (cfn_ NB193_181.out ((cfn_ NB193_181.out ((cfn_ NB193_181.out ((cfn_ NB193_181.out ((cfn_ NB193_181.out ((cfn_ NB193_181.out ((cfn_ NB193_181.out ((cfn_ NB193_181.out ((cfn_ NB193_181.out ((cfn_ NB193_181.out ((cfn_ NB193_181.out (hHeld.2.1)))))))))))))))))))))), (cfn_ NB193_181.out ((cfn_ NB193_181.out ((cfn_ NB193_181.out ((cfn_ NB193_181.out ((cfn_ NB193_181.out ((cfn_ NB193_181.out ((cfn_ NB193_181.out ((cfn_ NB193_181.out ((cfn_ NB193_181.out ((cfn_ NB193_181.out ((cfn_ NB193_181.out (hHeld.2.2.1)))))))))))))))))))))), (cfn_ NB193_181.out ((cfn_ NB193_181.out ((cfn_ NB193_181.out ((cfn_ NB193_181.out ((cfn_ NB193_181.out ((cfn_ NB193_181.out ((cfn_ NB193_181.out ((cfn_ NB193_181.out ((cfn_ NB193_181.out ((cfn_ NB193_181.out ((cfn_ NB193_181.out (hHeld.2.2.2.1)))))))))))))))))))))), (cfn_ NB193_181.out ((cfn_ NB193_181.out ((cfn_ NB193_181.out ((cfn_ NB193_181.out ((cfn_ NB193_181.out ((cfn_ NB193_181.out ((cfn_ NB193_181.out ((cfn_ NB193_181.out ((cfn_ NB193_181.out ((cfn_ NB193_181.out ((cfn_ NB193_181.out (hHeld.2.2.2.2.1)))))))))))))))))))))), (cfn_ NB193_181.out ((cfn_ NB193_181.out ((cfn_ NB193_181.out ((cfn_ NB193_181.out ((cfn_ NB193_181.out ((cfn_ NB193_181.out ((cfn_ NB193_181.out ((cfn_ NB193_181.out ((cfn_ NB193_181.out ((cfn_ NB193_181.out ((cfn_ NB193_181.out (hHeld.2.2.2.2.2.1)))))))))))))))))))))), (cfn_ NB193_181.out ((cfn_ NB193_181.out ((cfn_ NB193_181.out ((cfn_ NB193_181.out ((cfn_ NB193_181.out ((cfn_ NB193_181.out ((cfn_ NB193_181.out ((cfn_ NB193_181.out ((cfn_ NB193_181.out ((cfn_ NB193_181.out ((cfn_ NB193_181.out (hHeld.2.2.2.2.2.2.1)))))))))))))))))))))), (cfn_ NB193_181.out ((cfn_ NB193_181.out ((cfn_ NB193_181.out ((cfn_ NB193_181.out ((cfn_ NB193_181.out ((cfn_ NB193_181.out ((cfn_ NB193_181.out ((cfn_ NB193_181.out ((cfn_ NB193_181.out ((cfn_ NB193_181.out ((cfn_ NB193_181.out (hHeld.2.2.2.2.2.2.2))))))))))))))))))))))⟩ (fun hHeld => ?_); clear hK K; refine pure_ (i := 5) (N := some 5) (v := ?_) (a' := ?_) (bl_ 6 63) rfl rfl (by kernel_rfl) (fun _ _ _ h => h) (Or.inl ⟨by rfl, ?_⟩) ?_ ?_; rotate_left; (· intro w'; go_simp; with_reducible rfl); rotate_left; (· simp only [Act.put, List.setIfInBounds_toArray, List.set_cons_zero, List.set_cons_succ, i64_w, i32_w]; rfl); refine done_ (by kernel_rfl) ?_
    try go_wp2
    refine bodyPost_ret (results_ct rfl _ _ gb181 55 #[.int .i64 t182, .int .i64 t183, .int .i64 t184, .slice Ao12 t185.length co12, .int .i64 t188, .int .i64 t189, .int .i64 t190, .int .i64 t191, .slice Ao23 y194.length co23, .slice Ao22 y197.length co22, .slice none 0 0] (0, 0) _ rfl (bq_ BK181.out) Try.underlying55 rfl (by kernel_rfl)) rfl ?_; exact ⟨_, _, _, _, by first | rfl | (simp [errW_none, errW_some] <;> rfl) | (simp [*, errW_none, errW_some] <;> rfl), by (with_reducible repeat (first | apply Kd.S_alloc | apply Kd.S_drewN | apply Kd.S_drew)); exact Kd.S_mono (Kd.S_far (p := ⟨gb181, 10, none⟩) (Kd.S_far (p := ⟨gb181, 9, none⟩) (Kd.S_far (p := ⟨gb181, 8, none⟩) (Kd.S_far (p := ⟨gb181, 7, none⟩) (Kd.S_far (p := ⟨gb181, 6, none⟩) (Kd.S_far (p := ⟨gb181, 5, none⟩) (Kd.S_far (p := ⟨gb181, 4, none⟩) (Kd.S_far (p := ⟨gb181, 3, none⟩) (Kd.S_far (p := ⟨gb181, 2, none⟩) (Kd.S_far (p := ⟨gb181, 1, none⟩) (Kd.S_far (p := ⟨gb181, 0, none⟩) (Kd.S_types HO187.out BK181.out (by decide)) (fun _ hk => hk.2) (.int .i64 t182)) (fun _ hk => hk.2) (.int .i64 t183)) (fun _ hk => hk.2) (.int .i64 t184)) (fun _ hk => hk.2) (.slice Ao12 t185.length co12)) (fun _ hk => hk.2) (.int .i64 t188)) (fun _ hk => hk.2) (.int .i64 t189)) (fun _ hk => hk.2) (.int .i64 t190)) (fun _ hk => hk.2) (.int .i64 t191)) (fun _ hk => hk.2) (.slice Ao23 y194.length co23)) (fun _ hk => hk.2) (.slice Ao22 y197.length co22)) (fun _ hk => hk.2) (.slice none 0 0)) (fun _ hk => trivial), by (with_reducible repeat (first | apply Kd.R_alloc | apply Kd.R_drewN | apply Kd.R_drew)); exact Kd.R_mono (Kd.R_far (p := ⟨gb181, 10, none⟩) (Kd.R_far (p := ⟨gb181, 9, none⟩) (Kd.R_far (p := ⟨gb181, 8, none⟩) (Kd.R_far (p := ⟨gb181, 7, none⟩) (Kd.R_far (p := ⟨gb181, 6, none⟩) (Kd.R_far (p := ⟨gb181, 5, none⟩) (Kd.R_far (p := ⟨gb181, 4, none⟩) (Kd.R_far (p := ⟨gb181, 3, none⟩) (Kd.R_far (p := ⟨gb181, 2, none⟩) (Kd.R_far (p := ⟨gb181, 1, none⟩) (Kd.R_far (p := ⟨gb181, 0, none⟩) (Kd.R_types HO196.out BK181.out (by decide)) (fun _ hk => hk.2) (.int .i64 t182)) (fun _ hk => hk.2) (.int .i64 t183)) (fun _ hk => hk.2) (.int .i64 t184)) (fun _ hk => hk.2) (.slice Ao12 t185.length co12)) (fun _ hk => hk.2) (.int .i64 t188)) (fun _ hk => hk.2) (.int .i64 t189)) (fun _ hk => hk.2) (.int .i64 t190)) (fun _ hk => hk.2) (.int .i64 t191)) (fun _ hk => hk.2) (.slice Ao23 y194.length co23)) (fun _ hk => hk.2) (.slice Ao22 y197.length co22)) (fun _ hk => hk.2) (.slice none 0 0)) (fun _ hk => trivial), by (with_reducible repeat (first | apply Kd.R_alloc | apply Kd.R_drewN | apply Kd.R_drew)); exact Kd.R_mono (Kd.R_far (p := ⟨gb181, 10, none⟩) (Kd.R_far (p := ⟨gb181, 9, none⟩) (Kd.R_far (p := ⟨gb181, 8, none⟩) (Kd.R_far (p := ⟨gb181, 7, none⟩) (Kd.R_far (p := ⟨gb181, 6, none⟩) (Kd.R_far (p := ⟨gb181, 5, none⟩) (Kd.R_far (p := ⟨gb181, 4, none⟩) (Kd.R_far (p := ⟨gb181, 3, none⟩) (Kd.R_far (p := ⟨gb181, 2, none⟩) (Kd.R_far (p := ⟨gb181, 1, none⟩) (Kd.R_far (p := ⟨gb181, 0, none⟩) (Kd.R_types HO199.out BK181.out (by decide)) (fun _ hk => hk.2) (.int .i64 t182)) (fun _ hk => hk.2) (.int .i64 t183)) (fun _ hk => hk.2) (.int .i64 t184)) (fun _ hk => hk.2) (.slice Ao12 t185.length co12)) (fun _ hk => hk.2) (.int .i64 t188)) (fun _ hk => hk.2) (.int .i64 t189)) (fun _ hk => hk.2) (.int .i64 t190)) (fun _ hk => hk.2) (.int .i64 t191)) (fun _ hk => hk.2) (.slice Ao23 y194.length co23)) (fun _ hk => hk.2) (.slice Ao22 y197.length co22)) (fun _ hk => hk.2) (.slice none 0 0)) (fun _ hk => trivial), by first | exact Kd.R_nil _ _ _ _ _ | exact Kd.N_nil _ _ _ _ _ | exact Kd.V_nil _ _ _ _ _ | exact Kd.Q_nil _ _ _ _ _ | exact Kd.S_nil _ _ _ _ _, be_ HB.out⟩
   ·
    rw [if_neg c6] at H; exact absurd H (by simp)
  ·
   rw [if_neg c5] at H; exact absurd H (by simp)
 ·
  replace c4 := Bool.eq_false_iff.mpr c4; subst c4; have H1 : (some (0, 0, 0, ([] : List (S27)), 0, 0, 0, 0, ([] : List (S88)), ([] : List Bool), ([] : List (S95)), false)) = some (r1, r2, r3, r4, r5, r6, r7, r8, r9, r10, r11, r12) := by rw [if_neg (show ¬ (false = true) by decide)] at H; exact H
  clear H; have H := H1; clear H1; simp only [Option.some.injEq, Prod.mk.injEq] at H; obtain ⟨rfl, rfl, rfl, rfl, rfl, rfl, rfl, rfl, rfl, rfl, rfl, rfl⟩ := H
  go_enter Try.func46, Try.ntmps46
  go_wp2_with (first | ((with_reducible refine gate_dst (N := 4) rfl ?_); refine bz_ 4 ?_; intro gb181 hg w35 hbox hb; obtain ⟨BK181, GW181, GE181, HB⟩ := nb_ hg hbox HB hb; clear hb hbox hg) | ((with_reducible refine gc_ 25 ?_); refine gl_ (some 11) Try.func25 #[.int .i64 a0, .int .i64 a1] ?_; (with_reducible refine (impl_NewSched.calls A3.out).mono ?_); rintro e w36 ⟨v186, rfl, ho0, hb⟩; refine ⟨_, rfl, ?_⟩; have HO187 := Aside0.mk (Kd.S_lower ho0 (below_size (be_ HB.out))); replace BK181 := bb_ BK181 hb; replace HB := hb_ HB hb; (try clear hb ho0)) | ((with_reducible refine gate_dst (N := 6) rfl ?_); refine bz_ 6 ?_; intro gb193 hg w37 hbox hb; replace HO187 := Aside0.mk (Kd.S_below (by (with_reducible repeat (first | apply Kd.S_alloc | apply Kd.S_drewN | apply Kd.S_drew)); exact HO187.out) hb); obtain ⟨BK193, GW193, GE193, HB⟩ := nb_ hg hbox HB hb; have NB181_193 := nx_ hg BK181; have NB193_181 := ny_ hg BK181; replace BK181 := bb_ BK181 hb; clear hb hbox hg; have hnb38 := NB193_181.out; have hnc38 := NB181_193.out; have hcz39 := box8_ BK193.out; obtain ⟨Ao40, co40, eo40⟩ := Kd.S_slice HO187.out; subst eo40; have hcz41 := box11_ BK181.out))
  refine bodyPost_ret (results_ct rfl _ _ gb181 55 #[.int .i64 0, .int .i64 0, .int .i64 0, .slice none 0 0, .int .i64 0, .int .i64 0, .int .i64 0, .int .i64 0, .slice none 0 0, .slice none 0 0, .slice none 0 0] (0, 0) _ rfl (bq_ BK181.out) Try.underlying55 rfl (by kernel_rfl)) rfl ?_; exact ⟨_, _, _, _, by first | rfl | (simp [errW_none, errW_some] <;> rfl) | (simp [*, errW_none, errW_some] <;> rfl), by first | exact Kd.S_nil _ _ _ _ _ | exact Kd.N_nil _ _ _ _ _ | exact Kd.V_nil _ _ _ _ _ | exact Kd.Q_nil _ _ _ _ _ | exact Kd.R_nil _ _ _ _ _, by first | exact Kd.R_nil _ _ _ _ _ | exact Kd.N_nil _ _ _ _ _ | exact Kd.V_nil _ _ _ _ _ | exact Kd.Q_nil _ _ _ _ _ | exact Kd.S_nil _ _ _ _ _, by first | exact Kd.R_nil _ _ _ _ _ | exact Kd.N_nil _ _ _ _ _ | exact Kd.V_nil _ _ _ _ _ | exact Kd.Q_nil _ _ _ _ _ | exact Kd.S_nil _ _ _ _ _, by first | exact Kd.R_nil _ _ _ _ _ | exact Kd.N_nil _ _ _ _ _ | exact Kd.V_nil _ _ _ _ _ | exact Kd.Q_nil _ _ _ _ _ | exact Kd.S_nil _ _ _ _ _, be_ HB.out⟩

/-! ### laws_eqIntS: function 38 -/
def laws_eqIntS.l0 : Nat → List Int → List Int → Int → Option (Bool)
 | 0, _, _, _ => none
 | k + 1, x0, x1, x5 => if x5 < (x0.length : Int) then (if 0 ≤ x5 then (if x5 < (x1.length : Int) then (if (rd x0 x5) = (rd x1 x5) then (laws_eqIntS.l0 k x0 x1 (wrap64 (x5 + 1))) else (some false)) else (none)) else (none)) else (some true)
def laws_eqIntS.f (k : Nat) (l0 : List Int) (l1 : List Int) : Option (Bool) := if (l0.length : Int) = (l1.length : Int) then (laws_eqIntS.l0 k l0 l1 0) else (some false)
set_option maxHeartbeats 8000000 in
set_option maxRecDepth 100000 in
theorem laws_eqIntS.calls {k : Nat} {A0 : Option Addr} {c0 : Nat} {l0 : List Int} {A1 : Option Addr} {c1 : Nat} {l1 : List Int} {r : Bool} {w : World} (hr0 : Kd.C (Kd.int .i64) w A0 l0.length l0) (hc0 : l0.length ≤ c0) (hr1 : Kd.C (Kd.int .i64) w A1 l1.length l1) (hc1 : l1.length ≤ c1) (h : laws_eqIntS.f k l0 l1 = some r) :
  Calls Try.prog 38 #[.slice A0 l0.length c0, .slice A1 l1.length c1] w fun e w' => e = .returned (.bool r) ∧ Drawn0 w w' := by
 have HR0 := Aside0.mk hr0; have HC0 := Aside0.mk hc0; clear hr0 hc0; have HR1 := Aside0.mk hr1; have HC1 := Aside0.mk hc1; clear hr1 hc1; have H : (if (l0.length : Int) = (l1.length : Int) then (laws_eqIntS.l0 k l0 l1 0) else (some false)) = some r := h; clear h
 by_cases c3 : (l0.length : Int) = (l1.length : Int)
 ·
  rw [if_pos c3] at H; have c3b0 : ((l0.length : Int) == (l1.length : Int)) = true := beq_iff_eq.mpr c3; have c3b1 : ((l0.length : Int) != (l1.length : Int)) = false := bne_eq_false_iff_eq.mpr c3; have c3b2 : (l0.length == l1.length) = true := by first | simpa using c3 | (simp at c3 ⊢; omega)
  clear c3; have H' := Aside0.mk H; clear H
  go_enter Try.func38, Try.ntmps38
  go_wp2
  repeat (go_quiet (fail); try go_wp2)
  go_loopg [5] k (fun kq v5 w' => ∃ (x5_1 : Int), v5 = .int .i64 x5_1 ∧ Aside0 (laws_eqIntS.l0 kq l0 l1 x5_1 = some r) ∧ Aside0 (kq ≤ k) ∧ Drawn0 w w')
  case atStart => exact ⟨(0), (by first | rfl | (simp; done) | (simp [*]; done)), H', ⟨Nat.le_refl _⟩, by repeat (first | exact Drawn0.refl _ | apply Drawn0.step)⟩
  case round =>
   clear H'; (try clear c1); (try clear p2); (try clear c3); (try clear c3b0); (try clear c3b1); (try clear c3b2); obtain ⟨x5_1, rfl, HA, HK1, ⟨m1, rfl⟩⟩ := hrel
   cases gk with
   | zero => exact absurd HA.out (by simp [laws_eqIntS.l0])
   | succ k1 =>
    have H := HA.out; clear HA; simp only [laws_eqIntS.l0] at H
    by_cases c4 : x5_1 < (l0.length : Int)
    ·
     rw [if_pos c4] at H; have c4b0 : decide (x5_1 < (l0.length : Int)) = true := decide_eq_true c4; clear c4
     by_cases c5 : 0 ≤ x5_1
     ·
      rw [if_pos c5] at H; have c5b0 : decide (0 ≤ x5_1) = true := decide_eq_true c5; clear c5
      by_cases c6 : x5_1 < (l1.length : Int)
      ·
       rw [if_pos c6] at H; have c6b0 : decide (x5_1 < (l1.length : Int)) = true := decide_eq_true c6; clear c6
       by_cases c7 : (rd l0 x5_1) = (rd l1 x5_1)
       ·
        rw [if_pos c7] at H; have c7b0 : ((rd l0 x5_1) == (rd l1 x5_1)) = true := beq_iff_eq.mpr c7; have c7b1 : ((rd l0 x5_1) != (rd l1 x5_1)) = false := bne_eq_false_iff_eq.mpr c7; clear c7; have H' := Aside0.mk H; clear H; have p200 : 0 ≤ (x5_1 : Int) := od_; have q200 : x5_1 < (l0.length : Int) := od_; obtain ⟨ad200, e200, hx200_0⟩ := Kd.at_int HR0.out x5_1 p200 q200
        cases e200
        replace p200 := eq_true p200; replace q200 := eq_true q200; have p201 : 0 ≤ (x5_1 : Int) := od_; have q201 : x5_1 < (l1.length : Int) := od_; obtain ⟨ad201, e201, hx201_0⟩ := Kd.at_int HR1.out x5_1 p201 q201
        cases e201
        replace p201 := eq_true p201; replace q201 := eq_true q201
        go_wp2
        repeat (go_quiet (fail); try go_wp2)
        go_roundg k1
        case measure => have := HK1.out; omega
        case rel => exact ⟨(wrap64 (x5_1 + 1)), (by first | rfl | (simp; done) | (simp [*]; done)), H', ⟨by have := HK1.out; omega⟩, by repeat (first | exact Drawn0.refl _ | apply Drawn0.step)⟩
       ·
        rw [if_neg c7] at H; have c7b0 : ((rd l0 x5_1) == (rd l1 x5_1)) = false := beq_eq_false_iff_ne.mpr c7; have c7b1 : ((rd l0 x5_1) != (rd l1 x5_1)) = true := bne_iff_ne.mpr c7; obtain rfl := Option.some.inj H; have p200 : 0 ≤ (x5_1 : Int) := od_; have q200 : x5_1 < (l0.length : Int) := od_; obtain ⟨ad200, e200, hx200_0⟩ := Kd.at_int HR0.out x5_1 p200 q200
        cases e200
        replace p200 := eq_true p200; replace q200 := eq_true q200; have p201 : 0 ≤ (x5_1 : Int) := od_; have q201 : x5_1 < (l1.length : Int) := od_; obtain ⟨ad201, e201, hx201_0⟩ := Kd.at_int HR1.out x5_1 p201 q201
        cases e201
        replace p201 := eq_true p201; replace q201 := eq_true q201
        go_wp2
        repeat (go_quiet (fail); try go_wp2)
        go_ret
        exact ⟨by first | rfl | (simp; done) | (simp [*]; done), by repeat (first | exact Drawn0.refl _ | apply Drawn0.step)⟩
      ·
       rw [if_neg c6] at H; exact absurd H (by simp)
     ·
      rw [if_neg c5] at H; exact absurd H (by simp)
    ·
     rw [if_neg c4] at H; have c4b0 : decide (x5_1 < (l0.length : Int)) = false := decide_eq_false c4; clear c4; obtain rfl := Option.some.inj H
     go_wp2
     repeat (go_quiet (fail); try go_wp2)
     go_ret
     exact ⟨by first | rfl | (simp; done) | (simp [*]; done), by repeat (first | exact Drawn0.refl _ | apply Drawn0.step)⟩
 ·
  rw [if_neg c3] at H; have c3b0 : ((l0.length : Int) == (l1.length : Int)) = false := beq_eq_false_iff_ne.mpr c3; have c3b1 : ((l0.length : Int) != (l1.length : Int)) = true := bne_iff_ne.mpr c3; have c3b2 : (l0.length == l1.length) = false := by first | simpa using c3 | (simp at c3 ⊢; omega)
  obtain rfl := Option.some.inj H
  go_enter Try.func38, Try.ntmps38
  go_wp2
  repeat (go_quiet (fail); try go_wp2)
  go_ret
  exact ⟨by first | rfl | (simp; done) | (simp [*]; done), by repeat (first | exact Drawn0.refl _ | apply Drawn0.step)⟩

/-! ### laws_eqTask: function 18 -/
def laws_eqTask.f (k : Nat) (a0_0 : Int) (l0_1 : List Int) (a0_2 : Int) (a0_3 : Int) (a0_4 : Int) (a1_0 : Int) (l1_1 : List Int) (a1_2 : Int) (a1_3 : Int) (a1_4 : Int) : Option (Bool) := if a0_0 = a1_0 then ((laws_eqIntS.f k l0_1 l1_1).bind fun t204 => (if t204 = true then (if a0_2 = a1_2 then (if a0_3 = a1_3 then (if a0_4 = a1_4 then (some true) else (some false)) else (some false)) else (some false)) else (some false))) else (some false)
set_option maxHeartbeats 8000000 in
set_option maxRecDepth 100000 in
theorem laws_eqTask.calls {k : Nat} {a0_0 : Int} {A0_1 : Option Addr} {c0_1 : Nat} {l0_1 : List Int} {a0_2 : Int} {a0_3 : Int} {a0_4 : Int} {a1_0 : Int} {A1_1 : Option Addr} {c1_1 : Nat} {l1_1 : List Int} {a1_2 : Int} {a1_3 : Int} {a1_4 : Int} {r : Bool} {w : World} (hr0_1 : Kd.C (Kd.int .i64) w A0_1 l0_1.length l0_1) (hc0_1 : l0_1.length ≤ c0_1) (hr1_1 : Kd.C (Kd.int .i64) w A1_1 l1_1.length l1_1) (hc1_1 : l1_1.length ≤ c1_1) (h : laws_eqTask.f k a0_0 l0_1 a0_2 a0_3 a0_4 a1_0 l1_1 a1_2 a1_3 a1_4 = some r) :
  Calls Try.prog 18 #[.agg #[.int .i64 a0_0, .slice A0_1 l0_1.length c0_1, .int .i64 a0_2, .int .i64 a0_3, .int .i64 a0_4], .agg #[.int .i64 a1_0, .slice A1_1 l1_1.length c1_1, .int .i64 a1_2, .int .i64 a1_3, .int .i64 a1_4]] w fun e w' => e = .returned (.bool r) ∧ Below w.heap.size w w' := by
 have hu27 := Try.underlying27; have HR0_1 := Aside0.mk hr0_1; have HC0_1 := Aside0.mk hc0_1; clear hr0_1 hc0_1; have HR1_1 := Aside0.mk hr1_1; have HC1_1 := Aside0.mk hc1_1; clear hr1_1 hc1_1; have HB := Aside0.mk (Below.refl w.heap.size w); have H : (if a0_0 = a1_0 then ((laws_eqIntS.f k l0_1 l1_1).bind fun t204 => (if t204 = true then (if a0_2 = a1_2 then (if a0_3 = a1_3 then (if a0_4 = a1_4 then (some true) else (some false)) else (some false)) else (some false)) else (some false))) else (some false)) = some r := h; clear h
 by_cases c3 : a0_0 = a1_0
 ·
  rw [if_pos c3] at H; have c3b0 : (a0_0 == a1_0) = true := beq_iff_eq.mpr c3; have c3b1 : (a0_0 != a1_0) = false := bne_eq_false_iff_eq.mpr c3; clear c3; obtain ⟨t204, A4, H⟩ := bo_ H; (try dsimp only at H)
  by_cases c5 : t204 = true
  ·
   subst c5; rw [if_pos rfl] at H
   by_cases c6 : a0_2 = a1_2
   ·
    rw [if_pos c6] at H; have c6b0 : (a0_2 == a1_2) = true := beq_iff_eq.mpr c6; have c6b1 : (a0_2 != a1_2) = false := bne_eq_false_iff_eq.mpr c6; clear c6
    by_cases c7 : a0_3 = a1_3
    ·
     rw [if_pos c7] at H; have c7b0 : (a0_3 == a1_3) = true := beq_iff_eq.mpr c7; have c7b1 : (a0_3 != a1_3) = false := bne_eq_false_iff_eq.mpr c7; clear c7
     by_cases c8 : a0_4 = a1_4
     ·
      rw [if_pos c8] at H; have c8b0 : (a0_4 == a1_4) = true := beq_iff_eq.mpr c8; have c8b1 : (a0_4 != a1_4) = false := bne_eq_false_iff_eq.mpr c8; clear c8; obtain rfl := Option.some.inj H
      go_enter Try.func18, Try.ntmps18
      go_wp2_with (first | ((with_reducible refine gate_dst (N := 2) rfl ?_); refine bz_ 2 ?_; intro gb202 hg w9 hbox hb; obtain ⟨BK202, GW202, GE202, HB⟩ := nb_ hg hbox HB hb; clear hb hbox hg) | ((with_reducible refine gate_dst (N := 3) rfl ?_); refine bz_ 3 ?_; intro gb203 hg w10 hbox hb; obtain ⟨BK203, GW203, GE203, HB⟩ := nb_ hg hbox HB hb; have NB202_203 := nx_ hg BK202; have NB203_202 := ny_ hg BK202; replace BK202 := bb_ BK202 hb; clear hb hbox hg; have hnb11 := NB202_203.out; have hnc11 := NB203_202.out; have hcz12 := box5_ BK202.out; have hcz13 := box5_ BK203.out) | ((with_reducible refine gc_ 38 ?_); refine gl_ (some 14) Try.func38 #[.slice A0_1 l0_1.length c0_1, .slice A1_1 l1_1.length c1_1] ?_; (with_reducible refine (laws_eqIntS.calls ?_ ?_ ?_ ?_ A4.out).mono ?_); exact cu_ HR0_1.out HB.out; exact HC0_1.out; exact cu_ HR1_1.out HB.out; exact HC1_1.out; rintro e w' ⟨rfl, ⟨nd, rfl⟩⟩; refine ⟨_, rfl, ?_⟩))
      go_ret
      exact rt_ HB.out
     ·
      rw [if_neg c8] at H; have c8b0 : (a0_4 == a1_4) = false := beq_eq_false_iff_ne.mpr c8; have c8b1 : (a0_4 != a1_4) = true := bne_iff_ne.mpr c8; obtain rfl := Option.some.inj H
      go_enter Try.func18, Try.ntmps18
      go_wp2_with (first | ((with_reducible refine gate_dst (N := 2) rfl ?_); refine bz_ 2 ?_; intro gb202 hg w14 hbox hb; obtain ⟨BK202, GW202, GE202, HB⟩ := nb_ hg hbox HB hb; clear hb hbox hg) | ((with_reducible refine gate_dst (N := 3) rfl ?_); refine bz_ 3 ?_; intro gb203 hg w15 hbox hb; obtain ⟨BK203, GW203, GE203, HB⟩ := nb_ hg hbox HB hb; have NB202_203 := nx_ hg BK202; have NB203_202 := ny_ hg BK202; replace BK202 := bb_ BK202 hb; clear hb hbox hg; have hnb16 := NB202_203.out; have hnc16 := NB203_202.out; have hcz17 := box5_ BK202.out; have hcz18 := box5_ BK203.out) | ((with_reducible refine gc_ 38 ?_); refine gl_ (some 14) Try.func38 #[.slice A0_1 l0_1.length c0_1, .slice A1_1 l1_1.length c1_1] ?_; (with_reducible refine (laws_eqIntS.calls ?_ ?_ ?_ ?_ A4.out).mono ?_); exact cu_ HR0_1.out HB.out; exact HC0_1.out; exact cu_ HR1_1.out HB.out; exact HC1_1.out; rintro e w' ⟨rfl, ⟨nd, rfl⟩⟩; refine ⟨_, rfl, ?_⟩))
      go_ret
      exact rt_ HB.out
    ·
     rw [if_neg c7] at H; have c7b0 : (a0_3 == a1_3) = false := beq_eq_false_iff_ne.mpr c7; have c7b1 : (a0_3 != a1_3) = true := bne_iff_ne.mpr c7; obtain rfl := Option.some.inj H
     go_enter Try.func18, Try.ntmps18
     go_wp2_with (first | ((with_reducible refine gate_dst (N := 2) rfl ?_); refine bz_ 2 ?_; intro gb202 hg w19 hbox hb; obtain ⟨BK202, GW202, GE202, HB⟩ := nb_ hg hbox HB hb; clear hb hbox hg) | ((with_reducible refine gate_dst (N := 3) rfl ?_); refine bz_ 3 ?_; intro gb203 hg w20 hbox hb; obtain ⟨BK203, GW203, GE203, HB⟩ := nb_ hg hbox HB hb; have NB202_203 := nx_ hg BK202; have NB203_202 := ny_ hg BK202; replace BK202 := bb_ BK202 hb; clear hb hbox hg; have hnb21 := NB202_203.out; have hnc21 := NB203_202.out; have hcz22 := box5_ BK202.out; have hcz23 := box5_ BK203.out) | ((with_reducible refine gc_ 38 ?_); refine gl_ (some 14) Try.func38 #[.slice A0_1 l0_1.length c0_1, .slice A1_1 l1_1.length c1_1] ?_; (with_reducible refine (laws_eqIntS.calls ?_ ?_ ?_ ?_ A4.out).mono ?_); exact cu_ HR0_1.out HB.out; exact HC0_1.out; exact cu_ HR1_1.out HB.out; exact HC1_1.out; rintro e w' ⟨rfl, ⟨nd, rfl⟩⟩; refine ⟨_, rfl, ?_⟩))
     go_ret
     exact rt_ HB.out
   ·
    rw [if_neg c6] at H; have c6b0 : (a0_2 == a1_2) = false := beq_eq_false_iff_ne.mpr c6; have c6b1 : (a0_2 != a1_2) = true := bne_iff_ne.mpr c6; obtain rfl := Option.some.inj H
    go_enter Try.func18, Try.ntmps18
    go_wp2_with (first | ((with_reducible refine gate_dst (N := 2) rfl ?_); refine bz_ 2 ?_; intro gb202 hg w24 hbox hb; obtain ⟨BK202, GW202, GE202, HB⟩ := nb_ hg hbox HB hb; clear hb hbox hg) | ((with_reducible refine gate_dst (N := 3) rfl ?_); refine bz_ 3 ?_; intro gb203 hg w25 hbox hb; obtain ⟨BK203, GW203, GE203, HB⟩ := nb_ hg hbox HB hb; have NB202_203 := nx_ hg BK202; have NB203_202 := ny_ hg BK202; replace BK202 := bb_ BK202 hb; clear hb hbox hg; have hnb26 := NB202_203.out; have hnc26 := NB203_202.out; have hcz27 := box5_ BK202.out; have hcz28 := box5_ BK203.out) | ((with_reducible refine gc_ 38 ?_); refine gl_ (some 14) Try.func38 #[.slice A0_1 l0_1.length c0_1, .slice A1_1 l1_1.length c1_1] ?_; (with_reducible refine (laws_eqIntS.calls ?_ ?_ ?_ ?_ A4.out).mono ?_); exact cu_ HR0_1.out HB.out; exact HC0_1.out; exact cu_ HR1_1.out HB.out; exact HC1_1.out; rintro e w' ⟨rfl, ⟨nd, rfl⟩⟩; refine ⟨_, rfl, ?_⟩))
    go_ret
    exact rt_ HB.out
  ·
   replace c5 := Bool.eq_false_iff.mpr c5; subst c5; have H1 : (some false) = some r := by rw [if_neg (show ¬ (false = true) by decide)] at H; exact H
   clear H; have H := H1; clear H1; obtain rfl := Option.some.inj H
   go_enter Try.func18, Try.ntmps18
   go_wp2_with (first | ((with_reducible refine gate_dst (N := 2) rfl ?_); refine bz_ 2 ?_; intro gb202 hg w29 hbox hb; obtain ⟨BK202, GW202, GE202, HB⟩ := nb_ hg hbox HB hb; clear hb hbox hg) | ((with_reducible refine gate_dst (N := 3) rfl ?_); refine bz_ 3 ?_; intro gb203 hg w30 hbox hb; obtain ⟨BK203, GW203, GE203, HB⟩ := nb_ hg hbox HB hb; have NB202_203 := nx_ hg BK202; have NB203_202 := ny_ hg BK202; replace BK202 := bb_ BK202 hb; clear hb hbox hg; have hnb31 := NB202_203.out; have hnc31 := NB203_202.out; have hcz32 := box5_ BK202.out; have hcz33 := box5_ BK203.out) | ((with_reducible refine gc_ 38 ?_); refine gl_ (some 14) Try.func38 #[.slice A0_1 l0_1.length c0_1, .slice A1_1 l1_1.length c1_1] ?_; (with_reducible refine (laws_eqIntS.calls ?_ ?_ ?_ ?_ A4.out).mono ?_); exact cu_ HR0_1.out HB.out; exact HC0_1.out; exact cu_ HR1_1.out HB.out; exact HC1_1.out; rintro e w' ⟨rfl, ⟨nd, rfl⟩⟩; refine ⟨_, rfl, ?_⟩))
   go_ret
   exact rt_ HB.out
 ·
  rw [if_neg c3] at H; have c3b0 : (a0_0 == a1_0) = false := beq_eq_false_iff_ne.mpr c3; have c3b1 : (a0_0 != a1_0) = true := bne_iff_ne.mpr c3; obtain rfl := Option.some.inj H
  go_enter Try.func18, Try.ntmps18
  go_wp2_with (first | ((with_reducible refine gate_dst (N := 2) rfl ?_); refine bz_ 2 ?_; intro gb202 hg w34 hbox hb; obtain ⟨BK202, GW202, GE202, HB⟩ := nb_ hg hbox HB hb; clear hb hbox hg) | ((with_reducible refine gate_dst (N := 3) rfl ?_); refine bz_ 3 ?_; intro gb203 hg w35 hbox hb; obtain ⟨BK203, GW203, GE203, HB⟩ := nb_ hg hbox HB hb; have NB202_203 := nx_ hg BK202; have NB203_202 := ny_ hg BK202; replace BK202 := bb_ BK202 hb; clear hb hbox hg; have hnb36 := NB202_203.out; have hnc36 := NB203_202.out; have hcz37 := box5_ BK202.out; have hcz38 := box5_ BK203.out))
  go_ret
  exact rt_ HB.out

/-! ### laws_eqTaskS: function 63 -/
def laws_eqTaskS.l0 : Nat → List (S27) → List (S27) → Int → Option (Bool)
 | 0, _, _, _ => none
 | k + 1, x0, x1, x5 => if x5 < (x0.length : Int) then (if 0 ≤ x5 then (if x5 < (x1.length : Int) then ((laws_eqTask.f k ((rd_T27 x0 x5).f0) ((rd_T27 x0 x5).f1) ((rd_T27 x0 x5).f2) ((rd_T27 x0 x5).f3) ((rd_T27 x0 x5).f4) ((rd_T27 x1 x5).f0) ((rd_T27 x1 x5).f1) ((rd_T27 x1 x5).f2) ((rd_T27 x1 x5).f3) ((rd_T27 x1 x5).f4)).bind fun t207 => (if t207 = true then (laws_eqTaskS.l0 k x0 x1 (wrap64 (x5 + 1))) else (some false))) else (none)) else (none)) else (some true)
def laws_eqTaskS.f (k : Nat) (l0 : List (S27)) (l1 : List (S27)) : Option (Bool) := if (l0.length : Int) = (l1.length : Int) then (laws_eqTaskS.l0 k l0 l1 0) else (some false)
def laws_eqTaskS.T6 : Bool × List (List Nat × List Nat) := (true, [([], []), ([], []), ([0, 1], [0, 1]), ([2], [2]), ([], []), ([], []), ([4, 5], [4, 5]), ([6], [6]), ([3, 7], [3, 7]), ([8], [8])])
def laws_eqTaskS.B6 : List Nat := [0, 0, 3, 7, 0, 0, 48, 112, 255, 511]
theorem laws_eqTaskS.tab6 : rtab .any (opsOf Try.f63 6) = laws_eqTaskS.T6 := by kernel_rfl
theorem laws_eqTaskS.bits6 : waitsOk laws_eqTaskS.T6.2 laws_eqTaskS.B6 = true := by kernel_rfl
set_option maxHeartbeats 8000000 in
set_option maxRecDepth 100000 in
theorem laws_eqTaskS.calls {k : Nat} {A0 : Option Addr} {c0 : Nat} {l0 : List (S27)} {A1 : Option Addr} {c1 : Nat} {l1 : List (S27)} {r : Bool} {w : World} (hr0 : Kd.C k27 w A0 l0.length l0) (hc0 : l0.length ≤ c0) (hr1 : Kd.C k27 w A1 l1.length l1) (hc1 : l1.length ≤ c1) (h : laws_eqTaskS.f k l0 l1 = some r) :
  Calls Try.prog 63 #[.slice A0 l0.length c0, .slice A1 l1.length c1] w fun e w' => e = .returned (.bool r) ∧ Below w.heap.size w w' := by
 have hu27 := Try.underlying27; have HR0 := Aside0.mk hr0; have HC0 := Aside0.mk hc0; clear hr0 hc0; have HR1 := Aside0.mk hr1; have HC1 := Aside0.mk hc1; clear hr1 hc1; have HB := Aside0.mk (Below.refl w.heap.size w); have H : (if (l0.length : Int) = (l1.length : Int) then (laws_eqTaskS.l0 k l0 l1 0) else (some false)) = some r := h; clear h
 by_cases c3 : (l0.length : Int) = (l1.length : Int)
 ·
  rw [if_pos c3] at H; have c3b0 : ((l0.length : Int) == (l1.length : Int)) = true := beq_iff_eq.mpr c3; have c3b1 : ((l0.length : Int) != (l1.length : Int)) = false := bne_eq_false_iff_eq.mpr c3; have c3b2 : (l0.length == l1.length) = true := by first | simpa using c3 | (simp at c3 ⊢; omega)
  clear c3; have H' := Aside0.mk H; clear H
  go_enter Try.func63, Try.ntmps63
  go_wp2
  go_loopg [5] k (fun kq v5 w' => ∃ (x5_1 : Int), v5 = .int .i64 x5_1 ∧ Aside0 (laws_eqTaskS.l0 kq l0 l1 x5_1 = some r) ∧ Aside0 (kq ≤ k) ∧ Aside0 (Below w.heap.size w w'))
  case atStart => exact ⟨(0), (by first | rfl | (simp; done) | (simp [*]; done)), H', ⟨Nat.le_refl _⟩, ⟨be_ HB.out⟩⟩
  case round =>
   clear H'; (try clear c1); (try clear p2); (try clear c3); (try clear c3b0); (try clear c3b1); (try clear c3b2); obtain ⟨x5_1, rfl, HA, HK1, HB⟩ := hrel
   cases gk with
   | zero => exact absurd HA.out (by simp [laws_eqTaskS.l0])
   | succ k1 =>
    have H := HA.out; clear HA; simp only [laws_eqTaskS.l0] at H
    by_cases c4 : x5_1 < (l0.length : Int)
    ·
     rw [if_pos c4] at H; have c4b0 : decide (x5_1 < (l0.length : Int)) = true := decide_eq_true c4; clear c4
     by_cases c5 : 0 ≤ x5_1
     ·
      rw [if_pos c5] at H; have c5b0 : decide (0 ≤ x5_1) = true := decide_eq_true c5; clear c5
      by_cases c6 : x5_1 < (l1.length : Int)
      ·
       rw [if_pos c6] at H; have c6b0 : decide (x5_1 < (l1.length : Int)) = true := decide_eq_true c6; clear c6; obtain ⟨t207, A7, H⟩ := bo_ H; (try dsimp only at H)
       by_cases c8 : t207 = true
       ·
        subst c8; rw [if_pos rfl] at H; have H' := Aside0.mk H; clear H
        try go_wp2
        replace HB := Aside0.mk (below_drew1 HB.out); have p205 : 0 ≤ (x5_1 : Int) := od_; have q205 : x5_1 < (l0.length : Int) := od_; obtain ⟨ad205, A205_1, c205_1, e205, hx205_0, hx205_1, hx205_2, hx205_3, hx205_4, hl205_1, hi205_1⟩ := at_T27 HR0.out x5_1 p205 q205; have hw205_4 := hx205_4; have hw205_3 := hx205_3; have hw205_2 := hx205_2; have hw205_1 := hx205_1; have hw205_0 := hx205_0
        cases e205
        replace hx205_0 := cw_ HB.out hx205_0; replace hx205_1 := cw_ HB.out hx205_1; replace hx205_2 := cw_ HB.out hx205_2; replace hx205_3 := cw_ HB.out hx205_3; replace hx205_4 := cw_ HB.out hx205_4; have HR205_1 := Aside0.mk hi205_1; have HC205_1 := Aside0.mk hl205_1; clear hi205_1 hl205_1; replace p205 := eq_true p205; replace q205 := eq_true q205; have p206 : 0 ≤ (x5_1 : Int) := od_; have q206 : x5_1 < (l1.length : Int) := od_; obtain ⟨ad206, A206_1, c206_1, e206, hx206_0, hx206_1, hx206_2, hx206_3, hx206_4, hl206_1, hi206_1⟩ := at_T27 HR1.out x5_1 p206 q206; have hw206_4 := hx206_4; have hw206_3 := hx206_3; have hw206_2 := hx206_2; have hw206_1 := hx206_1; have hw206_0 := hx206_0
        cases e206
        replace hx206_0 := cw_ HB.out hx206_0; replace hx206_1 := cw_ HB.out hx206_1; replace hx206_2 := cw_ HB.out hx206_2; replace hx206_3 := cw_ HB.out hx206_3; replace hx206_4 := cw_ HB.out hx206_4; have HR206_1 := Aside0.mk hi206_1; have HC206_1 := Aside0.mk hl206_1; clear hi206_1 hl206_1; replace p206 := eq_true p206; replace q206 := eq_true q206; refine sta_ 10 (fun w' => w'.cell? (ad205.add ((x5_1).toNat * 5)) = some (.int .i64 ((rd_T27 l0 x5_1).f0)) ∧ CF_ w' (ad205.add ((x5_1).toNat * 5)) 1 (.slice A205_1 ((rd_T27 l0 x5_1).f1).length c205_1) ∧ CF_ w' (ad205.add ((x5_1).toNat * 5)) 2 (.int .i64 ((rd_T27 l0 x5_1).f2)) ∧ CF_ w' (ad205.add ((x5_1).toNat * 5)) 3 (.int .i64 ((rd_T27 l0 x5_1).f3)) ∧ CF_ w' (ad205.add ((x5_1).toNat * 5)) 4 (.int .i64 ((rd_T27 l0 x5_1).f4)) ∧ w'.cell? (ad206.add ((x5_1).toNat * 5)) = some (.int .i64 ((rd_T27 l1 x5_1).f0)) ∧ CF_ w' (ad206.add ((x5_1).toNat * 5)) 1 (.slice A206_1 ((rd_T27 l1 x5_1).f1).length c206_1) ∧ CF_ w' (ad206.add ((x5_1).toNat * 5)) 2 (.int .i64 ((rd_T27 l1 x5_1).f2)) ∧ CF_ w' (ad206.add ((x5_1).toNat * 5)) 3 (.int .i64 ((rd_T27 l1 x5_1).f3)) ∧ CF_ w' (ad206.add ((x5_1).toNat * 5)) 4 (.int .i64 ((rd_T27 l1 x5_1).f4))) ⟨(cw_ HB.out hw205_0), (cw_ HB.out hw205_1), (cw_ HB.out hw205_2), (cw_ HB.out hw205_3), (cw_ HB.out hw205_4), (cw_ HB.out hw206_0), (cw_ HB.out hw206_1), (cw_ HB.out hw206_2), (cw_ HB.out hw206_3), (cw_ HB.out hw206_4)⟩ (fun hHeld => ?_); refine with_tabW laws_eqTaskS.tab6 laws_eqTaskS.bits6 (fun HT_ HW_ => ?_); generalize wr.drew = w9 at HB HR205_1 HR206_1 hx205_0 hx205_1 hx205_2 hx205_3 hx205_4 hx206_0 hx206_1 hx206_2 hx206_3 hx206_4 hHeld ⊢; refine pv_ 0 10 1 HT_.out ?_; refine pv_ 1 10 3 HT_.out ?_; refine pv_ 2 10 7 HT_.out ?_; refine pv_ 4 10 23 HT_.out ?_; refine pv_ 5 10 55 HT_.out ?_; refine pv_ 6 10 119 HT_.out ?_; refine tv_ 3 10 127 HT_.out HW_.out hHeld ?_; refine tv_ 7 10 255 HT_.out HW_.out hHeld ?_; refine one_ (i := 8) (N := some 25) (bl_ 10 511) rfl rfl (one_of HT_.out (by kernel_rfl)) (by decide) (fun K hK => ?_); refine ge_ Try.func18 #[.agg #[.int .i64 ((rd_T27 l0 x5_1).f0), .slice A205_1 ((rd_T27 l0 x5_1).f1).length c205_1, .int .i64 ((rd_T27 l0 x5_1).f2), .int .i64 ((rd_T27 l0 x5_1).f3), .int .i64 ((rd_T27 l0 x5_1).f4)], .agg #[.int .i64 ((rd_T27 l1 x5_1).f0), .slice A206_1 ((rd_T27 l1 x5_1).f1).length c206_1, .int .i64 ((rd_T27 l1 x5_1).f2), .int .i64 ((rd_T27 l1 x5_1).f3), .int .i64 ((rd_T27 l1 x5_1).f4)]] ?_
        (with_reducible refine (laws_eqTask.calls ?_ ?_ ?_ ?_ A7.out).mono ?_); exact cu_ HR205_1.out HB.out; exact HC205_1.out; exact cu_ HR206_1.out HB.out; exact HC206_1.out; rintro e w10 ⟨rfl, hb⟩; refine ⟨_, rfl, ?_⟩; replace HB := hb_ HB hb; (try clear hb); refine hK.out _ _ ⟨(cw_ HB.out hw205_0), (cw_ HB.out hw205_1), (cw_ HB.out hw205_2), (cw_ HB.out hw205_3), (cw_ HB.out hw205_4), (cw_ HB.out hw206_0), (cw_ HB.out hw206_1), (cw_ HB.out hw206_2), (cw_ HB.out hw206_3), (cw_ HB.out hw206_4)⟩ (fun hHeld => ?_); clear hK K; refine nm_ 25 (h := ?_); refine pv_ 9 10 1023 HT_.out ?_; refine done_ (done_of HT_.out (by kernel_rfl)) ?_
        try go_wp2
        go_roundg k1
        case measure => have := HK1.out; omega
        case rel => exact ⟨(wrap64 (x5_1 + 1)), (by first | rfl | (simp; done) | (simp [*]; done)), H', ⟨by have := HK1.out; omega⟩, ⟨be_ HB.out⟩⟩
       ·
        replace c8 := Bool.eq_false_iff.mpr c8; subst c8; have H1 : (some false) = some r := by rw [if_neg (show ¬ (false = true) by decide)] at H; exact H
        clear H; have H := H1; clear H1; obtain rfl := Option.some.inj H
        try go_wp2
        replace HB := Aside0.mk (below_drew1 HB.out); have p205 : 0 ≤ (x5_1 : Int) := od_; have q205 : x5_1 < (l0.length : Int) := od_; obtain ⟨ad205, A205_1, c205_1, e205, hx205_0, hx205_1, hx205_2, hx205_3, hx205_4, hl205_1, hi205_1⟩ := at_T27 HR0.out x5_1 p205 q205; have hw205_4 := hx205_4; have hw205_3 := hx205_3; have hw205_2 := hx205_2; have hw205_1 := hx205_1; have hw205_0 := hx205_0
        cases e205
        replace hx205_0 := cw_ HB.out hx205_0; replace hx205_1 := cw_ HB.out hx205_1; replace hx205_2 := cw_ HB.out hx205_2; replace hx205_3 := cw_ HB.out hx205_3; replace hx205_4 := cw_ HB.out hx205_4; have HR205_1 := Aside0.mk hi205_1; have HC205_1 := Aside0.mk hl205_1; clear hi205_1 hl205_1; replace p205 := eq_true p205; replace q205 := eq_true q205; have p206 : 0 ≤ (x5_1 : Int) := od_; have q206 : x5_1 < (l1.length : Int) := od_; obtain ⟨ad206, A206_1, c206_1, e206, hx206_0, hx206_1, hx206_2, hx206_3, hx206_4, hl206_1, hi206_1⟩ := at_T27 HR1.out x5_1 p206 q206; have hw206_4 := hx206_4; have hw206_3 := hx206_3; have hw206_2 := hx206_2; have hw206_1 := hx206_1; have hw206_0 := hx206_0
        cases e206
        replace hx206_0 := cw_ HB.out hx206_0; replace hx206_1 := cw_ HB.out hx206_1; replace hx206_2 := cw_ HB.out hx206_2; replace hx206_3 := cw_ HB.out hx206_3; replace hx206_4 := cw_ HB.out hx206_4; have HR206_1 := Aside0.mk hi206_1; have HC206_1 := Aside0.mk hl206_1; clear hi206_1 hl206_1; replace p206 := eq_true p206; replace q206 := eq_true q206; refine sta_ 10 (fun w' => w'.cell? (ad205.add ((x5_1).toNat * 5)) = some (.int .i64 ((rd_T27 l0 x5_1).f0)) ∧ CF_ w' (ad205.add ((x5_1).toNat * 5)) 1 (.slice A205_1 ((rd_T27 l0 x5_1).f1).length c205_1) ∧ CF_ w' (ad205.add ((x5_1).toNat * 5)) 2 (.int .i64 ((rd_T27 l0 x5_1).f2)) ∧ CF_ w' (ad205.add ((x5_1).toNat * 5)) 3 (.int .i64 ((rd_T27 l0 x5_1).f3)) ∧ CF_ w' (ad205.add ((x5_1).toNat * 5)) 4 (.int .i64 ((rd_T27 l0 x5_1).f4)) ∧ w'.cell? (ad206.add ((x5_1).toNat * 5)) = some (.int .i64 ((rd_T27 l1 x5_1).f0)) ∧ CF_ w' (ad206.add ((x5_1).toNat * 5)) 1 (.slice A206_1 ((rd_T27 l1 x5_1).f1).length c206_1) ∧ CF_ w' (ad206.add ((x5_1).toNat * 5)) 2 (.int .i64 ((rd_T27 l1 x5_1).f2)) ∧ CF_ w' (ad206.add ((x5_1).toNat * 5)) 3 (.int .i64 ((rd_T27 l1 x5_1).f3)) ∧ CF_ w' (ad206.add ((x5_1).toNat * 5)) 4 (.int .i64 ((rd_T27 l1 x5_1).f4))) ⟨(cw_ HB.out hw205_0), (cw_ HB.out hw205_1), (cw_ HB.out hw205_2), (cw_ HB.out hw205_3), (cw_ HB.out hw205_4), (cw_ HB.out hw206_0), (cw_ HB.out hw206_1), (cw_ HB.out hw206_2), (cw_ HB.out hw206_3), (cw_ HB.out hw206_4)⟩ (fun hHeld => ?_); refine with_tabW laws_eqTaskS.tab6 laws_eqTaskS.bits6 (fun HT_ HW_ => ?_); generalize wr.drew = w11 at HB HR205_1 HR206_1 hx205_0 hx205_1 hx205_2 hx205_3 hx205_4 hx206_0 hx206_1 hx206_2 hx206_3 hx206_4 hHeld ⊢; refine pv_ 0 10 1 HT_.out ?_; refine pv_ 1 10 3 HT_.out ?_; refine pv_ 2 10 7 HT_.out ?_; refine pv_ 4 10 23 HT_.out ?_; refine pv_ 5 10 55 HT_.out ?_; refine pv_ 6 10 119 HT_.out ?_; refine tv_ 3 10 127 HT_.out HW_.out hHeld ?_; refine tv_ 7 10 255 HT_.out HW_.out hHeld ?_; refine one_ (i := 8) (N := some 25) (bl_ 10 511) rfl rfl (one_of HT_.out (by kernel_rfl)) (by decide) (fun K hK => ?_); refine ge_ Try.func18 #[.agg #[.int .i64 ((rd_T27 l0 x5_1).f0), .slice A205_1 ((rd_T27 l0 x5_1).f1).length c205_1, .int .i64 ((rd_T27 l0 x5_1).f2), .int .i64 ((rd_T27 l0 x5_1).f3), .int .i64 ((rd_T27 l0 x5_1).f4)], .agg #[.int .i64 ((rd_T27 l1 x5_1).f0), .slice A206_1 ((rd_T27 l1 x5_1).f1).length c206_1, .int .i64 ((rd_T27 l1 x5_1).f2), .int .i64 ((rd_T27 l1 x5_1).f3), .int .i64 ((rd_T27 l1 x5_1).f4)]] ?_
        (with_reducible refine (laws_eqTask.calls ?_ ?_ ?_ ?_ A7.out).mono ?_); exact cu_ HR205_1.out HB.out; exact HC205_1.out; exact cu_ HR206_1.out HB.out; exact HC206_1.out; rintro e w12 ⟨rfl, hb⟩; refine ⟨_, rfl, ?_⟩; replace HB := hb_ HB hb; (try clear hb); refine hK.out _ _ ⟨(cw_ HB.out hw205_0), (cw_ HB.out hw205_1), (cw_ HB.out hw205_2), (cw_ HB.out hw205_3), (cw_ HB.out hw205_4), (cw_ HB.out hw206_0), (cw_ HB.out hw206_1), (cw_ HB.out hw206_2), (cw_ HB.out hw206_3), (cw_ HB.out hw206_4)⟩ (fun hHeld => ?_); clear hK K; refine nm_ 25 (h := ?_); refine pv_ 9 10 1023 HT_.out ?_; refine done_ (done_of HT_.out (by kernel_rfl)) ?_
        try go_wp2
        go_ret
        exact rt_ HB.out
      ·
       rw [if_neg c6] at H; exact absurd H (by simp)
     ·
      rw [if_neg c5] at H; exact absurd H (by simp)
    ·
     rw [if_neg c4] at H; have c4b0 : decide (x5_1 < (l0.length : Int)) = false := decide_eq_false c4; clear c4; obtain rfl := Option.some.inj H
     go_wp2
     go_ret
     exact rt_ HB.out
 ·
  rw [if_neg c3] at H; have c3b0 : ((l0.length : Int) == (l1.length : Int)) = false := beq_eq_false_iff_ne.mpr c3; have c3b1 : ((l0.length : Int) != (l1.length : Int)) = true := bne_iff_ne.mpr c3; have c3b2 : (l0.length == l1.length) = false := by first | simpa using c3 | (simp at c3 ⊢; omega)
  obtain rfl := Option.some.inj H
  go_enter Try.func63, Try.ntmps63
  go_wp2
  go_ret
  exact rt_ HB.out

/-! ### laws_eqSched: function 23 -/
def laws_eqSched.f (k : Nat) (a0_0 : Int) (a0_1 : Int) (a0_2 : Int) (l0_3 : List (S27)) (a0_4 : Int) (a0_5 : Int) (a0_6 : Int) (a0_7 : Int) (a1_0 : Int) (a1_1 : Int) (a1_2 : Int) (l1_3 : List (S27)) (a1_4 : Int) (a1_5 : Int) (a1_6 : Int) (a1_7 : Int) : Option (Bool) := if a0_0 = a1_0 then (if a0_1 = a1_1 then (if a0_2 = a1_2 then ((laws_eqTaskS.f k l0_3 l1_3).bind fun t210 => (if t210 = true then (if a0_4 = a1_4 then (if a0_5 = a1_5 then (if a0_6 = a1_6 then (if a0_7 = a1_7 then (some true) else (some false)) else (some false)) else (some false)) else (some false)) else (some false))) else (some false)) else (some false)) else (some false)
set_option maxHeartbeats 8000000 in
set_option maxRecDepth 100000 in
theorem laws_eqSched.calls {k : Nat} {a0_0 : Int} {a0_1 : Int} {a0_2 : Int} {A0_3 : Option Addr} {c0_3 : Nat} {l0_3 : List (S27)} {a0_4 : Int} {a0_5 : Int} {a0_6 : Int} {a0_7 : Int} {a1_0 : Int} {a1_1 : Int} {a1_2 : Int} {A1_3 : Option Addr} {c1_3 : Nat} {l1_3 : List (S27)} {a1_4 : Int} {a1_5 : Int} {a1_6 : Int} {a1_7 : Int} {r : Bool} {w : World} (hr0_3 : Kd.C k27 w A0_3 l0_3.length l0_3) (hc0_3 : l0_3.length ≤ c0_3) (hr1_3 : Kd.C k27 w A1_3 l1_3.length l1_3) (hc1_3 : l1_3.length ≤ c1_3) (h : laws_eqSched.f k a0_0 a0_1 a0_2 l0_3 a0_4 a0_5 a0_6 a0_7 a1_0 a1_1 a1_2 l1_3 a1_4 a1_5 a1_6 a1_7 = some r) :
  Calls Try.prog 23 #[.agg #[.int .i64 a0_0, .int .i64 a0_1, .int .i64 a0_2, .slice A0_3 l0_3.length c0_3, .int .i64 a0_4, .int .i64 a0_5, .int .i64 a0_6, .int .i64 a0_7], .agg #[.int .i64 a1_0, .int .i64 a1_1, .int .i64 a1_2, .slice A1_3 l1_3.length c1_3, .int .i64 a1_4, .int .i64 a1_5, .int .i64 a1_6, .int .i64 a1_7]] w fun e w' => e = .returned (.bool r) ∧ Below w.heap.size w w' := by
 have hu38 := Try.underlying38; have HR0_3 := Aside0.mk hr0_3; have HC0_3 := Aside0.mk hc0_3; clear hr0_3 hc0_3; have HR1_3 := Aside0.mk hr1_3; have HC1_3 := Aside0.mk hc1_3; clear hr1_3 hc1_3; have HB := Aside0.mk (Below.refl w.heap.size w); have H : (if a0_0 = a1_0 then (if a0_1 = a1_1 then (if a0_2 = a1_2 then ((laws_eqTaskS.f k l0_3 l1_3).bind fun t210 => (if t210 = true then (if a0_4 = a1_4 then (if a0_5 = a1_5 then (if a0_6 = a1_6 then (if a0_7 = a1_7 then (some true) else (some false)) else (some false)) else (some false)) else (some false)) else (some false))) else (some false)) else (some false)) else (some false)) = some r := h; clear h
 by_cases c3 : a0_0 = a1_0
 ·
  rw [if_pos c3] at H; have c3b0 : (a0_0 == a1_0) = true := beq_iff_eq.mpr c3; have c3b1 : (a0_0 != a1_0) = false := bne_eq_false_iff_eq.mpr c3; clear c3
  by_cases c4 : a0_1 = a1_1
  ·
   rw [if_pos c4] at H; have c4b0 : (a0_1 == a1_1) = true := beq_iff_eq.mpr c4; have c4b1 : (a0_1 != a1_1) = false := bne_eq_false_iff_eq.mpr c4; clear c4
   by_cases c5 : a0_2 = a1_2
   ·
    rw [if_pos c5] at H; have c5b0 : (a0_2 == a1_2) = true := beq_iff_eq.mpr c5; have c5b1 : (a0_2 != a1_2) = false := bne_eq_false_iff_eq.mpr c5; clear c5; obtain ⟨t210, A6, H⟩ := bo_ H; (try dsimp only at H)
    by_cases c7 : t210 = true
    ·
     subst c7; rw [if_pos rfl] at H
     by_cases c8 : a0_4 = a1_4
     ·
      rw [if_pos c8] at H; have c8b0 : (a0_4 == a1_4) = true := beq_iff_eq.mpr c8; have c8b1 : (a0_4 != a1_4) = false := bne_eq_false_iff_eq.mpr c8; clear c8
      by_cases c9 : a0_5 = a1_5
      ·
       rw [if_pos c9] at H; have c9b0 : (a0_5 == a1_5) = true := beq_iff_eq.mpr c9; have c9b1 : (a0_5 != a1_5) = false := bne_eq_false_iff_eq.mpr c9; clear c9
       by_cases c10 : a0_6 = a1_6
       ·
        rw [if_pos c10] at H; have c10b0 : (a0_6 == a1_6) = true := beq_iff_eq.mpr c10; have c10b1 : (a0_6 != a1_6) = false := bne_eq_false_iff_eq.mpr c10; clear c10
        by_cases c11 : a0_7 = a1_7
        ·
         rw [if_pos c11] at H; have c11b0 : (a0_7 == a1_7) = true := beq_iff_eq.mpr c11; have c11b1 : (a0_7 != a1_7) = false := bne_eq_false_iff_eq.mpr c11; clear c11; obtain rfl := Option.some.inj H
         go_enter Try.func23, Try.ntmps23
         go_wp2_with (first | ((with_reducible refine gate_dst (N := 2) rfl ?_); refine bz_ 2 ?_; intro gb208 hg w12 hbox hb; obtain ⟨BK208, GW208, GE208, HB⟩ := nb_ hg hbox HB hb; clear hb hbox hg) | ((with_reducible refine gate_dst (N := 3) rfl ?_); refine bz_ 3 ?_; intro gb209 hg w13 hbox hb; obtain ⟨BK209, GW209, GE209, HB⟩ := nb_ hg hbox HB hb; have NB208_209 := nx_ hg BK208; have NB209_208 := ny_ hg BK208; replace BK208 := bb_ BK208 hb; clear hb hbox hg; have hnb14 := NB208_209.out; have hnc14 := NB209_208.out; have hcz15 := box8_ BK208.out; have hcz16 := box8_ BK209.out) | ((with_reducible refine gc_ 63 ?_); refine gl_ (some 24) Try.func63 #[.slice A0_3 l0_3.length c0_3, .slice A1_3 l1_3.length c1_3] ?_; (with_reducible refine (laws_eqTaskS.calls ?_ ?_ ?_ ?_ A6.out).mono ?_); exact cu_ HR0_3.out HB.out; exact HC0_3.out; exact cu_ HR1_3.out HB.out; exact HC1_3.out; rintro e w17 ⟨rfl, hb⟩; refine ⟨_, rfl, ?_⟩; replace BK208 := bb_ BK208 hb; replace BK209 := bb_ BK209 hb; replace HB := hb_ HB hb; (try clear hb); have hcz18 := box8_ BK208.out; have hcz19 := box8_ BK209.out))
         go_ret
         exact rt_ HB.out
        ·
         rw [if_neg c11] at H; have c11b0 : (a0_7 == a1_7) = false := beq_eq_false_iff_ne.mpr c11; have c11b1 : (a0_7 != a1_7) = true := bne_iff_ne.mpr c11; obtain rfl := Option.some.inj H
         go_enter Try.func23, Try.ntmps23
         go_wp2_with (first | ((with_reducible refine gate_dst (N := 2) rfl ?_); refine bz_ 2 ?_; intro gb208 hg w20 hbox hb; obtain ⟨BK208, GW208, GE208, HB⟩ := nb_ hg hbox HB hb; clear hb hbox hg) | ((with_reducible refine gate_dst (N := 3) rfl ?_); refine bz_ 3 ?_; intro gb209 hg w21 hbox hb; obtain ⟨BK209, GW209, GE209, HB⟩ := nb_ hg hbox HB hb; have NB208_209 := nx_ hg BK208; have NB209_208 := ny_ hg BK208; replace BK208 := bb_ BK208 hb; clear hb hbox hg; have hnb22 := NB208_209.out; have hnc22 := NB209_208.out; have hcz23 := box8_ BK208.out; have hcz24 := box8_ BK209.out) | ((with_reducible refine gc_ 63 ?_); refine gl_ (some 24) Try.func63 #[.slice A0_3 l0_3.length c0_3, .slice A1_3 l1_3.length c1_3] ?_; (with_reducible refine (laws_eqTaskS.calls ?_ ?_ ?_ ?_ A6.out).mono ?_); exact cu_ HR0_3.out HB.out; exact HC0_3.out; exact cu_ HR1_3.out HB.out; exact HC1_3.out; rintro e w25 ⟨rfl, hb⟩; refine ⟨_, rfl, ?_⟩; replace BK208 := bb_ BK208 hb; replace BK209 := bb_ BK209 hb; replace HB := hb_ HB hb; (try clear hb); have hcz26 := box8_ BK208.out; have hcz27 := box8_ BK209.out))
         go_ret
         exact rt_ HB.out
       ·
        rw [if_neg c10] at H; have c10b0 : (a0_6 == a1_6) = false := beq_eq_false_iff_ne.mpr c10; have c10b1 : (a0_6 != a1_6) = true := bne_iff_ne.mpr c10; obtain rfl := Option.some.inj H
        go_enter Try.func23, Try.ntmps23
        go_wp2_with (first | ((with_reducible refine gate_dst (N := 2) rfl ?_); refine bz_ 2 ?_; intro gb208 hg w28 hbox hb; obtain ⟨BK208, GW208, GE208, HB⟩ := nb_ hg hbox HB hb; clear hb hbox hg) | ((with_reducible refine gate_dst (N := 3) rfl ?_); refine bz_ 3 ?_; intro gb209 hg w29 hbox hb; obtain ⟨BK209, GW209, GE209, HB⟩ := nb_ hg hbox HB hb; have NB208_209 := nx_ hg BK208; have NB209_208 := ny_ hg BK208; replace BK208 := bb_ BK208 hb; clear hb hbox hg; have hnb30 := NB208_209.out; have hnc30 := NB209_208.out; have hcz31 := box8_ BK208.out; have hcz32 := box8_ BK209.out) | ((with_reducible refine gc_ 63 ?_); refine gl_ (some 24) Try.func63 #[.slice A0_3 l0_3.length c0_3, .slice A1_3 l1_3.length c1_3] ?_; (with_reducible refine (laws_eqTaskS.calls ?_ ?_ ?_ ?_ A6.out).mono ?_); exact cu_ HR0_3.out HB.out; exact HC0_3.out; exact cu_ HR1_3.out HB.out; exact HC1_3.out; rintro e w33 ⟨rfl, hb⟩; refine ⟨_, rfl, ?_⟩; replace BK208 := bb_ BK208 hb; replace BK209 := bb_ BK209 hb; replace HB := hb_ HB hb; (try clear hb); have hcz34 := box8_ BK208.out; have hcz35 := box8_ BK209.out))
        go_ret
        exact rt_ HB.out
      ·
       rw [if_neg c9] at H; have c9b0 : (a0_5 == a1_5) = false := beq_eq_false_iff_ne.mpr c9; have c9b1 : (a0_5 != a1_5) = true := bne_iff_ne.mpr c9; obtain rfl := Option.some.inj H
       go_enter Try.func23, Try.ntmps23
       go_wp2_with (first | ((with_reducible refine gate_dst (N := 2) rfl ?_); refine bz_ 2 ?_; intro gb208 hg w36 hbox hb; obtain ⟨BK208, GW208, GE208, HB⟩ := nb_ hg hbox HB hb; clear hb hbox hg) | ((with_reducible refine gate_dst (N := 3) rfl ?_); refine bz_ 3 ?_; intro gb209 hg w37 hbox hb; obtain ⟨BK209, GW209, GE209, HB⟩ := nb_ hg hbox HB hb; have NB208_209 := nx_ hg BK208; have NB209_208 := ny_ hg BK208; replace BK208 := bb_ BK208 hb; clear hb hbox hg; have hnb38 := NB208_209.out; have hnc38 := NB209_208.out; have hcz39 := box8_ BK208.out; have hcz40 := box8_ BK209.out) | ((with_reducible refine gc_ 63 ?_); refine gl_ (some 24) Try.func63 #[.slice A0_3 l0_3.length c0_3, .slice A1_3 l1_3.length c1_3] ?_; (with_reducible refine (laws_eqTaskS.calls ?_ ?_ ?_ ?_ A6.out).mono ?_); exact cu_ HR0_3.out HB.out; exact HC0_3.out; exact cu_ HR1_3.out HB.out; exact HC1_3.out; rintro e w41 ⟨rfl, hb⟩; refine ⟨_, rfl, ?_⟩; replace BK208 := bb_ BK208 hb; replace BK209 := bb_ BK209 hb; replace HB := hb_ HB hb; (try clear hb); have hcz42 := box8_ BK208.out; have hcz43 := box8_ BK209.out))
       go_ret
       exact rt_ HB.out
     ·
      rw [if_neg c8] at H; have c8b0 : (a0_4 == a1_4) = false := beq_eq_false_iff_ne.mpr c8; have c8b1 : (a0_4 != a1_4) = true := bne_iff_ne.mpr c8; obtain rfl := Option.some.inj H
      go_enter Try.func23, Try.ntmps23
      go_wp2_with (first | ((with_reducible refine gate_dst (N := 2) rfl ?_); refine bz_ 2 ?_; intro gb208 hg w44 hbox hb; obtain ⟨BK208, GW208, GE208, HB⟩ := nb_ hg hbox HB hb; clear hb hbox hg) | ((with_reducible refine gate_dst (N := 3) rfl ?_); refine bz_ 3 ?_; intro gb209 hg w45 hbox hb; obtain ⟨BK209, GW209, GE209, HB⟩ := nb_ hg hbox HB hb; have NB208_209 := nx_ hg BK208; have NB209_208 := ny_ hg BK208; replace BK208 := bb_ BK208 hb; clear hb hbox hg; have hnb46 := NB208_209.out; have hnc46 := NB209_208.out; have hcz47 := box8_ BK208.out; have hcz48 := box8_ BK209.out) | ((with_reducible refine gc_ 63 ?_); refine gl_ (some 24) Try.func63 #[.slice A0_3 l0_3.length c0_3, .slice A1_3 l1_3.length c1_3] ?_; (with_reducible refine (laws_eqTaskS.calls ?_ ?_ ?_ ?_ A6.out).mono ?_); exact cu_ HR0_3.out HB.out; exact HC0_3.out; exact cu_ HR1_3.out HB.out; exact HC1_3.out; rintro e w49 ⟨rfl, hb⟩; refine ⟨_, rfl, ?_⟩; replace BK208 := bb_ BK208 hb; replace BK209 := bb_ BK209 hb; replace HB := hb_ HB hb; (try clear hb); have hcz50 := box8_ BK208.out; have hcz51 := box8_ BK209.out))
      go_ret
      exact rt_ HB.out
    ·
     replace c7 := Bool.eq_false_iff.mpr c7; subst c7; have H1 : (some false) = some r := by rw [if_neg (show ¬ (false = true) by decide)] at H; exact H
     clear H; have H := H1; clear H1; obtain rfl := Option.some.inj H
     go_enter Try.func23, Try.ntmps23
     go_wp2_with (first | ((with_reducible refine gate_dst (N := 2) rfl ?_); refine bz_ 2 ?_; intro gb208 hg w52 hbox hb; obtain ⟨BK208, GW208, GE208, HB⟩ := nb_ hg hbox HB hb; clear hb hbox hg) | ((with_reducible refine gate_dst (N := 3) rfl ?_); refine bz_ 3 ?_; intro gb209 hg w53 hbox hb; obtain ⟨BK209, GW209, GE209, HB⟩ := nb_ hg hbox HB hb; have NB208_209 := nx_ hg BK208; have NB209_208 := ny_ hg BK208; replace BK208 := bb_ BK208 hb; clear hb hbox hg; have hnb54 := NB208_209.out; have hnc54 := NB209_208.out; have hcz55 := box8_ BK208.out; have hcz56 := box8_ BK209.out) | ((with_reducible refine gc_ 63 ?_); refine gl_ (some 24) Try.func63 #[.slice A0_3 l0_3.length c0_3, .slice A1_3 l1_3.length c1_3] ?_; (with_reducible refine (laws_eqTaskS.calls ?_ ?_ ?_ ?_ A6.out).mono ?_); exact cu_ HR0_3.out HB.out; exact HC0_3.out; exact cu_ HR1_3.out HB.out; exact HC1_3.out; rintro e w57 ⟨rfl, hb⟩; refine ⟨_, rfl, ?_⟩; replace BK208 := bb_ BK208 hb; replace BK209 := bb_ BK209 hb; replace HB := hb_ HB hb; (try clear hb)))
     go_ret
     exact rt_ HB.out
   ·
    rw [if_neg c5] at H; have c5b0 : (a0_2 == a1_2) = false := beq_eq_false_iff_ne.mpr c5; have c5b1 : (a0_2 != a1_2) = true := bne_iff_ne.mpr c5; obtain rfl := Option.some.inj H
    go_enter Try.func23, Try.ntmps23
    go_wp2_with (first | ((with_reducible refine gate_dst (N := 2) rfl ?_); refine bz_ 2 ?_; intro gb208 hg w58 hbox hb; obtain ⟨BK208, GW208, GE208, HB⟩ := nb_ hg hbox HB hb; clear hb hbox hg) | ((with_reducible refine gate_dst (N := 3) rfl ?_); refine bz_ 3 ?_; intro gb209 hg w59 hbox hb; obtain ⟨BK209, GW209, GE209, HB⟩ := nb_ hg hbox HB hb; have NB208_209 := nx_ hg BK208; have NB209_208 := ny_ hg BK208; replace BK208 := bb_ BK208 hb; clear hb hbox hg; have hnb60 := NB208_209.out; have hnc60 := NB209_208.out; have hcz61 := box8_ BK208.out; have hcz62 := box8_ BK209.out))
    go_ret
    exact rt_ HB.out
  ·
   rw [if_neg c4] at H; have c4b0 : (a0_1 == a1_1) = false := beq_eq_false_iff_ne.mpr c4; have c4b1 : (a0_1 != a1_1) = true := bne_iff_ne.mpr c4; obtain rfl := Option.some.inj H
   go_enter Try.func23, Try.ntmps23
   go_wp2_with (first | ((with_reducible refine gate_dst (N := 2) rfl ?_); refine bz_ 2 ?_; intro gb208 hg w63 hbox hb; obtain ⟨BK208, GW208, GE208, HB⟩ := nb_ hg hbox HB hb; clear hb hbox hg) | ((with_reducible refine gate_dst (N := 3) rfl ?_); refine bz_ 3 ?_; intro gb209 hg w64 hbox hb; obtain ⟨BK209, GW209, GE209, HB⟩ := nb_ hg hbox HB hb; have NB208_209 := nx_ hg BK208; have NB209_208 := ny_ hg BK208; replace BK208 := bb_ BK208 hb; clear hb hbox hg; have hnb65 := NB208_209.out; have hnc65 := NB209_208.out; have hcz66 := box8_ BK208.out; have hcz67 := box8_ BK209.out))
   go_ret
   exact rt_ HB.out
 ·
  rw [if_neg c3] at H; have c3b0 : (a0_0 == a1_0) = false := beq_eq_false_iff_ne.mpr c3; have c3b1 : (a0_0 != a1_0) = true := bne_iff_ne.mpr c3; obtain rfl := Option.some.inj H
  go_enter Try.func23, Try.ntmps23
  go_wp2_with (first | ((with_reducible refine gate_dst (N := 2) rfl ?_); refine bz_ 2 ?_; intro gb208 hg w68 hbox hb; obtain ⟨BK208, GW208, GE208, HB⟩ := nb_ hg hbox HB hb; clear hb hbox hg) | ((with_reducible refine gate_dst (N := 3) rfl ?_); refine bz_ 3 ?_; intro gb209 hg w69 hbox hb; obtain ⟨BK209, GW209, GE209, HB⟩ := nb_ hg hbox HB hb; have NB208_209 := nx_ hg BK208; have NB209_208 := ny_ hg BK208; replace BK208 := bb_ BK208 hb; clear hb hbox hg; have hnb70 := NB208_209.out; have hnc70 := NB209_208.out; have hcz71 := box8_ BK208.out; have hcz72 := box8_ BK209.out))
  go_ret
  exact rt_ HB.out

/-! ### laws_eqShape: function 102 -/
def laws_eqShape.f (a0_0 : Int) (a0_1 : Int) (a0_2 : Int) (a1_0 : Int) (a1_1 : Int) (a1_2 : Int) : Option (Bool) := if a0_0 = a1_0 then (if a0_1 = a1_1 then (if a0_2 = a1_2 then (some true) else (some false)) else (some false)) else (some false)
set_option maxHeartbeats 8000000 in
set_option maxRecDepth 100000 in
theorem laws_eqShape.calls {a0_0 : Int} {a0_1 : Int} {a0_2 : Int} {a1_0 : Int} {a1_1 : Int} {a1_2 : Int} {r : Bool} {w : World} (h : laws_eqShape.f a0_0 a0_1 a0_2 a1_0 a1_1 a1_2 = some r) :
  Calls Try.prog 102 #[.agg #[.int .i64 a0_0, .int .i64 a0_1, .int .i64 a0_2], .agg #[.int .i64 a1_0, .int .i64 a1_1, .int .i64 a1_2]] w fun e w' => e = .returned (.bool r) ∧ Below w.heap.size w w' := by
 have hu85 := Try.underlying85; have HB := Aside0.mk (Below.refl w.heap.size w); have H : (if a0_0 = a1_0 then (if a0_1 = a1_1 then (if a0_2 = a1_2 then (some true) else (some false)) else (some false)) else (some false)) = some r := h; clear h
 by_cases c3 : a0_0 = a1_0
 ·
  rw [if_pos c3] at H; have c3b0 : (a0_0 == a1_0) = true := beq_iff_eq.mpr c3; have c3b1 : (a0_0 != a1_0) = false := bne_eq_false_iff_eq.mpr c3; clear c3
  by_cases c4 : a0_1 = a1_1
  ·
   rw [if_pos c4] at H; have c4b0 : (a0_1 == a1_1) = true := beq_iff_eq.mpr c4; have c4b1 : (a0_1 != a1_1) = false := bne_eq_false_iff_eq.mpr c4; clear c4
   by_cases c5 : a0_2 = a1_2
   ·
    rw [if_pos c5] at H; have c5b0 : (a0_2 == a1_2) = true := beq_iff_eq.mpr c5; have c5b1 : (a0_2 != a1_2) = false := bne_eq_false_iff_eq.mpr c5; clear c5; obtain rfl := Option.some.inj H
    go_enter Try.func102, Try.ntmps102
    go_wp2_with (first | ((with_reducible refine gate_dst (N := 2) rfl ?_); refine bz_ 2 ?_; intro gb211 hg w6 hbox hb; obtain ⟨BK211, GW211, GE211, HB⟩ := nb_ hg hbox HB hb; clear hb hbox hg) | ((with_reducible refine gate_dst (N := 3) rfl ?_); refine bz_ 3 ?_; intro gb212 hg w7 hbox hb; obtain ⟨BK212, GW212, GE212, HB⟩ := nb_ hg hbox HB hb; have NB211_212 := nx_ hg BK211; have NB212_211 := ny_ hg BK211; replace BK211 := bb_ BK211 hb; clear hb hbox hg; have hnb8 := NB211_212.out; have hnc8 := NB212_211.out; have hcz9 := box3_ BK211.out; have hcz10 := box3_ BK212.out))
    go_ret
    exact rt_ HB.out
   ·
    rw [if_neg c5] at H; have c5b0 : (a0_2 == a1_2) = false := beq_eq_false_iff_ne.mpr c5; have c5b1 : (a0_2 != a1_2) = true := bne_iff_ne.mpr c5; obtain rfl := Option.some.inj H
    go_enter Try.func102, Try.ntmps102
    go_wp2_with (first | ((with_reducible refine gate_dst (N := 2) rfl ?_); refine bz_ 2 ?_; intro gb211 hg w11 hbox hb; obtain ⟨BK211, GW211, GE211, HB⟩ := nb_ hg hbox HB hb; clear hb hbox hg) | ((with_reducible refine gate_dst (N := 3) rfl ?_); refine bz_ 3 ?_; intro gb212 hg w12 hbox hb; obtain ⟨BK212, GW212, GE212, HB⟩ := nb_ hg hbox HB hb; have NB211_212 := nx_ hg BK211; have NB212_211 := ny_ hg BK211; replace BK211 := bb_ BK211 hb; clear hb hbox hg; have hnb13 := NB211_212.out; have hnc13 := NB212_211.out; have hcz14 := box3_ BK211.out; have hcz15 := box3_ BK212.out))
    go_ret
    exact rt_ HB.out
  ·
   rw [if_neg c4] at H; have c4b0 : (a0_1 == a1_1) = false := beq_eq_false_iff_ne.mpr c4; have c4b1 : (a0_1 != a1_1) = true := bne_iff_ne.mpr c4; obtain rfl := Option.some.inj H
   go_enter Try.func102, Try.ntmps102
   go_wp2_with (first | ((with_reducible refine gate_dst (N := 2) rfl ?_); refine bz_ 2 ?_; intro gb211 hg w16 hbox hb; obtain ⟨BK211, GW211, GE211, HB⟩ := nb_ hg hbox HB hb; clear hb hbox hg) | ((with_reducible refine gate_dst (N := 3) rfl ?_); refine bz_ 3 ?_; intro gb212 hg w17 hbox hb; obtain ⟨BK212, GW212, GE212, HB⟩ := nb_ hg hbox HB hb; have NB211_212 := nx_ hg BK211; have NB212_211 := ny_ hg BK211; replace BK211 := bb_ BK211 hb; clear hb hbox hg; have hnb18 := NB211_212.out; have hnc18 := NB212_211.out; have hcz19 := box3_ BK211.out; have hcz20 := box3_ BK212.out))
   go_ret
   exact rt_ HB.out
 ·
  rw [if_neg c3] at H; have c3b0 : (a0_0 == a1_0) = false := beq_eq_false_iff_ne.mpr c3; have c3b1 : (a0_0 != a1_0) = true := bne_iff_ne.mpr c3; obtain rfl := Option.some.inj H
  go_enter Try.func102, Try.ntmps102
  go_wp2_with (first | ((with_reducible refine gate_dst (N := 2) rfl ?_); refine bz_ 2 ?_; intro gb211 hg w21 hbox hb; obtain ⟨BK211, GW211, GE211, HB⟩ := nb_ hg hbox HB hb; clear hb hbox hg) | ((with_reducible refine gate_dst (N := 3) rfl ?_); refine bz_ 3 ?_; intro gb212 hg w22 hbox hb; obtain ⟨BK212, GW212, GE212, HB⟩ := nb_ hg hbox HB hb; have NB211_212 := nx_ hg BK211; have NB212_211 := ny_ hg BK211; replace BK211 := bb_ BK211 hb; clear hb hbox hg; have hnb23 := NB211_212.out; have hnc23 := NB212_211.out; have hcz24 := box3_ BK211.out; have hcz25 := box3_ BK212.out))
  go_ret
  exact rt_ HB.out

/-! ### laws_eqLayer: function 106 -/
def laws_eqLayer.f (k : Nat) (a0_0 : Int) (a0_1 : Int) (a0_2 : Int) (a0_3 : Int) (a0_4 : Int) (a0_5 : Int) (a0_6 : Int) (l0_7 : List Int) (l0_8 : List Int) (a1_0 : Int) (a1_1 : Int) (a1_2 : Int) (a1_3 : Int) (a1_4 : Int) (a1_5 : Int) (a1_6 : Int) (l1_7 : List Int) (l1_8 : List Int) : Option (Bool) := if a0_0 = a1_0 then (if a0_1 = a1_1 then (if a0_2 = a1_2 then (if a0_3 = a1_3 then (if a0_4 = a1_4 then (if a0_5 = a1_5 then (if a0_6 = a1_6 then ((laws_eqIntS.f k l0_7 l1_7).bind fun t215 => (if t215 = true then ((laws_eqIntS.f k l0_8 l1_8).bind fun t216 => (if t216 = true then (some true) else (some false))) else (some false))) else (some false)) else (some false)) else (some false)) else (some false)) else (some false)) else (some false)) else (some false)
set_option maxHeartbeats 8000000 in
set_option maxRecDepth 100000 in
theorem laws_eqLayer.calls {k : Nat} {a0_0 : Int} {a0_1 : Int} {a0_2 : Int} {a0_3 : Int} {a0_4 : Int} {a0_5 : Int} {a0_6 : Int} {A0_7 : Option Addr} {c0_7 : Nat} {l0_7 : List Int} {A0_8 : Option Addr} {c0_8 : Nat} {l0_8 : List Int} {a1_0 : Int} {a1_1 : Int} {a1_2 : Int} {a1_3 : Int} {a1_4 : Int} {a1_5 : Int} {a1_6 : Int} {A1_7 : Option Addr} {c1_7 : Nat} {l1_7 : List Int} {A1_8 : Option Addr} {c1_8 : Nat} {l1_8 : List Int} {r : Bool} {w : World} (hr0_7 : Kd.C (Kd.int .i64) w A0_7 l0_7.length l0_7) (hc0_7 : l0_7.length ≤ c0_7) (hr0_8 : Kd.C (Kd.int .i64) w A0_8 l0_8.length l0_8) (hc0_8 : l0_8.length ≤ c0_8) (hr1_7 : Kd.C (Kd.int .i64) w A1_7 l1_7.length l1_7) (hc1_7 : l1_7.length ≤ c1_7) (hr1_8 : Kd.C (Kd.int .i64) w A1_8 l1_8.length l1_8) (hc1_8 : l1_8.length ≤ c1_8) (h : laws_eqLayer.f k a0_0 a0_1 a0_2 a0_3 a0_4 a0_5 a0_6 l0_7 l0_8 a1_0 a1_1 a1_2 a1_3 a1_4 a1_5 a1_6 l1_7 l1_8 = some r) :
  Calls Try.prog 106 #[.agg #[.int .i64 a0_0, .int .i64 a0_1, .int .i64 a0_2, .int .i64 a0_3, .int .i64 a0_4, .int .i64 a0_5, .int .i64 a0_6, .slice A0_7 l0_7.length c0_7, .slice A0_8 l0_8.length c0_8], .agg #[.int .i64 a1_0, .int .i64 a1_1, .int .i64 a1_2, .int .i64 a1_3, .int .i64 a1_4, .int .i64 a1_5, .int .i64 a1_6, .slice A1_7 l1_7.length c1_7, .slice A1_8 l1_8.length c1_8]] w fun e w' => e = .returned (.bool r) ∧ Below w.heap.size w w' := by
 have hu107 := Try.underlying107; have HR0_7 := Aside0.mk hr0_7; have HC0_7 := Aside0.mk hc0_7; clear hr0_7 hc0_7; have HR0_8 := Aside0.mk hr0_8; have HC0_8 := Aside0.mk hc0_8; clear hr0_8 hc0_8; have HR1_7 := Aside0.mk hr1_7; have HC1_7 := Aside0.mk hc1_7; clear hr1_7 hc1_7; have HR1_8 := Aside0.mk hr1_8; have HC1_8 := Aside0.mk hc1_8; clear hr1_8 hc1_8; have HB := Aside0.mk (Below.refl w.heap.size w); have H : (if a0_0 = a1_0 then (if a0_1 = a1_1 then (if a0_2 = a1_2 then (if a0_3 = a1_3 then (if a0_4 = a1_4 then (if a0_5 = a1_5 then (if a0_6 = a1_6 then ((laws_eqIntS.f k l0_7 l1_7).bind fun t215 => (if t215 = true then ((laws_eqIntS.f k l0_8 l1_8).bind fun t216 => (if t216 = true then (some true) else (some false))) else (some false))) else (some false)) else (some false)) else (some false)) else (some false)) else (some false)) else (some false)) else (some false)) = some r := h; clear h
 by_cases c3 : a0_0 = a1_0
 ·
  rw [if_pos c3] at H; have c3b0 : (a0_0 == a1_0) = true := beq_iff_eq.mpr c3; have c3b1 : (a0_0 != a1_0) = false := bne_eq_false_iff_eq.mpr c3; clear c3
  by_cases c4 : a0_1 = a1_1
  ·
   rw [if_pos c4] at H; have c4b0 : (a0_1 == a1_1) = true := beq_iff_eq.mpr c4; have c4b1 : (a0_1 != a1_1) = false := bne_eq_false_iff_eq.mpr c4; clear c4
   by_cases c5 : a0_2 = a1_2
   ·
    rw [if_pos c5] at H; have c5b0 : (a0_2 == a1_2) = true := beq_iff_eq.mpr c5; have c5b1 : (a0_2 != a1_2) = false := bne_eq_false_iff_eq.mpr c5; clear c5
    by_cases c6 : a0_3 = a1_3
    ·
     rw [if_pos c6] at H; have c6b0 : (a0_3 == a1_3) = true := beq_iff_eq.mpr c6; have c6b1 : (a0_3 != a1_3) = false := bne_eq_false_iff_eq.mpr c6; clear c6
     by_cases c7 : a0_4 = a1_4
     ·
      rw [if_pos c7] at H; have c7b0 : (a0_4 == a1_4) = true := beq_iff_eq.mpr c7; have c7b1 : (a0_4 != a1_4) = false := bne_eq_false_iff_eq.mpr c7; clear c7
      by_cases c8 : a0_5 = a1_5
      ·
       rw [if_pos c8] at H; have c8b0 : (a0_5 == a1_5) = true := beq_iff_eq.mpr c8; have c8b1 : (a0_5 != a1_5) = false := bne_eq_false_iff_eq.mpr c8; clear c8
       by_cases c9 : a0_6 = a1_6
       ·
        rw [if_pos c9] at H; have c9b0 : (a0_6 == a1_6) = true := beq_iff_eq.mpr c9; have c9b1 : (a0_6 != a1_6) = false := bne_eq_false_iff_eq.mpr c9; clear c9; obtain ⟨t215, A10, H⟩ := bo_ H; (try dsimp only at H)
        by_cases c11 : t215 = true
        ·
         subst c11; rw [if_pos rfl] at H; obtain ⟨t216, A12, H⟩ := bo_ H; (try dsimp only at H)
         by_cases c13 : t216 = true
         ·
          subst c13; rw [if_pos rfl] at H; obtain rfl := Option.some.inj H
          go_enter Try.func106, Try.ntmps106
          go_wp2_with (first | ((with_reducible refine gate_dst (N := 2) rfl ?_); refine bz_ 2 ?_; intro gb213 hg w14 hbox hb; obtain ⟨BK213, GW213, GE213, HB⟩ := nb_ hg hbox HB hb; clear hb hbox hg) | ((with_reducible refine gate_dst (N := 3) rfl ?_); refine bz_ 3 ?_; intro gb214 hg w15 hbox hb; obtain ⟨BK214, GW214, GE214, HB⟩ := nb_ hg hbox HB hb; have NB213_214 := nx_ hg BK213; have NB214_213 := ny_ hg BK213; replace BK213 := bb_ BK213 hb; clear hb hbox hg; have hnb16 := NB213_214.out; have hnc16 := NB214_213.out; have hcz17 := box9_ BK213.out; have hcz18 := box9_ BK214.out) | ((with_reducible refine gc_ 38 ?_); refine gl_ (some 44) Try.func38 #[.slice A0_7 l0_7.length c0_7, .slice A1_7 l1_7.length c1_7] ?_; (with_reducible refine (laws_eqIntS.calls ?_ ?_ ?_ ?_ A10.out).mono ?_); exact cu_ HR0_7.out HB.out; exact HC0_7.out; exact cu_ HR1_7.out HB.out; exact HC1_7.out; rintro e w' ⟨rfl, ⟨nd, rfl⟩⟩; refine ⟨_, rfl, ?_⟩) | ((with_reducible refine gc_ 38 ?_); refine gl_ (some 50) Try.func38 #[.slice A0_8 l0_8.length c0_8, .slice A1_8 l1_8.length c1_8] ?_; (with_reducible refine (laws_eqIntS.calls ?_ ?_ ?_ ?_ A12.out).mono ?_); exact cu_ HR0_8.out HB.out; exact HC0_8.out; exact cu_ HR1_8.out HB.out; exact HC1_8.out; rintro e w' ⟨rfl, ⟨nd, rfl⟩⟩; refine ⟨_, rfl, ?_⟩))
          go_ret
          exact rt_ HB.out
         ·
          replace c13 := Bool.eq_false_iff.mpr c13; subst c13; have H1 : (some false) = some r := by rw [if_neg (show ¬ (false = true) by decide)] at H; exact H
          clear H; have H := H1; clear H1; obtain rfl := Option.some.inj H
          go_enter Try.func106, Try.ntmps106
          go_wp2_with (first | ((with_reducible refine gate_dst (N := 2) rfl ?_); refine bz_ 2 ?_; intro gb213 hg w19 hbox hb; obtain ⟨BK213, GW213, GE213, HB⟩ := nb_ hg hbox HB hb; clear hb hbox hg) | ((with_reducible refine gate_dst (N := 3) rfl ?_); refine bz_ 3 ?_; intro gb214 hg w20 hbox hb; obtain ⟨BK214, GW214, GE214, HB⟩ := nb_ hg hbox HB hb; have NB213_214 := nx_ hg BK213; have NB214_213 := ny_ hg BK213; replace BK213 := bb_ BK213 hb; clear hb hbox hg; have hnb21 := NB213_214.out; have hnc21 := NB214_213.out; have hcz22 := box9_ BK213.out; have hcz23 := box9_ BK214.out) | ((with_reducible refine gc_ 38 ?_); refine gl_ (some 44) Try.func38 #[.slice A0_7 l0_7.length c0_7, .slice A1_7 l1_7.length c1_7] ?_; (with_reducible refine (laws_eqIntS.calls ?_ ?_ ?_ ?_ A10.out).mono ?_); exact cu_ HR0_7.out HB.out; exact HC0_7.out; exact cu_ HR1_7.out HB.out; exact HC1_7.out; rintro e w' ⟨rfl, ⟨nd, rfl⟩⟩; refine ⟨_, rfl, ?_⟩) | ((with_reducible refine gc_ 38 ?_); refine gl_ (some 50) Try.func38 #[.slice A0_8 l0_8.length c0_8, .slice A1_8 l1_8.length c1_8] ?_; (with_reducible refine (laws_eqIntS.calls ?_ ?_ ?_ ?_ A12.out).mono ?_); exact cu_ HR0_8.out HB.out; exact HC0_8.out; exact cu_ HR1_8.out HB.out; exact HC1_8.out; rintro e w' ⟨rfl, ⟨nd, rfl⟩⟩; refine ⟨_, rfl, ?_⟩))
          go_ret
          exact rt_ HB.out
        ·
         replace c11 := Bool.eq_false_iff.mpr c11; subst c11; have H1 : (some false) = some r := by rw [if_neg (show ¬ (false = true) by decide)] at H; exact H
         clear H; have H := H1; clear H1; obtain rfl := Option.some.inj H
         go_enter Try.func106, Try.ntmps106
         go_wp2_with (first | ((with_reducible refine gate_dst (N := 2) rfl ?_); refine bz_ 2 ?_; intro gb213 hg w24 hbox hb; obtain ⟨BK213, GW213, GE213, HB⟩ := nb_ hg hbox HB hb; clear hb hbox hg) | ((with_reducible refine gate_dst (N := 3) rfl ?_); refine bz_ 3 ?_; intro gb214 hg w25 hbox hb; obtain ⟨BK214, GW214, GE214, HB⟩ := nb_ hg hbox HB hb; have NB213_214 := nx_ hg BK213; have NB214_213 := ny_ hg BK213; replace BK213 := bb_ BK213 hb; clear hb hbox hg; have hnb26 := NB213_214.out; have hnc26 := NB214_213.out; have hcz27 := box9_ BK213.out; have hcz28 := box9_ BK214.out) | ((with_reducible refine gc_ 38 ?_); refine gl_ (some 44) Try.func38 #[.slice A0_7 l0_7.length c0_7, .slice A1_7 l1_7.length c1_7] ?_; (with_reducible refine (laws_eqIntS.calls ?_ ?_ ?_ ?_ A10.out).mono ?_); exact cu_ HR0_7.out HB.out; exact HC0_7.out; exact cu_ HR1_7.out HB.out; exact HC1_7.out; rintro e w' ⟨rfl, ⟨nd, rfl⟩⟩; refine ⟨_, rfl, ?_⟩))
         go_ret
         exact rt_ HB.out
       ·
        rw [if_neg c9] at H; have c9b0 : (a0_6 == a1_6) = false := beq_eq_false_iff_ne.mpr c9; have c9b1 : (a0_6 != a1_6) = true := bne_iff_ne.mpr c9; obtain rfl := Option.some.inj H
        go_enter Try.func106, Try.ntmps106
        go_wp2_with (first | ((with_reducible refine gate_dst (N := 2) rfl ?_); refine bz_ 2 ?_; intro gb213 hg w29 hbox hb; obtain ⟨BK213, GW213, GE213, HB⟩ := nb_ hg hbox HB hb; clear hb hbox hg) | ((with_reducible refine gate_dst (N := 3) rfl ?_); refine bz_ 3 ?_; intro gb214 hg w30 hbox hb; obtain ⟨BK214, GW214, GE214, HB⟩ := nb_ hg hbox HB hb; have NB213_214 := nx_ hg BK213; have NB214_213 := ny_ hg BK213; replace BK213 := bb_ BK213 hb; clear hb hbox hg; have hnb31 := NB213_214.out; have hnc31 := NB214_213.out; have hcz32 := box9_ BK213.out; have hcz33 := box9_ BK214.out))
        go_ret
        exact rt_ HB.out
      ·
       rw [if_neg c8] at H; have c8b0 : (a0_5 == a1_5) = false := beq_eq_false_iff_ne.mpr c8; have c8b1 : (a0_5 != a1_5) = true := bne_iff_ne.mpr c8; obtain rfl := Option.some.inj H
       go_enter Try.func106, Try.ntmps106
       go_wp2_with (first | ((with_reducible refine gate_dst (N := 2) rfl ?_); refine bz_ 2 ?_; intro gb213 hg w34 hbox hb; obtain ⟨BK213, GW213, GE213, HB⟩ := nb_ hg hbox HB hb; clear hb hbox hg) | ((with_reducible refine gate_dst (N := 3) rfl ?_); refine bz_ 3 ?_; intro gb214 hg w35 hbox hb; obtain ⟨BK214, GW214, GE214, HB⟩ := nb_ hg hbox HB hb; have NB213_214 := nx_ hg BK213; have NB214_213 := ny_ hg BK213; replace BK213 := bb_ BK213 hb; clear hb hbox hg; have hnb36 := NB213_214.out; have hnc36 := NB214_213.out; have hcz37 := box9_ BK213.out; have hcz38 := box9_ BK214.out))
       go_ret
       exact rt_ HB.out
     ·
      rw [if_neg c7] at H; have c7b0 : (a0_4 == a1_4) = false := beq_eq_false_iff_ne.mpr c7; have c7b1 : (a0_4 != a1_4) = true := bne_iff_ne.mpr c7; obtain rfl := Option.some.inj H
      go_enter Try.func106, Try.ntmps106
      go_wp2_with (first | ((with_reducible refine gate_dst (N := 2) rfl ?_); refine bz_ 2 ?_; intro gb213 hg w39 hbox hb; obtain ⟨BK213, GW213, GE213, HB⟩ := nb_ hg hbox HB hb; clear hb hbox hg) | ((with_reducible refine gate_dst (N := 3) rfl ?_); refine bz_ 3 ?_; intro gb214 hg w40 hbox hb; obtain ⟨BK214, GW214, GE214, HB⟩ := nb_ hg hbox HB hb; have NB213_214 := nx_ hg BK213; have NB214_213 := ny_ hg BK213; replace BK213 := bb_ BK213 hb; clear hb hbox hg; have hnb41 := NB213_214.out; have hnc41 := NB214_213.out; have hcz42 := box9_ BK213.out; have hcz43 := box9_ BK214.out))
      go_ret
      exact rt_ HB.out
    ·
     rw [if_neg c6] at H; have c6b0 : (a0_3 == a1_3) = false := beq_eq_false_iff_ne.mpr c6; have c6b1 : (a0_3 != a1_3) = true := bne_iff_ne.mpr c6; obtain rfl := Option.some.inj H
     go_enter Try.func106, Try.ntmps106
     go_wp2_with (first | ((with_reducible refine gate_dst (N := 2) rfl ?_); refine bz_ 2 ?_; intro gb213 hg w44 hbox hb; obtain ⟨BK213, GW213, GE213, HB⟩ := nb_ hg hbox HB hb; clear hb hbox hg) | ((with_reducible refine gate_dst (N := 3) rfl ?_); refine bz_ 3 ?_; intro gb214 hg w45 hbox hb; obtain ⟨BK214, GW214, GE214, HB⟩ := nb_ hg hbox HB hb; have NB213_214 := nx_ hg BK213; have NB214_213 := ny_ hg BK213; replace BK213 := bb_ BK213 hb; clear hb hbox hg; have hnb46 := NB213_214.out; have hnc46 := NB214_213.out; have hcz47 := box9_ BK213.out; have hcz48 := box9_ BK214.out))
     go_ret
     exact rt_ HB.out
   ·
    rw [if_neg c5] at H; have c5b0 : (a0_2 == a1_2) = false := beq_eq_false_iff_ne.mpr c5; have c5b1 : (a0_2 != a1_2) = true := bne_iff_ne.mpr c5; obtain rfl := Option.some.inj H
    go_enter Try.func106, Try.ntmps106
    go_wp2_with (first | ((with_reducible refine gate_dst (N := 2) rfl ?_); refine bz_ 2 ?_; intro gb213 hg w49 hbox hb; obtain ⟨BK213, GW213, GE213, HB⟩ := nb_ hg hbox HB hb; clear hb hbox hg) | ((with_reducible refine gate_dst (N := 3) rfl ?_); refine bz_ 3 ?_; intro gb214 hg w50 hbox hb; obtain ⟨BK214, GW214, GE214, HB⟩ := nb_ hg hbox HB hb; have NB213_214 := nx_ hg BK213; have NB214_213 := ny_ hg BK213; replace BK213 := bb_ BK213 hb; clear hb hbox hg; have hnb51 := NB213_214.out; have hnc51 := NB214_213.out; have hcz52 := box9_ BK213.out; have hcz53 := box9_ BK214.out))
    go_ret
    exact rt_ HB.out
  ·
   rw [if_neg c4] at H; have c4b0 : (a0_1 == a1_1) = false := beq_eq_false_iff_ne.mpr c4; have c4b1 : (a0_1 != a1_1) = true := bne_iff_ne.mpr c4; obtain rfl := Option.some.inj H
   go_enter Try.func106, Try.ntmps106
   go_wp2_with (first | ((with_reducible refine gate_dst (N := 2) rfl ?_); refine bz_ 2 ?_; intro gb213 hg w54 hbox hb; obtain ⟨BK213, GW213, GE213, HB⟩ := nb_ hg hbox HB hb; clear hb hbox hg) | ((with_reducible refine gate_dst (N := 3) rfl ?_); refine bz_ 3 ?_; intro gb214 hg w55 hbox hb; obtain ⟨BK214, GW214, GE214, HB⟩ := nb_ hg hbox HB hb; have NB213_214 := nx_ hg BK213; have NB214_213 := ny_ hg BK213; replace BK213 := bb_ BK213 hb; clear hb hbox hg; have hnb56 := NB213_214.out; have hnc56 := NB214_213.out; have hcz57 := box9_ BK213.out; have hcz58 := box9_ BK214.out))
   go_ret
   exact rt_ HB.out
 ·
  rw [if_neg c3] at H; have c3b0 : (a0_0 == a1_0) = false := beq_eq_false_iff_ne.mpr c3; have c3b1 : (a0_0 != a1_0) = true := bne_iff_ne.mpr c3; obtain rfl := Option.some.inj H
  go_enter Try.func106, Try.ntmps106
  go_wp2_with (first | ((with_reducible refine gate_dst (N := 2) rfl ?_); refine bz_ 2 ?_; intro gb213 hg w59 hbox hb; obtain ⟨BK213, GW213, GE213, HB⟩ := nb_ hg hbox HB hb; clear hb hbox hg) | ((with_reducible refine gate_dst (N := 3) rfl ?_); refine bz_ 3 ?_; intro gb214 hg w60 hbox hb; obtain ⟨BK214, GW214, GE214, HB⟩ := nb_ hg hbox HB hb; have NB213_214 := nx_ hg BK213; have NB214_213 := ny_ hg BK213; replace BK213 := bb_ BK213 hb; clear hb hbox hg; have hnb61 := NB213_214.out; have hnc61 := NB214_213.out; have hcz62 := box9_ BK213.out; have hcz63 := box9_ BK214.out))
  go_ret
  exact rt_ HB.out

/-! ### laws_eqLayerS: function 103 -/
def laws_eqLayerS.l0 : Nat → List (S107) → List (S107) → Int → Option (Bool)
 | 0, _, _, _ => none
 | k + 1, x0, x1, x5 => if x5 < (x0.length : Int) then (if 0 ≤ x5 then (if x5 < (x1.length : Int) then ((laws_eqLayer.f k ((rd_T107 x0 x5).f0) ((rd_T107 x0 x5).f1) ((rd_T107 x0 x5).f2) ((rd_T107 x0 x5).f3) ((rd_T107 x0 x5).f4) ((rd_T107 x0 x5).f5) ((rd_T107 x0 x5).f6) ((rd_T107 x0 x5).f7) ((rd_T107 x0 x5).f8) ((rd_T107 x1 x5).f0) ((rd_T107 x1 x5).f1) ((rd_T107 x1 x5).f2) ((rd_T107 x1 x5).f3) ((rd_T107 x1 x5).f4) ((rd_T107 x1 x5).f5) ((rd_T107 x1 x5).f6) ((rd_T107 x1 x5).f7) ((rd_T107 x1 x5).f8)).bind fun t219 => (if t219 = true then (laws_eqLayerS.l0 k x0 x1 (wrap64 (x5 + 1))) else (some false))) else (none)) else (none)) else (some true)
def laws_eqLayerS.f (k : Nat) (l0 : List (S107)) (l1 : List (S107)) : Option (Bool) := if (l0.length : Int) = (l1.length : Int) then (laws_eqLayerS.l0 k l0 l1 0) else (some false)
def laws_eqLayerS.T6 : Bool × List (List Nat × List Nat) := (true, [([], []), ([], []), ([0, 1], [0, 1]), ([2], [2]), ([], []), ([], []), ([4, 5], [4, 5]), ([6], [6]), ([3, 7], [3, 7]), ([8], [8])])
def laws_eqLayerS.B6 : List Nat := [0, 0, 3, 7, 0, 0, 48, 112, 255, 511]
theorem laws_eqLayerS.tab6 : rtab .any (opsOf Try.f103 6) = laws_eqLayerS.T6 := by kernel_rfl
theorem laws_eqLayerS.bits6 : waitsOk laws_eqLayerS.T6.2 laws_eqLayerS.B6 = true := by kernel_rfl
set_option maxHeartbeats 8000000 in
set_option maxRecDepth 100000 in
theorem laws_eqLayerS.calls {k : Nat} {A0 : Option Addr} {c0 : Nat} {l0 : List (S107)} {A1 : Option Addr} {c1 : Nat} {l1 : List (S107)} {r : Bool} {w : World} (hr0 : Kd.C k107 w A0 l0.length l0) (hc0 : l0.length ≤ c0) (hr1 : Kd.C k107 w A1 l1.length l1) (hc1 : l1.length ≤ c1) (h : laws_eqLayerS.f k l0 l1 = some r) :
  Calls Try.prog 103 #[.slice A0 l0.length c0, .slice A1 l1.length c1] w fun e w' => e = .returned (.bool r) ∧ Below w.heap.size w w' := by
 have hu107 := Try.underlying107; have HR0 := Aside0.mk hr0; have HC0 := Aside0.mk hc0; clear hr0 hc0; have HR1 := Aside0.mk hr1; have HC1 := Aside0.mk hc1; clear hr1 hc1; have HB := Aside0.mk (Below.refl w.heap.size w); have H : (if (l0.length : Int) = (l1.length : Int) then (laws_eqLayerS.l0 k l0 l1 0) else (some false)) = some r := h; clear h
 by_cases c3 : (l0.length : Int) = (l1.length : Int)
 ·
  rw [if_pos c3] at H; have c3b0 : ((l0.length : Int) == (l1.length : Int)) = true := beq_iff_eq.mpr c3; have c3b1 : ((l0.length : Int) != (l1.length : Int)) = false := bne_eq_false_iff_eq.mpr c3; have c3b2 : (l0.length == l1.length) = true := by first | simpa using c3 | (simp at c3 ⊢; omega)
  clear c3; have H' := Aside0.mk H; clear H
  go_enter Try.func103, Try.ntmps103
  go_wp2
  go_loopg [5] k (fun kq v5 w' => ∃ (x5_1 : Int), v5 = .int .i64 x5_1 ∧ Aside0 (laws_eqLayerS.l0 kq l0 l1 x5_1 = some r) ∧ Aside0 (kq ≤ k) ∧ Aside0 (Below w.heap.size w w'))
  case atStart => exact ⟨(0), (by first | rfl | (simp; done) | (simp [*]; done)), H', ⟨Nat.le_refl _⟩, ⟨be_ HB.out⟩⟩
  case round =>
   clear H'; (try clear c1); (try clear p2); (try clear c3); (try clear c3b0); (try clear c3b1); (try clear c3b2); obtain ⟨x5_1, rfl, HA, HK1, HB⟩ := hrel
   cases gk with
   | zero => exact absurd HA.out (by simp [laws_eqLayerS.l0])
   | succ k1 =>
    have H := HA.out; clear HA; simp only [laws_eqLayerS.l0] at H
    by_cases c4 : x5_1 < (l0.length : Int)
    ·
     rw [if_pos c4] at H; have c4b0 : decide (x5_1 < (l0.length : Int)) = true := decide_eq_true c4; clear c4
     by_cases c5 : 0 ≤ x5_1
     ·
      rw [if_pos c5] at H; have c5b0 : decide (0 ≤ x5_1) = true := decide_eq_true c5; clear c5
      by_cases c6 : x5_1 < (l1.length : Int)
      ·
       rw [if_pos c6] at H; have c6b0 : decide (x5_1 < (l1.length : Int)) = true := decide_eq_true c6; clear c6; obtain ⟨t219, A7, H⟩ := bo_ H; (try dsimp only at H)
       by_cases c8 : t219 = true
       ·
        subst c8; rw [if_pos rfl] at H; have H' := Aside0.mk H; clear H
        try go_wp2
        replace HB := Aside0.mk (below_drew1 HB.out); have p217 : 0 ≤ (x5_1 : Int) := od_; have q217 : x5_1 < (l0.length : Int) := od_; obtain ⟨ad217, A217_7, c217_7, A217_8, c217_8, e217, hx217_0, hx217_1, hx217_2, hx217_3, hx217_4, hx217_5, hx217_6, hx217_7, hx217_8, hl217_7, hi217_7, hl217_8, hi217_8⟩ := at_T107 HR0.out x5_1 p217 q217; have hw217_8 := hx217_8; have hw217_7 := hx217_7; have hw217_6 := hx217_6; have hw217_5 := hx217_5; have hw217_4 := hx217_4; have hw217_3 := hx217_3; have hw217_2 := hx217_2; have hw217_1 := hx217_1; have hw217_0 := hx217_0
        cases e217
        replace hx217_0 := cw_ HB.out hx217_0; replace hx217_1 := cw_ HB.out hx217_1; replace hx217_2 := cw_ HB.out hx217_2; replace hx217_3 := cw_ HB.out hx217_3; replace hx217_4 := cw_ HB.out hx217_4; replace hx217_5 := cw_ HB.out hx217_5; replace hx217_6 := cw_ HB.out hx217_6; replace hx217_7 := cw_ HB.out hx217_7; replace hx217_8 := cw_ HB.out hx217_8; have HR217_7 := Aside0.mk hi217_7; have HC217_7 := Aside0.mk hl217_7; clear hi217_7 hl217_7; have HR217_8 := Aside0.mk hi217_8; have HC217_8 := Aside0.mk hl217_8; clear hi217_8 hl217_8; replace p217 := eq_true p217; replace q217 := eq_true q217; have p218 : 0 ≤ (x5_1 : Int) := od_; have q218 : x5_1 < (l1.length : Int) := od_; obtain ⟨ad218, A218_7, c218_7, A218_8, c218_8, e218, hx218_0, hx218_1, hx218_2, hx218_3, hx218_4, hx218_5, hx218_6, hx218_7, hx218_8, hl218_7, hi218_7, hl218_8, hi218_8⟩ := at_T107 HR1.out x5_1 p218 q218; have hw218_8 := hx218_8; have hw218_7 := hx218_7; have hw218_6 := hx218_6; have hw218_5 := hx218_5; have hw218_4 := hx218_4; have hw218_3 := hx218_3; have hw218_2 := hx218_2; have hw218_1 := hx218_1; have hw218_0 := hx218_0
        cases e218
        replace hx218_0 := cw_ HB.out hx218_0; replace hx218_1 := cw_ HB.out hx218_1; replace hx218_2 := cw_ HB.out hx218_2; replace hx218_3 := cw_ HB.out hx218_3; replace hx218_4 := cw_ HB.out hx218_4; replace hx218_5 := cw_ HB.out hx218_5; replace hx218_6 := cw_ HB.out hx218_6; replace hx218_7 := cw_ HB.out hx218_7; replace hx218_8 := cw_ HB.out hx218_8; have HR218_7 := Aside0.mk hi218_7; have HC218_7 := Aside0.mk hl218_7; clear hi218_7 hl218_7; have HR218_8 := Aside0.mk hi218_8; have HC218_8 := Aside0.mk hl218_8; clear hi218_8 hl218_8; replace p218 := eq_true p218; replace q218 := eq_true q218; refine sta_ 10 (fun w' => w'.cell? (ad217.add ((x5_1).toNat * 9)) = some (.int .i64 ((rd_T107 l0 x5_1).f0)) ∧ CF_ w' (ad217.add ((x5_1).toNat * 9)) 1 (.int .i64 ((rd_T107 l0 x5_1).f1)) ∧ CF_ w' (ad217.add ((x5_1).toNat * 9)) 2 (.int .i64 ((rd_T107 l0 x5_1).f2)) ∧ CF_ w' (ad217.add ((x5_1).toNat * 9)) 3 (.int .i64 ((rd_T107 l0 x5_1).f3)) ∧ CF_ w' (ad217.add ((x5_1).toNat * 9)) 4 (.int .i64 ((rd_T107 l0 x5_1).f4)) ∧ CF_ w' (ad217.add ((x5_1).toNat * 9)) 5 (.int .i64 ((rd_T107 l0 x5_1).f5)) ∧ CF_ w' (ad217.add ((x5_1).toNat * 9)) 6 (.int .i64 ((rd_T107 l0 x5_1).f6)) ∧ CF_ w' (ad217.add ((x5_1).toNat * 9)) 7 (.slice A217_7 ((rd_T107 l0 x5_1).f7).length c217_7) ∧ CF_ w' (ad217.add ((x5_1).toNat * 9)) 8 (.slice A217_8 ((rd_T107 l0 x5_1).f8).length c217_8) ∧ w'.cell? (ad218.add ((x5_1).toNat * 9)) = some (.int .i64 ((rd_T107 l1 x5_1).f0)) ∧ CF_ w' (ad218.add ((x5_1).toNat * 9)) 1 (.int .i64 ((rd_T107 l1 x5_1).f1)) ∧ CF_ w' (ad218.add ((x5_1).toNat * 9)) 2 (.int .i64 ((rd_T107 l1 x5_1).f2)) ∧ CF_ w' (ad218.add ((x5_1).toNat * 9)) 3 (.int .i64 ((rd_T107 l1 x5_1).f3)) ∧ CF_ w' (ad218.add ((x5_1).toNat * 9)) 4 (.int .i64 ((rd_T107 l1 x5_1).f4)) ∧ CF_ w' (ad218.add ((x5_1).toNat * 9)) 5 (.int .i64 ((rd_T107 l1 x5_1).f5)) ∧ CF_ w' (ad218.add ((x5_1).toNat * 9)) 6 (.int .i64 ((rd_T107 l1 x5_1).f6)) ∧ CF_ w' (ad218.add ((x5_1).toNat * 9)) 7 (.slice A218_7 ((rd_T107 l1 x5_1).f7).length c218_7) ∧ CF_ w' (ad218.add ((x5_1).toNat * 9)) 8 (.slice A218_8 ((rd_T107 l1 x5_1).f8).length c218_8)) ⟨(cw_ HB.out hw217_0), (cw_ HB.out hw217_1), (cw_ HB.out hw217_2), (cw_ HB.out hw217_3), (cw_ HB.out hw217_4), (cw_ HB.out hw217_5), (cw_ HB.out hw217_6), (cw_ HB.out hw217_7), (cw_ HB.out hw217_8), (cw_ HB.out hw218_0), (cw_ HB.out hw218_1), (cw_ HB.out hw218_2), (cw_ HB.out hw218_3), (cw_ HB.out hw218_4), (cw_ HB.out hw218_5), (cw_ HB.out hw218_6), (cw_ HB.out hw218_7), (cw_ HB.out hw218_8)⟩ (fun hHeld => ?_); refine with_tabW laws_eqLayerS.tab6 laws_eqLayerS.bits6 (fun HT_ HW_ => ?_); generalize wr.drew = w9 at HB HR217_7 HR217_8 HR218_7 HR218_8 hx217_0 hx217_1 hx217_2 hx217_3 hx217_4 hx217_5 hx217_6 hx217_7 hx217_8 hx218_0 hx218_1 hx218_2 hx218_3 hx218_4 hx218_5 hx218_6 hx218_7 hx218_8 hHeld ⊢; refine pv_ 0 10 1 HT_.out ?_; refine pv_ 1 10 3 HT_.out ?_; refine pv_ 2 10 7 HT_.out ?_; refine pv_ 4 10 23 HT_.out ?_; refine pv_ 5 10 55 HT_.out ?_; refine pv_ 6 10 119 HT_.out ?_; refine tv_ 3 10 127 HT_.out HW_.out hHeld ?_; refine tv_ 7 10 255 HT_.out HW_.out hHeld ?_; refine one_ (i := 8) (N := some 25) (bl_ 10 511) rfl rfl (one_of HT_.out (by kernel_rfl)) (by decide) (fun K hK => ?_); refine ge_ Try.func106 #[.agg #[.int .i64 ((rd_T107 l0 x5_1).f0), .int .i64 ((rd_T107 l0 x5_1).f1), .int .i64 ((rd_T107 l0 x5_1).f2), .int .i64 ((rd_T107 l0 x5_1).f3), .int .i64 ((rd_T107 l0 x5_1).f4), .int .i64 ((rd_T107 l0 x5_1).f5), .int .i64 ((rd_T107 l0 x5_1).f6), .slice A217_7 ((rd_T107 l0 x5_1).f7).length c217_7, .slice A217_8 ((rd_T107 l0 x5_1).f8).length c217_8], .agg #[.int .i64 ((rd_T107 l1 x5_1).f0), .int .i64 ((rd_T107 l1 x5_1).f1), .int .i64 ((rd_T107 l1 x5_1).f2), .int .i64 ((rd_T107 l1 x5_1).f3), .int .i64 ((rd_T107 l1 x5_1).f4), .int .i64 ((rd_T107 l1 x5_1).f5), .int .i64 ((rd_T107 l1 x5_1).f6), .slice A218_7 ((rd_T107 l1 x5_1).f7).length c218_7, .slice A218_8 ((rd_T107 l1 x5_1).f8).length c218_8]] ?_
        (with_reducible refine (laws_eqLayer.calls ?_ ?_ ?_ ?_ ?_ ?_ ?_ ?_ A7.out).mono ?_); exact cu_ HR217_7.out HB.out; exact HC217_7.out; exact cu_ HR217_8.out HB.out; exact HC217_8.out; exact cu_ HR218_7.out HB.out; exact HC218_7.out; exact cu_ HR218_8.out HB.out; exact HC218_8.out; rintro e w10 ⟨rfl, hb⟩; refine ⟨_, rfl, ?_⟩; replace HB := hb_ HB hb; (try clear hb); refine hK.out _ _ ⟨(cw_ HB.out hw217_0), (cw_ HB.out hw217_1), (cw_ HB.out hw217_2), (cw_ HB.out hw217_3), (cw_ HB.out hw217_4), (cw_ HB.out hw217_5), (cw_ HB.out hw217_6), (cw_ HB.out hw217_7), (cw_ HB.out hw217_8), (cw_ HB.out hw218_0), (cw_ HB.out hw218_1), (cw_ HB.out hw218_2), (cw_ HB.out hw218_3), (cw_ HB.out hw218_4), (cw_ HB.out hw218_5), (cw_ HB.out hw218_6), (cw_ HB.out hw218_7), (cw_ HB.out hw218_8)⟩ (fun hHeld => ?_); clear hK K; refine nm_ 25 (h := ?_); refine pv_ 9 10 1023 HT_.out ?_; refine done_ (done_of HT_.out (by kernel_rfl)) ?_
        try go_wp2
        go_roundg k1
        case measure => have := HK1.out; omega
        case rel => exact ⟨(wrap64 (x5_1 + 1)), (by first | rfl | (simp; done) | (simp [*]; done)), H', ⟨by have := HK1.out; omega⟩, ⟨be_ HB.out⟩⟩
       ·
        replace c8 := Bool.eq_false_iff.mpr c8; subst c8; have H1 : (some false) = some r := by rw [if_neg (show ¬ (false = true) by decide)] at H; exact H
        clear H; have H := H1; clear H1; obtain rfl := Option.some.inj H
        try go_wp2
        replace HB := Aside0.mk (below_drew1 HB.out); have p217 : 0 ≤ (x5_1 : Int) := od_; have q217 : x5_1 < (l0.length : Int) := od_; obtain ⟨ad217, A217_7, c217_7, A217_8, c217_8, e217, hx217_0, hx217_1, hx217_2, hx217_3, hx217_4, hx217_5, hx217_6, hx217_7, hx217_8, hl217_7, hi217_7, hl217_8, hi217_8⟩ := at_T107 HR0.out x5_1 p217 q217; have hw217_8 := hx217_8; have hw217_7 := hx217_7; have hw217_6 := hx217_6; have hw217_5 := hx217_5; have hw217_4 := hx217_4; have hw217_3 := hx217_3; have hw217_2 := hx217_2; have hw217_1 := hx217_1; have hw217_0 := hx217_0
        cases e217
        replace hx217_0 := cw_ HB.out hx217_0; replace hx217_1 := cw_ HB.out hx217_1; replace hx217_2 := cw_ HB.out hx217_2; replace hx217_3 := cw_ HB.out hx217_3; replace hx217_4 := cw_ HB.out hx217_4; replace hx217_5 := cw_ HB.out hx217_5; replace hx217_6 := cw_ HB.out hx217_6; replace hx217_7 := cw_ HB.out hx217_7; replace hx217_8 := cw_ HB.out hx217_8; have HR217_7 := Aside0.mk hi217_7; have HC217_7 := Aside0.mk hl217_7; clear hi217_7 hl217_7; have HR217_8 := Aside0.mk hi217_8; have HC217_8 := Aside0.mk hl217_8; clear hi217_8 hl217_8; replace p217 := eq_true p217; replace q217 := eq_true q217; have p218 : 0 ≤ (x5_1 : Int) := od_; have q218 : x5_1 < (l1.length : Int) := od_; obtain ⟨ad218, A218_7, c218_7, A218_8, c218_8, e218, hx218_0, hx218_1, hx218_2, hx218_3, hx218_4, hx218_5, hx218_6, hx218_7, hx218_8, hl218_7, hi218_7, hl218_8, hi218_8⟩ := at_T107 HR1.out x5_1 p218 q218; have hw218_8 := hx218_8; have hw218_7 := hx218_7; have hw218_6 := hx218_6; have hw218_5 := hx218_5; have hw218_4 := hx218_4; have hw218_3 := hx218_3; have hw218_2 := hx218_2; have hw218_1 := hx218_1; have hw218_0 := hx218_0
        cases e218
        replace hx218_0 := cw_ HB.out hx218_0; replace hx218_1 := cw_ HB.out hx218_1; replace hx218_2 := cw_ HB.out hx218_2; replace hx218_3 := cw_ HB.out hx218_3; replace hx218_4 := cw_ HB.out hx218_4; replace hx218_5 := cw_ HB.out hx218_5; replace hx218_6 := cw_ HB.out hx218_6; replace hx218_7 := cw_ HB.out hx218_7; replace hx218_8 := cw_ HB.out hx218_8; have HR218_7 := Aside0.mk hi218_7; have HC218_7 := Aside0.mk hl218_7; clear hi218_7 hl218_7; have HR218_8 := Aside0.mk hi218_8; have HC218_8 := Aside0.mk hl218_8; clear hi218_8 hl218_8; replace p218 := eq_true p218; replace q218 := eq_true q218; refine sta_ 10 (fun w' => w'.cell? (ad217.add ((x5_1).toNat * 9)) = some (.int .i64 ((rd_T107 l0 x5_1).f0)) ∧ CF_ w' (ad217.add ((x5_1).toNat * 9)) 1 (.int .i64 ((rd_T107 l0 x5_1).f1)) ∧ CF_ w' (ad217.add ((x5_1).toNat * 9)) 2 (.int .i64 ((rd_T107 l0 x5_1).f2)) ∧ CF_ w' (ad217.add ((x5_1).toNat * 9)) 3 (.int .i64 ((rd_T107 l0 x5_1).f3)) ∧ CF_ w' (ad217.add ((x5_1).toNat * 9)) 4 (.int .i64 ((rd_T107 l0 x5_1).f4)) ∧ CF_ w' (ad217.add ((x5_1).toNat * 9)) 5 (.int .i64 ((rd_T107 l0 x5_1).f5)) ∧ CF_ w' (ad217.add ((x5_1).toNat * 9)) 6 (.int .i64 ((rd_T107 l0 x5_1).f6)) ∧ CF_ w' (ad217.add ((x5_1).toNat * 9)) 7 (.slice A217_7 ((rd_T107 l0 x5_1).f7).length c217_7) ∧ CF_ w' (ad217.add ((x5_1).toNat * 9)) 8 (.slice A217_8 ((rd_T107 l0 x5_1).f8).length c217_8) ∧ w'.cell? (ad218.add ((x5_1).toNat * 9)) = some (.int .i64 ((rd_T107 l1 x5_1).f0)) ∧ CF_ w' (ad218.add ((x5_1).toNat * 9)) 1 (.int .i64 ((rd_T107 l1 x5_1).f1)) ∧ CF_ w' (ad218.add ((x5_1).toNat * 9)) 2 (.int .i64 ((rd_T107 l1 x5_1).f2)) ∧ CF_ w' (ad218.add ((x5_1).toNat * 9)) 3 (.int .i64 ((rd_T107 l1 x5_1).f3)) ∧ CF_ w' (ad218.add ((x5_1).toNat * 9)) 4 (.int .i64 ((rd_T107 l1 x5_1).f4)) ∧ CF_ w' (ad218.add ((x5_1).toNat * 9)) 5 (.int .i64 ((rd_T107 l1 x5_1).f5)) ∧ CF_ w' (ad218.add ((x5_1).toNat * 9)) 6 (.int .i64 ((rd_T107 l1 x5_1).f6)) ∧ CF_ w' (ad218.add ((x5_1).toNat * 9)) 7 (.slice A218_7 ((rd_T107 l1 x5_1).f7).length c218_7) ∧ CF_ w' (ad218.add ((x5_1).toNat * 9)) 8 (.slice A218_8 ((rd_T107 l1 x5_1).f8).length c218_8)) ⟨(cw_ HB.out hw217_0), (cw_ HB.out hw217_1), (cw_ HB.out hw217_2), (cw_ HB.out hw217_3), (cw_ HB.out hw217_4), (cw_ HB.out hw217_5), (cw_ HB.out hw217_6), (cw_ HB.out hw217_7), (cw_ HB.out hw217_8), (cw_ HB.out hw218_0), (cw_ HB.out hw218_1), (cw_ HB.out hw218_2), (cw_ HB.out hw218_3), (cw_ HB.out hw218_4), (cw_ HB.out hw218_5), (cw_ HB.out hw218_6), (cw_ HB.out hw218_7), (cw_ HB.out hw218_8)⟩ (fun hHeld => ?_); refine with_tabW laws_eqLayerS.tab6 laws_eqLayerS.bits6 (fun HT_ HW_ => ?_); generalize wr.drew = w11 at HB HR217_7 HR217_8 HR218_7 HR218_8 hx217_0 hx217_1 hx217_2 hx217_3 hx217_4 hx217_5 hx217_6 hx217_7 hx217_8 hx218_0 hx218_1 hx218_2 hx218_3 hx218_4 hx218_5 hx218_6 hx218_7 hx218_8 hHeld ⊢; refine pv_ 0 10 1 HT_.out ?_; refine pv_ 1 10 3 HT_.out ?_; refine pv_ 2 10 7 HT_.out ?_; refine pv_ 4 10 23 HT_.out ?_; refine pv_ 5 10 55 HT_.out ?_; refine pv_ 6 10 119 HT_.out ?_; refine tv_ 3 10 127 HT_.out HW_.out hHeld ?_; refine tv_ 7 10 255 HT_.out HW_.out hHeld ?_; refine one_ (i := 8) (N := some 25) (bl_ 10 511) rfl rfl (one_of HT_.out (by kernel_rfl)) (by decide) (fun K hK => ?_); refine ge_ Try.func106 #[.agg #[.int .i64 ((rd_T107 l0 x5_1).f0), .int .i64 ((rd_T107 l0 x5_1).f1), .int .i64 ((rd_T107 l0 x5_1).f2), .int .i64 ((rd_T107 l0 x5_1).f3), .int .i64 ((rd_T107 l0 x5_1).f4), .int .i64 ((rd_T107 l0 x5_1).f5), .int .i64 ((rd_T107 l0 x5_1).f6), .slice A217_7 ((rd_T107 l0 x5_1).f7).length c217_7, .slice A217_8 ((rd_T107 l0 x5_1).f8).length c217_8], .agg #[.int .i64 ((rd_T107 l1 x5_1).f0), .int .i64 ((rd_T107 l1 x5_1).f1), .int .i64 ((rd_T107 l1 x5_1).f2), .int .i64 ((rd_T107 l1 x5_1).f3), .int .i64 ((rd_T107 l1 x5_1).f4), .int .i64 ((rd_T107 l1 x5_1).f5), .int .i64 ((rd_T107 l1 x5_1).f6), .slice A218_7 ((rd_T107 l1 x5_1).f7).length c218_7, .slice A218_8 ((rd_T107 l1 x5_1).f8).length c218_8]] ?_
        (with_reducible refine (laws_eqLayer.calls ?_ ?_ ?_ ?_ ?_ ?_ ?_ ?_ A7.out).mono ?_); exact cu_ HR217_7.out HB.out; exact HC217_7.out; exact cu_ HR217_8.out HB.out; exact HC217_8.out; exact cu_ HR218_7.out HB.out; exact HC218_7.out; exact cu_ HR218_8.out HB.out; exact HC218_8.out; rintro e w12 ⟨rfl, hb⟩; refine ⟨_, rfl, ?_⟩; replace HB := hb_ HB hb; (try clear hb); refine hK.out _ _ ⟨(cw_ HB.out hw217_0), (cw_ HB.out hw217_1), (cw_ HB.out hw217_2), (cw_ HB.out hw217_3), (cw_ HB.out hw217_4), (cw_ HB.out hw217_5), (cw_ HB.out hw217_6), (cw_ HB.out hw217_7), (cw_ HB.out hw217_8), (cw_ HB.out hw218_0), (cw_ HB.out hw218_1), (cw_ HB.out hw218_2), (cw_ HB.out hw218_3), (cw_ HB.out hw218_4), (cw_ HB.out hw218_5), (cw_ HB.out hw218_6), (cw_ HB.out hw218_7), (cw_ HB.out hw218_8)⟩ (fun hHeld => ?_); clear hK K; refine nm_ 25 (h := ?_); refine pv_ 9 10 1023 HT_.out ?_; refine done_ (done_of HT_.out (by kernel_rfl)) ?_
        try go_wp2
        go_ret
        exact rt_ HB.out
      ·
       rw [if_neg c6] at H; exact absurd H (by simp)
     ·
      rw [if_neg c5] at H; exact absurd H (by simp)
    ·
     rw [if_neg c4] at H; have c4b0 : decide (x5_1 < (l0.length : Int)) = false := decide_eq_false c4; clear c4; obtain rfl := Option.some.inj H
     go_wp2
     go_ret
     exact rt_ HB.out
 ·
  rw [if_neg c3] at H; have c3b0 : ((l0.length : Int) == (l1.length : Int)) = false := beq_eq_false_iff_ne.mpr c3; have c3b1 : ((l0.length : Int) != (l1.length : Int)) = true := bne_iff_ne.mpr c3; have c3b2 : (l0.length == l1.length) = false := by first | simpa using c3 | (simp at c3 ⊢; omega)
  obtain rfl := Option.some.inj H
  go_enter Try.func103, Try.ntmps103
  go_wp2
  go_ret
  exact rt_ HB.out

/-! ### laws_eqModel: function 91 -/
def laws_eqModel.f (k : Nat) (a0_0 : Int) (a0_1 : Int) (a0_2 : Int) (l0_3 : List (S107)) (a1_0 : Int) (a1_1 : Int) (a1_2 : Int) (l1_3 : List (S107)) : Option (Bool) := (laws_eqShape.f a0_0 a0_1 a0_2 a1_0 a1_1 a1_2).bind fun t222 => (if t222 = true then ((laws_eqLayerS.f k l0_3 l1_3).bind fun t223 => (if t223 = true then (some true) else (some false))) else (some false))
set_option maxHeartbeats 8000000 in
set_option maxRecDepth 100000 in
theorem laws_eqModel.calls {k : Nat} {a0_0 : Int} {a0_1 : Int} {a0_2 : Int} {A0_3 : Option Addr} {c0_3 : Nat} {l0_3 : List (S107)} {a1_0 : Int} {a1_1 : Int} {a1_2 : Int} {A1_3 : Option Addr} {c1_3 : Nat} {l1_3 : List (S107)} {r : Bool} {w : World} (hr0_3 : Kd.C k107 w A0_3 l0_3.length l0_3) (hc0_3 : l0_3.length ≤ c0_3) (hr1_3 : Kd.C k107 w A1_3 l1_3.length l1_3) (hc1_3 : l1_3.length ≤ c1_3) (h : laws_eqModel.f k a0_0 a0_1 a0_2 l0_3 a1_0 a1_1 a1_2 l1_3 = some r) :
  Calls Try.prog 91 #[.agg #[.int .i64 a0_0, .int .i64 a0_1, .int .i64 a0_2, .slice A0_3 l0_3.length c0_3], .agg #[.int .i64 a1_0, .int .i64 a1_1, .int .i64 a1_2, .slice A1_3 l1_3.length c1_3]] w fun e w' => e = .returned (.bool r) ∧ Below w.heap.size w w' := by
 have hu88 := Try.underlying88; have hu85 := Try.underlying85; have HR0_3 := Aside0.mk hr0_3; have HC0_3 := Aside0.mk hc0_3; clear hr0_3 hc0_3; have HR1_3 := Aside0.mk hr1_3; have HC1_3 := Aside0.mk hc1_3; clear hr1_3 hc1_3; have HB := Aside0.mk (Below.refl w.heap.size w); have H : ((laws_eqShape.f a0_0 a0_1 a0_2 a1_0 a1_1 a1_2).bind fun t222 => (if t222 = true then ((laws_eqLayerS.f k l0_3 l1_3).bind fun t223 => (if t223 = true then (some true) else (some false))) else (some false))) = some r := h; clear h; obtain ⟨t222, A3, H⟩ := bo_ H; (try dsimp only at H)
 by_cases c4 : t222 = true
 ·
  subst c4; rw [if_pos rfl] at H; obtain ⟨t223, A5, H⟩ := bo_ H; (try dsimp only at H)
  by_cases c6 : t223 = true
  ·
   subst c6; rw [if_pos rfl] at H; obtain rfl := Option.some.inj H
   go_enter Try.func91, Try.ntmps91
   go_wp2_with (first | ((with_reducible refine gate_dst (N := 2) rfl ?_); refine bz_ 2 ?_; intro gb220 hg w7 hbox hb; obtain ⟨BK220, GW220, GE220, HB⟩ := nb_ hg hbox HB hb; clear hb hbox hg) | ((with_reducible refine gate_dst (N := 3) rfl ?_); refine bz_ 3 ?_; intro gb221 hg w8 hbox hb; obtain ⟨BK221, GW221, GE221, HB⟩ := nb_ hg hbox HB hb; have NB220_221 := nx_ hg BK220; have NB221_220 := ny_ hg BK220; replace BK220 := bb_ BK220 hb; clear hb hbox hg; have hnb9 := NB220_221.out; have hnc9 := NB221_220.out; have hcz10 := box4_ BK220.out; have hcz11 := box4_ BK221.out) | ((with_reducible refine gc_ 102 ?_); refine gl_ (some 9) Try.func102 #[.agg #[.int .i64 a0_0, .int .i64 a0_1, .int .i64 a0_2], .agg #[.int .i64 a1_0, .int .i64 a1_1, .int .i64 a1_2]] ?_; (with_reducible refine (laws_eqShape.calls A3.out).mono ?_); rintro e w12 ⟨rfl, hb⟩; refine ⟨_, rfl, ?_⟩; replace BK220 := bb_ BK220 hb; replace BK221 := bb_ BK221 hb; replace HB := hb_ HB hb; (try clear hb); have hcz13 := box4_ BK220.out; have hcz14 := box4_ BK221.out) | ((with_reducible refine gc_ 103 ?_); refine gl_ (some 15) Try.func103 #[.slice A0_3 l0_3.length c0_3, .slice A1_3 l1_3.length c1_3] ?_; (with_reducible refine (laws_eqLayerS.calls ?_ ?_ ?_ ?_ A5.out).mono ?_); exact cu_ HR0_3.out HB.out; exact HC0_3.out; exact cu_ HR1_3.out HB.out; exact HC1_3.out; rintro e w15 ⟨rfl, hb⟩; refine ⟨_, rfl, ?_⟩; replace BK220 := bb_ BK220 hb; replace BK221 := bb_ BK221 hb; replace HB := hb_ HB hb; (try clear hb)))
   go_ret
   exact rt_ HB.out
  ·
   replace c6 := Bool.eq_false_iff.mpr c6; subst c6; have H1 : (some false) = some r := by rw [if_neg (show ¬ (false = true) by decide)] at H; exact H
   clear H; have H := H1; clear H1; obtain rfl := Option.some.inj H
   go_enter Try.func91, Try.ntmps91
   go_wp2_with (first | ((with_reducible refine gate_dst (N := 2) rfl ?_); refine bz_ 2 ?_; intro gb220 hg w16 hbox hb; obtain ⟨BK220, GW220, GE220, HB⟩ := nb_ hg hbox HB hb; clear hb hbox hg) | ((with_reducible refine gate_dst (N := 3) rfl ?_); refine bz_ 3 ?_; intro gb221 hg w17 hbox hb; obtain ⟨BK221, GW221, GE221, HB⟩ := nb_ hg hbox HB hb; have NB220_221 := nx_ hg BK220; have NB221_220 := ny_ hg BK220; replace BK220 := bb_ BK220 hb; clear hb hbox hg; have hnb18 := NB220_221.out; have hnc18 := NB221_220.out; have hcz19 := box4_ BK220.out; have hcz20 := box4_ BK221.out) | ((with_reducible refine gc_ 102 ?_); refine gl_ (some 9) Try.func102 #[.agg #[.int .i64 a0_0, .int .i64 a0_1, .int .i64 a0_2], .agg #[.int .i64 a1_0, .int .i64 a1_1, .int .i64 a1_2]] ?_; (with_reducible refine (laws_eqShape.calls A3.out).mono ?_); rintro e w21 ⟨rfl, hb⟩; refine ⟨_, rfl, ?_⟩; replace BK220 := bb_ BK220 hb; replace BK221 := bb_ BK221 hb; replace HB := hb_ HB hb; (try clear hb); have hcz22 := box4_ BK220.out; have hcz23 := box4_ BK221.out) | ((with_reducible refine gc_ 103 ?_); refine gl_ (some 15) Try.func103 #[.slice A0_3 l0_3.length c0_3, .slice A1_3 l1_3.length c1_3] ?_; (with_reducible refine (laws_eqLayerS.calls ?_ ?_ ?_ ?_ A5.out).mono ?_); exact cu_ HR0_3.out HB.out; exact HC0_3.out; exact cu_ HR1_3.out HB.out; exact HC1_3.out; rintro e w24 ⟨rfl, hb⟩; refine ⟨_, rfl, ?_⟩; replace BK220 := bb_ BK220 hb; replace BK221 := bb_ BK221 hb; replace HB := hb_ HB hb; (try clear hb)))
   go_ret
   exact rt_ HB.out
 ·
  replace c4 := Bool.eq_false_iff.mpr c4; subst c4; have H1 : (some false) = some r := by rw [if_neg (show ¬ (false = true) by decide)] at H; exact H
  clear H; have H := H1; clear H1; obtain rfl := Option.some.inj H
  go_enter Try.func91, Try.ntmps91
  go_wp2_with (first | ((with_reducible refine gate_dst (N := 2) rfl ?_); refine bz_ 2 ?_; intro gb220 hg w25 hbox hb; obtain ⟨BK220, GW220, GE220, HB⟩ := nb_ hg hbox HB hb; clear hb hbox hg) | ((with_reducible refine gate_dst (N := 3) rfl ?_); refine bz_ 3 ?_; intro gb221 hg w26 hbox hb; obtain ⟨BK221, GW221, GE221, HB⟩ := nb_ hg hbox HB hb; have NB220_221 := nx_ hg BK220; have NB221_220 := ny_ hg BK220; replace BK220 := bb_ BK220 hb; clear hb hbox hg; have hnb27 := NB220_221.out; have hnc27 := NB221_220.out; have hcz28 := box4_ BK220.out; have hcz29 := box4_ BK221.out) | ((with_reducible refine gc_ 102 ?_); refine gl_ (some 9) Try.func102 #[.agg #[.int .i64 a0_0, .int .i64 a0_1, .int .i64 a0_2], .agg #[.int .i64 a1_0, .int .i64 a1_1, .int .i64 a1_2]] ?_; (with_reducible refine (laws_eqShape.calls A3.out).mono ?_); rintro e w30 ⟨rfl, hb⟩; refine ⟨_, rfl, ?_⟩; replace BK220 := bb_ BK220 hb; replace BK221 := bb_ BK221 hb; replace HB := hb_ HB hb; (try clear hb)))
  go_ret
  exact rt_ HB.out

/-! ### laws_eqModelS: function 74 -/
def laws_eqModelS.l0 : Nat → List (S88) → List (S88) → Int → Option (Bool)
 | 0, _, _, _ => none
 | k + 1, x0, x1, x5 => if x5 < (x0.length : Int) then (if 0 ≤ x5 then (if x5 < (x1.length : Int) then ((laws_eqModel.f k ((rd_T88 x0 x5).f0.f0) ((rd_T88 x0 x5).f0.f1) ((rd_T88 x0 x5).f0.f2) ((rd_T88 x0 x5).f1) ((rd_T88 x1 x5).f0.f0) ((rd_T88 x1 x5).f0.f1) ((rd_T88 x1 x5).f0.f2) ((rd_T88 x1 x5).f1)).bind fun t226 => (if t226 = true then (laws_eqModelS.l0 k x0 x1 (wrap64 (x5 + 1))) else (some false))) else (none)) else (none)) else (some true)
def laws_eqModelS.f (k : Nat) (l0 : List (S88)) (l1 : List (S88)) : Option (Bool) := if (l0.length : Int) = (l1.length : Int) then (laws_eqModelS.l0 k l0 l1 0) else (some false)
def laws_eqModelS.T6 : Bool × List (List Nat × List Nat) := (true, [([], []), ([], []), ([0, 1], [0, 1]), ([2], [2]), ([], []), ([], []), ([4, 5], [4, 5]), ([6], [6]), ([3, 7], [3, 7]), ([8], [8])])
def laws_eqModelS.B6 : List Nat := [0, 0, 3, 7, 0, 0, 48, 112, 255, 511]
theorem laws_eqModelS.tab6 : rtab .any (opsOf Try.f74 6) = laws_eqModelS.T6 := by kernel_rfl
theorem laws_eqModelS.bits6 : waitsOk laws_eqModelS.T6.2 laws_eqModelS.B6 = true := by kernel_rfl
set_option maxHeartbeats 8000000 in
set_option maxRecDepth 100000 in
theorem laws_eqModelS.calls {k : Nat} {A0 : Option Addr} {c0 : Nat} {l0 : List (S88)} {A1 : Option Addr} {c1 : Nat} {l1 : List (S88)} {r : Bool} {w : World} (hr0 : Kd.C k88 w A0 l0.length l0) (hc0 : l0.length ≤ c0) (hr1 : Kd.C k88 w A1 l1.length l1) (hc1 : l1.length ≤ c1) (h : laws_eqModelS.f k l0 l1 = some r) :
  Calls Try.prog 74 #[.slice A0 l0.length c0, .slice A1 l1.length c1] w fun e w' => e = .returned (.bool r) ∧ Below w.heap.size w w' := by
 have hu88 := Try.underlying88; have HR0 := Aside0.mk hr0; have HC0 := Aside0.mk hc0; clear hr0 hc0; have HR1 := Aside0.mk hr1; have HC1 := Aside0.mk hc1; clear hr1 hc1; have HB := Aside0.mk (Below.refl w.heap.size w); have H : (if (l0.length : Int) = (l1.length : Int) then (laws_eqModelS.l0 k l0 l1 0) else (some false)) = some r := h; clear h
 by_cases c3 : (l0.length : Int) = (l1.length : Int)
 ·
  rw [if_pos c3] at H; have c3b0 : ((l0.length : Int) == (l1.length : Int)) = true := beq_iff_eq.mpr c3; have c3b1 : ((l0.length : Int) != (l1.length : Int)) = false := bne_eq_false_iff_eq.mpr c3; have c3b2 : (l0.length == l1.length) = true := by first | simpa using c3 | (simp at c3 ⊢; omega)
  clear c3; have H' := Aside0.mk H; clear H
  go_enter Try.func74, Try.ntmps74
  go_wp2
  go_loopg [5] k (fun kq v5 w' => ∃ (x5_1 : Int), v5 = .int .i64 x5_1 ∧ Aside0 (laws_eqModelS.l0 kq l0 l1 x5_1 = some r) ∧ Aside0 (kq ≤ k) ∧ Aside0 (Below w.heap.size w w'))
  case atStart => exact ⟨(0), (by first | rfl | (simp; done) | (simp [*]; done)), H', ⟨Nat.le_refl _⟩, ⟨be_ HB.out⟩⟩
  case round =>
   clear H'; (try clear c1); (try clear p2); (try clear c3); (try clear c3b0); (try clear c3b1); (try clear c3b2); obtain ⟨x5_1, rfl, HA, HK1, HB⟩ := hrel
   cases gk with
   | zero => exact absurd HA.out (by simp [laws_eqModelS.l0])
   | succ k1 =>
    have H := HA.out; clear HA; simp only [laws_eqModelS.l0] at H
    by_cases c4 : x5_1 < (l0.length : Int)
    ·
     rw [if_pos c4] at H; have c4b0 : decide (x5_1 < (l0.length : Int)) = true := decide_eq_true c4; clear c4
     by_cases c5 : 0 ≤ x5_1
     ·
      rw [if_pos c5] at H; have c5b0 : decide (0 ≤ x5_1) = true := decide_eq_true c5; clear c5
      by_cases c6 : x5_1 < (l1.length : Int)
      ·
       rw [if_pos c6] at H; have c6b0 : decide (x5_1 < (l1.length : Int)) = true := decide_eq_true c6; clear c6; obtain ⟨t226, A7, H⟩ := bo_ H; (try dsimp only at H)
       by_cases c8 : t226 = true
       ·
        subst c8; rw [if_pos rfl] at H; have H' := Aside0.mk H; clear H
        try go_wp2
        replace HB := Aside0.mk (below_drew1 HB.out); have p224 : 0 ≤ (x5_1 : Int) := od_; have q224 : x5_1 < (l0.length : Int) := od_; obtain ⟨ad224, A224_3, c224_3, e224, hx224_0, hx224_1, hx224_2, hx224_3, hl224_3, hi224_3⟩ := at_T88 HR0.out x5_1 p224 q224; have hw224_3 := hx224_3; have hw224_2 := hx224_2; have hw224_1 := hx224_1; have hw224_0 := hx224_0
        cases e224
        replace hx224_0 := cw_ HB.out hx224_0; replace hx224_1 := cw_ HB.out hx224_1; replace hx224_2 := cw_ HB.out hx224_2; replace hx224_3 := cw_ HB.out hx224_3; have HR224_3 := Aside0.mk hi224_3; have HC224_3 := Aside0.mk hl224_3; clear hi224_3 hl224_3; replace p224 := eq_true p224; replace q224 := eq_true q224; have p225 : 0 ≤ (x5_1 : Int) := od_; have q225 : x5_1 < (l1.length : Int) := od_; obtain ⟨ad225, A225_3, c225_3, e225, hx225_0, hx225_1, hx225_2, hx225_3, hl225_3, hi225_3⟩ := at_T88 HR1.out x5_1 p225 q225; have hw225_3 := hx225_3; have hw225_2 := hx225_2; have hw225_1 := hx225_1; have hw225_0 := hx225_0
        cases e225
        replace hx225_0 := cw_ HB.out hx225_0; replace hx225_1 := cw_ HB.out hx225_1; replace hx225_2 := cw_ HB.out hx225_2; replace hx225_3 := cw_ HB.out hx225_3; have HR225_3 := Aside0.mk hi225_3; have HC225_3 := Aside0.mk hl225_3; clear hi225_3 hl225_3; replace p225 := eq_true p225; replace q225 := eq_true q225; refine sta_ 10 (fun w' => w'.cell? (ad224.add ((x5_1).toNat * 4)) = some (.int .i64 ((rd_T88 l0 x5_1).f0.f0)) ∧ CF_ w' (ad224.add ((x5_1).toNat * 4)) 1 (.int .i64 ((rd_T88 l0 x5_1).f0.f1)) ∧ CF_ w' (ad224.add ((x5_1).toNat * 4)) 2 (.int .i64 ((rd_T88 l0 x5_1).f0.f2)) ∧ CF_ w' (ad224.add ((x5_1).toNat * 4)) 3 (.slice A224_3 ((rd_T88 l0 x5_1).f1).length c224_3) ∧ w'.cell? (ad225.add ((x5_1).toNat * 4)) = some (.int .i64 ((rd_T88 l1 x5_1).f0.f0)) ∧ CF_ w' (ad225.add ((x5_1).toNat * 4)) 1 (.int .i64 ((rd_T88 l1 x5_1).f0.f1)) ∧ CF_ w' (ad225.add ((x5_1).toNat * 4)) 2 (.int .i64 ((rd_T88 l1 x5_1).f0.f2)) ∧ CF_ w' (ad225.add ((x5_1).toNat * 4)) 3 (.slice A225_3 ((rd_T88 l1 x5_1).f1).length c225_3)) ⟨(cw_ HB.out hw224_0), (cw_ HB.out hw224_1), (cw_ HB.out hw224_2), (cw_ HB.out hw224_3), (cw_ HB.out hw225_0), (cw_ HB.out hw225_1), (cw_ HB.out hw225_2), (cw_ HB.out hw225_3)⟩ (fun hHeld => ?_); refine with_tabW laws_eqModelS.tab6 laws_eqModelS.bits6 (fun HT_ HW_ => ?_); generalize wr.drew = w9 at HB HR224_3 HR225_3 hx224_0 hx224_1 hx224_2 hx224_3 hx225_0 hx225_1 hx225_2 hx225_3 hHeld ⊢; refine pv_ 0 10 1 HT_.out ?_; refine pv_ 1 10 3 HT_.out ?_; refine pv_ 2 10 7 HT_.out ?_; refine pv_ 4 10 23 HT_.out ?_; refine pv_ 5 10 55 HT_.out ?_; refine pv_ 6 10 119 HT_.out ?_; refine tv_ 3 10 127 HT_.out HW_.out hHeld ?_; refine tv_ 7 10 255 HT_.out HW_.out hHeld ?_; refine one_ (i := 8) (N := some 25) (bl_ 10 511) rfl rfl (one_of HT_.out (by kernel_rfl)) (by decide) (fun K hK => ?_); refine ge_ Try.func91 #[.agg #[.int .i64 ((rd_T88 l0 x5_1).f0.f0), .int .i64 ((rd_T88 l0 x5_1).f0.f1), .int .i64 ((rd_T88 l0 x5_1).f0.f2), .slice A224_3 ((rd_T88 l0 x5_1).f1).length c224_3], .agg #[.int .i64 ((rd_T88 l1 x5_1).f0.f0), .int .i64 ((rd_T88 l1 x5_1).f0.f1), .int .i64 ((rd_T88 l1 x5_1).f0.f2), .slice A225_3 ((rd_T88 l1 x5_1).f1).length c225_3]] ?_
        (with_reducible refine (laws_eqModel.calls ?_ ?_ ?_ ?_ A7.out).mono ?_); exact cu_ HR224_3.out HB.out; exact HC224_3.out; exact cu_ HR225_3.out HB.out; exact HC225_3.out; rintro e w10 ⟨rfl, hb⟩; refine ⟨_, rfl, ?_⟩; replace HB := hb_ HB hb; (try clear hb); refine hK.out _ _ ⟨(cw_ HB.out hw224_0), (cw_ HB.out hw224_1), (cw_ HB.out hw224_2), (cw_ HB.out hw224_3), (cw_ HB.out hw225_0), (cw_ HB.out hw225_1), (cw_ HB.out hw225_2), (cw_ HB.out hw225_3)⟩ (fun hHeld => ?_); clear hK K; refine nm_ 25 (h := ?_); refine pv_ 9 10 1023 HT_.out ?_; refine done_ (done_of HT_.out (by kernel_rfl)) ?_
        try go_wp2
        go_roundg k1
        case measure => have := HK1.out; omega
        case rel => exact ⟨(wrap64 (x5_1 + 1)), (by first | rfl | (simp; done) | (simp [*]; done)), H', ⟨by have := HK1.out; omega⟩, ⟨be_ HB.out⟩⟩
       ·
        replace c8 := Bool.eq_false_iff.mpr c8; subst c8; have H1 : (some false) = some r := by rw [if_neg (show ¬ (false = true) by decide)] at H; exact H
        clear H; have H := H1; clear H1; obtain rfl := Option.some.inj H
        try go_wp2
        replace HB := Aside0.mk (below_drew1 HB.out); have p224 : 0 ≤ (x5_1 : Int) := od_; have q224 : x5_1 < (l0.length : Int) := od_; obtain ⟨ad224, A224_3, c224_3, e224, hx224_0, hx224_1, hx224_2, hx224_3, hl224_3, hi224_3⟩ := at_T88 HR0.out x5_1 p224 q224; have hw224_3 := hx224_3; have hw224_2 := hx224_2; have hw224_1 := hx224_1; have hw224_0 := hx224_0
        cases e224
        replace hx224_0 := cw_ HB.out hx224_0; replace hx224_1 := cw_ HB.out hx224_1; replace hx224_2 := cw_ HB.out hx224_2; replace hx224_3 := cw_ HB.out hx224_3; have HR224_3 := Aside0.mk hi224_3; have HC224_3 := Aside0.mk hl224_3; clear hi224_3 hl224_3; replace p224 := eq_true p224; replace q224 := eq_true q224; have p225 : 0 ≤ (x5_1 : Int) := od_; have q225 : x5_1 < (l1.length : Int) := od_; obtain ⟨ad225, A225_3, c225_3, e225, hx225_0, hx225_1, hx225_2, hx225_3, hl225_3, hi225_3⟩ := at_T88 HR1.out x5_1 p225 q225; have hw225_3 := hx225_3; have hw225_2 := hx225_2; have hw225_1 := hx225_1; have hw225_0 := hx225_0
        cases e225
        replace hx225_0 := cw_ HB.out hx225_0; replace hx225_1 := cw_ HB.out hx225_1; replace hx225_2 := cw_ HB.out hx225_2; replace hx225_3 := cw_ HB.out hx225_3; have HR225_3 := Aside0.mk hi225_3; have HC225_3 := Aside0.mk hl225_3; clear hi225_3 hl225_3; replace p225 := eq_true p225; replace q225 := eq_true q225; refine sta_ 10 (fun w' => w'.cell? (ad224.add ((x5_1).toNat * 4)) = some (.int .i64 ((rd_T88 l0 x5_1).f0.f0)) ∧ CF_ w' (ad224.add ((x5_1).toNat * 4)) 1 (.int .i64 ((rd_T88 l0 x5_1).f0.f1)) ∧ CF_ w' (ad224.add ((x5_1).toNat * 4)) 2 (.int .i64 ((rd_T88 l0 x5_1).f0.f2)) ∧ CF_ w' (ad224.add ((x5_1).toNat * 4)) 3 (.slice A224_3 ((rd_T88 l0 x5_1).f1).length c224_3) ∧ w'.cell? (ad225.add ((x5_1).toNat * 4)) = some (.int .i64 ((rd_T88 l1 x5_1).f0.f0)) ∧ CF_ w' (ad225.add ((x5_1).toNat * 4)) 1 (.int .i64 ((rd_T88 l1 x5_1).f0.f1)) ∧ CF_ w' (ad225.add ((x5_1).toNat * 4)) 2 (.int .i64 ((rd_T88 l1 x5_1).f0.f2)) ∧ CF_ w' (ad225.add ((x5_1).toNat * 4)) 3 (.slice A225_3 ((rd_T88 l1 x5_1).f1).length c225_3)) ⟨(cw_ HB.out hw224_0), (cw_ HB.out hw224_1), (cw_ HB.out hw224_2), (cw_ HB.out hw224_3), (cw_ HB.out hw225_0), (cw_ HB.out hw225_1), (cw_ HB.out hw225_2), (cw_ HB.out hw225_3)⟩ (fun hHeld => ?_); refine with_tabW laws_eqModelS.tab6 laws_eqModelS.bits6 (fun HT_ HW_ => ?_); generalize wr.drew = w11 at HB HR224_3 HR225_3 hx224_0 hx224_1 hx224_2 hx224_3 hx225_0 hx225_1 hx225_2 hx225_3 hHeld ⊢; refine pv_ 0 10 1 HT_.out ?_; refine pv_ 1 10 3 HT_.out ?_; refine pv_ 2 10 7 HT_.out ?_; refine pv_ 4 10 23 HT_.out ?_; refine pv_ 5 10 55 HT_.out ?_; refine pv_ 6 10 119 HT_.out ?_; refine tv_ 3 10 127 HT_.out HW_.out hHeld ?_; refine tv_ 7 10 255 HT_.out HW_.out hHeld ?_; refine one_ (i := 8) (N := some 25) (bl_ 10 511) rfl rfl (one_of HT_.out (by kernel_rfl)) (by decide) (fun K hK => ?_); refine ge_ Try.func91 #[.agg #[.int .i64 ((rd_T88 l0 x5_1).f0.f0), .int .i64 ((rd_T88 l0 x5_1).f0.f1), .int .i64 ((rd_T88 l0 x5_1).f0.f2), .slice A224_3 ((rd_T88 l0 x5_1).f1).length c224_3], .agg #[.int .i64 ((rd_T88 l1 x5_1).f0.f0), .int .i64 ((rd_T88 l1 x5_1).f0.f1), .int .i64 ((rd_T88 l1 x5_1).f0.f2), .slice A225_3 ((rd_T88 l1 x5_1).f1).length c225_3]] ?_
        (with_reducible refine (laws_eqModel.calls ?_ ?_ ?_ ?_ A7.out).mono ?_); exact cu_ HR224_3.out HB.out; exact HC224_3.out; exact cu_ HR225_3.out HB.out; exact HC225_3.out; rintro e w12 ⟨rfl, hb⟩; refine ⟨_, rfl, ?_⟩; replace HB := hb_ HB hb; (try clear hb); refine hK.out _ _ ⟨(cw_ HB.out hw224_0), (cw_ HB.out hw224_1), (cw_ HB.out hw224_2), (cw_ HB.out hw224_3), (cw_ HB.out hw225_0), (cw_ HB.out hw225_1), (cw_ HB.out hw225_2), (cw_ HB.out hw225_3)⟩ (fun hHeld => ?_); clear hK K; refine nm_ 25 (h := ?_); refine pv_ 9 10 1023 HT_.out ?_; refine done_ (done_of HT_.out (by kernel_rfl)) ?_
        try go_wp2
        go_ret
        exact rt_ HB.out
      ·
       rw [if_neg c6] at H; exact absurd H (by simp)
     ·
      rw [if_neg c5] at H; exact absurd H (by simp)
    ·
     rw [if_neg c4] at H; have c4b0 : decide (x5_1 < (l0.length : Int)) = false := decide_eq_false c4; clear c4; obtain rfl := Option.some.inj H
     go_wp2
     go_ret
     exact rt_ HB.out
 ·
  rw [if_neg c3] at H; have c3b0 : ((l0.length : Int) == (l1.length : Int)) = false := beq_eq_false_iff_ne.mpr c3; have c3b1 : ((l0.length : Int) != (l1.length : Int)) = true := bne_iff_ne.mpr c3; have c3b2 : (l0.length == l1.length) = false := by first | simpa using c3 | (simp at c3 ⊢; omega)
  obtain rfl := Option.some.inj H
  go_enter Try.func74, Try.ntmps74
  go_wp2
  go_ret
  exact rt_ HB.out

/-! ### laws_eqBoolS: function 75 -/
def laws_eqBoolS.l0 : Nat → List Bool → List Bool → Int → Option (Bool)
 | 0, _, _, _ => none
 | k + 1, x0, x1, x5 => if x5 < (x0.length : Int) then (if 0 ≤ x5 then (if x5 < (x1.length : Int) then (if ((rdOf false x0 x5) != (rdOf false x1 x5)) = true then (some false) else (laws_eqBoolS.l0 k x0 x1 (wrap64 (x5 + 1)))) else (none)) else (none)) else (some true)
def laws_eqBoolS.f (k : Nat) (l0 : List Bool) (l1 : List Bool) : Option (Bool) := if (l0.length : Int) = (l1.length : Int) then (laws_eqBoolS.l0 k l0 l1 0) else (some false)
set_option maxHeartbeats 8000000 in
set_option maxRecDepth 100000 in
theorem laws_eqBoolS.calls {k : Nat} {A0 : Option Addr} {c0 : Nat} {l0 : List Bool} {A1 : Option Addr} {c1 : Nat} {l1 : List Bool} {r : Bool} {w : World} (hr0 : Kd.C Kd.bool w A0 l0.length l0) (hc0 : l0.length ≤ c0) (hr1 : Kd.C Kd.bool w A1 l1.length l1) (hc1 : l1.length ≤ c1) (h : laws_eqBoolS.f k l0 l1 = some r) :
  Calls Try.prog 75 #[.slice A0 l0.length c0, .slice A1 l1.length c1] w fun e w' => e = .returned (.bool r) ∧ Drawn0 w w' := by
 have HR0 := Aside0.mk hr0; have HC0 := Aside0.mk hc0; clear hr0 hc0; have HR1 := Aside0.mk hr1; have HC1 := Aside0.mk hc1; clear hr1 hc1; have H : (if (l0.length : Int) = (l1.length : Int) then (laws_eqBoolS.l0 k l0 l1 0) else (some false)) = some r := h; clear h
 by_cases c3 : (l0.length : Int) = (l1.length : Int)
 ·
  rw [if_pos c3] at H; have c3b0 : ((l0.length : Int) == (l1.length : Int)) = true := beq_iff_eq.mpr c3; have c3b1 : ((l0.length : Int) != (l1.length : Int)) = false := bne_eq_false_iff_eq.mpr c3; have c3b2 : (l0.length == l1.length) = true := by first | simpa using c3 | (simp at c3 ⊢; omega)
  clear c3; have H' := Aside0.mk H; clear H
  go_enter Try.func75, Try.ntmps75
  go_wp2
  repeat (go_quiet (fail); try go_wp2)
  go_loopg [5] k (fun kq v5 w' => ∃ (x5_1 : Int), v5 = .int .i64 x5_1 ∧ Aside0 (laws_eqBoolS.l0 kq l0 l1 x5_1 = some r) ∧ Aside0 (kq ≤ k) ∧ Drawn0 w w')
  case atStart => exact ⟨(0), (by first | rfl | (simp; done) | (simp [*]; done)), H', ⟨Nat.le_refl _⟩, by repeat (first | exact Drawn0.refl _ | apply Drawn0.step)⟩
  case round =>
   clear H'; (try clear c1); (try clear p2); (try clear c3); (try clear c3b0); (try clear c3b1); (try clear c3b2); obtain ⟨x5_1, rfl, HA, HK1, ⟨m1, rfl⟩⟩ := hrel
   cases gk with
   | zero => exact absurd HA.out (by simp [laws_eqBoolS.l0])
   | succ k1 =>
    have H := HA.out; clear HA; simp only [laws_eqBoolS.l0] at H
    by_cases c4 : x5_1 < (l0.length : Int)
    ·
     rw [if_pos c4] at H; have c4b0 : decide (x5_1 < (l0.length : Int)) = true := decide_eq_true c4; clear c4
     by_cases c5 : 0 ≤ x5_1
     ·
      rw [if_pos c5] at H; have c5b0 : decide (0 ≤ x5_1) = true := decide_eq_true c5; clear c5
      by_cases c6 : x5_1 < (l1.length : Int)
      ·
       rw [if_pos c6] at H; have c6b0 : decide (x5_1 < (l1.length : Int)) = true := decide_eq_true c6; clear c6
       by_cases c7 : ((rdOf false l0 x5_1) != (rdOf false l1 x5_1)) = true
       ·
        rw [if_pos c7] at H; have c7b0 : ((rdOf false l0 x5_1) != (rdOf false l1 x5_1)) = true := c7; (try (have c7b1 : decide ((rdOf false l0 x5_1) = (rdOf false l1 x5_1)) = false := by simpa using c7)); (try (have c7b2 : ((rdOf false l0 x5_1) == (rdOf false l1 x5_1)) = false := by simpa using c7)); (try (have c7b3 : ¬ ((rdOf false l0 x5_1) = (rdOf false l1 x5_1)) := by simpa using c7)); clear c7; obtain rfl := Option.some.inj H; have p227 : 0 ≤ (x5_1 : Int) := od_; have q227 : x5_1 < (l0.length : Int) := od_; obtain ⟨ad227, e227, hx227_0⟩ := Kd.at_bool HR0.out x5_1 p227 q227
        cases e227
        replace p227 := eq_true p227; replace q227 := eq_true q227; have p228 : 0 ≤ (x5_1 : Int) := od_; have q228 : x5_1 < (l1.length : Int) := od_; obtain ⟨ad228, e228, hx228_0⟩ := Kd.at_bool HR1.out x5_1 p228 q228
        cases e228
        replace p228 := eq_true p228; replace q228 := eq_true q228
        go_wp2
        repeat (go_quiet (fail); try go_wp2)
        go_ret
        exact ⟨by first | rfl | (simp; done) | (simp [*]; done), by repeat (first | exact Drawn0.refl _ | apply Drawn0.step)⟩
       ·
        rw [if_neg c7] at H; have c7b0 : ((rdOf false l0 x5_1) != (rdOf false l1 x5_1)) = false := by simpa using c7
        (try (have c7b1 : decide ((rdOf false l0 x5_1) = (rdOf false l1 x5_1)) = true := by simpa using c7)); (try (have c7b2 : ((rdOf false l0 x5_1) == (rdOf false l1 x5_1)) = true := by simpa using c7)); clear c7; have H' := Aside0.mk H; clear H; have p227 : 0 ≤ (x5_1 : Int) := od_; have q227 : x5_1 < (l0.length : Int) := od_; obtain ⟨ad227, e227, hx227_0⟩ := Kd.at_bool HR0.out x5_1 p227 q227
        cases e227
        replace p227 := eq_true p227; replace q227 := eq_true q227; have p228 : 0 ≤ (x5_1 : Int) := od_; have q228 : x5_1 < (l1.length : Int) := od_; obtain ⟨ad228, e228, hx228_0⟩ := Kd.at_bool HR1.out x5_1 p228 q228
        cases e228
        replace p228 := eq_true p228; replace q228 := eq_true q228
        go_wp2
        repeat (go_quiet (fail); try go_wp2)
        go_roundg k1
        case measure => have := HK1.out; omega
        case rel => exact ⟨(wrap64 (x5_1 + 1)), (by first | rfl | (simp; done) | (simp [*]; done)), H', ⟨by have := HK1.out; omega⟩, by repeat (first | exact Drawn0.refl _ | apply Drawn0.step)⟩
      ·
       rw [if_neg c6] at H; exact absurd H (by simp)
     ·
      rw [if_neg c5] at H; exact absurd H (by simp)
    ·
     rw [if_neg c4] at H; have c4b0 : decide (x5_1 < (l0.length : Int)) = false := decide_eq_false c4; clear c4; obtain rfl := Option.some.inj H
     go_wp2
     repeat (go_quiet (fail); try go_wp2)
     go_ret
     exact ⟨by first | rfl | (simp; done) | (simp [*]; done), by repeat (first | exact Drawn0.refl _ | apply Drawn0.step)⟩
 ·
  rw [if_neg c3] at H; have c3b0 : ((l0.length : Int) == (l1.length : Int)) = false := beq_eq_false_iff_ne.mpr c3; have c3b1 : ((l0.length : Int) != (l1.length : Int)) = true := bne_iff_ne.mpr c3; have c3b2 : (l0.length == l1.length) = false := by first | simpa using c3 | (simp at c3 ⊢; omega)
  obtain rfl := Option.some.inj H
  go_enter Try.func75, Try.ntmps75
  go_wp2
  repeat (go_quiet (fail); try go_wp2)
  go_ret
  exact ⟨by first | rfl | (simp; done) | (simp [*]; done), by repeat (first | exact Drawn0.refl _ | apply Drawn0.step)⟩

end Go.Proofs.Ytljboinndpnefaa.QFnExactNewRuntime
