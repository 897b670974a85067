/- The Go functions that the statement FnExactParsePlan reaches, as Lean functions, each with a proof that the call does what its function says; laid by a program of this session. No condition. -/
import Derived.Test.YtgolleldpmkkoaaGreatDoorQFnExactParsePlanx0
import Derived.Test.YtgolleldpmkkoaaGreatDoorQFnExactParsePlanx1
namespace Go.Proofs.YtgolleldpmkkoaaGreatDoor.QFnExactParsePlan
open Go.RowKit Go.Proofs.YtgolleldpmkkoaaGreatDoorW.PrintWords Go.Proofs.YtgolleldpmkkoaaGreatDoorW.PrintLast Go.Proofs.YtgolleldpmkkoaaGreatDoorW.PrintMore
attribute [local go_sem] max2_int min2_int max_two min_two max_three min_three max_four min_four   -- for this text's walks alone
set_option linter.unusedVariables false
set_option linter.unusedSimpArgs false

mutual
def spec_l03Plain.j0 : Nat → Bool → Int → Int → Int → Int → Int → Int → Int → List Int → List Int → Option (Bool)
 | 0, _, _, _, _, _, _, _, _, _, _ => none
 | k + 1, x2, x193000, x193001, x193002, x193003, x193004, x193005, x193006, x193007, x193008 => if x2 = true then ((spec_l01In.f x193001 1 8).bind fun t195 => (if t195 = true then ((spec_l01In.f x193004 0 2147483647).bind fun t196 => (if t196 = true then ((spec_l01In.f x193005 0 31).bind fun t197 => (if t197 = true then ((spec_l02Int8.f x193006).bind fun t198 => (if t198 = true then (spec_l03Plain.j1 k ((x193008.length : Int) != x193001) x193000 x193001 x193002 x193003 x193004 x193005 x193006 x193007 x193008) else (spec_l03Plain.j1 k true x193000 x193001 x193002 x193003 x193004 x193005 x193006 x193007 x193008))) else (spec_l03Plain.j1 k true x193000 x193001 x193002 x193003 x193004 x193005 x193006 x193007 x193008))) else (spec_l03Plain.j1 k true x193000 x193001 x193002 x193003 x193004 x193005 x193006 x193007 x193008))) else (spec_l03Plain.j1 k true x193000 x193001 x193002 x193003 x193004 x193005 x193006 x193007 x193008))) else (if x193001 = 0 then (if x193004 = 0 then (if x193005 = 0 then (if (x193007.length : Int) > 0 then (spec_l03Plain.j4 k true x193000 x193001 x193002 x193003 x193004 x193005 x193006 x193007 x193008) else (spec_l03Plain.j4 k (decide ((x193008.length : Int) > 0)) x193000 x193001 x193002 x193003 x193004 x193005 x193006 x193007 x193008)) else (spec_l03Plain.j4 k true x193000 x193001 x193002 x193003 x193004 x193005 x193006 x193007 x193008)) else (spec_l03Plain.j4 k true x193000 x193001 x193002 x193003 x193004 x193005 x193006 x193007 x193008)) else (spec_l03Plain.j4 k true x193000 x193001 x193002 x193003 x193004 x193005 x193006 x193007 x193008))
def spec_l03Plain.j1 : Nat → Bool → Int → Int → Int → Int → Int → Int → Int → List Int → List Int → Option (Bool)
 | 0, _, _, _, _, _, _, _, _, _, _ => none
 | k + 1, x58, x193000, x193001, x193002, x193003, x193004, x193005, x193006, x193007, x193008 => if x58 = true then (some false) else (spec_l03Plain.l0 k 0 x193000 x193001 x193002 x193003 x193004 x193005 x193006 x193007 x193008)
def spec_l03Plain.l0 : Nat → Int → Int → Int → Int → Int → Int → Int → Int → List Int → List Int → Option (Bool)
 | 0, _, _, _, _, _, _, _, _, _, _ => none
 | k + 1, x7, x193000, x193001, x193002, x193003, x193004, x193005, x193006, x193007, x193008 => if x7 < (x193008.length : Int) then (if 0 ≤ x7 then ((spec_l01In.f (rd x193008 x7) (-1000000) 1000000).bind fun t200 => (if t200 = true then (spec_l03Plain.l0 k (wrap64 (x7 + 1)) x193000 x193001 x193002 x193003 x193004 x193005 x193006 x193007 x193008) else (some false))) else (none)) else (spec_l03Plain.l1 k 0 x193000 x193001 x193002 x193003 x193004 x193005 x193006 x193007 x193008)
def spec_l03Plain.l1 : Nat → Int → Int → Int → Int → Int → Int → Int → Int → List Int → List Int → Option (Bool)
 | 0, _, _, _, _, _, _, _, _, _, _ => none
 | k + 1, x8, x193000, x193001, x193002, x193003, x193004, x193005, x193006, x193007, x193008 => if x8 < (x193007.length : Int) then (if 0 ≤ x8 then ((spec_l02Int8.f (rd x193007 x8)).bind fun t202 => (if t202 = true then (spec_l03Plain.l1 k (wrap64 (x8 + 1)) x193000 x193001 x193002 x193003 x193004 x193005 x193006 x193007 x193008) else (some false))) else (none)) else (some true)
def spec_l03Plain.j4 : Nat → Bool → Int → Int → Int → Int → Int → Int → Int → List Int → List Int → Option (Bool)
 | 0, _, _, _, _, _, _, _, _, _, _ => none
 | k + 1, x111, x193000, x193001, x193002, x193003, x193004, x193005, x193006, x193007, x193008 => if x111 = true then (some false) else (if x193000 = 4 then ((spec_l02Int8.f x193006).bind fun t203 => (some t203)) else (some (x193006 == 0)))
end
def spec_l03Plain.f (k : Nat) (a0_0 : Int) (a0_1 : Int) (a0_2 : Int) (a0_3 : Int) (a0_4 : Int) (a0_5 : Int) (a0_6 : Int) (l0_7 : List Int) (l0_8 : List Int) (a1 : Bool) (a2 : Bool) : Option (Bool) := if a1 = true then ((spec_l01In.f a0_2 1 3).bind fun t193 => (if t193 = true then ((spec_l01In.f a0_3 1 2).bind fun t194 => (if t194 = true then (spec_l03Plain.j0 k a2 a0_0 a0_1 a0_2 a0_3 a0_4 a0_5 a0_6 l0_7 l0_8) else (some false))) else (some false))) else (if a0_2 = 0 then (if a0_3 = 0 then (spec_l03Plain.j0 k a2 a0_0 a0_1 a0_2 a0_3 a0_4 a0_5 a0_6 l0_7 l0_8) else (some false)) else (some false))
set_option maxHeartbeats 8000000 in
set_option maxRecDepth 100000 in
theorem spec_l03Plain.calls {k : Nat} {a0_0 : Int} {a0_1 : Int} {a0_2 : Int} {a0_3 : Int} {a0_4 : Int} {a0_5 : Int} {a0_6 : Int} {A0_7 : Option Addr} {c0_7 : Nat} {l0_7 : List Int} {A0_8 : Option Addr} {c0_8 : Nat} {l0_8 : List Int} {a1 : Bool} {a2 : Bool} {r : Bool} {w : World} (hr0_7 : Kd.C (Kd.int .i64) w A0_7 l0_7.length l0_7) (hc0_7 : l0_7.length ≤ c0_7) (hr0_8 : Kd.C (Kd.int .i64) w A0_8 l0_8.length l0_8) (hc0_8 : l0_8.length ≤ c0_8) (h : spec_l03Plain.f k a0_0 a0_1 a0_2 a0_3 a0_4 a0_5 a0_6 l0_7 l0_8 a1 a2 = some r) :
  Calls Tryz.prog 62 #[.agg #[.int .i64 a0_0, .int .i64 a0_1, .int .i64 a0_2, .int .i64 a0_3, .int .i64 a0_4, .int .i64 a0_5, .int .i64 a0_6, .slice A0_7 l0_7.length c0_7, .slice A0_8 l0_8.length c0_8], .bool a1, .bool a2] w fun e w' => e = .returned (.bool r) ∧ Below w.heap.size w w' := by
 have hu55 := Tryz.underlying55; have HR0_7 := Aside0.mk hr0_7; have HC0_7 := Aside0.mk hc0_7; clear hr0_7 hc0_7; have HR0_8 := Aside0.mk hr0_8; have HC0_8 := Aside0.mk hc0_8; clear hr0_8 hc0_8; have HB := Aside0.mk (Below.refl w.heap.size w); have H : (if a1 = true then ((spec_l01In.f a0_2 1 3).bind fun t193 => (if t193 = true then ((spec_l01In.f a0_3 1 2).bind fun t194 => (if t194 = true then (spec_l03Plain.j0 k a2 a0_0 a0_1 a0_2 a0_3 a0_4 a0_5 a0_6 l0_7 l0_8) else (some false))) else (some false))) else (if a0_2 = 0 then (if a0_3 = 0 then (spec_l03Plain.j0 k a2 a0_0 a0_1 a0_2 a0_3 a0_4 a0_5 a0_6 l0_7 l0_8) else (some false)) else (some false))) = some r := h; clear h; have HC4 := Aside0.mk H; clear H
 go_enter Tryz.func62, Tryz.ntmps62
 go_upto_if 9 with (first | ((with_reducible refine gate_dst (N := 3) rfl ?_); (try (refine gate_guard (by rfl) ?_; dsimp only)); refine bz_ 3 ?_; intro gb192 hg w5 hbox hb; obtain ⟨BK192, GW192, GE192, HB⟩ := nb_ hg hbox HB hb; clear hb hbox hg))
 (try simp only [Act.put, List.setIfInBounds_toArray, List.set_cons_zero, List.set_cons_succ])
 go_cut [] (fun wc => ∃ (kq : Nat), Aside0 (spec_l03Plain.j0 kq a2 a0_0 a0_1 a0_2 a0_3 a0_4 a0_5 a0_6 l0_7 l0_8 = some r) ∧ Aside0 (kq ≤ k) ∧ Aside0 (wc.heap[gb192]? = some (.cells #[.int .i64 a0_0, .int .i64 a0_1, .int .i64 a0_2, .int .i64 a0_3, .int .i64 a0_4, .int .i64 a0_5, .int .i64 a0_6, (.slice A0_7 l0_7.length c0_7), (.slice A0_8 l0_8.length c0_8)] 55 (0, 0))) ∧ Aside0 (Below w.heap.size w wc))
 case first =>
  have H := HC4.out; clear HC4
  by_cases c6 : a1 = true
  ·
   subst c6; rw [if_pos rfl] at H; obtain ⟨t193, A7, H⟩ := bo_ H; (try dsimp only at H)
   by_cases c8 : t193 = true
   ·
    subst c8; rw [if_pos rfl] at H; obtain ⟨t194, A9, H⟩ := bo_ H; (try dsimp only at H)
    by_cases c10 : t194 = true
    ·
     subst c10; rw [if_pos rfl] at H; have H' := Aside0.mk H; clear H; have hcz11 := box9_ BK192.out
     go_wp2_with (first | ((with_reducible refine gc_ 57 ?_); refine gw_ (some 12) Tryz.func57 ?_; (with_reducible refine (spec_l01In.calls A7.out).mono ?_); rintro e w' ⟨rfl, ⟨nd, rfl⟩⟩; refine ⟨_, rfl, ?_⟩) | (go_at_call 57; (with_reducible refine (spec_l01In.calls A9.out).mono ?_); rintro e w' ⟨rfl, ⟨nd, rfl⟩⟩))
     go_meet
     case rel => exact ⟨_, H', ⟨ro_⟩, ⟨bu_ BK192.out⟩, ⟨be_ HB.out⟩⟩
    ·
     replace c10 := fb_ c10; subst c10; replace H := if0_ H
     obtain rfl := oi_ H; have hcz12 := box9_ BK192.out
     go_wp2_with (first | ((with_reducible refine gc_ 57 ?_); refine gw_ (some 12) Tryz.func57 ?_; (with_reducible refine (spec_l01In.calls A7.out).mono ?_); rintro e w' ⟨rfl, ⟨nd, rfl⟩⟩; refine ⟨_, rfl, ?_⟩) | (go_at_call 57; (with_reducible refine (spec_l01In.calls A9.out).mono ?_); rintro e w' ⟨rfl, ⟨nd, rfl⟩⟩))
     go_ret
     exact rt_ HB.out
   ·
    replace c8 := fb_ c8; subst c8; replace H := if0_ H
    obtain rfl := oi_ H; have hcz13 := box9_ BK192.out
    go_wp2_with (first | ((with_reducible refine gc_ 57 ?_); refine gw_ (some 12) Tryz.func57 ?_; (with_reducible refine (spec_l01In.calls A7.out).mono ?_); rintro e w' ⟨rfl, ⟨nd, rfl⟩⟩; refine ⟨_, rfl, ?_⟩))
    go_ret
    exact rt_ HB.out
  ·
   replace c6 := fb_ c6; subst c6; replace H := if0_ H
   by_cases c14 : a0_2 = 0
   ·
    rw [if_pos c14] at H; have c14b0 : (a0_2 == 0) = true := eq1_ c14; have c14b1 : (a0_2 != 0) = false := ne0_ c14; clear c14; (first | rw [c14b0] | (simp only [i64_w, i32_w]; rw [c14b0]) | skip)
    by_cases c15 : a0_3 = 0
    ·
     rw [if_pos c15] at H; have c15b0 : (a0_3 == 0) = true := eq1_ c15; have c15b1 : (a0_3 != 0) = false := ne0_ c15; clear c15; have H' := Aside0.mk H; clear H; have hcz16 := box9_ BK192.out
     go_wp2
     go_meet
     case rel => exact ⟨_, H', ⟨ro_⟩, ⟨bu_ BK192.out⟩, ⟨be_ HB.out⟩⟩
    ·
     rw [if_neg c15] at H; have c15b0 : (a0_3 == 0) = false := eq0_ c15; have c15b1 : (a0_3 != 0) = true := ne1_ c15; obtain rfl := oi_ H; have hcz17 := box9_ BK192.out
     go_wp2
     go_ret
     exact rt_ HB.out
   ·
    rw [if_neg c14] at H; have c14b0 : (a0_2 == 0) = false := eq0_ c14; have c14b1 : (a0_2 != 0) = true := ne1_ c14; (first | rw [c14b0] | (simp only [i64_w, i32_w]; rw [c14b0]) | skip); obtain rfl := oi_ H; have hcz18 := box9_ BK192.out
    go_wp2
    go_ret
    exact rt_ HB.out
 case rest =>
  clear HC4; (try clear c1); (try clear p2); (try clear c5); (try clear c6); (try clear c8); (try clear c10); (try clear c14); (try clear c14b0); (try clear c14b1); (try clear c15); (try clear c15b0); (try clear c15b1); (try clear hcz11); (try clear hcz12); (try clear hcz13); (try clear hcz16); (try clear hcz17); (try clear hcz18); obtain ⟨kq, HA, HJ3, BK192, HB⟩ := hcut
  cases kq with
  | zero => exact absurd HA.out (by simp [spec_l03Plain.j0])
  | succ kj3 =>
   have H := HA.out; clear HA; simp only [spec_l03Plain.j0] at H
   by_cases c19 : a2 = true
   ·
    subst c19; rw [if_pos rfl] at H; have HC20 := Aside0.mk H; clear H
    go_upto_region 7 with (fail)
    go_cut [58] (fun v58 wc => ∃ (kq : Nat) (x58_19 : Bool), v58 = .bool x58_19 ∧ Aside0 (spec_l03Plain.j1 kq x58_19 a0_0 a0_1 a0_2 a0_3 a0_4 a0_5 a0_6 l0_7 l0_8 = some r) ∧ Aside0 (kq ≤ kj3) ∧ Aside0 (wc.heap[gb192]? = some (.cells #[.int .i64 a0_0, .int .i64 a0_1, .int .i64 a0_2, .int .i64 a0_3, .int .i64 a0_4, .int .i64 a0_5, .int .i64 a0_6, (.slice A0_7 l0_7.length c0_7), (.slice A0_8 l0_8.length c0_8)] 55 (0, 0))) ∧ Aside0 (Below w.heap.size w wc))
    case first =>
     have H := HC20.out; clear HC20; obtain ⟨t195, A21, H⟩ := bo_ H; (try dsimp only at H)
     by_cases c22 : t195 = true
     ·
      subst c22; rw [if_pos rfl] at H; obtain ⟨t196, A23, H⟩ := bo_ H; (try dsimp only at H)
      by_cases c24 : t196 = true
      ·
       subst c24; rw [if_pos rfl] at H; obtain ⟨t197, A25, H⟩ := bo_ H; (try dsimp only at H)
       by_cases c26 : t197 = true
       ·
        subst c26; rw [if_pos rfl] at H; obtain ⟨t198, A27, H⟩ := bo_ H; (try dsimp only at H)
        by_cases c28 : t198 = true
        ·
         subst c28; rw [if_pos rfl] at H; have H' := Aside0.mk H; clear H; have hcz29 := box9_ BK192.out
         go_wp2_with (first | ((with_reducible refine gc_ 57 ?_); refine gw_ (some 31) Tryz.func57 ?_; (with_reducible refine (spec_l01In.calls A21.out).mono ?_); rintro e w' ⟨rfl, ⟨nd, rfl⟩⟩; refine ⟨_, rfl, ?_⟩) | (go_at_call 57; (with_reducible refine (spec_l01In.calls A23.out).mono ?_); rintro e w' ⟨rfl, ⟨nd, rfl⟩⟩) | (go_at_call 57; (with_reducible refine (spec_l01In.calls A25.out).mono ?_); rintro e w' ⟨rfl, ⟨nd, rfl⟩⟩) | (go_at_call 96; (with_reducible refine (spec_l02Int8.calls A27.out).mono ?_); rintro e w' ⟨rfl, ⟨nd, rfl⟩⟩))
         go_meet
         case rel => exact ⟨_, (((l0_8.length : Int) != a0_1)), rl_, H', ⟨by have := HJ3.out; first | omega | exact Nat.le_refl _⟩, ⟨bu_ BK192.out⟩, ⟨be_ HB.out⟩⟩
        ·
         replace c28 := fb_ c28; subst c28; replace H := if0_ H
         have H' := Aside0.mk H; clear H; have hcz30 := box9_ BK192.out
         go_wp2_with (first | ((with_reducible refine gc_ 57 ?_); refine gw_ (some 31) Tryz.func57 ?_; (with_reducible refine (spec_l01In.calls A21.out).mono ?_); rintro e w' ⟨rfl, ⟨nd, rfl⟩⟩; refine ⟨_, rfl, ?_⟩) | (go_at_call 57; (with_reducible refine (spec_l01In.calls A23.out).mono ?_); rintro e w' ⟨rfl, ⟨nd, rfl⟩⟩) | (go_at_call 57; (with_reducible refine (spec_l01In.calls A25.out).mono ?_); rintro e w' ⟨rfl, ⟨nd, rfl⟩⟩) | (go_at_call 96; (with_reducible refine (spec_l02Int8.calls A27.out).mono ?_); rintro e w' ⟨rfl, ⟨nd, rfl⟩⟩))
         go_meet
         case rel => exact ⟨_, (true), rl_, H', ⟨by have := HJ3.out; first | omega | exact Nat.le_refl _⟩, ⟨bu_ BK192.out⟩, ⟨be_ HB.out⟩⟩
       ·
        replace c26 := fb_ c26; subst c26; replace H := if0_ H
        have H' := Aside0.mk H; clear H; have hcz31 := box9_ BK192.out
        go_wp2_with (first | ((with_reducible refine gc_ 57 ?_); refine gw_ (some 31) Tryz.func57 ?_; (with_reducible refine (spec_l01In.calls A21.out).mono ?_); rintro e w' ⟨rfl, ⟨nd, rfl⟩⟩; refine ⟨_, rfl, ?_⟩) | (go_at_call 57; (with_reducible refine (spec_l01In.calls A23.out).mono ?_); rintro e w' ⟨rfl, ⟨nd, rfl⟩⟩) | (go_at_call 57; (with_reducible refine (spec_l01In.calls A25.out).mono ?_); rintro e w' ⟨rfl, ⟨nd, rfl⟩⟩))
        go_meet
        case rel => exact ⟨_, (true), rl_, H', ⟨by have := HJ3.out; first | omega | exact Nat.le_refl _⟩, ⟨bu_ BK192.out⟩, ⟨be_ HB.out⟩⟩
      ·
       replace c24 := fb_ c24; subst c24; replace H := if0_ H
       have H' := Aside0.mk H; clear H; have hcz32 := box9_ BK192.out
       go_wp2_with (first | ((with_reducible refine gc_ 57 ?_); refine gw_ (some 31) Tryz.func57 ?_; (with_reducible refine (spec_l01In.calls A21.out).mono ?_); rintro e w' ⟨rfl, ⟨nd, rfl⟩⟩; refine ⟨_, rfl, ?_⟩) | (go_at_call 57; (with_reducible refine (spec_l01In.calls A23.out).mono ?_); rintro e w' ⟨rfl, ⟨nd, rfl⟩⟩))
       go_meet
       case rel => exact ⟨_, (true), rl_, H', ⟨by have := HJ3.out; first | omega | exact Nat.le_refl _⟩, ⟨bu_ BK192.out⟩, ⟨be_ HB.out⟩⟩
     ·
      replace c22 := fb_ c22; subst c22; replace H := if0_ H
      have H' := Aside0.mk H; clear H; have hcz33 := box9_ BK192.out
      go_wp2_with (first | ((with_reducible refine gc_ 57 ?_); refine gw_ (some 31) Tryz.func57 ?_; (with_reducible refine (spec_l01In.calls A21.out).mono ?_); rintro e w' ⟨rfl, ⟨nd, rfl⟩⟩; refine ⟨_, rfl, ?_⟩))
      go_meet
      case rel => exact ⟨_, (true), rl_, H', ⟨by have := HJ3.out; first | omega | exact Nat.le_refl _⟩, ⟨bu_ BK192.out⟩, ⟨be_ HB.out⟩⟩
    case rest =>
     clear HC20; (try clear c1); (try clear c2); (try clear p2); (try clear c5); (try clear c6); (try clear c8); (try clear c10); (try clear c14); (try clear c14b0); (try clear c14b1); (try clear c15); (try clear c15b0); (try clear c15b1); (try clear c19); (try clear c22); (try clear c24); (try clear c26); (try clear c28); (try clear hcz11); (try clear hcz12); (try clear hcz13); (try clear hcz16); (try clear hcz17); (try clear hcz18); (try clear hcz29); (try clear hcz30); (try clear hcz31); (try clear hcz32); (try clear hcz33); (try clear p2); obtain ⟨kq, x58_19, rfl, HA, HJ19, BK192, HB⟩ := hcut
     cases kq with
     | zero => exact absurd HA.out (by simp [spec_l03Plain.j1])
     | succ kj19 =>
      have H := HA.out; clear HA; simp only [spec_l03Plain.j1] at H
      by_cases c34 : x58_19 = true
      ·
       subst c34; rw [if_pos rfl] at H; obtain rfl := oi_ H
       go_wp2
       go_ret
       exact rt_ HB.out
      ·
       replace c34 := fb_ c34; subst c34; replace H := if0_ H
       have H' := Aside0.mk H; clear H
       go_wp2
       go_loopg [7] kj19 (fun kq v7 w' => ∃ (x7_3 : Int), v7 = .int .i64 x7_3 ∧ Aside0 (spec_l03Plain.l0 kq x7_3 a0_0 a0_1 a0_2 a0_3 a0_4 a0_5 a0_6 l0_7 l0_8 = some r) ∧ Aside0 (kq ≤ kj19) ∧ Aside0 (w'.heap[gb192]? = some (.cells #[.int .i64 a0_0, .int .i64 a0_1, .int .i64 a0_2, .int .i64 a0_3, .int .i64 a0_4, .int .i64 a0_5, .int .i64 a0_6, (.slice A0_7 l0_7.length c0_7), (.slice A0_8 l0_8.length c0_8)] 55 (0, 0))) ∧ Aside0 (Below w.heap.size w w'))
       case atStart => exact ⟨(0), rl_, H', ⟨Nat.le_refl _⟩, ⟨bu_ BK192.out⟩, ⟨be_ HB.out⟩⟩
       case round =>
        clear H'; (try clear c1); (try clear c2); (try clear p2); (try clear c3); (try clear c5); (try clear c6); (try clear c8); (try clear c10); (try clear c14); (try clear c14b0); (try clear c14b1); (try clear c15); (try clear c15b0); (try clear c15b1); (try clear c19); (try clear c22); (try clear c24); (try clear c26); (try clear c28); (try clear c34); (try clear hcz11); (try clear hcz12); (try clear hcz13); (try clear hcz16); (try clear hcz17); (try clear hcz18); (try clear hcz29); (try clear hcz30); (try clear hcz31); (try clear hcz32); (try clear hcz33); (try clear p2); obtain ⟨x7_3, rfl, HA, HK3, BK192, HB⟩ := hrel
        cases gk with
        | zero => exact absurd HA.out (by simp [spec_l03Plain.l0])
        | succ k3 =>
         have H := HA.out; clear HA; simp only [spec_l03Plain.l0] at H
         by_cases c35 : x7_3 < (l0_8.length : Int)
         ·
          rw [if_pos c35] at H; have c35b0 : decide (x7_3 < (l0_8.length : Int)) = true := dt_ c35; clear c35
          by_cases c36 : 0 ≤ x7_3
          ·
           rw [if_pos c36] at H; have c36b0 : decide (0 ≤ x7_3) = true := dt_ c36; clear c36; obtain ⟨t200, A37, H⟩ := bo_ H; (try dsimp only at H)
           by_cases c38 : t200 = true
           ·
            subst c38; rw [if_pos rfl] at H; have H' := Aside0.mk H; clear H; have hcz39 := box9_ BK192.out; have p199 : 0 ≤ (x7_3 : Int) := od_; have q199 : x7_3 < (l0_8.length : Int) := od_; obtain ⟨ad199, e199, hx199_0⟩ := Kd.at_int HR0_8.out x7_3 p199 q199
            cases e199
            replace hx199_0 := cw_ HB.out hx199_0; replace p199 := eq_true p199; replace q199 := eq_true q199
            go_wp2_with (first | ((with_reducible refine gc_ 57 ?_); refine gw_ (some 71) Tryz.func57 ?_; (with_reducible refine (spec_l01In.calls A37.out).mono ?_); rintro e w' ⟨rfl, ⟨nd, rfl⟩⟩; refine ⟨_, rfl, ?_⟩))
            go_roundg k3
            case measure => have := HJ3.out; have := HJ19.out; have := HK3.out; omega
            case rel => exact ⟨(wrap64 (x7_3 + 1)), rl_, H', ⟨by have := HJ3.out; have := HJ19.out; have := HK3.out; omega⟩, ⟨bu_ BK192.out⟩, ⟨be_ HB.out⟩⟩
           ·
            replace c38 := fb_ c38; subst c38; replace H := if0_ H
            obtain rfl := oi_ H; have hcz40 := box9_ BK192.out; have p199 : 0 ≤ (x7_3 : Int) := od_; have q199 : x7_3 < (l0_8.length : Int) := od_; obtain ⟨ad199, e199, hx199_0⟩ := Kd.at_int HR0_8.out x7_3 p199 q199
            cases e199
            replace hx199_0 := cw_ HB.out hx199_0; replace p199 := eq_true p199; replace q199 := eq_true q199
            go_wp2_with (first | ((with_reducible refine gc_ 57 ?_); refine gw_ (some 71) Tryz.func57 ?_; (with_reducible refine (spec_l01In.calls A37.out).mono ?_); rintro e w' ⟨rfl, ⟨nd, rfl⟩⟩; refine ⟨_, rfl, ?_⟩))
            go_ret
            exact rt_ HB.out
          ·
           rw [if_neg c36] at H; exact absurd H (by simp)
         ·
          rw [if_neg c35] at H; have c35b0 : decide (x7_3 < (l0_8.length : Int)) = false := df_ c35; clear c35; have H' := Aside0.mk H; clear H; have hcz41 := box9_ BK192.out
          go_wp2
          go_loopg [8] k3 (fun kq v8 w' => ∃ (x8_4 : Int), v8 = .int .i64 x8_4 ∧ Aside0 (spec_l03Plain.l1 kq x8_4 a0_0 a0_1 a0_2 a0_3 a0_4 a0_5 a0_6 l0_7 l0_8 = some r) ∧ Aside0 (kq ≤ k3) ∧ Aside0 (w'.heap[gb192]? = some (.cells #[.int .i64 a0_0, .int .i64 a0_1, .int .i64 a0_2, .int .i64 a0_3, .int .i64 a0_4, .int .i64 a0_5, .int .i64 a0_6, (.slice A0_7 l0_7.length c0_7), (.slice A0_8 l0_8.length c0_8)] 55 (0, 0))) ∧ Aside0 (Below w.heap.size w w'))
          case atStart => exact ⟨(0), rl_, H', ⟨Nat.le_refl _⟩, ⟨bu_ BK192.out⟩, ⟨be_ HB.out⟩⟩
          case round =>
           clear H'; (try clear c1); (try clear p1); (try clear q1); (try clear hx1); (try clear c2); (try clear p2); (try clear c3); (try clear c5); (try clear c6); (try clear p6); (try clear c8); (try clear c10); (try clear c14); (try clear c14b0); (try clear c14b1); (try clear c15); (try clear c15b0); (try clear c15b1); (try clear c19); (try clear p19); (try clear q19); (try clear hx19); (try clear c22); (try clear c24); (try clear c26); (try clear c28); (try clear c34); (try clear c35); (try clear c35b0); (try clear c36); (try clear c36b0); (try clear c38); (try clear hcz11); (try clear hcz12); (try clear hcz13); (try clear hcz16); (try clear hcz17); (try clear hcz18); (try clear hcz29); (try clear hcz30); (try clear hcz31); (try clear hcz32); (try clear hcz33); (try clear hcz39); (try clear hcz40); (try clear hcz41); (try clear hx199_0); (try clear p199); (try clear p2); (try clear q199); obtain ⟨x8_4, rfl, HA, HK4, BK192, HB⟩ := hrel
           cases gk with
           | zero => exact absurd HA.out (by simp [spec_l03Plain.l1])
           | succ k4 =>
            have H := HA.out; clear HA; simp only [spec_l03Plain.l1] at H
            by_cases c42 : x8_4 < (l0_7.length : Int)
            ·
             rw [if_pos c42] at H; have c42b0 : decide (x8_4 < (l0_7.length : Int)) = true := dt_ c42; clear c42
             by_cases c43 : 0 ≤ x8_4
             ·
              rw [if_pos c43] at H; have c43b0 : decide (0 ≤ x8_4) = true := dt_ c43; clear c43; obtain ⟨t202, A44, H⟩ := bo_ H; (try dsimp only at H)
              by_cases c45 : t202 = true
              ·
               subst c45; rw [if_pos rfl] at H; have H' := Aside0.mk H; clear H; have hcz46 := box9_ BK192.out; have p201 : 0 ≤ (x8_4 : Int) := od_; have q201 : x8_4 < (l0_7.length : Int) := od_; obtain ⟨ad201, e201, hx201_0⟩ := Kd.at_int HR0_7.out x8_4 p201 q201
               cases e201
               replace hx201_0 := cw_ HB.out hx201_0; replace p201 := eq_true p201; replace q201 := eq_true q201
               go_wp2_with (first | ((with_reducible refine gc_ 96 ?_); refine gw_ (some 85) Tryz.func96 ?_; (with_reducible refine (spec_l02Int8.calls A44.out).mono ?_); rintro e w' ⟨rfl, ⟨nd, rfl⟩⟩; refine ⟨_, rfl, ?_⟩))
               go_roundg k4
               case measure => have := HJ3.out; have := HJ19.out; have := HK3.out; have := HK4.out; omega
               case rel => exact ⟨(wrap64 (x8_4 + 1)), rl_, H', ⟨by have := HJ3.out; have := HJ19.out; have := HK3.out; have := HK4.out; omega⟩, ⟨bu_ BK192.out⟩, ⟨be_ HB.out⟩⟩
              ·
               replace c45 := fb_ c45; subst c45; replace H := if0_ H
               obtain rfl := oi_ H; have hcz47 := box9_ BK192.out; have p201 : 0 ≤ (x8_4 : Int) := od_; have q201 : x8_4 < (l0_7.length : Int) := od_; obtain ⟨ad201, e201, hx201_0⟩ := Kd.at_int HR0_7.out x8_4 p201 q201
               cases e201
               replace hx201_0 := cw_ HB.out hx201_0; replace p201 := eq_true p201; replace q201 := eq_true q201
               go_wp2_with (first | ((with_reducible refine gc_ 96 ?_); refine gw_ (some 85) Tryz.func96 ?_; (with_reducible refine (spec_l02Int8.calls A44.out).mono ?_); rintro e w' ⟨rfl, ⟨nd, rfl⟩⟩; refine ⟨_, rfl, ?_⟩))
               go_ret
               exact rt_ HB.out
             ·
              rw [if_neg c43] at H; exact absurd H (by simp)
            ·
             rw [if_neg c42] at H; have c42b0 : decide (x8_4 < (l0_7.length : Int)) = false := df_ c42; clear c42; obtain rfl := oi_ H; have hcz48 := box9_ BK192.out
             go_wp2
             go_ret
             exact rt_ HB.out
   ·
    replace c19 := fb_ c19; subst c19; replace H := if0_ H
    have HC49 := Aside0.mk H; clear H
    go_upto_region 20 with (fail)
    go_cut [111] (fun v111 wc => ∃ (kq : Nat) (x111_48 : Bool), v111 = .bool x111_48 ∧ Aside0 (spec_l03Plain.j4 kq x111_48 a0_0 a0_1 a0_2 a0_3 a0_4 a0_5 a0_6 l0_7 l0_8 = some r) ∧ Aside0 (kq ≤ kj3) ∧ Aside0 (wc.heap[gb192]? = some (.cells #[.int .i64 a0_0, .int .i64 a0_1, .int .i64 a0_2, .int .i64 a0_3, .int .i64 a0_4, .int .i64 a0_5, .int .i64 a0_6, (.slice A0_7 l0_7.length c0_7), (.slice A0_8 l0_8.length c0_8)] 55 (0, 0))) ∧ Aside0 (Below w.heap.size w wc))
    case first =>
     have H := HC49.out; clear HC49
     by_cases c50 : a0_1 = 0
     ·
      rw [if_pos c50] at H; have c50b0 : (a0_1 == 0) = true := eq1_ c50; have c50b1 : (a0_1 != 0) = false := ne0_ c50; clear c50; (first | rw [c50b0] | (simp only [i64_w, i32_w]; rw [c50b0]) | skip)
      by_cases c51 : a0_4 = 0
      ·
       rw [if_pos c51] at H; have c51b0 : (a0_4 == 0) = true := eq1_ c51; have c51b1 : (a0_4 != 0) = false := ne0_ c51; clear c51
       by_cases c52 : a0_5 = 0
       ·
        rw [if_pos c52] at H; have c52b0 : (a0_5 == 0) = true := eq1_ c52; have c52b1 : (a0_5 != 0) = false := ne0_ c52; clear c52
        by_cases c53 : (l0_7.length : Int) > 0
        ·
         rw [if_pos c53] at H; have c53b0 : decide (0 < (l0_7.length : Int)) = true := dt_ c53; have c53b1 : decide (0 < l0_7.length) = true := decide_eq_true (by omega); clear c53; have H' := Aside0.mk H; clear H; have hcz54 := box9_ BK192.out
         go_wp2
         go_meet
         case rel => exact ⟨_, (true), rl_, H', ⟨by have := HJ3.out; first | omega | exact Nat.le_refl _⟩, ⟨bu_ BK192.out⟩, ⟨be_ HB.out⟩⟩
        ·
         rw [if_neg c53] at H; have c53b0 : decide (0 < (l0_7.length : Int)) = false := df_ c53; have c53b1 : decide (0 < l0_7.length) = false := decide_eq_false (by omega); clear c53; have H' := Aside0.mk H; clear H; have hcz55 := box9_ BK192.out
         go_wp2
         go_meet
         case rel => exact ⟨_, (decide ((l0_8.length : Int) > 0)), rl_, H', ⟨by have := HJ3.out; first | omega | exact Nat.le_refl _⟩, ⟨bu_ BK192.out⟩, ⟨be_ HB.out⟩⟩
       ·
        rw [if_neg c52] at H; have c52b0 : (a0_5 == 0) = false := eq0_ c52; have c52b1 : (a0_5 != 0) = true := ne1_ c52; have H' := Aside0.mk H; clear H; have hcz56 := box9_ BK192.out
        go_wp2
        go_meet
        case rel => exact ⟨_, (true), rl_, H', ⟨by have := HJ3.out; first | omega | exact Nat.le_refl _⟩, ⟨bu_ BK192.out⟩, ⟨be_ HB.out⟩⟩
      ·
       rw [if_neg c51] at H; have c51b0 : (a0_4 == 0) = false := eq0_ c51; have c51b1 : (a0_4 != 0) = true := ne1_ c51; have H' := Aside0.mk H; clear H; have hcz57 := box9_ BK192.out
       go_wp2
       go_meet
       case rel => exact ⟨_, (true), rl_, H', ⟨by have := HJ3.out; first | omega | exact Nat.le_refl _⟩, ⟨bu_ BK192.out⟩, ⟨be_ HB.out⟩⟩
     ·
      rw [if_neg c50] at H; have c50b0 : (a0_1 == 0) = false := eq0_ c50; have c50b1 : (a0_1 != 0) = true := ne1_ c50; (first | rw [c50b0] | (simp only [i64_w, i32_w]; rw [c50b0]) | skip); have H' := Aside0.mk H; clear H; have hcz58 := box9_ BK192.out
      go_wp2
      go_meet
      case rel => exact ⟨_, (true), rl_, H', ⟨by have := HJ3.out; first | omega | exact Nat.le_refl _⟩, ⟨bu_ BK192.out⟩, ⟨be_ HB.out⟩⟩
    case rest =>
     clear HC49; (try clear c1); (try clear p1); (try clear q1); (try clear hx1); (try clear c2); (try clear p2); (try clear q2); (try clear hx2); (try clear c3); (try clear c4); (try clear c5); (try clear c6); (try clear p6); (try clear c8); (try clear c9); (try clear c10); (try clear c14); (try clear c14b0); (try clear c14b1); (try clear c15); (try clear c15b0); (try clear c15b1); (try clear c19); (try clear p19); (try clear q19); (try clear hx19); (try clear p20); (try clear q20); (try clear hx20); (try clear c22); (try clear c24); (try clear c26); (try clear c28); (try clear c34); (try clear c35); (try clear c35b0); (try clear c36); (try clear c36b0); (try clear c38); (try clear c42); (try clear c42b0); (try clear c43); (try clear c43b0); (try clear c45); (try clear c50); (try clear c50b0); (try clear c50b1); (try clear c51); (try clear c51b0); (try clear c51b1); (try clear c52); (try clear c52b0); (try clear c52b1); (try clear c53); (try clear c53b0); (try clear c53b1); (try clear hcz11); (try clear hcz12); (try clear hcz13); (try clear hcz16); (try clear hcz17); (try clear hcz18); (try clear hcz29); (try clear hcz30); (try clear hcz31); (try clear hcz32); (try clear hcz33); (try clear hcz39); (try clear hcz40); (try clear hcz41); (try clear hcz46); (try clear hcz47); (try clear hcz48); (try clear hcz54); (try clear hcz55); (try clear hcz56); (try clear hcz57); (try clear hcz58); (try clear hx199_0); (try clear hx201_0); (try clear p1); (try clear p19); (try clear p199); (try clear p2); (try clear p201); (try clear p6); (try clear q1); (try clear q19); (try clear q199); (try clear q201); obtain ⟨kq, x111_48, rfl, HA, HJ48, BK192, HB⟩ := hcut
     cases kq with
     | zero => exact absurd HA.out (by simp [spec_l03Plain.j4])
     | succ kj48 =>
      have H := HA.out; clear HA; simp only [spec_l03Plain.j4] at H
      by_cases c59 : x111_48 = true
      ·
       subst c59; rw [if_pos rfl] at H; obtain rfl := oi_ H
       go_wp2
       go_ret
       exact rt_ HB.out
      ·
       replace c59 := fb_ c59; subst c59; replace H := if0_ H
       by_cases c60 : a0_0 = 4
       ·
        rw [if_pos c60] at H; have c60b0 : (a0_0 == 4) = true := eq1_ c60; have c60b1 : (a0_0 != 4) = false := ne0_ c60; clear c60; obtain ⟨t203, A61, H⟩ := bo_ H; (try dsimp only at H); obtain rfl := oi_ H; have hcz62 := box9_ BK192.out
        go_wp2_with (first | ((with_reducible refine gc_ 96 ?_); refine gw_ (some 117) Tryz.func96 ?_; (with_reducible refine (spec_l02Int8.calls A61.out).mono ?_); rintro e w' ⟨rfl, ⟨nd, rfl⟩⟩; refine ⟨_, rfl, ?_⟩))
        go_ret
        exact rt_ HB.out
       ·
        rw [if_neg c60] at H; have c60b0 : (a0_0 == 4) = false := eq0_ c60; have c60b1 : (a0_0 != 4) = true := ne1_ c60; obtain rfl := oi_ H; have hcz63 := box9_ BK192.out
        go_wp2
        go_ret
        exact rt_ HB.out

mutual
def spec_OutShape.j0 : Nat → Bool → Int → Int → Int → Int → Int → Int → Int → Int → Int → Int → List Int → List Int → Int → Int → Int → Option (Int × Int × Int × Bool)
 | 0, _, _, _, _, _, _, _, _, _, _, _, _, _, _, _, _ => none
 | k + 1, x18, x205000, x205001, x205002, x206000, x206001, x206002, x206003, x206004, x206005, x206006, x206007, x206008, x208000, x208001, x208002 => if x18 = true then (some (x208000, x208001, x208002, false)) else ((spec_l01In.f x206000 1 3).bind fun t210 => ((spec_l03Plain.f k x206000 x206001 x206002 x206003 x206004 x206005 x206006 x206007 x206008 t210 (decide (x206000 ≤ 1))).bind fun t211 => (if t211 = true then (if t210 = true then (if x206002 > x205000 then (some (x208000, x208001, x208002, false)) else (if x206002 > x205001 then (some (x208000, x208001, x208002, false)) else (if x206003 = 0 then (none) else (spec_OutShape.j1 k x205000 x205001 x205002 x206000 x206001 x206002 x206003 x206004 x206005 x206006 x206007 x206008 x208000 x208001 x208002 (wrap64 ((wrap64 (Int.tdiv (wrap64 (x205000 - x206002)) x206003)) + 1)) (wrap64 ((wrap64 (Int.tdiv (wrap64 (x205001 - x206002)) x206003)) + 1)) x205002)))) else (spec_OutShape.j1 k x205000 x205001 x205002 x206000 x206001 x206002 x206003 x206004 x206005 x206006 x206007 x206008 x208000 x208001 x208002 x205000 x205001 x205002)) else (some (x208000, x208001, x208002, false)))))
def spec_OutShape.j1 : Nat → Int → Int → Int → Int → Int → Int → Int → Int → Int → Int → List Int → List Int → Int → Int → Int → Int → Int → Int → Option (Int × Int × Int × Bool)
 | 0, _, _, _, _, _, _, _, _, _, _, _, _, _, _, _, _, _, _ => none
 | k + 1, x205000, x205001, x205002, x206000, x206001, x206002, x206003, x206004, x206005, x206006, x206007, x206008, x208000, x208001, x208002, x213000, x213001, x213002 => if x206000 = 0 then ((spec_SizeOf.f x205000 x205001 x205002).bind fun t213 => (if t213 > 64 then (some (x208000, x208001, x208002, false)) else ((spec_SizeOf.f x205000 x205001 x205002).bind fun t214 => (if (x206007.length : Int) = (wrap64 (x206001 * t214)) then (some (1, 1, x206001, true)) else (some (x208000, x208001, x208002, false)))))) else (if x206000 = 1 then (if (x206007.length : Int) = (wrap64 ((wrap64 ((wrap64 (x206001 * x206002)) * x206002)) * x205002)) then (if (x206007.length : Int) > 600 then (some (x208000, x208001, x208002, false)) else (some (x213000, x213001, x206001, true))) else (some (x208000, x208001, x208002, false))) else (if x206000 = 5 then ((spec_SizeOf.f x205000 x205001 x205002).bind fun t215 => (if t215 > 8 then (some (x208000, x208001, x208002, false)) else ((spec_SizeOf.f x205000 x205001 x205002).bind fun t216 => (some (1, 1, t216, true))))) else (some (x213000, x213001, x213002, true))))
end
def spec_OutShape.f (k : Nat) (a0_0 : Int) (a0_1 : Int) (a0_2 : Int) (a1_0 : Int) (a1_1 : Int) (a1_2 : Int) (a1_3 : Int) (a1_4 : Int) (a1_5 : Int) (a1_6 : Int) (l1_7 : List Int) (l1_8 : List Int) : Option (Int × Int × Int × Bool) := (spec_ShapeOk.f a0_0 a0_1 a0_2).bind fun t208 => (if t208 = true then ((spec_l01In.f a1_0 0 5).bind fun t209 => (spec_OutShape.j0 k (!t209) a0_0 a0_1 a0_2 a1_0 a1_1 a1_2 a1_3 a1_4 a1_5 a1_6 l1_7 l1_8 0 0 0)) else (spec_OutShape.j0 k true a0_0 a0_1 a0_2 a1_0 a1_1 a1_2 a1_3 a1_4 a1_5 a1_6 l1_7 l1_8 0 0 0))
def spec_OutShape.T15 : Bool × List (List Nat × List Nat) := (true, [([], []), ([0], [0]), ([1], [1]), ([2, 1], [2]), ([3], [3]), ([4, 3], [3, 4]), ([5, 3], [3, 5]), ([3], [3]), ([7, 3], [3, 7]), ([3], [3]), ([9, 3, 3], [3, 9]), ([8, 10, 3], [3, 8, 10]), ([6, 11, 3], [3, 6, 11]), ([3, 12], [3, 12])])
def spec_OutShape.B15 : List Nat := [0, 1, 3, 7, 15, 31, 63, 15, 143, 15, 527, 1935, 4095, 8191]
theorem spec_OutShape.tab15 : rtab .any (opsOf Tryz.f26 15) = spec_OutShape.T15 := by kernel_rfl
theorem spec_OutShape.bits15 : waitsOk spec_OutShape.T15.2 spec_OutShape.B15 = true := by kernel_rfl
set_option maxHeartbeats 8000000 in
set_option maxRecDepth 100000 in
theorem spec_OutShape.calls {k : Nat} {a0_0 : Int} {a0_1 : Int} {a0_2 : Int} {a1_0 : Int} {a1_1 : Int} {a1_2 : Int} {a1_3 : Int} {a1_4 : Int} {a1_5 : Int} {a1_6 : Int} {A1_7 : Option Addr} {c1_7 : Nat} {l1_7 : List Int} {A1_8 : Option Addr} {c1_8 : Nat} {l1_8 : List Int} {r1 : Int} {r2 : Int} {r3 : Int} {r4 : Bool} {w : World} (hr1_7 : Kd.C (Kd.int .i64) w A1_7 l1_7.length l1_7) (hc1_7 : l1_7.length ≤ c1_7) (hr1_8 : Kd.C (Kd.int .i64) w A1_8 l1_8.length l1_8) (hc1_8 : l1_8.length ≤ c1_8) (h : spec_OutShape.f k a0_0 a0_1 a0_2 a1_0 a1_1 a1_2 a1_3 a1_4 a1_5 a1_6 l1_7 l1_8 = some (r1, r2, r3, r4)) :
  Calls Tryz.prog 26 #[.agg #[.int .i64 a0_0, .int .i64 a0_1, .int .i64 a0_2], .agg #[.int .i64 a1_0, .int .i64 a1_1, .int .i64 a1_2, .int .i64 a1_3, .int .i64 a1_4, .int .i64 a1_5, .int .i64 a1_6, .slice A1_7 l1_7.length c1_7, .slice A1_8 l1_8.length c1_8]] w fun e w' => e = .returned (.tuple #[.agg #[.int .i64 r1, .int .i64 r2, .int .i64 r3], .bool r4]) ∧ Below w.heap.size w w' := by
 have hu23 := Tryz.underlying23; have hu55 := Tryz.underlying55; have HR1_7 := Aside0.mk hr1_7; have HC1_7 := Aside0.mk hc1_7; clear hr1_7 hc1_7; have HR1_8 := Aside0.mk hr1_8; have HC1_8 := Aside0.mk hc1_8; clear hr1_8 hc1_8; have HB := Aside0.mk (Below.refl w.heap.size w); have H : ((spec_ShapeOk.f a0_0 a0_1 a0_2).bind fun t208 => (if t208 = true then ((spec_l01In.f a1_0 0 5).bind fun t209 => (spec_OutShape.j0 k (!t209) a0_0 a0_1 a0_2 a1_0 a1_1 a1_2 a1_3 a1_4 a1_5 a1_6 l1_7 l1_8 0 0 0)) else (spec_OutShape.j0 k true a0_0 a0_1 a0_2 a1_0 a1_1 a1_2 a1_3 a1_4 a1_5 a1_6 l1_7 l1_8 0 0 0))) = some (r1, r2, r3, r4) := h; clear h; have HC3 := Aside0.mk H; clear H
 go_enter Tryz.func26, Tryz.ntmps26
 go_upto_region 2 with (first | ((with_reducible refine gate_dst (N := 2) rfl ?_); (try (refine gate_guard (by rfl) ?_; dsimp only)); refine bz_ 2 ?_; intro gb204 hg w4 hbox hb; obtain ⟨BK204, GW204, GE204, HB⟩ := nb_ hg hbox HB hb; clear hb hbox hg) | ((with_reducible refine gate_dst (N := 3) rfl ?_); (try (refine gate_guard (by rfl) ?_; dsimp only)); refine bz_ 3 ?_; intro gb205 hg w5 hbox hb; obtain ⟨BK205, GW205, GE205, HB⟩ := nb_ hg hbox HB hb; have NB204_205 := nx_ hg BK204; have NB205_204 := ny_ hg BK204; replace BK204 := bb_ BK204 hb; clear hb hbox hg) | ((with_reducible refine gate_dst (N := 4) rfl ?_); (try (refine gate_guard (by rfl) ?_; dsimp only)); refine bz_ 4 ?_; intro gb206 hg w6 hbox hb; obtain ⟨BK206, GW206, GE206, HB⟩ := nb_ hg hbox HB hb; have NB204_206 := nx_ hg BK204; have NB206_204 := ny_ hg BK204; replace BK204 := bb_ BK204 hb; have NB205_206 := nx_ hg BK205; have NB206_205 := ny_ hg BK205; replace BK205 := bb_ BK205 hb; clear hb hbox hg) | ((with_reducible refine gate_dst (N := 6) rfl ?_); (try (refine gate_guard (by rfl) ?_; dsimp only)); refine bz_ 6 ?_; intro gb207 hg w7 hbox hb; obtain ⟨BK207, GW207, GE207, HB⟩ := nb_ hg hbox HB hb; have NB204_207 := nx_ hg BK204; have NB207_204 := ny_ hg BK204; replace BK204 := bb_ BK204 hb; have NB205_207 := nx_ hg BK205; have NB207_205 := ny_ hg BK205; replace BK205 := bb_ BK205 hb; have NB206_207 := nx_ hg BK206; have NB207_206 := ny_ hg BK206; replace BK206 := bb_ BK206 hb; clear hb hbox hg; have hnb8 := nn_ NB207_204 NB204_207; have hnb9 := nn_ NB207_205 NB205_207; have hnb10 := nn_ NB207_206 NB206_207; have hcz11 := box3_ BK207.out))
 (try simp only [Act.put, List.setIfInBounds_toArray, List.set_cons_zero, List.set_cons_succ])
 go_cut [18] (fun v18 wc => ∃ (kq : Nat) (x18_2 : Bool), v18 = .bool x18_2 ∧ Aside0 (spec_OutShape.j0 kq x18_2 a0_0 a0_1 a0_2 a1_0 a1_1 a1_2 a1_3 a1_4 a1_5 a1_6 l1_7 l1_8 0 0 0 = some (r1, r2, r3, r4)) ∧ Aside0 (kq ≤ k) ∧ Aside0 (wc.heap[gb204]? = some (.cells #[.int .i64 a0_0, .int .i64 a0_1, .int .i64 a0_2] 23 (0, 0))) ∧ Aside0 (wc.heap[gb205]? = some (.cells #[.int .i64 a1_0, .int .i64 a1_1, .int .i64 a1_2, .int .i64 a1_3, .int .i64 a1_4, .int .i64 a1_5, .int .i64 a1_6, (.slice A1_7 l1_7.length c1_7), (.slice A1_8 l1_8.length c1_8)] 55 (0, 0))) ∧ Aside0 (wc.heap[gb206]? = some (.cells #[.int .i64 0, .int .i64 0, .int .i64 0] 23 (0, 0))) ∧ Aside0 (wc.heap[gb207]? = some (.cells #[.int .i64 0, .int .i64 0, .int .i64 0] 23 (0, 0))) ∧ Aside0 (Below w.heap.size w wc))
 case first =>
  have H := HC3.out; clear HC3; obtain ⟨t208, A12, H⟩ := bo_ H; (try dsimp only at H)
  by_cases c13 : t208 = true
  ·
   subst c13; rw [if_pos rfl] at H; obtain ⟨t209, A14, H⟩ := bo_ H; (try dsimp only at H); have H' := Aside0.mk H; clear H; have hnb15 := nn_ NB204_205 NB205_204; have hnb16 := nn_ NB204_206 NB206_204; have hnb17 := nn_ NB204_207 NB207_204; have hcz18 := box3_ BK204.out
   go_wp2_with (first | ((with_reducible refine gc_ 61 ?_); refine gw_ (some 11) Tryz.func61 ?_; (with_reducible refine (spec_ShapeOk.calls A12.out).mono ?_); rintro e w19 ⟨rfl, hb⟩; refine ⟨_, rfl, ?_⟩; replace BK204 := bc_ BK204 hb; replace BK205 := bc_ BK205 hb; replace BK206 := bc_ BK206 hb; replace BK207 := bp_ (#[.int .i64 0, .int .i64 0, .int .i64 0]) BK207 hb; replace HB := hb_ HB hb; (try clear hb); have hnb20 := nn_ NB205_206 NB206_205; have hnb21 := nn_ NB205_207 NB207_205; have hcz22 := box9_ BK205.out) | (go_at_call 57; (with_reducible refine (spec_l01In.calls A14.out).mono ?_); rintro e w' ⟨rfl, ⟨nd, rfl⟩⟩))
   go_meet
   case rel => exact ⟨_, (!t209), rl_, H', ⟨ro_⟩, ⟨bu_ BK204.out⟩, ⟨bu_ BK205.out⟩, ⟨bu_ BK206.out⟩, ⟨bu_ BK207.out⟩, ⟨be_ HB.out⟩⟩
  ·
   replace c13 := fb_ c13; subst c13; replace H := if0_ H
   have H' := Aside0.mk H; clear H; have hnb23 := nn_ NB204_205 NB205_204; have hnb24 := nn_ NB204_206 NB206_204; have hnb25 := nn_ NB204_207 NB207_204; have hcz26 := box3_ BK204.out
   go_wp2_with (first | ((with_reducible refine gc_ 61 ?_); refine gw_ (some 11) Tryz.func61 ?_; (with_reducible refine (spec_ShapeOk.calls A12.out).mono ?_); rintro e w27 ⟨rfl, hb⟩; refine ⟨_, rfl, ?_⟩; replace BK204 := bc_ BK204 hb; replace BK205 := bc_ BK205 hb; replace BK206 := bc_ BK206 hb; replace BK207 := bp_ (#[.int .i64 0, .int .i64 0, .int .i64 0]) BK207 hb; replace HB := hb_ HB hb; (try clear hb)))
   go_meet
   case rel => exact ⟨_, (true), rl_, H', ⟨ro_⟩, ⟨bu_ BK204.out⟩, ⟨bu_ BK205.out⟩, ⟨bu_ BK206.out⟩, ⟨bu_ BK207.out⟩, ⟨be_ HB.out⟩⟩
 case rest =>
  clear HC3; (try clear c1); (try clear c2); (try clear p2); (try clear c6); (try clear c8); (try clear c9); (try clear c10); (try clear c13); (try clear c15); (try clear c16); (try clear c17); (try clear c20); (try clear c21); (try clear c23); (try clear c24); (try clear c25); (try clear c26); (try clear hcz11); (try clear hcz18); (try clear hcz22); (try clear hcz26); obtain ⟨kq, x18_2, rfl, HA, HJ2, BK204, BK205, BK206, BK207, HB⟩ := hcut
  cases kq with
  | zero => exact absurd HA.out (by simp [spec_OutShape.j0])
  | succ kj2 =>
   have H := HA.out; clear HA; simp only [spec_OutShape.j0] at H
   by_cases c28 : x18_2 = true
   ·
    subst c28; rw [if_pos rfl] at H; simp only [Option.some.injEq, Prod.mk.injEq] at H; obtain ⟨rfl, rfl, rfl, rfl⟩ := H; have hnb29 := nn_ NB207_204 NB204_207; have hnb30 := nn_ NB207_205 NB205_207; have hnb31 := nn_ NB207_206 NB206_207; have hcz32 := box3_ BK207.out; have hnb33 := nn_ NB206_204 NB204_206; have hnb34 := nn_ NB206_205 NB205_206; have hcz35 := box3_ BK206.out
    go_wp2
    refine bodyPost_ret (results_ct rfl _ _ gb206 23 #[.int .i64 0, .int .i64 0, .int .i64 0] (0, 0) _ rfl (bq_ BK206.out) Tryz.underlying23 rfl (by kernel_rfl)) rfl ?_; exact rt_ HB.out
   ·
    replace c28 := fb_ c28; subst c28; replace H := if0_ H
    obtain ⟨t210, A36, H⟩ := bo_ H; (try dsimp only at H); obtain ⟨t211, A37, H⟩ := bo_ H; (try dsimp only at H)
    by_cases c38 : t211 = true
    ·
     subst c38; rw [if_pos rfl] at H; have HC39 := Aside0.mk H; clear H; have hnb40 := nn_ NB205_204 NB204_205; have hnb41 := nn_ NB205_206 NB206_205; have hnb42 := nn_ NB205_207 NB207_205; have hcz43 := box9_ BK205.out
     go_upto_if 32 with (first | ((with_reducible refine gc_ 57 ?_); refine gw_ (some 22) Tryz.func57 ?_; (with_reducible refine (spec_l01In.calls A36.out).mono ?_); rintro e w' ⟨rfl, ⟨nd, rfl⟩⟩; refine ⟨_, rfl, ?_⟩; (try (rw [drewN_self wc]; generalize hq_ : World.drewN wc _ = wc; replace BK204 := Aside0.mk (blk_at hq_ BK204.out); replace BK205 := Aside0.mk (blk_at hq_ BK205.out); replace BK206 := Aside0.mk (blk_at hq_ BK206.out); replace BK207 := Aside0.mk (blk_at hq_ BK207.out); replace HB := Aside0.mk (below_at hq_ HB.out); clear hq_; have hcz43 := box9_ BK205.out))) | ((with_reducible refine gc_ 62 ?_); refine gw_ (some 28) Tryz.func62 ?_; (with_reducible refine (spec_l03Plain.calls ?_ ?_ ?_ ?_ A37.out).mono ?_); exact cu_ HR1_7.out HB.out; exact HC1_7.out; exact cu_ HR1_8.out HB.out; exact HC1_8.out; rintro e w44 ⟨rfl, hb⟩; refine ⟨_, rfl, ?_⟩; replace BK204 := bb_ BK204 hb; replace BK205 := bb_ BK205 hb; replace BK206 := bb_ BK206 hb; replace BK207 := bb_ BK207 hb; replace HB := hb_ HB hb; (try clear hb); have hnb45 := nn_ NB204_206 NB206_204; have hnb46 := nn_ NB204_207 NB207_204; have hcz47 := box3_ BK204.out) | ((with_reducible refine gate_dst (N := 8) rfl ?_); (try (refine gate_guard (by rfl) ?_; dsimp only)); refine bz_ 8 ?_; intro gb212 hg w48 hbox hb; obtain ⟨BK212, GW212, GE212, HB⟩ := nb_ hg hbox HB hb; have NB204_212 := nx_ hg BK204; have NB212_204 := ny_ hg BK204; replace BK204 := bb_ BK204 hb; have NB205_212 := nx_ hg BK205; have NB212_205 := ny_ hg BK205; replace BK205 := bb_ BK205 hb; have NB206_212 := nx_ hg BK206; have NB212_206 := ny_ hg BK206; replace BK206 := bb_ BK206 hb; have NB207_212 := nx_ hg BK207; have NB212_207 := ny_ hg BK207; replace BK207 := bb_ BK207 hb; clear hb hbox hg; have hnb49 := nn_ NB212_204 NB204_212; have hnb50 := nn_ NB212_205 NB205_212; have hnb51 := nn_ NB212_206 NB206_212; have hnb52 := nn_ NB212_207 NB207_212; have hcz53 := box3_ BK212.out))
     (try simp only [Act.put, List.setIfInBounds_toArray, List.set_cons_zero, List.set_cons_succ])
     go_cut [] (fun wc => ∃ (kq : Nat) (x207000_38 : Int) (x207001_38 : Int) (x207002_38 : Int) (x213000_38 : Int) (x213001_38 : Int), Aside0 (spec_OutShape.j1 kq a0_0 a0_1 a0_2 a1_0 a1_1 a1_2 a1_3 a1_4 a1_5 a1_6 l1_7 l1_8 0 0 0 x213000_38 x213001_38 a0_2 = some (r1, r2, r3, r4)) ∧ Aside0 (kq ≤ kj2) ∧ Aside0 (wc.heap[gb204]? = some (.cells #[.int .i64 a0_0, .int .i64 a0_1, .int .i64 a0_2] 23 (0, 0))) ∧ Aside0 (wc.heap[gb205]? = some (.cells #[.int .i64 a1_0, .int .i64 a1_1, .int .i64 a1_2, .int .i64 a1_3, .int .i64 a1_4, .int .i64 a1_5, .int .i64 a1_6, (.slice A1_7 l1_7.length c1_7), (.slice A1_8 l1_8.length c1_8)] 55 (0, 0))) ∧ Aside0 (wc.heap[gb206]? = some (.cells #[.int .i64 x207000_38, .int .i64 x207001_38, .int .i64 x207002_38] 23 (0, 0))) ∧ Aside0 (wc.heap[gb207]? = some (.cells #[.int .i64 0, .int .i64 0, .int .i64 0] 23 (0, 0))) ∧ Aside0 (wc.heap[gb212]? = some (.cells #[.int .i64 x213000_38, .int .i64 x213001_38, .int .i64 a0_2] 23 (0, 0))) ∧ Aside0 (Below w.heap.size w wc))
     case first =>
      have H := HC39.out; clear HC39
      by_cases c54 : t210 = true
      ·
       subst c54; rw [if_pos rfl] at H
       by_cases c55 : a1_2 > a0_0
       ·
        rw [if_pos c55] at H; have c55b0 : decide (a0_0 < a1_2) = true := dt_ c55; clear c55; (first | rw [c55b0] | (simp only [i64_w, i32_w]; rw [c55b0]) | skip); simp only [Option.some.injEq, Prod.mk.injEq] at H; obtain ⟨rfl, rfl, rfl, rfl⟩ := H; have hnb56 := nn_ NB205_204 NB204_205; have hnb57 := nn_ NB205_206 NB206_205; have hnb58 := nn_ NB205_207 NB207_205; have hnb59 := nn_ NB205_212 NB212_205; have hcz60 := box9_ BK205.out; have hnb61 := nn_ NB204_206 NB206_204; have hnb62 := nn_ NB204_207 NB207_204; have hnb63 := nn_ NB204_212 NB212_204; have hcz64 := box3_ BK204.out; have hnb65 := nn_ NB207_206 NB206_207; have hnb66 := nn_ NB207_212 NB212_207; have hcz67 := box3_ BK207.out; have hnb68 := nn_ NB206_212 NB212_206; have hcz69 := box3_ BK206.out
        go_wp2
        refine bodyPost_ret (results_ct rfl _ _ gb206 23 #[.int .i64 0, .int .i64 0, .int .i64 0] (0, 0) _ rfl (bq_ BK206.out) Tryz.underlying23 rfl (by kernel_rfl)) rfl ?_; exact rt_ HB.out
       ·
        rw [if_neg c55] at H; have c55b0 : decide (a0_0 < a1_2) = false := df_ c55; clear c55; (first | rw [c55b0] | (simp only [i64_w, i32_w]; rw [c55b0]) | skip)
        by_cases c70 : a1_2 > a0_1
        ·
         rw [if_pos c70] at H; have c70b0 : decide (a0_1 < a1_2) = true := dt_ c70; clear c70; simp only [Option.some.injEq, Prod.mk.injEq] at H; obtain ⟨rfl, rfl, rfl, rfl⟩ := H; have hnb71 := nn_ NB205_204 NB204_205; have hnb72 := nn_ NB205_206 NB206_205; have hnb73 := nn_ NB205_207 NB207_205; have hnb74 := nn_ NB205_212 NB212_205; have hcz75 := box9_ BK205.out; have hnb76 := nn_ NB204_206 NB206_204; have hnb77 := nn_ NB204_207 NB207_204; have hnb78 := nn_ NB204_212 NB212_204; have hcz79 := box3_ BK204.out; have hnb80 := nn_ NB207_206 NB206_207; have hnb81 := nn_ NB207_212 NB212_207; have hcz82 := box3_ BK207.out; have hnb83 := nn_ NB206_212 NB212_206; have hcz84 := box3_ BK206.out
         go_wp2
         refine bodyPost_ret (results_ct rfl _ _ gb206 23 #[.int .i64 0, .int .i64 0, .int .i64 0] (0, 0) _ rfl (bq_ BK206.out) Tryz.underlying23 rfl (by kernel_rfl)) rfl ?_; exact rt_ HB.out
        ·
         rw [if_neg c70] at H; have c70b0 : decide (a0_1 < a1_2) = false := df_ c70; clear c70
         by_cases c85 : a1_3 = 0
         ·
          rw [if_pos c85] at H; exact absurd H (by simp)
         ·
          rw [if_neg c85] at H; have c85b0 : (a1_3 == 0) = false := eq0_ c85; have c85b1 : (a1_3 != 0) = true := ne1_ c85; have H' := Aside0.mk H; clear H; have hnb86 := nn_ NB205_204 NB204_205; have hnb87 := nn_ NB205_206 NB206_205; have hnb88 := nn_ NB205_207 NB207_205; have hnb89 := nn_ NB205_212 NB212_205; have hcz90 := box9_ BK205.out; have hnb91 := nn_ NB204_206 NB206_204; have hnb92 := nn_ NB204_207 NB207_204; have hnb93 := nn_ NB204_212 NB212_204; have hcz94 := box3_ BK204.out; have hnb95 := nn_ NB212_206 NB206_212; have hnb96 := nn_ NB212_207 NB207_212; have hcz97 := box3_ BK212.out
          go_wp2
          go_meet
          case rel => exact ⟨_, (0), (0), (0), (wrap64 ((wrap64 (Int.tdiv (wrap64 (a0_0 - a1_2)) a1_3)) + 1)), (wrap64 ((wrap64 (Int.tdiv (wrap64 (a0_1 - a1_2)) a1_3)) + 1)), H', ⟨by have := HJ2.out; first | omega | exact Nat.le_refl _⟩, ⟨bf_ BK204.out⟩, ⟨bf_ BK205.out⟩, ⟨bf_ BK206.out⟩, ⟨bf_ BK207.out⟩, ⟨bq_ BK212.out⟩, ⟨be_ HB.out⟩⟩
      ·
       replace c54 := fb_ c54; subst c54; replace H := if0_ H
       have H' := Aside0.mk H; clear H
       go_wp2
       go_meet
       case rel => exact ⟨_, (0), (0), (0), (a0_0), (a0_1), H', ⟨by have := HJ2.out; first | omega | exact Nat.le_refl _⟩, ⟨bf_ BK204.out⟩, ⟨bf_ BK205.out⟩, ⟨bf_ BK206.out⟩, ⟨bf_ BK207.out⟩, ⟨bq_ BK212.out⟩, ⟨be_ HB.out⟩⟩
     case rest =>
      clear HC39; (try clear c1); (try clear c2); (try clear p2); (try clear c3); (try clear c4); (try clear c5); (try clear c6); (try clear p6); (try clear c7); (try clear c8); (try clear c9); (try clear c10); (try clear c13); (try clear c15); (try clear c16); (try clear c17); (try clear c20); (try clear c21); (try clear c23); (try clear c24); (try clear c25); (try clear c26); (try clear c28); (try clear c29); (try clear c30); (try clear c31); (try clear c33); (try clear c34); (try clear c38); (try clear c40); (try clear c41); (try clear c42); (try clear c45); (try clear c46); (try clear c49); (try clear c50); (try clear c51); (try clear c52); (try clear c54); (try clear c55); (try clear c55b0); (try clear c56); (try clear c57); (try clear c58); (try clear c59); (try clear c61); (try clear c62); (try clear c63); (try clear p64); (try clear c65); (try clear c66); (try clear c68); (try clear c70); (try clear c70b0); (try clear c71); (try clear c72); (try clear c73); (try clear c74); (try clear c76); (try clear c77); (try clear c78); (try clear c80); (try clear c81); (try clear c83); (try clear c85); (try clear c85b0); (try clear c85b1); (try clear c86); (try clear c87); (try clear c88); (try clear c89); (try clear c91); (try clear c92); (try clear c93); (try clear c95); (try clear c96); (try clear hcz11); (try clear hcz18); (try clear hcz22); (try clear hcz26); (try clear hcz32); (try clear hcz35); (try clear hcz43); (try clear hcz47); (try clear hcz53); (try clear hcz60); (try clear hcz64); (try clear hcz67); (try clear hcz69); (try clear hcz75); (try clear hcz79); (try clear hcz82); (try clear hcz84); (try clear hcz90); (try clear hcz94); (try clear hcz97); (try clear p2); obtain ⟨kq, x207000_38, x207001_38, x207002_38, x213000_38, x213001_38, HA, HJ38, BK204, BK205, BK206, BK207, BK212, HB⟩ := hcut
      cases kq with
      | zero => exact absurd HA.out (by simp [spec_OutShape.j1])
      | succ kj38 =>
       have H := HA.out; clear HA; simp only [spec_OutShape.j1] at H
       by_cases c98 : a1_0 = 0
       ·
        rw [if_pos c98] at H; have c98b0 : (a1_0 == 0) = true := eq1_ c98; have c98b1 : (a1_0 != 0) = false := ne0_ c98; clear c98; obtain ⟨t213, A99, H⟩ := bo_ H; (try dsimp only at H)
        by_cases c100 : t213 > 64
        ·
         rw [if_pos c100] at H; have c100b0 : decide (64 < t213) = true := dt_ c100; clear c100; simp only [Option.some.injEq, Prod.mk.injEq] at H; obtain ⟨rfl, rfl, rfl, rfl⟩ := H; have hnb101 := nn_ NB205_204 NB204_205; have hnb102 := nn_ NB205_206 NB206_205; have hnb103 := nn_ NB205_207 NB207_205; have hnb104 := nn_ NB205_212 NB212_205; have hcz105 := box9_ BK205.out
         try go_wp2
         replace BK204 := Aside0.mk (blk_drew BK204.out); replace BK205 := Aside0.mk (blk_drew BK205.out); replace BK206 := Aside0.mk (blk_drew BK206.out); replace BK207 := Aside0.mk (blk_drew BK207.out); replace BK212 := Aside0.mk (blk_drew BK212.out); replace HB := Aside0.mk (below_drew1 HB.out); refine sta1_ 14 (cb_ BK204) (fun hHeld => ?_); refine with_tabW spec_OutShape.tab15 spec_OutShape.bits15 (fun HT_ HW_ => ?_); generalize wc.drew = w106 at BK204 BK205 BK206 BK207 BK212 HB hHeld ⊢; refine tv_ 0 14 1 ?_; refine one_ (i := 1) (N := some 71) (bl_ 14 3) rfl rfl (one_of HT_.out (by kernel_rfl)) (by decide) (fun K hK => ?_); refine gv_ Tryz.func60 ?_
         (with_reducible refine (spec_SizeOf.calls A99.out).mono ?_)
         rintro e w107 ⟨rfl, hb⟩; refine ⟨_, rfl, ?_⟩; replace BK204 := bb_ BK204 hb; replace BK205 := bb_ BK205 hb; replace BK206 := bb_ BK206 hb; replace BK207 := bb_ BK207 hb; replace BK212 := bb_ BK212 hb; replace HB := hb_ HB hb; (try clear hb); refine hK.out _ _ (cb_ BK204) (fun hHeld => ?_); clear hK K; refine nm_ 71 (h := ?_); refine pv_ 2 14 7 ?_; refine pv_ 3 14 15 ?_; refine pw_ 4 14 31 ?_; refine pw_ 5 14 63 ?_; refine pw_ 6 14 127 ?_; refine pw_ 7 14 255 ?_; refine pw_ 8 14 511 ?_; refine pw_ 9 14 1023 ?_; refine pw_ 10 14 2047 ?_; refine pw_ 11 14 4095 ?_; refine pw_ 12 14 8191 ?_; refine pv_ 13 14 16383 ?_; refine done_ (done_of HT_.out (by kernel_rfl)) ?_; have hnb108 := nn_ NB207_204 NB204_207; have hnb109 := nn_ NB207_206 NB206_207; have hnb110 := nn_ NB207_212 NB212_207; have hcz111 := box3_ BK207.out; have hnb112 := nn_ NB206_204 NB204_206; have hnb113 := nn_ NB206_212 NB212_206; have hcz114 := box3_ BK206.out
         try go_wp2
         refine bodyPost_ret (results_ct rfl _ _ gb206 23 #[.int .i64 0, .int .i64 0, .int .i64 0] (0, 0) _ rfl (bq_ BK206.out) Tryz.underlying23 rfl (by kernel_rfl)) rfl ?_; exact rt_ HB.out
        ·
         rw [if_neg c100] at H; have c100b0 : decide (64 < t213) = false := df_ c100; clear c100; obtain ⟨t214, A115, H⟩ := bo_ H; (try dsimp only at H)
         by_cases c116 : (l1_7.length : Int) = (wrap64 (a1_1 * t214))
         ·
          rw [if_pos c116] at H; have c116b0 : ((l1_7.length : Int) == (wrap64 (a1_1 * t214))) = true := eq1_ c116; have c116b1 : ((l1_7.length : Int) != (wrap64 (a1_1 * t214))) = false := ne0_ c116; clear c116; simp only [Option.some.injEq, Prod.mk.injEq] at H; obtain ⟨rfl, rfl, rfl, rfl⟩ := H; have hnb117 := nn_ NB205_204 NB204_205; have hnb118 := nn_ NB205_206 NB206_205; have hnb119 := nn_ NB205_207 NB207_205; have hnb120 := nn_ NB205_212 NB212_205; have hcz121 := box9_ BK205.out
          try go_wp2
          replace BK204 := Aside0.mk (blk_drew BK204.out); replace BK205 := Aside0.mk (blk_drew BK205.out); replace BK206 := Aside0.mk (blk_drew BK206.out); replace BK207 := Aside0.mk (blk_drew BK207.out); replace BK212 := Aside0.mk (blk_drew BK212.out); replace HB := Aside0.mk (below_drew1 HB.out); refine sta2_ 14 (cb_ BK204) (cb_ BK205) (fun hHeld => ?_); refine with_tabW spec_OutShape.tab15 spec_OutShape.bits15 (fun HT_ HW_ => ?_); generalize wc.drew = w122 at BK204 BK205 BK206 BK207 BK212 HB hHeld ⊢; refine tv_ 0 14 1 ?_; refine one_ (i := 1) (N := some 71) (bl_ 14 3) rfl rfl (one_of HT_.out (by kernel_rfl)) (by decide) (fun K hK => ?_); refine gv_ Tryz.func60 ?_
          (with_reducible refine (spec_SizeOf.calls A99.out).mono ?_)
          rintro e w123 ⟨rfl, hb⟩; refine ⟨_, rfl, ?_⟩; replace BK204 := bb_ BK204 hb; replace BK205 := bb_ BK205 hb; replace BK206 := bb_ BK206 hb; replace BK207 := bb_ BK207 hb; replace BK212 := bb_ BK212 hb; replace HB := hb_ HB hb; (try clear hb); refine hK.out _ _ ⟨cb_ BK204, cb_ BK205⟩ (fun hHeld => ?_); clear hK K; refine nm_ 71 (h := ?_); refine pv_ 2 14 7 ?_; refine pv_ 3 14 15 ?_; refine pv_ 4 14 31 ?_; refine pv_ 7 14 159 ?_; refine tv_ 5 14 191 ?_; refine pv_ 6 14 255 ?_; refine tv_ 8 14 511 ?_; refine tv_ 9 14 1023 ?_; refine one_ (i := 10) (N := some 80) (bl_ 14 2047) rfl rfl (one_of HT_.out (by kernel_rfl)) (by decide) (fun K hK => ?_); refine gv_ Tryz.func60 ?_
          (with_reducible refine (spec_SizeOf.calls A115.out).mono ?_)
          rintro e w124 ⟨rfl, hb⟩; refine ⟨_, rfl, ?_⟩; replace BK204 := bb_ BK204 hb; replace BK205 := bb_ BK205 hb; replace BK206 := bb_ BK206 hb; replace BK207 := bb_ BK207 hb; replace BK212 := bb_ BK212 hb; replace HB := hb_ HB hb; (try clear hb); refine hK.out _ _ ⟨cb_ BK204, cb_ BK205⟩ (fun hHeld => ?_); clear hK K; refine nm_ 80 (h := ?_); refine pv_ 11 14 4095 ?_; refine pv_ 12 14 8191 ?_; refine pv_ 13 14 16383 ?_; refine done_ (done_of HT_.out (by kernel_rfl)) ?_; have hcz125 := box9_ BK205.out; have hnb126 := nn_ NB206_204 NB204_206; have hnb127 := nn_ NB206_207 NB207_206; have hnb128 := nn_ NB206_212 NB212_206; have hcz129 := box3_ BK206.out
          try go_wp2
          refine bodyPost_ret (results_ct rfl _ _ gb206 23 #[.int .i64 1, .int .i64 1, .int .i64 a1_1] (0, 0) _ rfl (bq_ BK206.out) Tryz.underlying23 rfl (by kernel_rfl)) rfl ?_; exact rt_ HB.out
         ·
          rw [if_neg c116] at H; have c116b0 : ((l1_7.length : Int) == (wrap64 (a1_1 * t214))) = false := eq0_ c116; have c116b1 : ((l1_7.length : Int) != (wrap64 (a1_1 * t214))) = true := ne1_ c116; simp only [Option.some.injEq, Prod.mk.injEq] at H; obtain ⟨rfl, rfl, rfl, rfl⟩ := H; have hnb130 := nn_ NB205_204 NB204_205; have hnb131 := nn_ NB205_206 NB206_205; have hnb132 := nn_ NB205_207 NB207_205; have hnb133 := nn_ NB205_212 NB212_205; have hcz134 := box9_ BK205.out
          try go_wp2
          replace BK204 := Aside0.mk (blk_drew BK204.out); replace BK205 := Aside0.mk (blk_drew BK205.out); replace BK206 := Aside0.mk (blk_drew BK206.out); replace BK207 := Aside0.mk (blk_drew BK207.out); replace BK212 := Aside0.mk (blk_drew BK212.out); replace HB := Aside0.mk (below_drew1 HB.out); refine sta2_ 14 (cb_ BK204) (cb_ BK205) (fun hHeld => ?_); refine with_tabW spec_OutShape.tab15 spec_OutShape.bits15 (fun HT_ HW_ => ?_); generalize wc.drew = w135 at BK204 BK205 BK206 BK207 BK212 HB hHeld ⊢; refine tv_ 0 14 1 ?_; refine one_ (i := 1) (N := some 71) (bl_ 14 3) rfl rfl (one_of HT_.out (by kernel_rfl)) (by decide) (fun K hK => ?_); refine gv_ Tryz.func60 ?_
          (with_reducible refine (spec_SizeOf.calls A99.out).mono ?_)
          rintro e w136 ⟨rfl, hb⟩; refine ⟨_, rfl, ?_⟩; replace BK204 := bb_ BK204 hb; replace BK205 := bb_ BK205 hb; replace BK206 := bb_ BK206 hb; replace BK207 := bb_ BK207 hb; replace BK212 := bb_ BK212 hb; replace HB := hb_ HB hb; (try clear hb); refine hK.out _ _ ⟨cb_ BK204, cb_ BK205⟩ (fun hHeld => ?_); clear hK K; refine nm_ 71 (h := ?_); refine pv_ 2 14 7 ?_; refine pv_ 3 14 15 ?_; refine pv_ 4 14 31 ?_; refine pv_ 7 14 159 ?_; refine tv_ 5 14 191 ?_; refine pv_ 6 14 255 ?_; refine tv_ 8 14 511 ?_; refine tv_ 9 14 1023 ?_; refine one_ (i := 10) (N := some 80) (bl_ 14 2047) rfl rfl (one_of HT_.out (by kernel_rfl)) (by decide) (fun K hK => ?_); refine gv_ Tryz.func60 ?_
          (with_reducible refine (spec_SizeOf.calls A115.out).mono ?_)
          rintro e w137 ⟨rfl, hb⟩; refine ⟨_, rfl, ?_⟩; replace BK204 := bb_ BK204 hb; replace BK205 := bb_ BK205 hb; replace BK206 := bb_ BK206 hb; replace BK207 := bb_ BK207 hb; replace BK212 := bb_ BK212 hb; replace HB := hb_ HB hb; (try clear hb); refine hK.out _ _ ⟨cb_ BK204, cb_ BK205⟩ (fun hHeld => ?_); clear hK K; refine nm_ 80 (h := ?_); refine pv_ 11 14 4095 ?_; refine pv_ 12 14 8191 ?_; refine pv_ 13 14 16383 ?_; refine done_ (done_of HT_.out (by kernel_rfl)) ?_; have hnb138 := nn_ NB207_204 NB204_207; have hnb139 := nn_ NB207_206 NB206_207; have hnb140 := nn_ NB207_212 NB212_207; have hcz141 := box3_ BK207.out; have hnb142 := nn_ NB206_204 NB204_206; have hnb143 := nn_ NB206_212 NB212_206; have hcz144 := box3_ BK206.out
          try go_wp2
          refine bodyPost_ret (results_ct rfl _ _ gb206 23 #[.int .i64 0, .int .i64 0, .int .i64 0] (0, 0) _ rfl (bq_ BK206.out) Tryz.underlying23 rfl (by kernel_rfl)) rfl ?_; exact rt_ HB.out
       ·
        rw [if_neg c98] at H; have c98b0 : (a1_0 == 0) = false := eq0_ c98; have c98b1 : (a1_0 != 0) = true := ne1_ c98
        by_cases c145 : a1_0 = 1
        ·
         rw [if_pos c145] at H; have c145b0 : (a1_0 == 1) = true := eq1_ c145; have c145b1 : (a1_0 != 1) = false := ne0_ c145; clear c145
         by_cases c146 : (l1_7.length : Int) = (wrap64 ((wrap64 ((wrap64 (a1_1 * a1_2)) * a1_2)) * a0_2))
         ·
          rw [if_pos c146] at H; have c146b0 : ((l1_7.length : Int) == (wrap64 ((wrap64 ((wrap64 (a1_1 * a1_2)) * a1_2)) * a0_2))) = true := eq1_ c146; have c146b1 : ((l1_7.length : Int) != (wrap64 ((wrap64 ((wrap64 (a1_1 * a1_2)) * a1_2)) * a0_2))) = false := ne0_ c146; clear c146
          by_cases c147 : (l1_7.length : Int) > 600
          ·
           rw [if_pos c147] at H; have c147b0 : decide (600 < (l1_7.length : Int)) = true := dt_ c147; have c147b1 : decide (600 < l1_7.length) = true := decide_eq_true (by omega); clear c147; simp only [Option.some.injEq, Prod.mk.injEq] at H; obtain ⟨rfl, rfl, rfl, rfl⟩ := H; have hnb148 := nn_ NB205_204 NB204_205; have hnb149 := nn_ NB205_206 NB206_205; have hnb150 := nn_ NB205_207 NB207_205; have hnb151 := nn_ NB205_212 NB212_205; have hcz152 := box9_ BK205.out; have hnb153 := nn_ NB204_206 NB206_204; have hnb154 := nn_ NB204_207 NB207_204; have hnb155 := nn_ NB204_212 NB212_204; have hcz156 := box3_ BK204.out; have hnb157 := nn_ NB207_206 NB206_207; have hnb158 := nn_ NB207_212 NB212_207; have hcz159 := box3_ BK207.out; have hnb160 := nn_ NB206_212 NB212_206; have hcz161 := box3_ BK206.out
           go_wp2
           refine bodyPost_ret (results_ct rfl _ _ gb206 23 #[.int .i64 0, .int .i64 0, .int .i64 0] (0, 0) _ rfl (bq_ BK206.out) Tryz.underlying23 rfl (by kernel_rfl)) rfl ?_; exact rt_ HB.out
          ·
           rw [if_neg c147] at H; have c147b0 : decide (600 < (l1_7.length : Int)) = false := df_ c147; have c147b1 : decide (600 < l1_7.length) = false := decide_eq_false (by omega); clear c147; simp only [Option.some.injEq, Prod.mk.injEq] at H; obtain ⟨rfl, rfl, rfl, rfl⟩ := H; have hnb162 := nn_ NB205_204 NB204_205; have hnb163 := nn_ NB205_206 NB206_205; have hnb164 := nn_ NB205_207 NB207_205; have hnb165 := nn_ NB205_212 NB212_205; have hcz166 := box9_ BK205.out; have hnb167 := nn_ NB204_206 NB206_204; have hnb168 := nn_ NB204_207 NB207_204; have hnb169 := nn_ NB204_212 NB212_204; have hcz170 := box3_ BK204.out; have hnb171 := nn_ NB212_206 NB206_212; have hnb172 := nn_ NB212_207 NB207_212; have hcz173 := box3_ BK212.out; have hnb174 := nn_ NB206_207 NB207_206; have hcz175 := box3_ BK206.out
           go_wp2
           refine bodyPost_ret (results_ct rfl _ _ gb206 23 #[.int .i64 x213000_38, .int .i64 x213001_38, .int .i64 a1_1] (0, 0) _ rfl (bq_ BK206.out) Tryz.underlying23 rfl (by kernel_rfl)) rfl ?_; exact rt_ HB.out
         ·
          rw [if_neg c146] at H; have c146b0 : ((l1_7.length : Int) == (wrap64 ((wrap64 ((wrap64 (a1_1 * a1_2)) * a1_2)) * a0_2))) = false := eq0_ c146; have c146b1 : ((l1_7.length : Int) != (wrap64 ((wrap64 ((wrap64 (a1_1 * a1_2)) * a1_2)) * a0_2))) = true := ne1_ c146; simp only [Option.some.injEq, Prod.mk.injEq] at H; obtain ⟨rfl, rfl, rfl, rfl⟩ := H; have hnb176 := nn_ NB205_204 NB204_205; have hnb177 := nn_ NB205_206 NB206_205; have hnb178 := nn_ NB205_207 NB207_205; have hnb179 := nn_ NB205_212 NB212_205; have hcz180 := box9_ BK205.out; have hnb181 := nn_ NB204_206 NB206_204; have hnb182 := nn_ NB204_207 NB207_204; have hnb183 := nn_ NB204_212 NB212_204; have hcz184 := box3_ BK204.out; have hnb185 := nn_ NB207_206 NB206_207; have hnb186 := nn_ NB207_212 NB212_207; have hcz187 := box3_ BK207.out; have hnb188 := nn_ NB206_212 NB212_206; have hcz189 := box3_ BK206.out
          go_wp2
          refine bodyPost_ret (results_ct rfl _ _ gb206 23 #[.int .i64 0, .int .i64 0, .int .i64 0] (0, 0) _ rfl (bq_ BK206.out) Tryz.underlying23 rfl (by kernel_rfl)) rfl ?_; exact rt_ HB.out
        ·
         rw [if_neg c145] at H; have c145b0 : (a1_0 == 1) = false := eq0_ c145; have c145b1 : (a1_0 != 1) = true := ne1_ c145
         by_cases c190 : a1_0 = 5
         ·
          rw [if_pos c190] at H; have c190b0 : (a1_0 == 5) = true := eq1_ c190; have c190b1 : (a1_0 != 5) = false := ne0_ c190; clear c190; obtain ⟨t215, A191, H⟩ := bo_ H; (try dsimp only at H)
          by_cases c192 : t215 > 8
          ·
           rw [if_pos c192] at H; have c192b0 : decide (8 < t215) = true := dt_ c192; clear c192; simp only [Option.some.injEq, Prod.mk.injEq] at H; obtain ⟨rfl, rfl, rfl, rfl⟩ := H; have hnb193 := nn_ NB205_204 NB204_205; have hnb194 := nn_ NB205_206 NB206_205; have hnb195 := nn_ NB205_207 NB207_205; have hnb196 := nn_ NB205_212 NB212_205; have hcz197 := box9_ BK205.out; have hnb198 := nn_ NB204_206 NB206_204; have hnb199 := nn_ NB204_207 NB207_204; have hnb200 := nn_ NB204_212 NB212_204; have hcz201 := box3_ BK204.out
           go_wp2_with (first | ((with_reducible refine gc_ 60 ?_); refine gw_ (some 118) Tryz.func60 ?_; (with_reducible refine (spec_SizeOf.calls A191.out).mono ?_); rintro e w202 ⟨rfl, hb⟩; refine ⟨_, rfl, ?_⟩; replace BK204 := bb_ BK204 hb; replace BK205 := bb_ BK205 hb; replace BK206 := bb_ BK206 hb; replace BK207 := bb_ BK207 hb; replace BK212 := bb_ BK212 hb; replace HB := hb_ HB hb; (try clear hb); have hnb203 := nn_ NB207_206 NB206_207; have hnb204 := nn_ NB207_212 NB212_207; have hcz205 := box3_ BK207.out; have hnb206 := nn_ NB206_212 NB212_206; have hcz207 := box3_ BK206.out))
           refine bodyPost_ret (results_ct rfl _ _ gb206 23 #[.int .i64 0, .int .i64 0, .int .i64 0] (0, 0) _ rfl (bq_ BK206.out) Tryz.underlying23 rfl (by kernel_rfl)) rfl ?_; exact rt_ HB.out
          ·
           rw [if_neg c192] at H; have c192b0 : decide (8 < t215) = false := df_ c192; clear c192; obtain ⟨t216, A208, H⟩ := bo_ H; (try dsimp only at H); simp only [Option.some.injEq, Prod.mk.injEq] at H; obtain ⟨rfl, rfl, rfl, rfl⟩ := H; have hnb209 := nn_ NB205_204 NB204_205; have hnb210 := nn_ NB205_206 NB206_205; have hnb211 := nn_ NB205_207 NB207_205; have hnb212 := nn_ NB205_212 NB212_205; have hcz213 := box9_ BK205.out; have hnb214 := nn_ NB204_206 NB206_204; have hnb215 := nn_ NB204_207 NB207_204; have hnb216 := nn_ NB204_212 NB212_204; have hcz217 := box3_ BK204.out
           go_wp2_with (first | ((with_reducible refine gc_ 60 ?_); refine gw_ (some 118) Tryz.func60 ?_; (with_reducible refine (spec_SizeOf.calls A191.out).mono ?_); rintro e w218 ⟨rfl, hb⟩; refine ⟨_, rfl, ?_⟩; replace BK204 := bb_ BK204 hb; replace BK205 := bb_ BK205 hb; replace BK206 := bb_ BK206 hb; replace BK207 := bb_ BK207 hb; replace BK212 := bb_ BK212 hb; replace HB := hb_ HB hb; (try clear hb); have hcz219 := box3_ BK204.out) | ((with_reducible refine gc_ 60 ?_); refine gw_ (some 122) Tryz.func60 ?_; (with_reducible refine (spec_SizeOf.calls A208.out).mono ?_); rintro e w220 ⟨rfl, hb⟩; refine ⟨_, rfl, ?_⟩; replace BK204 := bb_ BK204 hb; replace BK205 := bb_ BK205 hb; replace BK206 := bb_ BK206 hb; replace BK207 := bb_ BK207 hb; replace BK212 := bb_ BK212 hb; replace HB := hb_ HB hb; (try clear hb); have hnb221 := nn_ NB206_207 NB207_206; have hnb222 := nn_ NB206_212 NB212_206; have hcz223 := box3_ BK206.out))
           refine bodyPost_ret (results_ct rfl _ _ gb206 23 #[.int .i64 1, .int .i64 1, .int .i64 t216] (0, 0) _ rfl (bq_ BK206.out) Tryz.underlying23 rfl (by kernel_rfl)) rfl ?_; exact rt_ HB.out
         ·
          rw [if_neg c190] at H; have c190b0 : (a1_0 == 5) = false := eq0_ c190; have c190b1 : (a1_0 != 5) = true := ne1_ c190; simp only [Option.some.injEq, Prod.mk.injEq] at H; obtain ⟨rfl, rfl, rfl, rfl⟩ := H; have hnb224 := nn_ NB205_204 NB204_205; have hnb225 := nn_ NB205_206 NB206_205; have hnb226 := nn_ NB205_207 NB207_205; have hnb227 := nn_ NB205_212 NB212_205; have hcz228 := box9_ BK205.out; have hnb229 := nn_ NB212_204 NB204_212; have hnb230 := nn_ NB212_206 NB206_212; have hnb231 := nn_ NB212_207 NB207_212; have hcz232 := box3_ BK212.out; have hnb233 := nn_ NB206_204 NB204_206; have hnb234 := nn_ NB206_207 NB207_206; have hcz235 := box3_ BK206.out
          go_wp2
          refine bodyPost_ret (results_ct rfl _ _ gb206 23 #[.int .i64 x213000_38, .int .i64 x213001_38, .int .i64 a0_2] (0, 0) _ rfl (bq_ BK206.out) Tryz.underlying23 rfl (by kernel_rfl)) rfl ?_; exact rt_ HB.out
    ·
     replace c38 := fb_ c38; subst c38; replace H := if0_ H
     simp only [Option.some.injEq, Prod.mk.injEq] at H; obtain ⟨rfl, rfl, rfl, rfl⟩ := H; have hnb236 := nn_ NB205_204 NB204_205; have hnb237 := nn_ NB205_206 NB206_205; have hnb238 := nn_ NB205_207 NB207_205; have hcz239 := box9_ BK205.out
     go_wp2_with (first | ((with_reducible refine gc_ 57 ?_); refine gw_ (some 22) Tryz.func57 ?_; (with_reducible refine (spec_l01In.calls A36.out).mono ?_); rintro e w' ⟨rfl, ⟨nd, rfl⟩⟩; refine ⟨_, rfl, ?_⟩; (try (rw [drewN_self wc]; generalize hq_ : World.drewN wc _ = wc; replace BK204 := Aside0.mk (blk_at hq_ BK204.out); replace BK205 := Aside0.mk (blk_at hq_ BK205.out); replace BK206 := Aside0.mk (blk_at hq_ BK206.out); replace BK207 := Aside0.mk (blk_at hq_ BK207.out); replace HB := Aside0.mk (below_at hq_ HB.out); clear hq_; have hcz239 := box9_ BK205.out))) | ((with_reducible refine gc_ 62 ?_); refine gw_ (some 28) Tryz.func62 ?_; (with_reducible refine (spec_l03Plain.calls ?_ ?_ ?_ ?_ A37.out).mono ?_); exact cu_ HR1_7.out HB.out; exact HC1_7.out; exact cu_ HR1_8.out HB.out; exact HC1_8.out; rintro e w240 ⟨rfl, hb⟩; refine ⟨_, rfl, ?_⟩; replace BK204 := bb_ BK204 hb; replace BK205 := bb_ BK205 hb; replace BK206 := bb_ BK206 hb; replace BK207 := bb_ BK207 hb; replace HB := hb_ HB hb; (try clear hb); have hnb241 := nn_ NB207_204 NB204_207; have hnb242 := nn_ NB207_206 NB206_207; have hcz243 := box3_ BK207.out; have hnb244 := nn_ NB206_204 NB204_206; have hcz245 := box3_ BK206.out))
     refine bodyPost_ret (results_ct rfl _ _ gb206 23 #[.int .i64 0, .int .i64 0, .int .i64 0] (0, 0) _ rfl (bq_ BK206.out) Tryz.underlying23 rfl (by kernel_rfl)) rfl ?_; exact rt_ HB.out

mutual
def spec_l04Shapes.j0 : Nat → List (S23) → Bool → Int → Int → Int → List (S55) → Option ((List (S23)) × Bool)
 | 0, _, _, _, _, _, _ => none
 | k + 1, x4, x21, x218000, x218001, x218002, x218003 => if x21 = true then (some (([] : List (S23)), false)) else (spec_l04Shapes.l0 k x4 0 x218000 x218001 x218002 x218003)
def spec_l04Shapes.l0 : Nat → List (S23) → Int → Int → Int → Int → List (S55) → Option ((List (S23)) × Bool)
 | 0, _, _, _, _, _, _ => none
 | k + 1, x4, x5, x218000, x218001, x218002, x218003 => if x5 < (x218003.length : Int) then (if 0 ≤ x5 then (if x5 < (x4.length : Int) then ((spec_OutShape.f k ((rd_T23 x4 x5).f0) ((rd_T23 x4 x5).f1) ((rd_T23 x4 x5).f2) ((rd_T55 x218003 x5).f0) ((rd_T55 x218003 x5).f1) ((rd_T55 x218003 x5).f2) ((rd_T55 x218003 x5).f3) ((rd_T55 x218003 x5).f4) ((rd_T55 x218003 x5).f5) ((rd_T55 x218003 x5).f6) ((rd_T55 x218003 x5).f7) ((rd_T55 x218003 x5).f8)).bind fun bt225 => (if bt225.2.2.2 = true then (if x4.length < 5864062014805 then (spec_l04Shapes.l0 k (x4 ++ [(⟨bt225.1, bt225.2.1, bt225.2.2.1⟩ : S23)]) (wrap64 (x5 + 1)) x218000 x218001 x218002 x218003) else (none)) else (some (([] : List (S23)), false)))) else (none)) else (none)) else (some (x4, true))
end
def spec_l04Shapes.f (k : Nat) (a0_0 : Int) (a0_1 : Int) (a0_2 : Int) (l0_3 : List (S55)) : Option ((List (S23)) × Bool) := (some (([(⟨a0_0, a0_1, a0_2⟩ : S23)] : List (S23)) : List (S23))).bind fun y218 => ((spec_ShapeOk.f a0_0 a0_1 a0_2).bind fun t221 => (if t221 = true then ((spec_l01In.f (l0_3.length : Int) 1 6).bind fun t222 => (spec_l04Shapes.j0 k y218 (!t222) a0_0 a0_1 a0_2 l0_3)) else (spec_l04Shapes.j0 k y218 true a0_0 a0_1 a0_2 l0_3)))
def spec_l04Shapes.T7 : Bool × List (List Nat × List Nat) := (true, [([], []), ([], []), ([0, 1], [0, 1]), ([2], [2]), ([], []), ([4], [4]), ([], []), ([5, 6], [5, 6]), ([7], [7]), ([3, 8], [3, 8]), ([9], [9]), ([10], [10]), ([10], [10]), ([], []), ([13, 11, 9, 0, 1, 2, 3, 4, 5, 6, 7, 8, 9, 10, 11, 13], [11, 13]), ([12, 14, 0, 1, 2, 3, 4, 5, 6, 7, 8, 9, 10, 11, 12, 13, 14], [12])])
def spec_l04Shapes.B7 : List Nat := [0, 0, 3, 7, 0, 16, 0, 112, 240, 511, 1023, 2047, 2047, 0, 12287, 32767]
theorem spec_l04Shapes.tab7 : rtab .any (opsOf Tryz.f63 7) = spec_l04Shapes.T7 := by kernel_rfl
theorem spec_l04Shapes.bits7 : waitsOk spec_l04Shapes.T7.2 spec_l04Shapes.B7 = true := by kernel_rfl
set_option maxHeartbeats 8000000 in
set_option maxRecDepth 100000 in
theorem spec_l04Shapes.calls {k : Nat} {a0_0 : Int} {a0_1 : Int} {a0_2 : Int} {A0_3 : Option Addr} {c0_3 : Nat} {l0_3 : List (S55)} {r1 : List (S23)} {r2 : Bool} {w : World} (hr0_3 : Kd.C k55 w A0_3 l0_3.length l0_3) (hc0_3 : l0_3.length ≤ c0_3) (h : spec_l04Shapes.f k a0_0 a0_1 a0_2 l0_3 = some (r1, r2)) :
  Calls Tryz.prog 63 #[.agg #[.int .i64 a0_0, .int .i64 a0_1, .int .i64 a0_2, .slice A0_3 l0_3.length c0_3]] w fun e w' => ∃ v0_ : Value, e = .returned (.tuple #[v0_, .bool r2]) ∧ Kd.R k23 23 w' w.heap.size (fun _ => True) v0_ r1 ∧ Below w.heap.size w w' := by
 have hu26 := Tryz.underlying26; have hu23 := Tryz.underlying23; have hu55 := Tryz.underlying55; have HR0_3 := Aside0.mk hr0_3; have HC0_3 := Aside0.mk hc0_3; clear hr0_3 hc0_3; have HB := Aside0.mk (Below.refl w.heap.size w); have H : ((some (([(⟨a0_0, a0_1, a0_2⟩ : S23)] : List (S23)) : List (S23))).bind fun y218 => ((spec_ShapeOk.f a0_0 a0_1 a0_2).bind fun t221 => (if t221 = true then ((spec_l01In.f (l0_3.length : Int) 1 6).bind fun t222 => (spec_l04Shapes.j0 k y218 (!t222) a0_0 a0_1 a0_2 l0_3)) else (spec_l04Shapes.j0 k y218 true a0_0 a0_1 a0_2 l0_3)))) = some (r1, r2) := h; clear h; obtain ⟨y218, hy_⟩ : ∃ y_ : List (S23), y_ = (([(⟨a0_0, a0_1, a0_2⟩ : S23)] : List (S23))) := ⟨_, rfl⟩; replace H : ((spec_ShapeOk.f a0_0 a0_1 a0_2).bind fun t221 => (if t221 = true then ((spec_l01In.f (l0_3.length : Int) 1 6).bind fun t222 => (spec_l04Shapes.j0 k y218 (!t222) a0_0 a0_1 a0_2 l0_3)) else (spec_l04Shapes.j0 k y218 true a0_0 a0_1 a0_2 l0_3))) = some (r1, r2) := yh_
 have Ny218 := Aside0.mk hy_; clear hy_; have HC2 := Aside0.mk H; clear H
 go_enter Tryz.func63, Tryz.ntmps63
 go_upto_region 2 with (first | ((with_reducible refine gate_dst (N := 1) rfl ?_); (try (refine gate_guard (by rfl) ?_; dsimp only)); refine bz_ 1 ?_; intro gb217 hg w3 hbox hb; obtain ⟨BK217, GW217, GE217, HB⟩ := nb_ hg hbox HB hb; clear hb hbox hg; have hcz4 := box4_ BK217.out) | ((with_reducible refine gate_dst (N := 10) rfl ?_); (try (refine gate_guard (by rfl) ?_; dsimp only)); refine Kd.R_lit k23 _ 23 ?hg (N := 10) ?hd (xs := ([(⟨a0_0, a0_1, a0_2⟩ : S23)] : List (S23))) (inner := [.int .i64 a0_0, .int .i64 a0_1, .int .i64 a0_2]) (ok := fun _ => True) (okp := fun _ => True) ?hr ?hp (fun _ hk => hk) trivial (Below.refl _ _) (Nat.le_refl _) (by simp) ?_; (case hd => rfl); (case hg => rfl); (case hr => first | (go_simp; done) | (go_simp; rfl)); (case hp => exact (Reps.c3 (show Kd.M k23 _ _ _ (⟨a0_0, a0_1, a0_2⟩ : S23) [.int .i64 a0_0, .int .i64 a0_1, .int .i64 a0_2] from (k23_mkM _ _ _ (⟨a0_0, a0_1, a0_2⟩ : S23) )) (Reps.none _ _))); intro v219 w5 ho6 hb hg_ hnew_; clear hg_ hnew_; (first | rw [← Ny218.out] at ho6 | (simp only [Int.reduceToNat] at ho6; rw [← Ny218.out] at ho6)); have HO220 := Aside0.mk (Kd.R_lower ho6 (below_size (be_ HB.out))); replace BK217 := bb_ BK217 hb; replace HB := hb_ HB hb; clear hb ho6))
 (try simp only [Act.put, List.setIfInBounds_toArray, List.set_cons_zero, List.set_cons_succ])
 go_cut [21] (fun v21 wc => ∃ (kq : Nat) (x21_1 : Bool), v21 = .bool x21_1 ∧ Aside0 (spec_l04Shapes.j0 kq y218 x21_1 a0_0 a0_1 a0_2 l0_3 = some (r1, r2)) ∧ Aside0 (kq ≤ k) ∧ Aside0 (Kd.R k23 23 wc w.heap.size (fun _ => True) v219 y218) ∧ Aside0 (wc.heap[gb217]? = some (.cells #[.int .i64 a0_0, .int .i64 a0_1, .int .i64 a0_2, (.slice A0_3 l0_3.length c0_3)] 26 (0, 0))) ∧ Aside0 (Below w.heap.size w wc))
 case first =>
  have H := HC2.out; clear HC2; obtain ⟨t221, A7, H⟩ := bo_ H; (try dsimp only at H)
  by_cases c8 : t221 = true
  ·
   subst c8; rw [if_pos rfl] at H; obtain ⟨t222, A9, H⟩ := bo_ H; (try dsimp only at H); have H' := Aside0.mk H; clear H; have hcz10 := box4_ BK217.out
   go_wp2_with (first | ((with_reducible refine gc_ 61 ?_); refine gw_ (some 13) Tryz.func61 ?_; (with_reducible refine (spec_ShapeOk.calls A7.out).mono ?_); rintro e w11 ⟨rfl, hb⟩; refine ⟨_, rfl, ?_⟩; replace HO220 := rb_ HO220 hb; replace BK217 := bb_ BK217 hb; replace HB := hb_ HB hb; (try clear hb); have hcz12 := box4_ BK217.out) | (go_at_call 57; (with_reducible refine (spec_l01In.calls A9.out).mono ?_); rintro e w' ⟨rfl, ⟨nd, rfl⟩⟩))
   go_meet
   case rel => exact ⟨_, (!t222), rl_, H', ⟨ro_⟩, ⟨ra_ HO220.out⟩, ⟨bu_ BK217.out⟩, ⟨be_ HB.out⟩⟩
  ·
   replace c8 := fb_ c8; subst c8; replace H := if0_ H
   have H' := Aside0.mk H; clear H; have hcz13 := box4_ BK217.out
   go_wp2_with (first | ((with_reducible refine gc_ 61 ?_); refine gw_ (some 13) Tryz.func61 ?_; (with_reducible refine (spec_ShapeOk.calls A7.out).mono ?_); rintro e w14 ⟨rfl, hb⟩; refine ⟨_, rfl, ?_⟩; replace HO220 := rb_ HO220 hb; replace BK217 := bb_ BK217 hb; replace HB := hb_ HB hb; (try clear hb)))
   go_meet
   case rel => exact ⟨_, (true), rl_, H', ⟨ro_⟩, ⟨ra_ HO220.out⟩, ⟨bu_ BK217.out⟩, ⟨be_ HB.out⟩⟩
 case rest =>
  clear HC2; (try clear p2); (try clear c3); (try clear c6); (try clear c8); (try clear hcz10); (try clear hcz12); (try clear hcz13); (try clear hcz4); obtain ⟨kq, x21_1, rfl, HA, HJ1, HO_4, BK217, HB⟩ := hcut
  cases kq with
  | zero => exact absurd HA.out (by simp [spec_l04Shapes.j0])
  | succ kj1 =>
   have H := HA.out; clear HA; simp only [spec_l04Shapes.j0] at H
   by_cases c15 : x21_1 = true
   ·
    subst c15; rw [if_pos rfl] at H; simp only [Option.some.injEq, Prod.mk.injEq] at H; obtain ⟨rfl, rfl⟩ := H
    go_wp2
    go_ret2
    exact ⟨_, by first | rfl | (simp [errW_none, errW_some] <;> rfl) | (simp [*, errW_none, errW_some] <;> rfl), by first | exact Kd.R_nil _ _ _ _ _ | exact Kd.N_nil _ _ _ _ _ | exact Kd.V_nil _ _ _ _ _ | exact Kd.Q_nil _ _ _ _ _ | exact Kd.S_nil _ _ _ _ _, be_ HB.out⟩
   ·
    replace c15 := fb_ c15; subst c15; replace H := if0_ H
    have H' := Aside0.mk H; clear H
    go_wp2
    go_loopg [4, 5] kj1 (fun kq v4 v5 w' => ∃ (x4_2 : List (S23)) (x5_2 : Int), v5 = .int .i64 x5_2 ∧ Aside0 (spec_l04Shapes.l0 kq x4_2 x5_2 a0_0 a0_1 a0_2 l0_3 = some (r1, r2)) ∧ Aside0 (kq ≤ kj1) ∧ Aside0 (Kd.R k23 23 w' w.heap.size (fun _ => True) v4 x4_2) ∧ Aside0 (w'.heap[gb217]? = some (.cells #[.int .i64 a0_0, .int .i64 a0_1, .int .i64 a0_2, (.slice A0_3 l0_3.length c0_3)] 26 (0, 0))) ∧ Aside0 (Below w.heap.size w w'))
    case atStart => exact ⟨(y218), (0), rl_, H', ⟨Nat.le_refl _⟩, ⟨ra_ HO_4.out⟩, ⟨bu_ BK217.out⟩, ⟨be_ HB.out⟩⟩
    case round =>
     clear H'; (try clear c1); (try clear p2); (try clear c3); (try clear c6); (try clear c8); (try clear c15); (try clear hcz10); (try clear hcz12); (try clear hcz13); (try clear hcz4); (try clear p2); obtain ⟨x4_2, x5_2, rfl, HA, HK2, HO_4, BK217, HB⟩ := hrel
     cases gk with
     | zero => exact absurd HA.out (by simp [spec_l04Shapes.l0])
     | succ k2 =>
      have H := HA.out; clear HA; simp only [spec_l04Shapes.l0] at H
      by_cases c16 : x5_2 < (l0_3.length : Int)
      ·
       rw [if_pos c16] at H; have c16b0 : decide (x5_2 < (l0_3.length : Int)) = true := dt_ c16; clear c16
       by_cases c17 : 0 ≤ x5_2
       ·
        rw [if_pos c17] at H; have c17b0 : decide (0 ≤ x5_2) = true := dt_ c17; clear c17
        by_cases c18 : x5_2 < (x4_2.length : Int)
        ·
         rw [if_pos c18] at H; have c18b0 : decide (x5_2 < (x4_2.length : Int)) = true := dt_ c18; clear c18; obtain ⟨⟨t225, t226, t227, t228⟩, A19, H⟩ := bo_ H; (try dsimp only at H)
         by_cases c20 : t228 = true
         ·
          subst c20; rw [if_pos rfl] at H
          by_cases c21 : x4_2.length < 5864062014805
          ·
           rw [if_pos c21] at H; have LMc21 := Aside0.mk c21; clear c21; obtain ⟨y230, hy_⟩ : ∃ y_ : List (S23), y_ = (x4_2 ++ [(⟨t225, t226, t227⟩ : S23)]) := ⟨_, rfl⟩; replace H : (spec_l04Shapes.l0 k2 y230 (wrap64 (x5_2 + 1)) a0_0 a0_1 a0_2 l0_3) = some (r1, r2) := yh_
           have Ny230 := Aside0.mk hy_; clear hy_; have H' := Aside0.mk H; clear H; have hcz22 := box4_ BK217.out
           try go_wp2
           replace HO_4 := Aside0.mk (Kd.R_drew HO_4.out); replace BK217 := Aside0.mk (blk_drew BK217.out); replace HB := Aside0.mk (below_drew1 HB.out); obtain ⟨Ao24, co24, eo24⟩ := Kd.R_slice HO_4.out; (first | subst eo24 | (injection eo24 with f1_ f2_ f3_; have f4_ := f1_.symm; have f5_ := f3_.symm; clear f1_ f2_ f3_; subst f4_; subst f5_)); have p223 : 0 ≤ (x5_2 : Int) := od_; have q223 : x5_2 < (x4_2.length : Int) := od_; obtain ⟨ad223, e223, hx223_0, hx223_1, hx223_2⟩ := at_T23 (Kd.R_reads' HO_4.out).2.2 x5_2 p223 q223
           cases e223
           replace p223 := eq_true p223; replace q223 := eq_true q223; have p224 : 0 ≤ (x5_2 : Int) := od_; have q224 : x5_2 < (l0_3.length : Int) := od_; obtain ⟨ad224, A224_7, c224_7, A224_8, c224_8, e224, hx224_0, hx224_1, hx224_2, hx224_3, hx224_4, hx224_5, hx224_6, hx224_7, hx224_8, hl224_7, hi224_7, hl224_8, hi224_8⟩ := at_T55 HR0_3.out x5_2 p224 q224; have hw224_8 := hx224_8; have hw224_7 := hx224_7; have hw224_6 := hx224_6; have hw224_5 := hx224_5; have hw224_4 := hx224_4; have hw224_3 := hx224_3; have hw224_2 := hx224_2; have hw224_1 := hx224_1; have hw224_0 := hx224_0
           cases e224
           replace hx224_0 := cw_ HB.out hx224_0; replace hx224_1 := cw_ HB.out hx224_1; replace hx224_2 := cw_ HB.out hx224_2; replace hx224_3 := cw_ HB.out hx224_3; replace hx224_4 := cw_ HB.out hx224_4; replace hx224_5 := cw_ HB.out hx224_5; replace hx224_6 := cw_ HB.out hx224_6; replace hx224_7 := cw_ HB.out hx224_7; replace hx224_8 := cw_ HB.out hx224_8; have HR224_7 := Aside0.mk hi224_7; have HC224_7 := Aside0.mk hl224_7; clear hi224_7 hl224_7; have HR224_8 := Aside0.mk hi224_8; have HC224_8 := Aside0.mk hl224_8; clear hi224_8 hl224_8; replace p224 := eq_true p224; replace q224 := eq_true q224; refine sta_ 16 (fun w' => CE_ w' gb217 0 (.int .i64 a0_0) ∧ CE_ w' gb217 1 (.int .i64 a0_1) ∧ CE_ w' gb217 2 (.int .i64 a0_2) ∧ CE_ w' gb217 3 (.slice (some ad224) l0_3.length c0_3) ∧ w'.cell? (ad223.add ((x5_2).toNat * 3)) = some (.int .i64 ((rd_T23 x4_2 x5_2).f0)) ∧ CF_ w' (ad223.add ((x5_2).toNat * 3)) 1 (.int .i64 ((rd_T23 x4_2 x5_2).f1)) ∧ CF_ w' (ad223.add ((x5_2).toNat * 3)) 2 (.int .i64 ((rd_T23 x4_2 x5_2).f2)) ∧ w'.cell? (ad224.add ((x5_2).toNat * 9)) = some (.int .i64 ((rd_T55 l0_3 x5_2).f0)) ∧ CF_ w' (ad224.add ((x5_2).toNat * 9)) 1 (.int .i64 ((rd_T55 l0_3 x5_2).f1)) ∧ CF_ w' (ad224.add ((x5_2).toNat * 9)) 2 (.int .i64 ((rd_T55 l0_3 x5_2).f2)) ∧ CF_ w' (ad224.add ((x5_2).toNat * 9)) 3 (.int .i64 ((rd_T55 l0_3 x5_2).f3)) ∧ CF_ w' (ad224.add ((x5_2).toNat * 9)) 4 (.int .i64 ((rd_T55 l0_3 x5_2).f4)) ∧ CF_ w' (ad224.add ((x5_2).toNat * 9)) 5 (.int .i64 ((rd_T55 l0_3 x5_2).f5)) ∧ CF_ w' (ad224.add ((x5_2).toNat * 9)) 6 (.int .i64 ((rd_T55 l0_3 x5_2).f6)) ∧ CF_ w' (ad224.add ((x5_2).toNat * 9)) 7 (.slice A224_7 ((rd_T55 l0_3 x5_2).f7).length c224_7) ∧ CF_ w' (ad224.add ((x5_2).toNat * 9)) 8 (.slice A224_8 ((rd_T55 l0_3 x5_2).f8).length c224_8)) ⟨bk_ BK217 0, bk_ BK217 1, bk_ BK217 2, bk_ BK217 3, hx223_0, hx223_1, hx223_2, (cw_ HB.out hw224_0), (cw_ HB.out hw224_1), (cw_ HB.out hw224_2), (cw_ HB.out hw224_3), (cw_ HB.out hw224_4), (cw_ HB.out hw224_5), (cw_ HB.out hw224_6), (cw_ HB.out hw224_7), (cw_ HB.out hw224_8)⟩ (fun hHeld => ?_); refine with_tabW spec_l04Shapes.tab7 spec_l04Shapes.bits7 (fun HT_ HW_ => ?_); generalize wr.drew = w23 at HO_4 BK217 HB HR224_7 HR224_8 hx223_0 hx223_1 hx223_2 hx224_0 hx224_1 hx224_2 hx224_3 hx224_4 hx224_5 hx224_6 hx224_7 hx224_8 hHeld ⊢; refine pv_ 0 16 1 ?_; refine pv_ 1 16 3 ?_; refine pv_ 2 16 7 ?_; refine pv_ 4 16 23 ?_; refine pv_ 6 16 87 ?_; refine tv_ 3 16 95 ?_; refine tv_ 5 16 127 ?_; refine pv_ 7 16 255 ?_; refine tv_ 8 16 511 ?_; refine join_ (σ := Nat) 2 (bl_ 16 16383) (fun s_ => [(39, .tuple #[.agg #[.int .i64 t225, .int .i64 t226, .int .i64 t227], .bool true]), (6, .pointer (some ⟨s_, 0, none⟩)), (29, .tuple #[.agg #[.int .i64 t225, .int .i64 t226, .int .i64 t227], .bool true]), (40, .agg #[.int .i64 t225, .int .i64 t226, .int .i64 t227]), (41, .bool true)]) (fun s_ w' => (w'.cell? ⟨gb217, 0, none⟩ = some (.int .i64 a0_0) ∧ w'.cell? ⟨gb217, 1, none⟩ = some (.int .i64 a0_1) ∧ w'.cell? ⟨gb217, 2, none⟩ = some (.int .i64 a0_2) ∧ w'.cell? ⟨gb217, 3, none⟩ = some (.slice (some ad224) l0_3.length c0_3) ∧ w'.cell? (ad223.add ((x5_2).toNat * 3)) = some (.int .i64 ((rd_T23 x4_2 x5_2).f0)) ∧ w'.cell? ⟨(ad223.add ((x5_2).toNat * 3)).block, (ad223.add ((x5_2).toNat * 3)).off + 1, none⟩ = some (.int .i64 ((rd_T23 x4_2 x5_2).f1)) ∧ w'.cell? ⟨(ad223.add ((x5_2).toNat * 3)).block, (ad223.add ((x5_2).toNat * 3)).off + 2, none⟩ = some (.int .i64 ((rd_T23 x4_2 x5_2).f2)) ∧ w'.cell? (ad224.add ((x5_2).toNat * 9)) = some (.int .i64 ((rd_T55 l0_3 x5_2).f0)) ∧ w'.cell? ⟨(ad224.add ((x5_2).toNat * 9)).block, (ad224.add ((x5_2).toNat * 9)).off + 1, none⟩ = some (.int .i64 ((rd_T55 l0_3 x5_2).f1)) ∧ w'.cell? ⟨(ad224.add ((x5_2).toNat * 9)).block, (ad224.add ((x5_2).toNat * 9)).off + 2, none⟩ = some (.int .i64 ((rd_T55 l0_3 x5_2).f2)) ∧ w'.cell? ⟨(ad224.add ((x5_2).toNat * 9)).block, (ad224.add ((x5_2).toNat * 9)).off + 3, none⟩ = some (.int .i64 ((rd_T55 l0_3 x5_2).f3)) ∧ w'.cell? ⟨(ad224.add ((x5_2).toNat * 9)).block, (ad224.add ((x5_2).toNat * 9)).off + 4, none⟩ = some (.int .i64 ((rd_T55 l0_3 x5_2).f4)) ∧ w'.cell? ⟨(ad224.add ((x5_2).toNat * 9)).block, (ad224.add ((x5_2).toNat * 9)).off + 5, none⟩ = some (.int .i64 ((rd_T55 l0_3 x5_2).f5)) ∧ w'.cell? ⟨(ad224.add ((x5_2).toNat * 9)).block, (ad224.add ((x5_2).toNat * 9)).off + 6, none⟩ = some (.int .i64 ((rd_T55 l0_3 x5_2).f6)) ∧ w'.cell? ⟨(ad224.add ((x5_2).toNat * 9)).block, (ad224.add ((x5_2).toNat * 9)).off + 7, none⟩ = some (.slice A224_7 ((rd_T55 l0_3 x5_2).f7).length c224_7) ∧ w'.cell? ⟨(ad224.add ((x5_2).toNat * 9)).block, (ad224.add ((x5_2).toNat * 9)).off + 8, none⟩ = some (.slice A224_8 ((rd_T55 l0_3 x5_2).f8).length c224_8)) ∧ (Kd.R k23 23 w' w.heap.size (fun k_ => k_ ≠ s_) (.slice (some ad223) x4_2.length co24) x4_2) ∧ (w'.heap[gb217]? = some (.cells #[.int .i64 a0_0, .int .i64 a0_1, .int .i64 a0_2, .slice (some ad224) l0_3.length c0_3] 26 (0, 0))) ∧ (w'.heap[s_]? = some (.cells #[.int .i64 0, .int .i64 0, .int .i64 0] 23 (0, 0))) ∧ (w.heap.size ≤ s_) ∧ (w.heap.size ≤ s_) ∧ (gb217 ≠ s_) ∧ (s_ ≠ gb217) ∧ (Below w.heap.size w w')) ?_ ?_
           rotate_left
           ·
            intro hCont; refine two_ (i := 9) (j := 13) (Ni := some 39) (Nj := some 6) (bl_ 16 1023) (bl_ 16 8703) rfl rfl rfl rfl (two_of HT_.out (by kernel_rfl)) (by decide) (by decide) (fun K hK => ?_) (fun K hK => ?_)
            ·
             refine gv_ Tryz.func26 ?_
             (with_reducible refine (spec_OutShape.calls ?_ ?_ ?_ ?_ A19.out).mono ?_); exact cu_ HR224_7.out HB.out; exact HC224_7.out; exact cu_ HR224_8.out HB.out; exact HC224_8.out; rintro e w25 ⟨rfl, hb⟩; have HS4_ := cw_ hb hHeld.2.2.2.2.1; have HS5_ := cw_ hb hHeld.2.2.2.2.2.1; have HS6_ := cw_ hb hHeld.2.2.2.2.2.2.1; refine ⟨_, rfl, ?_⟩; replace HO_4 := rb_ HO_4 hb; replace BK217 := bb_ BK217 hb; replace HB := hb_ HB hb; (try clear hb); refine hK.out _ _ ⟨bk_ BK217 0, bk_ BK217 1, bk_ BK217 2, bk_ BK217 3, HS4_, HS5_, HS6_, (cw_ HB.out hw224_0), (cw_ HB.out hw224_1), (cw_ HB.out hw224_2), (cw_ HB.out hw224_3), (cw_ HB.out hw224_4), (cw_ HB.out hw224_5), (cw_ HB.out hw224_6), (cw_ HB.out hw224_7), (cw_ HB.out hw224_8)⟩ (fun hHeld => ?_); clear hK K; refine nm_ 39 (h := ?_); refine pv_ 10 16 2047 ?_; refine pv_ 11 16 4095 ?_; refine pv_ 12 16 8191 ?_; refine one_ (i := 13) (N := some 6) (bl_ 16 16383) rfl rfl (one_of HT_.out (by kernel_rfl)) (by decide) (fun K hK => ?_); refine bs_ 6 #[.int .i64 0, .int .i64 0, .int .i64 0] 23 ?_; intro gb229 hg w26 hbox hb; have HS4_ := cw_ hb hHeld.2.2.2.2.1; have HS5_ := cw_ hb hHeld.2.2.2.2.2.1; have HS6_ := cw_ hb hHeld.2.2.2.2.2.2.1; replace HO_4 := Aside0.mk (Kd.R_below (Kd.R_elderB (ra_ HO_4.out) gb229 (Nat.le_of_eq hg.symm)) hb); obtain ⟨BK229, GW229, GE229, HB⟩ := nb_ hg hbox HB hb; have NB217_229 := nx_ hg BK217; have NB229_217 := ny_ hg BK217; replace BK217 := bb_ BK217 hb; clear hb hbox hg; refine hK.out _ _ ⟨bk_ BK217 0, bk_ BK217 1, bk_ BK217 2, bk_ BK217 3, HS4_, HS5_, HS6_, (cw_ HB.out hw224_0), (cw_ HB.out hw224_1), (cw_ HB.out hw224_2), (cw_ HB.out hw224_3), (cw_ HB.out hw224_4), (cw_ HB.out hw224_5), (cw_ HB.out hw224_6), (cw_ HB.out hw224_7), (cw_ HB.out hw224_8)⟩ (fun hHeld => ?_); clear hK K; refine nm_ 6 (h := ?_); exact norm_ (by simp only [putAll, Act.put, List.setIfInBounds_toArray, List.set_cons_zero, List.set_cons_succ]) (hCont (gb229) _ ⟨hHeld, (Kd.R_mono (ra_ HO_4.out) (fun _ hk => hk.2)), (bu_ BK217.out), (bu_ BK229.out), GW229.out, GE229.out, NB217_229.out, NB229_217.out, (be_ HB.out)⟩)
            ·
             refine bs_ 6 #[.int .i64 0, .int .i64 0, .int .i64 0] 23 ?_; intro gb229 hg w25 hbox hb; have HS4_ := cw_ hb hHeld.2.2.2.2.1; have HS5_ := cw_ hb hHeld.2.2.2.2.2.1; have HS6_ := cw_ hb hHeld.2.2.2.2.2.2.1; replace HO_4 := Aside0.mk (Kd.R_below (Kd.R_elderB (ra_ HO_4.out) gb229 (Nat.le_of_eq hg.symm)) hb); obtain ⟨BK229, GW229, GE229, HB⟩ := nb_ hg hbox HB hb; have NB217_229 := nx_ hg BK217; have NB229_217 := ny_ hg BK217; replace BK217 := bb_ BK217 hb; clear hb hbox hg; refine hK.out _ _ ⟨bk_ BK217 0, bk_ BK217 1, bk_ BK217 2, bk_ BK217 3, HS4_, HS5_, HS6_, (cw_ HB.out hw224_0), (cw_ HB.out hw224_1), (cw_ HB.out hw224_2), (cw_ HB.out hw224_3), (cw_ HB.out hw224_4), (cw_ HB.out hw224_5), (cw_ HB.out hw224_6), (cw_ HB.out hw224_7), (cw_ HB.out hw224_8)⟩ (fun hHeld => ?_); clear hK K; refine nm_ 6 (h := ?_); refine one_ (i := 9) (N := some 39) (bl_ 16 9215) rfl rfl (one_of HT_.out (by kernel_rfl)) (by decide) (fun K hK => ?_); refine gv_ Tryz.func26 ?_
             (with_reducible refine (spec_OutShape.calls ?_ ?_ ?_ ?_ A19.out).mono ?_); exact cu_ HR224_7.out HB.out; exact HC224_7.out; exact cu_ HR224_8.out HB.out; exact HC224_8.out; rintro e w26 ⟨rfl, hb⟩; have HS4_ := cw_ hb hHeld.2.2.2.2.1; have HS5_ := cw_ hb hHeld.2.2.2.2.2.1; have HS6_ := cw_ hb hHeld.2.2.2.2.2.2.1; refine ⟨_, rfl, ?_⟩; replace HO_4 := rb_ HO_4 hb; replace BK217 := bb_ BK217 hb; replace BK229 := bb_ BK229 hb; replace HB := hb_ HB hb; (try clear hb); refine hK.out _ _ ⟨bk_ BK217 0, bk_ BK217 1, bk_ BK217 2, bk_ BK217 3, HS4_, HS5_, HS6_, (cw_ HB.out hw224_0), (cw_ HB.out hw224_1), (cw_ HB.out hw224_2), (cw_ HB.out hw224_3), (cw_ HB.out hw224_4), (cw_ HB.out hw224_5), (cw_ HB.out hw224_6), (cw_ HB.out hw224_7), (cw_ HB.out hw224_8)⟩ (fun hHeld => ?_); clear hK K; refine nm_ 39 (h := ?_); refine pv_ 10 16 10239 ?_; refine pv_ 11 16 12287 ?_; refine pv_ 12 16 16383 ?_; exact norm_ (by simp only [putAll, Act.put, List.setIfInBounds_toArray, List.set_cons_zero, List.set_cons_succ]) (hCont (gb229) _ ⟨hHeld, (Kd.R_mono (ra_ HO_4.out) (fun _ hk => hk.2)), (bu_ BK217.out), (bu_ BK229.out), GW229.out, GE229.out, NB217_229.out, NB229_217.out, (be_ HB.out)⟩)
           rintro gb229 w27 ⟨hS_, h0_, h1_, h2_, h3_, h4_, h5_, h6_, h7_⟩; (try dsimp only at h0_ h1_ h2_ h3_ h4_ h5_ h6_ h7_); replace HO_4 := Aside0.mk h0_; replace BK217 := Aside0.mk h1_; have BK229 := Aside0.mk h2_; have GW229 := Aside0.mk h3_; have GE229 := Aside0.mk h4_; have NB217_229 := Aside0.mk h5_; have NB229_217 := Aside0.mk h6_; replace HB := Aside0.mk h7_; clear h0_ h1_ h2_ h3_ h4_ h5_ h6_ h7_; have hHeld := hS_; refine nf_ ?_; refine one_ (i := 14) (N := none) (bl_ 16 32767) rfl rfl (one_of HT_.out (by kernel_rfl)) (by decide) (fun K hK => ?_); have hs28 : w27.cell? ⟨gb229, 0, none⟩ = some (.int .i64 0) := bk_ BK229 0; have hfs28 := blk_frozen BK229.out 0; have hns28_0 := NB217_229.out; have hms28_0 := NB229_217.out; have hs29 : w27.cell? ⟨gb229, 1, none⟩ = some (.int .i64 0) := bk_ BK229 1; have hfs29 := blk_frozen BK229.out 1; have hns29_0 := NB217_229.out; have hms29_0 := NB229_217.out; have hs30 : w27.cell? ⟨gb229, 2, none⟩ = some (.int .i64 0) := bk_ BK229 2; have hfs30 := blk_frozen BK229.out 2; have hns30_0 := NB217_229.out; have hms30_0 := NB229_217.out; refine skip_ (w1 := ?_) (by rfl) rfl ?_ ?_
           rotate_left
           ·
            go_simp
            rfl
           refine hK.out _ _ ⟨(c3_ NB217_229.out (hHeld.1)), (c3_ NB217_229.out (hHeld.2.1)), (c3_ NB217_229.out (hHeld.2.2.1)), (c3_ NB217_229.out (hHeld.2.2.2.1)), (cff_ (Kd.own_blk (Kd.R_away HO_4.out (fun _ hk => hk))) ((cff_ (Kd.own_blk (Kd.R_away HO_4.out (fun _ hk => hk))) ((cff_ (Kd.own_blk (Kd.R_away HO_4.out (fun _ hk => hk))) (hHeld.2.2.2.2.1)))))), (cff_ (Kd.own_blk (Kd.R_away HO_4.out (fun _ hk => hk))) ((cff_ (Kd.own_blk (Kd.R_away HO_4.out (fun _ hk => hk))) ((cff_ (Kd.own_blk (Kd.R_away HO_4.out (fun _ hk => hk))) (hHeld.2.2.2.2.2.1)))))), (cff_ (Kd.own_blk (Kd.R_away HO_4.out (fun _ hk => hk))) ((cff_ (Kd.own_blk (Kd.R_away HO_4.out (fun _ hk => hk))) ((cff_ (Kd.own_blk (Kd.R_away HO_4.out (fun _ hk => hk))) (hHeld.2.2.2.2.2.2.1)))))), (cfa_ (nw_ hw224_0 GW229.out) ((cfa_ (nw_ hw224_0 GW229.out) ((cfa_ (nw_ hw224_0 GW229.out) (hHeld.2.2.2.2.2.2.2.1)))))), (cfa_ (nw_ hw224_1 GW229.out) ((cfa_ (nw_ hw224_1 GW229.out) ((cfa_ (nw_ hw224_1 GW229.out) (hHeld.2.2.2.2.2.2.2.2.1)))))), (cfa_ (nw_ hw224_2 GW229.out) ((cfa_ (nw_ hw224_2 GW229.out) ((cfa_ (nw_ hw224_2 GW229.out) (hHeld.2.2.2.2.2.2.2.2.2.1)))))), (cfa_ (nw_ hw224_3 GW229.out) ((cfa_ (nw_ hw224_3 GW229.out) ((cfa_ (nw_ hw224_3 GW229.out) (hHeld.2.2.2.2.2.2.2.2.2.2.1)))))), (cfa_ (nw_ hw224_4 GW229.out) ((cfa_ (nw_ hw224_4 GW229.out) ((cfa_ (nw_ hw224_4 GW229.out) (hHeld.2.2.2.2.2.2.2.2.2.2.2.1)))))), (cfa_ (nw_ hw224_5 GW229.out) ((cfa_ (nw_ hw224_5 GW229.out) ((cfa_ (nw_ hw224_5 GW229.out) (hHeld.2.2.2.2.2.2.2.2.2.2.2.2.1)))))), (cfa_ (nw_ hw224_6 GW229.out) ((cfa_ (nw_ hw224_6 GW229.out) ((cfa_ (nw_ hw224_6 GW229.out) (hHeld.2.2.2.2.2.2.2.2.2.2.2.2.2.1)))))), (cfa_ (nw_ hw224_7 GW229.out) ((cfa_ (nw_ hw224_7 GW229.out) ((cfa_ (nw_ hw224_7 GW229.out) (hHeld.2.2.2.2.2.2.2.2.2.2.2.2.2.2.1)))))), (cfa_ (nw_ hw224_8 GW229.out) ((cfa_ (nw_ hw224_8 GW229.out) ((cfa_ (nw_ hw224_8 GW229.out) (hHeld.2.2.2.2.2.2.2.2.2.2.2.2.2.2.2))))))⟩ (fun hHeld => ?_); clear hK K; refine pv_ 15 16 65535 ?_; refine done_ (done_of HT_.out (by kernel_rfl)) ?_; have hnb31 := nn_ NB229_217 NB217_229; have hcz32 := box3_ BK229.out
           try go_wp2_with (first | ((with_reducible refine gate_builtin (b := .append) (xs := #[.tmp 44, .tmp 46]) rfl ?_); (try (refine gate_guard (by rfl) ?_; dsimp only)); at_builtin; refine Kd.R_append k23 (w0 := w) w.heap.size rfl (.tmp 44) (.tmp 46) 108 23 (.agg #[(.int .i64 0), (.int .i64 0), (.int .i64 0)]) 24 rfl Tryz.underlying108 info23 rfl (by decide) (by omega) (.slice (some ad223) x4_2.length co24) x4_2 (⟨t225, t226, t227⟩ : S23) [.int .i64 t225, .int .i64 t226, .int .i64 t227] (fun k_ => k_ ≠ gb229) (fun _ => False) rfl (by first | (go_simp; done) | (go_simp; rfl)) ?aP (fun _ hk => hk.elim) ?aF ?aO ?aB ?aS ?aL ?_; (case aP => exact k23_mkM _ _ _ (⟨t225, t226, t227⟩ : S23)); (case aB => exact (be_ HB.out)); (case aF => exact (fun k_ hk => Kd.freshB (g := gb229) (o := .cells #[.int .i64 t225, .int .i64 t226, .int .i64 t227] 23 (0, 0)) (bq_ BK229.out) k_ hk)); (case aO => exact (by (with_reducible repeat (first | apply Kd.R_alloc | apply Kd.R_drewN | apply Kd.R_drew)); exact Kd.R_mono (Kd.R_far (p := ⟨gb229, 2, none⟩) (Kd.R_far (p := ⟨gb229, 1, none⟩) (Kd.R_far (p := ⟨gb229, 0, none⟩) (Kd.R_mono HO_4.out (fun k_ hk => (⟨hk, hk⟩ : _ ∧ k_ ≠ gb229))) (fun _ hk => hk.2) (.int .i64 t225)) (fun _ hk => hk.2) (.int .i64 t226)) (fun _ hk => hk.2) (.int .i64 t227)) (fun _ hk => hk.1))); (case aS => exact (below_size (be_ HB.out))); (case aL => have := LMc21.out; omega); intro v231 w33 ho hb hg hat; rw [← Ny230.out] at ho; replace BK217 := Aside0.mk (blk_grown (g := gb217) (o := .cells #[.int .i64 a0_0, .int .i64 a0_1, .int .i64 a0_2, .slice (some ad224) l0_3.length c0_3] 26 (0, 0)) (bf_ BK217.out) hg (Kd.R_ne HO_4.out BK217.out (by decide))); replace BK229 := Aside0.mk (blk_grown (g := gb229) (o := .cells #[.int .i64 t225, .int .i64 t226, .int .i64 t227] 23 (0, 0)) (bq_ BK229.out) hg (Kd.R_away HO_4.out (fun _ hk => hk))); replace HB := Aside0.mk (hb); have HO232 := Aside0.mk (ho); clear HO_4; clear ho hb hg hat))
           go_roundg k2
           case measure => have := HJ1.out; have := HK2.out; omega
           case rel => exact ⟨(y230), (wrap64 (x5_2 + 1)), rl_, H', ⟨by have := HJ1.out; have := HK2.out; omega⟩, ⟨Kd.R_mono (ra_ HO232.out) (fun _ hk => trivial)⟩, ⟨bu_ BK217.out⟩, ⟨be_ HB.out⟩⟩
          ·
           rw [if_neg c21] at H; exact absurd H (by simp)
         ·
          replace c20 := fb_ c20; subst c20; replace H := if0_ H
          simp only [Option.some.injEq, Prod.mk.injEq] at H; obtain ⟨rfl, rfl⟩ := H; have hcz34 := box4_ BK217.out
          try go_wp2
          replace HO_4 := Aside0.mk (Kd.R_drew HO_4.out); replace BK217 := Aside0.mk (blk_drew BK217.out); replace HB := Aside0.mk (below_drew1 HB.out); obtain ⟨Ao36, co36, eo36⟩ := Kd.R_slice HO_4.out; (first | subst eo36 | (injection eo36 with f1_ f2_ f3_; have f4_ := f1_.symm; have f5_ := f3_.symm; clear f1_ f2_ f3_; subst f4_; subst f5_)); have p223 : 0 ≤ (x5_2 : Int) := od_; have q223 : x5_2 < (x4_2.length : Int) := od_; obtain ⟨ad223, e223, hx223_0, hx223_1, hx223_2⟩ := at_T23 (Kd.R_reads' HO_4.out).2.2 x5_2 p223 q223
          cases e223
          replace p223 := eq_true p223; replace q223 := eq_true q223; have p224 : 0 ≤ (x5_2 : Int) := od_; have q224 : x5_2 < (l0_3.length : Int) := od_; obtain ⟨ad224, A224_7, c224_7, A224_8, c224_8, e224, hx224_0, hx224_1, hx224_2, hx224_3, hx224_4, hx224_5, hx224_6, hx224_7, hx224_8, hl224_7, hi224_7, hl224_8, hi224_8⟩ := at_T55 HR0_3.out x5_2 p224 q224; have hw224_8 := hx224_8; have hw224_7 := hx224_7; have hw224_6 := hx224_6; have hw224_5 := hx224_5; have hw224_4 := hx224_4; have hw224_3 := hx224_3; have hw224_2 := hx224_2; have hw224_1 := hx224_1; have hw224_0 := hx224_0
          cases e224
          replace hx224_0 := cw_ HB.out hx224_0; replace hx224_1 := cw_ HB.out hx224_1; replace hx224_2 := cw_ HB.out hx224_2; replace hx224_3 := cw_ HB.out hx224_3; replace hx224_4 := cw_ HB.out hx224_4; replace hx224_5 := cw_ HB.out hx224_5; replace hx224_6 := cw_ HB.out hx224_6; replace hx224_7 := cw_ HB.out hx224_7; replace hx224_8 := cw_ HB.out hx224_8; have HR224_7 := Aside0.mk hi224_7; have HC224_7 := Aside0.mk hl224_7; clear hi224_7 hl224_7; have HR224_8 := Aside0.mk hi224_8; have HC224_8 := Aside0.mk hl224_8; clear hi224_8 hl224_8; replace p224 := eq_true p224; replace q224 := eq_true q224; refine sta_ 16 (fun w' => CE_ w' gb217 0 (.int .i64 a0_0) ∧ CE_ w' gb217 1 (.int .i64 a0_1) ∧ CE_ w' gb217 2 (.int .i64 a0_2) ∧ CE_ w' gb217 3 (.slice (some ad224) l0_3.length c0_3) ∧ w'.cell? (ad223.add ((x5_2).toNat * 3)) = some (.int .i64 ((rd_T23 x4_2 x5_2).f0)) ∧ CF_ w' (ad223.add ((x5_2).toNat * 3)) 1 (.int .i64 ((rd_T23 x4_2 x5_2).f1)) ∧ CF_ w' (ad223.add ((x5_2).toNat * 3)) 2 (.int .i64 ((rd_T23 x4_2 x5_2).f2)) ∧ w'.cell? (ad224.add ((x5_2).toNat * 9)) = some (.int .i64 ((rd_T55 l0_3 x5_2).f0)) ∧ CF_ w' (ad224.add ((x5_2).toNat * 9)) 1 (.int .i64 ((rd_T55 l0_3 x5_2).f1)) ∧ CF_ w' (ad224.add ((x5_2).toNat * 9)) 2 (.int .i64 ((rd_T55 l0_3 x5_2).f2)) ∧ CF_ w' (ad224.add ((x5_2).toNat * 9)) 3 (.int .i64 ((rd_T55 l0_3 x5_2).f3)) ∧ CF_ w' (ad224.add ((x5_2).toNat * 9)) 4 (.int .i64 ((rd_T55 l0_3 x5_2).f4)) ∧ CF_ w' (ad224.add ((x5_2).toNat * 9)) 5 (.int .i64 ((rd_T55 l0_3 x5_2).f5)) ∧ CF_ w' (ad224.add ((x5_2).toNat * 9)) 6 (.int .i64 ((rd_T55 l0_3 x5_2).f6)) ∧ CF_ w' (ad224.add ((x5_2).toNat * 9)) 7 (.slice A224_7 ((rd_T55 l0_3 x5_2).f7).length c224_7) ∧ CF_ w' (ad224.add ((x5_2).toNat * 9)) 8 (.slice A224_8 ((rd_T55 l0_3 x5_2).f8).length c224_8)) ⟨bk_ BK217 0, bk_ BK217 1, bk_ BK217 2, bk_ BK217 3, hx223_0, hx223_1, hx223_2, (cw_ HB.out hw224_0), (cw_ HB.out hw224_1), (cw_ HB.out hw224_2), (cw_ HB.out hw224_3), (cw_ HB.out hw224_4), (cw_ HB.out hw224_5), (cw_ HB.out hw224_6), (cw_ HB.out hw224_7), (cw_ HB.out hw224_8)⟩ (fun hHeld => ?_); refine with_tabW spec_l04Shapes.tab7 spec_l04Shapes.bits7 (fun HT_ HW_ => ?_); generalize wr.drew = w35 at HO_4 BK217 HB HR224_7 HR224_8 hx223_0 hx223_1 hx223_2 hx224_0 hx224_1 hx224_2 hx224_3 hx224_4 hx224_5 hx224_6 hx224_7 hx224_8 hHeld ⊢; refine pv_ 0 16 1 ?_; refine pv_ 1 16 3 ?_; refine pv_ 2 16 7 ?_; refine pv_ 4 16 23 ?_; refine pv_ 6 16 87 ?_; refine tv_ 3 16 95 ?_; refine tv_ 5 16 127 ?_; refine pv_ 7 16 255 ?_; refine tv_ 8 16 511 ?_; refine join_ (σ := Nat) 2 (bl_ 16 16383) (fun s_ => [(39, .tuple #[.agg #[.int .i64 t225, .int .i64 t226, .int .i64 t227], .bool false]), (6, .pointer (some ⟨s_, 0, none⟩)), (29, .tuple #[.agg #[.int .i64 t225, .int .i64 t226, .int .i64 t227], .bool false]), (40, .agg #[.int .i64 t225, .int .i64 t226, .int .i64 t227]), (41, .bool false)]) (fun s_ w' => (w'.cell? ⟨gb217, 0, none⟩ = some (.int .i64 a0_0) ∧ w'.cell? ⟨gb217, 1, none⟩ = some (.int .i64 a0_1) ∧ w'.cell? ⟨gb217, 2, none⟩ = some (.int .i64 a0_2) ∧ w'.cell? ⟨gb217, 3, none⟩ = some (.slice (some ad224) l0_3.length c0_3) ∧ w'.cell? (ad223.add ((x5_2).toNat * 3)) = some (.int .i64 ((rd_T23 x4_2 x5_2).f0)) ∧ w'.cell? ⟨(ad223.add ((x5_2).toNat * 3)).block, (ad223.add ((x5_2).toNat * 3)).off + 1, none⟩ = some (.int .i64 ((rd_T23 x4_2 x5_2).f1)) ∧ w'.cell? ⟨(ad223.add ((x5_2).toNat * 3)).block, (ad223.add ((x5_2).toNat * 3)).off + 2, none⟩ = some (.int .i64 ((rd_T23 x4_2 x5_2).f2)) ∧ w'.cell? (ad224.add ((x5_2).toNat * 9)) = some (.int .i64 ((rd_T55 l0_3 x5_2).f0)) ∧ w'.cell? ⟨(ad224.add ((x5_2).toNat * 9)).block, (ad224.add ((x5_2).toNat * 9)).off + 1, none⟩ = some (.int .i64 ((rd_T55 l0_3 x5_2).f1)) ∧ w'.cell? ⟨(ad224.add ((x5_2).toNat * 9)).block, (ad224.add ((x5_2).toNat * 9)).off + 2, none⟩ = some (.int .i64 ((rd_T55 l0_3 x5_2).f2)) ∧ w'.cell? ⟨(ad224.add ((x5_2).toNat * 9)).block, (ad224.add ((x5_2).toNat * 9)).off + 3, none⟩ = some (.int .i64 ((rd_T55 l0_3 x5_2).f3)) ∧ w'.cell? ⟨(ad224.add ((x5_2).toNat * 9)).block, (ad224.add ((x5_2).toNat * 9)).off + 4, none⟩ = some (.int .i64 ((rd_T55 l0_3 x5_2).f4)) ∧ w'.cell? ⟨(ad224.add ((x5_2).toNat * 9)).block, (ad224.add ((x5_2).toNat * 9)).off + 5, none⟩ = some (.int .i64 ((rd_T55 l0_3 x5_2).f5)) ∧ w'.cell? ⟨(ad224.add ((x5_2).toNat * 9)).block, (ad224.add ((x5_2).toNat * 9)).off + 6, none⟩ = some (.int .i64 ((rd_T55 l0_3 x5_2).f6)) ∧ w'.cell? ⟨(ad224.add ((x5_2).toNat * 9)).block, (ad224.add ((x5_2).toNat * 9)).off + 7, none⟩ = some (.slice A224_7 ((rd_T55 l0_3 x5_2).f7).length c224_7) ∧ w'.cell? ⟨(ad224.add ((x5_2).toNat * 9)).block, (ad224.add ((x5_2).toNat * 9)).off + 8, none⟩ = some (.slice A224_8 ((rd_T55 l0_3 x5_2).f8).length c224_8)) ∧ (Kd.R k23 23 w' w.heap.size (fun k_ => k_ ≠ s_) (.slice (some ad223) x4_2.length co36) x4_2) ∧ (w'.heap[gb217]? = some (.cells #[.int .i64 a0_0, .int .i64 a0_1, .int .i64 a0_2, .slice (some ad224) l0_3.length c0_3] 26 (0, 0))) ∧ (w'.heap[s_]? = some (.cells #[.int .i64 0, .int .i64 0, .int .i64 0] 23 (0, 0))) ∧ (w.heap.size ≤ s_) ∧ (w.heap.size ≤ s_) ∧ (gb217 ≠ s_) ∧ (s_ ≠ gb217) ∧ (Below w.heap.size w w')) ?_ ?_
          rotate_left
          ·
           intro hCont; refine two_ (i := 9) (j := 13) (Ni := some 39) (Nj := some 6) (bl_ 16 1023) (bl_ 16 8703) rfl rfl rfl rfl (two_of HT_.out (by kernel_rfl)) (by decide) (by decide) (fun K hK => ?_) (fun K hK => ?_)
           ·
            refine gv_ Tryz.func26 ?_
            (with_reducible refine (spec_OutShape.calls ?_ ?_ ?_ ?_ A19.out).mono ?_); exact cu_ HR224_7.out HB.out; exact HC224_7.out; exact cu_ HR224_8.out HB.out; exact HC224_8.out; rintro e w37 ⟨rfl, hb⟩; have HS4_ := cw_ hb hHeld.2.2.2.2.1; have HS5_ := cw_ hb hHeld.2.2.2.2.2.1; have HS6_ := cw_ hb hHeld.2.2.2.2.2.2.1; refine ⟨_, rfl, ?_⟩; replace HO_4 := rb_ HO_4 hb; replace BK217 := bb_ BK217 hb; replace HB := hb_ HB hb; (try clear hb); refine hK.out _ _ ⟨bk_ BK217 0, bk_ BK217 1, bk_ BK217 2, bk_ BK217 3, HS4_, HS5_, HS6_, (cw_ HB.out hw224_0), (cw_ HB.out hw224_1), (cw_ HB.out hw224_2), (cw_ HB.out hw224_3), (cw_ HB.out hw224_4), (cw_ HB.out hw224_5), (cw_ HB.out hw224_6), (cw_ HB.out hw224_7), (cw_ HB.out hw224_8)⟩ (fun hHeld => ?_); clear hK K; refine nm_ 39 (h := ?_); refine pv_ 10 16 2047 ?_; refine pv_ 11 16 4095 ?_; refine pv_ 12 16 8191 ?_; refine one_ (i := 13) (N := some 6) (bl_ 16 16383) rfl rfl (one_of HT_.out (by kernel_rfl)) (by decide) (fun K hK => ?_); refine bs_ 6 #[.int .i64 0, .int .i64 0, .int .i64 0] 23 ?_; intro gb229 hg w38 hbox hb; have HS4_ := cw_ hb hHeld.2.2.2.2.1; have HS5_ := cw_ hb hHeld.2.2.2.2.2.1; have HS6_ := cw_ hb hHeld.2.2.2.2.2.2.1; replace HO_4 := Aside0.mk (Kd.R_below (Kd.R_elderB (ra_ HO_4.out) gb229 (Nat.le_of_eq hg.symm)) hb); obtain ⟨BK229, GW229, GE229, HB⟩ := nb_ hg hbox HB hb; have NB217_229 := nx_ hg BK217; have NB229_217 := ny_ hg BK217; replace BK217 := bb_ BK217 hb; clear hb hbox hg; refine hK.out _ _ ⟨bk_ BK217 0, bk_ BK217 1, bk_ BK217 2, bk_ BK217 3, HS4_, HS5_, HS6_, (cw_ HB.out hw224_0), (cw_ HB.out hw224_1), (cw_ HB.out hw224_2), (cw_ HB.out hw224_3), (cw_ HB.out hw224_4), (cw_ HB.out hw224_5), (cw_ HB.out hw224_6), (cw_ HB.out hw224_7), (cw_ HB.out hw224_8)⟩ (fun hHeld => ?_); clear hK K; refine nm_ 6 (h := ?_); exact norm_ (by simp only [putAll, Act.put, List.setIfInBounds_toArray, List.set_cons_zero, List.set_cons_succ]) (hCont (gb229) _ ⟨hHeld, (Kd.R_mono (ra_ HO_4.out) (fun _ hk => hk.2)), (bu_ BK217.out), (bu_ BK229.out), GW229.out, GE229.out, NB217_229.out, NB229_217.out, (be_ HB.out)⟩)
           ·
            refine bs_ 6 #[.int .i64 0, .int .i64 0, .int .i64 0] 23 ?_; intro gb229 hg w37 hbox hb; have HS4_ := cw_ hb hHeld.2.2.2.2.1; have HS5_ := cw_ hb hHeld.2.2.2.2.2.1; have HS6_ := cw_ hb hHeld.2.2.2.2.2.2.1; replace HO_4 := Aside0.mk (Kd.R_below (Kd.R_elderB (ra_ HO_4.out) gb229 (Nat.le_of_eq hg.symm)) hb); obtain ⟨BK229, GW229, GE229, HB⟩ := nb_ hg hbox HB hb; have NB217_229 := nx_ hg BK217; have NB229_217 := ny_ hg BK217; replace BK217 := bb_ BK217 hb; clear hb hbox hg; refine hK.out _ _ ⟨bk_ BK217 0, bk_ BK217 1, bk_ BK217 2, bk_ BK217 3, HS4_, HS5_, HS6_, (cw_ HB.out hw224_0), (cw_ HB.out hw224_1), (cw_ HB.out hw224_2), (cw_ HB.out hw224_3), (cw_ HB.out hw224_4), (cw_ HB.out hw224_5), (cw_ HB.out hw224_6), (cw_ HB.out hw224_7), (cw_ HB.out hw224_8)⟩ (fun hHeld => ?_); clear hK K; refine nm_ 6 (h := ?_); refine one_ (i := 9) (N := some 39) (bl_ 16 9215) rfl rfl (one_of HT_.out (by kernel_rfl)) (by decide) (fun K hK => ?_); refine gv_ Tryz.func26 ?_
            (with_reducible refine (spec_OutShape.calls ?_ ?_ ?_ ?_ A19.out).mono ?_); exact cu_ HR224_7.out HB.out; exact HC224_7.out; exact cu_ HR224_8.out HB.out; exact HC224_8.out; rintro e w38 ⟨rfl, hb⟩; have HS4_ := cw_ hb hHeld.2.2.2.2.1; have HS5_ := cw_ hb hHeld.2.2.2.2.2.1; have HS6_ := cw_ hb hHeld.2.2.2.2.2.2.1; refine ⟨_, rfl, ?_⟩; replace HO_4 := rb_ HO_4 hb; replace BK217 := bb_ BK217 hb; replace BK229 := bb_ BK229 hb; replace HB := hb_ HB hb; (try clear hb); refine hK.out _ _ ⟨bk_ BK217 0, bk_ BK217 1, bk_ BK217 2, bk_ BK217 3, HS4_, HS5_, HS6_, (cw_ HB.out hw224_0), (cw_ HB.out hw224_1), (cw_ HB.out hw224_2), (cw_ HB.out hw224_3), (cw_ HB.out hw224_4), (cw_ HB.out hw224_5), (cw_ HB.out hw224_6), (cw_ HB.out hw224_7), (cw_ HB.out hw224_8)⟩ (fun hHeld => ?_); clear hK K; refine nm_ 39 (h := ?_); refine pv_ 10 16 10239 ?_; refine pv_ 11 16 12287 ?_; refine pv_ 12 16 16383 ?_; exact norm_ (by simp only [putAll, Act.put, List.setIfInBounds_toArray, List.set_cons_zero, List.set_cons_succ]) (hCont (gb229) _ ⟨hHeld, (Kd.R_mono (ra_ HO_4.out) (fun _ hk => hk.2)), (bu_ BK217.out), (bu_ BK229.out), GW229.out, GE229.out, NB217_229.out, NB229_217.out, (be_ HB.out)⟩)
          rintro gb229 w39 ⟨hS_, h0_, h1_, h2_, h3_, h4_, h5_, h6_, h7_⟩; (try dsimp only at h0_ h1_ h2_ h3_ h4_ h5_ h6_ h7_); replace HO_4 := Aside0.mk h0_; replace BK217 := Aside0.mk h1_; have BK229 := Aside0.mk h2_; have GW229 := Aside0.mk h3_; have GE229 := Aside0.mk h4_; have NB217_229 := Aside0.mk h5_; have NB229_217 := Aside0.mk h6_; replace HB := Aside0.mk h7_; clear h0_ h1_ h2_ h3_ h4_ h5_ h6_ h7_; have hHeld := hS_; refine nf_ ?_; refine one_ (i := 14) (N := none) (bl_ 16 32767) rfl rfl (one_of HT_.out (by kernel_rfl)) (by decide) (fun K hK => ?_); have hs40 : w39.cell? ⟨gb229, 0, none⟩ = some (.int .i64 0) := bk_ BK229 0; have hfs40 := blk_frozen BK229.out 0; have hns40_0 := NB217_229.out; have hms40_0 := NB229_217.out; have hs41 : w39.cell? ⟨gb229, 1, none⟩ = some (.int .i64 0) := bk_ BK229 1; have hfs41 := blk_frozen BK229.out 1; have hns41_0 := NB217_229.out; have hms41_0 := NB229_217.out; have hs42 : w39.cell? ⟨gb229, 2, none⟩ = some (.int .i64 0) := bk_ BK229 2; have hfs42 := blk_frozen BK229.out 2; have hns42_0 := NB217_229.out; have hms42_0 := NB229_217.out; refine skip_ (w1 := ?_) (by rfl) rfl ?_ ?_
          rotate_left
          ·
           go_simp
           rfl
          refine hK.out _ _ ⟨(c3_ NB217_229.out (hHeld.1)), (c3_ NB217_229.out (hHeld.2.1)), (c3_ NB217_229.out (hHeld.2.2.1)), (c3_ NB217_229.out (hHeld.2.2.2.1)), (cff_ (Kd.own_blk (Kd.R_away HO_4.out (fun _ hk => hk))) ((cff_ (Kd.own_blk (Kd.R_away HO_4.out (fun _ hk => hk))) ((cff_ (Kd.own_blk (Kd.R_away HO_4.out (fun _ hk => hk))) (hHeld.2.2.2.2.1)))))), (cff_ (Kd.own_blk (Kd.R_away HO_4.out (fun _ hk => hk))) ((cff_ (Kd.own_blk (Kd.R_away HO_4.out (fun _ hk => hk))) ((cff_ (Kd.own_blk (Kd.R_away HO_4.out (fun _ hk => hk))) (hHeld.2.2.2.2.2.1)))))), (cff_ (Kd.own_blk (Kd.R_away HO_4.out (fun _ hk => hk))) ((cff_ (Kd.own_blk (Kd.R_away HO_4.out (fun _ hk => hk))) ((cff_ (Kd.own_blk (Kd.R_away HO_4.out (fun _ hk => hk))) (hHeld.2.2.2.2.2.2.1)))))), (cfa_ (nw_ hw224_0 GW229.out) ((cfa_ (nw_ hw224_0 GW229.out) ((cfa_ (nw_ hw224_0 GW229.out) (hHeld.2.2.2.2.2.2.2.1)))))), (cfa_ (nw_ hw224_1 GW229.out) ((cfa_ (nw_ hw224_1 GW229.out) ((cfa_ (nw_ hw224_1 GW229.out) (hHeld.2.2.2.2.2.2.2.2.1)))))), (cfa_ (nw_ hw224_2 GW229.out) ((cfa_ (nw_ hw224_2 GW229.out) ((cfa_ (nw_ hw224_2 GW229.out) (hHeld.2.2.2.2.2.2.2.2.2.1)))))), (cfa_ (nw_ hw224_3 GW229.out) ((cfa_ (nw_ hw224_3 GW229.out) ((cfa_ (nw_ hw224_3 GW229.out) (hHeld.2.2.2.2.2.2.2.2.2.2.1)))))), (cfa_ (nw_ hw224_4 GW229.out) ((cfa_ (nw_ hw224_4 GW229.out) ((cfa_ (nw_ hw224_4 GW229.out) (hHeld.2.2.2.2.2.2.2.2.2.2.2.1)))))), (cfa_ (nw_ hw224_5 GW229.out) ((cfa_ (nw_ hw224_5 GW229.out) ((cfa_ (nw_ hw224_5 GW229.out) (hHeld.2.2.2.2.2.2.2.2.2.2.2.2.1)))))), (cfa_ (nw_ hw224_6 GW229.out) ((cfa_ (nw_ hw224_6 GW229.out) ((cfa_ (nw_ hw224_6 GW229.out) (hHeld.2.2.2.2.2.2.2.2.2.2.2.2.2.1)))))), (cfa_ (nw_ hw224_7 GW229.out) ((cfa_ (nw_ hw224_7 GW229.out) ((cfa_ (nw_ hw224_7 GW229.out) (hHeld.2.2.2.2.2.2.2.2.2.2.2.2.2.2.1)))))), (cfa_ (nw_ hw224_8 GW229.out) ((cfa_ (nw_ hw224_8 GW229.out) ((cfa_ (nw_ hw224_8 GW229.out) (hHeld.2.2.2.2.2.2.2.2.2.2.2.2.2.2.2))))))⟩ (fun hHeld => ?_); clear hK K; refine pv_ 15 16 65535 ?_; refine done_ (done_of HT_.out (by kernel_rfl)) ?_
          try go_wp2
          go_ret2
          exact ⟨_, by first | rfl | (simp [errW_none, errW_some] <;> rfl) | (simp [*, errW_none, errW_some] <;> rfl), by first | exact Kd.R_nil _ _ _ _ _ | exact Kd.N_nil _ _ _ _ _ | exact Kd.V_nil _ _ _ _ _ | exact Kd.Q_nil _ _ _ _ _ | exact Kd.S_nil _ _ _ _ _, be_ HB.out⟩
        ·
         rw [if_neg c18] at H; exact absurd H (by simp)
       ·
        rw [if_neg c17] at H; exact absurd H (by simp)
      ·
       rw [if_neg c16] at H; have c16b0 : decide (x5_2 < (l0_3.length : Int)) = false := df_ c16; clear c16; simp only [Option.some.injEq, Prod.mk.injEq] at H; obtain ⟨rfl, rfl⟩ := H; have hcz43 := box4_ BK217.out
       go_wp2
       go_ret2
       exact ⟨_, by first | rfl | (simp [errW_none, errW_some] <;> rfl) | (simp [*, errW_none, errW_some] <;> rfl), by (with_reducible repeat (first | apply Kd.R_alloc | apply Kd.R_drewN | apply Kd.R_drew)); exact HO_4.out, be_ HB.out⟩

def spec_ModelOk.f (k : Nat) (a0_0 : Int) (a0_1 : Int) (a0_2 : Int) (l0_3 : List (S55)) : Option (Bool) := (spec_l04Shapes.f k a0_0 a0_1 a0_2 l0_3).bind fun bt234 => (some bt234.2)
set_option maxHeartbeats 8000000 in
set_option maxRecDepth 100000 in
theorem spec_ModelOk.calls {k : Nat} {a0_0 : Int} {a0_1 : Int} {a0_2 : Int} {A0_3 : Option Addr} {c0_3 : Nat} {l0_3 : List (S55)} {r : Bool} {w : World} (hr0_3 : Kd.C k55 w A0_3 l0_3.length l0_3) (hc0_3 : l0_3.length ≤ c0_3) (h : spec_ModelOk.f k a0_0 a0_1 a0_2 l0_3 = some r) :
  Calls Tryz.prog 27 #[.agg #[.int .i64 a0_0, .int .i64 a0_1, .int .i64 a0_2, .slice A0_3 l0_3.length c0_3]] w fun e w' => e = .returned (.bool r) ∧ Below w.heap.size w w' := by
 have hu26 := Tryz.underlying26; have HR0_3 := Aside0.mk hr0_3; have HC0_3 := Aside0.mk hc0_3; clear hr0_3 hc0_3; have HB := Aside0.mk (Below.refl w.heap.size w); have H : ((spec_l04Shapes.f k a0_0 a0_1 a0_2 l0_3).bind fun bt234 => (some bt234.2)) = some r := h; clear h; obtain ⟨⟨t234, t237⟩, A2, H⟩ := bo_ H; (try dsimp only at H); obtain rfl := oi_ H
 go_enter Tryz.func27, Tryz.ntmps27
 go_wp2_with (first | ((with_reducible refine gate_dst (N := 1) rfl ?_); refine bz_ 1 ?_; intro gb233 hg w3 hbox hb; obtain ⟨BK233, GW233, GE233, HB⟩ := nb_ hg hbox HB hb; clear hb hbox hg; have hcz4 := box4_ BK233.out) | ((with_reducible refine gc_ 63 ?_); refine gw_ (some 7) Tryz.func63 ?_; (with_reducible refine (spec_l04Shapes.calls ?_ ?_ A2.out).mono ?_); exact cu_ HR0_3.out HB.out; exact HC0_3.out; rintro e w5 ⟨v235, rfl, ho0, hb⟩; refine ⟨_, rfl, ?_⟩; have HO236 := Aside0.mk (Kd.R_lower ho0 (below_size (be_ HB.out))); replace BK233 := bb_ BK233 hb; replace HB := hb_ HB hb; (try clear hb ho0)))
 go_ret
 exact rt_ HB.out

end Go.Proofs.YtgolleldpmkkoaaGreatDoor.QFnExactParsePlan
