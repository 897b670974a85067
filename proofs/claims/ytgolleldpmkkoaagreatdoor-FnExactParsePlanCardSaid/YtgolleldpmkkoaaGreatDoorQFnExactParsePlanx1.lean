/- The Go functions that the statement FnExactParsePlan reaches, as Lean functions, each with a proof that the call does what its function says; laid by a program of this session. No condition. -/
import Derived.Test.YtgolleldpmkkoaaGreatDoorQFnExactParsePlanx0
namespace Go.Proofs.YtgolleldpmkkoaaGreatDoor.QFnExactParsePlan
open Go.RowKit Go.Proofs.YtgolleldpmkkoaaGreatDoorW.PrintWords Go.Proofs.YtgolleldpmkkoaaGreatDoorW.PrintLast Go.Proofs.YtgolleldpmkkoaaGreatDoorW.PrintMore
attribute [local go_sem] max2_int min2_int max_two min_two max_three min_three max_four min_four   -- for this text's walks alone
set_option linter.unusedVariables false
set_option linter.unusedSimpArgs false

def spec_l01Num.l0 : Nat → Int → ByteArray → Bool → Option (ByteArray)
 | 0, _, _, _ => none
 | k + 1, x0, x3, x4 => if x0 = 0 then (if x4 = true then (if 1 + x3.size ≤ 9223372036854775807 then (some ((⟨#[45]⟩ : ByteArray) ++ x3)) else (none)) else (some x3)) else (if (Int.tmod x0 10) < 0 then ((some (([(wrap64 (48 + (wrap64 (-(Int.tmod x0 10))))) % 256] : List Int) : List Int)).bind fun y101 => (if (strOfNums y101).size + x3.size ≤ 9223372036854775807 then (spec_l01Num.l0 k (wrap64 (Int.tdiv x0 10)) ((strOfNums y101) ++ x3) x4) else (none))) else ((some (([(wrap64 (48 + (Int.tmod x0 10))) % 256] : List Int) : List Int)).bind fun y104 => (if (strOfNums y104).size + x3.size ≤ 9223372036854775807 then (spec_l01Num.l0 k (wrap64 (Int.tdiv x0 10)) ((strOfNums y104) ++ x3) x4) else (none))))
def spec_l01Num.f (k : Nat) (a0 : Int) : Option (ByteArray) := if a0 = 0 then (some (⟨#[48]⟩ : ByteArray)) else (spec_l01Num.l0 k a0 (⟨#[]⟩ : ByteArray) (decide (a0 < 0)))
set_option maxHeartbeats 8000000 in
set_option maxRecDepth 100000 in
theorem spec_l01Num.calls {k : Nat} {a0 : Int} {r : ByteArray} {w : World} (h : spec_l01Num.f k a0 = some r) :
  Calls Tryz.prog 38 #[.int .i64 a0] w fun e w' => e = .returned (.string r) ∧ Below w.heap.size w w' := by
 have HB := Aside0.mk (Below.refl w.heap.size w); have H : (if a0 = 0 then (some (⟨#[48]⟩ : ByteArray)) else (spec_l01Num.l0 k a0 (⟨#[]⟩ : ByteArray) (decide (a0 < 0)))) = some r := h; clear h
 by_cases c2 : a0 = 0
 ·
  rw [if_pos c2] at H; have c2b0 : (a0 == 0) = true := eq1_ c2; have c2b1 : (a0 != 0) = false := ne0_ c2; clear c2; obtain rfl := oi_ H
  go_enter Tryz.func38, Tryz.ntmps38
  go_wp2
  go_ret
  exact rt_ HB.out
 ·
  rw [if_neg c2] at H; have c2b0 : (a0 == 0) = false := eq0_ c2; have c2b1 : (a0 != 0) = true := ne1_ c2; have H' := Aside0.mk H; clear H
  go_enter Tryz.func38, Tryz.ntmps38
  go_wp2
  go_loopg [0, 3] k (fun kq v0 v3 w' => ∃ (x0_1 : Int) (x3_1 : ByteArray), v0 = .int .i64 x0_1 ∧ v3 = .string x3_1 ∧ Aside0 (spec_l01Num.l0 kq x0_1 x3_1 (decide (a0 < 0)) = some r) ∧ Aside0 (kq ≤ k) ∧ Aside0 (Below w.heap.size w w'))
  case atStart => exact ⟨(a0), ((⟨#[]⟩ : ByteArray)), rl_, rl_, H', ⟨Nat.le_refl _⟩, ⟨be_ HB.out⟩⟩
  case round =>
   clear H'; (try clear c2); (try clear c2b0); (try clear c2b1); (try clear p2); obtain ⟨x0_1, x3_1, rfl, rfl, HA, HK1, HB⟩ := hrel
   cases gk with
   | zero => exact absurd HA.out (by simp [spec_l01Num.l0])
   | succ k1 =>
    have H := HA.out; clear HA; simp only [spec_l01Num.l0] at H
    by_cases c3 : x0_1 = 0
    ·
     rw [if_pos c3] at H; have c3b0 : (x0_1 == 0) = true := eq1_ c3; have c3b1 : (x0_1 != 0) = false := ne0_ c3; clear c3
     by_cases c4 : (decide (a0 < 0)) = true
     ·
      rw [if_pos c4] at H; have c4b0 : (decide (a0 < 0)) = true := c4; have c4p0 := of_decide_eq_true c4b0; clear c4
      by_cases c5 : 1 + x3_1.size ≤ 9223372036854775807
      ·
       rw [if_pos c5] at H; have c5b0 := eq_true c5; have c5b1 : decide (1 + x3_1.size ≤ 9223372036854775807) = true := dt_ c5; (try have c5b2 : (9223372036854775807 < 1 + x3_1.size) = False := eq_false (Nat.not_lt.2 c5)); obtain rfl := oi_ H
       go_wp2
       go_ret
       exact rt_ HB.out
      ·
       rw [if_neg c5] at H; exact absurd H (by simp)
     ·
      rw [if_neg c4] at H; have c4b0 : (decide (a0 < 0)) = false := by simpa using c4
      have c4p0 := of_decide_eq_false c4b0; clear c4; obtain rfl := oi_ H
      go_wp2
      go_ret
      exact rt_ HB.out
    ·
     rw [if_neg c3] at H; have c3b0 : (x0_1 == 0) = false := eq0_ c3; have c3b1 : (x0_1 != 0) = true := ne1_ c3
     by_cases c6 : (Int.tmod x0_1 10) < 0
     ·
      rw [if_pos c6] at H; have c6b0 : decide ((Int.tmod x0_1 10) < 0) = true := dt_ c6; clear c6; obtain ⟨y101, hy_⟩ : ∃ y_ : List Int, y_ = (([(wrap64 (48 + (wrap64 (-(Int.tmod x0_1 10))))) % 256] : List Int)) := ⟨_, rfl⟩; replace H : (if (strOfNums y101).size + x3_1.size ≤ 9223372036854775807 then (spec_l01Num.l0 k1 (wrap64 (Int.tdiv x0_1 10)) ((strOfNums y101) ++ x3_1) (decide (a0 < 0))) else (none)) = some r := yh_
      have Ny101 := Aside0.mk hy_; clear hy_
      by_cases c7 : (strOfNums y101).size + x3_1.size ≤ 9223372036854775807
      ·
       rw [if_pos c7] at H; have c7b0 := eq_true c7; have c7b1 : decide ((strOfNums y101).size + x3_1.size ≤ 9223372036854775807) = true := dt_ c7; (try have c7b2 : (9223372036854775807 < (strOfNums y101).size + x3_1.size) = False := eq_false (Nat.not_lt.2 c7)); have H' := Aside0.mk H; clear H
       go_wp2_with (first | ((with_reducible refine gate_dst (N := 21) rfl ?_); refine Kd.R_lit (Kd.int .u8) _ 5 ?hg (N := 21) ?hd (xs := ([(wrap64 (48 + (wrap64 (-(Int.tmod x0_1 10))))) % 256] : List Int)) (inner := [.int .u8 ((wrap64 (48 + (wrap64 (-(Int.tmod x0_1 10))))) % 256)]) (ok := fun _ => True) (okp := fun _ => True) ?hr ?hp (fun _ hk => hk) trivial (Below.refl _ _) (Nat.le_refl _) (by simp) ?_; (case hd => rfl); (case hg => rfl); (case hr => first | (go_simp; done) | (go_simp; rfl)); (case hp => exact (Reps.one (show Kd.M (Kd.int .u8) _ _ _ ((wrap64 (48 + (wrap64 (-(Int.tmod x0_1 10))))) % 256) [.int .u8 ((wrap64 (48 + (wrap64 (-(Int.tmod x0_1 10))))) % 256)] from rfl) (Reps.none _ _))); intro v102 w8 ho9 hb hg_ hnew_; clear hg_ hnew_; (first | rw [← Ny101.out] at ho9 | (simp only [Int.reduceToNat] at ho9; rw [← Ny101.out] at ho9)); have HO103 := Aside0.mk (Kd.R_lower ho9 (below_size (be_ HB.out))); replace HB := hb_ HB hb; clear hb ho9; have hcv10 := own_string (P := Tryz.prog) Tryz.underlying41 Tryz.underlying5 Tryz.underlying9 (Kd.own_of_R HO103.out)))
       go_roundg k1
       case measure => have := HK1.out; omega
       case rel => exact ⟨(wrap64 (Int.tdiv x0_1 10)), ((strOfNums y101) ++ x3_1), rl_, rl_, H', ⟨by have := HK1.out; omega⟩, ⟨be_ HB.out⟩⟩
      ·
       rw [if_neg c7] at H; exact absurd H (by simp)
     ·
      rw [if_neg c6] at H; have c6b0 : decide ((Int.tmod x0_1 10) < 0) = false := df_ c6; clear c6; obtain ⟨y104, hy_⟩ : ∃ y_ : List Int, y_ = (([(wrap64 (48 + (Int.tmod x0_1 10))) % 256] : List Int)) := ⟨_, rfl⟩; replace H : (if (strOfNums y104).size + x3_1.size ≤ 9223372036854775807 then (spec_l01Num.l0 k1 (wrap64 (Int.tdiv x0_1 10)) ((strOfNums y104) ++ x3_1) (decide (a0 < 0))) else (none)) = some r := yh_
      have Ny104 := Aside0.mk hy_; clear hy_
      by_cases c11 : (strOfNums y104).size + x3_1.size ≤ 9223372036854775807
      ·
       rw [if_pos c11] at H; have c11b0 := eq_true c11; have c11b1 : decide ((strOfNums y104).size + x3_1.size ≤ 9223372036854775807) = true := dt_ c11; (try have c11b2 : (9223372036854775807 < (strOfNums y104).size + x3_1.size) = False := eq_false (Nat.not_lt.2 c11)); have H' := Aside0.mk H; clear H
       go_wp2_with (first | ((with_reducible refine gate_dst (N := 21) rfl ?_); refine Kd.R_lit (Kd.int .u8) _ 5 ?hg (N := 21) ?hd (xs := ([(wrap64 (48 + (Int.tmod x0_1 10))) % 256] : List Int)) (inner := [.int .u8 ((wrap64 (48 + (Int.tmod x0_1 10))) % 256)]) (ok := fun _ => True) (okp := fun _ => True) ?hr ?hp (fun _ hk => hk) trivial (Below.refl _ _) (Nat.le_refl _) (by simp) ?_; (case hd => rfl); (case hg => rfl); (case hr => first | (go_simp; done) | (go_simp; rfl)); (case hp => exact (Reps.one (show Kd.M (Kd.int .u8) _ _ _ ((wrap64 (48 + (Int.tmod x0_1 10))) % 256) [.int .u8 ((wrap64 (48 + (Int.tmod x0_1 10))) % 256)] from rfl) (Reps.none _ _))); intro v105 w12 ho13 hb hg_ hnew_; clear hg_ hnew_; (first | rw [← Ny104.out] at ho13 | (simp only [Int.reduceToNat] at ho13; rw [← Ny104.out] at ho13)); have HO106 := Aside0.mk (Kd.R_lower ho13 (below_size (be_ HB.out))); replace HB := hb_ HB hb; clear hb ho13; have hcv14 := own_string (P := Tryz.prog) Tryz.underlying41 Tryz.underlying5 Tryz.underlying9 (Kd.own_of_R HO106.out)))
       go_roundg k1
       case measure => have := HK1.out; omega
       case rel => exact ⟨(wrap64 (Int.tdiv x0_1 10)), ((strOfNums y104) ++ x3_1), rl_, rl_, H', ⟨by have := HK1.out; omega⟩, ⟨be_ HB.out⟩⟩
      ·
       rw [if_neg c11] at H; exact absurd H (by simp)

def spec_l01In.f (a0 : Int) (a1 : Int) (a2 : Int) : Option (Bool) := if a1 ≤ a0 then (some (decide (a0 ≤ a2))) else (some false)
set_option maxHeartbeats 8000000 in
set_option maxRecDepth 100000 in
theorem spec_l01In.calls {a0 : Int} {a1 : Int} {a2 : Int} {r : Bool} {w : World} (h : spec_l01In.f a0 a1 a2 = some r) :
  Calls Tryz.prog 57 #[.int .i64 a0, .int .i64 a1, .int .i64 a2] w fun e w' => e = .returned (.bool r) ∧ Drawn0 w w' := by
 have H : (if a1 ≤ a0 then (some (decide (a0 ≤ a2))) else (some false)) = some r := h; clear h
 by_cases c4 : a1 ≤ a0
 ·
  rw [if_pos c4] at H; have c4b0 : decide (a1 ≤ a0) = true := dt_ c4; clear c4; obtain rfl := oi_ H
  go_enter Tryz.func57, Tryz.ntmps57
  go_wp2
  go_ret
  exact ⟨by first | rfl | (simp; done) | (simp [*]; done), by repeat (first | exact Drawn0.refl _ | apply Drawn0.step)⟩
 ·
  rw [if_neg c4] at H; have c4b0 : decide (a1 ≤ a0) = false := df_ c4; clear c4; obtain rfl := oi_ H
  go_enter Tryz.func57, Tryz.ntmps57
  go_wp2
  go_ret
  exact ⟨by first | rfl | (simp; done) | (simp [*]; done), by repeat (first | exact Drawn0.refl _ | apply Drawn0.step)⟩

mutual
def spec_l02Read.j0 : Nat → ByteArray → ByteArray → Bool → Option (Int × Bool)
 | 0, _, _, _ => none
 | k + 1, x0, x4, x15 => if x15 = true then (if 1 ≤ (x0.size : Int) then (spec_l02Read.j1 k x0 (x0.extract 1 x0.size)) else (none)) else (spec_l02Read.j1 k x0 x4)
def spec_l02Read.j1 : Nat → ByteArray → ByteArray → Option (Int × Bool)
 | 0, _, _ => none
 | k + 1, x0, x4 => (spec_l01In.f (x4.size : Int) 1 9).bind fun t107 => (if t107 = true then (spec_l02Read.l0 k x0 x4 0 0) else (some (0, false)))
def spec_l02Read.l0 : Nat → ByteArray → ByteArray → Int → Int → Option (Int × Bool)
 | 0, _, _, _, _ => none
 | k + 1, x0, x4, x5, x6 => if x6 < (x4.size : Int) then (if 0 ≤ x6 then (if (bt x4 x6) < 48 then (some (0, false)) else (if (bt x4 x6) > 57 then (some (0, false)) else (spec_l02Read.l0 k x0 x4 (wrap64 ((wrap64 ((wrap64 (10 * x5)) + (wrap64 (bt x4 x6)))) - 48)) (wrap64 (x6 + 1))))) else (none)) else (if (x4.size : Int) < (x0.size : Int) then ((spec_l01Num.f k (wrap64 (-x5))).bind fun t108 => (some (wrap64 (-x5), (t108.toList == x0.toList)))) else ((spec_l01Num.f k x5).bind fun t109 => (some (x5, (t109.toList == x0.toList)))))
end
def spec_l02Read.f (k : Nat) (a0 : ByteArray) : Option (Int × Bool) := if (a0.size : Int) > 0 then (if 0 < (a0.size : Int) then (spec_l02Read.j0 k a0 a0 ((bt a0 0) == 45)) else (none)) else (spec_l02Read.j0 k a0 a0 false)
set_option maxHeartbeats 8000000 in
set_option maxRecDepth 100000 in
theorem spec_l02Read.calls {k : Nat} {a0 : ByteArray} {r1 : Int} {r2 : Bool} {w : World} (h : spec_l02Read.f k a0 = some (r1, r2)) :
  Calls Tryz.prog 58 #[.string a0] w fun e w' => e = .returned (.tuple #[.int .i64 r1, .bool r2]) ∧ Below w.heap.size w w' := by
 have HB := Aside0.mk (Below.refl w.heap.size w); have H : (if (a0.size : Int) > 0 then (if 0 < (a0.size : Int) then (spec_l02Read.j0 k a0 a0 ((bt a0 0) == 45)) else (none)) else (spec_l02Read.j0 k a0 a0 false)) = some (r1, r2) := h; clear h; have HC2 := Aside0.mk H; clear H
 go_enter Tryz.func58, Tryz.ntmps58
 go_upto_region 2 with (fail)
 go_cut [15] (fun v15 wc => ∃ (kq : Nat) (x15_1 : Bool), v15 = .bool x15_1 ∧ Aside0 (spec_l02Read.j0 kq a0 a0 x15_1 = some (r1, r2)) ∧ Aside0 (kq ≤ k) ∧ Aside0 (Below w.heap.size w wc))
 case first =>
  have H := HC2.out; clear HC2
  by_cases c3 : (a0.size : Int) > 0
  ·
   rw [if_pos c3] at H; have c3b0 : decide (0 < (a0.size : Int)) = true := dt_ c3; have c3b1 : decide (0 < a0.size) = true := decide_eq_true (by omega); clear c3; (first | rw [c3b0] | (simp only [i64_w, i32_w]; rw [c3b0]) | skip)
   by_cases c4 : 0 < (a0.size : Int)
   ·
    rw [if_pos c4] at H; have c4b0 : decide (0 < (a0.size : Int)) = true := dt_ c4; have c4b1 : decide (0 < a0.size) = true := decide_eq_true (by omega); clear c4; have H' := Aside0.mk H; clear H; have p5 : 0 ≤ (0 : Int) := (by omega); have q5 : 0 < a0.size := (by have : (0 : Int) < (a0.size : Int) := od_; omega); have hx5 : ∀ h : 0 < a0.size, ((a0[0]'h).toNat : Int) = bt a0 0 := bt_at a0 0; clear p5; have qi5 : (0 < (a0.size : Int)) = True := eq_true (od_); replace q5 := eq_true q5
    go_wp2
    go_meet
    case rel => exact ⟨_, (((bt a0 0) == 45)), rl_, H', ⟨ro_⟩, ⟨be_ HB.out⟩⟩
   ·
    rw [if_neg c4] at H; exact absurd H (by simp)
  ·
   rw [if_neg c3] at H; have c3b0 : decide (0 < (a0.size : Int)) = false := df_ c3; have c3b1 : decide (0 < a0.size) = false := decide_eq_false (by omega); clear c3; (first | rw [c3b0] | (simp only [i64_w, i32_w]; rw [c3b0]) | skip); have H' := Aside0.mk H; clear H
   go_wp2
   go_meet
   case rel => exact ⟨_, (false), rl_, H', ⟨ro_⟩, ⟨be_ HB.out⟩⟩
 case rest =>
  clear HC2; (try clear p2); (try clear c3); (try clear c3b0); (try clear c3b1); (try clear c4); (try clear c4b0); (try clear c4b1); (try clear c5); (try clear p5); (try clear q5); (try clear hx5); (try clear qi5); (try clear p5); (try clear q5); obtain ⟨kq, x15_1, rfl, HA, HJ1, HB⟩ := hcut
  cases kq with
  | zero => exact absurd HA.out (by simp [spec_l02Read.j0])
  | succ kj1 =>
   have H := HA.out; clear HA; simp only [spec_l02Read.j0] at H; have HC6 := Aside0.mk H; clear H
   go_upto_if 15 with (fail)
   go_cut [4] (fun v4 wc => ∃ (kq : Nat) (x4_5 : ByteArray), v4 = .string x4_5 ∧ Aside0 (spec_l02Read.j1 kq a0 x4_5 = some (r1, r2)) ∧ Aside0 (kq ≤ kj1) ∧ Aside0 (Below w.heap.size w wc))
   case first =>
    have H := HC6.out; clear HC6
    by_cases c7 : x15_1 = true
    ·
     subst c7; rw [if_pos rfl] at H
     by_cases c8 : 1 ≤ (a0.size : Int)
     ·
      rw [if_pos c8] at H; have c8b0 := eq_true c8; have c8b1 : decide (1 ≤ (a0.size : Int)) = true := dt_ c8; clear c8; have H' := Aside0.mk H; clear H
      go_wp2
      go_meet
      case rel => exact ⟨_, (a0.extract 1 a0.size), rl_, H', ⟨by have := HJ1.out; first | omega | exact Nat.le_refl _⟩, ⟨be_ HB.out⟩⟩
     ·
      rw [if_neg c8] at H; exact absurd H (by simp)
    ·
     replace c7 := fb_ c7; subst c7; replace H := if0_ H
     have H' := Aside0.mk H; clear H
     go_wp2
     go_meet
     case rel => exact ⟨_, (a0), rl_, H', ⟨by have := HJ1.out; first | omega | exact Nat.le_refl _⟩, ⟨be_ HB.out⟩⟩
   case rest =>
    clear HC6; (try clear p2); (try clear c3); (try clear c3b0); (try clear c3b1); (try clear c4); (try clear c4b0); (try clear c4b1); (try clear c5); (try clear p5); (try clear q5); (try clear hx5); (try clear qi5); (try clear c7); (try clear c8); (try clear c8b0); (try clear c8b1); (try clear p2); (try clear p5); (try clear q5); obtain ⟨kq, x4_5, rfl, HA, HJ5, HB⟩ := hcut
    cases kq with
    | zero => exact absurd HA.out (by simp [spec_l02Read.j1])
    | succ kj5 =>
     have H := HA.out; clear HA; simp only [spec_l02Read.j1] at H; obtain ⟨t107, A9, H⟩ := bo_ H; (try dsimp only at H)
     by_cases c10 : t107 = true
     ·
      subst c10; rw [if_pos rfl] at H; have H' := Aside0.mk H; clear H
      go_wp2_with (first | ((with_reducible refine gc_ 57 ?_); refine gw_ (some 20) Tryz.func57 ?_; (with_reducible refine (spec_l01In.calls A9.out).mono ?_); rintro e w' ⟨rfl, ⟨nd, rfl⟩⟩; refine ⟨_, rfl, ?_⟩))
      (try simp only [Act.put, List.setIfInBounds_toArray, List.set_cons_zero, List.set_cons_succ])
      go_loopg [5, 6] kj5 (fun kq v5 v6 w' => ∃ (x5_3 : Int) (x6_3 : Int), v5 = .int .i64 x5_3 ∧ v6 = .int .i64 x6_3 ∧ Aside0 (spec_l02Read.l0 kq a0 x4_5 x5_3 x6_3 = some (r1, r2)) ∧ Aside0 (kq ≤ kj5) ∧ Aside0 (Below w.heap.size w w'))
      case atStart => exact ⟨(0), (0), rl_, rl_, H', ⟨Nat.le_refl _⟩, ⟨be_ HB.out⟩⟩
      case round =>
       clear H'; (try clear c1); (try clear p2); (try clear c3); (try clear c3b0); (try clear c3b1); (try clear c4); (try clear c4b0); (try clear c4b1); (try clear c5); (try clear p5); (try clear q5); (try clear hx5); (try clear qi5); (try clear c7); (try clear c8); (try clear c8b0); (try clear c8b1); (try clear c10); (try clear p2); (try clear p5); (try clear q5); obtain ⟨x5_3, x6_3, rfl, rfl, HA, HK3, HB⟩ := hrel
       cases gk with
       | zero => exact absurd HA.out (by simp [spec_l02Read.l0])
       | succ k3 =>
        have H := HA.out; clear HA; simp only [spec_l02Read.l0] at H
        by_cases c11 : x6_3 < (x4_5.size : Int)
        ·
         rw [if_pos c11] at H; have c11b0 : decide (x6_3 < (x4_5.size : Int)) = true := dt_ c11; clear c11
         by_cases c12 : 0 ≤ x6_3
         ·
          rw [if_pos c12] at H; have c12b0 : decide (0 ≤ x6_3) = true := dt_ c12; clear c12
          by_cases c14 : (bt x4_5 x6_3) < 48
          ·
           rw [if_pos c14] at H; have c14b0 : decide ((bt x4_5 x6_3) < 48) = true := dt_ c14; clear c14; simp only [Option.some.injEq, Prod.mk.injEq] at H; obtain ⟨rfl, rfl⟩ := H; have p13 : 0 ≤ (x6_3 : Int) := od_; have q13 : x6_3 < (x4_5.size : Int) := od_; have hx13 := bt_at x4_5 x6_3; replace p13 := eq_true p13; replace q13 := eq_true q13
           go_wp2
           go_ret2
           exact rt_ HB.out
          ·
           rw [if_neg c14] at H; have c14b0 : decide ((bt x4_5 x6_3) < 48) = false := df_ c14; clear c14
           by_cases c16 : (bt x4_5 x6_3) > 57
           ·
            rw [if_pos c16] at H; have c16b0 : decide (57 < (bt x4_5 x6_3)) = true := dt_ c16; clear c16; simp only [Option.some.injEq, Prod.mk.injEq] at H; obtain ⟨rfl, rfl⟩ := H; have p13 : 0 ≤ (x6_3 : Int) := od_; have q13 : x6_3 < (x4_5.size : Int) := od_; have hx13 := bt_at x4_5 x6_3; replace p13 := eq_true p13; replace q13 := eq_true q13; have p15 : 0 ≤ (x6_3 : Int) := od_; have q15 : x6_3 < (x4_5.size : Int) := od_; have hx15 := bt_at x4_5 x6_3; replace p15 := eq_true p15; replace q15 := eq_true q15
            go_wp2
            go_ret2
            exact rt_ HB.out
           ·
            rw [if_neg c16] at H; have c16b0 : decide (57 < (bt x4_5 x6_3)) = false := df_ c16; clear c16; have H' := Aside0.mk H; clear H; have p13 : 0 ≤ (x6_3 : Int) := od_; have q13 : x6_3 < (x4_5.size : Int) := od_; have hx13 := bt_at x4_5 x6_3; replace p13 := eq_true p13; replace q13 := eq_true q13; have p15 : 0 ≤ (x6_3 : Int) := od_; have q15 : x6_3 < (x4_5.size : Int) := od_; have hx15 := bt_at x4_5 x6_3; replace p15 := eq_true p15; replace q15 := eq_true q15; have p17 : 0 ≤ (x6_3 : Int) := od_; have q17 : x6_3 < (x4_5.size : Int) := od_; have hx17 := bt_at x4_5 x6_3; replace p17 := eq_true p17; replace q17 := eq_true q17
            go_wp2
            go_roundg k3
            case measure => have := HJ1.out; have := HJ5.out; have := HK3.out; omega
            case rel => exact ⟨(wrap64 ((wrap64 ((wrap64 (10 * x5_3)) + (wrap64 (bt x4_5 x6_3)))) - 48)), (wrap64 (x6_3 + 1)), rl_, rl_, H', ⟨by have := HJ1.out; have := HJ5.out; have := HK3.out; omega⟩, ⟨be_ HB.out⟩⟩
         ·
          rw [if_neg c12] at H; exact absurd H (by simp)
        ·
         rw [if_neg c11] at H; have c11b0 : decide (x6_3 < (x4_5.size : Int)) = false := df_ c11; clear c11
         by_cases c18 : (x4_5.size : Int) < (a0.size : Int)
         ·
          rw [if_pos c18] at H; have c18b0 : decide ((x4_5.size : Int) < (a0.size : Int)) = true := dt_ c18; have c18b1 : decide (x4_5.size < a0.size) = true := decide_eq_true (Int.ofNat_lt.mp c18); clear c18; obtain ⟨t108, A19, H⟩ := bo_ H; (try dsimp only at H); simp only [Option.some.injEq, Prod.mk.injEq] at H; obtain ⟨rfl, rfl⟩ := H
          go_wp2_with (first | ((with_reducible refine gc_ 38 ?_); refine gw_ (some 55) Tryz.func38 ?_; (with_reducible refine (spec_l01Num.calls A19.out).mono ?_); rintro e w20 ⟨rfl, hb⟩; refine ⟨_, rfl, ?_⟩; replace HB := hb_ HB hb; (try clear hb)))
          go_ret2
          exact rt_ HB.out
         ·
          rw [if_neg c18] at H; have c18b0 : decide ((x4_5.size : Int) < (a0.size : Int)) = false := df_ c18; have c18b1 : decide (x4_5.size < a0.size) = false := decide_eq_false (fun h => c18 (Int.ofNat_lt.mpr h)); clear c18; obtain ⟨t109, A21, H⟩ := bo_ H; (try dsimp only at H); simp only [Option.some.injEq, Prod.mk.injEq] at H; obtain ⟨rfl, rfl⟩ := H
          go_wp2_with (first | ((with_reducible refine gc_ 38 ?_); refine gw_ (some 55) Tryz.func38 ?_; (with_reducible refine (spec_l01Num.calls A21.out).mono ?_); rintro e w22 ⟨rfl, hb⟩; refine ⟨_, rfl, ?_⟩; replace HB := hb_ HB hb; (try clear hb)))
          go_ret2
          exact rt_ HB.out
     ·
      replace c10 := fb_ c10; subst c10; replace H := if0_ H
      simp only [Option.some.injEq, Prod.mk.injEq] at H; obtain ⟨rfl, rfl⟩ := H
      go_wp2_with (first | ((with_reducible refine gc_ 57 ?_); refine gw_ (some 20) Tryz.func57 ?_; (with_reducible refine (spec_l01In.calls A9.out).mono ?_); rintro e w' ⟨rfl, ⟨nd, rfl⟩⟩; refine ⟨_, rfl, ?_⟩))
      go_ret2
      exact rt_ HB.out

def spec_l10Numbers.l0 : Nat → List ByteArray → List Int → Int → Option (List Int × Bool)
 | 0, _, _, _ => none
 | k + 1, x0, x4, x5 => if x5 < (x0.length : Int) then (if 0 ≤ x5 then ((spec_l02Read.f k (rdOf ByteArray.empty x0 x5)).bind fun bt114 => (if bt114.2 = true then (if x4.length < 17592186044416 then (spec_l10Numbers.l0 k x0 (x4 ++ [bt114.1]) (wrap64 (x5 + 1))) else (none)) else (some (([] : List Int), false)))) else (none)) else (some (x4, true))
def spec_l10Numbers.f (k : Nat) (l0 : List ByteArray) : Option (List Int × Bool) := spec_l10Numbers.l0 k l0 (([] : List Int)) 0
set_option maxHeartbeats 8000000 in
set_option maxRecDepth 100000 in
theorem spec_l10Numbers.calls {k : Nat} {A0 : Option Addr} {c0 : Nat} {l0 : List ByteArray} {r1 : List Int} {r2 : Bool} {w : World} (hr0 : Kd.C Kd.string w A0 l0.length l0) (hc0 : l0.length ≤ c0) (h : spec_l10Numbers.f k l0 = some (r1, r2)) :
  Calls Tryz.prog 23 #[.slice A0 l0.length c0] w fun e w' => ∃ v0_ : Value, e = .returned (.tuple #[v0_, .bool r2]) ∧ Kd.R (Kd.int .i64) 3 w' w.heap.size (fun _ => True) v0_ r1 ∧ Below w.heap.size w w' := by
 have HR0 := Aside0.mk hr0; have HC0 := Aside0.mk hc0; clear hr0 hc0; have HB := Aside0.mk (Below.refl w.heap.size w); have H : (spec_l10Numbers.l0 k l0 (([] : List Int)) 0) = some (r1, r2) := h; clear h; obtain ⟨y110, hy_⟩ : ∃ y_ : List Int, y_ = (([] : List Int)) := ⟨_, rfl⟩; replace H : (spec_l10Numbers.l0 k l0 y110 0) = some (r1, r2) := yh_
 have Ny110 := Aside0.mk hy_; clear hy_; have H' := Aside0.mk H; clear H
 go_enter Tryz.func23, Tryz.ntmps23
 go_wp2_with (first | ((with_reducible refine gate_dst (N := 8) rfl ?_); refine Kd.R_lit (Kd.int .i64) _ 3 ?hg (N := 8) ?hd (xs := ([] : List Int)) (inner := []) (ok := fun _ => True) (okp := fun _ => True) ?hr ?hp (fun _ hk => hk) trivial (Below.refl _ _) (Nat.le_refl _) (by simp) ?_; (case hd => rfl); (case hg => rfl); (case hr => first | (go_simp; done) | (go_simp; rfl)); (case hp => exact (Reps.none _ _)); intro v111 w2 ho3 hb hg_ hnew_; clear hg_ hnew_; (first | rw [← Ny110.out] at ho3 | (simp only [Int.reduceToNat] at ho3; rw [← Ny110.out] at ho3)); have HO112 := Aside0.mk (Kd.R_lower ho3 (below_size (be_ HB.out))); replace HB := hb_ HB hb; clear hb ho3))
 (try simp only [Act.put, List.setIfInBounds_toArray, List.set_cons_zero, List.set_cons_succ])
 go_loopg [4, 5] k (fun kq v4 v5 w' => ∃ (x4_1 : List Int) (x5_1 : Int), v5 = .int .i64 x5_1 ∧ Aside0 (spec_l10Numbers.l0 kq l0 x4_1 x5_1 = some (r1, r2)) ∧ Aside0 (kq ≤ k) ∧ Aside0 (Kd.R (Kd.int .i64) 3 w' w.heap.size (fun _ => True) v4 x4_1) ∧ Aside0 (Below w.heap.size w w'))
 case atStart => exact ⟨(y110), (0), rl_, H', ⟨Nat.le_refl _⟩, ⟨ra_ HO112.out⟩, ⟨be_ HB.out⟩⟩
 case round =>
  clear H'; (try clear c2); (try clear p2); obtain ⟨x4_1, x5_1, rfl, HA, HK1, HO_4, HB⟩ := hrel
  cases gk with
  | zero => exact absurd HA.out (by simp [spec_l10Numbers.l0])
  | succ k1 =>
   have H := HA.out; clear HA; simp only [spec_l10Numbers.l0] at H
   by_cases c4 : x5_1 < (l0.length : Int)
   ·
    rw [if_pos c4] at H; have c4b0 : decide (x5_1 < (l0.length : Int)) = true := dt_ c4; clear c4
    by_cases c5 : 0 ≤ x5_1
    ·
     rw [if_pos c5] at H; have c5b0 : decide (0 ≤ x5_1) = true := dt_ c5; clear c5; obtain ⟨⟨t114, t115⟩, A6, H⟩ := bo_ H; (try dsimp only at H)
     by_cases c7 : t115 = true
     ·
      subst c7; rw [if_pos rfl] at H
      by_cases c8 : x4_1.length < 17592186044416
      ·
       rw [if_pos c8] at H; have LMc8 := Aside0.mk c8; clear c8; obtain ⟨y116, hy_⟩ : ∃ y_ : List Int, y_ = (x4_1 ++ [t114]) := ⟨_, rfl⟩; replace H : (spec_l10Numbers.l0 k1 l0 y116 (wrap64 (x5_1 + 1))) = some (r1, r2) := yh_
       have Ny116 := Aside0.mk hy_; clear hy_; have H' := Aside0.mk H; clear H; have p113 : 0 ≤ (x5_1 : Int) := od_; have q113 : x5_1 < (l0.length : Int) := od_; obtain ⟨ad113, e113, hx113_0⟩ := Kd.at_string HR0.out x5_1 p113 q113
       cases e113
       replace hx113_0 := cw_ HB.out hx113_0; replace p113 := eq_true p113; replace q113 := eq_true q113
       go_wp2_with (first | ((with_reducible refine gc_ 58 ?_); refine gw_ (some 20) Tryz.func58 ?_; (with_reducible refine (spec_l02Read.calls A6.out).mono ?_); rintro e w9 ⟨rfl, hb⟩; refine ⟨_, rfl, ?_⟩; replace HO_4 := rb_ HO_4 hb; replace HB := hb_ HB hb; (try clear hb)) | ((with_reducible refine gate_builtin (b := .append) (xs := #[.tmp 25, .tmp 27]) rfl ?_); at_builtin; refine Kd.R_append (Kd.int .i64) (w0 := w) w.heap.size rfl (.tmp 25) (.tmp 27) 47 3 (.int .i64 0) 8 rfl Tryz.underlying47 info3 rfl (by decide) (by omega) u4 x4_1 t114 [.int .i64 t114] (fun _ => True) (fun _ => False) rfl rfl ?aP (fun _ hk => hk.elim) ?aF ?aO ?aB ?aS ?aL ?_; (case aP => exact rfl); (case aB => exact (be_ HB.out)); (case aF => exact (fun _ _ => trivial)); (case aO => exact (ra_ HO_4.out)); (case aS => exact (below_size (be_ HB.out))); (case aL => have := LMc8.out; omega); intro v117 w10 ho hb hg hat; rw [← Ny116.out] at ho; replace HB := Aside0.mk (hb); have HO118 := Aside0.mk (ho); clear HO_4; clear ho hb hg hat))
       go_roundg k1
       case measure => have := HK1.out; omega
       case rel => exact ⟨(y116), (wrap64 (x5_1 + 1)), rl_, H', ⟨by have := HK1.out; omega⟩, ⟨ra_ HO118.out⟩, ⟨be_ HB.out⟩⟩
      ·
       rw [if_neg c8] at H; exact absurd H (by simp)
     ·
      replace c7 := fb_ c7; subst c7; replace H := if0_ H
      simp only [Option.some.injEq, Prod.mk.injEq] at H; obtain ⟨rfl, rfl⟩ := H; have p113 : 0 ≤ (x5_1 : Int) := od_; have q113 : x5_1 < (l0.length : Int) := od_; obtain ⟨ad113, e113, hx113_0⟩ := Kd.at_string HR0.out x5_1 p113 q113
      cases e113
      replace hx113_0 := cw_ HB.out hx113_0; replace p113 := eq_true p113; replace q113 := eq_true q113
      go_wp2_with (first | ((with_reducible refine gc_ 58 ?_); refine gw_ (some 20) Tryz.func58 ?_; (with_reducible refine (spec_l02Read.calls A6.out).mono ?_); rintro e w11 ⟨rfl, hb⟩; refine ⟨_, rfl, ?_⟩; replace HO_4 := rb_ HO_4 hb; replace HB := hb_ HB hb; (try clear hb)))
      go_ret2
      exact ⟨_, by first | rfl | (simp [errW_none, errW_some] <;> rfl) | (simp [*, errW_none, errW_some] <;> rfl), by first | exact Kd.R_nil _ _ _ _ _ | exact Kd.N_nil _ _ _ _ _ | exact Kd.V_nil _ _ _ _ _ | exact Kd.Q_nil _ _ _ _ _ | exact Kd.S_nil _ _ _ _ _, be_ HB.out⟩
    ·
     rw [if_neg c5] at H; exact absurd H (by simp)
   ·
    rw [if_neg c4] at H; have c4b0 : decide (x5_1 < (l0.length : Int)) = false := df_ c4; clear c4; simp only [Option.some.injEq, Prod.mk.injEq] at H; obtain ⟨rfl, rfl⟩ := H
    go_wp2
    go_ret2
    exact ⟨_, by first | rfl | (simp [errW_none, errW_some] <;> rfl) | (simp [*, errW_none, errW_some] <;> rfl), by (with_reducible repeat (first | apply Kd.R_alloc | apply Kd.R_drewN | apply Kd.R_drew)); exact HO_4.out, be_ HB.out⟩

def spec_l02Parts.l0 : Nat → ByteArray → Int → List ByteArray → Int → Int → Option (List ByteArray)
 | 0, _, _, _, _, _ => none
 | k + 1, x0, x1, x5, x6, x7 => if x7 ≤ (x0.size : Int) then (if x7 = (x0.size : Int) then (if 0 ≤ x6 then (if x6 ≤ x7 then (if x5.length < 8796093022208 then (spec_l02Parts.l0 k x0 x1 (x5 ++ [x0.extract (x6 : Int).toNat (x7 : Int).toNat]) (wrap64 (x7 + 1)) (wrap64 (x7 + 1))) else (none)) else (none)) else (none)) else (if 0 ≤ x7 then (if x7 < (x0.size : Int) then (if (bt x0 x7) = x1 then (if 0 ≤ x6 then (if x6 ≤ x7 then (if x5.length < 8796093022208 then (spec_l02Parts.l0 k x0 x1 (x5 ++ [x0.extract (x6 : Int).toNat (x7 : Int).toNat]) (wrap64 (x7 + 1)) (wrap64 (x7 + 1))) else (none)) else (none)) else (none)) else (spec_l02Parts.l0 k x0 x1 x5 x6 (wrap64 (x7 + 1)))) else (none)) else (none))) else (some x5)
def spec_l02Parts.f (k : Nat) (a0 : ByteArray) (a1 : Int) : Option (List ByteArray) := spec_l02Parts.l0 k a0 a1 (([] : List ByteArray)) 0 0
set_option maxHeartbeats 8000000 in
set_option maxRecDepth 100000 in
theorem spec_l02Parts.calls {k : Nat} {a0 : ByteArray} {a1 : Int} {r : List ByteArray} {w : World} (h : spec_l02Parts.f k a0 a1 = some r) :
  Calls Tryz.prog 24 #[.string a0, .int .u8 a1] w fun e w' => ∃ v0_ : Value, e = .returned (v0_) ∧ Kd.R Kd.string 9 w' w.heap.size (fun _ => True) v0_ r ∧ Below w.heap.size w w' := by
 have HB := Aside0.mk (Below.refl w.heap.size w); have H : (spec_l02Parts.l0 k a0 a1 (([] : List ByteArray)) 0 0) = some r := h; clear h; obtain ⟨y119, hy_⟩ : ∃ y_ : List ByteArray, y_ = (([] : List ByteArray)) := ⟨_, rfl⟩; replace H : (spec_l02Parts.l0 k a0 a1 y119 0 0) = some r := yh_
 have Ny119 := Aside0.mk hy_; clear hy_; have H' := Aside0.mk H; clear H
 go_enter Tryz.func24, Tryz.ntmps24
 go_wp2_with (first | ((with_reducible refine gate_dst (N := 8) rfl ?_); refine Kd.R_lit Kd.string _ 9 ?hg (N := 8) ?hd (xs := ([] : List ByteArray)) (inner := []) (ok := fun _ => True) (okp := fun _ => True) ?hr ?hp (fun _ hk => hk) trivial (Below.refl _ _) (Nat.le_refl _) (by simp) ?_; (case hd => rfl); (case hg => rfl); (case hr => first | (go_simp; done) | (go_simp; rfl)); (case hp => exact (Reps.none _ _)); intro v120 w3 ho4 hb hg_ hnew_; clear hg_ hnew_; (first | rw [← Ny119.out] at ho4 | (simp only [Int.reduceToNat] at ho4; rw [← Ny119.out] at ho4)); have HO121 := Aside0.mk (Kd.R_lower ho4 (below_size (be_ HB.out))); replace HB := hb_ HB hb; clear hb ho4))
 (try simp only [Act.put, List.setIfInBounds_toArray, List.set_cons_zero, List.set_cons_succ])
 go_loopg [5, 6, 7] k (fun kq v5 v6 v7 w' => ∃ (x5_1 : List ByteArray) (x6_1 : Int) (x7_1 : Int), v6 = .int .i64 x6_1 ∧ v7 = .int .i64 x7_1 ∧ Aside0 (spec_l02Parts.l0 kq a0 a1 x5_1 x6_1 x7_1 = some r) ∧ Aside0 (kq ≤ k) ∧ Aside0 (Kd.R Kd.string 9 w' w.heap.size (fun _ => True) v5 x5_1) ∧ Aside0 (Below w.heap.size w w'))
 case atStart => exact ⟨(y119), (0), (0), rl_, rl_, H', ⟨Nat.le_refl _⟩, ⟨ra_ HO121.out⟩, ⟨be_ HB.out⟩⟩
 case round =>
  clear H'; (try clear c2); (try clear p2); obtain ⟨x5_1, x6_1, x7_1, rfl, rfl, HA, HK1, HO_5, HB⟩ := hrel
  cases gk with
  | zero => exact absurd HA.out (by simp [spec_l02Parts.l0])
  | succ k1 =>
   have H := HA.out; clear HA; simp only [spec_l02Parts.l0] at H
   by_cases c5 : x7_1 ≤ (a0.size : Int)
   ·
    rw [if_pos c5] at H; have c5b0 : decide (x7_1 ≤ (a0.size : Int)) = true := dt_ c5; clear c5
    by_cases c6 : x7_1 = (a0.size : Int)
    ·
     rw [if_pos c6] at H; have c6b0 : (x7_1 == (a0.size : Int)) = true := eq1_ c6; have c6b1 : (x7_1 != (a0.size : Int)) = false := ne0_ c6; clear c6
     by_cases c7 : 0 ≤ x6_1
     ·
      rw [if_pos c7] at H; have c7b0 := eq_true c7; have c7b1 : decide (0 ≤ x6_1) = true := dt_ c7; clear c7
      by_cases c8 : x6_1 ≤ x7_1
      ·
       rw [if_pos c8] at H; have c8b0 := eq_true c8; have c8b1 : decide (x6_1 ≤ x7_1) = true := dt_ c8; clear c8; have c9b0 := eq_true (od_ : x7_1 ≤ (a0.size : Int))
       by_cases c10 : x5_1.length < 8796093022208
       ·
        rw [if_pos c10] at H; have LMc10 := Aside0.mk c10; clear c10; obtain ⟨y122, hy_⟩ : ∃ y_ : List ByteArray, y_ = (x5_1 ++ [a0.extract (x6_1 : Int).toNat (x7_1 : Int).toNat]) := ⟨_, rfl⟩; replace H : (spec_l02Parts.l0 k1 a0 a1 y122 (wrap64 (x7_1 + 1)) (wrap64 (x7_1 + 1))) = some r := yh_
        have Ny122 := Aside0.mk hy_; clear hy_; have H' := Aside0.mk H; clear H
        go_wp2_with (first | ((with_reducible refine gate_builtin (b := .append) (xs := #[.tmp 26, .tmp 31]) rfl ?_); at_builtin; refine Kd.R_append Kd.string (w0 := w) w.heap.size rfl (.tmp 26) (.tmp 31) 50 9 (.string ⟨#[]⟩) 16 rfl Tryz.underlying50 info9 rfl (by decide) (by omega) u5 x5_1 (a0.extract (x6_1 : Int).toNat (x7_1 : Int).toNat) [.string (a0.extract (x6_1 : Int).toNat (x7_1 : Int).toNat)] (fun _ => True) (fun _ => False) rfl rfl ?aP (fun _ hk => hk.elim) ?aF ?aO ?aB ?aS ?aL ?_; (case aP => exact rfl); (case aB => exact (be_ HB.out)); (case aF => exact (fun _ _ => trivial)); (case aO => exact (ra_ HO_5.out)); (case aS => exact (below_size (be_ HB.out))); (case aL => have := LMc10.out; omega); intro v123 w11 ho hb hg hat; rw [← Ny122.out] at ho; replace HB := Aside0.mk (hb); have HO124 := Aside0.mk (ho); clear HO_5; clear ho hb hg hat))
        go_roundg k1
        case measure => have := HK1.out; omega
        case rel => exact ⟨(y122), (wrap64 (x7_1 + 1)), (wrap64 (x7_1 + 1)), rl_, rl_, H', ⟨by have := HK1.out; omega⟩, ⟨ra_ HO124.out⟩, ⟨be_ HB.out⟩⟩
       ·
        rw [if_neg c10] at H; exact absurd H (by simp)
      ·
       rw [if_neg c8] at H; exact absurd H (by simp)
     ·
      rw [if_neg c7] at H; exact absurd H (by simp)
    ·
     rw [if_neg c6] at H; have c6b0 : (x7_1 == (a0.size : Int)) = false := eq0_ c6; have c6b1 : (x7_1 != (a0.size : Int)) = true := ne1_ c6
     by_cases c12 : 0 ≤ x7_1
     ·
      rw [if_pos c12] at H; have c12b0 : decide (0 ≤ x7_1) = true := dt_ c12; clear c12
      by_cases c13 : x7_1 < (a0.size : Int)
      ·
       rw [if_pos c13] at H; have c13b0 : decide (x7_1 < (a0.size : Int)) = true := dt_ c13; clear c13
       by_cases c15 : (bt a0 x7_1) = a1
       ·
        rw [if_pos c15] at H; have c15b0 : ((bt a0 x7_1) == a1) = true := eq1_ c15; have c15b1 : ((bt a0 x7_1) != a1) = false := ne0_ c15; clear c15
        by_cases c16 : 0 ≤ x6_1
        ·
         rw [if_pos c16] at H; have c16b0 := eq_true c16; have c16b1 : decide (0 ≤ x6_1) = true := dt_ c16; clear c16
         by_cases c17 : x6_1 ≤ x7_1
         ·
          rw [if_pos c17] at H; have c17b0 := eq_true c17; have c17b1 : decide (x6_1 ≤ x7_1) = true := dt_ c17; clear c17; have c18b0 := eq_true (od_ : x7_1 ≤ (a0.size : Int))
          by_cases c19 : x5_1.length < 8796093022208
          ·
           rw [if_pos c19] at H; have LMc19 := Aside0.mk c19; clear c19; obtain ⟨y125, hy_⟩ : ∃ y_ : List ByteArray, y_ = (x5_1 ++ [a0.extract (x6_1 : Int).toNat (x7_1 : Int).toNat]) := ⟨_, rfl⟩; replace H : (spec_l02Parts.l0 k1 a0 a1 y125 (wrap64 (x7_1 + 1)) (wrap64 (x7_1 + 1))) = some r := yh_
           have Ny125 := Aside0.mk hy_; clear hy_; have H' := Aside0.mk H; clear H; have p14 : 0 ≤ (x7_1 : Int) := od_; have q14 : x7_1 < (a0.size : Int) := od_; have hx14 := bt_at a0 x7_1; replace p14 := eq_true p14; replace q14 := eq_true q14
           go_wp2_with (first | ((with_reducible refine gate_builtin (b := .append) (xs := #[.tmp 26, .tmp 31]) rfl ?_); at_builtin; refine Kd.R_append Kd.string (w0 := w) w.heap.size rfl (.tmp 26) (.tmp 31) 50 9 (.string ⟨#[]⟩) 16 rfl Tryz.underlying50 info9 rfl (by decide) (by omega) u5 x5_1 (a0.extract (x6_1 : Int).toNat (x7_1 : Int).toNat) [.string (a0.extract (x6_1 : Int).toNat (x7_1 : Int).toNat)] (fun _ => True) (fun _ => False) rfl rfl ?aP (fun _ hk => hk.elim) ?aF ?aO ?aB ?aS ?aL ?_; (case aP => exact rfl); (case aB => exact (be_ HB.out)); (case aF => exact (fun _ _ => trivial)); (case aO => exact (ra_ HO_5.out)); (case aS => exact (below_size (be_ HB.out))); (case aL => have := LMc19.out; omega); intro v126 w20 ho hb hg hat; rw [← Ny125.out] at ho; replace HB := Aside0.mk (hb); have HO127 := Aside0.mk (ho); clear HO_5; clear ho hb hg hat))
           go_roundg k1
           case measure => have := HK1.out; omega
           case rel => exact ⟨(y125), (wrap64 (x7_1 + 1)), (wrap64 (x7_1 + 1)), rl_, rl_, H', ⟨by have := HK1.out; omega⟩, ⟨ra_ HO127.out⟩, ⟨be_ HB.out⟩⟩
          ·
           rw [if_neg c19] at H; exact absurd H (by simp)
         ·
          rw [if_neg c17] at H; exact absurd H (by simp)
        ·
         rw [if_neg c16] at H; exact absurd H (by simp)
       ·
        rw [if_neg c15] at H; have c15b0 : ((bt a0 x7_1) == a1) = false := eq0_ c15; have c15b1 : ((bt a0 x7_1) != a1) = true := ne1_ c15; have H' := Aside0.mk H; clear H; have p14 : 0 ≤ (x7_1 : Int) := od_; have q14 : x7_1 < (a0.size : Int) := od_; have hx14 := bt_at a0 x7_1; replace p14 := eq_true p14; replace q14 := eq_true q14
        go_wp2
        go_roundg k1
        case measure => have := HK1.out; omega
        case rel => exact ⟨(x5_1), (x6_1), (wrap64 (x7_1 + 1)), rl_, rl_, H', ⟨by have := HK1.out; omega⟩, ⟨ra_ HO_5.out⟩, ⟨be_ HB.out⟩⟩
      ·
       rw [if_neg c13] at H; exact absurd H (by simp)
     ·
      rw [if_neg c12] at H; exact absurd H (by simp)
   ·
    rw [if_neg c5] at H; have c5b0 : decide (x7_1 ≤ (a0.size : Int)) = false := df_ c5; clear c5; obtain rfl := oi_ H
    go_wp2
    go_ret
    exact ⟨_, by first | rfl | (simp [errW_none, errW_some] <;> rfl) | (simp [*, errW_none, errW_some] <;> rfl), by (with_reducible repeat (first | apply Kd.R_alloc | apply Kd.R_drewN | apply Kd.R_drew)); exact HO_5.out, be_ HB.out⟩

def spec_l10Same.l0 : Nat → Int → Int → List Int → Int → Option (List Int)
 | 0, _, _, _, _ => none
 | k + 1, x0, x1, x5, x6 => if x6 < x1 then (if x6 ≤ 600 then (if x5.length < 17592186044416 then (spec_l10Same.l0 k x0 x1 (x5 ++ [x0]) (wrap64 (x6 + 1))) else (none)) else (some x5)) else (some x5)
def spec_l10Same.f (k : Nat) (a0 : Int) (a1 : Int) : Option (List Int) := spec_l10Same.l0 k a0 a1 (([] : List Int)) 0
set_option maxHeartbeats 8000000 in
set_option maxRecDepth 100000 in
theorem spec_l10Same.calls {k : Nat} {a0 : Int} {a1 : Int} {r : List Int} {w : World} (h : spec_l10Same.f k a0 a1 = some r) :
  Calls Tryz.prog 59 #[.int .i64 a0, .int .i64 a1] w fun e w' => ∃ v0_ : Value, e = .returned (v0_) ∧ Kd.R (Kd.int .i64) 3 w' w.heap.size (fun _ => True) v0_ r ∧ Below w.heap.size w w' := by
 have HB := Aside0.mk (Below.refl w.heap.size w); have H : (spec_l10Same.l0 k a0 a1 (([] : List Int)) 0) = some r := h; clear h; obtain ⟨y128, hy_⟩ : ∃ y_ : List Int, y_ = (([] : List Int)) := ⟨_, rfl⟩; replace H : (spec_l10Same.l0 k a0 a1 y128 0) = some r := yh_
 have Ny128 := Aside0.mk hy_; clear hy_; have H' := Aside0.mk H; clear H
 go_enter Tryz.func59, Tryz.ntmps59
 go_wp2_with (first | ((with_reducible refine gate_dst (N := 7) rfl ?_); refine Kd.R_lit (Kd.int .i64) _ 3 ?hg (N := 7) ?hd (xs := ([] : List Int)) (inner := []) (ok := fun _ => True) (okp := fun _ => True) ?hr ?hp (fun _ hk => hk) trivial (Below.refl _ _) (Nat.le_refl _) (by simp) ?_; (case hd => rfl); (case hg => rfl); (case hr => first | (go_simp; done) | (go_simp; rfl)); (case hp => exact (Reps.none _ _)); intro v129 w3 ho4 hb hg_ hnew_; clear hg_ hnew_; (first | rw [← Ny128.out] at ho4 | (simp only [Int.reduceToNat] at ho4; rw [← Ny128.out] at ho4)); have HO130 := Aside0.mk (Kd.R_lower ho4 (below_size (be_ HB.out))); replace HB := hb_ HB hb; clear hb ho4))
 (try simp only [Act.put, List.setIfInBounds_toArray, List.set_cons_zero, List.set_cons_succ])
 go_loopg [5, 6] k (fun kq v5 v6 w' => ∃ (x5_1 : List Int) (x6_1 : Int), v6 = .int .i64 x6_1 ∧ Aside0 (spec_l10Same.l0 kq a0 a1 x5_1 x6_1 = some r) ∧ Aside0 (kq ≤ k) ∧ Aside0 (Kd.R (Kd.int .i64) 3 w' w.heap.size (fun _ => True) v5 x5_1) ∧ Aside0 (Below w.heap.size w w'))
 case atStart => exact ⟨(y128), (0), rl_, H', ⟨Nat.le_refl _⟩, ⟨ra_ HO130.out⟩, ⟨be_ HB.out⟩⟩
 case round =>
  clear H'; (try clear p2); obtain ⟨x5_1, x6_1, rfl, HA, HK1, HO_5, HB⟩ := hrel
  cases gk with
  | zero => exact absurd HA.out (by simp [spec_l10Same.l0])
  | succ k1 =>
   have H := HA.out; clear HA; simp only [spec_l10Same.l0] at H
   by_cases c5 : x6_1 < a1
   ·
    rw [if_pos c5] at H; have c5b0 : decide (x6_1 < a1) = true := dt_ c5; clear c5
    by_cases c6 : x6_1 ≤ 600
    ·
     rw [if_pos c6] at H; have c6b0 : decide (x6_1 ≤ 600) = true := dt_ c6; clear c6
     by_cases c7 : x5_1.length < 17592186044416
     ·
      rw [if_pos c7] at H; have LMc7 := Aside0.mk c7; clear c7; obtain ⟨y131, hy_⟩ : ∃ y_ : List Int, y_ = (x5_1 ++ [a0]) := ⟨_, rfl⟩; replace H : (spec_l10Same.l0 k1 a0 a1 y131 (wrap64 (x6_1 + 1))) = some r := yh_
      have Ny131 := Aside0.mk hy_; clear hy_; have H' := Aside0.mk H; clear H
      go_wp2_with (first | ((with_reducible refine gate_builtin (b := .append) (xs := #[.tmp 17, .tmp 19]) rfl ?_); at_builtin; refine Kd.R_append (Kd.int .i64) (w0 := w) w.heap.size rfl (.tmp 17) (.tmp 19) 47 3 (.int .i64 0) 8 rfl Tryz.underlying47 info3 rfl (by decide) (by omega) u5 x5_1 a0 [.int .i64 a0] (fun _ => True) (fun _ => False) rfl rfl ?aP (fun _ hk => hk.elim) ?aF ?aO ?aB ?aS ?aL ?_; (case aP => exact rfl); (case aB => exact (be_ HB.out)); (case aF => exact (fun _ _ => trivial)); (case aO => exact (ra_ HO_5.out)); (case aS => exact (below_size (be_ HB.out))); (case aL => have := LMc7.out; omega); intro v132 w8 ho hb hg hat; rw [← Ny131.out] at ho; replace HB := Aside0.mk (hb); have HO133 := Aside0.mk (ho); clear HO_5; clear ho hb hg hat))
      go_roundg k1
      case measure => have := HK1.out; omega
      case rel => exact ⟨(y131), (wrap64 (x6_1 + 1)), rl_, H', ⟨by have := HK1.out; omega⟩, ⟨ra_ HO133.out⟩, ⟨be_ HB.out⟩⟩
     ·
      rw [if_neg c7] at H; exact absurd H (by simp)
    ·
     rw [if_neg c6] at H; have c6b0 : decide (x6_1 ≤ 600) = false := df_ c6; clear c6; obtain rfl := oi_ H
     go_wp2
     go_ret
     exact ⟨_, by first | rfl | (simp [errW_none, errW_some] <;> rfl) | (simp [*, errW_none, errW_some] <;> rfl), by (with_reducible repeat (first | apply Kd.R_alloc | apply Kd.R_drewN | apply Kd.R_drew)); exact HO_5.out, be_ HB.out⟩
   ·
    rw [if_neg c5] at H; have c5b0 : decide (x6_1 < a1) = false := df_ c5; clear c5; obtain rfl := oi_ H
    go_wp2
    go_ret
    exact ⟨_, by first | rfl | (simp [errW_none, errW_some] <;> rfl) | (simp [*, errW_none, errW_some] <;> rfl), by (with_reducible repeat (first | apply Kd.R_alloc | apply Kd.R_drewN | apply Kd.R_drew)); exact HO_5.out, be_ HB.out⟩

def spec_ShapeOk.f (a0_0 : Int) (a0_1 : Int) (a0_2 : Int) : Option (Bool) := (spec_l01In.f a0_0 1 8).bind fun t135 => (if t135 = true then ((spec_l01In.f a0_1 1 8).bind fun t136 => (if t136 = true then ((spec_l01In.f a0_2 1 8).bind fun t137 => (some t137)) else (some false))) else (some false))
set_option maxHeartbeats 8000000 in
set_option maxRecDepth 100000 in
theorem spec_ShapeOk.calls {a0_0 : Int} {a0_1 : Int} {a0_2 : Int} {r : Bool} {w : World} (h : spec_ShapeOk.f a0_0 a0_1 a0_2 = some r) :
  Calls Tryz.prog 61 #[.agg #[.int .i64 a0_0, .int .i64 a0_1, .int .i64 a0_2]] w fun e w' => e = .returned (.bool r) ∧ Below w.heap.size w w' := by
 have hu23 := Tryz.underlying23; have HB := Aside0.mk (Below.refl w.heap.size w); have H : ((spec_l01In.f a0_0 1 8).bind fun t135 => (if t135 = true then ((spec_l01In.f a0_1 1 8).bind fun t136 => (if t136 = true then ((spec_l01In.f a0_2 1 8).bind fun t137 => (some t137)) else (some false))) else (some false))) = some r := h; clear h; obtain ⟨t135, A2, H⟩ := bo_ H; (try dsimp only at H)
 by_cases c3 : t135 = true
 ·
  subst c3; rw [if_pos rfl] at H; obtain ⟨t136, A4, H⟩ := bo_ H; (try dsimp only at H)
  by_cases c5 : t136 = true
  ·
   subst c5; rw [if_pos rfl] at H; obtain ⟨t137, A6, H⟩ := bo_ H; (try dsimp only at H); obtain rfl := oi_ H
   go_enter Tryz.func61, Tryz.ntmps61
   go_wp2_with (first | ((with_reducible refine gate_dst (N := 1) rfl ?_); refine bz_ 1 ?_; intro gb134 hg w7 hbox hb; obtain ⟨BK134, GW134, GE134, HB⟩ := nb_ hg hbox HB hb; clear hb hbox hg; have hcz8 := box3_ BK134.out) | ((with_reducible refine gc_ 57 ?_); refine gw_ (some 5) Tryz.func57 ?_; (with_reducible refine (spec_l01In.calls A2.out).mono ?_); rintro e w' ⟨rfl, ⟨nd, rfl⟩⟩; refine ⟨_, rfl, ?_⟩) | (go_at_call 57; (with_reducible refine (spec_l01In.calls A4.out).mono ?_); rintro e w' ⟨rfl, ⟨nd, rfl⟩⟩) | (go_at_call 57; (with_reducible refine (spec_l01In.calls A6.out).mono ?_); rintro e w' ⟨rfl, ⟨nd, rfl⟩⟩))
   go_ret
   exact rt_ HB.out
  ·
   replace c5 := fb_ c5; subst c5; replace H := if0_ H
   obtain rfl := oi_ H
   go_enter Tryz.func61, Tryz.ntmps61
   go_wp2_with (first | ((with_reducible refine gate_dst (N := 1) rfl ?_); refine bz_ 1 ?_; intro gb134 hg w9 hbox hb; obtain ⟨BK134, GW134, GE134, HB⟩ := nb_ hg hbox HB hb; clear hb hbox hg; have hcz10 := box3_ BK134.out) | ((with_reducible refine gc_ 57 ?_); refine gw_ (some 5) Tryz.func57 ?_; (with_reducible refine (spec_l01In.calls A2.out).mono ?_); rintro e w' ⟨rfl, ⟨nd, rfl⟩⟩; refine ⟨_, rfl, ?_⟩) | (go_at_call 57; (with_reducible refine (spec_l01In.calls A4.out).mono ?_); rintro e w' ⟨rfl, ⟨nd, rfl⟩⟩))
   go_ret
   exact rt_ HB.out
 ·
  replace c3 := fb_ c3; subst c3; replace H := if0_ H
  obtain rfl := oi_ H
  go_enter Tryz.func61, Tryz.ntmps61
  go_wp2_with (first | ((with_reducible refine gate_dst (N := 1) rfl ?_); refine bz_ 1 ?_; intro gb134 hg w11 hbox hb; obtain ⟨BK134, GW134, GE134, HB⟩ := nb_ hg hbox HB hb; clear hb hbox hg; have hcz12 := box3_ BK134.out) | ((with_reducible refine gc_ 57 ?_); refine gw_ (some 5) Tryz.func57 ?_; (with_reducible refine (spec_l01In.calls A2.out).mono ?_); rintro e w' ⟨rfl, ⟨nd, rfl⟩⟩; refine ⟨_, rfl, ?_⟩))
  go_ret
  exact rt_ HB.out

def spec_SizeOf.f (a0_0 : Int) (a0_1 : Int) (a0_2 : Int) : Option (Int) := (spec_ShapeOk.f a0_0 a0_1 a0_2).bind fun t139 => (if t139 = true then (some (wrap64 ((wrap64 (a0_0 * a0_1)) * a0_2))) else (some 0))
set_option maxHeartbeats 8000000 in
set_option maxRecDepth 100000 in
theorem spec_SizeOf.calls {a0_0 : Int} {a0_1 : Int} {a0_2 : Int} {r : Int} {w : World} (h : spec_SizeOf.f a0_0 a0_1 a0_2 = some r) :
  Calls Tryz.prog 60 #[.agg #[.int .i64 a0_0, .int .i64 a0_1, .int .i64 a0_2]] w fun e w' => e = .returned (.int .i64 r) ∧ Below w.heap.size w w' := by
 have hu23 := Tryz.underlying23; have HB := Aside0.mk (Below.refl w.heap.size w); have H : ((spec_ShapeOk.f a0_0 a0_1 a0_2).bind fun t139 => (if t139 = true then (some (wrap64 ((wrap64 (a0_0 * a0_1)) * a0_2))) else (some 0))) = some r := h; clear h; obtain ⟨t139, A2, H⟩ := bo_ H; (try dsimp only at H)
 by_cases c3 : t139 = true
 ·
  subst c3; rw [if_pos rfl] at H; obtain rfl := oi_ H
  go_enter Tryz.func60, Tryz.ntmps60
  go_wp2_with (first | ((with_reducible refine gate_dst (N := 1) rfl ?_); refine bz_ 1 ?_; intro gb138 hg w4 hbox hb; obtain ⟨BK138, GW138, GE138, HB⟩ := nb_ hg hbox HB hb; clear hb hbox hg; have hcz5 := box3_ BK138.out) | ((with_reducible refine gc_ 61 ?_); refine gw_ (some 4) Tryz.func61 ?_; (with_reducible refine (spec_ShapeOk.calls A2.out).mono ?_); rintro e w6 ⟨rfl, hb⟩; refine ⟨_, rfl, ?_⟩; replace BK138 := bb_ BK138 hb; replace HB := hb_ HB hb; (try clear hb); have hcz7 := box3_ BK138.out))
  go_ret
  exact rt_ HB.out
 ·
  replace c3 := fb_ c3; subst c3; replace H := if0_ H
  obtain rfl := oi_ H
  go_enter Tryz.func60, Tryz.ntmps60
  go_wp2_with (first | ((with_reducible refine gate_dst (N := 1) rfl ?_); refine bz_ 1 ?_; intro gb138 hg w8 hbox hb; obtain ⟨BK138, GW138, GE138, HB⟩ := nb_ hg hbox HB hb; clear hb hbox hg; have hcz9 := box3_ BK138.out) | ((with_reducible refine gc_ 61 ?_); refine gw_ (some 4) Tryz.func61 ?_; (with_reducible refine (spec_ShapeOk.calls A2.out).mono ?_); rintro e w10 ⟨rfl, hb⟩; refine ⟨_, rfl, ?_⟩; replace BK138 := bb_ BK138 hb; replace HB := hb_ HB hb; (try clear hb)))
  go_ret
  exact rt_ HB.out

mutual
def spec_l10Layer.l0 : Nat → List ByteArray → List ByteArray → List Int → List Int → Bool → Int → Int → Int → Int → Option (Int × Int × Int × Int × Int × Int × Int × List Int × List Int × Bool)
 | 0, _, _, _, _, _, _, _, _, _ => none
 | k + 1, x0, x6, x7, x8, x9, x10, x141000, x141001, x141002 => if x10 < (x6.length : Int) then (if x9 = true then (if 0 < (x0.length : Int) then (if 0 ≤ x10 then (if (rdOf ByteArray.empty x0 0).toList = (rdOf ByteArray.empty x6 x10).toList then (if x10 < (x7.length : Int) then (spec_l10Layer.j1 k x0 x6 x7 x8 x9 x10 ((x8.length : Int) != (rd x7 x10)) x141000 x141001 x141002) else (none)) else (spec_l10Layer.j1 k x0 x6 x7 x8 x9 x10 true x141000 x141001 x141002)) else (none)) else (none)) else (spec_l10Layer.j1 k x0 x6 x7 x8 x9 x10 true x141000 x141001 x141002)) else (some (0, 0, 0, 0, 0, 0, 0, ([] : List Int), ([] : List Int), false))
def spec_l10Layer.j1 : Nat → List ByteArray → List ByteArray → List Int → List Int → Bool → Int → Bool → Int → Int → Int → Option (Int × Int × Int × Int × Int × Int × Int × List Int × List Int × Bool)
 | 0, _, _, _, _, _, _, _, _, _, _ => none
 | k + 1, x0, x6, x7, x8, x9, x10, x46, x141000, x141001, x141002 => if x46 = true then (spec_l10Layer.l0 k x0 x6 x7 x8 x9 (wrap64 (x10 + 1)) x141000 x141001 x141002) else (if x10 = 0 then (if 0 < (x8.length : Int) then (if 1 < (x8.length : Int) then (if 2 < (x8.length : Int) then (if 3 < (x8.length : Int) then (if 4 < (x8.length : Int) then ((spec_SizeOf.f x141000 x141001 x141002).bind fun t163 => ((spec_l10Same.f k (rd x8 4) (wrap64 ((rd x8 0) * t163))).bind fun t164 => ((spec_l10Same.f k 0 (rd x8 0)).bind fun t168 => (some (x10, rd x8 0, 0, 0, wrap64 ((rd x8 1) * 1000), rd x8 2, rd x8 3, t164, t168, true))))) else (none)) else (none)) else (none)) else (none)) else (none)) else (if x10 = 1 then (if 0 < (x8.length : Int) then (if 1 < (x8.length : Int) then (if 2 < (x8.length : Int) then (if 3 < (x8.length : Int) then (if 4 < (x8.length : Int) then (if 5 < (x8.length : Int) then (if 6 < (x8.length : Int) then ((spec_l10Same.f k (rd x8 6) (wrap64 ((wrap64 ((wrap64 ((rd x8 0) * (rd x8 1))) * (rd x8 1))) * x141002))).bind fun t181 => ((spec_l10Same.f k 0 (rd x8 0)).bind fun t185 => (some (x10, rd x8 0, rd x8 1, rd x8 2, wrap64 ((rd x8 3) * 1000), rd x8 4, rd x8 5, t181, t185, true)))) else (none)) else (none)) else (none)) else (none)) else (none)) else (none)) else (none)) else (if x10 = 2 then (spec_l10Layer.j2 k x8 x10 (x10 == 2) x10 0 0 0 0 0 0) else (spec_l10Layer.j2 k x8 x10 (x10 == 3) x10 0 0 0 0 0 0))))
def spec_l10Layer.j2 : Nat → List Int → Int → Bool → Int → Int → Int → Int → Int → Int → Int → Option (Int × Int × Int × Int × Int × Int × Int × List Int × List Int × Bool)
 | 0, _, _, _, _, _, _, _, _, _, _ => none
 | k + 1, x8, x49, x126, x157000, x157001, x157002, x157003, x157004, x157005, x157006 => if x126 = true then (if 0 < (x8.length : Int) then (if 1 < (x8.length : Int) then (some (x157000, x157001, rd x8 0, rd x8 1, x157004, x157005, x157006, ([] : List Int), ([] : List Int), true)) else (none)) else (none)) else (if x49 = 4 then (if 0 < (x8.length : Int) then (some (x157000, x157001, x157002, x157003, x157004, x157005, rd x8 0, ([] : List Int), ([] : List Int), true)) else (none)) else (some (x157000, x157001, x157002, x157003, x157004, x157005, x157006, ([] : List Int), ([] : List Int), true)))
end
def spec_l10Layer.f (k : Nat) (l0 : List ByteArray) (a1_0 : Int) (a1_1 : Int) (a1_2 : Int) : Option (Int × Int × Int × Int × Int × Int × Int × List Int × List Int × Bool) := if 1 ≤ (l0.length : Int) then ((spec_l10Numbers.f k (l0.drop 1)).bind fun bt149 => (spec_l10Layer.l0 k l0 (([(⟨#[100, 101, 110, 115, 101]⟩ : ByteArray), (⟨#[99, 111, 110, 118]⟩ : ByteArray), (⟨#[109, 97, 120]⟩ : ByteArray), (⟨#[97, 118, 103]⟩ : ByteArray), (⟨#[114, 101, 108, 117]⟩ : ByteArray), (⟨#[102, 108, 97, 116]⟩ : ByteArray)] : List ByteArray)) (([5, 7, 2, 2, 1, 0] : List Int)) bt149.1 bt149.2 0 a1_0 a1_1 a1_2)) else (none)
def spec_l10Layer.T7 : Bool × List (List Nat × List Nat) := (true, [([], []), ([0], [0]), ([1], [1]), ([2], [2]), ([3, 2], [2, 3]), ([4, 2], [2, 4]), ([2], [2]), ([2], [2]), ([6, 7, 2], [2, 6, 7]), ([8, 2], [2, 8]), ([5, 9, 2], [2, 5, 9]), ([2, 10], [2, 10]), ([11, 2], [11]), ([12], [12]), ([13, 12], [12, 13]), ([12], [12]), ([12], [12]), ([15, 16, 12], [12, 15, 16]), ([17, 12], [12, 17]), ([14, 18, 12], [12, 14, 18]), ([12, 19], [12, 19])])
def spec_l10Layer.B7 : List Nat := [0, 1, 3, 7, 15, 31, 7, 7, 199, 455, 1023, 2047, 4095, 8191, 16383, 8191, 8191, 106495, 237567, 524287, 1048575]
theorem spec_l10Layer.tab7 : rtab .any (opsOf Tryz.f25 7) = spec_l10Layer.T7 := by kernel_rfl
theorem spec_l10Layer.bits7 : waitsOk spec_l10Layer.T7.2 spec_l10Layer.B7 = true := by kernel_rfl
def spec_l10Layer.T11 : Bool × List (List Nat × List Nat) := (true, [([], []), ([], []), ([1], [1]), ([2], [2]), ([], []), ([4], [4]), ([5], [5]), ([6], [6]), ([], []), ([8], [8]), ([9], [9]), ([], []), ([11], [11]), ([12], [12]), ([], []), ([14], [14]), ([15], [15]), ([], []), ([17], [17]), ([18], [18]), ([], []), ([20], [20]), ([19, 21], [19, 21]), ([16, 22, 21], [16, 22]), ([], []), ([24], [24]), ([25], [25]), ([26, 23], [26]), ([0, 3, 7, 10, 13, 23, 27], [0, 3, 7, 10, 13, 23, 27]), ([28, 27, 0, 1, 2, 3, 4, 5, 6, 7, 8, 9, 10, 11, 12, 13, 14, 15, 16, 17, 18, 19, 20, 21, 22, 23, 24, 25, 26, 27, 28], [28])])
def spec_l10Layer.B11 : List Nat := [0, 0, 2, 6, 0, 16, 48, 112, 0, 256, 768, 0, 2048, 6144, 0, 16384, 49152, 0, 131072, 393216, 0, 1048576, 4063232, 8372224, 0, 16777216, 50331648, 134201344, 268435455, 536870911]
theorem spec_l10Layer.tab11 : rtab .any (opsOf Tryz.f25 11) = spec_l10Layer.T11 := by kernel_rfl
theorem spec_l10Layer.bits11 : waitsOk spec_l10Layer.T11.2 spec_l10Layer.B11 = true := by kernel_rfl
def spec_l10Layer.T13 : Bool × List (List Nat × List Nat) := (true, [([], []), ([], []), ([1], [1]), ([2], [2]), ([], []), ([4], [4]), ([5], [5]), ([], []), ([7], [7]), ([8], [8]), ([], []), ([10], [10]), ([11], [11]), ([12], [12]), ([], []), ([14], [14]), ([15], [15]), ([], []), ([17], [17]), ([18], [18]), ([], []), ([20], [20]), ([21], [21]), ([], []), ([23], [23]), ([24], [24]), ([], []), ([26], [26]), ([27], [27]), ([25, 28], [25, 28]), ([], []), ([30], [30]), ([31], [31]), ([29, 32], [29, 32]), ([], []), ([34], [34]), ([33, 35], [33, 35]), ([22, 36], [22, 36]), ([], []), ([38], [38]), ([39], [39]), ([40, 37], [40]), ([0, 3, 6, 9, 13, 16, 19, 37, 41], [0, 3, 6, 9, 13, 16, 19, 37, 41]), ([42, 41, 0, 1, 2, 3, 4, 5, 6, 7, 8, 9, 10, 11, 12, 13, 14, 15, 16, 17, 18, 19, 20, 21, 22, 23, 24, 25, 26, 27, 28, 29, 30, 31, 32, 33, 34, 35, 36, 37, 38, 39, 40, 41, 42], [42])])
def spec_l10Layer.B13 : List Nat := [0, 0, 2, 6, 0, 16, 48, 0, 128, 384, 0, 1024, 3072, 7168, 0, 16384, 49152, 0, 131072, 393216, 0, 1048576, 3145728, 0, 8388608, 25165824, 0, 67108864, 201326592, 528482304, 0, 1073741824, 3221225472, 8581545984, 0, 17179869184, 68711088128, 137437904896, 0, 274877906944, 824633720832, 2199022206976, 4398046511103, 8796093022207]
theorem spec_l10Layer.tab13 : rtab .any (opsOf Tryz.f25 13) = spec_l10Layer.T13 := by kernel_rfl
theorem spec_l10Layer.bits13 : waitsOk spec_l10Layer.T13.2 spec_l10Layer.B13 = true := by kernel_rfl
set_option maxHeartbeats 8000000 in
set_option maxRecDepth 100000 in
theorem spec_l10Layer.calls {k : Nat} {A0 : Option Addr} {c0 : Nat} {l0 : List ByteArray} {a1_0 : Int} {a1_1 : Int} {a1_2 : Int} {r1 : Int} {r2 : Int} {r3 : Int} {r4 : Int} {r5 : Int} {r6 : Int} {r7 : Int} {r8 : List Int} {r9 : List Int} {r10 : Bool} {w : World} (hr0 : Kd.C Kd.string w A0 l0.length l0) (hc0 : l0.length ≤ c0) (h : spec_l10Layer.f k l0 a1_0 a1_1 a1_2 = some (r1, r2, r3, r4, r5, r6, r7, r8, r9, r10)) :
  Calls Tryz.prog 25 #[.slice A0 l0.length c0, .agg #[.int .i64 a1_0, .int .i64 a1_1, .int .i64 a1_2]] w fun e w' => ∃ v7_ v8_ : Value, e = .returned (.tuple #[.agg #[.int .i64 r1, .int .i64 r2, .int .i64 r3, .int .i64 r4, .int .i64 r5, .int .i64 r6, .int .i64 r7, v7_, v8_], .bool r10]) ∧ Kd.R (Kd.int .i64) 3 w' w.heap.size (fun k_ => some k_ ≠ (v8_ : Value).ownBlock) v7_ r8 ∧ Kd.R (Kd.int .i64) 3 w' w.heap.size (fun k_ => some k_ ≠ (v7_ : Value).ownBlock) v8_ r9 ∧ Below w.heap.size w w' := by
 have hu23 := Tryz.underlying23; have hu55 := Tryz.underlying55; have HR0 := Aside0.mk hr0; have HC0 := Aside0.mk hc0; clear hr0 hc0; have HB := Aside0.mk (Below.refl w.heap.size w); have H : (if 1 ≤ (l0.length : Int) then ((spec_l10Numbers.f k (l0.drop 1)).bind fun bt149 => (spec_l10Layer.l0 k l0 (([(⟨#[100, 101, 110, 115, 101]⟩ : ByteArray), (⟨#[99, 111, 110, 118]⟩ : ByteArray), (⟨#[109, 97, 120]⟩ : ByteArray), (⟨#[97, 118, 103]⟩ : ByteArray), (⟨#[114, 101, 108, 117]⟩ : ByteArray), (⟨#[102, 108, 97, 116]⟩ : ByteArray)] : List ByteArray)) (([5, 7, 2, 2, 1, 0] : List Int)) bt149.1 bt149.2 0 a1_0 a1_1 a1_2)) else (none)) = some (r1, r2, r3, r4, r5, r6, r7, r8, r9, r10) := h; clear h; obtain ⟨y142, hy_⟩ : ∃ y_ : List ByteArray, y_ = (([(⟨#[100, 101, 110, 115, 101]⟩ : ByteArray), (⟨#[99, 111, 110, 118]⟩ : ByteArray), (⟨#[109, 97, 120]⟩ : ByteArray), (⟨#[97, 118, 103]⟩ : ByteArray), (⟨#[114, 101, 108, 117]⟩ : ByteArray), (⟨#[102, 108, 97, 116]⟩ : ByteArray)] : List ByteArray)) := ⟨_, rfl⟩; replace H : (if 1 ≤ (l0.length : Int) then ((spec_l10Numbers.f k (l0.drop 1)).bind fun bt149 => (spec_l10Layer.l0 k l0 y142 (([5, 7, 2, 2, 1, 0] : List Int)) bt149.1 bt149.2 0 a1_0 a1_1 a1_2)) else (none)) = some (r1, r2, r3, r4, r5, r6, r7, r8, r9, r10) := yh_
 have Ny142 := Aside0.mk hy_; clear hy_; obtain ⟨y145, hy_⟩ : ∃ y_ : List Int, y_ = (([5, 7, 2, 2, 1, 0] : List Int)) := ⟨_, rfl⟩; replace H : (if 1 ≤ (l0.length : Int) then ((spec_l10Numbers.f k (l0.drop 1)).bind fun bt149 => (spec_l10Layer.l0 k l0 y142 y145 bt149.1 bt149.2 0 a1_0 a1_1 a1_2)) else (none)) = some (r1, r2, r3, r4, r5, r6, r7, r8, r9, r10) := yh_
 have Ny145 := Aside0.mk hy_; clear hy_
 by_cases c3 : 1 ≤ (l0.length : Int)
 ·
  rw [if_pos c3] at H; have c3b0 := eq_true c3; have c3b1 : decide (1 ≤ (l0.length : Int)) = true := dt_ c3; clear c3; obtain ⟨⟨t149, t150⟩, A4, H⟩ := bo_ H; (try dsimp only at H); have H' := Aside0.mk H; clear H
  go_enter Tryz.func25, Tryz.ntmps25
  go_wp2_with (first | ((with_reducible refine gate_dst (N := 3) rfl ?_); (try (refine gate_guard (by rfl) ?_; dsimp only)); refine bz_ 3 ?_; intro gb140 hg w5 hbox hb; obtain ⟨BK140, GW140, GE140, HB⟩ := nb_ hg hbox HB hb; clear hb hbox hg) | ((with_reducible refine gate_dst (N := 4) rfl ?_); (try (refine gate_guard (by rfl) ?_; dsimp only)); refine bz_ 4 ?_; intro gb141 hg w6 hbox hb; obtain ⟨BK141, GW141, GE141, HB⟩ := nb_ hg hbox HB hb; have NB140_141 := nx_ hg BK140; have NB141_140 := ny_ hg BK140; replace BK140 := bb_ BK140 hb; clear hb hbox hg) | ((with_reducible refine gate_dst (N := 12) rfl ?_); (try (refine gate_guard (by rfl) ?_; dsimp only)); refine Kd.R_lit Kd.string _ 9 ?hg (N := 12) ?hd (xs := ([(⟨#[100, 101, 110, 115, 101]⟩ : ByteArray), (⟨#[99, 111, 110, 118]⟩ : ByteArray), (⟨#[109, 97, 120]⟩ : ByteArray), (⟨#[97, 118, 103]⟩ : ByteArray), (⟨#[114, 101, 108, 117]⟩ : ByteArray), (⟨#[102, 108, 97, 116]⟩ : ByteArray)] : List ByteArray)) (inner := [.string (⟨#[100, 101, 110, 115, 101]⟩ : ByteArray), .string (⟨#[99, 111, 110, 118]⟩ : ByteArray), .string (⟨#[109, 97, 120]⟩ : ByteArray), .string (⟨#[97, 118, 103]⟩ : ByteArray), .string (⟨#[114, 101, 108, 117]⟩ : ByteArray), .string (⟨#[102, 108, 97, 116]⟩ : ByteArray)]) (ok := fun _ => True) (okp := fun _ => True) ?hr ?hp (fun _ hk => hk) trivial (Below.refl _ _) (Nat.le_refl _) (by simp) ?_; (case hd => rfl); (case hg => rfl); (case hr => first | (go_simp; done) | (go_simp; rfl)); (case hp => exact (Reps.one (show Kd.M Kd.string _ _ _ (⟨#[100, 101, 110, 115, 101]⟩ : ByteArray) [.string (⟨#[100, 101, 110, 115, 101]⟩ : ByteArray)] from rfl) (Reps.one (show Kd.M Kd.string _ _ _ (⟨#[99, 111, 110, 118]⟩ : ByteArray) [.string (⟨#[99, 111, 110, 118]⟩ : ByteArray)] from rfl) (Reps.one (show Kd.M Kd.string _ _ _ (⟨#[109, 97, 120]⟩ : ByteArray) [.string (⟨#[109, 97, 120]⟩ : ByteArray)] from rfl) (Reps.one (show Kd.M Kd.string _ _ _ (⟨#[97, 118, 103]⟩ : ByteArray) [.string (⟨#[97, 118, 103]⟩ : ByteArray)] from rfl) (Reps.one (show Kd.M Kd.string _ _ _ (⟨#[114, 101, 108, 117]⟩ : ByteArray) [.string (⟨#[114, 101, 108, 117]⟩ : ByteArray)] from rfl) (Reps.one (show Kd.M Kd.string _ _ _ (⟨#[102, 108, 97, 116]⟩ : ByteArray) [.string (⟨#[102, 108, 97, 116]⟩ : ByteArray)] from rfl) (Reps.none _ _)))))))); intro v143 w7 ho8 hb hg_ hnew_; clear hg_ hnew_; (first | rw [← Ny142.out] at ho8 | (simp only [Int.reduceToNat] at ho8; rw [← Ny142.out] at ho8)); have HO144 := Aside0.mk (Kd.R_lower ho8 (below_size (be_ HB.out))); replace BK140 := bb_ BK140 hb; replace BK141 := bb_ BK141 hb; replace HB := hb_ HB hb; clear hb ho8) | ((with_reducible refine gate_dst (N := 13) rfl ?_); (try (refine gate_guard (by rfl) ?_; dsimp only)); refine Kd.R_lit (Kd.int .i64) _ 3 ?hg (N := 13) ?hd (xs := ([5, 7, 2, 2, 1, 0] : List Int)) (inner := [.int .i64 5, .int .i64 7, .int .i64 2, .int .i64 2, .int .i64 1, .int .i64 0]) (ok := fun _ => True) (okp := fun _ => True) ?hr ?hp (fun _ hk => hk) trivial (Below.refl _ _) (Nat.le_refl _) (by simp) ?_; (case hd => rfl); (case hg => rfl); (case hr => first | (go_simp; done) | (go_simp; rfl)); (case hp => exact (Reps.one (show Kd.M (Kd.int .i64) _ _ _ 5 [.int .i64 5] from rfl) (Reps.one (show Kd.M (Kd.int .i64) _ _ _ 7 [.int .i64 7] from rfl) (Reps.one (show Kd.M (Kd.int .i64) _ _ _ 2 [.int .i64 2] from rfl) (Reps.one (show Kd.M (Kd.int .i64) _ _ _ 2 [.int .i64 2] from rfl) (Reps.one (show Kd.M (Kd.int .i64) _ _ _ 1 [.int .i64 1] from rfl) (Reps.one (show Kd.M (Kd.int .i64) _ _ _ 0 [.int .i64 0] from rfl) (Reps.none _ _)))))))); intro v146 w9 ho10 hb hg_ hnew_; clear hg_ hnew_; (first | rw [← Ny145.out] at ho10 | (simp only [Int.reduceToNat] at ho10; rw [← Ny145.out] at ho10)); replace HO144 := rb_ HO144 hb; have HO147 := Aside0.mk (Kd.R_lower ho10 (below_size (be_ HB.out))); replace BK140 := bb_ BK140 hb; replace BK141 := bb_ BK141 hb; replace HB := hb_ HB hb; clear hb ho10; obtain ⟨i011, hi011, _, hsz11, _⟩ := info_parts info9; obtain ⟨A11, hcut11, hA11, hC11⟩ := print_drop_of (P := Tryz.prog) Value.string (⟨#[]⟩ : ByteArray) 50 9 .i64 Tryz.underlying50 hi011 hsz11 A0 c0 l0 1 (by omega) (od_) HC0.out; have HR148 := Aside0.mk (Kd.C_of_reads (h1 := fun _ => rfl) (hA11 _ (Kd.reads_of_C HR0.out))); have HC148 := Aside0.mk hC11; clear hA11 hC11 hi011 hsz11) | ((with_reducible refine gc_ 23 ?_); refine gl_ (some 17) Tryz.func23 #[.slice A11 (l0.drop 1).length (c0 - 1)] ?_ (hargs := (by (try simp only [List.map_toArray, List.map_cons, List.map_nil]); first | done | (rw [show (l0.drop 1).length = (l0.length - 1) from List.length_drop] <;> rfl) | rfl | (simp only [List.length_drop, List.length_take]; rfl))); (with_reducible refine (spec_l10Numbers.calls ?_ ?_ A4.out).mono ?_); exact cu_ HR148.out HB.out; exact HC148.out; rintro e w12 ⟨v151, rfl, ho0, hb⟩; refine ⟨_, rfl, ?_⟩; replace HO144 := rb_ HO144 hb; have HO152 := Aside0.mk (Kd.R_lower (Kd.R_new' ho0 (Kd.R_lt (ra_ HO147.out))) (below_size (be_ HB.out))); replace HO147 := Aside0.mk (Kd.R_elder' (ra_ HO147.out) (Kd.R_base ho0) hb); replace BK140 := bb_ BK140 hb; replace BK141 := bb_ BK141 hb; replace HB := hb_ HB hb; (try clear hb ho0)))
  (try simp only [Act.put, List.setIfInBounds_toArray, List.set_cons_zero, List.set_cons_succ])
  go_loopg [10] k (fun kq v10 w' => ∃ (x10_1 : Int) (x142000_1 : Int) (x142001_1 : Int) (x142002_1 : Int) (x142003_1 : Int) (x142004_1 : Int) (x142005_1 : Int) (x142006_1 : Int), v10 = .int .i64 x10_1 ∧ Aside0 (spec_l10Layer.l0 kq l0 y142 y145 t149 t150 x10_1 a1_0 a1_1 a1_2 = some (r1, r2, r3, r4, r5, r6, r7, r8, r9, r10)) ∧ Aside0 (kq ≤ k) ∧ Aside0 (Kd.R Kd.string 9 w' w.heap.size (fun _ => True) v143 y142) ∧ Aside0 (Kd.R (Kd.int .i64) 3 w' w.heap.size (fun k_ => some k_ ≠ (v151 : Value).ownBlock) v146 y145) ∧ Aside0 (Kd.R (Kd.int .i64) 3 w' w.heap.size (fun k_ => some k_ ≠ (v146 : Value).ownBlock) v151 t149) ∧ Aside0 (w'.heap[gb140]? = some (.cells #[.int .i64 a1_0, .int .i64 a1_1, .int .i64 a1_2] 23 (0, 0))) ∧ Aside0 (w'.heap[gb141]? = some (.cells #[.int .i64 x142000_1, .int .i64 x142001_1, .int .i64 x142002_1, .int .i64 x142003_1, .int .i64 x142004_1, .int .i64 x142005_1, .int .i64 x142006_1, (.slice none 0 0), (.slice none 0 0)] 55 (0, 0))) ∧ Aside0 (Below w.heap.size w w'))
  case atStart => exact ⟨(0), (0), (0), (0), (0), (0), (0), (0), rl_, H', ⟨Nat.le_refl _⟩, ⟨ra_ HO144.out⟩, ⟨Kd.R_mono (ra_ HO147.out) (fun _ hk => hk.2)⟩, ⟨Kd.R_mono (ra_ HO152.out) (fun _ hk => hk.2)⟩, ⟨bu_ BK140.out⟩, ⟨bu_ BK141.out⟩, ⟨be_ HB.out⟩⟩
  case round =>
   clear H'; (try clear c2); (try clear p2); (try clear c3); (try clear c3b0); (try clear c3b1); obtain ⟨x10_1, x142000_1, x142001_1, x142002_1, x142003_1, x142004_1, x142005_1, x142006_1, rfl, HA, HK1, HO_6, HO_7, HO_8, BK140, BK141, HB⟩ := hrel
   cases gk with
   | zero => exact absurd HA.out (by simp [spec_l10Layer.l0])
   | succ k1 =>
    have H := HA.out; clear HA; simp only [spec_l10Layer.l0] at H
    by_cases c13 : x10_1 < (y142.length : Int)
    ·
     rw [if_pos c13] at H; have c13b0 : decide (x10_1 < (y142.length : Int)) = true := dt_ c13; clear c13; have HC14 := Aside0.mk H; clear H; obtain ⟨Ao15, co15, eo15⟩ := Kd.R_slice HO_6.out; subst eo15
     go_upto_region 7 with (fail)
     go_cut [46] (fun v46 wc => ∃ (kq : Nat) (x46_13 : Bool), v46 = .bool x46_13 ∧ Aside0 (spec_l10Layer.j1 kq l0 y142 y145 t149 t150 x10_1 x46_13 a1_0 a1_1 a1_2 = some (r1, r2, r3, r4, r5, r6, r7, r8, r9, r10)) ∧ Aside0 (kq ≤ k1) ∧ Aside0 (Kd.R Kd.string 9 wc w.heap.size (fun _ => True) (.slice Ao15 y142.length co15) y142) ∧ Aside0 (Kd.R (Kd.int .i64) 3 wc w.heap.size (fun k_ => some k_ ≠ (v151 : Value).ownBlock) v146 y145) ∧ Aside0 (Kd.R (Kd.int .i64) 3 wc w.heap.size (fun k_ => some k_ ≠ (v146 : Value).ownBlock) v151 t149) ∧ Aside0 (wc.heap[gb140]? = some (.cells #[.int .i64 a1_0, .int .i64 a1_1, .int .i64 a1_2] 23 (0, 0))) ∧ Aside0 (wc.heap[gb141]? = some (.cells #[.int .i64 x142000_1, .int .i64 x142001_1, .int .i64 x142002_1, .int .i64 x142003_1, .int .i64 x142004_1, .int .i64 x142005_1, .int .i64 x142006_1, (.slice none 0 0), (.slice none 0 0)] 55 (0, 0))) ∧ Aside0 (Below w.heap.size w wc))
     case first =>
      have H := HC14.out; clear HC14
      by_cases c16 : t150 = true
      ·
       subst c16; rw [if_pos rfl] at H
       by_cases c17 : 0 < (l0.length : Int)
       ·
        rw [if_pos c17] at H; have c17b0 : decide (0 < (l0.length : Int)) = true := dt_ c17; have c17b1 : decide (0 < l0.length) = true := decide_eq_true (by omega); clear c17; (first | rw [c17b0] | (simp only [i64_w, i32_w]; rw [c17b0]) | skip)
        by_cases c18 : 0 ≤ x10_1
        ·
         rw [if_pos c18] at H; have c18b0 : decide (0 ≤ x10_1) = true := dt_ c18; clear c18
         by_cases c19 : (rdOf ByteArray.empty l0 0).toList = (rdOf ByteArray.empty y142 x10_1).toList
         ·
          rw [if_pos c19] at H; have c19b0 : ((rdOf ByteArray.empty l0 0).toList == (rdOf ByteArray.empty y142 x10_1).toList) = true := beq_iff_eq.mpr c19; have c19b1 : ((rdOf ByteArray.empty l0 0).toList != (rdOf ByteArray.empty y142 x10_1).toList) = false := bne_eq_false_iff_eq.mpr c19; clear c19
          by_cases c20 : x10_1 < (y145.length : Int)
          ·
           rw [if_pos c20] at H; have c20b0 : decide (x10_1 < (y145.length : Int)) = true := dt_ c20; clear c20; have H' := Aside0.mk H; clear H
           try go_wp2
           replace HO_6 := Aside0.mk (Kd.R_drew HO_6.out); replace HO_7 := Aside0.mk (Kd.R_drew HO_7.out); replace HO_8 := Aside0.mk (Kd.R_drew HO_8.out); replace BK140 := Aside0.mk (blk_drew BK140.out); replace BK141 := Aside0.mk (blk_drew BK141.out); replace HB := Aside0.mk (below_drew1 HB.out); have p153 : 0 ≤ (0 : Int) := (by omega); have q153 : 0 < (l0.length : Int) := od_; obtain ⟨ad153, e153, hx153_0⟩ := Kd.at_string HR0.out 0 p153 q153; have hw153_0 := hx153_0; (try rw [show ((0 : Int)).toNat = 0 from rfl] at hw153_0); (try rw [show 0 * 1 = 0 from rfl] at hw153_0); (try rw [Addr.add_zero'] at hw153_0)
           cases e153
           have qi153 : (0 < l0.length) = True := eq_true (by omega); (try rw [show ((0 : Int)).toNat = 0 from rfl] at hx153_0); (try rw [Addr.add_zero'] at hx153_0); replace hx153_0 := cw_ HB.out hx153_0; replace p153 := eq_true p153; replace q153 := eq_true q153; have p154 : 0 ≤ (x10_1 : Int) := od_; have q154 : x10_1 < (y142.length : Int) := od_; obtain ⟨ad154, e154, hx154_0⟩ := Kd.at_string (Kd.R_reads' HO_6.out).2.2 x10_1 p154 q154
           cases e154
           replace p154 := eq_true p154; replace q154 := eq_true q154; obtain ⟨Ao22, co22, eo22⟩ := Kd.R_slice HO_8.out; (first | subst eo22 | (injection eo22 with f1_ f2_ f3_; have f4_ := f1_.symm; have f5_ := f3_.symm; clear f1_ f2_ f3_; subst f4_; subst f5_)); obtain ⟨Ao23, co23, eo23⟩ := Kd.R_slice HO_7.out; (first | subst eo23 | (injection eo23 with f1_ f2_ f3_; have f4_ := f1_.symm; have f5_ := f3_.symm; clear f1_ f2_ f3_; subst f4_; subst f5_)); have p155 : 0 ≤ (x10_1 : Int) := od_; have q155 : x10_1 < (y145.length : Int) := od_; obtain ⟨ad155, e155, hx155_0⟩ := Kd.at_int (Kd.R_reads' HO_7.out).2.2 x10_1 p155 q155
           cases e155
           replace p155 := eq_true p155; replace q155 := eq_true q155; refine sta_ 21 (fun w' => w'.cell? ad153 = some (.string (rdOf ByteArray.empty l0 0)) ∧ w'.cell? (ad154.add (x10_1).toNat) = some (.string (rdOf ByteArray.empty y142 x10_1)) ∧ w'.cell? (ad155.add (x10_1).toNat) = some (.int .i64 (rd y145 x10_1))) ⟨(cw_ HB.out hw153_0), hx154_0, hx155_0⟩ (fun hHeld => ?_); refine with_tabW spec_l10Layer.tab7 spec_l10Layer.bits7 (fun HT_ HW_ => ?_); generalize wr.drew = w21 at HO_6 HO_7 HO_8 BK140 BK141 HB hx153_0 hx154_0 hx155_0 hHeld ⊢; refine pv_ 0 21 1 ?_; refine pv_ 1 21 3 ?_; refine pv_ 2 21 7 ?_; refine pv_ 3 21 15 ?_; refine pv_ 4 21 31 ?_; refine pv_ 6 21 95 ?_; refine pv_ 7 21 223 ?_; refine pv_ 8 21 479 ?_; refine tv_ 5 21 511 ?_; refine tv_ 9 21 1023 ?_; refine pv_ 10 21 2047 ?_; refine pv_ 11 21 4095 ?_; refine pv_ 12 21 8191 ?_; refine pv_ 13 21 16383 ?_; refine pv_ 14 21 32767 ?_; refine pv_ 15 21 65535 ?_; refine pv_ 16 21 131071 ?_; refine pv_ 17 21 262143 ?_; refine tv_ 18 21 524287 ?_; refine pv_ 19 21 1048575 ?_; refine pv_ 20 21 2097151 ?_; refine done_ (done_of HT_.out (by kernel_rfl)) ?_
           try go_wp2
           go_meet
           case rel => exact ⟨_, (((t149.length : Int) != (rd y145 x10_1))), rl_, H', ⟨by have := HK1.out; first | omega | exact Nat.le_refl _⟩, ⟨ra_ HO_6.out⟩, ⟨ra_ HO_7.out⟩, ⟨ra_ HO_8.out⟩, ⟨bu_ BK140.out⟩, ⟨bu_ BK141.out⟩, ⟨be_ HB.out⟩⟩
          ·
           rw [if_neg c20] at H; exact absurd H (by simp)
         ·
          rw [if_neg c19] at H; have c19b0 : ((rdOf ByteArray.empty l0 0).toList == (rdOf ByteArray.empty y142 x10_1).toList) = false := beq_eq_false_iff_ne.mpr c19; have c19b1 : ((rdOf ByteArray.empty l0 0).toList != (rdOf ByteArray.empty y142 x10_1).toList) = true := bne_iff_ne.mpr c19; have H' := Aside0.mk H; clear H
          try go_wp2
          replace HO_6 := Aside0.mk (Kd.R_drew HO_6.out); replace HO_7 := Aside0.mk (Kd.R_drew HO_7.out); replace HO_8 := Aside0.mk (Kd.R_drew HO_8.out); replace BK140 := Aside0.mk (blk_drew BK140.out); replace BK141 := Aside0.mk (blk_drew BK141.out); replace HB := Aside0.mk (below_drew1 HB.out); have p153 : 0 ≤ (0 : Int) := (by omega); have q153 : 0 < (l0.length : Int) := od_; obtain ⟨ad153, e153, hx153_0⟩ := Kd.at_string HR0.out 0 p153 q153; have hw153_0 := hx153_0; (try rw [show ((0 : Int)).toNat = 0 from rfl] at hw153_0); (try rw [show 0 * 1 = 0 from rfl] at hw153_0); (try rw [Addr.add_zero'] at hw153_0)
          cases e153
          have qi153 : (0 < l0.length) = True := eq_true (by omega); (try rw [show ((0 : Int)).toNat = 0 from rfl] at hx153_0); (try rw [Addr.add_zero'] at hx153_0); replace hx153_0 := cw_ HB.out hx153_0; replace p153 := eq_true p153; replace q153 := eq_true q153; have p154 : 0 ≤ (x10_1 : Int) := od_; have q154 : x10_1 < (y142.length : Int) := od_; obtain ⟨ad154, e154, hx154_0⟩ := Kd.at_string (Kd.R_reads' HO_6.out).2.2 x10_1 p154 q154
          cases e154
          replace p154 := eq_true p154; replace q154 := eq_true q154; refine sta_ 21 (fun w' => w'.cell? ad153 = some (.string (rdOf ByteArray.empty l0 0)) ∧ w'.cell? (ad154.add (x10_1).toNat) = some (.string (rdOf ByteArray.empty y142 x10_1))) ⟨(cw_ HB.out hw153_0), hx154_0⟩ (fun hHeld => ?_); refine with_tabW spec_l10Layer.tab7 spec_l10Layer.bits7 (fun HT_ HW_ => ?_); generalize wr.drew = w24 at HO_6 HO_7 HO_8 BK140 BK141 HB hx153_0 hx154_0 hHeld ⊢; refine pv_ 0 21 1 ?_; refine pv_ 1 21 3 ?_; refine pv_ 2 21 7 ?_; refine pv_ 3 21 15 ?_; refine pv_ 4 21 31 ?_; refine pv_ 6 21 95 ?_; refine pv_ 7 21 223 ?_; refine pv_ 8 21 479 ?_; refine tv_ 5 21 511 ?_; refine tv_ 9 21 1023 ?_; refine pv_ 10 21 2047 ?_; refine pv_ 11 21 4095 ?_; refine pv_ 12 21 8191 ?_; refine pw_ 13 21 16383 ?_; refine pw_ 14 21 32767 ?_; refine pw_ 15 21 65535 ?_; refine pw_ 16 21 131071 ?_; refine pw_ 17 21 262143 ?_; refine pw_ 18 21 524287 ?_; refine pw_ 19 21 1048575 ?_; refine pv_ 20 21 2097151 ?_; refine done_ (done_of HT_.out (by kernel_rfl)) ?_
          try go_wp2
          go_meet
          case rel => exact ⟨_, (true), rl_, H', ⟨by have := HK1.out; first | omega | exact Nat.le_refl _⟩, ⟨ra_ HO_6.out⟩, ⟨ra_ HO_7.out⟩, ⟨ra_ HO_8.out⟩, ⟨bu_ BK140.out⟩, ⟨bu_ BK141.out⟩, ⟨be_ HB.out⟩⟩
        ·
         rw [if_neg c18] at H; exact absurd H (by simp)
       ·
        rw [if_neg c17] at H; exact absurd H (by simp)
      ·
       replace c16 := fb_ c16; subst c16; replace H := if0_ H
       have H' := Aside0.mk H; clear H
       try go_wp2
       replace HO_6 := Aside0.mk (Kd.R_drew HO_6.out); replace HO_7 := Aside0.mk (Kd.R_drew HO_7.out); replace HO_8 := Aside0.mk (Kd.R_drew HO_8.out); replace BK140 := Aside0.mk (blk_drew BK140.out); replace BK141 := Aside0.mk (blk_drew BK141.out); replace HB := Aside0.mk (below_drew1 HB.out); refine sta_ 21 (fun w' => True) trivial (fun hHeld => ?_); refine with_tabW spec_l10Layer.tab7 spec_l10Layer.bits7 (fun HT_ HW_ => ?_); generalize wr.drew = w25 at HO_6 HO_7 HO_8 BK140 BK141 HB hHeld ⊢; refine pv_ 0 21 1 ?_; refine pv_ 1 21 3 ?_; refine pv_ 2 21 7 ?_; refine pw_ 3 21 15 ?_; refine pw_ 4 21 31 ?_; refine pw_ 5 21 63 ?_; refine pw_ 6 21 127 ?_; refine pw_ 7 21 255 ?_; refine pw_ 8 21 511 ?_; refine pw_ 9 21 1023 ?_; refine pw_ 10 21 2047 ?_; refine pv_ 11 21 4095 ?_; refine pv_ 12 21 8191 ?_; refine pw_ 13 21 16383 ?_; refine pw_ 14 21 32767 ?_; refine pw_ 15 21 65535 ?_; refine pw_ 16 21 131071 ?_; refine pw_ 17 21 262143 ?_; refine pw_ 18 21 524287 ?_; refine pw_ 19 21 1048575 ?_; refine pv_ 20 21 2097151 ?_; refine done_ (done_of HT_.out (by kernel_rfl)) ?_
       try go_wp2
       go_meet
       case rel => exact ⟨_, (true), rl_, H', ⟨by have := HK1.out; first | omega | exact Nat.le_refl _⟩, ⟨ra_ HO_6.out⟩, ⟨ra_ HO_7.out⟩, ⟨ra_ HO_8.out⟩, ⟨bu_ BK140.out⟩, ⟨bu_ BK141.out⟩, ⟨be_ HB.out⟩⟩
     case rest =>
      clear HC14; (try clear c1); (try clear p1); (try clear q1); (try clear hx1); (try clear qi1); (try clear c2); (try clear p2); (try clear p15); (try clear q15); (try clear hx15); (try clear qi15); (try clear c16); (try clear c17); (try clear c17b0); (try clear c17b1); (try clear c18); (try clear c18b0); (try clear c19); (try clear c19b0); (try clear c19b1); (try clear c20); (try clear c20b0); (try clear hx153_0); (try clear hx154_0); (try clear hx155_0); (try clear p153); (try clear p154); (try clear p155); (try clear q153); (try clear q154); (try clear q155); obtain ⟨kq, x46_13, rfl, HA, HJ13, HO_6, HO_7, HO_8, BK140, BK141, HB⟩ := hcut
      cases kq with
      | zero => exact absurd HA.out (by simp [spec_l10Layer.j1])
      | succ kj13 =>
       have H := HA.out; clear HA; simp only [spec_l10Layer.j1] at H
       by_cases c26 : x46_13 = true
       ·
        subst c26; rw [if_pos rfl] at H; have H' := Aside0.mk H; clear H
        go_wp2
        go_roundg kj13
        case measure => have := HK1.out; have := HJ13.out; omega
        case rel => exact ⟨(wrap64 (x10_1 + 1)), (x142000_1), (x142001_1), (x142002_1), (x142003_1), (x142004_1), (x142005_1), (x142006_1), rl_, H', ⟨by have := HK1.out; have := HJ13.out; omega⟩, ⟨ra_ HO_6.out⟩, ⟨ra_ HO_7.out⟩, ⟨ra_ HO_8.out⟩, ⟨bu_ BK140.out⟩, ⟨bu_ BK141.out⟩, ⟨be_ HB.out⟩⟩
       ·
        replace c26 := fb_ c26; subst c26; replace H := if0_ H
        by_cases c27 : x10_1 = 0
        ·
         rw [if_pos c27] at H; have c27b0 : (x10_1 == 0) = true := eq1_ c27; have c27b1 : (x10_1 != 0) = false := ne0_ c27; clear c27
         by_cases c28 : 0 < (t149.length : Int)
         ·
          rw [if_pos c28] at H; have c28b0 : decide (0 < (t149.length : Int)) = true := dt_ c28; have c28b1 : decide (0 < t149.length) = true := decide_eq_true (by omega); clear c28
          by_cases c29 : 1 < (t149.length : Int)
          ·
           rw [if_pos c29] at H; have c29b0 : decide (1 < (t149.length : Int)) = true := dt_ c29; have c29b1 : decide (1 < t149.length) = true := decide_eq_true (by omega); clear c29
           by_cases c30 : 2 < (t149.length : Int)
           ·
            rw [if_pos c30] at H; have c30b0 : decide (2 < (t149.length : Int)) = true := dt_ c30; have c30b1 : decide (2 < t149.length) = true := decide_eq_true (by omega); clear c30
            by_cases c31 : 3 < (t149.length : Int)
            ·
             rw [if_pos c31] at H; have c31b0 : decide (3 < (t149.length : Int)) = true := dt_ c31; have c31b1 : decide (3 < t149.length) = true := decide_eq_true (by omega); clear c31
             by_cases c32 : 4 < (t149.length : Int)
             ·
              rw [if_pos c32] at H; have c32b0 : decide (4 < (t149.length : Int)) = true := dt_ c32; have c32b1 : decide (4 < t149.length) = true := decide_eq_true (by omega); clear c32; obtain ⟨t163, A33, H⟩ := bo_ H; (try dsimp only at H); obtain ⟨t164, A34, H⟩ := bo_ H; (try dsimp only at H); obtain ⟨t168, A35, H⟩ := bo_ H; (try dsimp only at H); simp only [Option.some.injEq, Prod.mk.injEq] at H; obtain ⟨rfl, rfl, rfl, rfl, rfl, rfl, rfl, rfl, rfl, rfl⟩ := H
              try go_wp2_with (first | ((with_reducible refine gate_dst (N := 11) rfl ?_); (try (refine gate_guard (by rfl) ?_; dsimp only)); refine bz_ 11 ?_; intro gb156 hg w36 hbox hb; replace HO_6 := rb_ HO_6 hb; replace HO_7 := rb_ HO_7 hb; replace HO_8 := rb_ HO_8 hb; obtain ⟨BK156, GW156, GE156, HB⟩ := nb_ hg hbox HB hb; have NB140_156 := nx_ hg BK140; have NB156_140 := ny_ hg BK140; replace BK140 := bb_ BK140 hb; have NB141_156 := nx_ hg BK141; have NB156_141 := ny_ hg BK141; replace BK141 := bb_ BK141 hb; clear hb hbox hg; have hnb37 := nn_ NB156_140 NB140_156; have hnb38 := nn_ NB156_141 NB141_156; have hcz39 := box9_ BK156.out))
              generalize hq_ : (((((((((w36.setCell ⟨gb156, 0, none⟩ (.int .i64 x10_1)).setCell ⟨gb156, 1, none⟩ (.int .i64 0)).setCell ⟨gb156, 2, none⟩ (.int .i64 0)).setCell ⟨gb156, 3, none⟩ (.int .i64 0)).setCell ⟨gb156, 4, none⟩ (.int .i64 0)).setCell ⟨gb156, 5, none⟩ (.int .i64 0)).setCell ⟨gb156, 6, none⟩ (.int .i64 0)).setCell ⟨gb156, 7, none⟩ (.slice none 0 0)).setCell ⟨gb156, 8, none⟩ (.slice none 0 0)) = w40; replace HO_6 : Aside0 (Kd.R Kd.string 9 w40 w.heap.size (fun _ => True) (.slice Ao15 y142.length co15) y142) := ⟨by rw [← hq_]; (with_reducible repeat (first | apply Kd.R_alloc | apply Kd.R_drewN | apply Kd.R_drew)); exact Kd.R_mono (Kd.R_far (p := ⟨gb156, 8, none⟩) (Kd.R_far (p := ⟨gb156, 7, none⟩) (Kd.R_far (p := ⟨gb156, 6, none⟩) (Kd.R_far (p := ⟨gb156, 5, none⟩) (Kd.R_far (p := ⟨gb156, 4, none⟩) (Kd.R_far (p := ⟨gb156, 3, none⟩) (Kd.R_far (p := ⟨gb156, 2, none⟩) (Kd.R_far (p := ⟨gb156, 1, none⟩) (Kd.R_far (p := ⟨gb156, 0, none⟩) (Kd.R_types HO_6.out BK156.out (by decide)) (fun _ hk => hk.2) (.int .i64 x10_1)) (fun _ hk => hk.2) (.int .i64 0)) (fun _ hk => hk.2) (.int .i64 0)) (fun _ hk => hk.2) (.int .i64 0)) (fun _ hk => hk.2) (.int .i64 0)) (fun _ hk => hk.2) (.int .i64 0)) (fun _ hk => hk.2) (.int .i64 0)) (fun _ hk => hk.2) (.slice none 0 0)) (fun _ hk => hk.2) (.slice none 0 0)) (fun _ hk => trivial)⟩; replace HO_7 : Aside0 (Kd.R (Kd.int .i64) 3 w40 w.heap.size (fun k_ => some k_ ≠ (v151 : Value).ownBlock) v146 y145) := ⟨by rw [← hq_]; (with_reducible repeat (first | apply Kd.R_alloc | apply Kd.R_drewN | apply Kd.R_drew)); exact Kd.R_mono (Kd.R_far (p := ⟨gb156, 8, none⟩) (Kd.R_far (p := ⟨gb156, 7, none⟩) (Kd.R_far (p := ⟨gb156, 6, none⟩) (Kd.R_far (p := ⟨gb156, 5, none⟩) (Kd.R_far (p := ⟨gb156, 4, none⟩) (Kd.R_far (p := ⟨gb156, 3, none⟩) (Kd.R_far (p := ⟨gb156, 2, none⟩) (Kd.R_far (p := ⟨gb156, 1, none⟩) (Kd.R_far (p := ⟨gb156, 0, none⟩) (Kd.R_types HO_7.out BK156.out (by decide)) (fun _ hk => hk.2) (.int .i64 x10_1)) (fun _ hk => hk.2) (.int .i64 0)) (fun _ hk => hk.2) (.int .i64 0)) (fun _ hk => hk.2) (.int .i64 0)) (fun _ hk => hk.2) (.int .i64 0)) (fun _ hk => hk.2) (.int .i64 0)) (fun _ hk => hk.2) (.int .i64 0)) (fun _ hk => hk.2) (.slice none 0 0)) (fun _ hk => hk.2) (.slice none 0 0)) (fun _ hk => hk.1)⟩; replace HO_8 : Aside0 (Kd.R (Kd.int .i64) 3 w40 w.heap.size (fun k_ => some k_ ≠ (v146 : Value).ownBlock) v151 t149) := ⟨by rw [← hq_]; (with_reducible repeat (first | apply Kd.R_alloc | apply Kd.R_drewN | apply Kd.R_drew)); exact Kd.R_mono (Kd.R_far (p := ⟨gb156, 8, none⟩) (Kd.R_far (p := ⟨gb156, 7, none⟩) (Kd.R_far (p := ⟨gb156, 6, none⟩) (Kd.R_far (p := ⟨gb156, 5, none⟩) (Kd.R_far (p := ⟨gb156, 4, none⟩) (Kd.R_far (p := ⟨gb156, 3, none⟩) (Kd.R_far (p := ⟨gb156, 2, none⟩) (Kd.R_far (p := ⟨gb156, 1, none⟩) (Kd.R_far (p := ⟨gb156, 0, none⟩) (Kd.R_types HO_8.out BK156.out (by decide)) (fun _ hk => hk.2) (.int .i64 x10_1)) (fun _ hk => hk.2) (.int .i64 0)) (fun _ hk => hk.2) (.int .i64 0)) (fun _ hk => hk.2) (.int .i64 0)) (fun _ hk => hk.2) (.int .i64 0)) (fun _ hk => hk.2) (.int .i64 0)) (fun _ hk => hk.2) (.int .i64 0)) (fun _ hk => hk.2) (.slice none 0 0)) (fun _ hk => hk.2) (.slice none 0 0)) (fun _ hk => hk.1)⟩; replace BK140 := sb_ hq_ BK140; replace BK141 := sb_ hq_ BK141; replace BK156 := sb_ hq_ BK156; replace HB := sh_ hq_ HB; clear hq_; replace HO_6 := Aside0.mk (Kd.R_drew HO_6.out); replace HO_7 := Aside0.mk (Kd.R_drew HO_7.out); replace HO_8 := Aside0.mk (Kd.R_drew HO_8.out); replace BK140 := Aside0.mk (blk_drew BK140.out); replace BK141 := Aside0.mk (blk_drew BK141.out); replace BK156 := Aside0.mk (blk_drew BK156.out); replace HB := Aside0.mk (below_drew1 HB.out); obtain ⟨Ao42, co42, eo42⟩ := Kd.R_slice HO_8.out; (first | subst eo42 | (injection eo42 with f1_ f2_ f3_; have f4_ := f1_.symm; have f5_ := f3_.symm; clear f1_ f2_ f3_; subst f4_; subst f5_)); have p157 : 0 ≤ (0 : Int) := (by omega); have q157 : 0 < (t149.length : Int) := od_; obtain ⟨ad157, e157, hx157_0⟩ := Kd.at_int (Kd.R_reads' HO_8.out).2.2 0 p157 q157
              cases e157
              have qi157 : (0 < t149.length) = True := eq_true (by omega); (try rw [show ((0 : Int)).toNat = 0 from rfl] at hx157_0); (try rw [Addr.add_zero'] at hx157_0); replace p157 := eq_true p157; replace q157 := eq_true q157; have p158 : 0 ≤ (1 : Int) := (by omega); have q158 : 1 < (t149.length : Int) := od_; obtain ⟨ad158, e158, hx158_0⟩ := Kd.at_int (Kd.R_reads' HO_8.out).2.2 1 p158 q158; obtain rfl : ad157 = ad158 := (by injection e158); (try simp only [show (1 : Int).toNat = 1 from rfl, Nat.reduceMul, Nat.reduceEqDiff, Go.Addr.add, ↓reduceIte] at hx158_0); have qi158 : (1 < t149.length) = True := eq_true (by omega); (try rw [show ((1 : Int)).toNat = 1 from rfl] at hx158_0); replace p158 := eq_true p158; replace q158 := eq_true q158; have p159 : 0 ≤ (2 : Int) := (by omega); have q159 : 2 < (t149.length : Int) := od_; obtain ⟨ad159, e159, hx159_0⟩ := Kd.at_int (Kd.R_reads' HO_8.out).2.2 2 p159 q159; obtain rfl : ad157 = ad159 := (by injection e159); (try simp only [show (2 : Int).toNat = 2 from rfl, Nat.reduceMul, Nat.reduceEqDiff, Go.Addr.add, ↓reduceIte] at hx159_0); have qi159 : (2 < t149.length) = True := eq_true (by omega); (try rw [show ((2 : Int)).toNat = 2 from rfl] at hx159_0); replace p159 := eq_true p159; replace q159 := eq_true q159; have p160 : 0 ≤ (3 : Int) := (by omega); have q160 : 3 < (t149.length : Int) := od_; obtain ⟨ad160, e160, hx160_0⟩ := Kd.at_int (Kd.R_reads' HO_8.out).2.2 3 p160 q160; obtain rfl : ad157 = ad160 := (by injection e160); (try simp only [show (3 : Int).toNat = 3 from rfl, Nat.reduceMul, Nat.reduceEqDiff, Go.Addr.add, ↓reduceIte] at hx160_0); have qi160 : (3 < t149.length) = True := eq_true (by omega); (try rw [show ((3 : Int)).toNat = 3 from rfl] at hx160_0); replace p160 := eq_true p160; replace q160 := eq_true q160; have p161 : 0 ≤ (4 : Int) := (by omega); have q161 : 4 < (t149.length : Int) := od_; obtain ⟨ad161, e161, hx161_0⟩ := Kd.at_int (Kd.R_reads' HO_8.out).2.2 4 p161 q161; obtain rfl : ad157 = ad161 := (by injection e161); (try simp only [show (4 : Int).toNat = 4 from rfl, Nat.reduceMul, Nat.reduceEqDiff, Go.Addr.add, ↓reduceIte] at hx161_0); have qi161 : (4 < t149.length) = True := eq_true (by omega); (try rw [show ((4 : Int)).toNat = 4 from rfl] at hx161_0); replace p161 := eq_true p161; replace q161 := eq_true q161; have p162 : 0 ≤ (0 : Int) := (by omega); have q162 : 0 < (t149.length : Int) := od_; obtain ⟨ad162, e162, hx162_0⟩ := Kd.at_int (Kd.R_reads' HO_8.out).2.2 0 p162 q162; obtain rfl : ad157 = ad162 := (by injection e162); have qi162 : (0 < t149.length) = True := eq_true (by omega); (try rw [show ((0 : Int)).toNat = 0 from rfl] at hx162_0); (try rw [Addr.add_zero'] at hx162_0); replace p162 := eq_true p162; replace q162 := eq_true q162; have p167 : 0 ≤ (0 : Int) := (by omega); have q167 : 0 < (t149.length : Int) := od_; obtain ⟨ad167, e167, hx167_0⟩ := Kd.at_int (Kd.R_reads' HO_8.out).2.2 0 p167 q167; obtain rfl : ad157 = ad167 := (by injection e167); have qi167 : (0 < t149.length) = True := eq_true (by omega); (try rw [show ((0 : Int)).toNat = 0 from rfl] at hx167_0); (try rw [Addr.add_zero'] at hx167_0); replace p167 := eq_true p167; replace q167 := eq_true q167; refine sta_ 30 (fun w' => CE_ w' gb140 0 (.int .i64 a1_0) ∧ CE_ w' gb140 1 (.int .i64 a1_1) ∧ CE_ w' gb140 2 (.int .i64 a1_2) ∧ w'.cell? ad157 = some (.int .i64 (rd t149 0)) ∧ CF_ w' ad157 1 (.int .i64 (rd t149 1)) ∧ CF_ w' ad157 2 (.int .i64 (rd t149 2)) ∧ CF_ w' ad157 3 (.int .i64 (rd t149 3)) ∧ CF_ w' ad157 4 (.int .i64 (rd t149 4)) ∧ w'.cell? ad157 = some (.int .i64 (rd t149 0)) ∧ w'.cell? ad157 = some (.int .i64 (rd t149 0))) ⟨bk_ BK140 0, bk_ BK140 1, bk_ BK140 2, hx157_0, hx158_0, hx159_0, hx160_0, hx161_0, hx162_0, hx167_0⟩ (fun hHeld => ?_); refine with_tabW spec_l10Layer.tab11 spec_l10Layer.bits11 (fun HT_ HW_ => ?_); generalize w40.drew = w41 at HO_6 HO_7 HO_8 BK140 BK141 BK156 HB hx157_0 hx158_0 hx159_0 hx160_0 hx161_0 hx162_0 hx167_0 hHeld ⊢; refine pv_ 0 30 1 ?_; refine pv_ 1 30 3 ?_; refine pv_ 2 30 7 ?_; refine pv_ 4 30 23 ?_; refine pv_ 5 30 55 ?_; refine pv_ 8 30 311 ?_; refine pv_ 9 30 823 ?_; refine pv_ 11 30 2871 ?_; refine pv_ 12 30 6967 ?_; refine pv_ 14 30 23351 ?_; refine pv_ 15 30 56119 ?_; refine pv_ 17 30 187191 ?_; refine pv_ 18 30 449335 ?_; refine pv_ 24 30 17226551 ?_; refine pv_ 25 30 50780983 ?_; refine tv_ 3 30 50780991 ?_; refine tv_ 6 30 50781055 ?_; refine pv_ 7 30 50781183 ?_; refine tv_ 10 30 50782207 ?_; refine tv_ 13 30 50790399 ?_; refine tv_ 16 30 50855935 ?_; refine tv_ 19 30 51380223 ?_; refine tv_ 20 30 52428799 ?_; refine tv_ 26 30 119537663 ?_; refine one_ (i := 21) (N := some 73) (bl_ 30 121634815) rfl rfl (one_of HT_.out (by kernel_rfl)) (by decide) (fun K hK => ?_); refine gv_ Tryz.func60 ?_
              (with_reducible refine (spec_SizeOf.calls A33.out).mono ?_)
              rintro e w43 ⟨rfl, hb⟩; have HS3_ := cw_ hb hHeld.2.2.2.1; have HS4_ := cw_ hb hHeld.2.2.2.2.1; have HS5_ := cw_ hb hHeld.2.2.2.2.2.1; have HS6_ := cw_ hb hHeld.2.2.2.2.2.2.1; have HS7_ := cw_ hb hHeld.2.2.2.2.2.2.2.1; have HS8_ := cw_ hb hHeld.2.2.2.2.2.2.2.2.1; have HS9_ := cw_ hb hHeld.2.2.2.2.2.2.2.2.2; refine ⟨_, rfl, ?_⟩; replace HO_6 := rb_ HO_6 hb; replace HO_7 := rb_ HO_7 hb; replace HO_8 := rb_ HO_8 hb; replace BK140 := bb_ BK140 hb; replace BK141 := bb_ BK141 hb; replace BK156 := bb_ BK156 hb; replace HB := hb_ HB hb; (try clear hb); refine hK.out _ _ ⟨bk_ BK140 0, bk_ BK140 1, bk_ BK140 2, HS3_, HS4_, HS5_, HS6_, HS7_, HS8_, HS9_⟩ (fun hHeld => ?_); clear hK K; refine nm_ 73 (h := ?_); refine pv_ 22 30 125829119 ?_; refine one_ (i := 23) (N := some 75) (bl_ 30 134217727) rfl rfl (one_of HT_.out (by kernel_rfl)) (by decide) (fun K hK => ?_); refine gv_ Tryz.func59 ?_
              (with_reducible refine (spec_l10Same.calls A34.out).mono ?_)
              rintro e w44 ⟨v165, rfl, ho0, hb⟩; have HS3_ := cw_ hb hHeld.2.2.2.1; have HS4_ := cw_ hb hHeld.2.2.2.2.1; have HS5_ := cw_ hb hHeld.2.2.2.2.2.1; have HS6_ := cw_ hb hHeld.2.2.2.2.2.2.1; have HS7_ := cw_ hb hHeld.2.2.2.2.2.2.2.1; have HS8_ := cw_ hb hHeld.2.2.2.2.2.2.2.2.1; have HS9_ := cw_ hb hHeld.2.2.2.2.2.2.2.2.2; refine ⟨_, rfl, ?_⟩; replace HO_6 := rb_ HO_6 hb; have HO166 := Aside0.mk (Kd.R_lower (Kd.R_new' (Kd.R_new' ho0 (Kd.R_lt (ra_ HO_7.out))) (Kd.R_lt (ra_ HO_8.out))) (below_size (be_ HB.out))); replace HO_7 := Aside0.mk (Kd.R_elder' (ra_ HO_7.out) (Kd.R_base ho0) hb); replace HO_8 := Aside0.mk (Kd.R_elder' (ra_ HO_8.out) (Kd.R_base ho0) hb); replace BK140 := bb_ BK140 hb; replace BK141 := bb_ BK141 hb; replace BK156 := bb_ BK156 hb; replace HB := hb_ HB hb; (try clear hb ho0); refine hK.out _ _ ⟨bk_ BK140 0, bk_ BK140 1, bk_ BK140 2, HS3_, HS4_, HS5_, HS6_, HS7_, HS8_, HS9_⟩ (fun hHeld => ?_); clear hK K; refine nm_ 75 (h := ?_); refine one_ (i := 27) (N := some 79) (bl_ 30 268435455) rfl rfl (one_of HT_.out (by kernel_rfl)) (by decide) (fun K hK => ?_); refine gv_ Tryz.func59 ?_
              (with_reducible refine (spec_l10Same.calls A35.out).mono ?_)
              rintro e w45 ⟨v169, rfl, ho0, hb⟩; have HS3_ := cw_ hb hHeld.2.2.2.1; have HS4_ := cw_ hb hHeld.2.2.2.2.1; have HS5_ := cw_ hb hHeld.2.2.2.2.2.1; have HS6_ := cw_ hb hHeld.2.2.2.2.2.2.1; have HS7_ := cw_ hb hHeld.2.2.2.2.2.2.2.1; have HS8_ := cw_ hb hHeld.2.2.2.2.2.2.2.2.1; have HS9_ := cw_ hb hHeld.2.2.2.2.2.2.2.2.2; refine ⟨_, rfl, ?_⟩; replace HO_6 := rb_ HO_6 hb; have HO170 := Aside0.mk (Kd.R_lower (Kd.R_new' (Kd.R_new' (Kd.R_new' ho0 (Kd.R_lt (ra_ HO_7.out))) (Kd.R_lt (ra_ HO_8.out))) (Kd.R_lt (ra_ HO166.out))) (below_size (be_ HB.out))); replace HO_7 := Aside0.mk (Kd.R_elder' (ra_ HO_7.out) (Kd.R_base ho0) hb); replace HO_8 := Aside0.mk (Kd.R_elder' (ra_ HO_8.out) (Kd.R_base ho0) hb); replace HO166 := Aside0.mk (Kd.R_elder' (ra_ HO166.out) (Kd.R_base ho0) hb); replace BK140 := bb_ BK140 hb; replace BK141 := bb_ BK141 hb; replace BK156 := bb_ BK156 hb; replace HB := hb_ HB hb; (try clear hb ho0); obtain ⟨Ao46, co46, eo46⟩ := Kd.R_slice HO170.out; (first | subst eo46 | (injection eo46 with f1_ f2_ f3_; have f4_ := f1_.symm; have f5_ := f3_.symm; clear f1_ f2_ f3_; subst f4_; subst f5_)); obtain ⟨Ao47, co47, eo47⟩ := Kd.R_slice HO166.out; (first | subst eo47 | (injection eo47 with f1_ f2_ f3_; have f4_ := f1_.symm; have f5_ := f3_.symm; clear f1_ f2_ f3_; subst f4_; subst f5_)); refine hK.out _ _ ⟨bk_ BK140 0, bk_ BK140 1, bk_ BK140 2, HS3_, HS4_, HS5_, HS6_, HS7_, HS8_, HS9_⟩ (fun hHeld => ?_); clear hK K; refine nm_ 79 (h := ?_); refine pv_ 28 30 536870911 ?_; refine one_ (i := 29) (N := none) (bl_ 30 1073741823) rfl rfl (one_of HT_.out (by kernel_rfl)) (by decide) (fun K hK => ?_); have hs48 : w45.cell? ⟨gb156, 0, none⟩ = some (.int .i64 x10_1) := bk_ BK156 0; have hfs48 := blk_frozen BK156.out 0; have hns48_0 := NB140_156.out; have hns48_1 := NB141_156.out; have hms48_0 := NB156_140.out; have hms48_1 := NB156_141.out; have hs49 : w45.cell? ⟨gb156, 1, none⟩ = some (.int .i64 0) := bk_ BK156 1; have hfs49 := blk_frozen BK156.out 1; have hns49_0 := NB140_156.out; have hns49_1 := NB141_156.out; have hms49_0 := NB156_140.out; have hms49_1 := NB156_141.out; have hs50 : w45.cell? ⟨gb156, 2, none⟩ = some (.int .i64 0) := bk_ BK156 2; have hfs50 := blk_frozen BK156.out 2; have hns50_0 := NB140_156.out; have hns50_1 := NB141_156.out; have hms50_0 := NB156_140.out; have hms50_1 := NB156_141.out; have hs51 : w45.cell? ⟨gb156, 3, none⟩ = some (.int .i64 0) := bk_ BK156 3; have hfs51 := blk_frozen BK156.out 3; have hns51_0 := NB140_156.out; have hns51_1 := NB141_156.out; have hms51_0 := NB156_140.out; have hms51_1 := NB156_141.out; have hs52 : w45.cell? ⟨gb156, 4, none⟩ = some (.int .i64 0) := bk_ BK156 4; have hfs52 := blk_frozen BK156.out 4; have hns52_0 := NB140_156.out; have hns52_1 := NB141_156.out; have hms52_0 := NB156_140.out; have hms52_1 := NB156_141.out; have hs53 : w45.cell? ⟨gb156, 5, none⟩ = some (.int .i64 0) := bk_ BK156 5; have hfs53 := blk_frozen BK156.out 5; have hns53_0 := NB140_156.out; have hns53_1 := NB141_156.out; have hms53_0 := NB156_140.out; have hms53_1 := NB156_141.out; have hs54 : w45.cell? ⟨gb156, 6, none⟩ = some (.int .i64 0) := bk_ BK156 6; have hfs54 := blk_frozen BK156.out 6; have hns54_0 := NB140_156.out; have hns54_1 := NB141_156.out; have hms54_0 := NB156_140.out; have hms54_1 := NB156_141.out; have hs55 : w45.cell? ⟨gb156, 7, none⟩ = some (.slice none 0 0) := bk_ BK156 7; have hfs55 := blk_frozen BK156.out 7; have hns55_0 := NB140_156.out; have hns55_1 := NB141_156.out; have hms55_0 := NB156_140.out; have hms55_1 := NB156_141.out; have hs56 : w45.cell? ⟨gb156, 8, none⟩ = some (.slice none 0 0) := bk_ BK156 8; have hfs56 := blk_frozen BK156.out 8; have hns56_0 := NB140_156.out; have hns56_1 := NB141_156.out; have hms56_0 := NB156_140.out; have hms56_1 := NB156_141.out; refine skip_ (w1 := ?_) (by rfl) rfl ?_ ?_
              rotate_left
              ·
               go_simp
               rfl
              refine hK.out _ _ ⟨(cfn_ NB140_156.out ((cfn_ NB140_156.out ((cfn_ NB140_156.out ((cfn_ NB140_156.out ((cfn_ NB140_156.out ((c3_ NB140_156.out ((cfn_ NB140_156.out (hHeld.1)))))))))))))), (cfn_ NB140_156.out ((cfn_ NB140_156.out ((cfn_ NB140_156.out ((cfn_ NB140_156.out ((cfn_ NB140_156.out ((c3_ NB140_156.out ((cfn_ NB140_156.out (hHeld.2.1)))))))))))))), (cfn_ NB140_156.out ((cfn_ NB140_156.out ((cfn_ NB140_156.out ((cfn_ NB140_156.out ((cfn_ NB140_156.out ((c3_ NB140_156.out ((cfn_ NB140_156.out (hHeld.2.2.1)))))))))))))), (cff_ (Kd.own_blk (Kd.R_ne HO_8.out BK156.out (by decide))) ((cff_ (Kd.own_blk (Kd.R_ne HO_8.out BK156.out (by decide))) ((cff_ (Kd.own_blk (Kd.R_ne HO_8.out BK156.out (by decide))) ((cff_ (Kd.own_blk (Kd.R_ne HO_8.out BK156.out (by decide))) ((cff_ (Kd.own_blk (Kd.R_ne HO_8.out BK156.out (by decide))) ((cff_ (Kd.own_blk (Kd.R_ne HO_8.out BK156.out (by decide))) ((cff_ (Kd.own_blk (Kd.R_ne HO_8.out BK156.out (by decide))) ((cff_ (Kd.own_blk (Kd.R_ne HO_8.out BK156.out (by decide))) ((cff_ (Kd.own_blk (Kd.R_ne HO_8.out BK156.out (by decide))) (hHeld.2.2.2.1)))))))))))))))))), (cff_ (Kd.own_blk (Kd.R_ne HO_8.out BK156.out (by decide))) ((cff_ (Kd.own_blk (Kd.R_ne HO_8.out BK156.out (by decide))) ((cff_ (Kd.own_blk (Kd.R_ne HO_8.out BK156.out (by decide))) ((cff_ (Kd.own_blk (Kd.R_ne HO_8.out BK156.out (by decide))) ((cff_ (Kd.own_blk (Kd.R_ne HO_8.out BK156.out (by decide))) ((cff_ (Kd.own_blk (Kd.R_ne HO_8.out BK156.out (by decide))) ((cff_ (Kd.own_blk (Kd.R_ne HO_8.out BK156.out (by decide))) ((cff_ (Kd.own_blk (Kd.R_ne HO_8.out BK156.out (by decide))) ((cff_ (Kd.own_blk (Kd.R_ne HO_8.out BK156.out (by decide))) (hHeld.2.2.2.2.1)))))))))))))))))), (cff_ (Kd.own_blk (Kd.R_ne HO_8.out BK156.out (by decide))) ((cff_ (Kd.own_blk (Kd.R_ne HO_8.out BK156.out (by decide))) ((cff_ (Kd.own_blk (Kd.R_ne HO_8.out BK156.out (by decide))) ((cff_ (Kd.own_blk (Kd.R_ne HO_8.out BK156.out (by decide))) ((cff_ (Kd.own_blk (Kd.R_ne HO_8.out BK156.out (by decide))) ((cff_ (Kd.own_blk (Kd.R_ne HO_8.out BK156.out (by decide))) ((cff_ (Kd.own_blk (Kd.R_ne HO_8.out BK156.out (by decide))) ((cff_ (Kd.own_blk (Kd.R_ne HO_8.out BK156.out (by decide))) ((cff_ (Kd.own_blk (Kd.R_ne HO_8.out BK156.out (by decide))) (hHeld.2.2.2.2.2.1)))))))))))))))))), (cff_ (Kd.own_blk (Kd.R_ne HO_8.out BK156.out (by decide))) ((cff_ (Kd.own_blk (Kd.R_ne HO_8.out BK156.out (by decide))) ((cff_ (Kd.own_blk (Kd.R_ne HO_8.out BK156.out (by decide))) ((cff_ (Kd.own_blk (Kd.R_ne HO_8.out BK156.out (by decide))) ((cff_ (Kd.own_blk (Kd.R_ne HO_8.out BK156.out (by decide))) ((cff_ (Kd.own_blk (Kd.R_ne HO_8.out BK156.out (by decide))) ((cff_ (Kd.own_blk (Kd.R_ne HO_8.out BK156.out (by decide))) ((cff_ (Kd.own_blk (Kd.R_ne HO_8.out BK156.out (by decide))) ((cff_ (Kd.own_blk (Kd.R_ne HO_8.out BK156.out (by decide))) (hHeld.2.2.2.2.2.2.1)))))))))))))))))), (cff_ (Kd.own_blk (Kd.R_ne HO_8.out BK156.out (by decide))) ((cff_ (Kd.own_blk (Kd.R_ne HO_8.out BK156.out (by decide))) ((cff_ (Kd.own_blk (Kd.R_ne HO_8.out BK156.out (by decide))) ((cff_ (Kd.own_blk (Kd.R_ne HO_8.out BK156.out (by decide))) ((cff_ (Kd.own_blk (Kd.R_ne HO_8.out BK156.out (by decide))) ((cff_ (Kd.own_blk (Kd.R_ne HO_8.out BK156.out (by decide))) ((cff_ (Kd.own_blk (Kd.R_ne HO_8.out BK156.out (by decide))) ((cff_ (Kd.own_blk (Kd.R_ne HO_8.out BK156.out (by decide))) ((cff_ (Kd.own_blk (Kd.R_ne HO_8.out BK156.out (by decide))) (hHeld.2.2.2.2.2.2.2.1)))))))))))))))))), (cff_ (Kd.own_blk (Kd.R_ne HO_8.out BK156.out (by decide))) ((cff_ (Kd.own_blk (Kd.R_ne HO_8.out BK156.out (by decide))) ((cff_ (Kd.own_blk (Kd.R_ne HO_8.out BK156.out (by decide))) ((cff_ (Kd.own_blk (Kd.R_ne HO_8.out BK156.out (by decide))) ((cff_ (Kd.own_blk (Kd.R_ne HO_8.out BK156.out (by decide))) ((cff_ (Kd.own_blk (Kd.R_ne HO_8.out BK156.out (by decide))) ((cff_ (Kd.own_blk (Kd.R_ne HO_8.out BK156.out (by decide))) ((cff_ (Kd.own_blk (Kd.R_ne HO_8.out BK156.out (by decide))) ((cff_ (Kd.own_blk (Kd.R_ne HO_8.out BK156.out (by decide))) (hHeld.2.2.2.2.2.2.2.2.1)))))))))))))))))), (cff_ (Kd.own_blk (Kd.R_ne HO_8.out BK156.out (by decide))) ((cff_ (Kd.own_blk (Kd.R_ne HO_8.out BK156.out (by decide))) ((cff_ (Kd.own_blk (Kd.R_ne HO_8.out BK156.out (by decide))) ((cff_ (Kd.own_blk (Kd.R_ne HO_8.out BK156.out (by decide))) ((cff_ (Kd.own_blk (Kd.R_ne HO_8.out BK156.out (by decide))) ((cff_ (Kd.own_blk (Kd.R_ne HO_8.out BK156.out (by decide))) ((cff_ (Kd.own_blk (Kd.R_ne HO_8.out BK156.out (by decide))) ((cff_ (Kd.own_blk (Kd.R_ne HO_8.out BK156.out (by decide))) ((cff_ (Kd.own_blk (Kd.R_ne HO_8.out BK156.out (by decide))) (hHeld.2.2.2.2.2.2.2.2.2))))))))))))))))))⟩ (fun hHeld => ?_); clear hK K; refine done_ (done_of HT_.out (by kernel_rfl)) ?_; have hcz57 := box9_ BK156.out; have hnb58 := nn_ NB141_140 NB140_141; have hcz59 := box9_ BK141.out
              try go_wp2
              refine bodyPost_ret (results_ct rfl _ _ gb141 55 #[.int .i64 x10_1, .int .i64 (rd t149 0), .int .i64 0, .int .i64 0, .int .i64 (wrap64 ((rd t149 1) * 1000)), .int .i64 (rd t149 2), .int .i64 (rd t149 3), .slice Ao47 t164.length co47, .slice Ao46 t168.length co46] (0, 0) _ rfl (bq_ BK141.out) Tryz.underlying55 rfl (by kernel_rfl)) rfl ?_; exact ⟨_, _, by first | rfl | (simp [errW_none, errW_some] <;> rfl) | (simp [*, errW_none, errW_some] <;> rfl), by (with_reducible repeat (first | apply Kd.R_alloc | apply Kd.R_drewN | apply Kd.R_drew)); exact Kd.R_mono (Kd.R_far (p := ⟨gb141, 8, none⟩) (Kd.R_far (p := ⟨gb141, 7, none⟩) (Kd.R_far (p := ⟨gb141, 6, none⟩) (Kd.R_far (p := ⟨gb141, 5, none⟩) (Kd.R_far (p := ⟨gb141, 4, none⟩) (Kd.R_far (p := ⟨gb141, 3, none⟩) (Kd.R_far (p := ⟨gb141, 2, none⟩) (Kd.R_far (p := ⟨gb141, 1, none⟩) (Kd.R_far (p := ⟨gb141, 0, none⟩) (Kd.R_far (p := ⟨gb156, 8, none⟩) (Kd.R_far (p := ⟨gb156, 7, none⟩) (Kd.R_far (p := ⟨gb156, 6, none⟩) (Kd.R_far (p := ⟨gb156, 5, none⟩) (Kd.R_far (p := ⟨gb156, 4, none⟩) (Kd.R_far (p := ⟨gb156, 3, none⟩) (Kd.R_far (p := ⟨gb156, 2, none⟩) (Kd.R_far (p := ⟨gb156, 1, none⟩) (Kd.R_far (p := ⟨gb156, 0, none⟩) (Kd.R_types (Kd.R_types HO166.out BK156.out (by decide)) BK141.out (by decide)) (fun _ hk => hk.1.2) (.int .i64 x10_1)) (fun _ hk => hk.1.2) (.int .i64 (rd t149 0))) (fun _ hk => hk.1.2) (.int .i64 0)) (fun _ hk => hk.1.2) (.int .i64 0)) (fun _ hk => hk.1.2) (.int .i64 (wrap64 ((rd t149 1) * 1000)))) (fun _ hk => hk.1.2) (.int .i64 (rd t149 2))) (fun _ hk => hk.1.2) (.int .i64 (rd t149 3))) (fun _ hk => hk.1.2) (.slice Ao47 t164.length co47)) (fun _ hk => hk.1.2) (.slice Ao46 t168.length co46)) (fun _ hk => hk.2) (.int .i64 x10_1)) (fun _ hk => hk.2) (.int .i64 (rd t149 0))) (fun _ hk => hk.2) (.int .i64 0)) (fun _ hk => hk.2) (.int .i64 0)) (fun _ hk => hk.2) (.int .i64 (wrap64 ((rd t149 1) * 1000)))) (fun _ hk => hk.2) (.int .i64 (rd t149 2))) (fun _ hk => hk.2) (.int .i64 (rd t149 3))) (fun _ hk => hk.2) (.slice Ao47 t164.length co47)) (fun _ hk => hk.2) (.slice Ao46 t168.length co46)) (fun _ hk => hk.1.1.2), by (with_reducible repeat (first | apply Kd.R_alloc | apply Kd.R_drewN | apply Kd.R_drew)); exact Kd.R_mono (Kd.R_far (p := ⟨gb141, 8, none⟩) (Kd.R_far (p := ⟨gb141, 7, none⟩) (Kd.R_far (p := ⟨gb141, 6, none⟩) (Kd.R_far (p := ⟨gb141, 5, none⟩) (Kd.R_far (p := ⟨gb141, 4, none⟩) (Kd.R_far (p := ⟨gb141, 3, none⟩) (Kd.R_far (p := ⟨gb141, 2, none⟩) (Kd.R_far (p := ⟨gb141, 1, none⟩) (Kd.R_far (p := ⟨gb141, 0, none⟩) (Kd.R_far (p := ⟨gb156, 8, none⟩) (Kd.R_far (p := ⟨gb156, 7, none⟩) (Kd.R_far (p := ⟨gb156, 6, none⟩) (Kd.R_far (p := ⟨gb156, 5, none⟩) (Kd.R_far (p := ⟨gb156, 4, none⟩) (Kd.R_far (p := ⟨gb156, 3, none⟩) (Kd.R_far (p := ⟨gb156, 2, none⟩) (Kd.R_far (p := ⟨gb156, 1, none⟩) (Kd.R_far (p := ⟨gb156, 0, none⟩) (Kd.R_types (Kd.R_types HO170.out BK156.out (by decide)) BK141.out (by decide)) (fun _ hk => hk.1.2) (.int .i64 x10_1)) (fun _ hk => hk.1.2) (.int .i64 (rd t149 0))) (fun _ hk => hk.1.2) (.int .i64 0)) (fun _ hk => hk.1.2) (.int .i64 0)) (fun _ hk => hk.1.2) (.int .i64 (wrap64 ((rd t149 1) * 1000)))) (fun _ hk => hk.1.2) (.int .i64 (rd t149 2))) (fun _ hk => hk.1.2) (.int .i64 (rd t149 3))) (fun _ hk => hk.1.2) (.slice Ao47 t164.length co47)) (fun _ hk => hk.1.2) (.slice Ao46 t168.length co46)) (fun _ hk => hk.2) (.int .i64 x10_1)) (fun _ hk => hk.2) (.int .i64 (rd t149 0))) (fun _ hk => hk.2) (.int .i64 0)) (fun _ hk => hk.2) (.int .i64 0)) (fun _ hk => hk.2) (.int .i64 (wrap64 ((rd t149 1) * 1000)))) (fun _ hk => hk.2) (.int .i64 (rd t149 2))) (fun _ hk => hk.2) (.int .i64 (rd t149 3))) (fun _ hk => hk.2) (.slice Ao47 t164.length co47)) (fun _ hk => hk.2) (.slice Ao46 t168.length co46)) (fun _ hk => hk.1.1.2), be_ HB.out⟩
             ·
              rw [if_neg c32] at H; exact absurd H (by simp)
            ·
             rw [if_neg c31] at H; exact absurd H (by simp)
           ·
            rw [if_neg c30] at H; exact absurd H (by simp)
          ·
           rw [if_neg c29] at H; exact absurd H (by simp)
         ·
          rw [if_neg c28] at H; exact absurd H (by simp)
        ·
         rw [if_neg c27] at H; have c27b0 : (x10_1 == 0) = false := eq0_ c27; have c27b1 : (x10_1 != 0) = true := ne1_ c27
         by_cases c60 : x10_1 = 1
         ·
          rw [if_pos c60] at H; have c60b0 : (x10_1 == 1) = true := eq1_ c60; have c60b1 : (x10_1 != 1) = false := ne0_ c60; clear c60
          by_cases c61 : 0 < (t149.length : Int)
          ·
           rw [if_pos c61] at H; have c61b0 : decide (0 < (t149.length : Int)) = true := dt_ c61; have c61b1 : decide (0 < t149.length) = true := decide_eq_true (by omega); clear c61
           by_cases c62 : 1 < (t149.length : Int)
           ·
            rw [if_pos c62] at H; have c62b0 : decide (1 < (t149.length : Int)) = true := dt_ c62; have c62b1 : decide (1 < t149.length) = true := decide_eq_true (by omega); clear c62
            by_cases c63 : 2 < (t149.length : Int)
            ·
             rw [if_pos c63] at H; have c63b0 : decide (2 < (t149.length : Int)) = true := dt_ c63; have c63b1 : decide (2 < t149.length) = true := decide_eq_true (by omega); clear c63
             by_cases c64 : 3 < (t149.length : Int)
             ·
              rw [if_pos c64] at H; have c64b0 : decide (3 < (t149.length : Int)) = true := dt_ c64; have c64b1 : decide (3 < t149.length) = true := decide_eq_true (by omega); clear c64
              by_cases c65 : 4 < (t149.length : Int)
              ·
               rw [if_pos c65] at H; have c65b0 : decide (4 < (t149.length : Int)) = true := dt_ c65; have c65b1 : decide (4 < t149.length) = true := decide_eq_true (by omega); clear c65
               by_cases c66 : 5 < (t149.length : Int)
               ·
                rw [if_pos c66] at H; have c66b0 : decide (5 < (t149.length : Int)) = true := dt_ c66; have c66b1 : decide (5 < t149.length) = true := decide_eq_true (by omega); clear c66
                by_cases c67 : 6 < (t149.length : Int)
                ·
                 rw [if_pos c67] at H; have c67b0 : decide (6 < (t149.length : Int)) = true := dt_ c67; have c67b1 : decide (6 < t149.length) = true := decide_eq_true (by omega); clear c67; obtain ⟨t181, A68, H⟩ := bo_ H; (try dsimp only at H); obtain ⟨t185, A69, H⟩ := bo_ H; (try dsimp only at H); simp only [Option.some.injEq, Prod.mk.injEq] at H; obtain ⟨rfl, rfl, rfl, rfl, rfl, rfl, rfl, rfl, rfl, rfl⟩ := H
                 try go_wp2_with (first | ((with_reducible refine gate_dst (N := 11) rfl ?_); (try (refine gate_guard (by rfl) ?_; dsimp only)); refine bz_ 11 ?_; intro gb156 hg w70 hbox hb; replace HO_6 := rb_ HO_6 hb; replace HO_7 := rb_ HO_7 hb; replace HO_8 := rb_ HO_8 hb; obtain ⟨BK156, GW156, GE156, HB⟩ := nb_ hg hbox HB hb; have NB140_156 := nx_ hg BK140; have NB156_140 := ny_ hg BK140; replace BK140 := bb_ BK140 hb; have NB141_156 := nx_ hg BK141; have NB156_141 := ny_ hg BK141; replace BK141 := bb_ BK141 hb; clear hb hbox hg; have hnb71 := nn_ NB156_140 NB140_156; have hnb72 := nn_ NB156_141 NB141_156; have hcz73 := box9_ BK156.out))
                 generalize hq_ : (((((((((w70.setCell ⟨gb156, 0, none⟩ (.int .i64 x10_1)).setCell ⟨gb156, 1, none⟩ (.int .i64 0)).setCell ⟨gb156, 2, none⟩ (.int .i64 0)).setCell ⟨gb156, 3, none⟩ (.int .i64 0)).setCell ⟨gb156, 4, none⟩ (.int .i64 0)).setCell ⟨gb156, 5, none⟩ (.int .i64 0)).setCell ⟨gb156, 6, none⟩ (.int .i64 0)).setCell ⟨gb156, 7, none⟩ (.slice none 0 0)).setCell ⟨gb156, 8, none⟩ (.slice none 0 0)) = w74; replace HO_6 : Aside0 (Kd.R Kd.string 9 w74 w.heap.size (fun _ => True) (.slice Ao15 y142.length co15) y142) := ⟨by rw [← hq_]; (with_reducible repeat (first | apply Kd.R_alloc | apply Kd.R_drewN | apply Kd.R_drew)); exact Kd.R_mono (Kd.R_far (p := ⟨gb156, 8, none⟩) (Kd.R_far (p := ⟨gb156, 7, none⟩) (Kd.R_far (p := ⟨gb156, 6, none⟩) (Kd.R_far (p := ⟨gb156, 5, none⟩) (Kd.R_far (p := ⟨gb156, 4, none⟩) (Kd.R_far (p := ⟨gb156, 3, none⟩) (Kd.R_far (p := ⟨gb156, 2, none⟩) (Kd.R_far (p := ⟨gb156, 1, none⟩) (Kd.R_far (p := ⟨gb156, 0, none⟩) (Kd.R_types HO_6.out BK156.out (by decide)) (fun _ hk => hk.2) (.int .i64 x10_1)) (fun _ hk => hk.2) (.int .i64 0)) (fun _ hk => hk.2) (.int .i64 0)) (fun _ hk => hk.2) (.int .i64 0)) (fun _ hk => hk.2) (.int .i64 0)) (fun _ hk => hk.2) (.int .i64 0)) (fun _ hk => hk.2) (.int .i64 0)) (fun _ hk => hk.2) (.slice none 0 0)) (fun _ hk => hk.2) (.slice none 0 0)) (fun _ hk => trivial)⟩; replace HO_7 : Aside0 (Kd.R (Kd.int .i64) 3 w74 w.heap.size (fun k_ => some k_ ≠ (v151 : Value).ownBlock) v146 y145) := ⟨by rw [← hq_]; (with_reducible repeat (first | apply Kd.R_alloc | apply Kd.R_drewN | apply Kd.R_drew)); exact Kd.R_mono (Kd.R_far (p := ⟨gb156, 8, none⟩) (Kd.R_far (p := ⟨gb156, 7, none⟩) (Kd.R_far (p := ⟨gb156, 6, none⟩) (Kd.R_far (p := ⟨gb156, 5, none⟩) (Kd.R_far (p := ⟨gb156, 4, none⟩) (Kd.R_far (p := ⟨gb156, 3, none⟩) (Kd.R_far (p := ⟨gb156, 2, none⟩) (Kd.R_far (p := ⟨gb156, 1, none⟩) (Kd.R_far (p := ⟨gb156, 0, none⟩) (Kd.R_types HO_7.out BK156.out (by decide)) (fun _ hk => hk.2) (.int .i64 x10_1)) (fun _ hk => hk.2) (.int .i64 0)) (fun _ hk => hk.2) (.int .i64 0)) (fun _ hk => hk.2) (.int .i64 0)) (fun _ hk => hk.2) (.int .i64 0)) (fun _ hk => hk.2) (.int .i64 0)) (fun _ hk => hk.2) (.int .i64 0)) (fun _ hk => hk.2) (.slice none 0 0)) (fun _ hk => hk.2) (.slice none 0 0)) (fun _ hk => hk.1)⟩; replace HO_8 : Aside0 (Kd.R (Kd.int .i64) 3 w74 w.heap.size (fun k_ => some k_ ≠ (v146 : Value).ownBlock) v151 t149) := ⟨by rw [← hq_]; (with_reducible repeat (first | apply Kd.R_alloc | apply Kd.R_drewN | apply Kd.R_drew)); exact Kd.R_mono (Kd.R_far (p := ⟨gb156, 8, none⟩) (Kd.R_far (p := ⟨gb156, 7, none⟩) (Kd.R_far (p := ⟨gb156, 6, none⟩) (Kd.R_far (p := ⟨gb156, 5, none⟩) (Kd.R_far (p := ⟨gb156, 4, none⟩) (Kd.R_far (p := ⟨gb156, 3, none⟩) (Kd.R_far (p := ⟨gb156, 2, none⟩) (Kd.R_far (p := ⟨gb156, 1, none⟩) (Kd.R_far (p := ⟨gb156, 0, none⟩) (Kd.R_types HO_8.out BK156.out (by decide)) (fun _ hk => hk.2) (.int .i64 x10_1)) (fun _ hk => hk.2) (.int .i64 0)) (fun _ hk => hk.2) (.int .i64 0)) (fun _ hk => hk.2) (.int .i64 0)) (fun _ hk => hk.2) (.int .i64 0)) (fun _ hk => hk.2) (.int .i64 0)) (fun _ hk => hk.2) (.int .i64 0)) (fun _ hk => hk.2) (.slice none 0 0)) (fun _ hk => hk.2) (.slice none 0 0)) (fun _ hk => hk.1)⟩; replace BK140 := sb_ hq_ BK140; replace BK141 := sb_ hq_ BK141; replace BK156 := sb_ hq_ BK156; replace HB := sh_ hq_ HB; clear hq_; replace HO_6 := Aside0.mk (Kd.R_drew HO_6.out); replace HO_7 := Aside0.mk (Kd.R_drew HO_7.out); replace HO_8 := Aside0.mk (Kd.R_drew HO_8.out); replace BK140 := Aside0.mk (blk_drew BK140.out); replace BK141 := Aside0.mk (blk_drew BK141.out); replace BK156 := Aside0.mk (blk_drew BK156.out); replace HB := Aside0.mk (below_drew1 HB.out); obtain ⟨Ao76, co76, eo76⟩ := Kd.R_slice HO_8.out; (first | subst eo76 | (injection eo76 with f1_ f2_ f3_; have f4_ := f1_.symm; have f5_ := f3_.symm; clear f1_ f2_ f3_; subst f4_; subst f5_)); have p171 : 0 ≤ (0 : Int) := (by omega); have q171 : 0 < (t149.length : Int) := od_; obtain ⟨ad171, e171, hx171_0⟩ := Kd.at_int (Kd.R_reads' HO_8.out).2.2 0 p171 q171
                 cases e171
                 have qi171 : (0 < t149.length) = True := eq_true (by omega); (try rw [show ((0 : Int)).toNat = 0 from rfl] at hx171_0); (try rw [Addr.add_zero'] at hx171_0); replace p171 := eq_true p171; replace q171 := eq_true q171; have p172 : 0 ≤ (1 : Int) := (by omega); have q172 : 1 < (t149.length : Int) := od_; obtain ⟨ad172, e172, hx172_0⟩ := Kd.at_int (Kd.R_reads' HO_8.out).2.2 1 p172 q172; obtain rfl : ad171 = ad172 := (by injection e172); (try simp only [show (1 : Int).toNat = 1 from rfl, Nat.reduceMul, Nat.reduceEqDiff, Go.Addr.add, ↓reduceIte] at hx172_0); have qi172 : (1 < t149.length) = True := eq_true (by omega); (try rw [show ((1 : Int)).toNat = 1 from rfl] at hx172_0); replace p172 := eq_true p172; replace q172 := eq_true q172; have p173 : 0 ≤ (2 : Int) := (by omega); have q173 : 2 < (t149.length : Int) := od_; obtain ⟨ad173, e173, hx173_0⟩ := Kd.at_int (Kd.R_reads' HO_8.out).2.2 2 p173 q173; obtain rfl : ad171 = ad173 := (by injection e173); (try simp only [show (2 : Int).toNat = 2 from rfl, Nat.reduceMul, Nat.reduceEqDiff, Go.Addr.add, ↓reduceIte] at hx173_0); have qi173 : (2 < t149.length) = True := eq_true (by omega); (try rw [show ((2 : Int)).toNat = 2 from rfl] at hx173_0); replace p173 := eq_true p173; replace q173 := eq_true q173; have p174 : 0 ≤ (3 : Int) := (by omega); have q174 : 3 < (t149.length : Int) := od_; obtain ⟨ad174, e174, hx174_0⟩ := Kd.at_int (Kd.R_reads' HO_8.out).2.2 3 p174 q174; obtain rfl : ad171 = ad174 := (by injection e174); (try simp only [show (3 : Int).toNat = 3 from rfl, Nat.reduceMul, Nat.reduceEqDiff, Go.Addr.add, ↓reduceIte] at hx174_0); have qi174 : (3 < t149.length) = True := eq_true (by omega); (try rw [show ((3 : Int)).toNat = 3 from rfl] at hx174_0); replace p174 := eq_true p174; replace q174 := eq_true q174; have p175 : 0 ≤ (4 : Int) := (by omega); have q175 : 4 < (t149.length : Int) := od_; obtain ⟨ad175, e175, hx175_0⟩ := Kd.at_int (Kd.R_reads' HO_8.out).2.2 4 p175 q175; obtain rfl : ad171 = ad175 := (by injection e175); (try simp only [show (4 : Int).toNat = 4 from rfl, Nat.reduceMul, Nat.reduceEqDiff, Go.Addr.add, ↓reduceIte] at hx175_0); have qi175 : (4 < t149.length) = True := eq_true (by omega); (try rw [show ((4 : Int)).toNat = 4 from rfl] at hx175_0); replace p175 := eq_true p175; replace q175 := eq_true q175; have p176 : 0 ≤ (5 : Int) := (by omega); have q176 : 5 < (t149.length : Int) := od_; obtain ⟨ad176, e176, hx176_0⟩ := Kd.at_int (Kd.R_reads' HO_8.out).2.2 5 p176 q176; obtain rfl : ad171 = ad176 := (by injection e176); (try simp only [show (5 : Int).toNat = 5 from rfl, Nat.reduceMul, Nat.reduceEqDiff, Go.Addr.add, ↓reduceIte] at hx176_0); have qi176 : (5 < t149.length) = True := eq_true (by omega); (try rw [show ((5 : Int)).toNat = 5 from rfl] at hx176_0); replace p176 := eq_true p176; replace q176 := eq_true q176; have p177 : 0 ≤ (6 : Int) := (by omega); have q177 : 6 < (t149.length : Int) := od_; obtain ⟨ad177, e177, hx177_0⟩ := Kd.at_int (Kd.R_reads' HO_8.out).2.2 6 p177 q177; obtain rfl : ad171 = ad177 := (by injection e177); (try simp only [show (6 : Int).toNat = 6 from rfl, Nat.reduceMul, Nat.reduceEqDiff, Go.Addr.add, ↓reduceIte] at hx177_0); have qi177 : (6 < t149.length) = True := eq_true (by omega); (try rw [show ((6 : Int)).toNat = 6 from rfl] at hx177_0); replace p177 := eq_true p177; replace q177 := eq_true q177; have p178 : 0 ≤ (0 : Int) := (by omega); have q178 : 0 < (t149.length : Int) := od_; obtain ⟨ad178, e178, hx178_0⟩ := Kd.at_int (Kd.R_reads' HO_8.out).2.2 0 p178 q178; obtain rfl : ad171 = ad178 := (by injection e178); have qi178 : (0 < t149.length) = True := eq_true (by omega); (try rw [show ((0 : Int)).toNat = 0 from rfl] at hx178_0); (try rw [Addr.add_zero'] at hx178_0); replace p178 := eq_true p178; replace q178 := eq_true q178; have p179 : 0 ≤ (1 : Int) := (by omega); have q179 : 1 < (t149.length : Int) := od_; obtain ⟨ad179, e179, hx179_0⟩ := Kd.at_int (Kd.R_reads' HO_8.out).2.2 1 p179 q179; obtain rfl : ad171 = ad179 := (by injection e179); (try simp only [show (1 : Int).toNat = 1 from rfl, Nat.reduceMul, Nat.reduceEqDiff, Go.Addr.add, ↓reduceIte] at hx179_0); have qi179 : (1 < t149.length) = True := eq_true (by omega); (try rw [show ((1 : Int)).toNat = 1 from rfl] at hx179_0); replace p179 := eq_true p179; replace q179 := eq_true q179; have p180 : 0 ≤ (1 : Int) := (by omega); have q180 : 1 < (t149.length : Int) := od_; obtain ⟨ad180, e180, hx180_0⟩ := Kd.at_int (Kd.R_reads' HO_8.out).2.2 1 p180 q180; obtain rfl : ad171 = ad180 := (by injection e180); (try simp only [show (1 : Int).toNat = 1 from rfl, Nat.reduceMul, Nat.reduceEqDiff, Go.Addr.add, ↓reduceIte] at hx180_0); have qi180 : (1 < t149.length) = True := eq_true (by omega); (try rw [show ((1 : Int)).toNat = 1 from rfl] at hx180_0); replace p180 := eq_true p180; replace q180 := eq_true q180; have p184 : 0 ≤ (0 : Int) := (by omega); have q184 : 0 < (t149.length : Int) := od_; obtain ⟨ad184, e184, hx184_0⟩ := Kd.at_int (Kd.R_reads' HO_8.out).2.2 0 p184 q184; obtain rfl : ad171 = ad184 := (by injection e184); have qi184 : (0 < t149.length) = True := eq_true (by omega); (try rw [show ((0 : Int)).toNat = 0 from rfl] at hx184_0); (try rw [Addr.add_zero'] at hx184_0); replace p184 := eq_true p184; replace q184 := eq_true q184; refine sta_ 44 (fun w' => CE_ w' gb140 0 (.int .i64 a1_0) ∧ CE_ w' gb140 1 (.int .i64 a1_1) ∧ CE_ w' gb140 2 (.int .i64 a1_2) ∧ w'.cell? ad171 = some (.int .i64 (rd t149 0)) ∧ CF_ w' ad171 1 (.int .i64 (rd t149 1)) ∧ CF_ w' ad171 2 (.int .i64 (rd t149 2)) ∧ CF_ w' ad171 3 (.int .i64 (rd t149 3)) ∧ CF_ w' ad171 4 (.int .i64 (rd t149 4)) ∧ CF_ w' ad171 5 (.int .i64 (rd t149 5)) ∧ CF_ w' ad171 6 (.int .i64 (rd t149 6)) ∧ w'.cell? ad171 = some (.int .i64 (rd t149 0)) ∧ CF_ w' ad171 1 (.int .i64 (rd t149 1)) ∧ CF_ w' ad171 1 (.int .i64 (rd t149 1)) ∧ w'.cell? ad171 = some (.int .i64 (rd t149 0))) ⟨bk_ BK140 0, bk_ BK140 1, bk_ BK140 2, hx171_0, hx172_0, hx173_0, hx174_0, hx175_0, hx176_0, hx177_0, hx178_0, hx179_0, hx180_0, hx184_0⟩ (fun hHeld => ?_); refine with_tabW spec_l10Layer.tab13 spec_l10Layer.bits13 (fun HT_ HW_ => ?_); generalize w74.drew = w75 at HO_6 HO_7 HO_8 BK140 BK141 BK156 HB hx171_0 hx172_0 hx173_0 hx174_0 hx175_0 hx176_0 hx177_0 hx178_0 hx179_0 hx180_0 hx184_0 hHeld ⊢; refine pv_ 0 44 1 ?_; refine pv_ 1 44 3 ?_; refine pv_ 2 44 7 ?_; refine pv_ 4 44 23 ?_; refine pv_ 5 44 55 ?_; refine pv_ 7 44 183 ?_; refine pv_ 8 44 439 ?_; refine pv_ 10 44 1463 ?_; refine pv_ 11 44 3511 ?_; refine pv_ 14 44 19895 ?_; refine pv_ 15 44 52663 ?_; refine pv_ 17 44 183735 ?_; refine pv_ 18 44 445879 ?_; refine pv_ 20 44 1494455 ?_; refine pv_ 21 44 3591607 ?_; refine pv_ 23 44 11980215 ?_; refine pv_ 24 44 28757431 ?_; refine pv_ 26 44 95866295 ?_; refine pv_ 27 44 230084023 ?_; refine pv_ 30 44 1303825847 ?_; refine pv_ 31 44 3451309495 ?_; refine pv_ 34 44 20631178679 ?_; refine pv_ 38 44 295509085623 ?_; refine pv_ 39 44 845264899511 ?_; refine tv_ 3 44 845264899519 ?_; refine tv_ 6 44 845264899583 ?_; refine tv_ 9 44 845264900095 ?_; refine tv_ 12 44 845264904191 ?_; refine pv_ 13 44 845264912383 ?_; refine tv_ 16 44 845264977919 ?_; refine tv_ 19 44 845265502207 ?_; refine tv_ 22 44 845269696511 ?_; refine tv_ 25 44 845303250943 ?_; refine tv_ 28 44 845571686399 ?_; refine pv_ 29 44 846108557311 ?_; refine tv_ 32 44 850403524607 ?_; refine pv_ 33 44 858993459199 ?_; refine tv_ 35 44 893353197567 ?_; refine pv_ 36 44 962072674303 ?_; refine tv_ 40 44 2061584302079 ?_; refine one_ (i := 37) (N := some 120) (bl_ 44 2199023255551) rfl rfl (one_of HT_.out (by kernel_rfl)) (by decide) (fun K hK => ?_); refine gv_ Tryz.func59 ?_
                 (with_reducible refine (spec_l10Same.calls A68.out).mono ?_)
                 rintro e w77 ⟨v182, rfl, ho0, hb⟩; have HS3_ := cw_ hb hHeld.2.2.2.1; have HS4_ := cw_ hb hHeld.2.2.2.2.1; have HS5_ := cw_ hb hHeld.2.2.2.2.2.1; have HS6_ := cw_ hb hHeld.2.2.2.2.2.2.1; have HS7_ := cw_ hb hHeld.2.2.2.2.2.2.2.1; have HS8_ := cw_ hb hHeld.2.2.2.2.2.2.2.2.1; have HS9_ := cw_ hb hHeld.2.2.2.2.2.2.2.2.2.1; have HS10_ := cw_ hb hHeld.2.2.2.2.2.2.2.2.2.2.1; have HS11_ := cw_ hb hHeld.2.2.2.2.2.2.2.2.2.2.2.1; have HS12_ := cw_ hb hHeld.2.2.2.2.2.2.2.2.2.2.2.2.1; have HS13_ := cw_ hb hHeld.2.2.2.2.2.2.2.2.2.2.2.2.2; refine ⟨_, rfl, ?_⟩; replace HO_6 := rb_ HO_6 hb; have HO183 := Aside0.mk (Kd.R_lower (Kd.R_new' (Kd.R_new' ho0 (Kd.R_lt (ra_ HO_7.out))) (Kd.R_lt (ra_ HO_8.out))) (below_size (be_ HB.out))); replace HO_7 := Aside0.mk (Kd.R_elder' (ra_ HO_7.out) (Kd.R_base ho0) hb); replace HO_8 := Aside0.mk (Kd.R_elder' (ra_ HO_8.out) (Kd.R_base ho0) hb); replace BK140 := bb_ BK140 hb; replace BK141 := bb_ BK141 hb; replace BK156 := bb_ BK156 hb; replace HB := hb_ HB hb; (try clear hb ho0); refine hK.out _ _ ⟨bk_ BK140 0, bk_ BK140 1, bk_ BK140 2, HS3_, HS4_, HS5_, HS6_, HS7_, HS8_, HS9_, HS10_, HS11_, HS12_, HS13_⟩ (fun hHeld => ?_); clear hK K; refine nm_ 120 (h := ?_); refine one_ (i := 41) (N := some 124) (bl_ 44 4398046511103) rfl rfl (one_of HT_.out (by kernel_rfl)) (by decide) (fun K hK => ?_); refine gv_ Tryz.func59 ?_
                 (with_reducible refine (spec_l10Same.calls A69.out).mono ?_)
                 rintro e w78 ⟨v186, rfl, ho0, hb⟩; have HS3_ := cw_ hb hHeld.2.2.2.1; have HS4_ := cw_ hb hHeld.2.2.2.2.1; have HS5_ := cw_ hb hHeld.2.2.2.2.2.1; have HS6_ := cw_ hb hHeld.2.2.2.2.2.2.1; have HS7_ := cw_ hb hHeld.2.2.2.2.2.2.2.1; have HS8_ := cw_ hb hHeld.2.2.2.2.2.2.2.2.1; have HS9_ := cw_ hb hHeld.2.2.2.2.2.2.2.2.2.1; have HS10_ := cw_ hb hHeld.2.2.2.2.2.2.2.2.2.2.1; have HS11_ := cw_ hb hHeld.2.2.2.2.2.2.2.2.2.2.2.1; have HS12_ := cw_ hb hHeld.2.2.2.2.2.2.2.2.2.2.2.2.1; have HS13_ := cw_ hb hHeld.2.2.2.2.2.2.2.2.2.2.2.2.2; refine ⟨_, rfl, ?_⟩; replace HO_6 := rb_ HO_6 hb; have HO187 := Aside0.mk (Kd.R_lower (Kd.R_new' (Kd.R_new' (Kd.R_new' ho0 (Kd.R_lt (ra_ HO_7.out))) (Kd.R_lt (ra_ HO_8.out))) (Kd.R_lt (ra_ HO183.out))) (below_size (be_ HB.out))); replace HO_7 := Aside0.mk (Kd.R_elder' (ra_ HO_7.out) (Kd.R_base ho0) hb); replace HO_8 := Aside0.mk (Kd.R_elder' (ra_ HO_8.out) (Kd.R_base ho0) hb); replace HO183 := Aside0.mk (Kd.R_elder' (ra_ HO183.out) (Kd.R_base ho0) hb); replace BK140 := bb_ BK140 hb; replace BK141 := bb_ BK141 hb; replace BK156 := bb_ BK156 hb; replace HB := hb_ HB hb; (try clear hb ho0); obtain ⟨Ao79, co79, eo79⟩ := Kd.R_slice HO187.out; (first | subst eo79 | (injection eo79 with f1_ f2_ f3_; have f4_ := f1_.symm; have f5_ := f3_.symm; clear f1_ f2_ f3_; subst f4_; subst f5_)); obtain ⟨Ao80, co80, eo80⟩ := Kd.R_slice HO183.out; (first | subst eo80 | (injection eo80 with f1_ f2_ f3_; have f4_ := f1_.symm; have f5_ := f3_.symm; clear f1_ f2_ f3_; subst f4_; subst f5_)); refine hK.out _ _ ⟨bk_ BK140 0, bk_ BK140 1, bk_ BK140 2, HS3_, HS4_, HS5_, HS6_, HS7_, HS8_, HS9_, HS10_, HS11_, HS12_, HS13_⟩ (fun hHeld => ?_); clear hK K; refine nm_ 124 (h := ?_); refine pv_ 42 44 8796093022207 ?_; refine one_ (i := 43) (N := none) (bl_ 44 17592186044415) rfl rfl (one_of HT_.out (by kernel_rfl)) (by decide) (fun K hK => ?_); have hs81 : w78.cell? ⟨gb156, 0, none⟩ = some (.int .i64 x10_1) := bk_ BK156 0; have hfs81 := blk_frozen BK156.out 0; have hns81_0 := NB140_156.out; have hns81_1 := NB141_156.out; have hms81_0 := NB156_140.out; have hms81_1 := NB156_141.out; have hs82 : w78.cell? ⟨gb156, 1, none⟩ = some (.int .i64 0) := bk_ BK156 1; have hfs82 := blk_frozen BK156.out 1; have hns82_0 := NB140_156.out; have hns82_1 := NB141_156.out; have hms82_0 := NB156_140.out; have hms82_1 := NB156_141.out; have hs83 : w78.cell? ⟨gb156, 2, none⟩ = some (.int .i64 0) := bk_ BK156 2; have hfs83 := blk_frozen BK156.out 2; have hns83_0 := NB140_156.out; have hns83_1 := NB141_156.out; have hms83_0 := NB156_140.out; have hms83_1 := NB156_141.out; have hs84 : w78.cell? ⟨gb156, 3, none⟩ = some (.int .i64 0) := bk_ BK156 3; have hfs84 := blk_frozen BK156.out 3; have hns84_0 := NB140_156.out; have hns84_1 := NB141_156.out; have hms84_0 := NB156_140.out; have hms84_1 := NB156_141.out; have hs85 : w78.cell? ⟨gb156, 4, none⟩ = some (.int .i64 0) := bk_ BK156 4; have hfs85 := blk_frozen BK156.out 4; have hns85_0 := NB140_156.out; have hns85_1 := NB141_156.out; have hms85_0 := NB156_140.out; have hms85_1 := NB156_141.out; have hs86 : w78.cell? ⟨gb156, 5, none⟩ = some (.int .i64 0) := bk_ BK156 5; have hfs86 := blk_frozen BK156.out 5; have hns86_0 := NB140_156.out; have hns86_1 := NB141_156.out; have hms86_0 := NB156_140.out; have hms86_1 := NB156_141.out; have hs87 : w78.cell? ⟨gb156, 6, none⟩ = some (.int .i64 0) := bk_ BK156 6; have hfs87 := blk_frozen BK156.out 6; have hns87_0 := NB140_156.out; have hns87_1 := NB141_156.out; have hms87_0 := NB156_140.out; have hms87_1 := NB156_141.out; have hs88 : w78.cell? ⟨gb156, 7, none⟩ = some (.slice none 0 0) := bk_ BK156 7; have hfs88 := blk_frozen BK156.out 7; have hns88_0 := NB140_156.out; have hns88_1 := NB141_156.out; have hms88_0 := NB156_140.out; have hms88_1 := NB156_141.out; have hs89 : w78.cell? ⟨gb156, 8, none⟩ = some (.slice none 0 0) := bk_ BK156 8; have hfs89 := blk_frozen BK156.out 8; have hns89_0 := NB140_156.out; have hns89_1 := NB141_156.out; have hms89_0 := NB156_140.out; have hms89_1 := NB156_141.out; refine skip_ (w1 := ?_) (by rfl) rfl ?_ ?_
                 rotate_left
                 ·
                  go_simp
                  rfl
                 refine hK.out _ _ ⟨(cfn_ NB140_156.out ((cfn_ NB140_156.out ((cfn_ NB140_156.out ((cfn_ NB140_156.out ((cfn_ NB140_156.out ((c3_ NB140_156.out ((cfn_ NB140_156.out (hHeld.1)))))))))))))), (cfn_ NB140_156.out ((cfn_ NB140_156.out ((cfn_ NB140_156.out ((cfn_ NB140_156.out ((cfn_ NB140_156.out ((c3_ NB140_156.out ((cfn_ NB140_156.out (hHeld.2.1)))))))))))))), (cfn_ NB140_156.out ((cfn_ NB140_156.out ((cfn_ NB140_156.out ((cfn_ NB140_156.out ((cfn_ NB140_156.out ((c3_ NB140_156.out ((cfn_ NB140_156.out (hHeld.2.2.1)))))))))))))), (cff_ (Kd.own_blk (Kd.R_ne HO_8.out BK156.out (by decide))) ((cff_ (Kd.own_blk (Kd.R_ne HO_8.out BK156.out (by decide))) ((cff_ (Kd.own_blk (Kd.R_ne HO_8.out BK156.out (by decide))) ((cff_ (Kd.own_blk (Kd.R_ne HO_8.out BK156.out (by decide))) ((cff_ (Kd.own_blk (Kd.R_ne HO_8.out BK156.out (by decide))) ((cff_ (Kd.own_blk (Kd.R_ne HO_8.out BK156.out (by decide))) ((cff_ (Kd.own_blk (Kd.R_ne HO_8.out BK156.out (by decide))) ((cff_ (Kd.own_blk (Kd.R_ne HO_8.out BK156.out (by decide))) ((cff_ (Kd.own_blk (Kd.R_ne HO_8.out BK156.out (by decide))) (hHeld.2.2.2.1)))))))))))))))))), (cff_ (Kd.own_blk (Kd.R_ne HO_8.out BK156.out (by decide))) ((cff_ (Kd.own_blk (Kd.R_ne HO_8.out BK156.out (by decide))) ((cff_ (Kd.own_blk (Kd.R_ne HO_8.out BK156.out (by decide))) ((cff_ (Kd.own_blk (Kd.R_ne HO_8.out BK156.out (by decide))) ((cff_ (Kd.own_blk (Kd.R_ne HO_8.out BK156.out (by decide))) ((cff_ (Kd.own_blk (Kd.R_ne HO_8.out BK156.out (by decide))) ((cff_ (Kd.own_blk (Kd.R_ne HO_8.out BK156.out (by decide))) ((cff_ (Kd.own_blk (Kd.R_ne HO_8.out BK156.out (by decide))) ((cff_ (Kd.own_blk (Kd.R_ne HO_8.out BK156.out (by decide))) (hHeld.2.2.2.2.1)))))))))))))))))), (cff_ (Kd.own_blk (Kd.R_ne HO_8.out BK156.out (by decide))) ((cff_ (Kd.own_blk (Kd.R_ne HO_8.out BK156.out (by decide))) ((cff_ (Kd.own_blk (Kd.R_ne HO_8.out BK156.out (by decide))) ((cff_ (Kd.own_blk (Kd.R_ne HO_8.out BK156.out (by decide))) ((cff_ (Kd.own_blk (Kd.R_ne HO_8.out BK156.out (by decide))) ((cff_ (Kd.own_blk (Kd.R_ne HO_8.out BK156.out (by decide))) ((cff_ (Kd.own_blk (Kd.R_ne HO_8.out BK156.out (by decide))) ((cff_ (Kd.own_blk (Kd.R_ne HO_8.out BK156.out (by decide))) ((cff_ (Kd.own_blk (Kd.R_ne HO_8.out BK156.out (by decide))) (hHeld.2.2.2.2.2.1)))))))))))))))))), (cff_ (Kd.own_blk (Kd.R_ne HO_8.out BK156.out (by decide))) ((cff_ (Kd.own_blk (Kd.R_ne HO_8.out BK156.out (by decide))) ((cff_ (Kd.own_blk (Kd.R_ne HO_8.out BK156.out (by decide))) ((cff_ (Kd.own_blk (Kd.R_ne HO_8.out BK156.out (by decide))) ((cff_ (Kd.own_blk (Kd.R_ne HO_8.out BK156.out (by decide))) ((cff_ (Kd.own_blk (Kd.R_ne HO_8.out BK156.out (by decide))) ((cff_ (Kd.own_blk (Kd.R_ne HO_8.out BK156.out (by decide))) ((cff_ (Kd.own_blk (Kd.R_ne HO_8.out BK156.out (by decide))) ((cff_ (Kd.own_blk (Kd.R_ne HO_8.out BK156.out (by decide))) (hHeld.2.2.2.2.2.2.1)))))))))))))))))), (cff_ (Kd.own_blk (Kd.R_ne HO_8.out BK156.out (by decide))) ((cff_ (Kd.own_blk (Kd.R_ne HO_8.out BK156.out (by decide))) ((cff_ (Kd.own_blk (Kd.R_ne HO_8.out BK156.out (by decide))) ((cff_ (Kd.own_blk (Kd.R_ne HO_8.out BK156.out (by decide))) ((cff_ (Kd.own_blk (Kd.R_ne HO_8.out BK156.out (by decide))) ((cff_ (Kd.own_blk (Kd.R_ne HO_8.out BK156.out (by decide))) ((cff_ (Kd.own_blk (Kd.R_ne HO_8.out BK156.out (by decide))) ((cff_ (Kd.own_blk (Kd.R_ne HO_8.out BK156.out (by decide))) ((cff_ (Kd.own_blk (Kd.R_ne HO_8.out BK156.out (by decide))) (hHeld.2.2.2.2.2.2.2.1)))))))))))))))))), (cff_ (Kd.own_blk (Kd.R_ne HO_8.out BK156.out (by decide))) ((cff_ (Kd.own_blk (Kd.R_ne HO_8.out BK156.out (by decide))) ((cff_ (Kd.own_blk (Kd.R_ne HO_8.out BK156.out (by decide))) ((cff_ (Kd.own_blk (Kd.R_ne HO_8.out BK156.out (by decide))) ((cff_ (Kd.own_blk (Kd.R_ne HO_8.out BK156.out (by decide))) ((cff_ (Kd.own_blk (Kd.R_ne HO_8.out BK156.out (by decide))) ((cff_ (Kd.own_blk (Kd.R_ne HO_8.out BK156.out (by decide))) ((cff_ (Kd.own_blk (Kd.R_ne HO_8.out BK156.out (by decide))) ((cff_ (Kd.own_blk (Kd.R_ne HO_8.out BK156.out (by decide))) (hHeld.2.2.2.2.2.2.2.2.1)))))))))))))))))), (cff_ (Kd.own_blk (Kd.R_ne HO_8.out BK156.out (by decide))) ((cff_ (Kd.own_blk (Kd.R_ne HO_8.out BK156.out (by decide))) ((cff_ (Kd.own_blk (Kd.R_ne HO_8.out BK156.out (by decide))) ((cff_ (Kd.own_blk (Kd.R_ne HO_8.out BK156.out (by decide))) ((cff_ (Kd.own_blk (Kd.R_ne HO_8.out BK156.out (by decide))) ((cff_ (Kd.own_blk (Kd.R_ne HO_8.out BK156.out (by decide))) ((cff_ (Kd.own_blk (Kd.R_ne HO_8.out BK156.out (by decide))) ((cff_ (Kd.own_blk (Kd.R_ne HO_8.out BK156.out (by decide))) ((cff_ (Kd.own_blk (Kd.R_ne HO_8.out BK156.out (by decide))) (hHeld.2.2.2.2.2.2.2.2.2.1)))))))))))))))))), (cff_ (Kd.own_blk (Kd.R_ne HO_8.out BK156.out (by decide))) ((cff_ (Kd.own_blk (Kd.R_ne HO_8.out BK156.out (by decide))) ((cff_ (Kd.own_blk (Kd.R_ne HO_8.out BK156.out (by decide))) ((cff_ (Kd.own_blk (Kd.R_ne HO_8.out BK156.out (by decide))) ((cff_ (Kd.own_blk (Kd.R_ne HO_8.out BK156.out (by decide))) ((cff_ (Kd.own_blk (Kd.R_ne HO_8.out BK156.out (by decide))) ((cff_ (Kd.own_blk (Kd.R_ne HO_8.out BK156.out (by decide))) ((cff_ (Kd.own_blk (Kd.R_ne HO_8.out BK156.out (by decide))) ((cff_ (Kd.own_blk (Kd.R_ne HO_8.out BK156.out (by decide))) (hHeld.2.2.2.2.2.2.2.2.2.2.1)))))))))))))))))), (cff_ (Kd.own_blk (Kd.R_ne HO_8.out BK156.out (by decide))) ((cff_ (Kd.own_blk (Kd.R_ne HO_8.out BK156.out (by decide))) ((cff_ (Kd.own_blk (Kd.R_ne HO_8.out BK156.out (by decide))) ((cff_ (Kd.own_blk (Kd.R_ne HO_8.out BK156.out (by decide))) ((cff_ (Kd.own_blk (Kd.R_ne HO_8.out BK156.out (by decide))) ((cff_ (Kd.own_blk (Kd.R_ne HO_8.out BK156.out (by decide))) ((cff_ (Kd.own_blk (Kd.R_ne HO_8.out BK156.out (by decide))) ((cff_ (Kd.own_blk (Kd.R_ne HO_8.out BK156.out (by decide))) ((cff_ (Kd.own_blk (Kd.R_ne HO_8.out BK156.out (by decide))) (hHeld.2.2.2.2.2.2.2.2.2.2.2.1)))))))))))))))))), (cff_ (Kd.own_blk (Kd.R_ne HO_8.out BK156.out (by decide))) ((cff_ (Kd.own_blk (Kd.R_ne HO_8.out BK156.out (by decide))) ((cff_ (Kd.own_blk (Kd.R_ne HO_8.out BK156.out (by decide))) ((cff_ (Kd.own_blk (Kd.R_ne HO_8.out BK156.out (by decide))) ((cff_ (Kd.own_blk (Kd.R_ne HO_8.out BK156.out (by decide))) ((cff_ (Kd.own_blk (Kd.R_ne HO_8.out BK156.out (by decide))) ((cff_ (Kd.own_blk (Kd.R_ne HO_8.out BK156.out (by decide))) ((cff_ (Kd.own_blk (Kd.R_ne HO_8.out BK156.out (by decide))) ((cff_ (Kd.own_blk (Kd.R_ne HO_8.out BK156.out (by decide))) (hHeld.2.2.2.2.2.2.2.2.2.2.2.2.1)))))))))))))))))), (cff_ (Kd.own_blk (Kd.R_ne HO_8.out BK156.out (by decide))) ((cff_ (Kd.own_blk (Kd.R_ne HO_8.out BK156.out (by decide))) ((cff_ (Kd.own_blk (Kd.R_ne HO_8.out BK156.out (by decide))) ((cff_ (Kd.own_blk (Kd.R_ne HO_8.out BK156.out (by decide))) ((cff_ (Kd.own_blk (Kd.R_ne HO_8.out BK156.out (by decide))) ((cff_ (Kd.own_blk (Kd.R_ne HO_8.out BK156.out (by decide))) ((cff_ (Kd.own_blk (Kd.R_ne HO_8.out BK156.out (by decide))) ((cff_ (Kd.own_blk (Kd.R_ne HO_8.out BK156.out (by decide))) ((cff_ (Kd.own_blk (Kd.R_ne HO_8.out BK156.out (by decide))) (hHeld.2.2.2.2.2.2.2.2.2.2.2.2.2))))))))))))))))))⟩ (fun hHeld => ?_); clear hK K; refine done_ (done_of HT_.out (by kernel_rfl)) ?_; have hcz90 := box9_ BK156.out; have hnb91 := nn_ NB141_140 NB140_141; have hcz92 := box9_ BK141.out
                 try go_wp2
                 refine bodyPost_ret (results_ct rfl _ _ gb141 55 #[.int .i64 x10_1, .int .i64 (rd t149 0), .int .i64 (rd t149 1), .int .i64 (rd t149 2), .int .i64 (wrap64 ((rd t149 3) * 1000)), .int .i64 (rd t149 4), .int .i64 (rd t149 5), .slice Ao80 t181.length co80, .slice Ao79 t185.length co79] (0, 0) _ rfl (bq_ BK141.out) Tryz.underlying55 rfl (by kernel_rfl)) rfl ?_; exact ⟨_, _, by first | rfl | (simp [errW_none, errW_some] <;> rfl) | (simp [*, errW_none, errW_some] <;> rfl), by (with_reducible repeat (first | apply Kd.R_alloc | apply Kd.R_drewN | apply Kd.R_drew)); exact Kd.R_mono (Kd.R_far (p := ⟨gb141, 8, none⟩) (Kd.R_far (p := ⟨gb141, 7, none⟩) (Kd.R_far (p := ⟨gb141, 6, none⟩) (Kd.R_far (p := ⟨gb141, 5, none⟩) (Kd.R_far (p := ⟨gb141, 4, none⟩) (Kd.R_far (p := ⟨gb141, 3, none⟩) (Kd.R_far (p := ⟨gb141, 2, none⟩) (Kd.R_far (p := ⟨gb141, 1, none⟩) (Kd.R_far (p := ⟨gb141, 0, none⟩) (Kd.R_far (p := ⟨gb156, 8, none⟩) (Kd.R_far (p := ⟨gb156, 7, none⟩) (Kd.R_far (p := ⟨gb156, 6, none⟩) (Kd.R_far (p := ⟨gb156, 5, none⟩) (Kd.R_far (p := ⟨gb156, 4, none⟩) (Kd.R_far (p := ⟨gb156, 3, none⟩) (Kd.R_far (p := ⟨gb156, 2, none⟩) (Kd.R_far (p := ⟨gb156, 1, none⟩) (Kd.R_far (p := ⟨gb156, 0, none⟩) (Kd.R_types (Kd.R_types HO183.out BK156.out (by decide)) BK141.out (by decide)) (fun _ hk => hk.1.2) (.int .i64 x10_1)) (fun _ hk => hk.1.2) (.int .i64 (rd t149 0))) (fun _ hk => hk.1.2) (.int .i64 (rd t149 1))) (fun _ hk => hk.1.2) (.int .i64 (rd t149 2))) (fun _ hk => hk.1.2) (.int .i64 (wrap64 ((rd t149 3) * 1000)))) (fun _ hk => hk.1.2) (.int .i64 (rd t149 4))) (fun _ hk => hk.1.2) (.int .i64 (rd t149 5))) (fun _ hk => hk.1.2) (.slice Ao80 t181.length co80)) (fun _ hk => hk.1.2) (.slice Ao79 t185.length co79)) (fun _ hk => hk.2) (.int .i64 x10_1)) (fun _ hk => hk.2) (.int .i64 (rd t149 0))) (fun _ hk => hk.2) (.int .i64 (rd t149 1))) (fun _ hk => hk.2) (.int .i64 (rd t149 2))) (fun _ hk => hk.2) (.int .i64 (wrap64 ((rd t149 3) * 1000)))) (fun _ hk => hk.2) (.int .i64 (rd t149 4))) (fun _ hk => hk.2) (.int .i64 (rd t149 5))) (fun _ hk => hk.2) (.slice Ao80 t181.length co80)) (fun _ hk => hk.2) (.slice Ao79 t185.length co79)) (fun _ hk => hk.1.1.2), by (with_reducible repeat (first | apply Kd.R_alloc | apply Kd.R_drewN | apply Kd.R_drew)); exact Kd.R_mono (Kd.R_far (p := ⟨gb141, 8, none⟩) (Kd.R_far (p := ⟨gb141, 7, none⟩) (Kd.R_far (p := ⟨gb141, 6, none⟩) (Kd.R_far (p := ⟨gb141, 5, none⟩) (Kd.R_far (p := ⟨gb141, 4, none⟩) (Kd.R_far (p := ⟨gb141, 3, none⟩) (Kd.R_far (p := ⟨gb141, 2, none⟩) (Kd.R_far (p := ⟨gb141, 1, none⟩) (Kd.R_far (p := ⟨gb141, 0, none⟩) (Kd.R_far (p := ⟨gb156, 8, none⟩) (Kd.R_far (p := ⟨gb156, 7, none⟩) (Kd.R_far (p := ⟨gb156, 6, none⟩) (Kd.R_far (p := ⟨gb156, 5, none⟩) (Kd.R_far (p := ⟨gb156, 4, none⟩) (Kd.R_far (p := ⟨gb156, 3, none⟩) (Kd.R_far (p := ⟨gb156, 2, none⟩) (Kd.R_far (p := ⟨gb156, 1, none⟩) (Kd.R_far (p := ⟨gb156, 0, none⟩) (Kd.R_types (Kd.R_types HO187.out BK156.out (by decide)) BK141.out (by decide)) (fun _ hk => hk.1.2) (.int .i64 x10_1)) (fun _ hk => hk.1.2) (.int .i64 (rd t149 0))) (fun _ hk => hk.1.2) (.int .i64 (rd t149 1))) (fun _ hk => hk.1.2) (.int .i64 (rd t149 2))) (fun _ hk => hk.1.2) (.int .i64 (wrap64 ((rd t149 3) * 1000)))) (fun _ hk => hk.1.2) (.int .i64 (rd t149 4))) (fun _ hk => hk.1.2) (.int .i64 (rd t149 5))) (fun _ hk => hk.1.2) (.slice Ao80 t181.length co80)) (fun _ hk => hk.1.2) (.slice Ao79 t185.length co79)) (fun _ hk => hk.2) (.int .i64 x10_1)) (fun _ hk => hk.2) (.int .i64 (rd t149 0))) (fun _ hk => hk.2) (.int .i64 (rd t149 1))) (fun _ hk => hk.2) (.int .i64 (rd t149 2))) (fun _ hk => hk.2) (.int .i64 (wrap64 ((rd t149 3) * 1000)))) (fun _ hk => hk.2) (.int .i64 (rd t149 4))) (fun _ hk => hk.2) (.int .i64 (rd t149 5))) (fun _ hk => hk.2) (.slice Ao80 t181.length co80)) (fun _ hk => hk.2) (.slice Ao79 t185.length co79)) (fun _ hk => hk.1.1.2), be_ HB.out⟩
                ·
                 rw [if_neg c67] at H; exact absurd H (by simp)
               ·
                rw [if_neg c66] at H; exact absurd H (by simp)
              ·
               rw [if_neg c65] at H; exact absurd H (by simp)
             ·
              rw [if_neg c64] at H; exact absurd H (by simp)
            ·
             rw [if_neg c63] at H; exact absurd H (by simp)
           ·
            rw [if_neg c62] at H; exact absurd H (by simp)
          ·
           rw [if_neg c61] at H; exact absurd H (by simp)
         ·
          rw [if_neg c60] at H; have c60b0 : (x10_1 == 1) = false := eq0_ c60; have c60b1 : (x10_1 != 1) = true := ne1_ c60; have HC93 := Aside0.mk H; clear H
          go_upto_if 126 with (first | ((with_reducible refine gate_dst (N := 11) rfl ?_); (try (refine gate_guard (by rfl) ?_; dsimp only)); refine bz_ 11 ?_; intro gb156 hg w94 hbox hb; replace HO_6 := rb_ HO_6 hb; replace HO_7 := rb_ HO_7 hb; replace HO_8 := rb_ HO_8 hb; obtain ⟨BK156, GW156, GE156, HB⟩ := nb_ hg hbox HB hb; have NB140_156 := nx_ hg BK140; have NB156_140 := ny_ hg BK140; replace BK140 := bb_ BK140 hb; have NB141_156 := nx_ hg BK141; have NB156_141 := ny_ hg BK141; replace BK141 := bb_ BK141 hb; clear hb hbox hg; have hnb95 := nn_ NB156_140 NB140_156; have hnb96 := nn_ NB156_141 NB141_156; have hcz97 := box9_ BK156.out))
          (try simp only [Act.put, List.setIfInBounds_toArray, List.set_cons_zero, List.set_cons_succ])
          go_cut [126] (fun v126 wc => ∃ (kq : Nat) (x126_92 : Bool), v126 = .bool x126_92 ∧ Aside0 (spec_l10Layer.j2 kq t149 x10_1 x126_92 x10_1 0 0 0 0 0 0 = some (r1, r2, r3, r4, r5, r6, r7, r8, r9, r10)) ∧ Aside0 (kq ≤ kj13) ∧ Aside0 (Kd.R (Kd.int .i64) 3 wc w.heap.size (fun _ => True) v151 t149) ∧ Aside0 (wc.heap[gb140]? = some (.cells #[.int .i64 a1_0, .int .i64 a1_1, .int .i64 a1_2] 23 (0, 0))) ∧ Aside0 (wc.heap[gb141]? = some (.cells #[.int .i64 x142000_1, .int .i64 x142001_1, .int .i64 x142002_1, .int .i64 x142003_1, .int .i64 x142004_1, .int .i64 x142005_1, .int .i64 x142006_1, (.slice none 0 0), (.slice none 0 0)] 55 (0, 0))) ∧ Aside0 (wc.heap[gb156]? = some (.cells #[.int .i64 x10_1, .int .i64 0, .int .i64 0, .int .i64 0, .int .i64 0, .int .i64 0, .int .i64 0, (.slice none 0 0), (.slice none 0 0)] 55 (0, 0))) ∧ Aside0 (Below w.heap.size w wc))
          case first =>
           have H := HC93.out; clear HC93
           by_cases c98 : x10_1 = 2
           ·
            rw [if_pos c98] at H; have c98b0 : (x10_1 == 2) = true := eq1_ c98; have c98b1 : (x10_1 != 2) = false := ne0_ c98; clear c98; (first | rw [c98b0] | (simp only [i64_w, i32_w]; rw [c98b0]) | skip); have H' := Aside0.mk H; clear H
            go_wp2
            go_meet
            case rel => exact ⟨_, ((x10_1 == 2)), rl_, H', ⟨by have := HK1.out; have := HJ13.out; first | omega | exact Nat.le_refl _⟩, ⟨by (with_reducible repeat (first | apply Kd.R_alloc | apply Kd.R_drewN | apply Kd.R_drew)); exact Kd.R_mono (Kd.R_far (p := ⟨gb156, 8, none⟩) (Kd.R_far (p := ⟨gb156, 7, none⟩) (Kd.R_far (p := ⟨gb156, 6, none⟩) (Kd.R_far (p := ⟨gb156, 5, none⟩) (Kd.R_far (p := ⟨gb156, 4, none⟩) (Kd.R_far (p := ⟨gb156, 3, none⟩) (Kd.R_far (p := ⟨gb156, 2, none⟩) (Kd.R_far (p := ⟨gb156, 1, none⟩) (Kd.R_far (p := ⟨gb156, 0, none⟩) (Kd.R_types HO_8.out BK156.out (by decide)) (fun _ hk => hk.2) (.int .i64 x10_1)) (fun _ hk => hk.2) (.int .i64 0)) (fun _ hk => hk.2) (.int .i64 0)) (fun _ hk => hk.2) (.int .i64 0)) (fun _ hk => hk.2) (.int .i64 0)) (fun _ hk => hk.2) (.int .i64 0)) (fun _ hk => hk.2) (.int .i64 0)) (fun _ hk => hk.2) (.slice none 0 0)) (fun _ hk => hk.2) (.slice none 0 0)) (fun _ hk => trivial)⟩, ⟨bf_ BK140.out⟩, ⟨bf_ BK141.out⟩, ⟨bq_ BK156.out⟩, ⟨be_ HB.out⟩⟩
           ·
            rw [if_neg c98] at H; have c98b0 : (x10_1 == 2) = false := eq0_ c98; have c98b1 : (x10_1 != 2) = true := ne1_ c98; (first | rw [c98b0] | (simp only [i64_w, i32_w]; rw [c98b0]) | skip); have H' := Aside0.mk H; clear H
            go_wp2
            go_meet
            case rel => exact ⟨_, ((x10_1 == 3)), rl_, H', ⟨by have := HK1.out; have := HJ13.out; first | omega | exact Nat.le_refl _⟩, ⟨by (with_reducible repeat (first | apply Kd.R_alloc | apply Kd.R_drewN | apply Kd.R_drew)); exact Kd.R_mono (Kd.R_far (p := ⟨gb156, 8, none⟩) (Kd.R_far (p := ⟨gb156, 7, none⟩) (Kd.R_far (p := ⟨gb156, 6, none⟩) (Kd.R_far (p := ⟨gb156, 5, none⟩) (Kd.R_far (p := ⟨gb156, 4, none⟩) (Kd.R_far (p := ⟨gb156, 3, none⟩) (Kd.R_far (p := ⟨gb156, 2, none⟩) (Kd.R_far (p := ⟨gb156, 1, none⟩) (Kd.R_far (p := ⟨gb156, 0, none⟩) (Kd.R_types HO_8.out BK156.out (by decide)) (fun _ hk => hk.2) (.int .i64 x10_1)) (fun _ hk => hk.2) (.int .i64 0)) (fun _ hk => hk.2) (.int .i64 0)) (fun _ hk => hk.2) (.int .i64 0)) (fun _ hk => hk.2) (.int .i64 0)) (fun _ hk => hk.2) (.int .i64 0)) (fun _ hk => hk.2) (.int .i64 0)) (fun _ hk => hk.2) (.slice none 0 0)) (fun _ hk => hk.2) (.slice none 0 0)) (fun _ hk => trivial)⟩, ⟨bf_ BK140.out⟩, ⟨bf_ BK141.out⟩, ⟨bq_ BK156.out⟩, ⟨be_ HB.out⟩⟩
          case rest =>
           clear HC93; (try clear p1); (try clear q1); (try clear hx1); (try clear qi1); (try clear p2); (try clear c5); (try clear c6); (try clear p6); (try clear c9); (try clear hx17); (try clear p18); (try clear q18); (try clear hx18); (try clear qi18); (try clear c59); (try clear c60); (try clear c60b0); (try clear c60b1); (try clear c61); (try clear c62); (try clear c63); (try clear c64); (try clear p64); (try clear c65); (try clear c66); (try clear c67); (try clear c91); (try clear c95); (try clear c96); (try clear c98); (try clear c98b0); (try clear c98b1); (try clear hcz90); (try clear hcz92); (try clear hcz97); (try clear hx171_0); (try clear hx172_0); (try clear hx173_0); (try clear hx174_0); (try clear hx175_0); (try clear hx176_0); (try clear hx177_0); (try clear hx178_0); (try clear hx179_0); (try clear hx180_0); (try clear hx184_0); (try clear p184); (try clear q184); obtain ⟨kq, x126_92, rfl, HA, HJ92, HO_8, BK140, BK141, BK156, HB⟩ := hcut
           cases kq with
           | zero => exact absurd HA.out (by simp [spec_l10Layer.j2])
           | succ kj92 =>
            have H := HA.out; clear HA; simp only [spec_l10Layer.j2] at H
            by_cases c99 : x126_92 = true
            ·
             subst c99; rw [if_pos rfl] at H
             by_cases c100 : 0 < (t149.length : Int)
             ·
              rw [if_pos c100] at H; have c100b0 : decide (0 < (t149.length : Int)) = true := dt_ c100; have c100b1 : decide (0 < t149.length) = true := decide_eq_true (by omega); clear c100
              by_cases c101 : 1 < (t149.length : Int)
              ·
               rw [if_pos c101] at H; have c101b0 : decide (1 < (t149.length : Int)) = true := dt_ c101; have c101b1 : decide (1 < t149.length) = true := decide_eq_true (by omega); clear c101; simp only [Option.some.injEq, Prod.mk.injEq] at H; obtain ⟨rfl, rfl, rfl, rfl, rfl, rfl, rfl, rfl, rfl, rfl⟩ := H; obtain ⟨Ao102, co102, eo102⟩ := Kd.R_slice HO_8.out; subst eo102; have p188 : 0 ≤ (0 : Int) := (by omega); have q188 : 0 < (t149.length : Int) := od_; obtain ⟨ad188, e188, hx188_0⟩ := Kd.at_int (Kd.R_reads' HO_8.out).2.2 0 p188 q188
               cases e188
               have qi188 : (0 < t149.length) = True := eq_true (by omega); (try rw [show ((0 : Int)).toNat = 0 from rfl] at hx188_0); (try rw [Addr.add_zero'] at hx188_0); replace p188 := eq_true p188; replace q188 := eq_true q188; have hnb103 := nn_ NB156_140 NB140_156; have hnb104 := nn_ NB156_141 NB141_156; have hcz105 := box9_ BK156.out; have p189 : 0 ≤ (1 : Int) := (by omega); have q189 : 1 < (t149.length : Int) := od_; obtain ⟨ad189, e189, hx189_0⟩ := Kd.at_int (Kd.R_reads' HO_8.out).2.2 1 p189 q189; obtain rfl : ad188 = ad189 := (by injection e189); (try simp only [show (1 : Int).toNat = 1 from rfl, Nat.reduceMul, Nat.reduceEqDiff, Go.Addr.add, ↓reduceIte] at hx189_0); have qi189 : (1 < t149.length) = True := eq_true (by omega); (try rw [show ((1 : Int)).toNat = 1 from rfl] at hx189_0); have hn189_0 : ad188.block ≠ gb156 := Kd.own_blk (Kd.R_ne HO_8.out BK156.out (by decide)); replace hx189_0 := cfs_ 2 (.int .i64 (rd t149 0)) hn189_0 hx189_0; clear hn189_0; replace p189 := eq_true p189; replace q189 := eq_true q189; have hnb106 := nn_ NB141_140 NB140_141; have hcz107 := box9_ BK141.out
               go_wp2
               refine bodyPost_ret (results_ct rfl _ _ gb141 55 #[.int .i64 x10_1, .int .i64 0, .int .i64 (rd t149 0), .int .i64 (rd t149 1), .int .i64 0, .int .i64 0, .int .i64 0, .slice none 0 0, .slice none 0 0] (0, 0) _ rfl (bq_ BK141.out) Tryz.underlying55 rfl (by kernel_rfl)) rfl ?_; exact ⟨_, _, by first | rfl | (simp [errW_none, errW_some] <;> rfl) | (simp [*, errW_none, errW_some] <;> rfl), by first | exact Kd.R_nil _ _ _ _ _ | exact Kd.N_nil _ _ _ _ _ | exact Kd.V_nil _ _ _ _ _ | exact Kd.Q_nil _ _ _ _ _ | exact Kd.S_nil _ _ _ _ _, by first | exact Kd.R_nil _ _ _ _ _ | exact Kd.N_nil _ _ _ _ _ | exact Kd.V_nil _ _ _ _ _ | exact Kd.Q_nil _ _ _ _ _ | exact Kd.S_nil _ _ _ _ _, be_ HB.out⟩
              ·
               rw [if_neg c101] at H; exact absurd H (by simp)
             ·
              rw [if_neg c100] at H; exact absurd H (by simp)
            ·
             replace c99 := fb_ c99; subst c99; replace H := if0_ H
             by_cases c108 : x10_1 = 4
             ·
              rw [if_pos c108] at H; have c108b0 : (x10_1 == 4) = true := eq1_ c108; have c108b1 : (x10_1 != 4) = false := ne0_ c108; clear c108
              by_cases c109 : 0 < (t149.length : Int)
              ·
               rw [if_pos c109] at H; have c109b0 : decide (0 < (t149.length : Int)) = true := dt_ c109; have c109b1 : decide (0 < t149.length) = true := decide_eq_true (by omega); clear c109; simp only [Option.some.injEq, Prod.mk.injEq] at H; obtain ⟨rfl, rfl, rfl, rfl, rfl, rfl, rfl, rfl, rfl, rfl⟩ := H; obtain ⟨Ao110, co110, eo110⟩ := Kd.R_slice HO_8.out; subst eo110; have p190 : 0 ≤ (0 : Int) := (by omega); have q190 : 0 < (t149.length : Int) := od_; obtain ⟨ad190, e190, hx190_0⟩ := Kd.at_int (Kd.R_reads' HO_8.out).2.2 0 p190 q190
               cases e190
               have qi190 : (0 < t149.length) = True := eq_true (by omega); (try rw [show ((0 : Int)).toNat = 0 from rfl] at hx190_0); (try rw [Addr.add_zero'] at hx190_0); replace p190 := eq_true p190; replace q190 := eq_true q190; have hnb111 := nn_ NB156_140 NB140_156; have hnb112 := nn_ NB156_141 NB141_156; have hcz113 := box9_ BK156.out; have hnb114 := nn_ NB141_140 NB140_141; have hcz115 := box9_ BK141.out
               go_wp2
               refine bodyPost_ret (results_ct rfl _ _ gb141 55 #[.int .i64 x10_1, .int .i64 0, .int .i64 0, .int .i64 0, .int .i64 0, .int .i64 0, .int .i64 (rd t149 0), .slice none 0 0, .slice none 0 0] (0, 0) _ rfl (bq_ BK141.out) Tryz.underlying55 rfl (by kernel_rfl)) rfl ?_; exact ⟨_, _, by first | rfl | (simp [errW_none, errW_some] <;> rfl) | (simp [*, errW_none, errW_some] <;> rfl), by first | exact Kd.R_nil _ _ _ _ _ | exact Kd.N_nil _ _ _ _ _ | exact Kd.V_nil _ _ _ _ _ | exact Kd.Q_nil _ _ _ _ _ | exact Kd.S_nil _ _ _ _ _, by first | exact Kd.R_nil _ _ _ _ _ | exact Kd.N_nil _ _ _ _ _ | exact Kd.V_nil _ _ _ _ _ | exact Kd.Q_nil _ _ _ _ _ | exact Kd.S_nil _ _ _ _ _, be_ HB.out⟩
              ·
               rw [if_neg c109] at H; exact absurd H (by simp)
             ·
              rw [if_neg c108] at H; have c108b0 : (x10_1 == 4) = false := eq0_ c108; have c108b1 : (x10_1 != 4) = true := ne1_ c108; simp only [Option.some.injEq, Prod.mk.injEq] at H; obtain ⟨rfl, rfl, rfl, rfl, rfl, rfl, rfl, rfl, rfl, rfl⟩ := H; have hnb116 := nn_ NB156_140 NB140_156; have hnb117 := nn_ NB156_141 NB141_156; have hcz118 := box9_ BK156.out; have hnb119 := nn_ NB141_140 NB140_141; have hcz120 := box9_ BK141.out
              go_wp2
              refine bodyPost_ret (results_ct rfl _ _ gb141 55 #[.int .i64 x10_1, .int .i64 0, .int .i64 0, .int .i64 0, .int .i64 0, .int .i64 0, .int .i64 0, .slice none 0 0, .slice none 0 0] (0, 0) _ rfl (bq_ BK141.out) Tryz.underlying55 rfl (by kernel_rfl)) rfl ?_; exact ⟨_, _, by first | rfl | (simp [errW_none, errW_some] <;> rfl) | (simp [*, errW_none, errW_some] <;> rfl), by first | exact Kd.R_nil _ _ _ _ _ | exact Kd.N_nil _ _ _ _ _ | exact Kd.V_nil _ _ _ _ _ | exact Kd.Q_nil _ _ _ _ _ | exact Kd.S_nil _ _ _ _ _, by first | exact Kd.R_nil _ _ _ _ _ | exact Kd.N_nil _ _ _ _ _ | exact Kd.V_nil _ _ _ _ _ | exact Kd.Q_nil _ _ _ _ _ | exact Kd.S_nil _ _ _ _ _, be_ HB.out⟩
    ·
     rw [if_neg c13] at H; have c13b0 : decide (x10_1 < (y142.length : Int)) = false := df_ c13; clear c13; simp only [Option.some.injEq, Prod.mk.injEq] at H; obtain ⟨rfl, rfl, rfl, rfl, rfl, rfl, rfl, rfl, rfl, rfl⟩ := H; obtain ⟨Ao121, co121, eo121⟩ := Kd.R_slice HO_6.out; subst eo121; have hnb122 := nn_ NB141_140 NB140_141; have hcz123 := box9_ BK141.out
     go_wp2
     refine bodyPost_ret (results_ct rfl _ _ gb141 55 #[.int .i64 0, .int .i64 0, .int .i64 0, .int .i64 0, .int .i64 0, .int .i64 0, .int .i64 0, .slice none 0 0, .slice none 0 0] (0, 0) _ rfl (bq_ BK141.out) Tryz.underlying55 rfl (by kernel_rfl)) rfl ?_; exact ⟨_, _, by first | rfl | (simp [errW_none, errW_some] <;> rfl) | (simp [*, errW_none, errW_some] <;> rfl), by first | exact Kd.R_nil _ _ _ _ _ | exact Kd.N_nil _ _ _ _ _ | exact Kd.V_nil _ _ _ _ _ | exact Kd.Q_nil _ _ _ _ _ | exact Kd.S_nil _ _ _ _ _, by first | exact Kd.R_nil _ _ _ _ _ | exact Kd.N_nil _ _ _ _ _ | exact Kd.V_nil _ _ _ _ _ | exact Kd.Q_nil _ _ _ _ _ | exact Kd.S_nil _ _ _ _ _, be_ HB.out⟩
 ·
  rw [if_neg c3] at H; exact absurd H (by simp)

def spec_l02Int8.f (a0 : Int) : Option (Bool) := (spec_l01In.f a0 (-128) 127).bind fun t191 => (some t191)
set_option maxHeartbeats 8000000 in
set_option maxRecDepth 100000 in
theorem spec_l02Int8.calls {a0 : Int} {r : Bool} {w : World} (h : spec_l02Int8.f a0 = some r) :
  Calls Tryz.prog 96 #[.int .i64 a0] w fun e w' => e = .returned (.bool r) ∧ Drawn0 w w' := by
 have H : ((spec_l01In.f a0 (-128) 127).bind fun t191 => (some t191)) = some r := h; clear h; obtain ⟨t191, A2, H⟩ := bo_ H; (try dsimp only at H); obtain rfl := oi_ H
 go_enter Tryz.func96, Tryz.ntmps96
 go_wp2_with (first | ((with_reducible refine gc_ 57 ?_); refine gw_ (some 4) Tryz.func57 ?_; (with_reducible refine (spec_l01In.calls A2.out).mono ?_); rintro e w' ⟨rfl, ⟨nd, rfl⟩⟩; refine ⟨_, rfl, ?_⟩))
 go_ret
 exact ⟨by first | rfl | (simp; done) | (simp [*]; done), by repeat (first | exact Drawn0.refl _ | apply Drawn0.step)⟩

end Go.Proofs.YtgolleldpmkkoaaGreatDoor.QFnExactParsePlan
