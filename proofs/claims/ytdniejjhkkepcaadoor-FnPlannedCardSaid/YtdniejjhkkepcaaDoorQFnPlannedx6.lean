/- The Go functions that the statement FnPlanned reaches, as Lean functions, each with a proof that the call does what its function says; laid by a program of this session. No condition. -/
import Derived.Test.YtdniejjhkkepcaaDoorQFnPlannedx0
import Derived.Test.YtdniejjhkkepcaaDoorQFnPlannedx3
import Derived.Test.YtdniejjhkkepcaaDoorQFnPlannedx4
import Derived.Test.YtdniejjhkkepcaaDoorQFnPlannedx5
namespace Go.Proofs.YtdniejjhkkepcaaDoor.QFnPlanned
open Go.RowKit Go.Proofs.YtdniejjhkkepcaaDoorW.PrintWords Go.Proofs.YtdniejjhkkepcaaDoorW.PrintLast Go.Proofs.YtdniejjhkkepcaaDoorW.PrintMore
attribute [local go_sem] max2_int min2_int max_two min_two max_three min_three max_four min_four   -- for this text's walks alone
set_option linter.unusedVariables false
set_option linter.unusedSimpArgs false

mutual
def spec_SlotsText.l0 : Nat → List (S49) → ByteArray → Int → Option (ByteArray)
 | 0, _, _, _ => none
 | k + 1, x0, x3, x4 => if x4 < (x0.length : Int) then (if x4 > 0 then (if x3.size + 1 ≤ 9223372036854775807 then (spec_SlotsText.j1 k x0 (x3 ++ (⟨#[32]⟩ : ByteArray)) x4) else (none)) else (spec_SlotsText.j1 k x0 x3 x4)) else (some x3)
def spec_SlotsText.j1 : Nat → List (S49) → ByteArray → Int → Option (ByteArray)
 | 0, _, _, _ => none
 | k + 1, x0, x3, x4 => if 0 ≤ x4 then (if x4 < (x0.length : Int) then ((spec_l01Num.f k ((rd_T49 x0 x4).f0)).bind fun t265 => (if x3.size + t265.size ≤ 9223372036854775807 then (if (x3 ++ t265).size + 1 ≤ 9223372036854775807 then ((spec_l01Num.f k ((rd_T49 x0 x4).f1)).bind fun t266 => (if ((x3 ++ t265) ++ (⟨#[64]⟩ : ByteArray)).size + t266.size ≤ 9223372036854775807 then (if (((x3 ++ t265) ++ (⟨#[64]⟩ : ByteArray)) ++ t266).size + 1 ≤ 9223372036854775807 then ((spec_l01Num.f k ((rd_T49 x0 x4).f2)).bind fun t267 => (if ((((x3 ++ t265) ++ (⟨#[64]⟩ : ByteArray)) ++ t266) ++ (⟨#[58]⟩ : ByteArray)).size + t267.size ≤ 9223372036854775807 then (if (((((x3 ++ t265) ++ (⟨#[64]⟩ : ByteArray)) ++ t266) ++ (⟨#[58]⟩ : ByteArray)) ++ t267).size + 1 ≤ 9223372036854775807 then ((spec_l01Num.f k ((rd_T49 x0 x4).f3)).bind fun t268 => (if ((((((x3 ++ t265) ++ (⟨#[64]⟩ : ByteArray)) ++ t266) ++ (⟨#[58]⟩ : ByteArray)) ++ t267) ++ (⟨#[45]⟩ : ByteArray)).size + t268.size ≤ 9223372036854775807 then (spec_SlotsText.l0 k x0 (((((((x3 ++ t265) ++ (⟨#[64]⟩ : ByteArray)) ++ t266) ++ (⟨#[58]⟩ : ByteArray)) ++ t267) ++ (⟨#[45]⟩ : ByteArray)) ++ t268) (wrap64 (x4 + 1))) else (none))) else (none)) else (none))) else (none)) else (none))) else (none)) else (none))) else (none)) else (none)
end
def spec_SlotsText.f (k : Nat) (l0 : List (S49)) : Option (ByteArray) := spec_SlotsText.l0 k l0 (⟨#[]⟩ : ByteArray) 0
theorem spec_SlotsText.mono_l : ∀ k, (∀ y0 y1 y2, LeO (spec_SlotsText.l0 k y0 y1 y2) (spec_SlotsText.l0 (k + 1) y0 y1 y2)) ∧ (∀ y0 y1 y2, LeO (spec_SlotsText.j1 k y0 y1 y2) (spec_SlotsText.j1 (k + 1) y0 y1 y2))
 | 0 => ⟨fun _ _ _ r h => by simp [spec_SlotsText.l0] at h, fun _ _ _ r h => by simp [spec_SlotsText.j1] at h⟩
 | k + 1 => by
  obtain ⟨ih0, ih1⟩ := spec_SlotsText.mono_l k
  refine ⟨?_, ?_⟩
  ·
   intro y0 y1 y2
   unfold spec_SlotsText.l0
   repeat' first
   | (with_reducible exact ih0 _ _ _)
   | (with_reducible exact ih1 _ _ _)
   | (with_reducible exact spec_l01Num.mono _ _)
   | (with_reducible exact LeO.refl _)
   | (with_reducible exact LeO.none _)
   | (with_reducible refine LeO.ite ?_ ?_)
   | (with_reducible refine LeO.bind ?_ (fun _ => ?_))
   | exact ih0 _ _ _
   | exact ih1 _ _ _
   | exact spec_l01Num.mono _ _
   | exact LeO.none _
   | refine LeO.ite ?_ ?_
   | refine LeO.bind ?_ (fun _ => ?_)
  ·
   intro y0 y1 y2
   unfold spec_SlotsText.j1
   repeat' first
   | (with_reducible exact ih0 _ _ _)
   | (with_reducible exact ih1 _ _ _)
   | (with_reducible exact spec_l01Num.mono _ _)
   | (with_reducible exact LeO.refl _)
   | (with_reducible exact LeO.none _)
   | (with_reducible refine LeO.ite ?_ ?_)
   | (with_reducible refine LeO.bind ?_ (fun _ => ?_))
   | exact ih0 _ _ _
   | exact ih1 _ _ _
   | exact spec_l01Num.mono _ _
   | exact LeO.none _
   | refine LeO.ite ?_ ?_
   | refine LeO.bind ?_ (fun _ => ?_)
theorem spec_SlotsText.mono : ∀ a0 k, LeO (spec_SlotsText.f k a0) (spec_SlotsText.f (k + 1) a0) := by
 intro a0 k
 obtain ⟨ih0, ih1⟩ := spec_SlotsText.mono_l k
 unfold spec_SlotsText.f
 repeat' first
   | (with_reducible exact ih0 _ _ _)
   | (with_reducible exact ih1 _ _ _)
   | (with_reducible exact spec_l01Num.mono _ _)
   | (with_reducible exact LeO.refl _)
   | (with_reducible exact LeO.none _)
   | (with_reducible refine LeO.ite ?_ ?_)
   | (with_reducible refine LeO.bind ?_ (fun _ => ?_))
   | exact ih0 _ _ _
   | exact ih1 _ _ _
   | exact spec_l01Num.mono _ _
   | exact LeO.none _
   | refine LeO.ite ?_ ?_
   | refine LeO.bind ?_ (fun _ => ?_)
def spec_SlotsText.T8 : Bool × List (List Nat × List Nat) := (true, [([], []), ([], []), ([1], [1]), ([2], [2]), ([0, 3], [0, 3]), ([4], [4]), ([], []), ([6], [6]), ([7, 3], [7]), ([5, 8], [5, 8]), ([9], [9]), ([], []), ([11], [11]), ([12, 8], [12]), ([10, 13], [10, 13]), ([14], [14]), ([], []), ([16], [16]), ([17, 13], [17]), ([15, 18], [15, 18]), ([19, 18, 0, 1, 2, 3, 4, 5, 6, 7, 8, 9, 10, 11, 12, 13, 14, 15, 16, 17, 18, 19], [0, 19])])
def spec_SlotsText.B8 : List Nat := [0, 0, 2, 6, 15, 31, 0, 64, 206, 511, 1023, 0, 2048, 6606, 16383, 32767, 0, 65536, 211406, 524287, 1048575]
theorem spec_SlotsText.tab8 : rtab .any (opsOf Tryd.f10 8) = spec_SlotsText.T8 := by kernel_rfl
theorem spec_SlotsText.bits8 : waitsOk spec_SlotsText.T8.2 spec_SlotsText.B8 = true := by kernel_rfl
set_option maxHeartbeats 8000000 in
set_option maxRecDepth 100000 in
theorem spec_SlotsText.calls (k : Nat) (A0 : Option Addr) (c0 : Nat) (l0 : List (S49)) (r : ByteArray) (w : World) (hr0 : Kd.C k49 w A0 l0.length l0) (hc0 : l0.length ≤ c0) (h : spec_SlotsText.f k l0 = some r) :
  Calls Tryd.prog 10 #[.slice A0 l0.length c0] w fun e w' => e = .returned (.string r) ∧ Below w.heap.size w w' := by
 have hu49 := Tryd.underlying49
 have HR0 := Aside0.mk hr0
 have HC0 := Aside0.mk hc0
 clear hr0 hc0
 have HB := Aside0.mk (Below.refl w.heap.size w)
 have H : (spec_SlotsText.l0 k l0 (⟨#[]⟩ : ByteArray) 0) = some r := h
 clear h
 have H' := Aside0.mk H
 clear H
 go_enter Tryd.func10, Tryd.ntmps10
 go_wp2
 go_loopg [3, 4] k (fun kq v3 v4 w' => ∃ (x3_1 : ByteArray) (x4_1 : Int), v3 = .string x3_1 ∧ v4 = .int .i64 x4_1 ∧ Aside0 (spec_SlotsText.l0 kq l0 x3_1 x4_1 = some r) ∧ Aside0 (kq ≤ k) ∧ Aside0 (Below w.heap.size w w'))
 case atStart => exact ⟨((⟨#[]⟩ : ByteArray)), (0), (by first | rfl | (simp; done) | (simp [*]; done)), (by first | rfl | (simp; done) | (simp [*]; done)), H', ⟨Nat.le_refl _⟩, ⟨be_ HB.out⟩⟩
 case round =>
  clear H'
  try clear c1
  obtain ⟨x3_1, x4_1, rfl, rfl, HA, HK1, HB⟩ := hrel
  cases gk with
  | zero => exact absurd HA.out (by simp [spec_SlotsText.l0])
  | succ k1 =>
   have H := HA.out
   clear HA
   simp only [spec_SlotsText.l0] at H
   by_cases c2 : x4_1 < (l0.length : Int)
   ·
    rw [if_pos c2] at H
    have c2b0 : decide (x4_1 < (l0.length : Int)) = true := decide_eq_true c2
    clear c2
    have HC3 := Aside0.mk H
    clear H
    go_upto_if 13 with (fail)
    go_cut [3] (fun v3 wc => ∃ (kq : Nat) (x3_2 : ByteArray), v3 = .string x3_2 ∧ Aside0 (spec_SlotsText.j1 kq l0 x3_2 x4_1 = some r) ∧ Aside0 (kq ≤ k1) ∧ Aside0 (Below w.heap.size w wc))
    case first =>
     have H := HC3.out
     clear HC3
     by_cases c4 : x4_1 > 0
     ·
      rw [if_pos c4] at H
      have c4b0 : decide (0 < x4_1) = true := decide_eq_true c4
      clear c4
      (first | rw [c4b0] | (simp only [i64_w, i32_w]; rw [c4b0]) | skip)
      by_cases c5 : x3_1.size + 1 ≤ 9223372036854775807
      ·
       rw [if_pos c5] at H
       have c5b0 := eq_true c5
       have c5b1 : decide (x3_1.size + 1 ≤ 9223372036854775807) = true := decide_eq_true c5
       try have c5b2 : (9223372036854775807 < x3_1.size + 1) = False := eq_false (Nat.not_lt.2 c5)
       have H' := Aside0.mk H
       clear H
       go_wp2
       go_meet
       case rel => exact ⟨_, (x3_1 ++ (⟨#[32]⟩ : ByteArray)), (by first | rfl | (simp; done) | (simp [*]; done)), H', ⟨by have := HK1.out; first | omega | exact Nat.le_refl _⟩, ⟨be_ HB.out⟩⟩
      ·
       rw [if_neg c5] at H
       exact absurd H (by simp)
     ·
      rw [if_neg c4] at H
      have c4b0 : decide (0 < x4_1) = false := decide_eq_false c4
      clear c4
      (first | rw [c4b0] | (simp only [i64_w, i32_w]; rw [c4b0]) | skip)
      have H' := Aside0.mk H
      clear H
      go_wp2
      go_meet
      case rel => exact ⟨_, (x3_1), (by first | rfl | (simp; done) | (simp [*]; done)), H', ⟨by have := HK1.out; first | omega | exact Nat.le_refl _⟩, ⟨be_ HB.out⟩⟩
    case rest =>
     clear HC3
     (try clear c1); (try clear c2); (try clear c2b0); (try clear p2); (try clear c4); (try clear c4b0); (try clear c5); (try clear c5b0); (try clear c5b1); (try clear c5b2)
     obtain ⟨kq, x3_2, rfl, HA, HJ2, HB⟩ := hcut
     cases kq with
     | zero => exact absurd HA.out (by simp [spec_SlotsText.j1])
     | succ kj2 =>
      have H := HA.out
      clear HA
      simp only [spec_SlotsText.j1] at H
      by_cases c6 : 0 ≤ x4_1
      ·
       rw [if_pos c6] at H
       have c6b0 : decide (0 ≤ x4_1) = true := decide_eq_true c6
       clear c6
       by_cases c7 : x4_1 < (l0.length : Int)
       ·
        rw [if_pos c7] at H
        have c7b0 : decide (x4_1 < (l0.length : Int)) = true := decide_eq_true c7
        clear c7
        replace H := Option.bind_eq_some_iff.mp H
        obtain ⟨t265, A80, H⟩ := H
        replace H : (if x3_2.size + t265.size ≤ 9223372036854775807 then (if (x3_2 ++ t265).size + 1 ≤ 9223372036854775807 then ((spec_l01Num.f kj2 ((rd_T49 l0 x4_1).f1)).bind fun t266 => (if ((x3_2 ++ t265) ++ (⟨#[64]⟩ : ByteArray)).size + t266.size ≤ 9223372036854775807 then (if (((x3_2 ++ t265) ++ (⟨#[64]⟩ : ByteArray)) ++ t266).size + 1 ≤ 9223372036854775807 then ((spec_l01Num.f kj2 ((rd_T49 l0 x4_1).f2)).bind fun t267 => (if ((((x3_2 ++ t265) ++ (⟨#[64]⟩ : ByteArray)) ++ t266) ++ (⟨#[58]⟩ : ByteArray)).size + t267.size ≤ 9223372036854775807 then (if (((((x3_2 ++ t265) ++ (⟨#[64]⟩ : ByteArray)) ++ t266) ++ (⟨#[58]⟩ : ByteArray)) ++ t267).size + 1 ≤ 9223372036854775807 then ((spec_l01Num.f kj2 ((rd_T49 l0 x4_1).f3)).bind fun t268 => (if ((((((x3_2 ++ t265) ++ (⟨#[64]⟩ : ByteArray)) ++ t266) ++ (⟨#[58]⟩ : ByteArray)) ++ t267) ++ (⟨#[45]⟩ : ByteArray)).size + t268.size ≤ 9223372036854775807 then (spec_SlotsText.l0 kj2 l0 (((((((x3_2 ++ t265) ++ (⟨#[64]⟩ : ByteArray)) ++ t266) ++ (⟨#[58]⟩ : ByteArray)) ++ t267) ++ (⟨#[45]⟩ : ByteArray)) ++ t268) (wrap64 (x4_1 + 1))) else (none))) else (none)) else (none))) else (none)) else (none))) else (none)) else (none)) = some r := H
        have A8 := Aside0.mk A80
        clear A80
        by_cases c9 : x3_2.size + t265.size ≤ 9223372036854775807
        ·
         rw [if_pos c9] at H
         have c9b0 := eq_true c9
         have c9b1 : decide (x3_2.size + t265.size ≤ 9223372036854775807) = true := decide_eq_true c9
         try have c9b2 : (9223372036854775807 < x3_2.size + t265.size) = False := eq_false (Nat.not_lt.2 c9)
         by_cases c10 : (x3_2 ++ t265).size + 1 ≤ 9223372036854775807
         ·
          rw [if_pos c10] at H
          have c10b0 := eq_true c10
          have c10b1 : decide ((x3_2 ++ t265).size + 1 ≤ 9223372036854775807) = true := decide_eq_true c10
          try have c10b2 : (9223372036854775807 < (x3_2 ++ t265).size + 1) = False := eq_false (Nat.not_lt.2 c10)
          try have c10b3 : (9223372036854775807 < x3_2.size + t265.size + 1) = False := by have e_ : x3_2.size + t265.size + 1 = (x3_2 ++ t265).size + 1 := (by simp only [ByteArray.size_append] <;> rfl); rw [e_]; exact c10b2
          replace H := Option.bind_eq_some_iff.mp H
          obtain ⟨t266, A110, H⟩ := H
          replace H : (if ((x3_2 ++ t265) ++ (⟨#[64]⟩ : ByteArray)).size + t266.size ≤ 9223372036854775807 then (if (((x3_2 ++ t265) ++ (⟨#[64]⟩ : ByteArray)) ++ t266).size + 1 ≤ 9223372036854775807 then ((spec_l01Num.f kj2 ((rd_T49 l0 x4_1).f2)).bind fun t267 => (if ((((x3_2 ++ t265) ++ (⟨#[64]⟩ : ByteArray)) ++ t266) ++ (⟨#[58]⟩ : ByteArray)).size + t267.size ≤ 9223372036854775807 then (if (((((x3_2 ++ t265) ++ (⟨#[64]⟩ : ByteArray)) ++ t266) ++ (⟨#[58]⟩ : ByteArray)) ++ t267).size + 1 ≤ 9223372036854775807 then ((spec_l01Num.f kj2 ((rd_T49 l0 x4_1).f3)).bind fun t268 => (if ((((((x3_2 ++ t265) ++ (⟨#[64]⟩ : ByteArray)) ++ t266) ++ (⟨#[58]⟩ : ByteArray)) ++ t267) ++ (⟨#[45]⟩ : ByteArray)).size + t268.size ≤ 9223372036854775807 then (spec_SlotsText.l0 kj2 l0 (((((((x3_2 ++ t265) ++ (⟨#[64]⟩ : ByteArray)) ++ t266) ++ (⟨#[58]⟩ : ByteArray)) ++ t267) ++ (⟨#[45]⟩ : ByteArray)) ++ t268) (wrap64 (x4_1 + 1))) else (none))) else (none)) else (none))) else (none)) else (none)) = some r := H
          have A11 := Aside0.mk A110
          clear A110
          by_cases c12 : ((x3_2 ++ t265) ++ (⟨#[64]⟩ : ByteArray)).size + t266.size ≤ 9223372036854775807
          ·
           rw [if_pos c12] at H
           have c12b0 := eq_true c12
           have c12b1 : decide (((x3_2 ++ t265) ++ (⟨#[64]⟩ : ByteArray)).size + t266.size ≤ 9223372036854775807) = true := decide_eq_true c12
           try have c12b2 : (9223372036854775807 < ((x3_2 ++ t265) ++ (⟨#[64]⟩ : ByteArray)).size + t266.size) = False := eq_false (Nat.not_lt.2 c12)
           try have c12b3 : (9223372036854775807 < x3_2.size + t265.size + 1 + t266.size) = False := by have e_ : x3_2.size + t265.size + 1 + t266.size = ((x3_2 ++ t265) ++ (⟨#[64]⟩ : ByteArray)).size + t266.size := (by simp only [ByteArray.size_append] <;> rfl); rw [e_]; exact c12b2
           by_cases c13 : (((x3_2 ++ t265) ++ (⟨#[64]⟩ : ByteArray)) ++ t266).size + 1 ≤ 9223372036854775807
           ·
            rw [if_pos c13] at H
            have c13b0 := eq_true c13
            have c13b1 : decide ((((x3_2 ++ t265) ++ (⟨#[64]⟩ : ByteArray)) ++ t266).size + 1 ≤ 9223372036854775807) = true := decide_eq_true c13
            try have c13b2 : (9223372036854775807 < (((x3_2 ++ t265) ++ (⟨#[64]⟩ : ByteArray)) ++ t266).size + 1) = False := eq_false (Nat.not_lt.2 c13)
            try have c13b3 : (9223372036854775807 < x3_2.size + t265.size + 1 + t266.size + 1) = False := by have e_ : x3_2.size + t265.size + 1 + t266.size + 1 = (((x3_2 ++ t265) ++ (⟨#[64]⟩ : ByteArray)) ++ t266).size + 1 := (by simp only [ByteArray.size_append] <;> rfl); rw [e_]; exact c13b2
            replace H := Option.bind_eq_some_iff.mp H
            obtain ⟨t267, A140, H⟩ := H
            replace H : (if ((((x3_2 ++ t265) ++ (⟨#[64]⟩ : ByteArray)) ++ t266) ++ (⟨#[58]⟩ : ByteArray)).size + t267.size ≤ 9223372036854775807 then (if (((((x3_2 ++ t265) ++ (⟨#[64]⟩ : ByteArray)) ++ t266) ++ (⟨#[58]⟩ : ByteArray)) ++ t267).size + 1 ≤ 9223372036854775807 then ((spec_l01Num.f kj2 ((rd_T49 l0 x4_1).f3)).bind fun t268 => (if ((((((x3_2 ++ t265) ++ (⟨#[64]⟩ : ByteArray)) ++ t266) ++ (⟨#[58]⟩ : ByteArray)) ++ t267) ++ (⟨#[45]⟩ : ByteArray)).size + t268.size ≤ 9223372036854775807 then (spec_SlotsText.l0 kj2 l0 (((((((x3_2 ++ t265) ++ (⟨#[64]⟩ : ByteArray)) ++ t266) ++ (⟨#[58]⟩ : ByteArray)) ++ t267) ++ (⟨#[45]⟩ : ByteArray)) ++ t268) (wrap64 (x4_1 + 1))) else (none))) else (none)) else (none)) = some r := H
            have A14 := Aside0.mk A140
            clear A140
            by_cases c15 : ((((x3_2 ++ t265) ++ (⟨#[64]⟩ : ByteArray)) ++ t266) ++ (⟨#[58]⟩ : ByteArray)).size + t267.size ≤ 9223372036854775807
            ·
             rw [if_pos c15] at H
             have c15b0 := eq_true c15
             have c15b1 : decide (((((x3_2 ++ t265) ++ (⟨#[64]⟩ : ByteArray)) ++ t266) ++ (⟨#[58]⟩ : ByteArray)).size + t267.size ≤ 9223372036854775807) = true := decide_eq_true c15
             try have c15b2 : (9223372036854775807 < ((((x3_2 ++ t265) ++ (⟨#[64]⟩ : ByteArray)) ++ t266) ++ (⟨#[58]⟩ : ByteArray)).size + t267.size) = False := eq_false (Nat.not_lt.2 c15)
             try have c15b3 : (9223372036854775807 < x3_2.size + t265.size + 1 + t266.size + 1 + t267.size) = False := by have e_ : x3_2.size + t265.size + 1 + t266.size + 1 + t267.size = ((((x3_2 ++ t265) ++ (⟨#[64]⟩ : ByteArray)) ++ t266) ++ (⟨#[58]⟩ : ByteArray)).size + t267.size := (by simp only [ByteArray.size_append] <;> rfl); rw [e_]; exact c15b2
             by_cases c16 : (((((x3_2 ++ t265) ++ (⟨#[64]⟩ : ByteArray)) ++ t266) ++ (⟨#[58]⟩ : ByteArray)) ++ t267).size + 1 ≤ 9223372036854775807
             ·
              rw [if_pos c16] at H
              have c16b0 := eq_true c16
              have c16b1 : decide ((((((x3_2 ++ t265) ++ (⟨#[64]⟩ : ByteArray)) ++ t266) ++ (⟨#[58]⟩ : ByteArray)) ++ t267).size + 1 ≤ 9223372036854775807) = true := decide_eq_true c16
              try have c16b2 : (9223372036854775807 < (((((x3_2 ++ t265) ++ (⟨#[64]⟩ : ByteArray)) ++ t266) ++ (⟨#[58]⟩ : ByteArray)) ++ t267).size + 1) = False := eq_false (Nat.not_lt.2 c16)
              try have c16b3 : (9223372036854775807 < x3_2.size + t265.size + 1 + t266.size + 1 + t267.size + 1) = False := by have e_ : x3_2.size + t265.size + 1 + t266.size + 1 + t267.size + 1 = (((((x3_2 ++ t265) ++ (⟨#[64]⟩ : ByteArray)) ++ t266) ++ (⟨#[58]⟩ : ByteArray)) ++ t267).size + 1 := (by simp only [ByteArray.size_append] <;> rfl); rw [e_]; exact c16b2
              replace H := Option.bind_eq_some_iff.mp H
              obtain ⟨t268, A170, H⟩ := H
              replace H : (if ((((((x3_2 ++ t265) ++ (⟨#[64]⟩ : ByteArray)) ++ t266) ++ (⟨#[58]⟩ : ByteArray)) ++ t267) ++ (⟨#[45]⟩ : ByteArray)).size + t268.size ≤ 9223372036854775807 then (spec_SlotsText.l0 kj2 l0 (((((((x3_2 ++ t265) ++ (⟨#[64]⟩ : ByteArray)) ++ t266) ++ (⟨#[58]⟩ : ByteArray)) ++ t267) ++ (⟨#[45]⟩ : ByteArray)) ++ t268) (wrap64 (x4_1 + 1))) else (none)) = some r := H
              have A17 := Aside0.mk A170
              clear A170
              by_cases c18 : ((((((x3_2 ++ t265) ++ (⟨#[64]⟩ : ByteArray)) ++ t266) ++ (⟨#[58]⟩ : ByteArray)) ++ t267) ++ (⟨#[45]⟩ : ByteArray)).size + t268.size ≤ 9223372036854775807
              ·
               rw [if_pos c18] at H
               have c18b0 := eq_true c18
               have c18b1 : decide (((((((x3_2 ++ t265) ++ (⟨#[64]⟩ : ByteArray)) ++ t266) ++ (⟨#[58]⟩ : ByteArray)) ++ t267) ++ (⟨#[45]⟩ : ByteArray)).size + t268.size ≤ 9223372036854775807) = true := decide_eq_true c18
               try have c18b2 : (9223372036854775807 < ((((((x3_2 ++ t265) ++ (⟨#[64]⟩ : ByteArray)) ++ t266) ++ (⟨#[58]⟩ : ByteArray)) ++ t267) ++ (⟨#[45]⟩ : ByteArray)).size + t268.size) = False := eq_false (Nat.not_lt.2 c18)
               try have c18b3 : (9223372036854775807 < x3_2.size + t265.size + 1 + t266.size + 1 + t267.size + 1 + t268.size) = False := by have e_ : x3_2.size + t265.size + 1 + t266.size + 1 + t267.size + 1 + t268.size = ((((((x3_2 ++ t265) ++ (⟨#[64]⟩ : ByteArray)) ++ t266) ++ (⟨#[58]⟩ : ByteArray)) ++ t267) ++ (⟨#[45]⟩ : ByteArray)).size + t268.size := (by simp only [ByteArray.size_append] <;> rfl); rw [e_]; exact c18b2
               have H' := Aside0.mk H
               clear H
               have p263 : 0 ≤ (x4_1 : Int) := of_decide_eq_true (by first | (with_reducible assumption) | assumption)
               have q263 : x4_1 < (l0.length : Int) := of_decide_eq_true (by first | (with_reducible assumption) | assumption)
               obtain ⟨ad263, e263, hx263_0, hx263_1, hx263_2, hx263_3⟩ := at_T49 HR0.out x4_1 p263 q263
               cases e263
               replace hx263_0 := cw_ HB.out hx263_0
               replace hx263_1 := cw_ HB.out hx263_1
               replace hx263_2 := cw_ HB.out hx263_2
               replace hx263_3 := cw_ HB.out hx263_3
               replace p263 := eq_true p263
               replace q263 := eq_true q263
               try go_wp2_with (first | ((with_reducible refine gate_dst (N := 5) rfl ?_); refine bx_ 5 #[.int .i64 0, .int .i64 0, .int .i64 0, .int .i64 0] 49 ?_; intro gb264 hg w19 hbox hb; have n0_ := Aside0.mk (below_step (be_ HB.out) hb); have n1_ := Aside0.mk (hbox); have n2_ := Aside0.mk ((bg_ hg HB.out)); have n3_ := Aside0.mk ((bg_ hg HB.out)); clear HB; have HB := n0_; have BK264 := n1_; have GW264 := n2_; have GE264 := n3_; clear n0_ n1_ n2_ n3_; clear hb hbox hg; obtain ⟨hcz20_0, hcz20_1, hcz20_2, hcz20_3, hfz20_0, hfz20_1, hfz20_2, hfz20_3⟩ := box4_ BK264.out))
               have n0_ : Aside0 (((((w19.setCell ⟨gb264, 0, none⟩ (.int .i64 ((rd_T49 l0 x4_1).f0))).setCell ⟨gb264, 1, none⟩ (.int .i64 ((rd_T49 l0 x4_1).f1))).setCell ⟨gb264, 2, none⟩ (.int .i64 ((rd_T49 l0 x4_1).f2))).setCell ⟨gb264, 3, none⟩ (.int .i64 ((rd_T49 l0 x4_1).f3))).heap[gb264]? = some (.cells #[.int .i64 ((rd_T49 l0 x4_1).f0), .int .i64 ((rd_T49 l0 x4_1).f1), .int .i64 ((rd_T49 l0 x4_1).f2), .int .i64 ((rd_T49 l0 x4_1).f3)] 49 (0, 0))) := ⟨by (with_reducible repeat (first | refine blk_drewN ?_ _ | refine blk_drew ?_ | refine blk_alloc ?_ _)); refine blk_put (cs := #[.int .i64 ((rd_T49 l0 x4_1).f0), .int .i64 ((rd_T49 l0 x4_1).f1), .int .i64 ((rd_T49 l0 x4_1).f2), .int .i64 0]) ?_ 3 _ rfl; (with_reducible repeat (first | refine blk_drewN ?_ _ | refine blk_drew ?_ | refine blk_alloc ?_ _)); refine blk_put (cs := #[.int .i64 ((rd_T49 l0 x4_1).f0), .int .i64 ((rd_T49 l0 x4_1).f1), .int .i64 0, .int .i64 0]) ?_ 2 _ rfl; (with_reducible repeat (first | refine blk_drewN ?_ _ | refine blk_drew ?_ | refine blk_alloc ?_ _)); refine blk_put (cs := #[.int .i64 ((rd_T49 l0 x4_1).f0), .int .i64 0, .int .i64 0, .int .i64 0]) ?_ 1 _ rfl; (with_reducible repeat (first | refine blk_drewN ?_ _ | refine blk_drew ?_ | refine blk_alloc ?_ _)); refine blk_put (cs := #[.int .i64 0, .int .i64 0, .int .i64 0, .int .i64 0]) ?_ 0 _ rfl; (with_reducible repeat (first | refine blk_drewN ?_ _ | refine blk_drew ?_ | refine blk_alloc ?_ _)); exact BK264.out⟩
               have n1_ : Aside0 (Below w.heap.size w ((((w19.setCell ⟨gb264, 0, none⟩ (.int .i64 ((rd_T49 l0 x4_1).f0))).setCell ⟨gb264, 1, none⟩ (.int .i64 ((rd_T49 l0 x4_1).f1))).setCell ⟨gb264, 2, none⟩ (.int .i64 ((rd_T49 l0 x4_1).f2))).setCell ⟨gb264, 3, none⟩ (.int .i64 ((rd_T49 l0 x4_1).f3)))) := ⟨be_ HB.out⟩
               (try clear BK264)
               (try clear HB)
               generalize ((((w19.setCell ⟨gb264, 0, none⟩ (.int .i64 ((rd_T49 l0 x4_1).f0))).setCell ⟨gb264, 1, none⟩ (.int .i64 ((rd_T49 l0 x4_1).f1))).setCell ⟨gb264, 2, none⟩ (.int .i64 ((rd_T49 l0 x4_1).f2))).setCell ⟨gb264, 3, none⟩ (.int .i64 ((rd_T49 l0 x4_1).f3))) = w21 at n0_ n1_ ⊢
               have BK264 := n0_
               have HB := n1_
               clear n0_ n1_
               have n0_ := Aside0.mk (blk_drew BK264.out)
               have n1_ := Aside0.mk (below_drew1 HB.out)
               clear BK264
               clear HB
               have BK264 := n0_
               have HB := n1_
               clear n0_ n1_
               refine start_ (n := 21) (S := fun w' => w'.cell? ⟨gb264, 0, none⟩ = some (.int .i64 ((rd_T49 l0 x4_1).f0)) ∧ w'.cell? ⟨gb264, 1, none⟩ = some (.int .i64 ((rd_T49 l0 x4_1).f1)) ∧ w'.cell? ⟨gb264, 2, none⟩ = some (.int .i64 ((rd_T49 l0 x4_1).f2)) ∧ w'.cell? ⟨gb264, 3, none⟩ = some (.int .i64 ((rd_T49 l0 x4_1).f3))) (ds := []) #[false, false, false, false, false, false, false, false, false, false, false, false, false, false, false, false, false, false, false, false, false] (by kernel_rfl) rfl rfl ⟨(blk_cell BK264.out 0).trans rfl, (blk_cell BK264.out 1).trans rfl, (blk_cell BK264.out 2).trans rfl, (blk_cell BK264.out 3).trans rfl⟩ (fun hHeld => ?_); refine with_tabW spec_SlotsText.tab8 spec_SlotsText.bits8 (fun HT_ HW_ => ?_)
               generalize w21.drew = w22 at BK264 HB hHeld ⊢
               refine pl_ 0 (some 20) 21 1 HT_.out ?_
               refine pl_ 1 (some 21) 21 3 HT_.out ?_
               refine pl_ 6 (some 26) 21 67 HT_.out ?_
               refine pl_ 11 (some 31) 21 2115 HT_.out ?_
               refine pl_ 16 (some 36) 21 67651 HT_.out ?_
               refine tk_ 2 (some 22) 21 67655 HT_.out HW_.out hHeld (hy := by rintro w' ⟨s0, s1, s2, s3⟩; go_simp; with_reducible rfl) (h := ?_)
               refine tk_ 7 (some 27) 21 67783 HT_.out HW_.out hHeld (hy := by rintro w' ⟨s0, s1, s2, s3⟩; go_simp; with_reducible rfl) (h := ?_)
               refine tk_ 12 (some 32) 21 71879 HT_.out HW_.out hHeld (hy := by rintro w' ⟨s0, s1, s2, s3⟩; go_simp; with_reducible rfl) (h := ?_)
               refine tk_ 17 (some 37) 21 202951 HT_.out HW_.out hHeld (hy := by rintro w' ⟨s0, s1, s2, s3⟩; go_simp; with_reducible rfl) (h := ?_)
               refine one_ (i := 3) (N := some 23) (bl_ 21 202959) rfl rfl (one_of HT_.out (by kernel_rfl)) (by decide) (fun K hK => ?_)
               refine goes_ Tryd.func33 (by kernel_rfl) rfl #[.int .i64 ((rd_T49 l0 x4_1).f0)] (by rfl) rfl rfl ar_ ?_
               with_reducible refine (spec_l01Num.calls kj2 ((rd_T49 l0 x4_1).f0) t265 _ A8.out).mono ?_
               rintro e w23 ⟨rfl, hb⟩
               refine ⟨_, rfl, ?_⟩
               have n0_ := Aside0.mk (blk_below (bu_ BK264.out) hb)
               have n1_ := Aside0.mk (below_step (be_ HB.out) hb)
               clear BK264
               clear HB
               have BK264 := n0_
               have HB := n1_
               clear n0_ n1_
               (try clear hb)
               (try clear hb2)
               (try clear hk)
               (try clear hi)
               refine hK.out _ _ ⟨(blk_cell BK264.out 0).trans rfl, (blk_cell BK264.out 1).trans rfl, (blk_cell BK264.out 2).trans rfl, (blk_cell BK264.out 3).trans rfl⟩ (fun hHeld => ?_)
               clear hK K
               refine nm_ 23 (h := ?_)
               refine pl_ 4 (some 24) 21 202975 HT_.out ?_
               refine pl_ 5 (some 25) 21 203007 HT_.out ?_
               refine one_ (i := 8) (N := some 28) (bl_ 21 203263) rfl rfl (one_of HT_.out (by kernel_rfl)) (by decide) (fun K hK => ?_)
               refine goes_ Tryd.func33 (by kernel_rfl) rfl #[.int .i64 ((rd_T49 l0 x4_1).f1)] (by rfl) rfl rfl ar_ ?_
               with_reducible refine (spec_l01Num.calls kj2 ((rd_T49 l0 x4_1).f1) t266 _ A11.out).mono ?_
               rintro e w24 ⟨rfl, hb⟩
               refine ⟨_, rfl, ?_⟩
               have n0_ := Aside0.mk (blk_below (bu_ BK264.out) hb)
               have n1_ := Aside0.mk (below_step (be_ HB.out) hb)
               clear BK264
               clear HB
               have BK264 := n0_
               have HB := n1_
               clear n0_ n1_
               (try clear hb)
               (try clear hb2)
               (try clear hk)
               (try clear hi)
               refine hK.out _ _ ⟨(blk_cell BK264.out 0).trans rfl, (blk_cell BK264.out 1).trans rfl, (blk_cell BK264.out 2).trans rfl, (blk_cell BK264.out 3).trans rfl⟩ (fun hHeld => ?_)
               clear hK K
               refine nm_ 28 (h := ?_)
               refine pl_ 9 (some 29) 21 203775 HT_.out ?_
               refine pl_ 10 (some 30) 21 204799 HT_.out ?_
               refine one_ (i := 13) (N := some 33) (bl_ 21 212991) rfl rfl (one_of HT_.out (by kernel_rfl)) (by decide) (fun K hK => ?_)
               refine goes_ Tryd.func33 (by kernel_rfl) rfl #[.int .i64 ((rd_T49 l0 x4_1).f2)] (by rfl) rfl rfl ar_ ?_
               with_reducible refine (spec_l01Num.calls kj2 ((rd_T49 l0 x4_1).f2) t267 _ A14.out).mono ?_
               rintro e w25 ⟨rfl, hb⟩
               refine ⟨_, rfl, ?_⟩
               have n0_ := Aside0.mk (blk_below (bu_ BK264.out) hb)
               have n1_ := Aside0.mk (below_step (be_ HB.out) hb)
               clear BK264
               clear HB
               have BK264 := n0_
               have HB := n1_
               clear n0_ n1_
               (try clear hb)
               (try clear hb2)
               (try clear hk)
               (try clear hi)
               refine hK.out _ _ ⟨(blk_cell BK264.out 0).trans rfl, (blk_cell BK264.out 1).trans rfl, (blk_cell BK264.out 2).trans rfl, (blk_cell BK264.out 3).trans rfl⟩ (fun hHeld => ?_)
               clear hK K
               refine nm_ 33 (h := ?_)
               refine pl_ 14 (some 34) 21 229375 HT_.out ?_
               refine pl_ 15 (some 35) 21 262143 HT_.out ?_
               refine one_ (i := 18) (N := some 38) (bl_ 21 524287) rfl rfl (one_of HT_.out (by kernel_rfl)) (by decide) (fun K hK => ?_)
               refine goes_ Tryd.func33 (by kernel_rfl) rfl #[.int .i64 ((rd_T49 l0 x4_1).f3)] (by rfl) rfl rfl ar_ ?_
               with_reducible refine (spec_l01Num.calls kj2 ((rd_T49 l0 x4_1).f3) t268 _ A17.out).mono ?_
               rintro e w26 ⟨rfl, hb⟩
               refine ⟨_, rfl, ?_⟩
               have n0_ := Aside0.mk (blk_below (bu_ BK264.out) hb)
               have n1_ := Aside0.mk (below_step (be_ HB.out) hb)
               clear BK264
               clear HB
               have BK264 := n0_
               have HB := n1_
               clear n0_ n1_
               (try clear hb)
               (try clear hb2)
               (try clear hk)
               (try clear hi)
               refine hK.out _ _ ⟨(blk_cell BK264.out 0).trans rfl, (blk_cell BK264.out 1).trans rfl, (blk_cell BK264.out 2).trans rfl, (blk_cell BK264.out 3).trans rfl⟩ (fun hHeld => ?_)
               clear hK K
               refine nm_ 38 (h := ?_)
               refine pl_ 19 (some 39) 21 1048575 HT_.out ?_
               refine pl_ 20 (some 3) 21 2097151 HT_.out ?_
               refine done_ (done_of HT_.out (by kernel_rfl)) ?_
               try go_wp2
               go_roundg kj2
               case measure => have := HK1.out; have := HJ2.out; omega
               case rel => exact ⟨(((((((x3_2 ++ t265) ++ (⟨#[64]⟩ : ByteArray)) ++ t266) ++ (⟨#[58]⟩ : ByteArray)) ++ t267) ++ (⟨#[45]⟩ : ByteArray)) ++ t268), (wrap64 (x4_1 + 1)), (by first | rfl | (simp; done) | (simp [*]; done)), (by first | rfl | (simp; done) | (simp [*]; done)), H', ⟨by have := HK1.out; have := HJ2.out; omega⟩, ⟨be_ HB.out⟩⟩
              ·
               rw [if_neg c18] at H
               exact absurd H (by simp)
             ·
              rw [if_neg c16] at H
              exact absurd H (by simp)
            ·
             rw [if_neg c15] at H
             exact absurd H (by simp)
           ·
            rw [if_neg c13] at H
            exact absurd H (by simp)
          ·
           rw [if_neg c12] at H
           exact absurd H (by simp)
         ·
          rw [if_neg c10] at H
          exact absurd H (by simp)
        ·
         rw [if_neg c9] at H
         exact absurd H (by simp)
       ·
        rw [if_neg c7] at H
        exact absurd H (by simp)
      ·
       rw [if_neg c6] at H
       exact absurd H (by simp)
   ·
    rw [if_neg c2] at H
    have c2b0 : decide (x4_1 < (l0.length : Int)) = false := decide_eq_false c2
    clear c2
    obtain rfl := Option.some.inj H
    go_wp2
    go_ret
    exact ⟨by first | rfl | (simp [errW_none, errW_some] <;> rfl) | (simp [*, errW_none, errW_some] <;> rfl), be_ HB.out⟩

def impl_down.f (a0 : Int) (a1 : Int) : Option (Int) := if a1 = 0 then (none) else (if (Int.tmod a0 a1) < 0 then (some (wrap64 ((wrap64 (Int.tdiv a0 a1)) - 1))) else (some (wrap64 (Int.tdiv a0 a1))))
set_option maxHeartbeats 8000000 in
set_option maxRecDepth 100000 in
theorem impl_down.calls (a0 : Int) (a1 : Int) (r : Int) (w : World) (h : impl_down.f a0 a1 = some r) :
  Calls Tryd.prog 56 #[.int .i64 a0, .int .i64 a1] w fun e w' => e = .returned (.int .i64 r) ∧ Drawn0 w w' := by
 have H : (if a1 = 0 then (none) else (if (Int.tmod a0 a1) < 0 then (some (wrap64 ((wrap64 (Int.tdiv a0 a1)) - 1))) else (some (wrap64 (Int.tdiv a0 a1))))) = some r := h
 clear h
 by_cases c3 : a1 = 0
 ·
  rw [if_pos c3] at H
  exact absurd H (by simp)
 ·
  rw [if_neg c3] at H
  have c3b0 : (a1 == 0) = false := beq_eq_false_iff_ne.mpr c3
  have c3b1 : (a1 != 0) = true := bne_iff_ne.mpr c3
  by_cases c4 : (Int.tmod a0 a1) < 0
  ·
   rw [if_pos c4] at H
   have c4b0 : decide ((Int.tmod a0 a1) < 0) = true := decide_eq_true c4
   clear c4
   obtain rfl := Option.some.inj H
   go_enter Tryd.func56, Tryd.ntmps56
   go_wp2
   go_ret
   exact ⟨by first | rfl | (simp; done) | (simp [*]; done), by repeat (first | exact Drawn0.refl _ | apply Drawn0.step)⟩
  ·
   rw [if_neg c4] at H
   have c4b0 : decide ((Int.tmod a0 a1) < 0) = false := decide_eq_false c4
   clear c4
   obtain rfl := Option.some.inj H
   go_enter Tryd.func56, Tryd.ntmps56
   go_wp2
   go_ret
   exact ⟨by first | rfl | (simp; done) | (simp [*]; done), by repeat (first | exact Drawn0.refl _ | apply Drawn0.step)⟩

def impl_up.f (a0 : Int) (a1 : Int) : Option (Int) := (impl_down.f (wrap64 (-a0)) a1).bind fun t269 => (some (wrap64 (-t269)))
set_option maxHeartbeats 8000000 in
set_option maxRecDepth 100000 in
theorem impl_up.calls (a0 : Int) (a1 : Int) (r : Int) (w : World) (h : impl_up.f a0 a1 = some r) :
  Calls Tryd.prog 34 #[.int .i64 a0, .int .i64 a1] w fun e w' => e = .returned (.int .i64 r) ∧ Drawn0 w w' := by
 have H : ((impl_down.f (wrap64 (-a0)) a1).bind fun t269 => (some (wrap64 (-t269)))) = some r := h
 clear h
 replace H := Option.bind_eq_some_iff.mp H
 obtain ⟨t269, A30, H⟩ := H
 replace H : (some (wrap64 (-t269))) = some r := H
 have A3 := Aside0.mk A30
 clear A30
 obtain rfl := Option.some.inj H
 go_enter Tryd.func34, Tryd.ntmps34
 go_wp2_with (first | ((with_reducible refine gate_callee (f := 56) rfl ?_); refine goesL_ (some 8) rfl rfl Tryd.func56 (by kernel_rfl) rfl #[.int .i64 (wrap64 (-a0)), .int .i64 a1] rfl ar_ ?_; (with_reducible refine (impl_down.calls (wrap64 (-a0)) a1 t269 _ A3.out).mono ?_); rintro e w' ⟨rfl, ⟨nd, rfl⟩⟩; refine ⟨_, rfl, ?_⟩))
 go_ret
 exact ⟨by first | rfl | (simp; done) | (simp [*]; done), by repeat (first | exact Drawn0.refl _ | apply Drawn0.step)⟩

def impl_sum.l0 : Nat → Int → List Int → Int → Int → Option (Int)
 | 0, _, _, _, _ => none
 | k + 1, x3, x6, x7, x8 => if x8 < x7 then (if 0 ≤ x8 then (if x8 < (x6.length : Int) then (impl_sum.l0 k (wrap64 (x3 + (rd x6 x8))) x6 x7 (wrap64 (x8 + 1))) else (none)) else (none)) else (some x3)
def impl_sum.f (k : Nat) (l0 : List Int) : Option (Int) := impl_sum.l0 k 0 l0 (l0.length : Int) 0
theorem impl_sum.mono_l : ∀ k, (∀ y0 y1 y2 y3, LeO (impl_sum.l0 k y0 y1 y2 y3) (impl_sum.l0 (k + 1) y0 y1 y2 y3))
 | 0 => fun _ _ _ _ r h => by simp [impl_sum.l0] at h
 | k + 1 => by
  have ih0 := impl_sum.mono_l k
  ·
   intro y0 y1 y2 y3
   unfold impl_sum.l0
   repeat' first
   | (with_reducible exact ih0 _ _ _ _)
   | (with_reducible exact LeO.refl _)
   | (with_reducible exact LeO.none _)
   | (with_reducible refine LeO.ite ?_ ?_)
   | (with_reducible refine LeO.bind ?_ (fun _ => ?_))
   | exact ih0 _ _ _ _
   | exact LeO.none _
   | refine LeO.ite ?_ ?_
   | refine LeO.bind ?_ (fun _ => ?_)
theorem impl_sum.mono : ∀ a0 k, LeO (impl_sum.f k a0) (impl_sum.f (k + 1) a0) := by
 intro a0 k
 have ih0 := impl_sum.mono_l k
 unfold impl_sum.f
 repeat' first
   | (with_reducible exact ih0 _ _ _ _)
   | (with_reducible exact LeO.refl _)
   | (with_reducible exact LeO.none _)
   | (with_reducible refine LeO.ite ?_ ?_)
   | (with_reducible refine LeO.bind ?_ (fun _ => ?_))
   | exact ih0 _ _ _ _
   | exact LeO.none _
   | refine LeO.ite ?_ ?_
   | refine LeO.bind ?_ (fun _ => ?_)
set_option maxHeartbeats 8000000 in
set_option maxRecDepth 100000 in
theorem impl_sum.calls (k : Nat) (A0 : Option Addr) (c0 : Nat) (l0 : List Int) (r : Int) (w : World) (hr0 : Kd.C (Kd.int .i64) w A0 l0.length l0) (hc0 : l0.length ≤ c0) (h : impl_sum.f k l0 = some r) :
  Calls Tryd.prog 35 #[.slice A0 l0.length c0] w fun e w' => e = .returned (.int .i64 r) ∧ Drawn0 w w' := by
 have HR0 := Aside0.mk hr0
 have HC0 := Aside0.mk hc0
 clear hr0 hc0
 have H : (impl_sum.l0 k 0 l0 (l0.length : Int) 0) = some r := h
 clear h
 have H' := Aside0.mk H
 clear H
 go_enter Tryd.func35, Tryd.ntmps35
 go_wp2
 go_loopg [3, 8] k (fun kq v3 v8 w' => ∃ (x3_1 : Int) (x8_1 : Int), v3 = .int .i64 x3_1 ∧ v8 = .int .i64 x8_1 ∧ Aside0 (impl_sum.l0 kq x3_1 l0 (l0.length : Int) x8_1 = some r) ∧ Aside0 (kq ≤ k) ∧ Drawn0 w w')
 case atStart => exact ⟨(0), (0), (by first | rfl | (simp; done) | (simp [*]; done)), (by first | rfl | (simp; done) | (simp [*]; done)), H', ⟨Nat.le_refl _⟩, by repeat (first | exact Drawn0.refl _ | apply Drawn0.step)⟩
 case round =>
  clear H'
  obtain ⟨x3_1, x8_1, rfl, rfl, HA, HK1, ⟨m1, rfl⟩⟩ := hrel
  cases gk with
  | zero => exact absurd HA.out (by simp [impl_sum.l0])
  | succ k1 =>
   have H := HA.out
   clear HA
   simp only [impl_sum.l0] at H
   by_cases c2 : x8_1 < (l0.length : Int)
   ·
    rw [if_pos c2] at H
    have c2b0 : decide (x8_1 < (l0.length : Int)) = true := decide_eq_true c2
    clear c2
    by_cases c3 : 0 ≤ x8_1
    ·
     rw [if_pos c3] at H
     have c3b0 : decide (0 ≤ x8_1) = true := decide_eq_true c3
     clear c3
     by_cases c4 : x8_1 < (l0.length : Int)
     ·
      rw [if_pos c4] at H
      have c4b0 : decide (x8_1 < (l0.length : Int)) = true := decide_eq_true c4
      clear c4
      have H' := Aside0.mk H
      clear H
      have p270 : 0 ≤ (x8_1 : Int) := of_decide_eq_true (by first | (with_reducible assumption) | assumption)
      have q270 : x8_1 < (l0.length : Int) := of_decide_eq_true (by first | (with_reducible assumption) | assumption)
      obtain ⟨ad270, e270, hx270_0⟩ := Kd.at_int HR0.out x8_1 p270 q270
      cases e270
      replace p270 := eq_true p270
      replace q270 := eq_true q270
      go_wp2
      go_roundg k1
      case measure => have := HK1.out; omega
      case rel => exact ⟨(wrap64 (x3_1 + (rd l0 x8_1))), (wrap64 (x8_1 + 1)), (by first | rfl | (simp; done) | (simp [*]; done)), (by first | rfl | (simp; done) | (simp [*]; done)), H', ⟨by have := HK1.out; omega⟩, by repeat (first | exact Drawn0.refl _ | apply Drawn0.step)⟩
     ·
      rw [if_neg c4] at H
      exact absurd H (by simp)
    ·
     rw [if_neg c3] at H
     exact absurd H (by simp)
   ·
    rw [if_neg c2] at H
    have c2b0 : decide (x8_1 < (l0.length : Int)) = false := decide_eq_false c2
    clear c2
    obtain rfl := Option.some.inj H
    go_wp2
    go_ret
    exact ⟨by first | rfl | (simp; done) | (simp [*]; done), by repeat (first | exact Drawn0.refl _ | apply Drawn0.step)⟩

def impl_LowerBound.l0 : Nat → Int → List Int → Int → Int → Option (Int)
 | 0, _, _, _, _ => none
 | k + 1, x5, x16, x17, x18 => if x18 < x17 then (if 0 ≤ x18 then (if x18 < (x16.length : Int) then (impl_LowerBound.l0 k (mx x5 (rd x16 x18)) x16 x17 (wrap64 (x18 + 1))) else (none)) else (none)) else (some x5)
def impl_LowerBound.f (k : Nat) (l0 : List Int) (a1 : Int) : Option (Int) := (impl_arePlanned.f k l0 a1).bind fun t271 => (if t271 = true then ((impl_sum.f k l0).bind fun t272 => ((impl_up.f t272 a1).bind fun t273 => (impl_LowerBound.l0 k t273 l0 (l0.length : Int) 0))) else (some (-1)))
theorem impl_LowerBound.mono_l : ∀ k, (∀ y0 y1 y2 y3, LeO (impl_LowerBound.l0 k y0 y1 y2 y3) (impl_LowerBound.l0 (k + 1) y0 y1 y2 y3))
 | 0 => fun _ _ _ _ r h => by simp [impl_LowerBound.l0] at h
 | k + 1 => by
  have ih0 := impl_LowerBound.mono_l k
  ·
   intro y0 y1 y2 y3
   unfold impl_LowerBound.l0
   repeat' first
   | (with_reducible exact ih0 _ _ _ _)
   | (with_reducible exact impl_arePlanned.mono _ _ _)
   | (with_reducible exact impl_sum.mono _ _)
   | (with_reducible exact LeO.refl _)
   | (with_reducible exact LeO.none _)
   | (with_reducible refine LeO.ite ?_ ?_)
   | (with_reducible refine LeO.bind ?_ (fun _ => ?_))
   | exact ih0 _ _ _ _
   | exact impl_arePlanned.mono _ _ _
   | exact impl_sum.mono _ _
   | exact LeO.none _
   | refine LeO.ite ?_ ?_
   | refine LeO.bind ?_ (fun _ => ?_)
theorem impl_LowerBound.mono : ∀ a0 a1 k, LeO (impl_LowerBound.f k a0 a1) (impl_LowerBound.f (k + 1) a0 a1) := by
 intro a0 a1 k
 have ih0 := impl_LowerBound.mono_l k
 unfold impl_LowerBound.f
 repeat' first
   | (with_reducible exact ih0 _ _ _ _)
   | (with_reducible exact impl_arePlanned.mono _ _ _)
   | (with_reducible exact impl_sum.mono _ _)
   | (with_reducible exact LeO.refl _)
   | (with_reducible exact LeO.none _)
   | (with_reducible refine LeO.ite ?_ ?_)
   | (with_reducible refine LeO.bind ?_ (fun _ => ?_))
   | exact ih0 _ _ _ _
   | exact impl_arePlanned.mono _ _ _
   | exact impl_sum.mono _ _
   | exact LeO.none _
   | refine LeO.ite ?_ ?_
   | refine LeO.bind ?_ (fun _ => ?_)
set_option maxHeartbeats 8000000 in
set_option maxRecDepth 100000 in
theorem impl_LowerBound.calls (k : Nat) (A0 : Option Addr) (c0 : Nat) (l0 : List Int) (a1 : Int) (r : Int) (w : World) (hr0 : Kd.C (Kd.int .i64) w A0 l0.length l0) (hc0 : l0.length ≤ c0) (h : impl_LowerBound.f k l0 a1 = some r) :
  Calls Tryd.prog 11 #[.slice A0 l0.length c0, .int .i64 a1] w fun e w' => e = .returned (.int .i64 r) ∧ Below w.heap.size w w' := by
 have HR0 := Aside0.mk hr0
 have HC0 := Aside0.mk hc0
 clear hr0 hc0
 have HB := Aside0.mk (Below.refl w.heap.size w)
 have H : ((impl_arePlanned.f k l0 a1).bind fun t271 => (if t271 = true then ((impl_sum.f k l0).bind fun t272 => ((impl_up.f t272 a1).bind fun t273 => (impl_LowerBound.l0 k t273 l0 (l0.length : Int) 0))) else (some (-1)))) = some r := h
 clear h
 replace H := Option.bind_eq_some_iff.mp H
 obtain ⟨t271, A30, H⟩ := H
 replace H : (if t271 = true then ((impl_sum.f k l0).bind fun t272 => ((impl_up.f t272 a1).bind fun t273 => (impl_LowerBound.l0 k t273 l0 (l0.length : Int) 0))) else (some (-1))) = some r := H
 have A3 := Aside0.mk A30
 clear A30
 by_cases c4 : t271 = true
 ·
  subst c4
  have H1 : ((impl_sum.f k l0).bind fun t272 => ((impl_up.f t272 a1).bind fun t273 => (impl_LowerBound.l0 k t273 l0 (l0.length : Int) 0))) = some r := by rw [if_pos rfl] at H; exact H
  clear H
  have H := H1
  clear H1
  replace H := Option.bind_eq_some_iff.mp H
  obtain ⟨t272, A50, H⟩ := H
  replace H : ((impl_up.f t272 a1).bind fun t273 => (impl_LowerBound.l0 k t273 l0 (l0.length : Int) 0)) = some r := H
  have A5 := Aside0.mk A50
  clear A50
  replace H := Option.bind_eq_some_iff.mp H
  obtain ⟨t273, A60, H⟩ := H
  replace H : (impl_LowerBound.l0 k t273 l0 (l0.length : Int) 0) = some r := H
  have A6 := Aside0.mk A60
  clear A60
  have H' := Aside0.mk H
  clear H
  go_enter Tryd.func11, Tryd.ntmps11
  go_wp2_with (first | ((with_reducible refine gate_callee (f := 26) rfl ?_); refine goesL_ (some 10) rfl rfl Tryd.func26 (by kernel_rfl) rfl #[.slice A0 l0.length c0, .int .i64 a1] rfl ar_ ?_; (with_reducible refine (impl_arePlanned.calls k _ _ l0 a1 true _ ?side1 ?side2 A3.out).mono ?_); (case side1 => repeat (first | exact HR0.out | (with_reducible refine Kd.C_alloc ?_ _) | (with_reducible refine Kd.C_drewN ?_ _) | (with_reducible refine Kd.C_drew ?_))); (case side2 => exact HC0.out); rintro e w' ⟨rfl, ⟨nd, rfl⟩⟩; refine ⟨_, rfl, ?_⟩) | ((with_reducible refine gate_callee (f := 35) rfl ?_); refine goesL_ (some 13) rfl rfl Tryd.func35 (by kernel_rfl) rfl #[.slice A0 l0.length c0] rfl ar_ ?_; (with_reducible refine (impl_sum.calls k _ _ l0 t272 _ ?side1 ?side2 A5.out).mono ?_); (case side1 => repeat (first | exact HR0.out | (with_reducible refine Kd.C_alloc ?_ _) | (with_reducible refine Kd.C_drewN ?_ _) | (with_reducible refine Kd.C_drew ?_))); (case side2 => exact HC0.out); rintro e w' ⟨rfl, ⟨nd, rfl⟩⟩; refine ⟨_, rfl, ?_⟩) | ((with_reducible refine gate_callee (f := 34) rfl ?_); refine goesL_ (some 15) rfl rfl Tryd.func34 (by kernel_rfl) rfl #[.int .i64 t272, .int .i64 a1] rfl ar_ ?_; (with_reducible refine (impl_up.calls t272 a1 t273 _ A6.out).mono ?_); rintro e w' ⟨rfl, ⟨nd, rfl⟩⟩; refine ⟨_, rfl, ?_⟩))
  (try simp only [Act.put, List.setIfInBounds_toArray, List.set_cons_zero, List.set_cons_succ])
  go_loopg [5, 18] k (fun kq v5 v18 w' => ∃ (x5_1 : Int) (x18_1 : Int), v5 = .int .i64 x5_1 ∧ v18 = .int .i64 x18_1 ∧ Aside0 (impl_LowerBound.l0 kq x5_1 l0 (l0.length : Int) x18_1 = some r) ∧ Aside0 (kq ≤ k) ∧ Aside0 (Below w.heap.size w w'))
  case atStart => exact ⟨(t273), (0), (by first | rfl | (simp; done) | (simp [*]; done)), (by first | rfl | (simp; done) | (simp [*]; done)), H', ⟨Nat.le_refl _⟩, ⟨be_ HB.out⟩⟩
  case round =>
   clear H'
   (try clear c1); (try clear c2); (try clear p2); (try clear c3); (try clear c4)
   obtain ⟨x5_1, x18_1, rfl, rfl, HA, HK1, HB⟩ := hrel
   cases gk with
   | zero => exact absurd HA.out (by simp [impl_LowerBound.l0])
   | succ k1 =>
    have H := HA.out
    clear HA
    simp only [impl_LowerBound.l0] at H
    by_cases c7 : x18_1 < (l0.length : Int)
    ·
     rw [if_pos c7] at H
     have c7b0 : decide (x18_1 < (l0.length : Int)) = true := decide_eq_true c7
     clear c7
     by_cases c8 : 0 ≤ x18_1
     ·
      rw [if_pos c8] at H
      have c8b0 : decide (0 ≤ x18_1) = true := decide_eq_true c8
      clear c8
      by_cases c9 : x18_1 < (l0.length : Int)
      ·
       rw [if_pos c9] at H
       have c9b0 : decide (x18_1 < (l0.length : Int)) = true := decide_eq_true c9
       clear c9
       obtain ⟨ji10, hji10⟩ : ∃ j_ : Int, (mx x5_1 (rd l0 x18_1)) = j_ := ⟨_, rfl⟩
       replace H : (impl_LowerBound.l0 k1 ji10 l0 (l0.length : Int) (wrap64 (x18_1 + 1))) = some r := by first | (rw [hji10] at H; exact H) | (simp only [hji10] at H ⊢; exact H)
       have hji10_ : (if x5_1 < (rd l0 x18_1) then (rd l0 x18_1) else x5_1) = ji10 := hji10
       have H' := Aside0.mk H
       clear H
       have p274 : 0 ≤ (x18_1 : Int) := of_decide_eq_true (by first | (with_reducible assumption) | assumption)
       have q274 : x18_1 < (l0.length : Int) := of_decide_eq_true (by first | (with_reducible assumption) | assumption)
       obtain ⟨ad274, e274, hx274_0⟩ := Kd.at_int HR0.out x18_1 p274 q274
       cases e274
       replace hx274_0 := cw_ HB.out hx274_0
       replace p274 := eq_true p274
       replace q274 := eq_true q274
       go_wp2
       go_roundg k1
       case measure => have := HK1.out; omega
       case rel => exact ⟨(ji10), (wrap64 (x18_1 + 1)), (by first | rfl | (simp; done) | (simp only [← hji10] <;> (first | rfl | simp)) | (simp [*]; done)), (by first | rfl | (simp; done) | (simp [*]; done)), H', ⟨by have := HK1.out; omega⟩, ⟨be_ HB.out⟩⟩
      ·
       rw [if_neg c9] at H
       exact absurd H (by simp)
     ·
      rw [if_neg c8] at H
      exact absurd H (by simp)
    ·
     rw [if_neg c7] at H
     have c7b0 : decide (x18_1 < (l0.length : Int)) = false := decide_eq_false c7
     clear c7
     obtain rfl := Option.some.inj H
     go_wp2
     go_ret
     exact ⟨by first | rfl | (simp [errW_none, errW_some] <;> rfl) | (simp [*, errW_none, errW_some] <;> rfl), be_ HB.out⟩
 ·
  replace c4 := Bool.eq_false_iff.mpr c4
  subst c4
  have H1 : (some (-1)) = some r := by rw [if_neg (show ¬ (false = true) by decide)] at H; exact H
  clear H
  have H := H1
  clear H1
  obtain rfl := Option.some.inj H
  go_enter Tryd.func11, Tryd.ntmps11
  go_wp2_with (first | ((with_reducible refine gate_callee (f := 26) rfl ?_); refine goesL_ (some 10) rfl rfl Tryd.func26 (by kernel_rfl) rfl #[.slice A0 l0.length c0, .int .i64 a1] rfl ar_ ?_; (with_reducible refine (impl_arePlanned.calls k _ _ l0 a1 false _ ?side1 ?side2 A3.out).mono ?_); (case side1 => repeat (first | exact HR0.out | (with_reducible refine Kd.C_alloc ?_ _) | (with_reducible refine Kd.C_drewN ?_ _) | (with_reducible refine Kd.C_drew ?_))); (case side2 => exact HC0.out); rintro e w' ⟨rfl, ⟨nd, rfl⟩⟩; refine ⟨_, rfl, ?_⟩))
  go_ret
  exact ⟨by first | rfl | (simp [errW_none, errW_some] <;> rfl) | (simp [*, errW_none, errW_some] <;> rfl), be_ HB.out⟩

def impl_SpanOf_1.f (a0_0 : Int) (a0_1 : Int) (a0_2 : Int) (a0_3 : Int) (a1_0 : Int) (a1_1 : Int) (a1_2 : Int) (a1_3 : Int) : Option (Int) := (cmp_Compare_int.f a0_3 a1_3).bind fun t277 => (some t277)
set_option maxHeartbeats 8000000 in
set_option maxRecDepth 100000 in
theorem impl_SpanOf_1.calls (a0_0 : Int) (a0_1 : Int) (a0_2 : Int) (a0_3 : Int) (a1_0 : Int) (a1_1 : Int) (a1_2 : Int) (a1_3 : Int) (r : Int) (w : World) (h : impl_SpanOf_1.f a0_0 a0_1 a0_2 a0_3 a1_0 a1_1 a1_2 a1_3 = some r) :
  Calls Tryd.prog 37 #[.agg #[.int .i64 a0_0, .int .i64 a0_1, .int .i64 a0_2, .int .i64 a0_3], .agg #[.int .i64 a1_0, .int .i64 a1_1, .int .i64 a1_2, .int .i64 a1_3]] w fun e w' => e = .returned (.int .i64 r) ∧ Below w.heap.size w w' := by
 have hu49 := Tryd.underlying49
 have HB := Aside0.mk (Below.refl w.heap.size w)
 have H : ((cmp_Compare_int.f a0_3 a1_3).bind fun t277 => (some t277)) = some r := h
 clear h
 replace H := Option.bind_eq_some_iff.mp H
 obtain ⟨t277, A30, H⟩ := H
 replace H : (some t277) = some r := H
 have A3 := Aside0.mk A30
 clear A30
 obtain rfl := Option.some.inj H
 go_enter Tryd.func37, Tryd.ntmps37
 go_wp2_with (first | ((with_reducible refine gate_dst (N := 2) rfl ?_); refine bx_ 2 #[.int .i64 a0_0, .int .i64 a0_1, .int .i64 a0_2, .int .i64 a0_3] 49 ?_; intro gb275 hg w4 hbox hb; have n0_ := Aside0.mk (below_step (be_ HB.out) hb); have n1_ := Aside0.mk (hbox); have n2_ := Aside0.mk ((bg_ hg HB.out)); have n3_ := Aside0.mk ((bg_ hg HB.out)); clear HB; have HB := n0_; have BK275 := n1_; have GW275 := n2_; have GE275 := n3_; clear n0_ n1_ n2_ n3_; clear hb hbox hg) | ((with_reducible refine gate_dst (N := 3) rfl ?_); refine bx_ 3 #[.int .i64 a1_0, .int .i64 a1_1, .int .i64 a1_2, .int .i64 a1_3] 49 ?_; intro gb276 hg w5 hbox hb; have n0_ := Aside0.mk (blk_below (bu_ BK275.out) hb); have n1_ := Aside0.mk (below_step (be_ HB.out) hb); have n2_ := Aside0.mk (hbox); have n3_ := Aside0.mk ((bg_ hg HB.out)); have n4_ := Aside0.mk ((bg_ hg HB.out)); have n5_ := Aside0.mk ((nl_ hg (bu_ BK275.out))); have n6_ := Aside0.mk ((ng_ hg (bu_ BK275.out))); clear BK275; clear HB; have BK275 := n0_; have HB := n1_; have BK276 := n2_; have GW276 := n3_; have GE276 := n4_; have NB275_276 := n5_; have NB276_275 := n6_; clear n0_ n1_ n2_ n3_ n4_ n5_ n6_; clear hb hbox hg; have hnb6 := NB275_276.out; have hnc6 := NB276_275.out; obtain ⟨hcz7_0, hcz7_1, hcz7_2, hcz7_3, hfz7_0, hfz7_1, hfz7_2, hfz7_3⟩ := box4_ BK275.out; obtain ⟨hcz8_0, hcz8_1, hcz8_2, hcz8_3, hfz8_0, hfz8_1, hfz8_2, hfz8_3⟩ := box4_ BK276.out) | ((with_reducible refine gate_callee (f := 38) rfl ?_); refine goesL_ (some 9) rfl rfl Tryd.func38 (by kernel_rfl) rfl #[.int .i64 a0_3, .int .i64 a1_3] rfl ar_ ?_; (with_reducible refine (cmp_Compare_int.calls a0_3 a1_3 t277 _ A3.out).mono ?_); rintro e w' ⟨rfl, ⟨nd, rfl⟩⟩; refine ⟨_, rfl, ?_⟩))
 go_ret
 exact ⟨by first | rfl | (simp [errW_none, errW_some] <;> rfl) | (simp [*, errW_none, errW_some] <;> rfl), be_ HB.out⟩

end Go.Proofs.YtdniejjhkkepcaaDoor.QFnPlanned
