/- The Go functions that the statement FnExactPlanText reaches, as Lean functions, each with a proof that the call does what its function says; laid by a program of this session. No condition. -/
import Derived.Test.YtgolleldpmkkoaaGreatDoorQFnExactPlanTextx0
import Derived.Test.YtgolleldpmkkoaaGreatDoorQFnExactPlanTextx2
import Derived.Test.YtgolleldpmkkoaaGreatDoorQFnExactPlanTextx4
namespace Go.Proofs.YtgolleldpmkkoaaGreatDoor.QFnExactPlanText
open Go.RowKit Go.Proofs.YtgolleldpmkkoaaGreatDoorW.PrintWords Go.Proofs.YtgolleldpmkkoaaGreatDoorW.PrintLast Go.Proofs.YtgolleldpmkkoaaGreatDoorW.PrintMore
attribute [local go_sem] max2_int min2_int max_two min_two max_three min_three max_four min_four   -- for this text's walks alone
set_option linter.unusedVariables false
set_option linter.unusedSimpArgs false

mutual
def spec_PlanText.l0 : Nat → ByteArray → Int → Int → Int → Int → List (S55) → Option (ByteArray × Bool)
 | 0, _, _, _, _, _, _ => none
 | k + 1, x4, x5, x325000, x325001, x325002, x325003 => if x5 < (x325003.length : Int) then (if 0 ≤ x5 then (if x4.size + 3 ≤ 9223372036854775807 then ((some (([] : List Int) : List Int)).bind fun y331 => (if ((rd_T55 x325003 x5).f0) = 0 then (if (x4 ++ (⟨#[32, 62, 32]⟩ : ByteArray)).size + 5 ≤ 9223372036854775807 then ((spec_l10First.f ((rd_T55 x325003 x5).f7)).bind fun t334 => (spec_PlanText.j1 k ((x4 ++ (⟨#[32, 62, 32]⟩ : ByteArray)) ++ (⟨#[100, 101, 110, 115, 101]⟩ : ByteArray)) x5 (([(rd_T55 x325003 x5).f1, wrap64 (Int.tdiv ((rd_T55 x325003 x5).f4) 1000), (rd_T55 x325003 x5).f5, (rd_T55 x325003 x5).f6, t334] : List Int)) x325000 x325001 x325002 x325003)) else (none)) else (if ((rd_T55 x325003 x5).f0) = 1 then (if (x4 ++ (⟨#[32, 62, 32]⟩ : ByteArray)).size + 4 ≤ 9223372036854775807 then ((spec_l10First.f ((rd_T55 x325003 x5).f7)).bind fun t338 => (spec_PlanText.j1 k ((x4 ++ (⟨#[32, 62, 32]⟩ : ByteArray)) ++ (⟨#[99, 111, 110, 118]⟩ : ByteArray)) x5 (([(rd_T55 x325003 x5).f1, (rd_T55 x325003 x5).f2, (rd_T55 x325003 x5).f3, wrap64 (Int.tdiv ((rd_T55 x325003 x5).f4) 1000), (rd_T55 x325003 x5).f5, (rd_T55 x325003 x5).f6, t338] : List Int)) x325000 x325001 x325002 x325003)) else (none)) else (if ((rd_T55 x325003 x5).f0) = 2 then (if (x4 ++ (⟨#[32, 62, 32]⟩ : ByteArray)).size + 3 ≤ 9223372036854775807 then (spec_PlanText.j1 k ((x4 ++ (⟨#[32, 62, 32]⟩ : ByteArray)) ++ (⟨#[109, 97, 120]⟩ : ByteArray)) x5 (([(rd_T55 x325003 x5).f2, (rd_T55 x325003 x5).f3] : List Int)) x325000 x325001 x325002 x325003) else (none)) else (if ((rd_T55 x325003 x5).f0) = 3 then (if (x4 ++ (⟨#[32, 62, 32]⟩ : ByteArray)).size + 3 ≤ 9223372036854775807 then (spec_PlanText.j1 k ((x4 ++ (⟨#[32, 62, 32]⟩ : ByteArray)) ++ (⟨#[97, 118, 103]⟩ : ByteArray)) x5 (([(rd_T55 x325003 x5).f2, (rd_T55 x325003 x5).f3] : List Int)) x325000 x325001 x325002 x325003) else (none)) else (if ((rd_T55 x325003 x5).f0) = 4 then (if (x4 ++ (⟨#[32, 62, 32]⟩ : ByteArray)).size + 4 ≤ 9223372036854775807 then (spec_PlanText.j1 k ((x4 ++ (⟨#[32, 62, 32]⟩ : ByteArray)) ++ (⟨#[114, 101, 108, 117]⟩ : ByteArray)) x5 (([(rd_T55 x325003 x5).f6] : List Int)) x325000 x325001 x325002 x325003) else (none)) else (if ((rd_T55 x325003 x5).f0) = 5 then (if (x4 ++ (⟨#[32, 62, 32]⟩ : ByteArray)).size + 4 ≤ 9223372036854775807 then (spec_PlanText.j1 k ((x4 ++ (⟨#[32, 62, 32]⟩ : ByteArray)) ++ (⟨#[102, 108, 97, 116]⟩ : ByteArray)) x5 y331 x325000 x325001 x325002 x325003) else (none)) else (spec_PlanText.j1 k (x4 ++ (⟨#[32, 62, 32]⟩ : ByteArray)) x5 y331 x325000 x325001 x325002 x325003)))))))) else (none)) else (none)) else ((spec_ParsePlan.f k x4).bind fun bt353 => (if bt353.2.2.2.2 = true then ((spec_SameModel.f k bt353.1 bt353.2.1 bt353.2.2.1 bt353.2.2.2.1 x325000 x325001 x325002 x325003).bind fun t361 => (if t361 = true then (some (x4, true)) else (some ((⟨#[]⟩ : ByteArray), false)))) else (some ((⟨#[]⟩ : ByteArray), false))))
def spec_PlanText.j1 : Nat → ByteArray → Int → List Int → Int → Int → Int → List (S55) → Option (ByteArray × Bool)
 | 0, _, _, _, _, _, _, _ => none
 | k + 1, x4, x5, x7, x325000, x325001, x325002, x325003 => spec_PlanText.l1 k x4 x5 x7 0 x325000 x325001 x325002 x325003
def spec_PlanText.l1 : Nat → ByteArray → Int → List Int → Int → Int → Int → Int → List (S55) → Option (ByteArray × Bool)
 | 0, _, _, _, _, _, _, _, _ => none
 | k + 1, x4, x5, x7, x8, x325000, x325001, x325002, x325003 => if x8 < (x7.length : Int) then (if x4.size + 1 ≤ 9223372036854775807 then (if 0 ≤ x8 then ((spec_l01Num.f k (rd x7 x8)).bind fun t352 => (if (x4 ++ (⟨#[32]⟩ : ByteArray)).size + t352.size ≤ 9223372036854775807 then (spec_PlanText.l1 k ((x4 ++ (⟨#[32]⟩ : ByteArray)) ++ t352) x5 x7 (wrap64 (x8 + 1)) x325000 x325001 x325002 x325003) else (none))) else (none)) else (none)) else (spec_PlanText.l0 k x4 (wrap64 (x5 + 1)) x325000 x325001 x325002 x325003)
end
def spec_PlanText.f (k : Nat) (a0_0 : Int) (a0_1 : Int) (a0_2 : Int) (l0_3 : List (S55)) : Option (ByteArray × Bool) := (spec_ModelOk.f k a0_0 a0_1 a0_2 l0_3).bind fun t325 => (if t325 = true then ((spec_l01Num.f k a0_0).bind fun t326 => (if t326.size + 1 ≤ 9223372036854775807 then ((spec_l01Num.f k a0_1).bind fun t327 => (if (t326 ++ (⟨#[120]⟩ : ByteArray)).size + t327.size ≤ 9223372036854775807 then (if ((t326 ++ (⟨#[120]⟩ : ByteArray)) ++ t327).size + 1 ≤ 9223372036854775807 then ((spec_l01Num.f k a0_2).bind fun t328 => (if (((t326 ++ (⟨#[120]⟩ : ByteArray)) ++ t327) ++ (⟨#[120]⟩ : ByteArray)).size + t328.size ≤ 9223372036854775807 then (spec_PlanText.l0 k ((((t326 ++ (⟨#[120]⟩ : ByteArray)) ++ t327) ++ (⟨#[120]⟩ : ByteArray)) ++ t328) 0 a0_0 a0_1 a0_2 l0_3) else (none))) else (none)) else (none))) else (none))) else (some ((⟨#[]⟩ : ByteArray), false)))
def spec_PlanText.T3 : Bool × List (List Nat × List Nat) := (true, [([], []), ([0], [0]), ([1], [1]), ([2], [2]), ([3], [3]), ([], []), ([5], [5]), ([6], [6]), ([7, 3], [7]), ([4, 8], [4, 8]), ([9], [9]), ([], []), ([11], [11]), ([12], [12]), ([13, 8], [13]), ([10, 14], [10, 14]), ([15, 14, 0, 1, 2, 3, 4, 5, 6, 7, 8, 9, 10, 11, 12, 13, 14, 15], [15])])
def spec_PlanText.B3 : List Nat := [0, 1, 3, 7, 15, 0, 32, 96, 239, 511, 1023, 0, 2048, 6144, 14831, 32767, 65535]
theorem spec_PlanText.tab3 : rtab .any (opsOf Tryz.f12 3) = spec_PlanText.T3 := by kernel_rfl
theorem spec_PlanText.bits3 : waitsOk spec_PlanText.T3.2 spec_PlanText.B3 = true := by kernel_rfl
def spec_PlanText.T13 : Bool × List (List Nat × List Nat) := (true, [([], []), ([0], [0]), ([], []), ([2], [2]), ([3], [3]), ([], []), ([5], [5]), ([], []), ([7], [7]), ([], []), ([9], [9]), ([10], [10]), ([1, 4, 6, 8, 11], [1, 4, 6, 8, 11]), ([12, 11, 0, 1, 2, 3, 4, 5, 6, 7, 8, 9, 10, 11, 12], [12])])
def spec_PlanText.B13 : List Nat := [0, 1, 0, 4, 12, 0, 32, 0, 128, 0, 512, 1536, 4095, 8191]
theorem spec_PlanText.tab13 : rtab .any (opsOf Tryz.f12 13) = spec_PlanText.T13 := by kernel_rfl
theorem spec_PlanText.bits13 : waitsOk spec_PlanText.T13.2 spec_PlanText.B13 = true := by kernel_rfl
def spec_PlanText.T16 : Bool × List (List Nat × List Nat) := (true, [([], []), ([0], [0]), ([], []), ([2], [2]), ([], []), ([4], [4]), ([], []), ([6], [6]), ([7], [7]), ([], []), ([9], [9]), ([], []), ([11], [11]), ([], []), ([13], [13]), ([14], [14]), ([1, 3, 5, 8, 10, 12, 15], [1, 3, 5, 8, 10, 12, 15]), ([16, 15, 0, 1, 2, 3, 4, 5, 6, 7, 8, 9, 10, 11, 12, 13, 14, 15, 16], [16])])
def spec_PlanText.B16 : List Nat := [0, 1, 0, 4, 0, 16, 0, 64, 192, 0, 512, 0, 2048, 0, 8192, 24576, 65535, 131071]
theorem spec_PlanText.tab16 : rtab .any (opsOf Tryz.f12 16) = spec_PlanText.T16 := by kernel_rfl
theorem spec_PlanText.bits16 : waitsOk spec_PlanText.T16.2 spec_PlanText.B16 = true := by kernel_rfl
set_option maxHeartbeats 8000000 in
set_option maxRecDepth 100000 in
theorem spec_PlanText.calls {k : Nat} {a0_0 : Int} {a0_1 : Int} {a0_2 : Int} {A0_3 : Option Addr} {c0_3 : Nat} {l0_3 : List (S55)} {r1 : ByteArray} {r2 : Bool} {w : World} (hr0_3 : Kd.C k55 w A0_3 l0_3.length l0_3) (hc0_3 : l0_3.length ≤ c0_3) (h : spec_PlanText.f k a0_0 a0_1 a0_2 l0_3 = some (r1, r2)) :
  Calls Tryz.prog 12 #[.agg #[.int .i64 a0_0, .int .i64 a0_1, .int .i64 a0_2, .slice A0_3 l0_3.length c0_3]] w fun e w' => e = .returned (.tuple #[.string r1, .bool r2]) ∧ Below w.heap.size w w' := by
 have hu26 := Tryz.underlying26; have hu55 := Tryz.underlying55; have al := Aside0.mk hr0_3; have aK := Aside0.mk hc0_3; clear hr0_3 hc0_3; have HB := Aside0.mk (Below.refl w.heap.size w); have H : ((spec_ModelOk.f k a0_0 a0_1 a0_2 l0_3).bind fun bI => (if bI = true then ((spec_l01Num.f k a0_0).bind fun I => (if I.size + 1 ≤ 9223372036854775807 then ((spec_l01Num.f k a0_1).bind fun J => (if (I ++ (⟨#[120]⟩ : ByteArray)).size + J.size ≤ 9223372036854775807 then (if ((I ++ (⟨#[120]⟩ : ByteArray)) ++ J).size + 1 ≤ 9223372036854775807 then ((spec_l01Num.f k a0_2).bind fun Z => (if (((I ++ (⟨#[120]⟩ : ByteArray)) ++ J) ++ (⟨#[120]⟩ : ByteArray)).size + Z.size ≤ 9223372036854775807 then (spec_PlanText.l0 k ((((I ++ (⟨#[120]⟩ : ByteArray)) ++ J) ++ (⟨#[120]⟩ : ByteArray)) ++ Z) 0 a0_0 a0_1 a0_2 l0_3) else (none))) else (none)) else (none))) else (none))) else (some ((⟨#[]⟩ : ByteArray), false)))) = some (r1, r2) := h; clear h; obtain ⟨bI, A2, H⟩ := bo_ H; (try dsimp only at H)
 replace H := icb_ H; obtain ⟨rfl, H⟩ | ⟨rfl, H⟩ := H
 ·
  obtain ⟨I, A4, H⟩ := bo_ H; (try dsimp only at H)
  obtain ⟨c5, H⟩ := ip_ H; have ck := eq_true c5; have cl : decide (I.size + 1 ≤ 9223372036854775807) = true := dt_ c5; (try have cm : (9223372036854775807 < I.size + 1) = False := eq_false (Nat.not_lt.2 c5)); obtain ⟨J, A6, H⟩ := bo_ H; (try dsimp only at H)
  obtain ⟨c7, H⟩ := ip_ H; have cn := eq_true c7; have co : decide ((I ++ (⟨#[120]⟩ : ByteArray)).size + J.size ≤ 9223372036854775807) = true := dt_ c7; (try have bJ : (9223372036854775807 < (I ++ (⟨#[120]⟩ : ByteArray)).size + J.size) = False := eq_false (Nat.not_lt.2 c7))
  try have dk : (9223372036854775807 < I.size + 1 + J.size) = False := by have e_ : I.size + 1 + J.size = (I ++ (⟨#[120]⟩ : ByteArray)).size + J.size := (by simp only [ByteArray.size_append] <;> rfl); rw [e_]; exact bJ
  obtain ⟨c8, H⟩ := ip_ H; have cp := eq_true c8; have cq : decide (((I ++ (⟨#[120]⟩ : ByteArray)) ++ J).size + 1 ≤ 9223372036854775807) = true := dt_ c8; (try have bK : (9223372036854775807 < ((I ++ (⟨#[120]⟩ : ByteArray)) ++ J).size + 1) = False := eq_false (Nat.not_lt.2 c8))
  try have dl : (9223372036854775807 < I.size + 1 + J.size + 1) = False := by have e_ : I.size + 1 + J.size + 1 = ((I ++ (⟨#[120]⟩ : ByteArray)) ++ J).size + 1 := (by simp only [ByteArray.size_append] <;> rfl); rw [e_]; exact bK
  obtain ⟨Z, A9, H⟩ := bo_ H; (try dsimp only at H)
  obtain ⟨c10, H⟩ := ip_ H; have bS := eq_true c10; have bT : decide ((((I ++ (⟨#[120]⟩ : ByteArray)) ++ J) ++ (⟨#[120]⟩ : ByteArray)).size + Z.size ≤ 9223372036854775807) = true := dt_ c10; (try have b4 : (9223372036854775807 < (((I ++ (⟨#[120]⟩ : ByteArray)) ++ J) ++ (⟨#[120]⟩ : ByteArray)).size + Z.size) = False := eq_false (Nat.not_lt.2 c10))
  try have cI : (9223372036854775807 < I.size + 1 + J.size + 1 + Z.size) = False := by have e_ : I.size + 1 + J.size + 1 + Z.size = (((I ++ (⟨#[120]⟩ : ByteArray)) ++ J) ++ (⟨#[120]⟩ : ByteArray)).size + Z.size := (by simp only [ByteArray.size_append] <;> rfl); rw [e_]; exact b4
  have H' := Aside0.mk H; clear H
  go_enter Tryz.func12, Tryz.ntmps12
  try go_wp2_with (first | ((with_reducible refine gate_dst (N := 1) rfl ?_); refine bz_ 1 ?_; intro am hg dD hbox hb; obtain ⟨B, bU, bV, HB⟩ := nb_ hg hbox HB hb; clear hb hbox hg; have bW := box4_ B.out) | ((with_reducible refine gc_ 27 ?_); refine gw_ (some 12) Tryz.func27 ?_; (with_reducible refine (spec_ModelOk.calls ?_ ?_ A2.out).mono ?_); exact cu_ al.out HB.out; exact aK.out; rintro e cJ ⟨rfl, hb⟩; refine ⟨_, rfl, ?_⟩; replace B := bb_ B hb; replace HB := hb_ HB hb; (try clear hb)))
  replace B := Aside0.mk (blk_drew B.out); replace HB := Aside0.mk (below_drew1 HB.out); refine sta1_ 17 (cb_ B) (fun hHeld => ?_); refine with_tabW spec_PlanText.tab3 spec_PlanText.bits3 (fun HT_ HW_ => ?_); generalize cJ.drew = dE at B HB hHeld ⊢; refine pv_ 0 17 1 ?_; refine pv_ 1 17 3 ?_; refine pv_ 5 17 35 ?_; refine pv_ 6 17 99 ?_; refine pv_ 11 17 2147 ?_; refine pv_ 12 17 6243 ?_; refine tv_ 2 17 6247 ?_; refine tv_ 7 17 6375 ?_; refine tv_ 13 17 14567 ?_; refine one_ (i := 3) (N := some 17) (bl_ 17 14575) rfl rfl (one_of HT_.out (by kernel_rfl)) (by decide) (fun K hK => ?_); refine gv_ Tryz.func38 ?_
  (with_reducible refine (spec_l01Num.calls A4.out).mono ?_)
  rintro e dF ⟨rfl, hb⟩; refine ⟨_, rfl, ?_⟩; replace B := bb_ B hb; replace HB := hb_ HB hb; (try clear hb); refine hK.out _ _ (cb_ B) (fun hHeld => ?_); clear hK K; refine nm_ 17 (h := ?_); refine pv_ 4 17 14591 ?_; refine one_ (i := 8) (N := some 22) (bl_ 17 14847) rfl rfl (one_of HT_.out (by kernel_rfl)) (by decide) (fun K hK => ?_); refine gv_ Tryz.func38 ?_
  (with_reducible refine (spec_l01Num.calls A6.out).mono ?_)
  rintro e dG ⟨rfl, hb⟩; refine ⟨_, rfl, ?_⟩; replace B := bb_ B hb; replace HB := hb_ HB hb; (try clear hb); refine hK.out _ _ (cb_ B) (fun hHeld => ?_); clear hK K; refine nm_ 22 (h := ?_); refine pv_ 9 17 15359 ?_; refine pv_ 10 17 16383 ?_; refine one_ (i := 14) (N := some 28) (bl_ 17 32767) rfl rfl (one_of HT_.out (by kernel_rfl)) (by decide) (fun K hK => ?_); refine gv_ Tryz.func38 ?_
  (with_reducible refine (spec_l01Num.calls A9.out).mono ?_)
  rintro e dH ⟨rfl, hb⟩; refine ⟨_, rfl, ?_⟩; replace B := bb_ B hb; replace HB := hb_ HB hb; (try clear hb); refine hK.out _ _ (cb_ B) (fun hHeld => ?_); clear hK K; refine nm_ 28 (h := ?_); refine pv_ 15 17 65535 ?_; refine pv_ 16 17 131071 ?_; refine done_ (done_of HT_.out (by kernel_rfl)) ?_
  try go_wp2
  go_loopg [4, 5] k (fun kq v4 v5 w' => ∃ (D : ByteArray) (A : Int), v4 = .string D ∧ v5 = .int .i64 A ∧ Aside0 (spec_PlanText.l0 kq D A a0_0 a0_1 a0_2 l0_3 = some (r1, r2)) ∧ Aside0 (kq ≤ k) ∧ Aside0 (w'.heap[am]? = some (.cells #[.int .i64 a0_0, .int .i64 a0_1, .int .i64 a0_2, (.slice A0_3 l0_3.length c0_3)] 26 (0, 0))) ∧ Aside0 (Below w.heap.size w w'))
  case atStart => exact ⟨((((I ++ (⟨#[120]⟩ : ByteArray)) ++ J) ++ (⟨#[120]⟩ : ByteArray)) ++ Z), (0), rl_, rl_, H', ⟨Nat.le_refl _⟩, ⟨bu_ B.out⟩, ⟨be_ HB.out⟩⟩
  case round =>
   clear H'; (try clear c1); (try clear c2); (try clear p2); (try clear c3); (try clear c5); (try clear ck); (try clear cl); (try clear cm); (try clear c7); (try clear cn); (try clear co); (try clear bJ); (try clear c8); (try clear cp); (try clear cq); (try clear bK); (try clear c10); (try clear bS); (try clear bT); (try clear b4); (try clear c12); (try clear bW); obtain ⟨D, A, rfl, rfl, HA, ab, B, HB⟩ := hrel
   cases gk with
   | zero => exact absurd HA.out (by simp [spec_PlanText.l0])
   | succ k1 =>
    have H := HA.out; clear HA; simp only [spec_PlanText.l0] at H
    replace H := icd_ H; obtain ⟨bX, H⟩ | ⟨bX, H⟩ := H
    ·
     obtain ⟨cK, H⟩ := ipd_ H
     obtain ⟨bY, H⟩ := ip_ H; have cL := eq_true bY; have cM : decide (D.size + 3 ≤ 9223372036854775807) = true := dt_ bY; (try have cN : (9223372036854775807 < D.size + 3) = False := eq_false (Nat.not_lt.2 bY)); obtain ⟨b2, hy_⟩ : ∃ y_ : List Int, y_ = (([] : List Int)) := ⟨_, rfl⟩; replace H : (if ((rd_T55 l0_3 A).f0) = 0 then (if (D ++ (⟨#[32, 62, 32]⟩ : ByteArray)).size + 5 ≤ 9223372036854775807 then ((spec_l10First.f ((rd_T55 l0_3 A).f7)).bind fun ac => (spec_PlanText.j1 k1 ((D ++ (⟨#[32, 62, 32]⟩ : ByteArray)) ++ (⟨#[100, 101, 110, 115, 101]⟩ : ByteArray)) A (([(rd_T55 l0_3 A).f1, wrap64 (Int.tdiv ((rd_T55 l0_3 A).f4) 1000), (rd_T55 l0_3 A).f5, (rd_T55 l0_3 A).f6, ac] : List Int)) a0_0 a0_1 a0_2 l0_3)) else (none)) else (if ((rd_T55 l0_3 A).f0) = 1 then (if (D ++ (⟨#[32, 62, 32]⟩ : ByteArray)).size + 4 ≤ 9223372036854775807 then ((spec_l10First.f ((rd_T55 l0_3 A).f7)).bind fun ad => (spec_PlanText.j1 k1 ((D ++ (⟨#[32, 62, 32]⟩ : ByteArray)) ++ (⟨#[99, 111, 110, 118]⟩ : ByteArray)) A (([(rd_T55 l0_3 A).f1, (rd_T55 l0_3 A).f2, (rd_T55 l0_3 A).f3, wrap64 (Int.tdiv ((rd_T55 l0_3 A).f4) 1000), (rd_T55 l0_3 A).f5, (rd_T55 l0_3 A).f6, ad] : List Int)) a0_0 a0_1 a0_2 l0_3)) else (none)) else (if ((rd_T55 l0_3 A).f0) = 2 then (if (D ++ (⟨#[32, 62, 32]⟩ : ByteArray)).size + 3 ≤ 9223372036854775807 then (spec_PlanText.j1 k1 ((D ++ (⟨#[32, 62, 32]⟩ : ByteArray)) ++ (⟨#[109, 97, 120]⟩ : ByteArray)) A (([(rd_T55 l0_3 A).f2, (rd_T55 l0_3 A).f3] : List Int)) a0_0 a0_1 a0_2 l0_3) else (none)) else (if ((rd_T55 l0_3 A).f0) = 3 then (if (D ++ (⟨#[32, 62, 32]⟩ : ByteArray)).size + 3 ≤ 9223372036854775807 then (spec_PlanText.j1 k1 ((D ++ (⟨#[32, 62, 32]⟩ : ByteArray)) ++ (⟨#[97, 118, 103]⟩ : ByteArray)) A (([(rd_T55 l0_3 A).f2, (rd_T55 l0_3 A).f3] : List Int)) a0_0 a0_1 a0_2 l0_3) else (none)) else (if ((rd_T55 l0_3 A).f0) = 4 then (if (D ++ (⟨#[32, 62, 32]⟩ : ByteArray)).size + 4 ≤ 9223372036854775807 then (spec_PlanText.j1 k1 ((D ++ (⟨#[32, 62, 32]⟩ : ByteArray)) ++ (⟨#[114, 101, 108, 117]⟩ : ByteArray)) A (([(rd_T55 l0_3 A).f6] : List Int)) a0_0 a0_1 a0_2 l0_3) else (none)) else (if ((rd_T55 l0_3 A).f0) = 5 then (if (D ++ (⟨#[32, 62, 32]⟩ : ByteArray)).size + 4 ≤ 9223372036854775807 then (spec_PlanText.j1 k1 ((D ++ (⟨#[32, 62, 32]⟩ : ByteArray)) ++ (⟨#[102, 108, 97, 116]⟩ : ByteArray)) A b2 a0_0 a0_1 a0_2 l0_3) else (none)) else (spec_PlanText.j1 k1 (D ++ (⟨#[32, 62, 32]⟩ : ByteArray)) A b2 a0_0 a0_1 a0_2 l0_3))))))) = some (r1, r2) := yh_
     have b5 := Aside0.mk hy_; clear hy_; have b6 := Aside0.mk H; clear H; have b7 := box4_ B.out; have au : 0 ≤ (A : Int) := od_; have av : A < (l0_3.length : Int) := od_; obtain ⟨b8, an, ao, ap, aq, cr, a0, a1, a2, a3, a4, a5, a6, a7, a8, aw, ax, ay, az⟩ := at_T55 al.out A au av
     cases cr
     replace a0 := cw_ HB.out a0; replace a1 := cw_ HB.out a1; replace a2 := cw_ HB.out a2; replace a3 := cw_ HB.out a3; replace a4 := cw_ HB.out a4; replace a5 := cw_ HB.out a5; replace a6 := cw_ HB.out a6; replace a7 := cw_ HB.out a7; replace a8 := cw_ HB.out a8; have aA := Aside0.mk ax; have aC := Aside0.mk aw; clear ax aw; have cs := Aside0.mk az; have ct := Aside0.mk ay; clear az ay; replace au := eq_true au; replace av := eq_true av
     go_upto_block 2 with (first | ((with_reducible refine gate_dst (N := 6) rfl ?_); refine bz_ 6 ?_; intro b9 hg dI hbox hb; obtain ⟨E, cO, cP, HB⟩ := nb_ hg hbox HB hb; have O := nx_ hg B; have P := ny_ hg B; replace B := bb_ B hb; clear hb hbox hg; have cQ := nn_ P O; have ba := box9_ E.out) | ((with_reducible refine gate_dst (N := 44) rfl ?_); refine Kd.R_lit (Kd.int .i64) _ 3 ?hg (N := 44) ?hd (xs := ([] : List Int)) (inner := []) (ok := fun _ => True) (okp := fun _ => True) ?hr ?hp (fun _ hk => hk) trivial (Below.refl _ _) (Nat.le_refl _) (by simp) ?_; (case hd => rfl); (case hg => rfl); (case hr => first | (go_simp; done) | (go_simp; rfl)); (case hp => exact (Reps.none _ _)); intro dm cu aD hb hg_ hnew_; clear hg_ hnew_; (first | rw [← b5.out] at aD | (simp only [Int.reduceToNat] at aD; rw [← b5.out] at aD)); have G := Aside0.mk (Kd.R_lower aD (below_size (be_ HB.out))); replace B := bc_ B hb; replace E := bp_ (#[.int .i64 ((rd_T55 l0_3 A).f0), .int .i64 ((rd_T55 l0_3 A).f1), .int .i64 ((rd_T55 l0_3 A).f2), .int .i64 ((rd_T55 l0_3 A).f3), .int .i64 ((rd_T55 l0_3 A).f4), .int .i64 ((rd_T55 l0_3 A).f5), .int .i64 ((rd_T55 l0_3 A).f6), .slice an ((rd_T55 l0_3 A).f7).length ao, .slice ap ((rd_T55 l0_3 A).f8).length aq]) E hb; replace HB := hb_ HB hb; clear hb aD; have bb := box9_ E.out))
     (try simp only [Act.put, List.setIfInBounds_toArray, List.set_cons_zero, List.set_cons_succ])
     go_cut [4, 7] (fun v4 v7 wc => ∃ (kq : Nat) (ar : ByteArray) (a9 : List Int), v4 = .string ar ∧ Aside0 (spec_PlanText.j1 kq ar A a9 a0_0 a0_1 a0_2 l0_3 = some (r1, r2)) ∧ Aside0 (kq ≤ k1) ∧ Aside0 (Kd.R (Kd.int .i64) 3 wc w.heap.size (fun _ => True) v7 a9) ∧ Aside0 (wc.heap[am]? = some (.cells #[.int .i64 a0_0, .int .i64 a0_1, .int .i64 a0_2, (.slice (some b8) l0_3.length c0_3)] 26 (0, 0))) ∧ Aside0 (wc.heap[b9]? = some (.cells #[.int .i64 ((rd_T55 l0_3 A).f0), .int .i64 ((rd_T55 l0_3 A).f1), .int .i64 ((rd_T55 l0_3 A).f2), .int .i64 ((rd_T55 l0_3 A).f3), .int .i64 ((rd_T55 l0_3 A).f4), .int .i64 ((rd_T55 l0_3 A).f5), .int .i64 ((rd_T55 l0_3 A).f6), (.slice an ((rd_T55 l0_3 A).f7).length ao), (.slice ap ((rd_T55 l0_3 A).f8).length aq)] 55 (0, 0))) ∧ Aside0 (Below w.heap.size w wc))
     case first =>
      have H := b6.out; clear b6
      replace H := ic_ H; obtain ⟨aE, H⟩ | ⟨aE, H⟩ := H
      ·
       have U : (((rd_T55 l0_3 A).f0) == 0) = true := eq1_ aE; have aL : (((rd_T55 l0_3 A).f0) != 0) = false := ne0_ aE; clear aE; (first | rw [U] | (simp only [i64_w, i32_w]; rw [U]) | skip)
       obtain ⟨bc, H⟩ := ip_ H; have bd := eq_true bc; have be : decide ((D ++ (⟨#[32, 62, 32]⟩ : ByteArray)).size + 5 ≤ 9223372036854775807) = true := dt_ bc; (try have aM : (9223372036854775807 < (D ++ (⟨#[32, 62, 32]⟩ : ByteArray)).size + 5) = False := eq_false (Nat.not_lt.2 bc))
       try have cR : (9223372036854775807 < D.size + 3 + 5) = False := by have e_ : D.size + 3 + 5 = (D ++ (⟨#[32, 62, 32]⟩ : ByteArray)).size + 5 := (by simp only [ByteArray.size_append] <;> rfl); rw [e_]; exact aM
       obtain ⟨ac, cS, H⟩ := bo_ H; (try dsimp only at H); obtain ⟨bL, hy_⟩ : ∃ y_ : List Int, y_ = (([(rd_T55 l0_3 A).f1, wrap64 (Int.tdiv ((rd_T55 l0_3 A).f4) 1000), (rd_T55 l0_3 A).f5, (rd_T55 l0_3 A).f6, ac] : List Int)) := ⟨_, rfl⟩; replace H : (spec_PlanText.j1 k1 ((D ++ (⟨#[32, 62, 32]⟩ : ByteArray)) ++ (⟨#[100, 101, 110, 115, 101]⟩ : ByteArray)) A bL a0_0 a0_1 a0_2 l0_3) = some (r1, r2) := yh_
       have bf := Aside0.mk hy_; clear hy_; have H' := Aside0.mk H; clear H
       try go_wp2
       replace G := Aside0.mk (Kd.R_drew G.out); replace B := Aside0.mk (blk_drew B.out); replace E := Aside0.mk (blk_drew E.out); replace HB := Aside0.mk (below_drew1 HB.out); refine sta1_ 14 (cb_ E) (fun hHeld => ?_); refine with_tabW spec_PlanText.tab13 spec_PlanText.bits13 (fun HT_ HW_ => ?_); generalize cu.drew = dJ at G B E HB hHeld ⊢; refine pv_ 0 14 1 ?_; refine pv_ 2 14 5 ?_; refine pv_ 5 14 37 ?_; refine pv_ 7 14 165 ?_; refine pv_ 9 14 677 ?_; refine tv_ 1 14 679 ?_; refine tv_ 3 14 687 ?_; refine pv_ 4 14 703 ?_; refine tv_ 6 14 767 ?_; refine tv_ 8 14 1023 ?_; refine tv_ 10 14 2047 ?_; refine one_ (i := 11) (N := some 62) (bl_ 14 4095) rfl rfl (one_of HT_.out (by kernel_rfl)) (by decide) (fun K hK => ?_); refine gv_ Tryz.func39 ?_
       (with_reducible refine (spec_l10First.calls ?_ ?_ cS.out).mono ?_); exact cu_ aA.out HB.out; exact aC.out; rintro e w' ⟨rfl, ⟨nd, rfl⟩⟩; refine ⟨_, rfl, ?_⟩; refine hK.out _ _ (cb_ E) (fun hHeld => ?_); clear hK K; refine nm_ 62 (h := ?_); refine one_ (i := 12) (N := some 63) (bl_ 14 8191) rfl rfl (one_of HT_.out (by kernel_rfl)) (by decide) (fun K hK => ?_); refine Kd.R_lit_step (Kd.int .i64) _ 3 ?hg (N := 63) ?hd (xs := ([(rd_T55 l0_3 A).f1, wrap64 (Int.tdiv ((rd_T55 l0_3 A).f4) 1000), (rd_T55 l0_3 A).f5, (rd_T55 l0_3 A).f6, ac] : List Int)) (inner := [.int .i64 ((rd_T55 l0_3 A).f1), .int .i64 (wrap64 (Int.tdiv ((rd_T55 l0_3 A).f4) 1000)), .int .i64 ((rd_T55 l0_3 A).f5), .int .i64 ((rd_T55 l0_3 A).f6), .int .i64 ac]) (ok := fun _ => True) (okp := fun _ => True) ?hr ?hp (fun _ hk => hk) trivial (Below.refl _ _) (Nat.le_refl _) (by simp) ?_; (case hd => rfl); (case hg => rfl); (case hr => first | (go_simp; done) | (go_simp; rfl)); (case hp => exact (Reps.one (show Kd.M (Kd.int .i64) _ _ _ ((rd_T55 l0_3 A).f1) [.int .i64 ((rd_T55 l0_3 A).f1)] from rfl) (Reps.one (show Kd.M (Kd.int .i64) _ _ _ (wrap64 (Int.tdiv ((rd_T55 l0_3 A).f4) 1000)) [.int .i64 (wrap64 (Int.tdiv ((rd_T55 l0_3 A).f4) 1000))] from rfl) (Reps.one (show Kd.M (Kd.int .i64) _ _ _ ((rd_T55 l0_3 A).f5) [.int .i64 ((rd_T55 l0_3 A).f5)] from rfl) (Reps.one (show Kd.M (Kd.int .i64) _ _ _ ((rd_T55 l0_3 A).f6) [.int .i64 ((rd_T55 l0_3 A).f6)] from rfl) (Reps.one (show Kd.M (Kd.int .i64) _ _ _ ac [.int .i64 ac] from rfl) (Reps.none _ _))))))); intro dn dK af hb hg_ hnew_; clear hg_ hnew_; (first | rw [← bf.out] at af | (simp only [Int.reduceToNat] at af; rw [← bf.out] at af)); have bZ := Aside0.mk (Kd.R_lower (Kd.R_new' af (Kd.R_lt (ra_ G.out))) (below_size (be_ HB.out))); replace G := Aside0.mk (Kd.R_elder' (ra_ G.out) (Kd.R_base af) hb); replace B := bb_ B hb; replace E := bb_ E hb; replace HB := hb_ HB hb; clear hb af; refine hK.out _ _ (cb_ E) (fun hHeld => ?_); clear hK K; refine nm_ 63 (h := ?_); refine pv_ 13 14 16383 ?_; refine done_ (done_of HT_.out (by kernel_rfl)) ?_
       try go_wp2
       go_meet
       case rel => exact ⟨_, ((D ++ (⟨#[32, 62, 32]⟩ : ByteArray)) ++ (⟨#[100, 101, 110, 115, 101]⟩ : ByteArray)), (bL), rl_, H', ⟨by have := ab.out; first | omega | exact Nat.le_refl _⟩, ⟨Kd.R_mono (ra_ bZ.out) (fun _ hk => trivial)⟩, ⟨bu_ B.out⟩, ⟨bu_ E.out⟩, ⟨be_ HB.out⟩⟩
      ·
       have U : (((rd_T55 l0_3 A).f0) == 0) = false := eq0_ aE; have aL : (((rd_T55 l0_3 A).f0) != 0) = true := ne1_ aE; (first | rw [U] | (simp only [i64_w, i32_w]; rw [U]) | skip)
       replace H := ic_ H; obtain ⟨aF, H⟩ | ⟨aF, H⟩ := H
       ·
        have aN : (((rd_T55 l0_3 A).f0) == 1) = true := eq1_ aF; have aO : (((rd_T55 l0_3 A).f0) != 1) = false := ne0_ aF; clear aF
        obtain ⟨bg, H⟩ := ip_ H; have bh := eq_true bg; have bi : decide ((D ++ (⟨#[32, 62, 32]⟩ : ByteArray)).size + 4 ≤ 9223372036854775807) = true := dt_ bg; (try have aP : (9223372036854775807 < (D ++ (⟨#[32, 62, 32]⟩ : ByteArray)).size + 4) = False := eq_false (Nat.not_lt.2 bg))
        try have cT : (9223372036854775807 < D.size + 3 + 4) = False := by have e_ : D.size + 3 + 4 = (D ++ (⟨#[32, 62, 32]⟩ : ByteArray)).size + 4 := (by simp only [ByteArray.size_append] <;> rfl); rw [e_]; exact aP
        obtain ⟨ad, cU, H⟩ := bo_ H; (try dsimp only at H); obtain ⟨bM, hy_⟩ : ∃ y_ : List Int, y_ = (([(rd_T55 l0_3 A).f1, (rd_T55 l0_3 A).f2, (rd_T55 l0_3 A).f3, wrap64 (Int.tdiv ((rd_T55 l0_3 A).f4) 1000), (rd_T55 l0_3 A).f5, (rd_T55 l0_3 A).f6, ad] : List Int)) := ⟨_, rfl⟩; replace H : (spec_PlanText.j1 k1 ((D ++ (⟨#[32, 62, 32]⟩ : ByteArray)) ++ (⟨#[99, 111, 110, 118]⟩ : ByteArray)) A bM a0_0 a0_1 a0_2 l0_3) = some (r1, r2) := yh_
        have bj := Aside0.mk hy_; clear hy_; have H' := Aside0.mk H; clear H
        try go_wp2
        replace G := Aside0.mk (Kd.R_drew G.out); replace B := Aside0.mk (blk_drew B.out); replace E := Aside0.mk (blk_drew E.out); replace HB := Aside0.mk (below_drew1 HB.out); refine sta1_ 18 (cb_ E) (fun hHeld => ?_); refine with_tabW spec_PlanText.tab16 spec_PlanText.bits16 (fun HT_ HW_ => ?_); generalize cu.drew = dL at G B E HB hHeld ⊢; refine pv_ 0 18 1 ?_; refine pv_ 2 18 5 ?_; refine pv_ 4 18 21 ?_; refine pv_ 6 18 85 ?_; refine pv_ 9 18 597 ?_; refine pv_ 11 18 2645 ?_; refine pv_ 13 18 10837 ?_; refine tv_ 1 18 10839 ?_; refine tv_ 3 18 10847 ?_; refine tv_ 5 18 10879 ?_; refine tv_ 7 18 11007 ?_; refine pv_ 8 18 11263 ?_; refine tv_ 10 18 12287 ?_; refine tv_ 12 18 16383 ?_; refine tv_ 14 18 32767 ?_; refine one_ (i := 15) (N := some 83) (bl_ 18 65535) rfl rfl (one_of HT_.out (by kernel_rfl)) (by decide) (fun K hK => ?_); refine gv_ Tryz.func39 ?_
        (with_reducible refine (spec_l10First.calls ?_ ?_ cU.out).mono ?_); exact cu_ aA.out HB.out; exact aC.out; rintro e w' ⟨rfl, ⟨nd, rfl⟩⟩; refine ⟨_, rfl, ?_⟩; refine hK.out _ _ (cb_ E) (fun hHeld => ?_); clear hK K; refine nm_ 83 (h := ?_); refine one_ (i := 16) (N := some 84) (bl_ 18 131071) rfl rfl (one_of HT_.out (by kernel_rfl)) (by decide) (fun K hK => ?_); refine Kd.R_lit_step (Kd.int .i64) _ 3 ?hg (N := 84) ?hd (xs := ([(rd_T55 l0_3 A).f1, (rd_T55 l0_3 A).f2, (rd_T55 l0_3 A).f3, wrap64 (Int.tdiv ((rd_T55 l0_3 A).f4) 1000), (rd_T55 l0_3 A).f5, (rd_T55 l0_3 A).f6, ad] : List Int)) (inner := [.int .i64 ((rd_T55 l0_3 A).f1), .int .i64 ((rd_T55 l0_3 A).f2), .int .i64 ((rd_T55 l0_3 A).f3), .int .i64 (wrap64 (Int.tdiv ((rd_T55 l0_3 A).f4) 1000)), .int .i64 ((rd_T55 l0_3 A).f5), .int .i64 ((rd_T55 l0_3 A).f6), .int .i64 ad]) (ok := fun _ => True) (okp := fun _ => True) ?hr ?hp (fun _ hk => hk) trivial (Below.refl _ _) (Nat.le_refl _) (by simp) ?_; (case hd => rfl); (case hg => rfl); (case hr => first | (go_simp; done) | (go_simp; rfl)); (case hp => exact (Reps.one (show Kd.M (Kd.int .i64) _ _ _ ((rd_T55 l0_3 A).f1) [.int .i64 ((rd_T55 l0_3 A).f1)] from rfl) (Reps.one (show Kd.M (Kd.int .i64) _ _ _ ((rd_T55 l0_3 A).f2) [.int .i64 ((rd_T55 l0_3 A).f2)] from rfl) (Reps.one (show Kd.M (Kd.int .i64) _ _ _ ((rd_T55 l0_3 A).f3) [.int .i64 ((rd_T55 l0_3 A).f3)] from rfl) (Reps.one (show Kd.M (Kd.int .i64) _ _ _ (wrap64 (Int.tdiv ((rd_T55 l0_3 A).f4) 1000)) [.int .i64 (wrap64 (Int.tdiv ((rd_T55 l0_3 A).f4) 1000))] from rfl) (Reps.one (show Kd.M (Kd.int .i64) _ _ _ ((rd_T55 l0_3 A).f5) [.int .i64 ((rd_T55 l0_3 A).f5)] from rfl) (Reps.one (show Kd.M (Kd.int .i64) _ _ _ ((rd_T55 l0_3 A).f6) [.int .i64 ((rd_T55 l0_3 A).f6)] from rfl) (Reps.one (show Kd.M (Kd.int .i64) _ _ _ ad [.int .i64 ad] from rfl) (Reps.none _ _))))))))); intro dp dM ag hb hg_ hnew_; clear hg_ hnew_; (first | rw [← bj.out] at ag | (simp only [Int.reduceToNat] at ag; rw [← bj.out] at ag)); have c0 := Aside0.mk (Kd.R_lower (Kd.R_new' ag (Kd.R_lt (ra_ G.out))) (below_size (be_ HB.out))); replace G := Aside0.mk (Kd.R_elder' (ra_ G.out) (Kd.R_base ag) hb); replace B := bb_ B hb; replace E := bb_ E hb; replace HB := hb_ HB hb; clear hb ag; refine hK.out _ _ (cb_ E) (fun hHeld => ?_); clear hK K; refine nm_ 84 (h := ?_); refine pv_ 17 18 262143 ?_; refine done_ (done_of HT_.out (by kernel_rfl)) ?_
        try go_wp2
        go_meet
        case rel => exact ⟨_, ((D ++ (⟨#[32, 62, 32]⟩ : ByteArray)) ++ (⟨#[99, 111, 110, 118]⟩ : ByteArray)), (bM), rl_, H', ⟨by have := ab.out; first | omega | exact Nat.le_refl _⟩, ⟨Kd.R_mono (ra_ c0.out) (fun _ hk => trivial)⟩, ⟨bu_ B.out⟩, ⟨bu_ E.out⟩, ⟨be_ HB.out⟩⟩
       ·
        have aN : (((rd_T55 l0_3 A).f0) == 1) = false := eq0_ aF; have aO : (((rd_T55 l0_3 A).f0) != 1) = true := ne1_ aF
        replace H := ic_ H; obtain ⟨aG, H⟩ | ⟨aG, H⟩ := H
        ·
         have aQ : (((rd_T55 l0_3 A).f0) == 2) = true := eq1_ aG; have aR : (((rd_T55 l0_3 A).f0) != 2) = false := ne0_ aG; clear aG
         obtain ⟨bk, H⟩ := ip_ H; have bl := eq_true bk; have bm : decide ((D ++ (⟨#[32, 62, 32]⟩ : ByteArray)).size + 3 ≤ 9223372036854775807) = true := dt_ bk; (try have aS : (9223372036854775807 < (D ++ (⟨#[32, 62, 32]⟩ : ByteArray)).size + 3) = False := eq_false (Nat.not_lt.2 bk))
         try have cV : (9223372036854775807 < D.size + 3 + 3) = False := by have e_ : D.size + 3 + 3 = (D ++ (⟨#[32, 62, 32]⟩ : ByteArray)).size + 3 := (by simp only [ByteArray.size_append] <;> rfl); rw [e_]; exact aS
         obtain ⟨bN, hy_⟩ : ∃ y_ : List Int, y_ = (([(rd_T55 l0_3 A).f2, (rd_T55 l0_3 A).f3] : List Int)) := ⟨_, rfl⟩; replace H : (spec_PlanText.j1 k1 ((D ++ (⟨#[32, 62, 32]⟩ : ByteArray)) ++ (⟨#[109, 97, 120]⟩ : ByteArray)) A bN a0_0 a0_1 a0_2 l0_3) = some (r1, r2) := yh_
         have bn := Aside0.mk hy_; clear hy_; have H' := Aside0.mk H; clear H; have cW := nn_ P O; have bo := box9_ E.out
         go_wp2_with (first | ((with_reducible refine gate_dst (N := 93) rfl ?_); refine Kd.R_lit (Kd.int .i64) _ 3 ?hg (N := 93) ?hd (xs := ([(rd_T55 l0_3 A).f2, (rd_T55 l0_3 A).f3] : List Int)) (inner := [.int .i64 ((rd_T55 l0_3 A).f2), .int .i64 ((rd_T55 l0_3 A).f3)]) (ok := fun _ => True) (okp := fun _ => True) ?hr ?hp (fun _ hk => hk) trivial (Below.refl _ _) (Nat.le_refl _) (by simp) ?_; (case hd => rfl); (case hg => rfl); (case hr => first | (go_simp; done) | (go_simp; rfl)); (case hp => exact (Reps.one (show Kd.M (Kd.int .i64) _ _ _ ((rd_T55 l0_3 A).f2) [.int .i64 ((rd_T55 l0_3 A).f2)] from rfl) (Reps.one (show Kd.M (Kd.int .i64) _ _ _ ((rd_T55 l0_3 A).f3) [.int .i64 ((rd_T55 l0_3 A).f3)] from rfl) (Reps.none _ _)))); intro dq dN ah hb hg_ hnew_; clear hg_ hnew_; (first | rw [← bn.out] at ah | (simp only [Int.reduceToNat] at ah; rw [← bn.out] at ah)); have ca := Aside0.mk (Kd.R_lower (Kd.R_new' ah (Kd.R_lt (ra_ G.out))) (below_size (be_ HB.out))); replace G := Aside0.mk (Kd.R_elder' (ra_ G.out) (Kd.R_base ah) hb); replace B := bb_ B hb; replace E := bb_ E hb; replace HB := hb_ HB hb; clear hb ah))
         go_meet
         case rel => exact ⟨_, ((D ++ (⟨#[32, 62, 32]⟩ : ByteArray)) ++ (⟨#[109, 97, 120]⟩ : ByteArray)), (bN), rl_, H', ⟨by have := ab.out; first | omega | exact Nat.le_refl _⟩, ⟨Kd.R_mono (ra_ ca.out) (fun _ hk => trivial)⟩, ⟨bu_ B.out⟩, ⟨bu_ E.out⟩, ⟨be_ HB.out⟩⟩
        ·
         have aQ : (((rd_T55 l0_3 A).f0) == 2) = false := eq0_ aG; have aR : (((rd_T55 l0_3 A).f0) != 2) = true := ne1_ aG
         replace H := ic_ H; obtain ⟨aH, H⟩ | ⟨aH, H⟩ := H
         ·
          have aT : (((rd_T55 l0_3 A).f0) == 3) = true := eq1_ aH; have aU : (((rd_T55 l0_3 A).f0) != 3) = false := ne0_ aH; clear aH
          obtain ⟨bp, H⟩ := ip_ H; have bq := eq_true bp; have br : decide ((D ++ (⟨#[32, 62, 32]⟩ : ByteArray)).size + 3 ≤ 9223372036854775807) = true := dt_ bp; (try have aV : (9223372036854775807 < (D ++ (⟨#[32, 62, 32]⟩ : ByteArray)).size + 3) = False := eq_false (Nat.not_lt.2 bp))
          try have cX : (9223372036854775807 < D.size + 3 + 3) = False := by have e_ : D.size + 3 + 3 = (D ++ (⟨#[32, 62, 32]⟩ : ByteArray)).size + 3 := (by simp only [ByteArray.size_append] <;> rfl); rw [e_]; exact aV
          obtain ⟨bO, hy_⟩ : ∃ y_ : List Int, y_ = (([(rd_T55 l0_3 A).f2, (rd_T55 l0_3 A).f3] : List Int)) := ⟨_, rfl⟩; replace H : (spec_PlanText.j1 k1 ((D ++ (⟨#[32, 62, 32]⟩ : ByteArray)) ++ (⟨#[97, 118, 103]⟩ : ByteArray)) A bO a0_0 a0_1 a0_2 l0_3) = some (r1, r2) := yh_
          have bs := Aside0.mk hy_; clear hy_; have H' := Aside0.mk H; clear H; have cY := nn_ P O; have bu := box9_ E.out
          go_wp2_with (first | ((with_reducible refine gate_dst (N := 102) rfl ?_); refine Kd.R_lit (Kd.int .i64) _ 3 ?hg (N := 102) ?hd (xs := ([(rd_T55 l0_3 A).f2, (rd_T55 l0_3 A).f3] : List Int)) (inner := [.int .i64 ((rd_T55 l0_3 A).f2), .int .i64 ((rd_T55 l0_3 A).f3)]) (ok := fun _ => True) (okp := fun _ => True) ?hr ?hp (fun _ hk => hk) trivial (Below.refl _ _) (Nat.le_refl _) (by simp) ?_; (case hd => rfl); (case hg => rfl); (case hr => first | (go_simp; done) | (go_simp; rfl)); (case hp => exact (Reps.one (show Kd.M (Kd.int .i64) _ _ _ ((rd_T55 l0_3 A).f2) [.int .i64 ((rd_T55 l0_3 A).f2)] from rfl) (Reps.one (show Kd.M (Kd.int .i64) _ _ _ ((rd_T55 l0_3 A).f3) [.int .i64 ((rd_T55 l0_3 A).f3)] from rfl) (Reps.none _ _)))); intro dr dO ai hb hg_ hnew_; clear hg_ hnew_; (first | rw [← bs.out] at ai | (simp only [Int.reduceToNat] at ai; rw [← bs.out] at ai)); have cb := Aside0.mk (Kd.R_lower (Kd.R_new' ai (Kd.R_lt (ra_ G.out))) (below_size (be_ HB.out))); replace G := Aside0.mk (Kd.R_elder' (ra_ G.out) (Kd.R_base ai) hb); replace B := bb_ B hb; replace E := bb_ E hb; replace HB := hb_ HB hb; clear hb ai))
          go_meet
          case rel => exact ⟨_, ((D ++ (⟨#[32, 62, 32]⟩ : ByteArray)) ++ (⟨#[97, 118, 103]⟩ : ByteArray)), (bO), rl_, H', ⟨by have := ab.out; first | omega | exact Nat.le_refl _⟩, ⟨Kd.R_mono (ra_ cb.out) (fun _ hk => trivial)⟩, ⟨bu_ B.out⟩, ⟨bu_ E.out⟩, ⟨be_ HB.out⟩⟩
         ·
          have aT : (((rd_T55 l0_3 A).f0) == 3) = false := eq0_ aH; have aU : (((rd_T55 l0_3 A).f0) != 3) = true := ne1_ aH
          replace H := ic_ H; obtain ⟨aI, H⟩ | ⟨aI, H⟩ := H
          ·
           have aW : (((rd_T55 l0_3 A).f0) == 4) = true := eq1_ aI; have aX : (((rd_T55 l0_3 A).f0) != 4) = false := ne0_ aI; clear aI
           obtain ⟨bv, H⟩ := ip_ H; have bw := eq_true bv; have bx : decide ((D ++ (⟨#[32, 62, 32]⟩ : ByteArray)).size + 4 ≤ 9223372036854775807) = true := dt_ bv; (try have aY : (9223372036854775807 < (D ++ (⟨#[32, 62, 32]⟩ : ByteArray)).size + 4) = False := eq_false (Nat.not_lt.2 bv))
           try have cZ : (9223372036854775807 < D.size + 3 + 4) = False := by have e_ : D.size + 3 + 4 = (D ++ (⟨#[32, 62, 32]⟩ : ByteArray)).size + 4 := (by simp only [ByteArray.size_append] <;> rfl); rw [e_]; exact aY
           obtain ⟨bP, hy_⟩ : ∃ y_ : List Int, y_ = (([(rd_T55 l0_3 A).f6] : List Int)) := ⟨_, rfl⟩; replace H : (spec_PlanText.j1 k1 ((D ++ (⟨#[32, 62, 32]⟩ : ByteArray)) ++ (⟨#[114, 101, 108, 117]⟩ : ByteArray)) A bP a0_0 a0_1 a0_2 l0_3) = some (r1, r2) := yh_
           have bz := Aside0.mk hy_; clear hy_; have H' := Aside0.mk H; clear H; have d0 := nn_ P O; have bA := box9_ E.out
           go_wp2_with (first | ((with_reducible refine gate_dst (N := 109) rfl ?_); refine Kd.R_lit (Kd.int .i64) _ 3 ?hg (N := 109) ?hd (xs := ([(rd_T55 l0_3 A).f6] : List Int)) (inner := [.int .i64 ((rd_T55 l0_3 A).f6)]) (ok := fun _ => True) (okp := fun _ => True) ?hr ?hp (fun _ hk => hk) trivial (Below.refl _ _) (Nat.le_refl _) (by simp) ?_; (case hd => rfl); (case hg => rfl); (case hr => first | (go_simp; done) | (go_simp; rfl)); (case hp => exact (Reps.one (show Kd.M (Kd.int .i64) _ _ _ ((rd_T55 l0_3 A).f6) [.int .i64 ((rd_T55 l0_3 A).f6)] from rfl) (Reps.none _ _))); intro ds dP aj hb hg_ hnew_; clear hg_ hnew_; (first | rw [← bz.out] at aj | (simp only [Int.reduceToNat] at aj; rw [← bz.out] at aj)); have cc := Aside0.mk (Kd.R_lower (Kd.R_new' aj (Kd.R_lt (ra_ G.out))) (below_size (be_ HB.out))); replace G := Aside0.mk (Kd.R_elder' (ra_ G.out) (Kd.R_base aj) hb); replace B := bb_ B hb; replace E := bb_ E hb; replace HB := hb_ HB hb; clear hb aj))
           go_meet
           case rel => exact ⟨_, ((D ++ (⟨#[32, 62, 32]⟩ : ByteArray)) ++ (⟨#[114, 101, 108, 117]⟩ : ByteArray)), (bP), rl_, H', ⟨by have := ab.out; first | omega | exact Nat.le_refl _⟩, ⟨Kd.R_mono (ra_ cc.out) (fun _ hk => trivial)⟩, ⟨bu_ B.out⟩, ⟨bu_ E.out⟩, ⟨be_ HB.out⟩⟩
          ·
           have aW : (((rd_T55 l0_3 A).f0) == 4) = false := eq0_ aI; have aX : (((rd_T55 l0_3 A).f0) != 4) = true := ne1_ aI
           replace H := ic_ H; obtain ⟨aJ, H⟩ | ⟨aJ, H⟩ := H
           ·
            have aZ : (((rd_T55 l0_3 A).f0) == 5) = true := eq1_ aJ; have b0 : (((rd_T55 l0_3 A).f0) != 5) = false := ne0_ aJ; clear aJ
            obtain ⟨bB, H⟩ := ip_ H; have bC := eq_true bB; have bD : decide ((D ++ (⟨#[32, 62, 32]⟩ : ByteArray)).size + 4 ≤ 9223372036854775807) = true := dt_ bB; (try have b1 : (9223372036854775807 < (D ++ (⟨#[32, 62, 32]⟩ : ByteArray)).size + 4) = False := eq_false (Nat.not_lt.2 bB))
            try have d1 : (9223372036854775807 < D.size + 3 + 4) = False := by have e_ : D.size + 3 + 4 = (D ++ (⟨#[32, 62, 32]⟩ : ByteArray)).size + 4 := (by simp only [ByteArray.size_append] <;> rfl); rw [e_]; exact b1
            have H' := Aside0.mk H; clear H
            go_wp2
            go_meet
            case rel => exact ⟨_, ((D ++ (⟨#[32, 62, 32]⟩ : ByteArray)) ++ (⟨#[102, 108, 97, 116]⟩ : ByteArray)), (b2), rl_, H', ⟨by have := ab.out; first | omega | exact Nat.le_refl _⟩, ⟨ra_ G.out⟩, ⟨bu_ B.out⟩, ⟨bu_ E.out⟩, ⟨be_ HB.out⟩⟩
           ·
            have aZ : (((rd_T55 l0_3 A).f0) == 5) = false := eq0_ aJ; have b0 : (((rd_T55 l0_3 A).f0) != 5) = true := ne1_ aJ; have H' := Aside0.mk H; clear H
            go_wp2
            go_meet
            case rel => exact ⟨_, (D ++ (⟨#[32, 62, 32]⟩ : ByteArray)), (b2), rl_, H', ⟨by have := ab.out; first | omega | exact Nat.le_refl _⟩, ⟨ra_ G.out⟩, ⟨bu_ B.out⟩, ⟨bu_ E.out⟩, ⟨be_ HB.out⟩⟩
     case rest =>
      clear b6; (try clear c2); (try clear p2); (try clear c3); (try clear p3); (try clear q3); (try clear hx3); (try clear c4); (try clear c5); (try clear c6); (try clear p6); (try clear c24); (try clear aE); (try clear U); (try clear aL); (try clear bc); (try clear bd); (try clear be); (try clear aM); (try clear c32); (try clear p32); (try clear q32); (try clear hx32); (try clear aF); (try clear aN); (try clear aO); (try clear bg); (try clear bh); (try clear bi); (try clear aP); (try clear c39); (try clear aG); (try clear aQ); (try clear aR); (try clear bk); (try clear bl); (try clear bm); (try clear aS); (try clear c43); (try clear aH); (try clear aT); (try clear aU); (try clear bp); (try clear bq); (try clear br); (try clear aV); (try clear c49); (try clear aI); (try clear aW); (try clear aX); (try clear bv); (try clear bw); (try clear bx); (try clear aY); (try clear c55); (try clear aJ); (try clear aZ); (try clear b0); (try clear bB); (try clear bC); (try clear bD); (try clear b1); (try clear b7); (try clear ba); (try clear bb); (try clear bo); (try clear bu); (try clear bA); (try clear a0); (try clear a1); (try clear a2); (try clear a3); (try clear a4); (try clear a5); (try clear a6); (try clear a7); (try clear a8); (try clear au); (try clear av); obtain ⟨kq, ar, a9, rfl, HA, b3, aa, B, E, HB⟩ := hcut
      cases kq with
      | zero => exact absurd HA.out (by simp [spec_PlanText.j1])
      | succ kj20 =>
       have H := HA.out; clear HA; simp only [spec_PlanText.j1] at H; have H' := Aside0.mk H; clear H
       go_wp2
       go_loopg [4, 8] kj20 (fun kq v4 v8 w' => ∃ (T : ByteArray) (ae : Int), v4 = .string T ∧ v8 = .int .i64 ae ∧ Aside0 (spec_PlanText.l1 kq T A a9 ae a0_0 a0_1 a0_2 l0_3 = some (r1, r2)) ∧ Aside0 (kq ≤ kj20) ∧ Aside0 (Kd.R (Kd.int .i64) 3 w' w.heap.size (fun _ => True) u7 a9) ∧ Aside0 (w'.heap[am]? = some (.cells #[.int .i64 a0_0, .int .i64 a0_1, .int .i64 a0_2, (.slice (some b8) l0_3.length c0_3)] 26 (0, 0))) ∧ Aside0 (w'.heap[b9]? = some (.cells #[.int .i64 ((rd_T55 l0_3 A).f0), .int .i64 ((rd_T55 l0_3 A).f1), .int .i64 ((rd_T55 l0_3 A).f2), .int .i64 ((rd_T55 l0_3 A).f3), .int .i64 ((rd_T55 l0_3 A).f4), .int .i64 ((rd_T55 l0_3 A).f5), .int .i64 ((rd_T55 l0_3 A).f6), (.slice an ((rd_T55 l0_3 A).f7).length ao), (.slice ap ((rd_T55 l0_3 A).f8).length aq)] 55 (0, 0))) ∧ Aside0 (Below w.heap.size w w'))
       case atStart => exact ⟨(ar), (0), rl_, rl_, H', ⟨Nat.le_refl _⟩, ⟨ra_ aa.out⟩, ⟨bu_ B.out⟩, ⟨bu_ E.out⟩, ⟨be_ HB.out⟩⟩
       case round =>
        clear H'; (try clear c2); (try clear p2); (try clear c3); (try clear p3); (try clear q3); (try clear hx3); (try clear c4); (try clear c5); (try clear c6); (try clear p6); (try clear c24); (try clear aE); (try clear U); (try clear aL); (try clear bc); (try clear bd); (try clear be); (try clear aM); (try clear c32); (try clear p32); (try clear q32); (try clear hx32); (try clear aF); (try clear aN); (try clear aO); (try clear bg); (try clear bh); (try clear bi); (try clear aP); (try clear c39); (try clear aG); (try clear aQ); (try clear aR); (try clear bk); (try clear bl); (try clear bm); (try clear aS); (try clear c43); (try clear aH); (try clear aT); (try clear aU); (try clear bp); (try clear bq); (try clear br); (try clear aV); (try clear c49); (try clear aI); (try clear aW); (try clear aX); (try clear bv); (try clear bw); (try clear bx); (try clear aY); (try clear c55); (try clear aJ); (try clear aZ); (try clear b0); (try clear bB); (try clear bC); (try clear bD); (try clear b1); (try clear b7); (try clear ba); (try clear bb); (try clear bo); (try clear bu); (try clear bA); (try clear a0); (try clear a1); (try clear a2); (try clear a3); (try clear a4); (try clear a5); (try clear a6); (try clear a7); (try clear a8); (try clear p2); (try clear p3); (try clear p32); (try clear au); (try clear p6); (try clear q3); (try clear q32); (try clear av); obtain ⟨T, ae, rfl, rfl, HA, bG, aa, B, E, HB⟩ := hrel
        cases gk with
        | zero => exact absurd HA.out (by simp [spec_PlanText.l1])
        | succ k3 =>
         have H := HA.out; clear HA; simp only [spec_PlanText.l1] at H
         replace H := icd_ H; obtain ⟨cd, H⟩ | ⟨cd, H⟩ := H
         ·
          obtain ⟨ce, H⟩ := ip_ H; have d2 := eq_true ce; have d3 : decide (T.size + 1 ≤ 9223372036854775807) = true := dt_ ce; (try have d4 : (9223372036854775807 < T.size + 1) = False := eq_false (Nat.not_lt.2 ce))
          obtain ⟨d5, H⟩ := ipd_ H; obtain ⟨ak, d6, H⟩ := bo_ H; (try dsimp only at H)
          obtain ⟨cf, H⟩ := ip_ H; have d7 := eq_true cf; have d8 : decide ((T ++ (⟨#[32]⟩ : ByteArray)).size + ak.size ≤ 9223372036854775807) = true := dt_ cf; (try have cg : (9223372036854775807 < (T ++ (⟨#[32]⟩ : ByteArray)).size + ak.size) = False := eq_false (Nat.not_lt.2 cf))
          try have d9 : (9223372036854775807 < T.size + 1 + ak.size) = False := by have e_ : T.size + 1 + ak.size = (T ++ (⟨#[32]⟩ : ByteArray)).size + ak.size := (by simp only [ByteArray.size_append] <;> rfl); rw [e_]; exact cg
          have H' := Aside0.mk H; clear H; obtain ⟨dt, du, cv⟩ := Kd.R_slice aa.out; subst cv; have bE : 0 ≤ (ae : Int) := od_; have bF : ae < (a9.length : Int) := od_; obtain ⟨da, cw, cx⟩ := Kd.at_int (Kd.R_reads' aa.out).2.2 ae bE bF
          cases cw
          replace bE := eq_true bE; replace bF := eq_true bF
          go_wp2_with (first | ((with_reducible refine gc_ 38 ?_); refine gw_ (some 126) Tryz.func38 ?_; (with_reducible refine (spec_l01Num.calls d6.out).mono ?_); rintro e dQ ⟨rfl, hb⟩; refine ⟨_, rfl, ?_⟩; replace aa := rb_ aa hb; replace B := bb_ B hb; replace E := bb_ E hb; replace HB := hb_ HB hb; (try clear hb)))
          go_roundg k3
          case measure => have := ab.out; have := b3.out; have := bG.out; omega
          case rel => exact ⟨((T ++ (⟨#[32]⟩ : ByteArray)) ++ ak), (wrap64 (ae + 1)), rl_, rl_, H', ⟨by have := ab.out; have := b3.out; have := bG.out; omega⟩, ⟨ra_ aa.out⟩, ⟨bu_ B.out⟩, ⟨bu_ E.out⟩, ⟨be_ HB.out⟩⟩
         ·
          have H' := Aside0.mk H; clear H; obtain ⟨dw, dx, cy⟩ := Kd.R_slice aa.out; subst cy
          go_wp2
          go_roundg k3
          case measure => have := ab.out; have := b3.out; have := bG.out; omega
          case rel => exact ⟨(T), (wrap64 (A + 1)), rl_, rl_, H', ⟨by have := ab.out; have := b3.out; have := bG.out; omega⟩, ⟨bu_ B.out⟩, ⟨be_ HB.out⟩⟩
    ·
     obtain ⟨⟨cz, cA, cC, bQ, cD⟩, db, H⟩ := bo_ H; (try dsimp only at H); have dc := box4_ B.out
     go_wp2_with (first | ((with_reducible refine gc_ 6 ?_); refine gw_ (some 130) Tryz.func6 ?_; (with_reducible refine (spec_ParsePlan.calls db.out).mono ?_); rintro e dR ⟨dy, rfl, cE, hb⟩; refine ⟨_, rfl, ?_⟩; have L := Aside0.mk (Kd.S_lower cE (below_size (be_ HB.out))); replace B := bb_ B hb; replace HB := hb_ HB hb; (try clear hb cE); refine Aside0.out ?_))
     by_cases bH : cD = true
     ·
      subst bH; rw [if_pos rfl] at H; obtain ⟨dz, dd, H⟩ := bo_ H; (try dsimp only at H); refine ⟨?_⟩
      go_wp2_with (first | ((with_reducible refine gate_dst (N := 9) rfl ?_); refine bz_ 9 ?_; intro ch hg dS hbox hb; replace L := Aside0.mk (Kd.S_below (sa_ L.out) hb); obtain ⟨W, ci, cj, HB⟩ := nb_ hg hbox HB hb; have X := nx_ hg B; have Y := ny_ hg B; replace B := bb_ B hb; clear hb hbox hg; have de := nn_ Y X; have df := box4_ W.out; obtain ⟨cF, bR, cG⟩ := Kd.S_slice L.out; subst cG; have dg := box4_ B.out) | (go_at_call 40; (with_reducible refine (spec_SameModel.calls ?side1 ?side2 ?side3 ?side4 dd.out).mono ?_); (case side1 => refine (Kd.S_reads' (e := 55) (base := w.heap.size) (ok := fun k_ => True) (n := bQ.length) (c := bR) ?_).2.2; exact (by (with_reducible repeat (first | apply Kd.S_alloc | apply Kd.S_drewN | apply Kd.S_drew)); exact (Kd.S_mono (ss4_ (Kd.S_types L.out W.out (by decide)) (fun _ hk => hk.2)) (fun _ h_ => h_.1)))); (case side2 => exact (Kd.S_reads' L.out).2.1); (case side3 => exact Kd.C_below al.out (be_ HB.out)); (case side4 => exact aK.out); rintro e dT ⟨rfl, hb⟩; replace L := Aside0.mk (Kd.S_below (by (with_reducible repeat (first | apply Kd.S_alloc | apply Kd.S_drewN | apply Kd.S_drew)); exact (Kd.S_mono (ss4_ (Kd.S_types L.out W.out (by decide)) (fun _ hk => hk.2)) (fun _ h_ => h_.1))) hb); replace B := bc_ B hb; replace W := bp_ (#[.int .i64 cz, .int .i64 cA, .int .i64 cC, .slice cF bQ.length bR]) W hb; replace HB := hb_ HB hb; (try clear hb); refine Aside0.out ?_))
      replace H := icb_ H; obtain ⟨rfl, H⟩ | ⟨rfl, H⟩ := H
      ·
       simp only [Option.some.injEq, Prod.mk.injEq] at H; obtain ⟨rfl, rfl⟩ := H; refine ⟨?_⟩
       try go_wp2
       go_ret2
       exact rt_ HB.out
      ·
       simp only [Option.some.injEq, Prod.mk.injEq] at H; obtain ⟨rfl, rfl⟩ := H; refine ⟨?_⟩
       try go_wp2
       go_ret2
       exact rt_ HB.out
     ·
      replace bH := fb_ bH; subst bH; replace H := if0_ H
      simp only [Option.some.injEq, Prod.mk.injEq] at H; obtain ⟨rfl, rfl⟩ := H; refine ⟨?_⟩
      go_wp2_with (first | ((with_reducible refine gate_dst (N := 9) rfl ?_); refine bz_ 9 ?_; intro ch hg dU hbox hb; replace L := Aside0.mk (Kd.S_below (sa_ L.out) hb); obtain ⟨W, ci, cj, HB⟩ := nb_ hg hbox HB hb; have X := nx_ hg B; have Y := ny_ hg B; replace B := bb_ B hb; clear hb hbox hg; have dh := nn_ Y X; have di := box4_ W.out; obtain ⟨dA, dC, cH⟩ := Kd.S_slice L.out; subst cH))
      go_ret2
      exact rt_ HB.out
 ·
  simp only [Option.some.injEq, Prod.mk.injEq] at H; obtain ⟨rfl, rfl⟩ := H
  go_enter Tryz.func12, Tryz.ntmps12
  go_wp2_with (first | ((with_reducible refine gate_dst (N := 1) rfl ?_); refine bz_ 1 ?_; intro am hg dV hbox hb; obtain ⟨B, bU, bV, HB⟩ := nb_ hg hbox HB hb; clear hb hbox hg; have dj := box4_ B.out) | ((with_reducible refine gc_ 27 ?_); refine gw_ (some 12) Tryz.func27 ?_; (with_reducible refine (spec_ModelOk.calls ?_ ?_ A2.out).mono ?_); exact cu_ al.out HB.out; exact aK.out; rintro e dW ⟨rfl, hb⟩; refine ⟨_, rfl, ?_⟩; replace B := bb_ B hb; replace HB := hb_ HB hb; (try clear hb)))
  go_ret2
  exact rt_ HB.out

def laws_toShape.f (a0_0 : Int) (a0_1 : Int) (a0_2 : Int) : Option (Int × Int × Int) := some (a0_0, a0_1, a0_2)
set_option maxHeartbeats 8000000 in
set_option maxRecDepth 100000 in
theorem laws_toShape.calls {a0_0 : Int} {a0_1 : Int} {a0_2 : Int} {r1 : Int} {r2 : Int} {r3 : Int} {w : World} (h : laws_toShape.f a0_0 a0_1 a0_2 = some (r1, r2, r3)) :
  Calls Tryz.prog 41 #[.agg #[.int .i64 a0_0, .int .i64 a0_1, .int .i64 a0_2]] w fun e w' => e = .returned (.agg #[.int .i64 r1, .int .i64 r2, .int .i64 r3]) ∧ Below w.heap.size w w' := by
 have hu32 := Tryz.underlying32; have hu23 := Tryz.underlying23; have HB := Aside0.mk (Below.refl w.heap.size w); have H : (some (a0_0, a0_1, a0_2)) = some (r1, r2, r3) := h; clear h; simp only [Option.some.injEq, Prod.mk.injEq] at H; obtain ⟨rfl, rfl, rfl⟩ := H
 go_enter Tryz.func41, Tryz.ntmps41
 go_wp2_with (first | ((with_reducible refine gate_dst (N := 1) rfl ?_); refine bz_ 1 ?_; intro O hg w2 hbox hb; obtain ⟨A, P, T, HB⟩ := nb_ hg hbox HB hb; clear hb hbox hg) | ((with_reducible refine gate_dst (N := 2) rfl ?_); refine bz_ 2 ?_; intro L hg w3 hbox hb; obtain ⟨B, U, W, HB⟩ := nb_ hg hbox HB hb; have D := nx_ hg A; have E := ny_ hg A; replace A := bb_ A hb; clear hb hbox hg) | ((with_reducible refine gate_dst (N := 3) rfl ?_); refine bz_ 3 ?_; intro X hg w4 hbox hb; obtain ⟨M, Y, Z, HB⟩ := nb_ hg hbox HB hb; have G := nx_ hg A; have I := ny_ hg A; replace A := bb_ A hb; have J := nx_ hg B; have K := ny_ hg B; replace B := bb_ B hb; clear hb hbox hg; have a1 := nn_ D E; have a2 := nn_ G I; have a3 := box3_ A.out; have a4 := nn_ K J; have a5 := box3_ M.out; have a0 := box3_ B.out))
 refine bodyPost_ret (results_cell_row rfl _ _ L 23 #[.int .i64 a0_0, .int .i64 a0_1, .int .i64 a0_2] (0, 0) _ rfl (bq_ B.out) Tryz.underlying23 rfl (by kernel_rfl)) rfl ?_; exact rt_ HB.out

def laws_toIntS.l0 : Nat → List Int → List Int → Int → Option (List Int)
 | 0, _, _, _ => none
 | k + 1, x0, x3, x4 => if x4 < (x0.length : Int) then (if 0 ≤ x4 then (if x4 < (x3.length : Int) then (laws_toIntS.l0 k x0 (x3.set (x4 : Int).toNat (rd x0 x4)) (wrap64 (x4 + 1))) else (none)) else (none)) else (some x3)
def laws_toIntS.f (k : Nat) (l0 : List Int) : Option (List Int) := if 0 ≤ (l0.length : Int) then (if ((l0.length : Int) : Int).toNat ≤ 35184372088832 then (laws_toIntS.l0 k l0 (List.replicate ((l0.length : Int) : Int).toNat 0) 0) else (none)) else (none)
set_option maxHeartbeats 8000000 in
set_option maxRecDepth 100000 in
theorem laws_toIntS.calls {k : Nat} {A0 : Option Addr} {c0 : Nat} {l0 : List Int} {r : List Int} {w : World} (hr0 : Kd.C (Kd.int .i64) w A0 l0.length l0) (hc0 : l0.length ≤ c0) (h : laws_toIntS.f k l0 = some r) :
  Calls Tryz.prog 109 #[.slice A0 l0.length c0] w fun e w' => ∃ v0_ : Value, e = .returned (v0_) ∧ Kd.R (Kd.int .i64) 3 w' w.heap.size (fun _ => True) v0_ r ∧ Below w.heap.size w w' := by
 have a5 := Aside0.mk hr0; have ab := Aside0.mk hc0; clear hr0 hc0; have HB := Aside0.mk (Below.refl w.heap.size w); have H : (if 0 ≤ (l0.length : Int) then (if ((l0.length : Int) : Int).toNat ≤ 35184372088832 then (laws_toIntS.l0 k l0 (List.replicate ((l0.length : Int) : Int).toNat 0) 0) else (none)) else (none)) = some r := h; clear h
 obtain ⟨c2, H⟩ := ip_ H; have U := eq_true c2; have W : decide (0 ≤ (l0.length : Int)) = true := dt_ c2; clear c2
 obtain ⟨c3, H⟩ := ip_ H; have X := eq_true c3; have Y : decide (((l0.length : Int) : Int).toNat ≤ 35184372088832) = true := dt_ c3; clear c3; obtain ⟨M, hy_⟩ : ∃ y_ : List Int, y_ = (List.replicate ((l0.length : Int) : Int).toNat 0) := ⟨_, rfl⟩; replace H : (laws_toIntS.l0 k l0 M 0) = some r := yh_
 have G := Aside0.mk hy_; clear hy_; have H' := Aside0.mk H; clear H
 go_enter Tryz.func109, Tryz.ntmps109
 go_wp2_with (first | ((with_reducible refine gate_dst (N := 7) rfl ?_); refine Kd.R_make (Kd.int .i64) _ 3 rfl (N := 7) rfl 47 _ _ rfl (l0.length : Int) rfl rfl Tryz.underlying47 (.int .i64 0) 8 info3 rfl (by decide) (by omega) 0 (ok := fun _ => True) (okp := fun _ => True) rfl (fun _ hk => hk) trivial (od_) (Nat.le_trans (Nat.mul_le_mul_right _ (od_ : (l0.length : Int).toNat ≤ 35184372088832)) (by omega)) (Below.refl _ _) (Nat.le_refl _) ?_; intro Z w4 I hb hg_ hnew_; clear hg_ hnew_; (first | rw [← G.out] at I | (simp only [Int.reduceToNat] at I; rw [← G.out] at I)); have O := Aside0.mk (Kd.R_lower I (below_size (be_ HB.out))); replace HB := hb_ HB hb; clear hb I))
 (try simp only [Act.put, List.setIfInBounds_toArray, List.set_cons_zero, List.set_cons_succ])
 go_loopg [4] k (fun kq v4 w' => ∃ (B : List Int) (A : Int), v4 = .int .i64 A ∧ Aside0 (laws_toIntS.l0 kq l0 B A = some r) ∧ Aside0 (kq ≤ k) ∧ Aside0 (Kd.R (Kd.int .i64) 3 w' w.heap.size (fun _ => True) Z B) ∧ Aside0 (Below w.heap.size w w'))
 case atStart => exact ⟨(M), (0), rl_, H', ⟨Nat.le_refl _⟩, ⟨ra_ O.out⟩, ⟨be_ HB.out⟩⟩
 case round =>
  clear H'; (try clear c1); (try clear c2); (try clear U); (try clear W); (try clear p2); (try clear c3); (try clear X); (try clear Y); obtain ⟨B, A, rfl, HA, a0, D, HB⟩ := hrel
  cases gk with
  | zero => exact absurd HA.out (by simp [laws_toIntS.l0])
  | succ k1 =>
   have H := HA.out; clear HA; simp only [laws_toIntS.l0] at H
   replace H := icd_ H; obtain ⟨a1, H⟩ | ⟨a1, H⟩ := H
   ·
    obtain ⟨a9, H⟩ := ipd_ H; obtain ⟨aa, H⟩ := ipd_ H; obtain ⟨J, hy_⟩ : ∃ y_ : List Int, y_ = (B.set (A : Int).toNat (rd l0 A)) := ⟨_, rfl⟩; replace H : (laws_toIntS.l0 k1 l0 J (wrap64 (A + 1))) = some r := yh_
    have P := Aside0.mk hy_; clear hy_; have H' := Aside0.mk H; clear H; have K : 0 ≤ (A : Int) := od_; have L : A < (l0.length : Int) := od_; obtain ⟨a6, a2, E⟩ := Kd.at_int a5.out A K L
    cases a2
    replace E := cw_ HB.out E; replace K := eq_true K; replace L := eq_true L; have p9 : 0 ≤ (A : Int) := od_; have q9 : (A : Int) < ((B.length : Int) : Int) := od_; obtain ⟨go9, a7, a3, a4, gl9, cl9, HG9⟩ := Kd.R_form D.out (by omega); (first | cases a3 | (injection a3 with ea_ en_ ec_; (first | subst ea_ | (injection ea_ with ea_; subst ea_)); subst ec_; clear en_)); have GB9 := Aside0.mk a4; have GG9 := Aside0.mk HG9; clear a4 gl9 HG9; obtain ⟨a8, hf9_0⟩ := Kd.R_celln 0 D.out (A : Int) p9 q9; replace p9 := eq_true p9; replace q9 := eq_true q9; have HP10 := Kd.R_putg D.out (A : Int) (rd l0 A)
    go_wp2_with (first | ((with_reducible refine gate_store (t := 3) (p := 20) rfl ?_); refine store_event (t := 3) (p := 20) (v := ?vo_w11) (w1 := (wr.setCell ⟨go9, (A : Int).toNat, none⟩ (.int .i64 (rd l0 A)))) ?hg ?ho ?hn ?hr ?_; (case ho => rfl); (case hg => rfl); (case hn => rfl); (case hr => first | (go_simp; done) | (go_simp; rfl)); intro T hw; have hg : wr.grownBy T (some go9) := (by rw [hw]; exact HP10.2); have hp_ : Kd.R (Kd.int .i64) 3 T w.heap.size (fun _ => True) (.slice (some ⟨go9, 0, none⟩) B.length a7) J := (by rw [hw, P.out]; exact HP10.1); clear HP10; replace D := Aside0.mk (hp_); replace HB := Aside0.mk ((by rw [hw]; exact below_set (HB.out) GB9.out : Below w.heap.size w T)); clear hg hw hp_))
    go_roundg k1
    case measure => have := a0.out; omega
    case rel => exact ⟨(J), (wrap64 (A + 1)), rl_, H', ⟨by have := a0.out; omega⟩, ⟨ra_ D.out⟩, ⟨be_ HB.out⟩⟩
   ·
    obtain rfl := oi_ H
    go_wp2
    go_ret
    exact ⟨_, by first | rfl | (simp [errW_none, errW_some] <;> rfl) | (simp [*, errW_none, errW_some] <;> rfl), by (with_reducible repeat (first | apply Kd.R_alloc | apply Kd.R_drewN | apply Kd.R_drew)); exact D.out, be_ HB.out⟩

def laws_toLayer.f (k : Nat) (a0_0 : Int) (a0_1 : Int) (a0_2 : Int) (a0_3 : Int) (a0_4 : Int) (a0_5 : Int) (a0_6 : Int) (l0_7 : List Int) (l0_8 : List Int) : Option (Int × Int × Int × Int × Int × Int × Int × List Int × List Int) := (laws_toIntS.f k l0_7).bind fun t373 => ((laws_toIntS.f k l0_8).bind fun t376 => (some (a0_0, a0_1, a0_2, a0_3, a0_4, a0_5, a0_6, t373, t376)))
set_option maxHeartbeats 8000000 in
set_option maxRecDepth 100000 in
theorem laws_toLayer.calls {k : Nat} {a0_0 : Int} {a0_1 : Int} {a0_2 : Int} {a0_3 : Int} {a0_4 : Int} {a0_5 : Int} {a0_6 : Int} {A0_7 : Option Addr} {c0_7 : Nat} {l0_7 : List Int} {A0_8 : Option Addr} {c0_8 : Nat} {l0_8 : List Int} {r1 : Int} {r2 : Int} {r3 : Int} {r4 : Int} {r5 : Int} {r6 : Int} {r7 : Int} {r8 : List Int} {r9 : List Int} {w : World} (hr0_7 : Kd.C (Kd.int .i64) w A0_7 l0_7.length l0_7) (hc0_7 : l0_7.length ≤ c0_7) (hr0_8 : Kd.C (Kd.int .i64) w A0_8 l0_8.length l0_8) (hc0_8 : l0_8.length ≤ c0_8) (h : laws_toLayer.f k a0_0 a0_1 a0_2 a0_3 a0_4 a0_5 a0_6 l0_7 l0_8 = some (r1, r2, r3, r4, r5, r6, r7, r8, r9)) :
  Calls Tryz.prog 80 #[.agg #[.int .i64 a0_0, .int .i64 a0_1, .int .i64 a0_2, .int .i64 a0_3, .int .i64 a0_4, .int .i64 a0_5, .int .i64 a0_6, .slice A0_7 l0_7.length c0_7, .slice A0_8 l0_8.length c0_8]] w fun e w' => ∃ v7_ v8_ : Value, e = .returned (.agg #[.int .i64 r1, .int .i64 r2, .int .i64 r3, .int .i64 r4, .int .i64 r5, .int .i64 r6, .int .i64 r7, v7_, v8_]) ∧ Kd.R (Kd.int .i64) 3 w' w.heap.size (fun k_ => some k_ ≠ (v8_ : Value).ownBlock) v7_ r8 ∧ Kd.R (Kd.int .i64) 3 w' w.heap.size (fun k_ => some k_ ≠ (v7_ : Value).ownBlock) v8_ r9 ∧ Below w.heap.size w w' := by
 have hu120 := Tryz.underlying120; have hu55 := Tryz.underlying55; have a1 := Aside0.mk hr0_7; have a2 := Aside0.mk hc0_7; clear hr0_7 hc0_7; have a3 := Aside0.mk hr0_8; have a4 := Aside0.mk hc0_8; clear hr0_8 hc0_8; have HB := Aside0.mk (Below.refl w.heap.size w); have H : ((laws_toIntS.f k l0_7).bind fun P => ((laws_toIntS.f k l0_8).bind fun G => (some (a0_0, a0_1, a0_2, a0_3, a0_4, a0_5, a0_6, P, G)))) = some (r1, r2, r3, r4, r5, r6, r7, r8, r9) := h; clear h; obtain ⟨P, A2, H⟩ := bo_ H; (try dsimp only at H); obtain ⟨G, A3, H⟩ := bo_ H; (try dsimp only at H); simp only [Option.some.injEq, Prod.mk.injEq] at H; obtain ⟨rfl, rfl, rfl, rfl, rfl, rfl, rfl, rfl, rfl⟩ := H
 go_enter Tryz.func80, Tryz.ntmps80
 go_wp2_with (first | ((with_reducible refine gate_dst (N := 1) rfl ?_); refine bz_ 1 ?_; intro a8 hg w4 hbox hb; obtain ⟨A, a9, aa, HB⟩ := nb_ hg hbox HB hb; clear hb hbox hg) | ((with_reducible refine gate_dst (N := 2) rfl ?_); refine bz_ 2 ?_; intro a5 hg w5 hbox hb; obtain ⟨B, ab, ac, HB⟩ := nb_ hg hbox HB hb; have I := nx_ hg A; have J := ny_ hg A; replace A := bb_ A hb; clear hb hbox hg) | ((with_reducible refine gate_dst (N := 3) rfl ?_); refine bz_ 3 ?_; intro U hg w6 hbox hb; obtain ⟨D, ad, ae, HB⟩ := nb_ hg hbox HB hb; have K := nx_ hg A; have L := ny_ hg A; replace A := bb_ A hb; have M := nx_ hg B; have O := ny_ hg B; replace B := bb_ B hb; clear hb hbox hg; have al := nn_ I J; have am := nn_ K L; have an := box9_ A.out; have af := nn_ O M; have ag := box9_ D.out) | ((with_reducible refine gc_ 109 ?_); refine gw_ (some 27) Tryz.func109 ?_; (with_reducible refine (laws_toIntS.calls ?_ ?_ A2.out).mono ?_); exact Kd.C_below a1.out (be_ HB.out); exact a2.out; rintro e aq ⟨ao, rfl, T, hb⟩; refine ⟨_, rfl, ?_⟩; have E := Aside0.mk (Kd.R_lower T (below_size (be_ HB.out))); replace A := bc_ A hb; replace B := bc_ B hb; replace D := bp_ (#[.int .i64 a0_0, .int .i64 a0_1, .int .i64 a0_2, .int .i64 a0_3, .int .i64 a0_4, .int .i64 a0_5, .int .i64 a0_6, .slice none 0 0, .slice none 0 0]) D hb; replace HB := hb_ HB hb; (try clear hb T); obtain ⟨Z, a0, a6⟩ := Kd.R_slice E.out; subst a6; have ah := box9_ D.out; have ai := box9_ A.out) | ((with_reducible refine gc_ 109 ?_); refine gw_ (some 31) Tryz.func109 ?_; (with_reducible refine (laws_toIntS.calls ?_ ?_ A3.out).mono ?_); exact Kd.C_below a3.out (be_ HB.out); exact a4.out; rintro e ar ⟨ap, rfl, T, hb⟩; refine ⟨_, rfl, ?_⟩; have W := Aside0.mk (Kd.R_lower (Kd.R_new' T (Kd.R_lt (rf_ E.out))) (below_size (be_ HB.out))); replace E := Aside0.mk (Kd.R_elder' (rf_ E.out) (Kd.R_base T) hb); replace A := bc_ A hb; replace B := bc_ B hb; replace D := bp_ (#[.int .i64 a0_0, .int .i64 a0_1, .int .i64 a0_2, .int .i64 a0_3, .int .i64 a0_4, .int .i64 a0_5, .int .i64 a0_6, .slice Z P.length a0, .slice none 0 0]) D hb; replace HB := hb_ HB hb; (try clear hb T); obtain ⟨X, Y, a7⟩ := Kd.R_slice W.out; subst a7; have aj := box9_ D.out; have ak := box9_ B.out))
 refine bodyPost_ret (results_cell_row rfl _ _ a5 55 #[.int .i64 a0_0, .int .i64 a0_1, .int .i64 a0_2, .int .i64 a0_3, .int .i64 a0_4, .int .i64 a0_5, .int .i64 a0_6, .slice Z P.length a0, .slice X G.length Y] (0, 0) _ rfl (bq_ B.out) Tryz.underlying55 rfl (by kernel_rfl)) rfl ?_; exact ⟨_, _, by first | rfl | (simp [errW_none, errW_some] <;> rfl) | (simp [*, errW_none, errW_some] <;> rfl), by (with_reducible repeat (first | apply Kd.R_alloc | apply Kd.R_drewN | apply Kd.R_drew)); exact Kd.R_mono (rs9_ (Kd.R_far (p := ⟨U, 8, none⟩) (Kd.R_types (Kd.R_types E.out D.out (by decide)) B.out (by decide)) (fun _ hk => hk.1.2) (.slice X G.length Y)) (fun _ hk => hk.2)) (fun _ hk => hk.1.1.2), by (with_reducible repeat (first | apply Kd.R_alloc | apply Kd.R_drewN | apply Kd.R_drew)); exact Kd.R_mono (rs9_ (Kd.R_far (p := ⟨U, 8, none⟩) (Kd.R_types (Kd.R_types W.out D.out (by decide)) B.out (by decide)) (fun _ hk => hk.1.2) (.slice X G.length Y)) (fun _ hk => hk.2)) (fun _ hk => hk.1.1.2), be_ HB.out⟩

def laws_toLayerS.l0 : Nat → List (S120) → List (S55) → Int → Option ((List (S55)))
 | 0, _, _, _ => none
 | k + 1, x0, x3, x4 => if x4 < (x0.length : Int) then (if 0 ≤ x4 then ((laws_toLayer.f k ((rd_T120 x0 x4).f0) ((rd_T120 x0 x4).f1) ((rd_T120 x0 x4).f2) ((rd_T120 x0 x4).f3) ((rd_T120 x0 x4).f4) ((rd_T120 x0 x4).f5) ((rd_T120 x0 x4).f6) ((rd_T120 x0 x4).f7) ((rd_T120 x0 x4).f8)).bind fun bt383 => (if x4 < (x3.length : Int) then (laws_toLayerS.l0 k x0 (x3.set (x4 : Int).toNat (⟨bt383.1, bt383.2.1, bt383.2.2.1, bt383.2.2.2.1, bt383.2.2.2.2.1, bt383.2.2.2.2.2.1, bt383.2.2.2.2.2.2.1, bt383.2.2.2.2.2.2.2.1, bt383.2.2.2.2.2.2.2.2⟩ : S55)) (wrap64 (x4 + 1))) else (none))) else (none)) else (some x3)
def laws_toLayerS.f (k : Nat) (l0 : List (S120)) : Option ((List (S55))) := if 0 ≤ (l0.length : Int) then (if ((l0.length : Int) : Int).toNat ≤ 2706490160679 then (laws_toLayerS.l0 k l0 (List.replicate ((l0.length : Int) : Int).toNat z55) 0) else (none)) else (none)
set_option maxHeartbeats 8000000 in
set_option maxRecDepth 100000 in
theorem laws_toLayerS.calls {k : Nat} {A0 : Option Addr} {c0 : Nat} {l0 : List (S120)} {r : List (S55)} {w : World} (hr0 : Kd.C k120 w A0 l0.length l0) (hc0 : l0.length ≤ c0) (h : laws_toLayerS.f k l0 = some r) :
  Calls Tryz.prog 42 #[.slice A0 l0.length c0] w fun e w' => ∃ v0_ : Value, e = .returned (v0_) ∧ Kd.S k55 55 w' w.heap.size (fun _ => True) v0_ r ∧ Below w.heap.size w w' := by
 have hu120 := Tryz.underlying120; have hu55 := Tryz.underlying55; have b3 := Aside0.mk hr0; have b7 := Aside0.mk hc0; clear hr0 hc0; have HB := Aside0.mk (Below.refl w.heap.size w); have H : (if 0 ≤ (l0.length : Int) then (if ((l0.length : Int) : Int).toNat ≤ 2706490160679 then (laws_toLayerS.l0 k l0 (List.replicate ((l0.length : Int) : Int).toNat z55) 0) else (none)) else (none)) = some r := h; clear h
 obtain ⟨c2, H⟩ := ip_ H; have aI := eq_true c2; have aJ : decide (0 ≤ (l0.length : Int)) = true := dt_ c2; clear c2
 obtain ⟨c3, H⟩ := ip_ H; have aK := eq_true c3; have aL : decide (((l0.length : Int) : Int).toNat ≤ 2706490160679) = true := dt_ c3; clear c3; obtain ⟨aw, hy_⟩ : ∃ y_ : List (S55), y_ = (List.replicate ((l0.length : Int) : Int).toNat z55) := ⟨_, rfl⟩; replace H : (laws_toLayerS.l0 k l0 aw 0) = some r := yh_
 have aa := Aside0.mk hy_; clear hy_; have H' := Aside0.mk H; clear H
 go_enter Tryz.func42, Tryz.ntmps42
 go_wp2_with (first | ((with_reducible refine gate_dst (N := 7) rfl ?_); refine Kd.S_make k55 _ 55 rfl (N := 7) rfl 24 _ _ rfl (l0.length : Int) rfl rfl Tryz.underlying24 (.agg #[(.int .i64 0), (.int .i64 0), (.int .i64 0), (.int .i64 0), (.int .i64 0), (.int .i64 0), (.int .i64 0), (.slice none 0 0), (.slice none 0 0)]) 104 info55 rfl (by decide) (by omega) z55 (ok := fun _ => True) (okp := fun _ => True) (k55_mkM _ _ _ z55 (Kd.R_nil _ _ _ _ _) (Kd.R_nil _ _ _ _ _)) (fun _ hk => hk) trivial (od_) (Nat.le_trans (Nat.mul_le_mul_right _ (od_ : (l0.length : Int).toNat ≤ 2706490160679)) (by omega)) (Below.refl _ _) (Nat.le_refl _) ?_; intro aM w4 ab hb hg_ hnew_; clear hg_ hnew_; (first | rw [← aa.out] at ab | (simp only [Int.reduceToNat] at ab; rw [← aa.out] at ab)); have aA := Aside0.mk (Kd.S_lower ab (below_size (be_ HB.out))); replace HB := hb_ HB hb; clear hb ab))
 (try simp only [Act.put, List.setIfInBounds_toArray, List.set_cons_zero, List.set_cons_succ])
 go_loopg [4] k (fun kq v4 w' => ∃ (B : List (S55)) (A : Int), v4 = .int .i64 A ∧ Aside0 (laws_toLayerS.l0 kq l0 B A = some r) ∧ Aside0 (kq ≤ k) ∧ Aside0 (Kd.S k55 55 w' w.heap.size (fun _ => True) aM B) ∧ Aside0 (Below w.heap.size w w'))
 case atStart => exact ⟨(aw), (0), rl_, H', ⟨Nat.le_refl _⟩, ⟨sa_ aA.out⟩, ⟨be_ HB.out⟩⟩
 case round =>
  clear H'; (try clear c2); (try clear aI); (try clear aJ); (try clear p2); (try clear c3); (try clear aK); (try clear aL); (try clear c4); obtain ⟨B, A, rfl, HA, aN, D, HB⟩ := hrel
  cases gk with
  | zero => exact absurd HA.out (by simp [laws_toLayerS.l0])
  | succ k1 =>
   have H := HA.out; clear HA; simp only [laws_toLayerS.l0] at H
   replace H := icd_ H; obtain ⟨aO, H⟩ | ⟨aO, H⟩ := H
   ·
    obtain ⟨b5, H⟩ := ipd_ H; obtain ⟨⟨J, K, L, M, O, P, T, ac, ad⟩, A8, H⟩ := bo_ H; (try dsimp only at H); obtain ⟨b6, H⟩ := ipd_ H; obtain ⟨ae, hy_⟩ : ∃ y_ : List (S55), y_ = (B.set (A : Int).toNat (⟨J, K, L, M, O, P, T, ac, ad⟩ : S55)) := ⟨_, rfl⟩; replace H : (laws_toLayerS.l0 k1 l0 ae (wrap64 (A + 1))) = some r := yh_
    have aC := Aside0.mk hy_; clear hy_; have H' := Aside0.mk H; clear H; have af : 0 ≤ (A : Int) := od_; have ag : A < (l0.length : Int) := od_; obtain ⟨b4, aQ, aR, aS, aT, aP, U, W, X, Y, Z, a0, a1, a2, a3, a4, a5, a6, a7⟩ := at_T120 b3.out A af ag
    cases aP
    replace U := cw_ HB.out U; replace W := cw_ HB.out W; replace X := cw_ HB.out X; replace Y := cw_ HB.out Y; replace Z := cw_ HB.out Z; replace a0 := cw_ HB.out a0; replace a1 := cw_ HB.out a1; replace a2 := cw_ HB.out a2; replace a3 := cw_ HB.out a3; have ah := Aside0.mk a5; have ai := Aside0.mk a4; clear a5 a4; have aj := Aside0.mk a7; have ak := Aside0.mk a6; clear a7 a6; replace af := eq_true af; replace ag := eq_true ag
    go_wp2_with (first | ((with_reducible refine gc_ 80 ?_); refine gw_ (some 20) Tryz.func80 ?_; (with_reducible refine (laws_toLayer.calls ?_ ?_ ?_ ?_ A8.out).mono ?_); exact cu_ ah.out HB.out; exact ai.out; exact cu_ aj.out HB.out; exact ak.out; rintro e E ⟨a8, a9, rfl, aD, aE, hb⟩; refine ⟨_, rfl, ?_⟩; replace D := Aside0.mk (Kd.S_mono (Kd.S_told (Kd.S_told (Kd.S_old (sa_ D.out) hb) (Kd.R_base aD)) (Kd.R_base aE)) (fun _ h_ => h_.1)); have G := Aside0.mk (Kd.R_lower aD (below_size (be_ HB.out))); have I := Aside0.mk (Kd.R_lower aE (below_size (be_ HB.out))); replace HB := hb_ HB hb; (try clear hb aD aE); have aF : 0 ≤ (A : Int) := od_; have aG : (A : Int) < ((B.length : Int) : Int) := od_; obtain ⟨go10, ax, ay, az, gl10, cl10, HG10⟩ := Kd.S_form D.out (by omega); (first | cases ay | (injection ay with ea_ en_ ec_; (first | subst ea_ | (injection ea_ with ea_; subst ea_)); subst ec_; clear en_)); have GB10 := Aside0.mk az; have GG10 := Aside0.mk HG10; clear az gl10 HG10; obtain ⟨_, ce10, hcl10, hM10, hcc10, hfr10, _, _⟩ := Kd.S_elem D.out z55 (A : Int) aF aG; obtain ⟨ve10_7, ve10_8, rfl, ge10_7, ge10_8⟩ := k55_openM hM10; have aU : E.cell? ⟨go10, (A : Int).toNat * 9, none⟩ = some (.int .i64 ((rd_T55 B A).f0)) := hcc10 0 _ rfl; have aV : E.cell? ⟨go10, (A : Int).toNat * 9 + 1, none⟩ = some (.int .i64 ((rd_T55 B A).f1)) := hcc10 1 _ rfl; have aW : E.cell? ⟨go10, (A : Int).toNat * 9 + 2, none⟩ = some (.int .i64 ((rd_T55 B A).f2)) := hcc10 2 _ rfl; have aX : E.cell? ⟨go10, (A : Int).toNat * 9 + 3, none⟩ = some (.int .i64 ((rd_T55 B A).f3)) := hcc10 3 _ rfl; have aY : E.cell? ⟨go10, (A : Int).toNat * 9 + 4, none⟩ = some (.int .i64 ((rd_T55 B A).f4)) := hcc10 4 _ rfl; have aZ : E.cell? ⟨go10, (A : Int).toNat * 9 + 5, none⟩ = some (.int .i64 ((rd_T55 B A).f5)) := hcc10 5 _ rfl; have b0 : E.cell? ⟨go10, (A : Int).toNat * 9 + 6, none⟩ = some (.int .i64 ((rd_T55 B A).f6)) := hcc10 6 _ rfl; have b1 : E.cell? ⟨go10, (A : Int).toNat * 9 + 7, none⟩ = some (ve10_7) := hcc10 7 _ rfl; have b2 : E.cell? ⟨go10, (A : Int).toNat * 9 + 8, none⟩ = some (ve10_8) := hcc10 8 _ rfl; have hf10_0 : E.frozen? ⟨go10, (A : Int).toNat * 9, none⟩ = false := hfr10 0; have hf10_1 : E.frozen? ⟨go10, (A : Int).toNat * 9 + 1, none⟩ = false := hfr10 1; have hf10_2 : E.frozen? ⟨go10, (A : Int).toNat * 9 + 2, none⟩ = false := hfr10 2; have hf10_3 : E.frozen? ⟨go10, (A : Int).toNat * 9 + 3, none⟩ = false := hfr10 3; have hf10_4 : E.frozen? ⟨go10, (A : Int).toNat * 9 + 4, none⟩ = false := hfr10 4; have hf10_5 : E.frozen? ⟨go10, (A : Int).toNat * 9 + 5, none⟩ = false := hfr10 5; have hf10_6 : E.frozen? ⟨go10, (A : Int).toNat * 9 + 6, none⟩ = false := hfr10 6; have hf10_7 : E.frozen? ⟨go10, (A : Int).toNat * 9 + 7, none⟩ = false := hfr10 7; have hf10_8 : E.frozen? ⟨go10, (A : Int).toNat * 9 + 8, none⟩ = false := hfr10 8; clear hcl10 hcc10 hfr10 hM10; replace aF := eq_true aF; replace aG := eq_true aG; have n_ := Aside0.mk (Kd.S_mono (ok' := (fun k_ => some k_ ≠ (a8 : Value).ownBlock ∧ some k_ ≠ (a9 : Value).ownBlock)) D.out (fun k_ hk => ⟨hk.1.2, hk.2⟩)); clear D; have D := n_; clear n_; have HX12 := Aside0.mk (show Kd.S k55 55 E w.heap.size (fun k_ => ((fun _ => True)) k_ ∧ ¬ ((fun k_ => some k_ = (a8 : Value).ownBlock ∨ some k_ = (a9 : Value).ownBlock)) k_) (.slice (some ⟨go10, 0, none⟩) B.length ax) B from (Kd.S_mono (sa_ D.out) (fun k_ hk => ⟨trivial, fun e_ => e_.elim (fun h_ => hk.1 h_) (fun h_ => hk.2 h_)⟩))); obtain ⟨oki12, ce12, hcl12, hM12, hcc12, hfr12, hoki12, hH12⟩ := Kd.S_elem HX12.out z55 (A : Int) (od_) (by have h_ : (A : Int) < ((B.length : Int) : Int) := od_; first | exact h_ | (have e_ := (Kd.S_reads' D.out).1; omega) | simpa using h_); obtain ⟨ve12_7, ve12_8, rfl, ge12_7, ge12_8⟩ := k55_openM hM12; have HP12 := Kd.S_seg hH12 (od_) (by have h_ : (A : Int) < ((B.length : Int) : Int) := od_; first | exact h_ | (have e_ := (Kd.S_reads' D.out).1; omega) | simpa using h_) (seg := [.int .i64 J, .int .i64 K, .int .i64 L, .int .i64 M, .int .i64 O, .int .i64 P, .int .i64 T, a8, a9]) (j := 0) (show 9 ≤ 9 from by decide) (x' := (⟨J, K, L, M, O, P, T, ac, ad⟩ : S55)) (k55_mkM _ _ _ (⟨J, K, L, M, O, P, T, ac, ad⟩ : S55) (Kd.R_mono (Kd.R_tight rfl (Kd.R_mono (ok' := fun k_ => ((fun _ => True)) k_ ∧ k_ ≠ go10) (Kd.R_apart' (G.out) (Kd.S_typed D.out) (by decide)) (fun k_ hk => ⟨trivial, fun e_ => (hk.2) (by rw [e_]; rfl)⟩))) (fun _ h_ => Or.inr (Or.inl h_))) (Kd.R_mono (Kd.R_tight rfl (Kd.R_mono (ok' := fun k_ => ((fun _ => True)) k_ ∧ k_ ≠ go10) (Kd.R_apart' (I.out) (Kd.S_typed D.out) (by decide)) (fun k_ hk => ⟨trivial, fun e_ => (hk.2) (by rw [e_]; rfl)⟩))) (fun _ h_ => Or.inr (Or.inr (h_))))) (fun _ hk => hk) (fun k_ hk_ => hk_.elim (fun h_ => ((Kd.R_mono (ok' := fun k_ => ((fun _ => True)) k_ ∧ k_ ≠ go10) (Kd.R_apart' (G.out) (Kd.S_typed D.out) (by decide)) (fun k_ hk => ⟨trivial, fun e_ => (hk.2) (by rw [e_]; rfl)⟩))).1 k_ h_.symm) (fun h_ => ((Kd.R_mono (ok' := fun k_ => ((fun _ => True)) k_ ∧ k_ ≠ go10) (Kd.R_apart' (I.out) (Kd.S_typed D.out) (by decide)) (fun k_ hk => ⟨trivial, fun e_ => (hk.2) (by rw [e_]; rfl)⟩))).1 k_ h_.symm)); have al := hcc12 0 _ rfl; (try simp only [show (k55).sz = 9 from rfl, Nat.mul_one, Nat.add_zero] at al); have hf12_0 := hfr12 0; (try simp only [show (k55).sz = 9 from rfl, Nat.mul_one, Nat.add_zero] at hf12_0); have am := hcc12 1 _ rfl; (try simp only [show (k55).sz = 9 from rfl, Nat.mul_one, Nat.add_zero] at am); have hf12_1 := hfr12 1; (try simp only [show (k55).sz = 9 from rfl, Nat.mul_one, Nat.add_zero] at hf12_1); have an := hcc12 2 _ rfl; (try simp only [show (k55).sz = 9 from rfl, Nat.mul_one, Nat.add_zero] at an); have hf12_2 := hfr12 2; (try simp only [show (k55).sz = 9 from rfl, Nat.mul_one, Nat.add_zero] at hf12_2); have ao := hcc12 3 _ rfl; (try simp only [show (k55).sz = 9 from rfl, Nat.mul_one, Nat.add_zero] at ao); have hf12_3 := hfr12 3; (try simp only [show (k55).sz = 9 from rfl, Nat.mul_one, Nat.add_zero] at hf12_3); have ap := hcc12 4 _ rfl; (try simp only [show (k55).sz = 9 from rfl, Nat.mul_one, Nat.add_zero] at ap); have hf12_4 := hfr12 4; (try simp only [show (k55).sz = 9 from rfl, Nat.mul_one, Nat.add_zero] at hf12_4); have aq := hcc12 5 _ rfl; (try simp only [show (k55).sz = 9 from rfl, Nat.mul_one, Nat.add_zero] at aq); have hf12_5 := hfr12 5; (try simp only [show (k55).sz = 9 from rfl, Nat.mul_one, Nat.add_zero] at hf12_5); have ar := hcc12 6 _ rfl; (try simp only [show (k55).sz = 9 from rfl, Nat.mul_one, Nat.add_zero] at ar); have hf12_6 := hfr12 6; (try simp only [show (k55).sz = 9 from rfl, Nat.mul_one, Nat.add_zero] at hf12_6); have au := hcc12 7 _ rfl; (try simp only [show (k55).sz = 9 from rfl, Nat.mul_one, Nat.add_zero] at au); have hf12_7 := hfr12 7; (try simp only [show (k55).sz = 9 from rfl, Nat.mul_one, Nat.add_zero] at hf12_7); have av := hcc12 8 _ rfl; (try simp only [show (k55).sz = 9 from rfl, Nat.mul_one, Nat.add_zero] at av); have hf12_8 := hfr12 8; (try simp only [show (k55).sz = 9 from rfl, Nat.mul_one, Nat.add_zero] at hf12_8); clear hcl12 hcc12 hfr12 hM12 hoki12 hH12) | ((with_reducible refine gate_store (t := 55) (p := 21) rfl ?_); refine store_event (t := 55) (p := 21) (v := ?vo_w13) (w1 := (((((((((E.setCell ⟨go10, (A : Int).toNat * 9, none⟩ (.int .i64 J)).setCell ⟨go10, (A : Int).toNat * 9 + 1, none⟩ (.int .i64 K)).setCell ⟨go10, (A : Int).toNat * 9 + 2, none⟩ (.int .i64 L)).setCell ⟨go10, (A : Int).toNat * 9 + 3, none⟩ (.int .i64 M)).setCell ⟨go10, (A : Int).toNat * 9 + 4, none⟩ (.int .i64 O)).setCell ⟨go10, (A : Int).toNat * 9 + 5, none⟩ (.int .i64 P)).setCell ⟨go10, (A : Int).toNat * 9 + 6, none⟩ (.int .i64 T)).setCell ⟨go10, (A : Int).toNat * 9 + 7, none⟩ (a8)).setCell ⟨go10, (A : Int).toNat * 9 + 8, none⟩ (a9))) ?hg ?ho ?hn ?hr ?_; (case ho => rfl); (case hg => rfl); (case hn => rfl); (case hr => first | (go_simp; done) | (go_simp; rfl) | (have o0_ : (a8 : Value).oneCell' = true := (by obtain ⟨_, _, e_, _⟩ := Kd.R_reads G.out; rw [e_]; rfl); have o1_ : (a9 : Value).oneCell' = true := (by obtain ⟨_, _, e_, _⟩ := Kd.R_reads I.out; rw [e_]; rfl); go_simp; (try (rw [run_store _ _ _ _ _ o0_]; go_simp)); (try (rw [run_store _ _ _ _ _ o1_]; go_simp)); done) | ((obtain ⟨_, _, e_, _⟩ := Kd.R_reads G.out; subst e_); (obtain ⟨_, _, e_, _⟩ := Kd.R_reads I.out; subst e_); first | (go_simp; done) | (go_simp; rfl))); intro aH hw; have hg : E.grownBy aH (some go10) := (by rw [hw]; exact HP12.2); have hp_ : Kd.S k55 55 aH w.heap.size (fun _ => True) (.slice (some ⟨go10, 0, none⟩) B.length ax) ae := (by rw [hw, aC.out]; exact HP12.1); clear HP12; replace D := Aside0.mk (hp_); replace HB := Aside0.mk ((by rw [hw]; exact below_set (below_set (below_set (below_set (below_set (below_set (below_set (below_set (below_set (HB.out) GB10.out) GB10.out) GB10.out) GB10.out) GB10.out) GB10.out) GB10.out) GB10.out) GB10.out : Below w.heap.size w aH)); clear G I; clear hg hw hp_))
    go_roundg k1
    case measure => have := aN.out; omega
    case rel => exact ⟨(ae), (wrap64 (A + 1)), rl_, H', ⟨by have := aN.out; omega⟩, ⟨sa_ D.out⟩, ⟨be_ HB.out⟩⟩
   ·
    obtain rfl := oi_ H
    go_wp2
    go_ret
    exact ⟨_, by first | rfl | (simp [errW_none, errW_some] <;> rfl) | (simp [*, errW_none, errW_some] <;> rfl), by (with_reducible repeat (first | apply Kd.S_alloc | apply Kd.S_drewN | apply Kd.S_drew)); exact D.out, be_ HB.out⟩

def laws_toModel.f (k : Nat) (a0_0 : Int) (a0_1 : Int) (a0_2 : Int) (l0_3 : List (S120)) : Option (Int × Int × Int × (List (S55))) := (laws_toShape.f a0_0 a0_1 a0_2).bind fun bt400 => ((laws_toLayerS.f k l0_3).bind fun t403 => (some (bt400.1, bt400.2.1, bt400.2.2, t403)))
set_option maxHeartbeats 8000000 in
set_option maxRecDepth 100000 in
theorem laws_toModel.calls {k : Nat} {a0_0 : Int} {a0_1 : Int} {a0_2 : Int} {A0_3 : Option Addr} {c0_3 : Nat} {l0_3 : List (S120)} {r1 : Int} {r2 : Int} {r3 : Int} {r4 : List (S55)} {w : World} (hr0_3 : Kd.C k120 w A0_3 l0_3.length l0_3) (hc0_3 : l0_3.length ≤ c0_3) (h : laws_toModel.f k a0_0 a0_1 a0_2 l0_3 = some (r1, r2, r3, r4)) :
  Calls Tryz.prog 13 #[.agg #[.int .i64 a0_0, .int .i64 a0_1, .int .i64 a0_2, .slice A0_3 l0_3.length c0_3]] w fun e w' => ∃ v3_ : Value, e = .returned (.agg #[.int .i64 r1, .int .i64 r2, .int .i64 r3, v3_]) ∧ Kd.S k55 55 w' w.heap.size (fun _ => True) v3_ r4 ∧ Below w.heap.size w w' := by
 have hu35 := Tryz.underlying35; have hu26 := Tryz.underlying26; have hu32 := Tryz.underlying32; have hu23 := Tryz.underlying23; have Z := Aside0.mk hr0_3; have a0 := Aside0.mk hc0_3; clear hr0_3 hc0_3; have HB := Aside0.mk (Below.refl w.heap.size w); have H : ((laws_toShape.f a0_0 a0_1 a0_2).bind fun E => ((laws_toLayerS.f k l0_3).bind fun O => (some (E.1, E.2.1, E.2.2, O)))) = some (r1, r2, r3, r4) := h; clear h; obtain ⟨⟨T, U, W⟩, A2, H⟩ := bo_ H; (try dsimp only at H); obtain ⟨O, A3, H⟩ := bo_ H; (try dsimp only at H); simp only [Option.some.injEq, Prod.mk.injEq] at H; obtain ⟨rfl, rfl, rfl, rfl⟩ := H
 go_enter Tryz.func13, Tryz.ntmps13
 go_wp2_with (first | ((with_reducible refine gate_dst (N := 1) rfl ?_); refine bz_ 1 ?_; intro a5 hg w4 hbox hb; obtain ⟨A, a6, a7, HB⟩ := nb_ hg hbox HB hb; clear hb hbox hg) | ((with_reducible refine gate_dst (N := 2) rfl ?_); refine bz_ 2 ?_; intro a1 hg w5 hbox hb; obtain ⟨B, a8, a9, HB⟩ := nb_ hg hbox HB hb; have G := nx_ hg A; have I := ny_ hg A; replace A := bb_ A hb; clear hb hbox hg) | ((with_reducible refine gate_dst (N := 3) rfl ?_); refine bz_ 3 ?_; intro a2 hg w6 hbox hb; obtain ⟨D, aa, ab, HB⟩ := nb_ hg hbox HB hb; have J := nx_ hg A; have K := ny_ hg A; replace A := bb_ A hb; have L := nx_ hg B; have M := ny_ hg B; replace B := bb_ B hb; clear hb hbox hg; have ah := nn_ G I; have ai := nn_ J K; have aj := box4_ A.out) | ((with_reducible refine gc_ 41 ?_); refine gw_ (some 6) Tryz.func41 ?_; (with_reducible refine (laws_toShape.calls A2.out).mono ?_); rintro e al ⟨rfl, hb⟩; refine ⟨_, rfl, ?_⟩; replace A := bb_ A hb; replace B := bb_ B hb; replace D := bb_ D hb; replace HB := hb_ HB hb; (try clear hb); have ac := nn_ M L; have ad := box4_ D.out; have ae := box4_ A.out) | ((with_reducible refine gc_ 42 ?_); refine gw_ (some 10) Tryz.func42 ?_; (with_reducible refine (laws_toLayerS.calls ?_ ?_ A3.out).mono ?_); exact Kd.C_below Z.out (be_ HB.out); exact a0.out; rintro e am ⟨ak, rfl, a3, hb⟩; refine ⟨_, rfl, ?_⟩; have P := Aside0.mk (Kd.S_lower a3 (below_size (be_ HB.out))); replace A := bc_ A hb; replace B := bc_ B hb; replace D := bp_ (#[.int .i64 T, .int .i64 U, .int .i64 W, .slice none 0 0]) D hb; replace HB := hb_ HB hb; (try clear hb a3); obtain ⟨X, Y, a4⟩ := Kd.S_slice P.out; subst a4; have af := box4_ D.out; have ag := box4_ B.out))
 refine bodyPost_ret (results_cell_row rfl _ _ a1 26 #[.int .i64 T, .int .i64 U, .int .i64 W, .slice X O.length Y] (0, 0) _ rfl (bq_ B.out) Tryz.underlying26 rfl (by kernel_rfl)) rfl ?_; exact ⟨_, by first | rfl | (simp [errW_none, errW_some] <;> rfl) | (simp [*, errW_none, errW_some] <;> rfl), by (with_reducible repeat (first | apply Kd.S_alloc | apply Kd.S_drewN | apply Kd.S_drew)); exact Kd.S_mono (ss4_ (Kd.S_far (p := ⟨a2, 3, none⟩) (Kd.S_types (Kd.S_types P.out D.out (by decide)) B.out (by decide)) (fun _ hk => hk.1.2) (.slice X O.length Y)) (fun _ hk => hk.2)) (fun _ hk => trivial), be_ HB.out⟩

def kinds.f : Option Int := some 0


def kmany (s : ByteArray) : Int × Bool := if s = ⟨#[100, 101, 110, 115, 101]⟩ then (5, true) else if s = ⟨#[99, 111, 110, 118]⟩ then (7, true) else if s = ⟨#[109, 97, 120]⟩ then (2, true) else if s = ⟨#[97, 118, 103]⟩ then (2, true) else if s = ⟨#[114, 101, 108, 117]⟩ then (1, true) else if s = ⟨#[102, 108, 97, 116]⟩ then (0, true) else (0, false)
def KM1 : DataW Unit := (DataW.map []).put (.string [100, 101, 110, 115, 101]) (.lit (.int .i64 5))
def KM2 : DataW Unit := KM1.put (.string [99, 111, 110, 118]) (.lit (.int .i64 7))
def KM3 : DataW Unit := KM2.put (.string [109, 97, 120]) (.lit (.int .i64 2))
def KM4 : DataW Unit := KM3.put (.string [97, 118, 103]) (.lit (.int .i64 2))
def KM5 : DataW Unit := KM4.put (.string [114, 101, 108, 117]) (.lit (.int .i64 1))
def KM : DataW Unit := KM5.put (.string [102, 108, 97, 116]) (.lit (.int .i64 0))
theorem str_ne {s : ByteArray} {l : List UInt8} (h : ¬ s = ⟨l.toArray⟩) : (Lit.string s.data.toList) ≠ .string l := fun e => by
  injection e with e
  exact h (ByteArray.ext (Array.toList_inj.1 (by rw [e])))
theorem km_look (s : ByteArray) : Maps.has KM (.string s.data.toList) = (kmany s).2 ∧ KM.atKey (.string s.data.toList) (.lit (.int .i64 0)) = .lit (.int .i64 (kmany s).1) := by
  unfold kmany
  by_cases h1 : s = ⟨#[100, 101, 110, 115, 101]⟩
  · rw [if_pos h1, h1]; exact ⟨by decide, by rfl⟩
  by_cases h2 : s = ⟨#[99, 111, 110, 118]⟩
  · rw [if_neg h1, if_pos h2, h2]; exact ⟨by decide, by rfl⟩
  by_cases h3 : s = ⟨#[109, 97, 120]⟩
  · rw [if_neg h1, if_neg h2, if_pos h3, h3]; exact ⟨by decide, by rfl⟩
  by_cases h4 : s = ⟨#[97, 118, 103]⟩
  · rw [if_neg h1, if_neg h2, if_neg h3, if_pos h4, h4]; exact ⟨by decide, by rfl⟩
  by_cases h5 : s = ⟨#[114, 101, 108, 117]⟩
  · rw [if_neg h1, if_neg h2, if_neg h3, if_neg h4, if_pos h5, h5]; exact ⟨by decide, by rfl⟩
  by_cases h6 : s = ⟨#[102, 108, 97, 116]⟩
  · rw [if_neg h1, if_neg h2, if_neg h3, if_neg h4, if_neg h5, if_pos h6, h6]; exact ⟨by decide, by rfl⟩
  rw [if_neg h1, if_neg h2, if_neg h3, if_neg h4, if_neg h5, if_neg h6]
  unfold KM KM5 KM4 KM3 KM2 KM1
  rw [Maps.has_put_other (str_ne h6), Maps.has_put_other (str_ne h5), Maps.has_put_other (str_ne h4), Maps.has_put_other (str_ne h3), Maps.has_put_other (str_ne h2), Maps.has_put_other (str_ne h1),
    Maps.atKey_put_other (str_ne h6), Maps.atKey_put_other (str_ne h5), Maps.atKey_put_other (str_ne h4), Maps.atKey_put_other (str_ne h3), Maps.atKey_put_other (str_ne h2), Maps.atKey_put_other (str_ne h1)]
  exact ⟨rfl, rfl⟩
abbrev OwnK (w : World) (b n : Nat) (D : DataW Unit) : Prop := w.ownsMap Tryz.prog 9 (plainElem Tryz.prog 3) b n D
theorem und112 : Tryz.prog.underlying 112 = some (.map 9 3) := by kernel_rfl
theorem keyed9 : Go.Maps.Keyed Tryz.prog 9 := Go.Maps.string_keyed Tryz.underlying9
section
variable {ops : Array Oper} {rest : List Oper} {o : Oper} {a : Act} {Q : Exit → Act → World → Prop} {W : World}
theorem makemap_step (hg : o.guard = none) (hop : o.op = .makeMap 112 none) (h : ∀ w1 b, OwnK w1 b 0 (.map []) → Below W.heap.size W w1 → W.heap.size ≤ b → wpList Tryz.prog ops Q rest (a.put o.dst (.map (some b))) w1) : wpList Tryz.prog ops Q (o :: rest) a W := by
  refine wpList_plain hg fun K hK => ?_
  unfold Oper.wp
  simp [execOp, hop, Go.RowKit.run_makeMap, Result.andThen]
  exact hK _ _ (h _ _ (World.ownsMap_made W Tryz.prog 9 (plainElem Tryz.prog 3)) (below_alloc (Below.refl _ _) _) (Nat.le_refl _))
theorem insert_step {w0 : World} {b n : Nat} {D : DataW Unit} (base : Nat) (hg : o.guard = none) (m k v : Operand) (hop : o.op = .insert 112 m k v) (hm : a.eval m = .map (some b)) (hown : OwnK W b n D) (hn : n < 100) (l : List UInt8) (x : Int)
    (hx : a.eval k = .string ⟨l.toArray⟩) (hs : l.length ≤ 100) (hv : a.eval v = .int .i64 x) (hwf : (Lit.int .i64 x).wf = true) (HB : Below base w0 W) (hb : base ≤ b) (hbase : base ≤ W.heap.size)
    (h : ∀ w1, OwnK w1 b (n + 1) (D.put (.string l) (.lit (.int .i64 x))) → Below base w0 w1 → base ≤ w1.heap.size → wpList Tryz.prog ops Q rest (a.put o.dst undef) w1) : wpList Tryz.prog ops Q (o :: rest) a W := by
  refine wpList_plain hg fun K hK => ?_
  have hkey : keyOf Tryz.prog 9 (.string ⟨l.toArray⟩) = some (.string l) := by
    have := Go.WideMaps.keyOf_string_mk (P := Tryz.prog) (k := 9) Tryz.underlying9 (s := ⟨l.toArray⟩) (by show l.toArray.size ≤ maxLen; simp [maxLen]; omega)
    simpa using this
  obtain ⟨w', hrun, r1, r2⟩ := hown.update keyed9 und112 (by simp only [maxLen]; omega) hkey (plainElem_int (H := Unit) Tryz.underlying3 hwf)
  unfold Oper.wp
  simp [execOp, hop, hm, hx, hv, hrun, Result.andThen]
  exact hK _ _ (h w' r1 (HB.grown r2 hbase (fun k hk => by injection hk with hk; omega)) (Nat.le_trans hbase r2.size))
end
theorem kinds_step {ops : Array Oper} {rest : List Oper} {o0 o1 o2 o3 o4 o5 o6 : Oper} {a : Act} {Q : Exit → Act → World → Prop} {W : World} (hsz : 14 < a.tmps.size) (g0 : o0.guard = none) (d0 : o0.dst = some 14) (p0 : o0.op = .makeMap 112 none)
    (g1 : o1.guard = none) (d1 : o1.dst = none) (p1 : o1.op = .insert 112 (.tmp 14) (.const (.string ⟨#[100, 101, 110, 115, 101]⟩)) (.const (.int .i64 5))) (g2 : o2.guard = none) (d2 : o2.dst = none) (p2 : o2.op = .insert 112 (.tmp 14) (.const (.string ⟨#[99, 111, 110, 118]⟩)) (.const (.int .i64 7)))
    (g3 : o3.guard = none) (d3 : o3.dst = none) (p3 : o3.op = .insert 112 (.tmp 14) (.const (.string ⟨#[109, 97, 120]⟩)) (.const (.int .i64 2))) (g4 : o4.guard = none) (d4 : o4.dst = none) (p4 : o4.op = .insert 112 (.tmp 14) (.const (.string ⟨#[97, 118, 103]⟩)) (.const (.int .i64 2)))
    (g5 : o5.guard = none) (d5 : o5.dst = none) (p5 : o5.op = .insert 112 (.tmp 14) (.const (.string ⟨#[114, 101, 108, 117]⟩)) (.const (.int .i64 1))) (g6 : o6.guard = none) (d6 : o6.dst = none) (p6 : o6.op = .insert 112 (.tmp 14) (.const (.string ⟨#[102, 108, 97, 116]⟩)) (.const (.int .i64 0)))
    (h : ∀ w1 b, OwnK w1 b 6 KM → Below W.heap.size W w1 → wpList Tryz.prog ops Q rest (a.put (some 14) (.map (some b))) w1) : wpList Tryz.prog ops Q (o0 :: o1 :: o2 :: o3 :: o4 :: o5 :: o6 :: rest) a W := by
  refine makemap_step g0 p0 fun w1 b hm hb hle => ?_
  rw [d0]
  have e14 : (a.put (some 14) (.map (some b))).eval (.tmp 14) = .map (some b) := by simp [Act.eval, Act.put, hsz]
  have hs := hb.size
  refine insert_step W.heap.size g1 _ _ _ p1 e14 hm (by omega) [100, 101, 110, 115, 101] 5 rfl (by decide) rfl (by decide) hb hle hs fun w2 hm hb hs => ?_
  rw [d1, show ∀ x : Act, x.put none undef = x from fun _ => rfl]
  refine insert_step W.heap.size g2 _ _ _ p2 e14 hm (by omega) [99, 111, 110, 118] 7 rfl (by decide) rfl (by decide) hb hle hs fun w3 hm hb hs => ?_
  rw [d2, show ∀ x : Act, x.put none undef = x from fun _ => rfl]
  refine insert_step W.heap.size g3 _ _ _ p3 e14 hm (by omega) [109, 97, 120] 2 rfl (by decide) rfl (by decide) hb hle hs fun w4 hm hb hs => ?_
  rw [d3, show ∀ x : Act, x.put none undef = x from fun _ => rfl]
  refine insert_step W.heap.size g4 _ _ _ p4 e14 hm (by omega) [97, 118, 103] 2 rfl (by decide) rfl (by decide) hb hle hs fun w5 hm hb hs => ?_
  rw [d4, show ∀ x : Act, x.put none undef = x from fun _ => rfl]
  refine insert_step W.heap.size g5 _ _ _ p5 e14 hm (by omega) [114, 101, 108, 117] 1 rfl (by decide) rfl (by decide) hb hle hs fun w6 hm hb hs => ?_
  rw [d5, show ∀ x : Act, x.put none undef = x from fun _ => rfl]
  refine insert_step W.heap.size g6 _ _ _ p6 e14 hm (by omega) [102, 108, 97, 116] 0 rfl (by decide) rfl (by decide) hb hle hs fun w7 hm hb hs => ?_
  rw [d6, show ∀ x : Act, x.put none undef = x from fun _ => rfl]
  exact h w7 b hm hb
def kind_look.f (a0 : ByteArray) : Option (Int × Bool) := if a0.size ≤ 1000000000 then some (kmany a0) else none
theorem look_step {ops : Array Oper} {rest : List Oper} {o : Oper} {a : Act} {Q : Exit → Act → World → Prop} {W : World} {b n : Nat} (hg : o.guard = none) (m x : Operand) (hop : o.op = .lookup 112 m x true) (hm : a.eval m = .map (some b)) (hown : OwnK W b n KM) (s : ByteArray) (hx : a.eval x = .string s) (r1 : Int) (r2 : Bool) (hr : kind_look.f s = some (r1, r2))
    (h : ∀ w1, Below W.heap.size W w1 → wpList Tryz.prog ops Q rest (a.put o.dst (.tuple #[.int .i64 r1, .bool r2])) w1) : wpList Tryz.prog ops Q (o :: rest) a W := by
  have hs : s.size ≤ 1000000000 := by
    by_cases c : s.size ≤ 1000000000
    · exact c
    · unfold kind_look.f at hr; rw [if_neg c] at hr; exact absurd hr (by simp)
  unfold kind_look.f at hr
  rw [if_pos hs] at hr
  have hk := Option.some.inj hr
  obtain ⟨k1, k2⟩ := km_look s
  rw [hk] at k1 k2
  refine wpList_plain hg fun K hK => ?_
  have hz : (zeroValue 3).run Tryz.prog W = .ok (.int .i64 0) W := Tryz.zeroValue3 W
  obtain ⟨v, ps, hrun, hv⟩ := hown.look_ok keyed9 und112 hz (plainElem_int (H := Unit) Tryz.underlying3 (by decide)) (Go.WideMaps.keyOf_string_mk Tryz.underlying9 (s := s) (by simp only [maxLen]; omega))
  rw [k1] at hrun
  rw [k2] at hv
  obtain ⟨c, rfl, hc, _⟩ := plainElem_int_inv Tryz.underlying3 hv
  simp only [Prod.mk.injEq, DataW.lit.injEq, Lit.int.injEq, true_and] at hc
  obtain ⟨rfl, _⟩ := hc
  unfold Oper.wp
  simp [execOp, hop, hm, hx, hrun, Result.andThen]
  exact hK _ _ (h W (Below.refl _ _))


def strings_Split.f (a0 : ByteArray) (a1 : ByteArray) : Option (List (ByteArray)) := if a0.size < 4294967281 then (if 1 ≤ a1.size then some (splitS a0 a1) else none) else none
theorem strings_Split.calls (a0 : ByteArray) (a1 : ByteArray) (r : List (ByteArray)) (w : World) (h : strings_Split.f a0 a1 = some r) (tb_ : Tab w := by exact Tab.on HTab_.out (by repeat (first | exact HB.out | apply below_alloc | apply pw_below_drewN | apply below_drew1 | (refine below_cell_ ?_ (by apply Aside0.out; with_reducible assumption))))) :
    Calls Tryz.prog 28 #[.string a0, .string a1] w fun e w' => ∃ v, e = .returned v ∧ Kd.R Kd.string 9 w' w.heap.size (fun _ => True) v r ∧ Below w.heap.size w w' := by
  unfold strings_Split.f at h
  by_cases h0 : a0.size < 4294967281
  · rw [if_pos h0] at h
    by_cases h1 : 1 ≤ a1.size
    · rw [if_pos h1] at h
      obtain rfl := Option.some.inj h; exact split_walk a0 a1 w tb_ h0 h1
    · rw [if_neg h1] at h; exact absurd h (by simp)
  · rw [if_neg h0] at h; exact absurd h (by simp)


def strconv_Itoa.f (a0 : Int) : Option (ByteArray) := if -9223372036854775808 ≤ a0 then (if a0 ≤ 9223372036854775807 then some (itoaS a0) else none) else none
theorem strconv_Itoa.calls (a0 : Int) (r : ByteArray) (w : World) (h : strconv_Itoa.f a0 = some r) (tb_ : Tab w := by exact Tab.on HTab_.out (by repeat (first | exact HB.out | apply below_alloc | apply pw_below_drewN | apply below_drew1 | (refine below_cell_ ?_ (by apply Aside0.out; with_reducible assumption))))) :
    Calls Tryz.prog 81 #[.int .i64 a0] w fun e w' => e = .returned (.string r) ∧ Below w.heap.size w w' := by
  unfold strconv_Itoa.f at h
  by_cases h0 : -9223372036854775808 ≤ a0
  · rw [if_pos h0] at h
    by_cases h1 : a0 ≤ 9223372036854775807
    · rw [if_pos h1] at h
      obtain rfl := Option.some.inj h; exact itoa_walk a0 h0 h1 w tb_
    · rw [if_neg h1] at h; exact absurd h (by simp)
  · rw [if_neg h0] at h; exact absurd h (by simp)


def trimS (s p : ByteArray) : ByteArray := ⟨(Go.Lib.trimPrefix s.data.toList p.data.toList).toArray⟩
def impl_numberOf.f (a0 : ByteArray) : Option (Int × Bool) := if a0.size ≤ 1000000000 then (if -9223372036854775808 ≤ atoiX a0 then (if atoiX a0 ≤ 9223372036854775807 then some (atoiX a0, atoiOk a0 && (decide (((trimS a0 ⟨#[45]⟩).size : Int) ≤ 9) && ((itoaS (atoiX a0)).toList == a0.toList))) else none) else none) else none
set_option maxHeartbeats 8000000 in
set_option maxRecDepth 100000 in
theorem impl_numberOf.calls (a0 : ByteArray) (r1 : Int) (r2 : Bool) (w : World) (h : impl_numberOf.f a0 = some (r1, r2)) (tb_ : Tab w := by exact Tab.on HTab_.out (by repeat (first | exact HB.out | apply below_alloc | apply pw_below_drewN | apply below_drew1 | (refine below_cell_ ?_ (by apply Aside0.out; with_reducible assumption))))) :
    Calls Tryz.prog 65 #[.string a0] w fun e w' => e = .returned (.tuple #[.int .i64 r1, .bool r2]) ∧ Below w.heap.size w w' := by
  have hs : a0.size ≤ 1000000000 := by
    by_cases c : a0.size ≤ 1000000000
    · exact c
    · unfold impl_numberOf.f at h; rw [if_neg c] at h; exact absurd h (by simp)
  have h1 : -9223372036854775808 ≤ atoiX a0 := by
    by_cases c : -9223372036854775808 ≤ atoiX a0
    · exact c
    · unfold impl_numberOf.f at h; rw [if_pos hs, if_neg c] at h; exact absurd h (by simp)
  have h2 : atoiX a0 ≤ 9223372036854775807 := by
    by_cases c : atoiX a0 ≤ 9223372036854775807
    · exact c
    · unfold impl_numberOf.f at h; rw [if_pos hs, if_pos h1, if_neg c] at h; exact absurd h (by simp)
  unfold impl_numberOf.f at h
  rw [if_pos hs, if_pos h1, if_pos h2] at h; obtain ⟨rfl, rfl⟩ := Prod.mk.inj (Option.some.inj h); have HT := Aside0.mk tb_; have hi := fun (W : World) (hW : Below w.heap.size w W) => itoa_walk (atoiX a0) h1 h2 W (HT.out.on hW); have ha := atoi_walk a0 w tb_ (by omega); have HI := Aside0.mk hi; have HA := Aside0.mk ha
  have htr : (⟨(Go.Lib.trimPrefix a0.data.toList (ByteArray.mk #[45]).data.toList).toArray⟩ : ByteArray) = trimS a0 ⟨#[45]⟩ := rfl
  have ht := fun (W : World) => Tryz.strings_TrimPrefix a0 ⟨#[45]⟩ W; rw [htr] at ht; have HP := Aside0.mk ht; clear hi ha ht h h1 h2 tb_ htr
  generalize hx : atoiX a0 = x at HI HA
  generalize ho : atoiOk a0 = ok at HA
  generalize trimS a0 ⟨#[45]⟩ = tr at HP
  cases ok with
  | false =>
    have HA2 : Aside0 (Calls Tryz.prog 101 #[.string a0] w fun e w' => ∃ te pe, e = .returned (.tuple #[.int .i64 x, .iface te pe]) ∧ Below w.heap.size w w') := ⟨HA.out.mono fun e w' ⟨ev, h1, h2, h3⟩ => by
      rcases h2 with ⟨h2, _⟩ | ⟨_, te, pe, rfl⟩
      · exact absurd h2 (by simp)
      · exact ⟨te, pe, h1, h3⟩⟩
    clear HA
    go_enter Tryz.func65, Tryz.ntmps65
    go_wp2_with (first | (go_at_call 100; refine (HP.out w).mono ?_; rintro e w' ⟨rfl, rfl⟩) | (go_at_call 101; refine HA2.out.mono ?_; rintro e w1 ⟨te, pe, rfl, hb⟩; have HB1 := Aside0.mk hb; clear hb))
    refine bodyPost_ret (results_tmp2 rfl _ _ _) rfl ?_; exact ⟨rfl, HB1.out⟩
  | true =>
    have HA2 : Aside0 (Calls Tryz.prog 101 #[.string a0] w fun e w' => e = .returned (.tuple #[.int .i64 x, .nilIface]) ∧ Below w.heap.size w w') := ⟨HA.out.mono fun e w' ⟨ev, h1, h2, h3⟩ => by
      rcases h2 with ⟨_, rfl⟩ | ⟨h2, _⟩
      · exact ⟨h1, h3⟩
      · exact absurd h2 (by simp)⟩
    clear HA
    by_cases c9 : (tr.size : Int) ≤ 9
    · have A : decide ((tr.size : Int) ≤ 9) = true := decide_eq_true c9
      go_enter Tryz.func65, Tryz.ntmps65
      go_wp2_with (first | (go_at_call 100; refine (HP.out w).mono ?_; rintro e w' ⟨rfl, rfl⟩) | (go_at_call 101; refine HA2.out.mono ?_; rintro e w1 ⟨rfl, hb⟩; have HB1 := Aside0.mk hb; clear hb) | (go_at_call 81; refine (HI.out w1 HB1.out).mono ?_; rintro e w2 ⟨rfl, hb⟩; have HB2 := Aside0.mk (below_step HB1.out hb); clear hb))
      refine bodyPost_ret (results_tmp2 rfl _ _ _) rfl ?_; refine ⟨?_, HB2.out⟩; rw [A]
      rfl
    · have A : decide ((tr.size : Int) ≤ 9) = false := decide_eq_false c9
      go_enter Tryz.func65, Tryz.ntmps65
      go_wp2_with (first | (go_at_call 100; refine (HP.out w).mono ?_; rintro e w' ⟨rfl, rfl⟩) | (go_at_call 101; refine HA2.out.mono ?_; rintro e w1 ⟨rfl, hb⟩; have HB1 := Aside0.mk hb; clear hb))
      refine bodyPost_ret (results_tmp2 rfl _ _ _) rfl ?_; refine ⟨?_, HB1.out⟩; rw [A]
      rfl


def impl_numbersOf.l0 : Nat → Int → List Int → List ByteArray → Int → Int → Option (List Int × Bool)
 | 0, _, _, _, _, _ => none
 | k + 1, x1, x6, x12, x13, x14 => if x14 < x13 then (if 0 ≤ x14 then (if x14 < (x12.length : Int) then ((impl_numberOf.f (rdOf ByteArray.empty x12 x14)).bind fun bt410 => (if bt410.2 = true then (if x6.length < 17592186044416 then (impl_numbersOf.l0 k x1 (x6 ++ [bt410.1]) x12 x13 (wrap64 (x14 + 1))) else (none)) else (some (([] : List Int), false)))) else (none)) else (none)) else (some (x6, ((x6.length : Int) == x1)))
def impl_numbersOf.f (k : Nat) (l0 : List ByteArray) (a1 : Int) : Option (List Int × Bool) := impl_numbersOf.l0 k a1 (([] : List Int)) l0 (l0.length : Int) 0
set_option maxHeartbeats 8000000 in
set_option maxRecDepth 100000 in
theorem impl_numbersOf.calls {k : Nat} {A0 : Option Addr} {c0 : Nat} {l0 : List ByteArray} {a1 : Int} {r1 : List Int} {r2 : Bool} {w : World} (hr0 : Kd.C Kd.string w A0 l0.length l0) (hc0 : l0.length ≤ c0) (h : impl_numbersOf.f k l0 a1 = some (r1, r2)) (tb_ : Tab w := by exact Tab.on HTab_.out (by repeat (first | exact HB.out | apply below_alloc | apply pw_below_drewN | apply below_drew1 | (refine below_cell_ ?_ (by apply Aside0.out; with_reducible assumption))))) :
  Calls Tryz.prog 29 #[.slice A0 l0.length c0, .int .i64 a1] w fun e w' => ∃ v0_ : Value, e = .returned (.tuple #[v0_, .bool r2]) ∧ Kd.R (Kd.int .i64) 3 w' w.heap.size (fun _ => True) v0_ r1 ∧ Below w.heap.size w w' := by
 have HTab_ := Aside0.mk tb_; clear tb_; have a3 := Aside0.mk hr0; have ab := Aside0.mk hc0; clear hr0 hc0; have HB := Aside0.mk (Below.refl w.heap.size w); have H : (impl_numbersOf.l0 k a1 (([] : List Int)) l0 (l0.length : Int) 0) = some (r1, r2) := h; clear h; obtain ⟨M, hy_⟩ : ∃ y_ : List Int, y_ = (([] : List Int)) := ⟨_, rfl⟩; replace H : (impl_numbersOf.l0 k a1 M l0 (l0.length : Int) 0) = some (r1, r2) := yh_
 have K := Aside0.mk hy_; clear hy_; have H' := Aside0.mk H; clear H
 go_enter Tryz.func29, Tryz.ntmps29
 go_wp2_with (first | ((with_reducible refine gate_dst (N := 11) rfl ?_); refine Kd.R_lit (Kd.int .i64) _ 3 ?hg (N := 11) ?hd (xs := ([] : List Int)) (inner := []) (ok := fun _ => True) (okp := fun _ => True) ?hr ?hp (fun _ hk => hk) trivial (Below.refl _ _) (Nat.le_refl _) (by simp) ?_; (case hd => rfl); (case hg => rfl); (case hr => first | (go_simp; done) | (go_simp; rfl)); (case hp => exact (Reps.none _ _)); intro a5 w3 L hb hg_ hnew_; clear hg_ hnew_; (first | rw [← K.out] at L | (simp only [Int.reduceToNat] at L; rw [← K.out] at L)); have T := Aside0.mk (Kd.R_lower L (below_size (be_ HB.out))); replace HB := hb_ HB hb; clear hb L))
 (try simp only [Act.put, List.setIfInBounds_toArray, List.set_cons_zero, List.set_cons_succ])
 go_loopg [6, 14] k (fun kq v6 v14 w' => ∃ (E : List Int) (A : Int), v14 = .int .i64 A ∧ Aside0 (impl_numbersOf.l0 kq a1 E l0 (l0.length : Int) A = some (r1, r2)) ∧ Aside0 (kq ≤ k) ∧ Aside0 (Kd.R (Kd.int .i64) 3 w' w.heap.size (fun _ => True) v6 E) ∧ Aside0 (Below w.heap.size w w'))
 case atStart => exact ⟨(M), (0), rl_, H', ⟨Nat.le_refl _⟩, ⟨ra_ T.out⟩, ⟨be_ HB.out⟩⟩
 case round =>
  clear H'; (try clear c2); (try clear p2); obtain ⟨E, A, rfl, HA, Y, D, HB⟩ := hrel
  cases gk with
  | zero => exact absurd HA.out (by simp [impl_numbersOf.l0])
  | succ k1 =>
   have H := HA.out; clear HA; simp only [impl_numbersOf.l0] at H
   replace H := icd_ H; obtain ⟨Z, H⟩ | ⟨Z, H⟩ := H
   ·
    obtain ⟨a6, H⟩ := ipd_ H; obtain ⟨a7, H⟩ := ipd_ H; obtain ⟨⟨G, a0⟩, A8, H⟩ := bo_ H; (try dsimp only at H)
    have I : 0 ≤ (A : Int) := od_
    have J : A < (l0.length : Int) := od_
    obtain ⟨a4, O, B⟩ := Kd.at_string a3.out A I J; refine Aside0.out ?_
    by_cases c9 : a0 = true
    ·
     subst c9; rw [if_pos rfl] at H; obtain ⟨c10, H⟩ := ip_ H; have U := Aside0.mk c10; clear c10; obtain ⟨P, hy_⟩ : ∃ y_ : List Int, y_ = (E ++ [G]) := ⟨_, rfl⟩; replace H : (impl_numbersOf.l0 k1 a1 P l0 (l0.length : Int) (wrap64 (A + 1))) = some (r1, r2) := yh_
     have W := Aside0.mk hy_; clear hy_; have H' := Aside0.mk H; clear H; refine ⟨?_⟩
     cases O
     replace B := cw_ HB.out B; replace I := eq_true I; replace J := eq_true J
     go_wp2_with (first | ((with_reducible refine gc_ 65 ?_); refine gw_ (some 20) Tryz.func65 ?_; (with_reducible refine (impl_numberOf.calls (rdOf ByteArray.empty l0 A) G true _ A8.out).mono ?_); rintro e ac ⟨rfl, hb⟩; refine ⟨_, rfl, ?_⟩; replace D := rb_ D hb; replace HB := hb_ HB hb; (try clear hb)) | ((with_reducible refine gate_builtin (b := .append) (xs := #[.tmp 25, .tmp 27]) rfl ?_); at_builtin; refine Kd.R_append (Kd.int .i64) (w0 := w) w.heap.size rfl (.tmp 25) (.tmp 27) 47 3 (.int .i64 0) 8 rfl Tryz.underlying47 info3 rfl (by decide) (by omega) u6 E G [.int .i64 G] (fun _ => True) (fun _ => False) rfl rfl ?aP (fun _ hk => hk.elim) ?aF ?aO ?aB ?aS ?aL ?_; (case aP => exact rfl); (case aB => exact (be_ HB.out)); (case aF => exact (fun _ _ => trivial)); (case aO => exact (ra_ D.out)); (case aS => exact (below_size (be_ HB.out))); (case aL => have := U.out; omega); intro a8 ad ho hb hg hat; rw [← W.out] at ho; replace HB := Aside0.mk (hb); have X := Aside0.mk (ho); clear D; clear ho hb hg hat))
     go_roundg k1
     case measure => have := Y.out; omega
     case rel => exact ⟨(P), (wrap64 (A + 1)), rl_, H', ⟨by have := Y.out; omega⟩, ⟨ra_ X.out⟩, ⟨be_ HB.out⟩⟩
    ·
     replace c9 := fb_ c9; subst c9; replace H := if0_ H
     simp only [Option.some.injEq, Prod.mk.injEq] at H; obtain ⟨rfl, rfl⟩ := H; refine ⟨?_⟩
     cases O
     replace B := cw_ HB.out B; replace I := eq_true I; replace J := eq_true J
     go_wp2_with (first | ((with_reducible refine gc_ 65 ?_); refine gw_ (some 20) Tryz.func65 ?_; (with_reducible refine (impl_numberOf.calls (rdOf ByteArray.empty l0 A) G false _ A8.out).mono ?_); rintro e ae ⟨rfl, hb⟩; refine ⟨_, rfl, ?_⟩; replace D := rb_ D hb; replace HB := hb_ HB hb; (try clear hb)))
     go_ret2
     exact ⟨_, by first | rfl | (simp [errW_none, errW_some] <;> rfl) | (simp [*, errW_none, errW_some] <;> rfl), by first | exact Kd.R_nil _ _ _ _ _ | exact Kd.N_nil _ _ _ _ _ | exact Kd.V_nil _ _ _ _ _ | exact Kd.Q_nil _ _ _ _ _ | exact Kd.S_nil _ _ _ _ _, be_ HB.out⟩
   ·
    simp only [Option.some.injEq, Prod.mk.injEq] at H; obtain ⟨rfl, rfl⟩ := H; obtain ⟨a9, aa, a2⟩ := Kd.R_slice D.out; subst a2
    go_wp2
    go_ret2
    exact ⟨_, by first | rfl | (simp [errW_none, errW_some] <;> rfl) | (simp [*, errW_none, errW_some] <;> rfl), by (with_reducible repeat (first | apply Kd.R_alloc | apply Kd.R_drewN | apply Kd.R_drew)); exact D.out, be_ HB.out⟩

def impl_in.f (a0 : Int) (a1 : Int) (a2 : Int) : Option (Bool) := if a1 ≤ a0 then (some (decide (a0 ≤ a2))) else (some false)
set_option maxHeartbeats 8000000 in
set_option maxRecDepth 100000 in
theorem impl_in.calls {a0 : Int} {a1 : Int} {a2 : Int} {r : Bool} {w : World} (h : impl_in.f a0 a1 a2 = some r) :
  Calls Tryz.prog 56 #[.int .i64 a0, .int .i64 a1, .int .i64 a2] w fun e w' => e = .returned (.bool r) ∧ Drawn0 w w' := by
 have H : (if a1 ≤ a0 then (some (decide (a0 ≤ a2))) else (some false)) = some r := h; clear h
 replace H := icd_ H; obtain ⟨A, H⟩ | ⟨A, H⟩ := H
 ·
  obtain rfl := oi_ H
  go_enter Tryz.func56, Tryz.ntmps56
  go_wp2
  go_ret
  exact ⟨by first | rfl | (simp; done) | (simp [*]; done), by repeat (first | exact Drawn0.refl _ | apply Drawn0.step)⟩
 ·
  obtain rfl := oi_ H
  go_enter Tryz.func56, Tryz.ntmps56
  go_wp2
  go_ret
  exact ⟨by first | rfl | (simp; done) | (simp [*]; done), by repeat (first | exact Drawn0.refl _ | apply Drawn0.step)⟩

theorem copyat_ {P : Program} (w : World) {ops : Array Oper} {rest : List Oper} {o : Oper} {a : Act} {Q : Exit → Act → World → Prop} (hgd : o.guard = none) (d s : Operand) (t t' : TypeId)
    (ho : o.op = .call { callee := .builtin .copy, args := #[d, s], argTypes := #[t, t'] }) (v u : Value) (hd : a.eval d = v) (hs : a.eval s = u) {v' : Value} {w' : World} (hr : (Builtin.copy_ #[t, t'] o.type #[v, u]).run P w = .ok v' w') (h : wpList P ops Q rest (a.put o.dst v') w') : wpList P ops Q (o :: rest) a w := by
  refine wpList_plain hgd fun K hK => ?_
  unfold Oper.wp
  simp [execOp, ho, resolve, invoke, builtin, hd, hs, hr, Result.andThen]
  exact hK _ _ h
theorem copystep_ {P : Program} {ops : Array Oper} {o : Oper} {a : Act} {w : World} {K : Act → World → Prop} {Q : Exit → Act → World → Prop} {E : Prop} (hgd : o.guard = none) (d s : Operand) (t t' : TypeId)
    (ho : o.op = .call { callee := .builtin .copy, args := #[d, s], argTypes := #[t, t'] }) (v u : Value) (hd : a.eval d = v) (hs : a.eval s = u) {v' : Value} {w' : World} (hr : (Builtin.copy_ #[t, t'] o.type #[v, u]).run P w = .ok v' w') (h : K (a.put o.dst v') w') : if Region.wanted o (yielded ops a.tmps) = true then Oper.wp P o a w K Q else E := by
  rw [if_pos (by simp [Region.wanted, hgd])]
  unfold Oper.wp
  simp [execOp, ho, resolve, invoke, builtin, hd, hs, hr, Result.andThen]
  exact h
def RepSt (W : World) (g n m : Nat) (y : Int) : Prop := ∃ cur : Array Value, W.heap[g]? = some (.cells cur 3 (0, 0)) ∧ cur.size = n ∧ cur.toList.take m = List.replicate m (.int .i64 y)
theorem RepSt.drew {W : World} {g n m : Nat} {y : Int} (h : RepSt W g n m y) : RepSt W.drew g n m y := h
theorem rep_set {w W : World} {g n m k : Nat} {y : Int} (h : RepSt W g n m y) (hb : Below w.heap.size w W) (hg : w.heap.size ≤ g) (hk : m + k ≤ n) : RepSt (W.setCells g m (List.replicate k (.int .i64 y))) g n (m + k) y ∧ Below w.heap.size w (W.setCells g m (List.replicate k (.int .i64 y))) := by
  obtain ⟨cur, h1, h2, h3⟩ := h
  obtain ⟨cur', c1, c2, c3⟩ := setCells_row (List.replicate k (Value.int .i64 y)) m W cur h1 (by rw [List.length_replicate]; omega)
  obtain ⟨s1, s2, s3, s4⟩ := setCells_same g (List.replicate k (Value.int .i64 y)) m W
  refine ⟨⟨cur', c1, by rw [c2, h2], ?_⟩, ⟨s1.trans hb.os, s2.trans hb.tape, s3.trans hb.output, by rw [s4]; exact hb.size, fun i hi => (setCells_far _ _ i (by omega)).trans (hb.block i hi)⟩⟩
  rw [c3, h3, List.take_append_of_le_length (by simp), List.take_of_length_le (by simp), List.replicate_append_replicate]
theorem rep_room {W : World} {g n m : Nat} {y : Int} (h : RepSt W g n m y) (j : Nat) (hj : j < n) : (W.cell? ⟨g, j, none⟩).isSome = true ∧ W.frozen? ⟨g, j, none⟩ = false := by
  obtain ⟨cur, h1, h2, _⟩ := h
  exact ⟨by rw [cell_of_row W g _ cur 3 (0, 0) h1]; simp; omega, blk_frozen h1 _⟩
theorem rep_cell {W : World} {g n m : Nat} {y : Int} (h : RepSt W g n m y) (j : Nat) (hj : j < m) (hm : m ≤ n) : W.cell? ⟨g, j, none⟩ = some (.int .i64 y) := by
  obtain ⟨cur, h1, h2, h3⟩ := h
  rw [cell_of_row W g _ cur 3 (0, 0) h1]
  have e : (cur.toList.take m)[j]? = some (.int .i64 y) := by rw [h3, List.getElem?_replicate, if_pos hj]
  rw [List.getElem?_take, if_pos hj] at e
  simpa using e
theorem rep_copy {W : World} {g n m : Nat} {y : Int} (h : RepSt W g n m y) (hm : m < n) (ty : TypeId) :
    (Builtin.copy_ #[47, 47] ty #[.slice (some ⟨g, m, none⟩) (n - m) (n - m), .slice (some ⟨g, 0, none⟩) m n]).run Tryz.prog W = .ok (goInt ((min m (n - m) : Nat) : Int)) (W.setCells g m (List.replicate (min m (n - m)) (.int .i64 y))) := by
  have := run_copy_cells (P := Tryz.prog) W 47 47 ty 3 g m (n - m) (n - m) ⟨g, 0, none⟩ m n (List.replicate (min m (n - m)) (Value.int .i64 y)) Tryz.underlying47 (by kernel_rfl) (by rw [List.length_replicate])
    (fun j v hj => by
      rw [List.getElem?_replicate] at hj
      split at hj
      · rename_i hlt
        obtain rfl := Option.some.inj hj
        have e : (⟨g, 0, none⟩ : Addr).add j = ⟨g, j, none⟩ := by unfold Addr.add; split <;> simp_all
        rw [e]
        exact rep_cell h j (by omega) (by omega)
      · cases hj)
    (fun j hj => (rep_room h _ (by rw [List.length_replicate] at hj; omega)).1) (fun j hj => (rep_room h _ (by rw [List.length_replicate] at hj; omega)).2) (by intro v hv; rw [List.mem_replicate] at hv; rw [hv.2]; rfl)
  rw [List.length_replicate] at this
  exact this
theorem rep_first {W : World} {g n : Nat} {y : Int} (h : RepSt W g n 0 y) (hn : 1 ≤ n) (ad : Addr) (c : Nat) (hc : W.cell? ad = some (.int .i64 y)) (ty : TypeId) :
    (Builtin.copy_ #[47, 47] ty #[.slice (some ⟨g, 0, none⟩) n n, .slice (some ad) 1 c]).run Tryz.prog W = .ok (goInt ((1 : Nat) : Int)) (W.setCells g 0 (List.replicate 1 (.int .i64 y))) := by
  have := run_copy_cells (P := Tryz.prog) W 47 47 ty 3 g 0 n n ad 1 c (List.replicate 1 (Value.int .i64 y)) Tryz.underlying47 (by kernel_rfl) (by simp [Nat.min_def]; omega)
    (fun j v hj => by
      rw [List.getElem?_replicate] at hj
      split at hj
      · rename_i hlt
        obtain rfl := Option.some.inj hj
        obtain rfl : j = 0 := by omega
        have e : ad.add 0 = ad := by unfold Addr.add; split <;> simp_all
        rw [e]; exact hc
      · cases hj)
    (fun j hj => (rep_room h _ (by rw [List.length_replicate] at hj; omega)).1) (fun j hj => (rep_room h _ (by rw [List.length_replicate] at hj; omega)).2) (by intro v hv; rw [List.mem_replicate] at hv; rw [hv.2]; rfl)
  rw [List.length_replicate] at this
  exact this
theorem rep_made {w W : World} {n : Nat} {y : Int} (h1 : 1 ≤ n) (hown : W.ownsRow w.heap.size 3 1 (.slice (some ⟨w.heap.size, 0, none⟩) n n) n (madeCells (Value.int .i64 0).cells (n * 1)).toList) (hgr : w.grownBy W none) : RepSt W w.heap.size n 0 y ∧ Below w.heap.size w W := by
  refine ⟨?_, (Below.refl _ w).grown hgr (Nat.le_refl _) (fun _ h => by cases h)⟩
  rcases hown.2 with ⟨_, hx0⟩ | ⟨g, cap, cur, hv, hb, hh, hnc, hcm, hcs, htake⟩
  · omega
  · simp only [Value.slice.injEq, Option.some.injEq, Addr.mk.injEq] at hv
    obtain ⟨⟨rfl, _, _⟩, _, rfl⟩ := hv
    exact ⟨cur, hh, by rw [hcs, Nat.mul_one], by simp⟩
theorem rep_done {W : World} {base g n : Nat} {y : Int} (h : RepSt W g n n y) (hg : base ≤ g) (hn : n ≤ 1000000) : Kd.R (Kd.int .i64) 3 W base (fun _ => True) (.slice (some ⟨g, 0, none⟩) n n) (List.replicate n y) := by
  obtain ⟨cur, c1, c2, c3⟩ := h
  exact Kd.R_of_own ⟨by simp [encs], .inr ⟨g, n, cur, by rw [List.length_replicate], hg, c1, by rw [List.length_replicate]; exact Nat.le_refl _, by unfold maxLen; omega, by rw [c2, Nat.mul_one], by rw [List.length_replicate, Nat.mul_one, c3]; simp [encs]⟩⟩ (fun _ _ => trivial)
set_option maxHeartbeats 8000000 in
set_option maxRecDepth 100000 in
theorem repeat_walk (y : Int) (n : Nat) (ad : Addr) (c : Nat) (w : World) (h1 : 1 ≤ n) (h2 : n ≤ 1000000) (hc : w.cell? ad = some (.int .i64 y)) :
    Calls Tryz.prog 102 #[.slice (some ad) 1 c, .int .i64 n] w fun e w' => ∃ v, e = .returned v ∧ Kd.R (Kd.int .i64) 3 w' w.heap.size (fun _ => True) v (List.replicate n y) ∧ Below w.heap.size w w' := by
  have mixed : Tryz.prog.follows .mixedOrders = true := by kernel_rfl
  have hm := Tryz.bits_Mul 1 n (by omega) (by omega) w
  have e1 : (1 * n / 18446744073709551616 : Nat) = 0 := by omega
  have e2 : (1 * n % 18446744073709551616 : Nat) = n := by omega
  rw [e1, e2] at hm
  have HM := Aside0.mk hm
  clear hm e1 e2
  have q0 : ¬ (n : Int) < 0 := by omega
  have q1 : IntKind.u64.wrap (n : Int) = n := by rw [IntKind.wrap_u64]; omega
  have q2 : ¬ (9223372036854775807 : Int) < n := by omega
  have q3 : IntKind.i64.wrap (n : Int) = n := by rw [IntKind.wrap_i64]; omega
  have HC := Aside0.mk hc
  clear hc
  have hinfo : ∃ i, Tryz.prog.info? 3 = some i ∧ i.zero = some (.int .i64 0) ∧ i.size = 1 ∧ i.bytes = 8 := by
    have h : (Tryz.prog.info? 3).map (fun i => (i.zero, i.size, i.bytes)) = some (some (.int .i64 0), 1, 8) := by kernel_rfl
    obtain ⟨i, hi, hz⟩ := Option.map_eq_some_iff.1 h
    simp only [Prod.mk.injEq] at hz
    exact ⟨i, hi, hz.1, hz.2.1, hz.2.2⟩
  go_enter Tryz.func102, Tryz.ntmps102
  obtain ⟨i, i1, i2, i3, i4⟩ := hinfo
  go_wp2_with (first
    | (go_at_call 134; refine HM.out.mono ?_; rintro e w' ⟨rfl, hw⟩; subst hw)
    | (at_make; refine wpList_make_full _ rfl _ _ 47 rfl w'.heap.size 3 i (.int .i64 0) 1 Tryz.underlying47 i1 i2 i3 _ _ _ _ n rfl rfl rfl rfl (by rw [i4]; omega) (by unfold maxLen; omega) (Nat.le_refl _) ?_; intro w1 hown hgr; have HS := Aside0.mk (rep_made (y := y) h1 hown hgr).1; have HB1 := Aside0.mk (rep_made (y := y) h1 hown hgr).2; clear hown hgr)
    | ((with_reducible refine gate_builtin (b := .copy) (xs := #[.tmp 31, .tmp 32]) rfl ?_); go_loud (refine copyat_ _ rfl _ _ 47 47 rfl _ _ rfl rfl (rep_first HS.out h1 ad c ((HB1.out.cell (World.block_lt_of_cell? _ _ HC.out)).trans HC.out) _) ?_); have HS1 := Aside0.mk (rep_set HS.out HB1.out (Nat.le_refl _) (by omega : 0 + 1 ≤ n)).1; have HB2 := Aside0.mk (rep_set HS.out HB1.out (Nat.le_refl _) (by omega : 0 + 1 ≤ n)).2; generalize w1.setCells w'.heap.size 0 (List.replicate 1 (Value.int IntKind.i64 y)) = w2 at HS1 HB2 ⊢))
  go_loopg [8] n (fun gg s8 wr => ∃ m : Nat, 1 ≤ m ∧ m ≤ n ∧ n - m ≤ gg ∧ s8 = .int .i64 m ∧ Aside0 (Below w'.heap.size w' wr) ∧ Aside0 (RepSt wr w'.heap.size n m y))
  case atStart => exact ⟨1, Nat.le_refl _, h1, by omega, rfl, HB2, HS1⟩
  case round =>
    obtain ⟨m, hm1, hm2, hg, rfl, BW, RS⟩ := hrel
    by_cases hlt : m < n
    · have hltz : (m : Int) < (n : Int) := by omega
      have RD := RS.out.drew
      have hk0 : 1 ≤ min m (n - m) ∧ m + min m (n - m) ≤ n := by omega
      have hcp := rep_copy RD hlt
      have hst := rep_set RD (BW.out.drew : Below w'.heap.size w' wr.drew) (Nat.le_refl _) hk0.2
      generalize min m (n - m) = k at hk0 hcp hst
      obtain ⟨hk1, hk2⟩ := hk0
      have HS3 := Aside0.mk hst.1
      have HB3 := Aside0.mk hst.2
      have hw1 : IntKind.i64.wrap ((m : Int) + (k : Int)) = (m : Int) + (k : Int) := by rw [IntKind.wrap_i64]; omega
      have hb1 : ¬ n = m := by omega
      have hb2 : (0 : Int) ≤ (m : Int) := by omega
      have hb3 : (m : Int) ≤ (n : Int) := by omega
      clear hst RD
      generalize wr.drew.setCells w'.heap.size m (List.replicate k (Value.int .i64 y)) = w3 at hcp HS3 HB3
      go_wp2
      go_region_law (refine copystep_ rfl _ _ 47 47 rfl _ _ (by simp [Act.eval, Act.put]) (by simp [Act.eval, Act.put]) (hcp _) ?_)
      go_wp2
      go_roundg (n - (m + k))
      case measure => omega
      case rel => exact ⟨m + k, by omega, hk2, by omega, by go_num, HB3, HS3⟩
    · have hltz : ¬ (m : Int) < (n : Int) := by omega
      obtain rfl : m = n := by omega
      go_wp2
      go_ret
      exact ⟨_, rfl, rep_done RS.out (Nat.le_refl _) h2, BW.out⟩
def slices_Repeat.f (l0 : List Int) (a1 : Int) : Option (List Int) := if l0.length = 1 then (if 1 ≤ a1 ∧ a1 ≤ 1000000 then some (List.replicate a1.toNat (l0.getD 0 0)) else none) else none
theorem slices_Repeat.calls (A0 : Option Addr) (c0 : Nat) (l0 : List Int) (a1 : Int) (r : List Int) (w : World) (hr0 : Kd.C (Kd.int .i64) w A0 l0.length l0) (hc0 : l0.length ≤ c0) (h : slices_Repeat.f l0 a1 = some r) :
    Calls Tryz.prog 102 #[.slice A0 l0.length c0, .int .i64 a1] w fun e w' => ∃ v, e = .returned v ∧ Kd.R (Kd.int .i64) 3 w' w.heap.size (fun _ => True) v r ∧ Below w.heap.size w w' := by
  unfold slices_Repeat.f at h
  by_cases h1 : l0.length = 1
  · rw [if_pos h1] at h
    by_cases h2 : 1 ≤ a1 ∧ a1 ≤ 1000000
    · rw [if_pos h2] at h
      obtain rfl := Option.some.inj h; obtain ⟨ad, cs, e, _, hK, hcc⟩ := Kd.C_get hr0 (0 : Int) (0 : Int) (by omega) (by omega); obtain rfl : cs = [.int .i64 (l0.getD 0 0)] := hK; have hc := hcc 0 _ rfl
      have e2 : (ad.add ((0 : Int).toNat * (Kd.int .i64).sz + 0)) = ad := by
        show ad.add 0 = ad
        unfold Addr.add
        split <;> simp_all
      rw [e2] at hc; rw [h1, e]
      have := repeat_walk (l0.getD 0 0) a1.toNat ad c0 w (by omega) (by omega) hc
      rw [show ((a1.toNat : Nat) : Int) = a1 by omega] at this
      exact this
    · rw [if_neg h2] at h; exact absurd h (by simp)
  · rw [if_neg h1] at h; exact absurd h (by simp)


end Go.Proofs.YtgolleldpmkkoaaGreatDoor.QFnExactPlanText
