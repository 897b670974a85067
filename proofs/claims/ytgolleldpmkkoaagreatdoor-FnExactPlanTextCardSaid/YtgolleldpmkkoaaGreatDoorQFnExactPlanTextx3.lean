/- The Go functions that the statement FnExactPlanText reaches, as Lean functions, each with a proof that the call does what its function says; laid by a program of this session. No condition. -/
import Derived.Test.YtgolleldpmkkoaaGreatDoorQFnExactPlanTextx0
import Derived.Test.YtgolleldpmkkoaaGreatDoorQFnExactPlanTextx2
namespace Go.Proofs.YtgolleldpmkkoaaGreatDoor.QFnExactPlanText
open Go.RowKit Go.Proofs.YtgolleldpmkkoaaGreatDoorW.PrintWords Go.Proofs.YtgolleldpmkkoaaGreatDoorW.PrintLast Go.Proofs.YtgolleldpmkkoaaGreatDoorW.PrintMore
attribute [local go_sem] max2_int min2_int max_two min_two max_three min_three max_four min_four   -- for this text's walks alone
set_option linter.unusedVariables false
set_option linter.unusedSimpArgs false

def spec_ShapeOk.f (a0_0 : Int) (a0_1 : Int) (a0_2 : Int) : Option (Bool) := (spec_l01In.f a0_0 1 8).bind fun t157 => (if t157 = true then ((spec_l01In.f a0_1 1 8).bind fun t158 => (if t158 = true then ((spec_l01In.f a0_2 1 8).bind fun t159 => (some t159)) else (some false))) else (some false))
set_option maxHeartbeats 8000000 in
set_option maxRecDepth 100000 in
theorem spec_ShapeOk.calls {a0_0 : Int} {a0_1 : Int} {a0_2 : Int} {r : Bool} {w : World} (h : spec_ShapeOk.f a0_0 a0_1 a0_2 = some r) :
  Calls Tryz.prog 61 #[.agg #[.int .i64 a0_0, .int .i64 a0_1, .int .i64 a0_2]] w fun e w' => e = .returned (.bool r) ∧ Below w.heap.size w w' := by
 have hu23 := Tryz.underlying23; have HB := Aside0.mk (Below.refl w.heap.size w); have H : ((spec_l01In.f a0_0 1 8).bind fun A => (if A = true then ((spec_l01In.f a0_1 1 8).bind fun B => (if B = true then ((spec_l01In.f a0_2 1 8).bind fun D => (some D)) else (some false))) else (some false))) = some r := h; clear h; obtain ⟨A, A2, H⟩ := bo_ H; (try dsimp only at H)
 go_enter Tryz.func61, Tryz.ntmps61
 go_wp2_with (first | ((with_reducible refine gate_dst (N := 1) rfl ?_); refine bz_ 1 ?_; intro G hg w7 hbox hb; obtain ⟨E, I, J, HB⟩ := nb_ hg hbox HB hb; clear hb hbox hg; have K := box3_ E.out) | ((with_reducible refine gc_ 57 ?_); refine gw_ (some 5) Tryz.func57 ?_; (with_reducible refine (spec_l01In.calls A2.out).mono ?_); rintro e w' ⟨rfl, ⟨nd, rfl⟩⟩; refine ⟨_, rfl, ?_⟩; refine Aside0.out ?_))
 replace H := icb_ H; obtain ⟨rfl, H⟩ | ⟨rfl, H⟩ := H
 ·
  obtain ⟨B, A4, H⟩ := bo_ H; (try dsimp only at H); refine ⟨?_⟩
  go_wp2_with (first | (go_at_call 57; (with_reducible refine (spec_l01In.calls A4.out).mono ?_); rintro e w' ⟨rfl, ⟨nd, rfl⟩⟩; refine Aside0.out ?_))
  replace H := icb_ H; obtain ⟨rfl, H⟩ | ⟨rfl, H⟩ := H
  ·
   obtain ⟨D, A6, H⟩ := bo_ H; (try dsimp only at H); obtain rfl := oi_ H; refine ⟨?_⟩
   go_wp2_with (first | (go_at_call 57; (with_reducible refine (spec_l01In.calls A6.out).mono ?_); rintro e w' ⟨rfl, ⟨nd, rfl⟩⟩))
   go_ret
   exact rt_ HB.out
  ·
   obtain rfl := oi_ H; refine ⟨?_⟩
   try go_wp2
   go_ret
   exact rt_ HB.out
 ·
  obtain rfl := oi_ H; refine ⟨?_⟩
  try go_wp2
  go_ret
  exact rt_ HB.out

def spec_SizeOf.f (a0_0 : Int) (a0_1 : Int) (a0_2 : Int) : Option (Int) := (spec_ShapeOk.f a0_0 a0_1 a0_2).bind fun t161 => (if t161 = true then (some (wrap64 ((wrap64 (a0_0 * a0_1)) * a0_2))) else (some 0))
set_option maxHeartbeats 8000000 in
set_option maxRecDepth 100000 in
theorem spec_SizeOf.calls {a0_0 : Int} {a0_1 : Int} {a0_2 : Int} {r : Int} {w : World} (h : spec_SizeOf.f a0_0 a0_1 a0_2 = some r) :
  Calls Tryz.prog 60 #[.agg #[.int .i64 a0_0, .int .i64 a0_1, .int .i64 a0_2]] w fun e w' => e = .returned (.int .i64 r) ∧ Below w.heap.size w w' := by
 have hu23 := Tryz.underlying23; have HB := Aside0.mk (Below.refl w.heap.size w); have H : ((spec_ShapeOk.f a0_0 a0_1 a0_2).bind fun B => (if B = true then (some (wrap64 ((wrap64 (a0_0 * a0_1)) * a0_2))) else (some 0))) = some r := h; clear h; obtain ⟨B, A2, H⟩ := bo_ H; (try dsimp only at H)
 go_enter Tryz.func60, Tryz.ntmps60
 go_wp2_with (first | ((with_reducible refine gate_dst (N := 1) rfl ?_); refine bz_ 1 ?_; intro D hg w4 hbox hb; obtain ⟨A, E, G, HB⟩ := nb_ hg hbox HB hb; clear hb hbox hg; have I := box3_ A.out; refine Aside0.out ?_))
 replace H := icb_ H; obtain ⟨rfl, H⟩ | ⟨rfl, H⟩ := H
 ·
  obtain rfl := oi_ H; refine ⟨?_⟩
  go_wp2_with (first | ((with_reducible refine gc_ 61 ?_); refine gw_ (some 4) Tryz.func61 ?_; (with_reducible refine (spec_ShapeOk.calls A2.out).mono ?_); rintro e w6 ⟨rfl, hb⟩; refine ⟨_, rfl, ?_⟩; replace A := bb_ A hb; replace HB := hb_ HB hb; (try clear hb); have J := box3_ A.out))
  go_ret
  exact rt_ HB.out
 ·
  obtain rfl := oi_ H; refine ⟨?_⟩
  go_wp2_with (first | ((with_reducible refine gc_ 61 ?_); refine gw_ (some 4) Tryz.func61 ?_; (with_reducible refine (spec_ShapeOk.calls A2.out).mono ?_); rintro e K ⟨rfl, hb⟩; refine ⟨_, rfl, ?_⟩; replace A := bb_ A hb; replace HB := hb_ HB hb; (try clear hb)))
  go_ret
  exact rt_ HB.out

mutual
def spec_l10Layer.l0 : Nat → List ByteArray → List ByteArray → List Int → List Int → Bool → Int → Int → Int → Int → Option (Int × Int × Int × Int × Int × Int × Int × List Int × List Int × Bool)
 | 0, _, _, _, _, _, _, _, _, _ => none
 | k + 1, x0, x6, x7, x8, x9, x10, x163000, x163001, x163002 => if x10 < (x6.length : Int) then (if x9 = true then (if 0 < (x0.length : Int) then (if 0 ≤ x10 then (if (rdOf ByteArray.empty x0 0).toList = (rdOf ByteArray.empty x6 x10).toList then (if x10 < (x7.length : Int) then (spec_l10Layer.j1 k x0 x6 x7 x8 x9 x10 ((x8.length : Int) != (rd x7 x10)) x163000 x163001 x163002) else (none)) else (spec_l10Layer.j1 k x0 x6 x7 x8 x9 x10 true x163000 x163001 x163002)) else (none)) else (none)) else (spec_l10Layer.j1 k x0 x6 x7 x8 x9 x10 true x163000 x163001 x163002)) else (some (0, 0, 0, 0, 0, 0, 0, ([] : List Int), ([] : List Int), false))
def spec_l10Layer.j1 : Nat → List ByteArray → List ByteArray → List Int → List Int → Bool → Int → Bool → Int → Int → Int → Option (Int × Int × Int × Int × Int × Int × Int × List Int × List Int × Bool)
 | 0, _, _, _, _, _, _, _, _, _, _ => none
 | k + 1, x0, x6, x7, x8, x9, x10, x46, x163000, x163001, x163002 => if x46 = true then (spec_l10Layer.l0 k x0 x6 x7 x8 x9 (wrap64 (x10 + 1)) x163000 x163001 x163002) else (if x10 = 0 then (if 0 < (x8.length : Int) then (if 1 < (x8.length : Int) then (if 2 < (x8.length : Int) then (if 3 < (x8.length : Int) then (if 4 < (x8.length : Int) then ((spec_SizeOf.f x163000 x163001 x163002).bind fun t185 => ((spec_l10Same.f k (rd x8 4) (wrap64 ((rd x8 0) * t185))).bind fun t186 => ((spec_l10Same.f k 0 (rd x8 0)).bind fun t190 => (some (x10, rd x8 0, 0, 0, wrap64 ((rd x8 1) * 1000), rd x8 2, rd x8 3, t186, t190, true))))) else (none)) else (none)) else (none)) else (none)) else (none)) else (if x10 = 1 then (if 0 < (x8.length : Int) then (if 1 < (x8.length : Int) then (if 2 < (x8.length : Int) then (if 3 < (x8.length : Int) then (if 4 < (x8.length : Int) then (if 5 < (x8.length : Int) then (if 6 < (x8.length : Int) then ((spec_l10Same.f k (rd x8 6) (wrap64 ((wrap64 ((wrap64 ((rd x8 0) * (rd x8 1))) * (rd x8 1))) * x163002))).bind fun t203 => ((spec_l10Same.f k 0 (rd x8 0)).bind fun t207 => (some (x10, rd x8 0, rd x8 1, rd x8 2, wrap64 ((rd x8 3) * 1000), rd x8 4, rd x8 5, t203, t207, true)))) else (none)) else (none)) else (none)) else (none)) else (none)) else (none)) else (none)) else (if x10 = 2 then (spec_l10Layer.j2 k x8 x10 (x10 == 2) x10 0 0 0 0 0 0) else (spec_l10Layer.j2 k x8 x10 (x10 == 3) x10 0 0 0 0 0 0))))
def spec_l10Layer.j2 : Nat → List Int → Int → Bool → Int → Int → Int → Int → Int → Int → Int → Option (Int × Int × Int × Int × Int × Int × Int × List Int × List Int × Bool)
 | 0, _, _, _, _, _, _, _, _, _, _ => none
 | k + 1, x8, x49, x126, x179000, x179001, x179002, x179003, x179004, x179005, x179006 => if x126 = true then (if 0 < (x8.length : Int) then (if 1 < (x8.length : Int) then (some (x179000, x179001, rd x8 0, rd x8 1, x179004, x179005, x179006, ([] : List Int), ([] : List Int), true)) else (none)) else (none)) else (if x49 = 4 then (if 0 < (x8.length : Int) then (some (x179000, x179001, x179002, x179003, x179004, x179005, rd x8 0, ([] : List Int), ([] : List Int), true)) else (none)) else (some (x179000, x179001, x179002, x179003, x179004, x179005, x179006, ([] : List Int), ([] : List Int), true)))
end
def spec_l10Layer.f (k : Nat) (l0 : List ByteArray) (a1_0 : Int) (a1_1 : Int) (a1_2 : Int) : Option (Int × Int × Int × Int × Int × Int × Int × List Int × List Int × Bool) := if 1 ≤ (l0.length : Int) then ((spec_l10Numbers.f k (l0.drop 1)).bind fun bt171 => (spec_l10Layer.l0 k l0 (([(⟨#[100, 101, 110, 115, 101]⟩ : ByteArray), (⟨#[99, 111, 110, 118]⟩ : ByteArray), (⟨#[109, 97, 120]⟩ : ByteArray), (⟨#[97, 118, 103]⟩ : ByteArray), (⟨#[114, 101, 108, 117]⟩ : ByteArray), (⟨#[102, 108, 97, 116]⟩ : ByteArray)] : List ByteArray)) (([5, 7, 2, 2, 1, 0] : List Int)) bt171.1 bt171.2 0 a1_0 a1_1 a1_2)) else (none)
def spec_l10Layer.T7 : Bool × List (List Nat × List Nat) := (true, [([], []), ([0], [0]), ([1], [1]), ([2], [2]), ([3, 2], [2, 3]), ([4, 2], [2, 4]), ([2], [2]), ([2], [2]), ([6, 7, 2], [2, 6, 7]), ([8, 2], [2, 8]), ([5, 9, 2], [2, 5, 9]), ([2, 10], [2, 10]), ([11, 2], [11]), ([12], [12]), ([13, 12], [12, 13]), ([12], [12]), ([12], [12]), ([15, 16, 12], [12, 15, 16]), ([17, 12], [12, 17]), ([14, 18, 12], [12, 14, 18]), ([12, 19], [12, 19])])
def spec_l10Layer.B7 : List Nat := [0, 1, 3, 7, 15, 31, 7, 7, 199, 455, 1023, 2047, 4095, 8191, 16383, 8191, 8191, 106495, 237567, 524287, 1048575]
theorem spec_l10Layer.tab7 : rtab .any (opsOf Tryz.f25 7) = spec_l10Layer.T7 := by kernel_rfl
theorem spec_l10Layer.bits7 : waitsOk spec_l10Layer.T7.2 spec_l10Layer.B7 = true := by kernel_rfl
def spec_l10Layer.T11 : Bool × List (List Nat × List Nat) := (true, [([], []), ([], []), ([1], [1]), ([2], [2]), ([], []), ([4], [4]), ([5], [5]), ([6], [6]), ([], []), ([8], [8]), ([9], [9]), ([], []), ([11], [11]), ([12], [12]), ([], []), ([14], [14]), ([15], [15]), ([], []), ([17], [17]), ([18], [18]), ([], []), ([20], [20]), ([19, 21], [19, 21]), ([16, 22, 21], [16, 22]), ([], []), ([24], [24]), ([25], [25]), ([26, 23], [26]), ([0, 3, 7, 10, 13, 23, 27], [0, 3, 7, 10, 13, 23, 27]), ([28, 27, 0, 1, 2, 3, 4, 5, 6, 7, 8, 9, 10, 11, 12, 13, 14, 15, 16, 17, 18, 19, 20, 21, 22, 23, 24, 25, 26, 27, 28], [28])])
def spec_l10Layer.B11 : List Nat := [0, 0, 2, 6, 0, 16, 48, 112, 0, 256, 768, 0, 2048, 6144, 0, 16384, 49152, 0, 131072, 393216, 0, 1048576, 4063232, 8372224, 0, 16777216, 50331648, 134201344, 268435455, 536870911]
theorem spec_l10Layer.tab11 : rtab .any (opsOf Tryz.f25 11) = spec_l10Layer.T11 := by kernel_rfl
theorem spec_l10Layer.bits11 : waitsOk spec_l10Layer.T11.2 spec_l10Layer.B11 = true := by kernel_rfl
def spec_l10Layer.T13 : Bool × List (List Nat × List Nat) := (true, [([], []), ([], []), ([1], [1]), ([2], [2]), ([], []), ([4], [4]), ([5], [5]), ([], []), ([7], [7]), ([8], [8]), ([], []), ([10], [10]), ([11], [11]), ([12], [12]), ([], []), ([14], [14]), ([15], [15]), ([], []), ([17], [17]), ([18], [18]), ([], []), ([20], [20]), ([21], [21]), ([], []), ([23], [23]), ([24], [24]), ([], []), ([26], [26]), ([27], [27]), ([25, 28], [25, 28]), ([], []), ([30], [30]), ([31], [31]), ([29, 32], [29, 32]), ([], []), ([34], [34]), ([33, 35], [33, 35]), ([22, 36], [22, 36]), ([], []), ([38], [38]), ([39], [39]), ([40, 37], [40]), ([0, 3, 6, 9, 13, 16, 19, 37, 41], [0, 3, 6, 9, 13, 16, 19, 37, 41]), ([42, 41, 0, 1, 2, 3, 4, 5, 6, 7, 8, 9, 10, 11, 12, 13, 14, 15, 16, 17, 18, 19, 20, 21, 22, 23, 24, 25, 26, 27, 28, 29, 30, 31, 32, 33, 34, 35, 36, 37, 38, 39, 40, 41, 42], [42])])
def spec_l10Layer.B13 : List Nat := [0, 0, 2, 6, 0, 16, 48, 0, 128, 384, 0, 1024, 3072, 7168, 0, 16384, 49152, 0, 131072, 393216, 0, 1048576, 3145728, 0, 8388608, 25165824, 0, 67108864, 201326592, 528482304, 0, 1073741824, 3221225472, 8581545984, 0, 17179869184, 68711088128, 137437904896, 0, 274877906944, 824633720832, 2199022206976, 4398046511103, 8796093022207]
theorem spec_l10Layer.tab13 : rtab .any (opsOf Tryz.f25 13) = spec_l10Layer.T13 := by kernel_rfl
theorem spec_l10Layer.bits13 : waitsOk spec_l10Layer.T13.2 spec_l10Layer.B13 = true := by kernel_rfl
set_option maxHeartbeats 8000000 in
set_option maxRecDepth 100000 in
theorem spec_l10Layer.calls {k : Nat} {A0 : Option Addr} {c0 : Nat} {l0 : List ByteArray} {a1_0 : Int} {a1_1 : Int} {a1_2 : Int} {r1 : Int} {r2 : Int} {r3 : Int} {r4 : Int} {r5 : Int} {r6 : Int} {r7 : Int} {r8 : List Int} {r9 : List Int} {r10 : Bool} {w : World} (hr0 : Kd.C Kd.string w A0 l0.length l0) (hc0 : l0.length ≤ c0) (h : spec_l10Layer.f k l0 a1_0 a1_1 a1_2 = some (r1, r2, r3, r4, r5, r6, r7, r8, r9, r10)) :
  Calls Tryz.prog 25 #[.slice A0 l0.length c0, .agg #[.int .i64 a1_0, .int .i64 a1_1, .int .i64 a1_2]] w fun e w' => ∃ v7_ v8_ : Value, e = .returned (.tuple #[.agg #[.int .i64 r1, .int .i64 r2, .int .i64 r3, .int .i64 r4, .int .i64 r5, .int .i64 r6, .int .i64 r7, v7_, v8_], .bool r10]) ∧ Kd.R (Kd.int .i64) 3 w' w.heap.size (fun k_ => some k_ ≠ (v8_ : Value).ownBlock) v7_ r8 ∧ Kd.R (Kd.int .i64) 3 w' w.heap.size (fun k_ => some k_ ≠ (v7_ : Value).ownBlock) v8_ r9 ∧ Below w.heap.size w w' := by
 have hu23 := Tryz.underlying23; have hu55 := Tryz.underlying55; have cP := Aside0.mk hr0; have fQ := Aside0.mk hc0; clear hr0 hc0; have HB := Aside0.mk (Below.refl w.heap.size w); have H : (if 1 ≤ (l0.length : Int) then ((spec_l10Numbers.f k (l0.drop 1)).bind fun ag => (spec_l10Layer.l0 k l0 (([(⟨#[100, 101, 110, 115, 101]⟩ : ByteArray), (⟨#[99, 111, 110, 118]⟩ : ByteArray), (⟨#[109, 97, 120]⟩ : ByteArray), (⟨#[97, 118, 103]⟩ : ByteArray), (⟨#[114, 101, 108, 117]⟩ : ByteArray), (⟨#[102, 108, 97, 116]⟩ : ByteArray)] : List ByteArray)) (([5, 7, 2, 2, 1, 0] : List Int)) ag.1 ag.2 0 a1_0 a1_1 a1_2)) else (none)) = some (r1, r2, r3, r4, r5, r6, r7, r8, r9, r10) := h; clear h; obtain ⟨a0, hy_⟩ : ∃ y_ : List ByteArray, y_ = (([(⟨#[100, 101, 110, 115, 101]⟩ : ByteArray), (⟨#[99, 111, 110, 118]⟩ : ByteArray), (⟨#[109, 97, 120]⟩ : ByteArray), (⟨#[97, 118, 103]⟩ : ByteArray), (⟨#[114, 101, 108, 117]⟩ : ByteArray), (⟨#[102, 108, 97, 116]⟩ : ByteArray)] : List ByteArray)) := ⟨_, rfl⟩; replace H : (if 1 ≤ (l0.length : Int) then ((spec_l10Numbers.f k (l0.drop 1)).bind fun ag => (spec_l10Layer.l0 k l0 a0 (([5, 7, 2, 2, 1, 0] : List Int)) ag.1 ag.2 0 a1_0 a1_1 a1_2)) else (none)) = some (r1, r2, r3, r4, r5, r6, r7, r8, r9, r10) := yh_
 have bn := Aside0.mk hy_; clear hy_; obtain ⟨au, hy_⟩ : ∃ y_ : List Int, y_ = (([5, 7, 2, 2, 1, 0] : List Int)) := ⟨_, rfl⟩; replace H : (if 1 ≤ (l0.length : Int) then ((spec_l10Numbers.f k (l0.drop 1)).bind fun ag => (spec_l10Layer.l0 k l0 a0 au ag.1 ag.2 0 a1_0 a1_1 a1_2)) else (none)) = some (r1, r2, r3, r4, r5, r6, r7, r8, r9, r10) := yh_; have bo := Aside0.mk hy_; clear hy_
 obtain ⟨c3, H⟩ := ip_ H; have dy := eq_true c3; have dz : decide (1 ≤ (l0.length : Int)) = true := dt_ c3; clear c3; obtain ⟨⟨E, bp⟩, A4, H⟩ := bo_ H; (try dsimp only at H); have H' := Aside0.mk H; clear H
 go_enter Tryz.func25, Tryz.ntmps25
 go_wp2_with (first | ((with_reducible refine gate_dst (N := 3) rfl ?_); (try (refine gate_guard (by rfl) ?_; dsimp only)); refine bz_ 3 ?_; intro ae hg w5 hbox hb; obtain ⟨G, fR, fS, HB⟩ := nb_ hg hbox HB hb; clear hb hbox hg) | ((with_reducible refine gate_dst (N := 4) rfl ?_); (try (refine gate_guard (by rfl) ?_; dsimp only)); refine bz_ 4 ?_; intro af hg w6 hbox hb; obtain ⟨I, fT, fU, HB⟩ := nb_ hg hbox HB hb; have a2 := nx_ hg G; have a3 := ny_ hg G; replace G := bb_ G hb; clear hb hbox hg) | ((with_reducible refine gate_dst (N := 12) rfl ?_); (try (refine gate_guard (by rfl) ?_; dsimp only)); refine Kd.R_lit Kd.string _ 9 ?hg (N := 12) ?hd (xs := ([(⟨#[100, 101, 110, 115, 101]⟩ : ByteArray), (⟨#[99, 111, 110, 118]⟩ : ByteArray), (⟨#[109, 97, 120]⟩ : ByteArray), (⟨#[97, 118, 103]⟩ : ByteArray), (⟨#[114, 101, 108, 117]⟩ : ByteArray), (⟨#[102, 108, 97, 116]⟩ : ByteArray)] : List ByteArray)) (inner := [.string (⟨#[100, 101, 110, 115, 101]⟩ : ByteArray), .string (⟨#[99, 111, 110, 118]⟩ : ByteArray), .string (⟨#[109, 97, 120]⟩ : ByteArray), .string (⟨#[97, 118, 103]⟩ : ByteArray), .string (⟨#[114, 101, 108, 117]⟩ : ByteArray), .string (⟨#[102, 108, 97, 116]⟩ : ByteArray)]) (ok := fun _ => True) (okp := fun _ => True) ?hr ?hp (fun _ hk => hk) trivial (Below.refl _ _) (Nat.le_refl _) (by simp) ?_; (case hd => rfl); (case hg => rfl); (case hr => first | (go_simp; done) | (go_simp; rfl)); (case hp => exact (Reps.one (show Kd.M Kd.string _ _ _ (⟨#[100, 101, 110, 115, 101]⟩ : ByteArray) [.string (⟨#[100, 101, 110, 115, 101]⟩ : ByteArray)] from rfl) (Reps.one (show Kd.M Kd.string _ _ _ (⟨#[99, 111, 110, 118]⟩ : ByteArray) [.string (⟨#[99, 111, 110, 118]⟩ : ByteArray)] from rfl) (Reps.one (show Kd.M Kd.string _ _ _ (⟨#[109, 97, 120]⟩ : ByteArray) [.string (⟨#[109, 97, 120]⟩ : ByteArray)] from rfl) (Reps.one (show Kd.M Kd.string _ _ _ (⟨#[97, 118, 103]⟩ : ByteArray) [.string (⟨#[97, 118, 103]⟩ : ByteArray)] from rfl) (Reps.one (show Kd.M Kd.string _ _ _ (⟨#[114, 101, 108, 117]⟩ : ByteArray) [.string (⟨#[114, 101, 108, 117]⟩ : ByteArray)] from rfl) (Reps.one (show Kd.M Kd.string _ _ _ (⟨#[102, 108, 97, 116]⟩ : ByteArray) [.string (⟨#[102, 108, 97, 116]⟩ : ByteArray)] from rfl) (Reps.none _ _)))))))); intro dA w7 bq hb hg_ hnew_; clear hg_ hnew_; (first | rw [← bn.out] at bq | (simp only [Int.reduceToNat] at bq; rw [← bn.out] at bq)); have aS := Aside0.mk (Kd.R_lower bq (below_size (be_ HB.out))); replace G := bb_ G hb; replace I := bb_ I hb; replace HB := hb_ HB hb; clear hb bq) | ((with_reducible refine gate_dst (N := 13) rfl ?_); (try (refine gate_guard (by rfl) ?_; dsimp only)); refine Kd.R_lit (Kd.int .i64) _ 3 ?hg (N := 13) ?hd (xs := ([5, 7, 2, 2, 1, 0] : List Int)) (inner := [.int .i64 5, .int .i64 7, .int .i64 2, .int .i64 2, .int .i64 1, .int .i64 0]) (ok := fun _ => True) (okp := fun _ => True) ?hr ?hp (fun _ hk => hk) trivial (Below.refl _ _) (Nat.le_refl _) (by simp) ?_; (case hd => rfl); (case hg => rfl); (case hr => first | (go_simp; done) | (go_simp; rfl)); (case hp => exact (Reps.one (show Kd.M (Kd.int .i64) _ _ _ 5 [.int .i64 5] from rfl) (Reps.one (show Kd.M (Kd.int .i64) _ _ _ 7 [.int .i64 7] from rfl) (Reps.one (show Kd.M (Kd.int .i64) _ _ _ 2 [.int .i64 2] from rfl) (Reps.one (show Kd.M (Kd.int .i64) _ _ _ 2 [.int .i64 2] from rfl) (Reps.one (show Kd.M (Kd.int .i64) _ _ _ 1 [.int .i64 1] from rfl) (Reps.one (show Kd.M (Kd.int .i64) _ _ _ 0 [.int .i64 0] from rfl) (Reps.none _ _)))))))); intro aN w9 b2 hb hg_ hnew_; clear hg_ hnew_; (first | rw [← bo.out] at b2 | (simp only [Int.reduceToNat] at b2; rw [← bo.out] at b2)); replace aS := rb_ aS hb; have aY := Aside0.mk (Kd.R_lower b2 (below_size (be_ HB.out))); replace G := bb_ G hb; replace I := bb_ I hb; replace HB := hb_ HB hb; clear hb b2; obtain ⟨i011, br, _, hsz11, _⟩ := info_parts info9; obtain ⟨fV, hcut11, hA11, hC11⟩ := print_drop_of (P := Tryz.prog) Value.string (⟨#[]⟩ : ByteArray) 50 9 .i64 Tryz.underlying50 br hsz11 A0 c0 l0 1 (by omega) (od_) fQ.out; have cQ := Aside0.mk (Kd.C_of_reads (h1 := fun _ => rfl) (hA11 _ (Kd.reads_of_C cP.out))); have cR := Aside0.mk hC11; clear hA11 hC11 br hsz11) | ((with_reducible refine gc_ 23 ?_); refine gl_ (some 17) Tryz.func23 #[.slice fV (l0.drop 1).length (c0 - 1)] ?_ (hargs := (by (try simp only [List.map_toArray, List.map_cons, List.map_nil]); first | done | (rw [show (l0.drop 1).length = (l0.length - 1) from List.length_drop] <;> rfl) | rfl | (simp only [List.length_drop, List.length_take]; rfl))); (with_reducible refine (spec_l10Numbers.calls ?_ ?_ A4.out).mono ?_); exact cu_ cQ.out HB.out; exact cR.out; rintro e ib ⟨av, rfl, a5, hb⟩; refine ⟨_, rfl, ?_⟩; replace aS := rb_ aS hb; have cS := Aside0.mk (Kd.R_lower (Kd.R_new' a5 (Kd.R_lt (ra_ aY.out))) (below_size (be_ HB.out))); replace aY := Aside0.mk (Kd.R_elder' (ra_ aY.out) (Kd.R_base a5) hb); replace G := bb_ G hb; replace I := bb_ I hb; replace HB := hb_ HB hb; (try clear hb a5)))
 (try simp only [Act.put, List.setIfInBounds_toArray, List.set_cons_zero, List.set_cons_succ])
 go_loopg [10] k (fun kq v10 w' => ∃ (J : Int) (a6 : Int) (a7 : Int) (a8 : Int) (a9 : Int) (aa : Int) (ab : Int) (ac : Int), v10 = .int .i64 J ∧ Aside0 (spec_l10Layer.l0 kq l0 a0 au E bp J a1_0 a1_1 a1_2 = some (r1, r2, r3, r4, r5, r6, r7, r8, r9, r10)) ∧ Aside0 (kq ≤ k) ∧ Aside0 (Kd.R Kd.string 9 w' w.heap.size (fun _ => True) dA a0) ∧ Aside0 (Kd.R (Kd.int .i64) 3 w' w.heap.size (fun k_ => some k_ ≠ (av : Value).ownBlock) aN au) ∧ Aside0 (Kd.R (Kd.int .i64) 3 w' w.heap.size (fun k_ => some k_ ≠ (aN : Value).ownBlock) av E) ∧ Aside0 (w'.heap[ae]? = some (.cells #[.int .i64 a1_0, .int .i64 a1_1, .int .i64 a1_2] 23 (0, 0))) ∧ Aside0 (w'.heap[af]? = some (.cells #[.int .i64 a6, .int .i64 a7, .int .i64 a8, .int .i64 a9, .int .i64 aa, .int .i64 ab, .int .i64 ac, (.slice none 0 0), (.slice none 0 0)] 55 (0, 0))) ∧ Aside0 (Below w.heap.size w w'))
 case atStart => exact ⟨(0), (0), (0), (0), (0), (0), (0), (0), rl_, H', ⟨Nat.le_refl _⟩, ⟨ra_ aS.out⟩, ⟨Kd.R_mono (ra_ aY.out) (fun _ hk => hk.2)⟩, ⟨Kd.R_mono (ra_ cS.out) (fun _ hk => hk.2)⟩, ⟨bu_ G.out⟩, ⟨bu_ I.out⟩, ⟨be_ HB.out⟩⟩
 case round =>
  clear H'; (try clear c2); (try clear p2); (try clear c3); (try clear dy); (try clear dz); obtain ⟨J, a6, a7, a8, a9, aa, ab, ac, rfl, HA, b6, X, W, B, G, I, HB⟩ := hrel
  cases gk with
  | zero => exact absurd HA.out (by simp [spec_l10Layer.l0])
  | succ k1 =>
   have H := HA.out; clear HA; simp only [spec_l10Layer.l0] at H
   replace H := icd_ H; obtain ⟨cT, H⟩ | ⟨cT, H⟩ := H
   ·
    have bs := Aside0.mk H; clear H; obtain ⟨bu, bv, dC⟩ := Kd.R_slice X.out; subst dC
    go_upto_region 7 with (fail)
    go_cut [46] (fun v46 wc => ∃ (kq : Nat) (aZ : Bool), v46 = .bool aZ ∧ Aside0 (spec_l10Layer.j1 kq l0 a0 au E bp J aZ a1_0 a1_1 a1_2 = some (r1, r2, r3, r4, r5, r6, r7, r8, r9, r10)) ∧ Aside0 (kq ≤ k1) ∧ Aside0 (Kd.R Kd.string 9 wc w.heap.size (fun _ => True) (.slice bu a0.length bv) a0) ∧ Aside0 (Kd.R (Kd.int .i64) 3 wc w.heap.size (fun k_ => some k_ ≠ (av : Value).ownBlock) aN au) ∧ Aside0 (Kd.R (Kd.int .i64) 3 wc w.heap.size (fun k_ => some k_ ≠ (aN : Value).ownBlock) av E) ∧ Aside0 (wc.heap[ae]? = some (.cells #[.int .i64 a1_0, .int .i64 a1_1, .int .i64 a1_2] 23 (0, 0))) ∧ Aside0 (wc.heap[af]? = some (.cells #[.int .i64 a6, .int .i64 a7, .int .i64 a8, .int .i64 a9, .int .i64 aa, .int .i64 ab, .int .i64 ac, (.slice none 0 0), (.slice none 0 0)] 55 (0, 0))) ∧ Aside0 (Below w.heap.size w wc))
    case first =>
     have H := bs.out; clear bs
     by_cases bw : bp = true
     ·
      subst bw; rw [if_pos rfl] at H
      obtain ⟨cU, H⟩ := ip_ H; have b7 : decide (0 < (l0.length : Int)) = true := dt_ cU; have cV : decide (0 < l0.length) = true := decide_eq_true (by omega); clear cU; (first | rw [b7] | (simp only [i64_w, i32_w]; rw [b7]) | skip)
      obtain ⟨cW, H⟩ := ipd_ H
      replace H := ic_ H; obtain ⟨b8, H⟩ | ⟨b8, H⟩ := H
      ·
       have bx : ((rdOf ByteArray.empty l0 0).toList == (rdOf ByteArray.empty a0 J).toList) = true := beq_iff_eq.mpr b8; have bz : ((rdOf ByteArray.empty l0 0).toList != (rdOf ByteArray.empty a0 J).toList) = false := bne_eq_false_iff_eq.mpr b8; clear b8
       obtain ⟨cX, H⟩ := ipd_ H; have H' := Aside0.mk H; clear H
       try go_wp2
       replace X := Aside0.mk (Kd.R_drew X.out); replace W := Aside0.mk (Kd.R_drew W.out); replace B := Aside0.mk (Kd.R_drew B.out); replace G := Aside0.mk (blk_drew G.out); replace I := Aside0.mk (blk_drew I.out); replace HB := Aside0.mk (below_drew1 HB.out); have aO : 0 ≤ (0 : Int) := (by omega); have aP : 0 < (l0.length : Int) := od_; obtain ⟨b9, bA, Y⟩ := Kd.at_string cP.out 0 aO aP; have a1 := Y; (try rw [show ((0 : Int)).toNat = 0 from rfl] at a1); (try rw [show 0 * 1 = 0 from rfl] at a1); (try rw [Addr.add_zero'] at a1)
       cases bA
       have cY : (0 < l0.length) = True := eq_true (by omega); (try rw [show ((0 : Int)).toNat = 0 from rfl] at Y); (try rw [Addr.add_zero'] at Y); replace Y := cw_ HB.out Y; replace aO := eq_true aO; replace aP := eq_true aP; have aQ : 0 ≤ (J : Int) := od_; have aR : J < (a0.length : Int) := od_; obtain ⟨ba, bB, ad⟩ := Kd.at_string (Kd.R_reads' X.out).2.2 J aQ aR
       cases bB
       replace aQ := eq_true aQ; replace aR := eq_true aR; obtain ⟨hE, hF, cE⟩ := Kd.R_slice B.out; (first | subst cE | (injection cE with f1_ f2_ f3_; have f4_ := f1_.symm; have f5_ := f3_.symm; clear f1_ f2_ f3_; subst f4_; subst f5_)); obtain ⟨hG, hH, cF⟩ := Kd.R_slice W.out; (first | subst cF | (injection cF with f1_ f2_ f3_; have f4_ := f1_.symm; have f5_ := f3_.symm; clear f1_ f2_ f3_; subst f4_; subst f5_)); have bh : 0 ≤ (J : Int) := od_; have bi : J < (au.length : Int) := od_; obtain ⟨cZ, dD, aT⟩ := Kd.at_int (Kd.R_reads' W.out).2.2 J bh bi
       cases dD
       replace bh := eq_true bh; replace bi := eq_true bi; refine sta_ 21 (fun w' => w'.cell? b9 = some (.string (rdOf ByteArray.empty l0 0)) ∧ w'.cell? (ba.add (J).toNat) = some (.string (rdOf ByteArray.empty a0 J)) ∧ w'.cell? (cZ.add (J).toNat) = some (.int .i64 (rd au J))) ⟨(cw_ HB.out a1), ad, aT⟩ (fun hHeld => ?_); refine with_tabW spec_l10Layer.tab7 spec_l10Layer.bits7 (fun HT_ HW_ => ?_); generalize wr.drew = ic at X W B G I HB Y ad aT hHeld ⊢; refine pv_ 0 21 1 ?_; refine pv_ 1 21 3 ?_; refine pv_ 2 21 7 ?_; refine pv_ 3 21 15 ?_; refine pv_ 4 21 31 ?_; refine pv_ 6 21 95 ?_; refine pv_ 7 21 223 ?_; refine pv_ 8 21 479 ?_; refine tv_ 5 21 511 ?_; refine tv_ 9 21 1023 ?_; refine pv_ 10 21 2047 ?_; refine pv_ 11 21 4095 ?_; refine pv_ 12 21 8191 ?_; refine pv_ 13 21 16383 ?_; refine pv_ 14 21 32767 ?_; refine pv_ 15 21 65535 ?_; refine pv_ 16 21 131071 ?_; refine pv_ 17 21 262143 ?_; refine tv_ 18 21 524287 ?_; refine pv_ 19 21 1048575 ?_; refine pv_ 20 21 2097151 ?_; refine done_ (done_of HT_.out (by kernel_rfl)) ?_
       try go_wp2
       go_meet
       case rel => exact ⟨_, (((E.length : Int) != (rd au J))), rl_, H', ⟨by have := b6.out; first | omega | exact Nat.le_refl _⟩, ⟨ra_ X.out⟩, ⟨ra_ W.out⟩, ⟨ra_ B.out⟩, ⟨bu_ G.out⟩, ⟨bu_ I.out⟩, ⟨be_ HB.out⟩⟩
      ·
       have bx : ((rdOf ByteArray.empty l0 0).toList == (rdOf ByteArray.empty a0 J).toList) = false := beq_eq_false_iff_ne.mpr b8; have bz : ((rdOf ByteArray.empty l0 0).toList != (rdOf ByteArray.empty a0 J).toList) = true := bne_iff_ne.mpr b8; have H' := Aside0.mk H; clear H
       try go_wp2
       replace X := Aside0.mk (Kd.R_drew X.out); replace W := Aside0.mk (Kd.R_drew W.out); replace B := Aside0.mk (Kd.R_drew B.out); replace G := Aside0.mk (blk_drew G.out); replace I := Aside0.mk (blk_drew I.out); replace HB := Aside0.mk (below_drew1 HB.out); have aO : 0 ≤ (0 : Int) := (by omega); have aP : 0 < (l0.length : Int) := od_; obtain ⟨b9, bA, Y⟩ := Kd.at_string cP.out 0 aO aP; have a1 := Y; (try rw [show ((0 : Int)).toNat = 0 from rfl] at a1); (try rw [show 0 * 1 = 0 from rfl] at a1); (try rw [Addr.add_zero'] at a1)
       cases bA
       have cY : (0 < l0.length) = True := eq_true (by omega); (try rw [show ((0 : Int)).toNat = 0 from rfl] at Y); (try rw [Addr.add_zero'] at Y); replace Y := cw_ HB.out Y; replace aO := eq_true aO; replace aP := eq_true aP; have aQ : 0 ≤ (J : Int) := od_; have aR : J < (a0.length : Int) := od_; obtain ⟨ba, bB, ad⟩ := Kd.at_string (Kd.R_reads' X.out).2.2 J aQ aR
       cases bB
       replace aQ := eq_true aQ; replace aR := eq_true aR; refine sta_ 21 (fun w' => w'.cell? b9 = some (.string (rdOf ByteArray.empty l0 0)) ∧ w'.cell? (ba.add (J).toNat) = some (.string (rdOf ByteArray.empty a0 J))) ⟨(cw_ HB.out a1), ad⟩ (fun hHeld => ?_); refine with_tabW spec_l10Layer.tab7 spec_l10Layer.bits7 (fun HT_ HW_ => ?_); generalize wr.drew = ie at X W B G I HB Y ad hHeld ⊢; refine pv_ 0 21 1 ?_; refine pv_ 1 21 3 ?_; refine pv_ 2 21 7 ?_; refine pv_ 3 21 15 ?_; refine pv_ 4 21 31 ?_; refine pv_ 6 21 95 ?_; refine pv_ 7 21 223 ?_; refine pv_ 8 21 479 ?_; refine tv_ 5 21 511 ?_; refine tv_ 9 21 1023 ?_; refine pv_ 10 21 2047 ?_; refine pv_ 11 21 4095 ?_; refine pv_ 12 21 8191 ?_; refine pw_ 13 21 16383 ?_; refine pw_ 14 21 32767 ?_; refine pw_ 15 21 65535 ?_; refine pw_ 16 21 131071 ?_; refine pw_ 17 21 262143 ?_; refine pw_ 18 21 524287 ?_; refine pw_ 19 21 1048575 ?_; refine pv_ 20 21 2097151 ?_; refine done_ (done_of HT_.out (by kernel_rfl)) ?_
       try go_wp2
       go_meet
       case rel => exact ⟨_, (true), rl_, H', ⟨by have := b6.out; first | omega | exact Nat.le_refl _⟩, ⟨ra_ X.out⟩, ⟨ra_ W.out⟩, ⟨ra_ B.out⟩, ⟨bu_ G.out⟩, ⟨bu_ I.out⟩, ⟨be_ HB.out⟩⟩
     ·
      replace bw := fb_ bw; subst bw; replace H := if0_ H
      have H' := Aside0.mk H; clear H
      try go_wp2
      replace X := Aside0.mk (Kd.R_drew X.out); replace W := Aside0.mk (Kd.R_drew W.out); replace B := Aside0.mk (Kd.R_drew B.out); replace G := Aside0.mk (blk_drew G.out); replace I := Aside0.mk (blk_drew I.out); replace HB := Aside0.mk (below_drew1 HB.out); refine sta_ 21 (fun w' => True) trivial (fun hHeld => ?_); refine with_tabW spec_l10Layer.tab7 spec_l10Layer.bits7 (fun HT_ HW_ => ?_); generalize wr.drew = ig at X W B G I HB hHeld ⊢; refine pv_ 0 21 1 ?_; refine pv_ 1 21 3 ?_; refine pv_ 2 21 7 ?_; refine pw_ 3 21 15 ?_; refine pw_ 4 21 31 ?_; refine pw_ 5 21 63 ?_; refine pw_ 6 21 127 ?_; refine pw_ 7 21 255 ?_; refine pw_ 8 21 511 ?_; refine pw_ 9 21 1023 ?_; refine pw_ 10 21 2047 ?_; refine pv_ 11 21 4095 ?_; refine pv_ 12 21 8191 ?_; refine pw_ 13 21 16383 ?_; refine pw_ 14 21 32767 ?_; refine pw_ 15 21 65535 ?_; refine pw_ 16 21 131071 ?_; refine pw_ 17 21 262143 ?_; refine pw_ 18 21 524287 ?_; refine pw_ 19 21 1048575 ?_; refine pv_ 20 21 2097151 ?_; refine done_ (done_of HT_.out (by kernel_rfl)) ?_
      try go_wp2
      go_meet
      case rel => exact ⟨_, (true), rl_, H', ⟨by have := b6.out; first | omega | exact Nat.le_refl _⟩, ⟨ra_ X.out⟩, ⟨ra_ W.out⟩, ⟨ra_ B.out⟩, ⟨bu_ G.out⟩, ⟨bu_ I.out⟩, ⟨be_ HB.out⟩⟩
    case rest =>
     clear bs; (try clear c1); (try clear p1); (try clear q1); (try clear hx1); (try clear qi1); (try clear c2); (try clear p2); (try clear bw); (try clear cU); (try clear b7); (try clear cV); (try clear p17); (try clear q17); (try clear hx17); (try clear qi17); (try clear c18); (try clear cW); (try clear b8); (try clear bx); (try clear bz); (try clear c20); (try clear cX); (try clear Y); (try clear ad); (try clear aT); (try clear aO); (try clear aQ); (try clear bh); (try clear aP); (try clear aR); (try clear bi); obtain ⟨kq, aZ, rfl, HA, bj, X, W, B, G, I, HB⟩ := hcut
     cases kq with
     | zero => exact absurd HA.out (by simp [spec_l10Layer.j1])
     | succ kj13 =>
      have H := HA.out; clear HA; simp only [spec_l10Layer.j1] at H
      replace H := icb_ H; obtain ⟨rfl, H⟩ | ⟨rfl, H⟩ := H
      ·
       have H' := Aside0.mk H; clear H
       go_wp2
       go_roundg kj13
       case measure => have := b6.out; have := bj.out; omega
       case rel => exact ⟨(wrap64 (J + 1)), (a6), (a7), (a8), (a9), (aa), (ab), (ac), rl_, H', ⟨by have := b6.out; have := bj.out; omega⟩, ⟨ra_ X.out⟩, ⟨ra_ W.out⟩, ⟨ra_ B.out⟩, ⟨bu_ G.out⟩, ⟨bu_ I.out⟩, ⟨be_ HB.out⟩⟩
      ·
       replace H := ic_ H; obtain ⟨bm, H⟩ | ⟨bm, H⟩ := H
       ·
        have d0 : (J == 0) = true := eq1_ bm; have d1 : (J != 0) = false := ne0_ bm; clear bm
        obtain ⟨dE, H⟩ := ip_ H; have fW : decide (0 < (E.length : Int)) = true := dt_ dE; have fX : decide (0 < E.length) = true := decide_eq_true (by omega); clear dE
        obtain ⟨dF, H⟩ := ip_ H; have fY : decide (1 < (E.length : Int)) = true := dt_ dF; have fZ : decide (1 < E.length) = true := decide_eq_true (by omega); clear dF
        obtain ⟨dG, H⟩ := ip_ H; have g0 : decide (2 < (E.length : Int)) = true := dt_ dG; have g1 : decide (2 < E.length) = true := decide_eq_true (by omega); clear dG
        obtain ⟨dH, H⟩ := ip_ H; have g2 : decide (3 < (E.length : Int)) = true := dt_ dH; have g3 : decide (3 < E.length) = true := decide_eq_true (by omega); clear dH
        obtain ⟨dI, H⟩ := ip_ H; have g4 : decide (4 < (E.length : Int)) = true := dt_ dI; have g5 : decide (4 < E.length) = true := decide_eq_true (by omega); clear dI; obtain ⟨hI, g6, H⟩ := bo_ H; (try dsimp only at H); obtain ⟨dJ, g7, H⟩ := bo_ H; (try dsimp only at H); obtain ⟨dK, g8, H⟩ := bo_ H; (try dsimp only at H); simp only [Option.some.injEq, Prod.mk.injEq] at H; obtain ⟨rfl, rfl, rfl, rfl, rfl, rfl, rfl, rfl, rfl, rfl⟩ := H
        try go_wp2_with (first | ((with_reducible refine gate_dst (N := 11) rfl ?_); (try (refine gate_guard (by rfl) ?_; dsimp only)); refine bz_ 11 ?_; intro U hg g9 hbox hb; replace X := rb_ X hb; replace W := rb_ W hb; replace B := rb_ B hb; obtain ⟨A, bC, bD, HB⟩ := nb_ hg hbox HB hb; have D := nx_ hg G; have L := ny_ hg G; replace G := bb_ G hb; have O := nx_ hg I; have T := ny_ hg I; replace I := bb_ I hb; clear hb hbox hg; have ga := nn_ L D; have gb := nn_ T O; have gc := box9_ A.out))
        generalize hq_ : (((((((((g9.setCell ⟨U, 0, none⟩ (.int .i64 J)).setCell ⟨U, 1, none⟩ (.int .i64 0)).setCell ⟨U, 2, none⟩ (.int .i64 0)).setCell ⟨U, 3, none⟩ (.int .i64 0)).setCell ⟨U, 4, none⟩ (.int .i64 0)).setCell ⟨U, 5, none⟩ (.int .i64 0)).setCell ⟨U, 6, none⟩ (.int .i64 0)).setCell ⟨U, 7, none⟩ (.slice none 0 0)).setCell ⟨U, 8, none⟩ (.slice none 0 0)) = cz; replace X : Aside0 (Kd.R Kd.string 9 cz w.heap.size (fun _ => True) (.slice bu a0.length bv) a0) := ⟨by rw [← hq_]; (with_reducible repeat (first | apply Kd.R_alloc | apply Kd.R_drewN | apply Kd.R_drew)); exact Kd.R_mono (rs9_ (Kd.R_types X.out A.out (by decide)) (fun _ hk => hk.2)) (fun _ hk => trivial)⟩; replace W : Aside0 (Kd.R (Kd.int .i64) 3 cz w.heap.size (fun k_ => some k_ ≠ (av : Value).ownBlock) aN au) := ⟨by rw [← hq_]; (with_reducible repeat (first | apply Kd.R_alloc | apply Kd.R_drewN | apply Kd.R_drew)); exact Kd.R_mono (rs9_ (Kd.R_types W.out A.out (by decide)) (fun _ hk => hk.2)) (fun _ hk => hk.1)⟩; replace B : Aside0 (Kd.R (Kd.int .i64) 3 cz w.heap.size (fun k_ => some k_ ≠ (aN : Value).ownBlock) av E) := ⟨by rw [← hq_]; (with_reducible repeat (first | apply Kd.R_alloc | apply Kd.R_drewN | apply Kd.R_drew)); exact Kd.R_mono (rs9_ (Kd.R_types B.out A.out (by decide)) (fun _ hk => hk.2)) (fun _ hk => hk.1)⟩; replace G := sb_ hq_ G; replace I := sb_ hq_ I; replace A := sb_ hq_ A; replace HB := sh_ hq_ HB; clear hq_; replace X := Aside0.mk (Kd.R_drew X.out); replace W := Aside0.mk (Kd.R_drew W.out); replace B := Aside0.mk (Kd.R_drew B.out); replace G := Aside0.mk (blk_drew G.out); replace I := Aside0.mk (blk_drew I.out); replace A := Aside0.mk (blk_drew A.out); replace HB := Aside0.mk (below_drew1 HB.out); obtain ⟨hJ, hL, cG⟩ := Kd.R_slice B.out; (first | subst cG | (injection cG with f1_ f2_ f3_; have f4_ := f1_.symm; have f5_ := f3_.symm; clear f1_ f2_ f3_; subst f4_; subst f5_)); have bE : 0 ≤ (0 : Int) := (by omega); have bF : 0 < (E.length : Int) := od_; obtain ⟨a4, dL, aw⟩ := Kd.at_int (Kd.R_reads' B.out).2.2 0 bE bF
        cases dL
        have gf : (0 < E.length) = True := eq_true (by omega); (try rw [show ((0 : Int)).toNat = 0 from rfl] at aw); (try rw [Addr.add_zero'] at aw); replace bE := eq_true bE; replace bF := eq_true bF; have bG : 0 ≤ (1 : Int) := (by omega); have bH : 1 < (E.length : Int) := od_; obtain ⟨d2, dM, ax⟩ := Kd.at_int (Kd.R_reads' B.out).2.2 1 bG bH; obtain rfl : a4 = d2 := (by injection dM); (try simp only [show (1 : Int).toNat = 1 from rfl, Nat.reduceMul, Nat.reduceEqDiff, Go.Addr.add, ↓reduceIte] at ax); have gg : (1 < E.length) = True := eq_true (by omega); (try rw [show ((1 : Int)).toNat = 1 from rfl] at ax); replace bG := eq_true bG; replace bH := eq_true bH; have bI : 0 ≤ (2 : Int) := (by omega); have bJ : 2 < (E.length : Int) := od_; obtain ⟨d3, dN, ay⟩ := Kd.at_int (Kd.R_reads' B.out).2.2 2 bI bJ; obtain rfl : a4 = d3 := (by injection dN); (try simp only [show (2 : Int).toNat = 2 from rfl, Nat.reduceMul, Nat.reduceEqDiff, Go.Addr.add, ↓reduceIte] at ay); have gh : (2 < E.length) = True := eq_true (by omega); (try rw [show ((2 : Int)).toNat = 2 from rfl] at ay); replace bI := eq_true bI; replace bJ := eq_true bJ; have bK : 0 ≤ (3 : Int) := (by omega); have bL : 3 < (E.length : Int) := od_; obtain ⟨d4, dO, az⟩ := Kd.at_int (Kd.R_reads' B.out).2.2 3 bK bL; obtain rfl : a4 = d4 := (by injection dO); (try simp only [show (3 : Int).toNat = 3 from rfl, Nat.reduceMul, Nat.reduceEqDiff, Go.Addr.add, ↓reduceIte] at az); have gi : (3 < E.length) = True := eq_true (by omega); (try rw [show ((3 : Int)).toNat = 3 from rfl] at az); replace bK := eq_true bK; replace bL := eq_true bL; have bM : 0 ≤ (4 : Int) := (by omega); have bN : 4 < (E.length : Int) := od_; obtain ⟨d5, dP, aA⟩ := Kd.at_int (Kd.R_reads' B.out).2.2 4 bM bN; obtain rfl : a4 = d5 := (by injection dP); (try simp only [show (4 : Int).toNat = 4 from rfl, Nat.reduceMul, Nat.reduceEqDiff, Go.Addr.add, ↓reduceIte] at aA); have gj : (4 < E.length) = True := eq_true (by omega); (try rw [show ((4 : Int)).toNat = 4 from rfl] at aA); replace bM := eq_true bM; replace bN := eq_true bN; have bO : 0 ≤ (0 : Int) := (by omega); have bP : 0 < (E.length : Int) := od_; obtain ⟨d6, dQ, aC⟩ := Kd.at_int (Kd.R_reads' B.out).2.2 0 bO bP; obtain rfl : a4 = d6 := (by injection dQ); have gl : (0 < E.length) = True := eq_true (by omega); (try rw [show ((0 : Int)).toNat = 0 from rfl] at aC); (try rw [Addr.add_zero'] at aC); replace bO := eq_true bO; replace bP := eq_true bP; have bQ : 0 ≤ (0 : Int) := (by omega); have bR : 0 < (E.length : Int) := od_; obtain ⟨d7, dR, aD⟩ := Kd.at_int (Kd.R_reads' B.out).2.2 0 bQ bR; obtain rfl : a4 = d7 := (by injection dR); have gm : (0 < E.length) = True := eq_true (by omega); (try rw [show ((0 : Int)).toNat = 0 from rfl] at aD); (try rw [Addr.add_zero'] at aD); replace bQ := eq_true bQ; replace bR := eq_true bR; refine sta_ 30 (fun w' => CE_ w' ae 0 (.int .i64 a1_0) ∧ CE_ w' ae 1 (.int .i64 a1_1) ∧ CE_ w' ae 2 (.int .i64 a1_2) ∧ w'.cell? a4 = some (.int .i64 (rd E 0)) ∧ CF_ w' a4 1 (.int .i64 (rd E 1)) ∧ CF_ w' a4 2 (.int .i64 (rd E 2)) ∧ CF_ w' a4 3 (.int .i64 (rd E 3)) ∧ CF_ w' a4 4 (.int .i64 (rd E 4)) ∧ w'.cell? a4 = some (.int .i64 (rd E 0)) ∧ w'.cell? a4 = some (.int .i64 (rd E 0))) ⟨bk_ G 0, bk_ G 1, bk_ G 2, aw, ax, ay, az, aA, aC, aD⟩ (fun hHeld => ?_); refine with_tabW spec_l10Layer.tab11 spec_l10Layer.bits11 (fun HT_ HW_ => ?_); generalize cz.drew = ih at X W B G I A HB aw ax ay az aA aC aD hHeld ⊢; refine pv_ 0 30 1 ?_; refine pv_ 1 30 3 ?_; refine pv_ 2 30 7 ?_; refine pv_ 4 30 23 ?_; refine pv_ 5 30 55 ?_; refine pv_ 8 30 311 ?_; refine pv_ 9 30 823 ?_; refine pv_ 11 30 2871 ?_; refine pv_ 12 30 6967 ?_; refine pv_ 14 30 23351 ?_; refine pv_ 15 30 56119 ?_; refine pv_ 17 30 187191 ?_; refine pv_ 18 30 449335 ?_; refine pv_ 24 30 17226551 ?_; refine pv_ 25 30 50780983 ?_; refine tv_ 3 30 50780991 ?_; refine tv_ 6 30 50781055 ?_; refine pv_ 7 30 50781183 ?_; refine tv_ 10 30 50782207 ?_; refine tv_ 13 30 50790399 ?_; refine tv_ 16 30 50855935 ?_; refine tv_ 19 30 51380223 ?_; refine tv_ 20 30 52428799 ?_; refine tv_ 26 30 119537663 ?_; refine one_ (i := 21) (N := some 73) (bl_ 30 121634815) rfl rfl (one_of HT_.out (by kernel_rfl)) (by decide) (fun K hK => ?_); refine gv_ Tryz.func60 ?_
        (with_reducible refine (spec_SizeOf.calls g6.out).mono ?_)
        rintro e ii ⟨rfl, hb⟩; have aE := cw_ hb hHeld.2.2.2.1; have aF := cw_ hb hHeld.2.2.2.2.1; have aG := cw_ hb hHeld.2.2.2.2.2.1; have aH := cw_ hb hHeld.2.2.2.2.2.2.1; have aI := cw_ hb hHeld.2.2.2.2.2.2.2.1; have aJ := cw_ hb hHeld.2.2.2.2.2.2.2.2.1; have aK := cw_ hb hHeld.2.2.2.2.2.2.2.2.2; refine ⟨_, rfl, ?_⟩; replace X := rb_ X hb; replace W := rb_ W hb; replace B := rb_ B hb; replace G := bb_ G hb; replace I := bb_ I hb; replace A := bb_ A hb; replace HB := hb_ HB hb; (try clear hb); refine hK.out _ _ ⟨bk_ G 0, bk_ G 1, bk_ G 2, aE, aF, aG, aH, aI, aJ, aK⟩ (fun hHeld => ?_); clear hK K; refine nm_ 73 (h := ?_); refine pv_ 22 30 125829119 ?_; refine one_ (i := 23) (N := some 75) (bl_ 30 134217727) rfl rfl (one_of HT_.out (by kernel_rfl)) (by decide) (fun K hK => ?_); refine gv_ Tryz.func59 ?_
        (with_reducible refine (spec_l10Same.calls g7.out).mono ?_)
        rintro e ij ⟨hM, rfl, a5, hb⟩; have aE := cw_ hb hHeld.2.2.2.1; have aF := cw_ hb hHeld.2.2.2.2.1; have aG := cw_ hb hHeld.2.2.2.2.2.1; have aH := cw_ hb hHeld.2.2.2.2.2.2.1; have aI := cw_ hb hHeld.2.2.2.2.2.2.2.1; have aJ := cw_ hb hHeld.2.2.2.2.2.2.2.2.1; have aK := cw_ hb hHeld.2.2.2.2.2.2.2.2.2; refine ⟨_, rfl, ?_⟩; replace X := rb_ X hb; have aU := Aside0.mk (Kd.R_lower (Kd.R_new' (Kd.R_new' a5 (Kd.R_lt (ra_ W.out))) (Kd.R_lt (ra_ B.out))) (below_size (be_ HB.out))); replace W := Aside0.mk (Kd.R_elder' (ra_ W.out) (Kd.R_base a5) hb); replace B := Aside0.mk (Kd.R_elder' (ra_ B.out) (Kd.R_base a5) hb); replace G := bb_ G hb; replace I := bb_ I hb; replace A := bb_ A hb; replace HB := hb_ HB hb; (try clear hb a5); refine hK.out _ _ ⟨bk_ G 0, bk_ G 1, bk_ G 2, aE, aF, aG, aH, aI, aJ, aK⟩ (fun hHeld => ?_); clear hK K; refine nm_ 75 (h := ?_); refine one_ (i := 27) (N := some 79) (bl_ 30 268435455) rfl rfl (one_of HT_.out (by kernel_rfl)) (by decide) (fun K hK => ?_); refine gv_ Tryz.func59 ?_
        (with_reducible refine (spec_l10Same.calls g8.out).mono ?_)
        rintro e b0 ⟨hN, rfl, a5, hb⟩; have aE := cw_ hb hHeld.2.2.2.1; have aF := cw_ hb hHeld.2.2.2.2.1; have aG := cw_ hb hHeld.2.2.2.2.2.1; have aH := cw_ hb hHeld.2.2.2.2.2.2.1; have aI := cw_ hb hHeld.2.2.2.2.2.2.2.1; have aJ := cw_ hb hHeld.2.2.2.2.2.2.2.2.1; have aK := cw_ hb hHeld.2.2.2.2.2.2.2.2.2; refine ⟨_, rfl, ?_⟩; replace X := rb_ X hb; have bS := Aside0.mk (Kd.R_lower (Kd.R_new' (Kd.R_new' (Kd.R_new' a5 (Kd.R_lt (ra_ W.out))) (Kd.R_lt (ra_ B.out))) (Kd.R_lt (ra_ aU.out))) (below_size (be_ HB.out))); replace W := Aside0.mk (Kd.R_elder' (ra_ W.out) (Kd.R_base a5) hb); replace B := Aside0.mk (Kd.R_elder' (ra_ B.out) (Kd.R_base a5) hb); replace aU := Aside0.mk (Kd.R_elder' (ra_ aU.out) (Kd.R_base a5) hb); replace G := bb_ G hb; replace I := bb_ I hb; replace A := bb_ A hb; replace HB := hb_ HB hb; (try clear hb a5); obtain ⟨dS, dT, cH⟩ := Kd.R_slice bS.out; (first | subst cH | (injection cH with f1_ f2_ f3_; have f4_ := f1_.symm; have f5_ := f3_.symm; clear f1_ f2_ f3_; subst f4_; subst f5_)); obtain ⟨dU, dV, cI⟩ := Kd.R_slice aU.out; (first | subst cI | (injection cI with f1_ f2_ f3_; have f4_ := f1_.symm; have f5_ := f3_.symm; clear f1_ f2_ f3_; subst f4_; subst f5_)); refine hK.out _ _ ⟨bk_ G 0, bk_ G 1, bk_ G 2, aE, aF, aG, aH, aI, aJ, aK⟩ (fun hHeld => ?_); clear hK K; refine nm_ 79 (h := ?_); refine pv_ 28 30 536870911 ?_; refine one_ (i := 29) (N := none) (bl_ 30 1073741823) rfl rfl (one_of HT_.out (by kernel_rfl)) (by decide) (fun K hK => ?_); have hO : b0.cell? ⟨U, 0, none⟩ = some (.int .i64 J) := bk_ A 0; have gn := blk_frozen A.out 0; have dW := D.out; have dX := O.out; have dY := L.out; have dZ := T.out; have hP : b0.cell? ⟨U, 1, none⟩ = some (.int .i64 0) := bk_ A 1; have go := blk_frozen A.out 1; have e0 := D.out; have e1 := O.out; have e2 := L.out; have e3 := T.out; have hQ : b0.cell? ⟨U, 2, none⟩ = some (.int .i64 0) := bk_ A 2; have gp := blk_frozen A.out 2; have e4 := D.out; have e5 := O.out; have e6 := L.out; have e7 := T.out; have hR : b0.cell? ⟨U, 3, none⟩ = some (.int .i64 0) := bk_ A 3; have gq := blk_frozen A.out 3; have e8 := D.out; have e9 := O.out; have ea := L.out; have eb := T.out; have hS : b0.cell? ⟨U, 4, none⟩ = some (.int .i64 0) := bk_ A 4; have gr := blk_frozen A.out 4; have ec := D.out; have ed := O.out; have ee := L.out; have ef := T.out; have hT : b0.cell? ⟨U, 5, none⟩ = some (.int .i64 0) := bk_ A 5; have gs := blk_frozen A.out 5; have eg := D.out; have eh := O.out; have ei := L.out; have ej := T.out; have hU : b0.cell? ⟨U, 6, none⟩ = some (.int .i64 0) := bk_ A 6; have gu := blk_frozen A.out 6; have ek := D.out; have el := O.out; have em := L.out; have en := T.out; have hV : b0.cell? ⟨U, 7, none⟩ = some (.slice none 0 0) := bk_ A 7; have gv := blk_frozen A.out 7; have eo := D.out; have ep := O.out; have er := L.out; have es := T.out; have hW : b0.cell? ⟨U, 8, none⟩ = some (.slice none 0 0) := bk_ A 8; have gw := blk_frozen A.out 8; have et := D.out; have eu := O.out; have ev := L.out; have ew := T.out; refine skip_ (w1 := ?_) (by rfl) rfl ?_ ?_
        rotate_left
        ·
         go_simp
         rfl
        refine hK.out _ _ ⟨(cfn_ D.out ((cfn_ D.out ((cfn_ D.out ((cfn_ D.out ((cfn_ D.out ((c3_ D.out ((cfn_ D.out (hHeld.1)))))))))))))), (cfn_ D.out ((cfn_ D.out ((cfn_ D.out ((cfn_ D.out ((cfn_ D.out ((c3_ D.out ((cfn_ D.out (hHeld.2.1)))))))))))))), (cfn_ D.out ((cfn_ D.out ((cfn_ D.out ((cfn_ D.out ((cfn_ D.out ((c3_ D.out ((cfn_ D.out (hHeld.2.2.1)))))))))))))), (cff_ (Kd.own_blk (Kd.R_ne B.out A.out (by decide))) ((cff_ (Kd.own_blk (Kd.R_ne B.out A.out (by decide))) ((cff_ (Kd.own_blk (Kd.R_ne B.out A.out (by decide))) ((cff_ (Kd.own_blk (Kd.R_ne B.out A.out (by decide))) ((cff_ (Kd.own_blk (Kd.R_ne B.out A.out (by decide))) ((cff_ (Kd.own_blk (Kd.R_ne B.out A.out (by decide))) ((cff_ (Kd.own_blk (Kd.R_ne B.out A.out (by decide))) ((cff_ (Kd.own_blk (Kd.R_ne B.out A.out (by decide))) ((cff_ (Kd.own_blk (Kd.R_ne B.out A.out (by decide))) (hHeld.2.2.2.1)))))))))))))))))), (cff_ (Kd.own_blk (Kd.R_ne B.out A.out (by decide))) ((cff_ (Kd.own_blk (Kd.R_ne B.out A.out (by decide))) ((cff_ (Kd.own_blk (Kd.R_ne B.out A.out (by decide))) ((cff_ (Kd.own_blk (Kd.R_ne B.out A.out (by decide))) ((cff_ (Kd.own_blk (Kd.R_ne B.out A.out (by decide))) ((cff_ (Kd.own_blk (Kd.R_ne B.out A.out (by decide))) ((cff_ (Kd.own_blk (Kd.R_ne B.out A.out (by decide))) ((cff_ (Kd.own_blk (Kd.R_ne B.out A.out (by decide))) ((cff_ (Kd.own_blk (Kd.R_ne B.out A.out (by decide))) (hHeld.2.2.2.2.1)))))))))))))))))), (cff_ (Kd.own_blk (Kd.R_ne B.out A.out (by decide))) ((cff_ (Kd.own_blk (Kd.R_ne B.out A.out (by decide))) ((cff_ (Kd.own_blk (Kd.R_ne B.out A.out (by decide))) ((cff_ (Kd.own_blk (Kd.R_ne B.out A.out (by decide))) ((cff_ (Kd.own_blk (Kd.R_ne B.out A.out (by decide))) ((cff_ (Kd.own_blk (Kd.R_ne B.out A.out (by decide))) ((cff_ (Kd.own_blk (Kd.R_ne B.out A.out (by decide))) ((cff_ (Kd.own_blk (Kd.R_ne B.out A.out (by decide))) ((cff_ (Kd.own_blk (Kd.R_ne B.out A.out (by decide))) (hHeld.2.2.2.2.2.1)))))))))))))))))), (cff_ (Kd.own_blk (Kd.R_ne B.out A.out (by decide))) ((cff_ (Kd.own_blk (Kd.R_ne B.out A.out (by decide))) ((cff_ (Kd.own_blk (Kd.R_ne B.out A.out (by decide))) ((cff_ (Kd.own_blk (Kd.R_ne B.out A.out (by decide))) ((cff_ (Kd.own_blk (Kd.R_ne B.out A.out (by decide))) ((cff_ (Kd.own_blk (Kd.R_ne B.out A.out (by decide))) ((cff_ (Kd.own_blk (Kd.R_ne B.out A.out (by decide))) ((cff_ (Kd.own_blk (Kd.R_ne B.out A.out (by decide))) ((cff_ (Kd.own_blk (Kd.R_ne B.out A.out (by decide))) (hHeld.2.2.2.2.2.2.1)))))))))))))))))), (cff_ (Kd.own_blk (Kd.R_ne B.out A.out (by decide))) ((cff_ (Kd.own_blk (Kd.R_ne B.out A.out (by decide))) ((cff_ (Kd.own_blk (Kd.R_ne B.out A.out (by decide))) ((cff_ (Kd.own_blk (Kd.R_ne B.out A.out (by decide))) ((cff_ (Kd.own_blk (Kd.R_ne B.out A.out (by decide))) ((cff_ (Kd.own_blk (Kd.R_ne B.out A.out (by decide))) ((cff_ (Kd.own_blk (Kd.R_ne B.out A.out (by decide))) ((cff_ (Kd.own_blk (Kd.R_ne B.out A.out (by decide))) ((cff_ (Kd.own_blk (Kd.R_ne B.out A.out (by decide))) (hHeld.2.2.2.2.2.2.2.1)))))))))))))))))), (cff_ (Kd.own_blk (Kd.R_ne B.out A.out (by decide))) ((cff_ (Kd.own_blk (Kd.R_ne B.out A.out (by decide))) ((cff_ (Kd.own_blk (Kd.R_ne B.out A.out (by decide))) ((cff_ (Kd.own_blk (Kd.R_ne B.out A.out (by decide))) ((cff_ (Kd.own_blk (Kd.R_ne B.out A.out (by decide))) ((cff_ (Kd.own_blk (Kd.R_ne B.out A.out (by decide))) ((cff_ (Kd.own_blk (Kd.R_ne B.out A.out (by decide))) ((cff_ (Kd.own_blk (Kd.R_ne B.out A.out (by decide))) ((cff_ (Kd.own_blk (Kd.R_ne B.out A.out (by decide))) (hHeld.2.2.2.2.2.2.2.2.1)))))))))))))))))), (cff_ (Kd.own_blk (Kd.R_ne B.out A.out (by decide))) ((cff_ (Kd.own_blk (Kd.R_ne B.out A.out (by decide))) ((cff_ (Kd.own_blk (Kd.R_ne B.out A.out (by decide))) ((cff_ (Kd.own_blk (Kd.R_ne B.out A.out (by decide))) ((cff_ (Kd.own_blk (Kd.R_ne B.out A.out (by decide))) ((cff_ (Kd.own_blk (Kd.R_ne B.out A.out (by decide))) ((cff_ (Kd.own_blk (Kd.R_ne B.out A.out (by decide))) ((cff_ (Kd.own_blk (Kd.R_ne B.out A.out (by decide))) ((cff_ (Kd.own_blk (Kd.R_ne B.out A.out (by decide))) (hHeld.2.2.2.2.2.2.2.2.2))))))))))))))))))⟩ (fun hHeld => ?_); clear hK K; refine done_ (done_of HT_.out (by kernel_rfl)) ?_; have gx := box9_ A.out; have gy := nn_ a3 a2; have gz := box9_ I.out
        try go_wp2
        refine bodyPost_ret (results_ct rfl _ _ af 55 #[.int .i64 J, .int .i64 (rd E 0), .int .i64 0, .int .i64 0, .int .i64 (wrap64 ((rd E 1) * 1000)), .int .i64 (rd E 2), .int .i64 (rd E 3), .slice dU dJ.length dV, .slice dS dK.length dT] (0, 0) _ rfl (bq_ I.out) Tryz.underlying55 rfl (by kernel_rfl)) rfl ?_; exact ⟨_, _, by first | rfl | (simp [errW_none, errW_some] <;> rfl) | (simp [*, errW_none, errW_some] <;> rfl), by (with_reducible repeat (first | apply Kd.R_alloc | apply Kd.R_drewN | apply Kd.R_drew)); exact Kd.R_mono (rs9_ (rs9_ (Kd.R_types (Kd.R_types aU.out A.out (by decide)) I.out (by decide)) (fun _ hk => hk.1.2)) (fun _ hk => hk.2)) (fun _ hk => hk.1.1.2), by (with_reducible repeat (first | apply Kd.R_alloc | apply Kd.R_drewN | apply Kd.R_drew)); exact Kd.R_mono (rs9_ (rs9_ (Kd.R_types (Kd.R_types bS.out A.out (by decide)) I.out (by decide)) (fun _ hk => hk.1.2)) (fun _ hk => hk.2)) (fun _ hk => hk.1.1.2), be_ HB.out⟩
       ·
        have d0 : (J == 0) = false := eq0_ bm; have d1 : (J != 0) = true := ne1_ bm
        replace H := ic_ H; obtain ⟨bb, H⟩ | ⟨bb, H⟩ := H
        ·
         have bT : (J == 1) = true := eq1_ bb; have bU : (J != 1) = false := ne0_ bb; clear bb
         obtain ⟨d8, H⟩ := ip_ H; have gA : decide (0 < (E.length : Int)) = true := dt_ d8; have gB : decide (0 < E.length) = true := decide_eq_true (by omega); clear d8
         obtain ⟨d9, H⟩ := ip_ H; have gC : decide (1 < (E.length : Int)) = true := dt_ d9; have gD : decide (1 < E.length) = true := decide_eq_true (by omega); clear d9
         obtain ⟨da, H⟩ := ip_ H; have gE : decide (2 < (E.length : Int)) = true := dt_ da; have gF : decide (2 < E.length) = true := decide_eq_true (by omega); clear da
         obtain ⟨db, H⟩ := ip_ H; have gG : decide (3 < (E.length : Int)) = true := dt_ db; have gH : decide (3 < E.length) = true := decide_eq_true (by omega); clear db
         obtain ⟨dc, H⟩ := ip_ H; have gI : decide (4 < (E.length : Int)) = true := dt_ dc; have gJ : decide (4 < E.length) = true := decide_eq_true (by omega); clear dc
         obtain ⟨dd, H⟩ := ip_ H; have gK : decide (5 < (E.length : Int)) = true := dt_ dd; have gL : decide (5 < E.length) = true := decide_eq_true (by omega); clear dd
         obtain ⟨de, H⟩ := ip_ H; have gM : decide (6 < (E.length : Int)) = true := dt_ de; have gN : decide (6 < E.length) = true := decide_eq_true (by omega); clear de; obtain ⟨ex, gO, H⟩ := bo_ H; (try dsimp only at H); obtain ⟨ey, gP, H⟩ := bo_ H; (try dsimp only at H); simp only [Option.some.injEq, Prod.mk.injEq] at H; obtain ⟨rfl, rfl, rfl, rfl, rfl, rfl, rfl, rfl, rfl, rfl⟩ := H
         try go_wp2_with (first | ((with_reducible refine gate_dst (N := 11) rfl ?_); (try (refine gate_guard (by rfl) ?_; dsimp only)); refine bz_ 11 ?_; intro U hg gQ hbox hb; replace X := rb_ X hb; replace W := rb_ W hb; replace B := rb_ B hb; obtain ⟨A, bC, bD, HB⟩ := nb_ hg hbox HB hb; have D := nx_ hg G; have L := ny_ hg G; replace G := bb_ G hb; have O := nx_ hg I; have T := ny_ hg I; replace I := bb_ I hb; clear hb hbox hg; have gR := nn_ L D; have gS := nn_ T O; have gT := box9_ A.out))
         generalize hq_ : (((((((((gQ.setCell ⟨U, 0, none⟩ (.int .i64 J)).setCell ⟨U, 1, none⟩ (.int .i64 0)).setCell ⟨U, 2, none⟩ (.int .i64 0)).setCell ⟨U, 3, none⟩ (.int .i64 0)).setCell ⟨U, 4, none⟩ (.int .i64 0)).setCell ⟨U, 5, none⟩ (.int .i64 0)).setCell ⟨U, 6, none⟩ (.int .i64 0)).setCell ⟨U, 7, none⟩ (.slice none 0 0)).setCell ⟨U, 8, none⟩ (.slice none 0 0)) = cA; replace X : Aside0 (Kd.R Kd.string 9 cA w.heap.size (fun _ => True) (.slice bu a0.length bv) a0) := ⟨by rw [← hq_]; (with_reducible repeat (first | apply Kd.R_alloc | apply Kd.R_drewN | apply Kd.R_drew)); exact Kd.R_mono (rs9_ (Kd.R_types X.out A.out (by decide)) (fun _ hk => hk.2)) (fun _ hk => trivial)⟩; replace W : Aside0 (Kd.R (Kd.int .i64) 3 cA w.heap.size (fun k_ => some k_ ≠ (av : Value).ownBlock) aN au) := ⟨by rw [← hq_]; (with_reducible repeat (first | apply Kd.R_alloc | apply Kd.R_drewN | apply Kd.R_drew)); exact Kd.R_mono (rs9_ (Kd.R_types W.out A.out (by decide)) (fun _ hk => hk.2)) (fun _ hk => hk.1)⟩; replace B : Aside0 (Kd.R (Kd.int .i64) 3 cA w.heap.size (fun k_ => some k_ ≠ (aN : Value).ownBlock) av E) := ⟨by rw [← hq_]; (with_reducible repeat (first | apply Kd.R_alloc | apply Kd.R_drewN | apply Kd.R_drew)); exact Kd.R_mono (rs9_ (Kd.R_types B.out A.out (by decide)) (fun _ hk => hk.2)) (fun _ hk => hk.1)⟩; replace G := sb_ hq_ G; replace I := sb_ hq_ I; replace A := sb_ hq_ A; replace HB := sh_ hq_ HB; clear hq_; replace X := Aside0.mk (Kd.R_drew X.out); replace W := Aside0.mk (Kd.R_drew W.out); replace B := Aside0.mk (Kd.R_drew B.out); replace G := Aside0.mk (blk_drew G.out); replace I := Aside0.mk (blk_drew I.out); replace A := Aside0.mk (blk_drew A.out); replace HB := Aside0.mk (below_drew1 HB.out); obtain ⟨hX, hY, cJ⟩ := Kd.R_slice B.out; (first | subst cJ | (injection cJ with f1_ f2_ f3_; have f4_ := f1_.symm; have f5_ := f3_.symm; clear f1_ f2_ f3_; subst f4_; subst f5_)); have bV : 0 ≤ (0 : Int) := (by omega); have bW : 0 < (E.length : Int) := od_; obtain ⟨Z, ez, ah⟩ := Kd.at_int (Kd.R_reads' B.out).2.2 0 bV bW
         cases ez
         have gU : (0 < E.length) = True := eq_true (by omega); (try rw [show ((0 : Int)).toNat = 0 from rfl] at ah); (try rw [Addr.add_zero'] at ah); replace bV := eq_true bV; replace bW := eq_true bW; have bX : 0 ≤ (1 : Int) := (by omega); have bY : 1 < (E.length : Int) := od_; obtain ⟨df, eA, ai⟩ := Kd.at_int (Kd.R_reads' B.out).2.2 1 bX bY; obtain rfl : Z = df := (by injection eA); (try simp only [show (1 : Int).toNat = 1 from rfl, Nat.reduceMul, Nat.reduceEqDiff, Go.Addr.add, ↓reduceIte] at ai); have gV : (1 < E.length) = True := eq_true (by omega); (try rw [show ((1 : Int)).toNat = 1 from rfl] at ai); replace bX := eq_true bX; replace bY := eq_true bY; have bZ : 0 ≤ (2 : Int) := (by omega); have ca : 2 < (E.length : Int) := od_; obtain ⟨dg, eB, aj⟩ := Kd.at_int (Kd.R_reads' B.out).2.2 2 bZ ca; obtain rfl : Z = dg := (by injection eB); (try simp only [show (2 : Int).toNat = 2 from rfl, Nat.reduceMul, Nat.reduceEqDiff, Go.Addr.add, ↓reduceIte] at aj); have gW : (2 < E.length) = True := eq_true (by omega); (try rw [show ((2 : Int)).toNat = 2 from rfl] at aj); replace bZ := eq_true bZ; replace ca := eq_true ca; have cb : 0 ≤ (3 : Int) := (by omega); have cc : 3 < (E.length : Int) := od_; obtain ⟨dh, eC, ak⟩ := Kd.at_int (Kd.R_reads' B.out).2.2 3 cb cc; obtain rfl : Z = dh := (by injection eC); (try simp only [show (3 : Int).toNat = 3 from rfl, Nat.reduceMul, Nat.reduceEqDiff, Go.Addr.add, ↓reduceIte] at ak); have gX : (3 < E.length) = True := eq_true (by omega); (try rw [show ((3 : Int)).toNat = 3 from rfl] at ak); replace cb := eq_true cb; replace cc := eq_true cc; have cd : 0 ≤ (4 : Int) := (by omega); have ce : 4 < (E.length : Int) := od_; obtain ⟨di, eD, al⟩ := Kd.at_int (Kd.R_reads' B.out).2.2 4 cd ce; obtain rfl : Z = di := (by injection eD); (try simp only [show (4 : Int).toNat = 4 from rfl, Nat.reduceMul, Nat.reduceEqDiff, Go.Addr.add, ↓reduceIte] at al); have gY : (4 < E.length) = True := eq_true (by omega); (try rw [show ((4 : Int)).toNat = 4 from rfl] at al); replace cd := eq_true cd; replace ce := eq_true ce; have cf : 0 ≤ (5 : Int) := (by omega); have cg : 5 < (E.length : Int) := od_; obtain ⟨dj, eE, am⟩ := Kd.at_int (Kd.R_reads' B.out).2.2 5 cf cg; obtain rfl : Z = dj := (by injection eE); (try simp only [show (5 : Int).toNat = 5 from rfl, Nat.reduceMul, Nat.reduceEqDiff, Go.Addr.add, ↓reduceIte] at am); have gZ : (5 < E.length) = True := eq_true (by omega); (try rw [show ((5 : Int)).toNat = 5 from rfl] at am); replace cf := eq_true cf; replace cg := eq_true cg; have ch : 0 ≤ (6 : Int) := (by omega); have ci : 6 < (E.length : Int) := od_; obtain ⟨dk, eF, an⟩ := Kd.at_int (Kd.R_reads' B.out).2.2 6 ch ci; obtain rfl : Z = dk := (by injection eF); (try simp only [show (6 : Int).toNat = 6 from rfl, Nat.reduceMul, Nat.reduceEqDiff, Go.Addr.add, ↓reduceIte] at an); have h0 : (6 < E.length) = True := eq_true (by omega); (try rw [show ((6 : Int)).toNat = 6 from rfl] at an); replace ch := eq_true ch; replace ci := eq_true ci; have cj : 0 ≤ (0 : Int) := (by omega); have ck : 0 < (E.length : Int) := od_; obtain ⟨dl, eG, ao⟩ := Kd.at_int (Kd.R_reads' B.out).2.2 0 cj ck; obtain rfl : Z = dl := (by injection eG); have h2 : (0 < E.length) = True := eq_true (by omega); (try rw [show ((0 : Int)).toNat = 0 from rfl] at ao); (try rw [Addr.add_zero'] at ao); replace cj := eq_true cj; replace ck := eq_true ck; have cl : 0 ≤ (1 : Int) := (by omega); have cm : 1 < (E.length : Int) := od_; obtain ⟨dm, eH, ap⟩ := Kd.at_int (Kd.R_reads' B.out).2.2 1 cl cm; obtain rfl : Z = dm := (by injection eH); (try simp only [show (1 : Int).toNat = 1 from rfl, Nat.reduceMul, Nat.reduceEqDiff, Go.Addr.add, ↓reduceIte] at ap); have h3 : (1 < E.length) = True := eq_true (by omega); (try rw [show ((1 : Int)).toNat = 1 from rfl] at ap); replace cl := eq_true cl; replace cm := eq_true cm; have cn : 0 ≤ (1 : Int) := (by omega); have co : 1 < (E.length : Int) := od_; obtain ⟨dn, eI, aq⟩ := Kd.at_int (Kd.R_reads' B.out).2.2 1 cn co; obtain rfl : Z = dn := (by injection eI); (try simp only [show (1 : Int).toNat = 1 from rfl, Nat.reduceMul, Nat.reduceEqDiff, Go.Addr.add, ↓reduceIte] at aq); have h4 : (1 < E.length) = True := eq_true (by omega); (try rw [show ((1 : Int)).toNat = 1 from rfl] at aq); replace cn := eq_true cn; replace co := eq_true co; have bk : 0 ≤ (0 : Int) := (by omega); have bl : 0 < (E.length : Int) := od_; obtain ⟨dp, eJ, ar⟩ := Kd.at_int (Kd.R_reads' B.out).2.2 0 bk bl; obtain rfl : Z = dp := (by injection eJ); have h5 : (0 < E.length) = True := eq_true (by omega); (try rw [show ((0 : Int)).toNat = 0 from rfl] at ar); (try rw [Addr.add_zero'] at ar); replace bk := eq_true bk; replace bl := eq_true bl; refine sta_ 44 (fun w' => CE_ w' ae 0 (.int .i64 a1_0) ∧ CE_ w' ae 1 (.int .i64 a1_1) ∧ CE_ w' ae 2 (.int .i64 a1_2) ∧ w'.cell? Z = some (.int .i64 (rd E 0)) ∧ CF_ w' Z 1 (.int .i64 (rd E 1)) ∧ CF_ w' Z 2 (.int .i64 (rd E 2)) ∧ CF_ w' Z 3 (.int .i64 (rd E 3)) ∧ CF_ w' Z 4 (.int .i64 (rd E 4)) ∧ CF_ w' Z 5 (.int .i64 (rd E 5)) ∧ CF_ w' Z 6 (.int .i64 (rd E 6)) ∧ w'.cell? Z = some (.int .i64 (rd E 0)) ∧ CF_ w' Z 1 (.int .i64 (rd E 1)) ∧ CF_ w' Z 1 (.int .i64 (rd E 1)) ∧ w'.cell? Z = some (.int .i64 (rd E 0))) ⟨bk_ G 0, bk_ G 1, bk_ G 2, ah, ai, aj, ak, al, am, an, ao, ap, aq, ar⟩ (fun hHeld => ?_); refine with_tabW spec_l10Layer.tab13 spec_l10Layer.bits13 (fun HT_ HW_ => ?_); generalize cA.drew = ik at X W B G I A HB ah ai aj ak al am an ao ap aq ar hHeld ⊢; refine pv_ 0 44 1 ?_; refine pv_ 1 44 3 ?_; refine pv_ 2 44 7 ?_; refine pv_ 4 44 23 ?_; refine pv_ 5 44 55 ?_; refine pv_ 7 44 183 ?_; refine pv_ 8 44 439 ?_; refine pv_ 10 44 1463 ?_; refine pv_ 11 44 3511 ?_; refine pv_ 14 44 19895 ?_; refine pv_ 15 44 52663 ?_; refine pv_ 17 44 183735 ?_; refine pv_ 18 44 445879 ?_; refine pv_ 20 44 1494455 ?_; refine pv_ 21 44 3591607 ?_; refine pv_ 23 44 11980215 ?_; refine pv_ 24 44 28757431 ?_; refine pv_ 26 44 95866295 ?_; refine pv_ 27 44 230084023 ?_; refine pv_ 30 44 1303825847 ?_; refine pv_ 31 44 3451309495 ?_; refine pv_ 34 44 20631178679 ?_; refine pv_ 38 44 295509085623 ?_; refine pv_ 39 44 845264899511 ?_; refine tv_ 3 44 845264899519 ?_; refine tv_ 6 44 845264899583 ?_; refine tv_ 9 44 845264900095 ?_; refine tv_ 12 44 845264904191 ?_; refine pv_ 13 44 845264912383 ?_; refine tv_ 16 44 845264977919 ?_; refine tv_ 19 44 845265502207 ?_; refine tv_ 22 44 845269696511 ?_; refine tv_ 25 44 845303250943 ?_; refine tv_ 28 44 845571686399 ?_; refine pv_ 29 44 846108557311 ?_; refine tv_ 32 44 850403524607 ?_; refine pv_ 33 44 858993459199 ?_; refine tv_ 35 44 893353197567 ?_; refine pv_ 36 44 962072674303 ?_; refine tv_ 40 44 2061584302079 ?_; refine one_ (i := 37) (N := some 120) (bl_ 44 2199023255551) rfl rfl (one_of HT_.out (by kernel_rfl)) (by decide) (fun K hK => ?_); refine gv_ Tryz.func59 ?_
         (with_reducible refine (spec_l10Same.calls gO.out).mono ?_)
         rintro e il ⟨hZ, rfl, a5, hb⟩; have aE := cw_ hb hHeld.2.2.2.1; have aF := cw_ hb hHeld.2.2.2.2.1; have aG := cw_ hb hHeld.2.2.2.2.2.1; have aH := cw_ hb hHeld.2.2.2.2.2.2.1; have aI := cw_ hb hHeld.2.2.2.2.2.2.2.1; have aJ := cw_ hb hHeld.2.2.2.2.2.2.2.2.1; have aK := cw_ hb hHeld.2.2.2.2.2.2.2.2.2.1; have bc := cw_ hb hHeld.2.2.2.2.2.2.2.2.2.2.1; have bd := cw_ hb hHeld.2.2.2.2.2.2.2.2.2.2.2.1; have be := cw_ hb hHeld.2.2.2.2.2.2.2.2.2.2.2.2.1; have bf := cw_ hb hHeld.2.2.2.2.2.2.2.2.2.2.2.2.2; refine ⟨_, rfl, ?_⟩; replace X := rb_ X hb; have aV := Aside0.mk (Kd.R_lower (Kd.R_new' (Kd.R_new' a5 (Kd.R_lt (ra_ W.out))) (Kd.R_lt (ra_ B.out))) (below_size (be_ HB.out))); replace W := Aside0.mk (Kd.R_elder' (ra_ W.out) (Kd.R_base a5) hb); replace B := Aside0.mk (Kd.R_elder' (ra_ B.out) (Kd.R_base a5) hb); replace G := bb_ G hb; replace I := bb_ I hb; replace A := bb_ A hb; replace HB := hb_ HB hb; (try clear hb a5); refine hK.out _ _ ⟨bk_ G 0, bk_ G 1, bk_ G 2, aE, aF, aG, aH, aI, aJ, aK, bc, bd, be, bf⟩ (fun hHeld => ?_); clear hK K; refine nm_ 120 (h := ?_); refine one_ (i := 41) (N := some 124) (bl_ 44 4398046511103) rfl rfl (one_of HT_.out (by kernel_rfl)) (by decide) (fun K hK => ?_); refine gv_ Tryz.func59 ?_
         (with_reducible refine (spec_l10Same.calls gP.out).mono ?_)
         rintro e b1 ⟨i0, rfl, a5, hb⟩; have aE := cw_ hb hHeld.2.2.2.1; have aF := cw_ hb hHeld.2.2.2.2.1; have aG := cw_ hb hHeld.2.2.2.2.2.1; have aH := cw_ hb hHeld.2.2.2.2.2.2.1; have aI := cw_ hb hHeld.2.2.2.2.2.2.2.1; have aJ := cw_ hb hHeld.2.2.2.2.2.2.2.2.1; have aK := cw_ hb hHeld.2.2.2.2.2.2.2.2.2.1; have bc := cw_ hb hHeld.2.2.2.2.2.2.2.2.2.2.1; have bd := cw_ hb hHeld.2.2.2.2.2.2.2.2.2.2.2.1; have be := cw_ hb hHeld.2.2.2.2.2.2.2.2.2.2.2.2.1; have bf := cw_ hb hHeld.2.2.2.2.2.2.2.2.2.2.2.2.2; refine ⟨_, rfl, ?_⟩; replace X := rb_ X hb; have cp := Aside0.mk (Kd.R_lower (Kd.R_new' (Kd.R_new' (Kd.R_new' a5 (Kd.R_lt (ra_ W.out))) (Kd.R_lt (ra_ B.out))) (Kd.R_lt (ra_ aV.out))) (below_size (be_ HB.out))); replace W := Aside0.mk (Kd.R_elder' (ra_ W.out) (Kd.R_base a5) hb); replace B := Aside0.mk (Kd.R_elder' (ra_ B.out) (Kd.R_base a5) hb); replace aV := Aside0.mk (Kd.R_elder' (ra_ aV.out) (Kd.R_base a5) hb); replace G := bb_ G hb; replace I := bb_ I hb; replace A := bb_ A hb; replace HB := hb_ HB hb; (try clear hb a5); obtain ⟨eK, eL, cK⟩ := Kd.R_slice cp.out; (first | subst cK | (injection cK with f1_ f2_ f3_; have f4_ := f1_.symm; have f5_ := f3_.symm; clear f1_ f2_ f3_; subst f4_; subst f5_)); obtain ⟨eM, eN, cL⟩ := Kd.R_slice aV.out; (first | subst cL | (injection cL with f1_ f2_ f3_; have f4_ := f1_.symm; have f5_ := f3_.symm; clear f1_ f2_ f3_; subst f4_; subst f5_)); refine hK.out _ _ ⟨bk_ G 0, bk_ G 1, bk_ G 2, aE, aF, aG, aH, aI, aJ, aK, bc, bd, be, bf⟩ (fun hHeld => ?_); clear hK K; refine nm_ 124 (h := ?_); refine pv_ 42 44 8796093022207 ?_; refine one_ (i := 43) (N := none) (bl_ 44 17592186044415) rfl rfl (one_of HT_.out (by kernel_rfl)) (by decide) (fun K hK => ?_); have i1 : b1.cell? ⟨U, 0, none⟩ = some (.int .i64 J) := bk_ A 0; have h6 := blk_frozen A.out 0; have eO := D.out; have eP := O.out; have eQ := L.out; have eR := T.out; have i2 : b1.cell? ⟨U, 1, none⟩ = some (.int .i64 0) := bk_ A 1; have h7 := blk_frozen A.out 1; have eS := D.out; have eT := O.out; have eU := L.out; have eV := T.out; have i3 : b1.cell? ⟨U, 2, none⟩ = some (.int .i64 0) := bk_ A 2; have h8 := blk_frozen A.out 2; have eW := D.out; have eX := O.out; have eY := L.out; have eZ := T.out; have i4 : b1.cell? ⟨U, 3, none⟩ = some (.int .i64 0) := bk_ A 3; have h9 := blk_frozen A.out 3; have f0 := D.out; have f1 := O.out; have f2 := L.out; have f3 := T.out; have i5 : b1.cell? ⟨U, 4, none⟩ = some (.int .i64 0) := bk_ A 4; have ha := blk_frozen A.out 4; have f4 := D.out; have f5 := O.out; have f6 := L.out; have f7 := T.out; have i6 : b1.cell? ⟨U, 5, none⟩ = some (.int .i64 0) := bk_ A 5; have he := blk_frozen A.out 5; have f8 := D.out; have f9 := O.out; have fa := L.out; have fb := T.out; have i7 : b1.cell? ⟨U, 6, none⟩ = some (.int .i64 0) := bk_ A 6; have hf := blk_frozen A.out 6; have fc := D.out; have fd := O.out; have fe := L.out; have ff := T.out; have i8 : b1.cell? ⟨U, 7, none⟩ = some (.slice none 0 0) := bk_ A 7; have hh := blk_frozen A.out 7; have fg := D.out; have fh := O.out; have fi := L.out; have fj := T.out; have i9 : b1.cell? ⟨U, 8, none⟩ = some (.slice none 0 0) := bk_ A 8; have hi := blk_frozen A.out 8; have fk := D.out; have fl := O.out; have fm := L.out; have fn := T.out; refine skip_ (w1 := ?_) (by rfl) rfl ?_ ?_
         rotate_left
         ·
          go_simp
          rfl
         refine hK.out _ _ ⟨(cfn_ D.out ((cfn_ D.out ((cfn_ D.out ((cfn_ D.out ((cfn_ D.out ((c3_ D.out ((cfn_ D.out (hHeld.1)))))))))))))), (cfn_ D.out ((cfn_ D.out ((cfn_ D.out ((cfn_ D.out ((cfn_ D.out ((c3_ D.out ((cfn_ D.out (hHeld.2.1)))))))))))))), (cfn_ D.out ((cfn_ D.out ((cfn_ D.out ((cfn_ D.out ((cfn_ D.out ((c3_ D.out ((cfn_ D.out (hHeld.2.2.1)))))))))))))), (cff_ (Kd.own_blk (Kd.R_ne B.out A.out (by decide))) ((cff_ (Kd.own_blk (Kd.R_ne B.out A.out (by decide))) ((cff_ (Kd.own_blk (Kd.R_ne B.out A.out (by decide))) ((cff_ (Kd.own_blk (Kd.R_ne B.out A.out (by decide))) ((cff_ (Kd.own_blk (Kd.R_ne B.out A.out (by decide))) ((cff_ (Kd.own_blk (Kd.R_ne B.out A.out (by decide))) ((cff_ (Kd.own_blk (Kd.R_ne B.out A.out (by decide))) ((cff_ (Kd.own_blk (Kd.R_ne B.out A.out (by decide))) ((cff_ (Kd.own_blk (Kd.R_ne B.out A.out (by decide))) (hHeld.2.2.2.1)))))))))))))))))), (cff_ (Kd.own_blk (Kd.R_ne B.out A.out (by decide))) ((cff_ (Kd.own_blk (Kd.R_ne B.out A.out (by decide))) ((cff_ (Kd.own_blk (Kd.R_ne B.out A.out (by decide))) ((cff_ (Kd.own_blk (Kd.R_ne B.out A.out (by decide))) ((cff_ (Kd.own_blk (Kd.R_ne B.out A.out (by decide))) ((cff_ (Kd.own_blk (Kd.R_ne B.out A.out (by decide))) ((cff_ (Kd.own_blk (Kd.R_ne B.out A.out (by decide))) ((cff_ (Kd.own_blk (Kd.R_ne B.out A.out (by decide))) ((cff_ (Kd.own_blk (Kd.R_ne B.out A.out (by decide))) (hHeld.2.2.2.2.1)))))))))))))))))), (cff_ (Kd.own_blk (Kd.R_ne B.out A.out (by decide))) ((cff_ (Kd.own_blk (Kd.R_ne B.out A.out (by decide))) ((cff_ (Kd.own_blk (Kd.R_ne B.out A.out (by decide))) ((cff_ (Kd.own_blk (Kd.R_ne B.out A.out (by decide))) ((cff_ (Kd.own_blk (Kd.R_ne B.out A.out (by decide))) ((cff_ (Kd.own_blk (Kd.R_ne B.out A.out (by decide))) ((cff_ (Kd.own_blk (Kd.R_ne B.out A.out (by decide))) ((cff_ (Kd.own_blk (Kd.R_ne B.out A.out (by decide))) ((cff_ (Kd.own_blk (Kd.R_ne B.out A.out (by decide))) (hHeld.2.2.2.2.2.1)))))))))))))))))), (cff_ (Kd.own_blk (Kd.R_ne B.out A.out (by decide))) ((cff_ (Kd.own_blk (Kd.R_ne B.out A.out (by decide))) ((cff_ (Kd.own_blk (Kd.R_ne B.out A.out (by decide))) ((cff_ (Kd.own_blk (Kd.R_ne B.out A.out (by decide))) ((cff_ (Kd.own_blk (Kd.R_ne B.out A.out (by decide))) ((cff_ (Kd.own_blk (Kd.R_ne B.out A.out (by decide))) ((cff_ (Kd.own_blk (Kd.R_ne B.out A.out (by decide))) ((cff_ (Kd.own_blk (Kd.R_ne B.out A.out (by decide))) ((cff_ (Kd.own_blk (Kd.R_ne B.out A.out (by decide))) (hHeld.2.2.2.2.2.2.1)))))))))))))))))), (cff_ (Kd.own_blk (Kd.R_ne B.out A.out (by decide))) ((cff_ (Kd.own_blk (Kd.R_ne B.out A.out (by decide))) ((cff_ (Kd.own_blk (Kd.R_ne B.out A.out (by decide))) ((cff_ (Kd.own_blk (Kd.R_ne B.out A.out (by decide))) ((cff_ (Kd.own_blk (Kd.R_ne B.out A.out (by decide))) ((cff_ (Kd.own_blk (Kd.R_ne B.out A.out (by decide))) ((cff_ (Kd.own_blk (Kd.R_ne B.out A.out (by decide))) ((cff_ (Kd.own_blk (Kd.R_ne B.out A.out (by decide))) ((cff_ (Kd.own_blk (Kd.R_ne B.out A.out (by decide))) (hHeld.2.2.2.2.2.2.2.1)))))))))))))))))), (cff_ (Kd.own_blk (Kd.R_ne B.out A.out (by decide))) ((cff_ (Kd.own_blk (Kd.R_ne B.out A.out (by decide))) ((cff_ (Kd.own_blk (Kd.R_ne B.out A.out (by decide))) ((cff_ (Kd.own_blk (Kd.R_ne B.out A.out (by decide))) ((cff_ (Kd.own_blk (Kd.R_ne B.out A.out (by decide))) ((cff_ (Kd.own_blk (Kd.R_ne B.out A.out (by decide))) ((cff_ (Kd.own_blk (Kd.R_ne B.out A.out (by decide))) ((cff_ (Kd.own_blk (Kd.R_ne B.out A.out (by decide))) ((cff_ (Kd.own_blk (Kd.R_ne B.out A.out (by decide))) (hHeld.2.2.2.2.2.2.2.2.1)))))))))))))))))), (cff_ (Kd.own_blk (Kd.R_ne B.out A.out (by decide))) ((cff_ (Kd.own_blk (Kd.R_ne B.out A.out (by decide))) ((cff_ (Kd.own_blk (Kd.R_ne B.out A.out (by decide))) ((cff_ (Kd.own_blk (Kd.R_ne B.out A.out (by decide))) ((cff_ (Kd.own_blk (Kd.R_ne B.out A.out (by decide))) ((cff_ (Kd.own_blk (Kd.R_ne B.out A.out (by decide))) ((cff_ (Kd.own_blk (Kd.R_ne B.out A.out (by decide))) ((cff_ (Kd.own_blk (Kd.R_ne B.out A.out (by decide))) ((cff_ (Kd.own_blk (Kd.R_ne B.out A.out (by decide))) (hHeld.2.2.2.2.2.2.2.2.2.1)))))))))))))))))), (cff_ (Kd.own_blk (Kd.R_ne B.out A.out (by decide))) ((cff_ (Kd.own_blk (Kd.R_ne B.out A.out (by decide))) ((cff_ (Kd.own_blk (Kd.R_ne B.out A.out (by decide))) ((cff_ (Kd.own_blk (Kd.R_ne B.out A.out (by decide))) ((cff_ (Kd.own_blk (Kd.R_ne B.out A.out (by decide))) ((cff_ (Kd.own_blk (Kd.R_ne B.out A.out (by decide))) ((cff_ (Kd.own_blk (Kd.R_ne B.out A.out (by decide))) ((cff_ (Kd.own_blk (Kd.R_ne B.out A.out (by decide))) ((cff_ (Kd.own_blk (Kd.R_ne B.out A.out (by decide))) (hHeld.2.2.2.2.2.2.2.2.2.2.1)))))))))))))))))), (cff_ (Kd.own_blk (Kd.R_ne B.out A.out (by decide))) ((cff_ (Kd.own_blk (Kd.R_ne B.out A.out (by decide))) ((cff_ (Kd.own_blk (Kd.R_ne B.out A.out (by decide))) ((cff_ (Kd.own_blk (Kd.R_ne B.out A.out (by decide))) ((cff_ (Kd.own_blk (Kd.R_ne B.out A.out (by decide))) ((cff_ (Kd.own_blk (Kd.R_ne B.out A.out (by decide))) ((cff_ (Kd.own_blk (Kd.R_ne B.out A.out (by decide))) ((cff_ (Kd.own_blk (Kd.R_ne B.out A.out (by decide))) ((cff_ (Kd.own_blk (Kd.R_ne B.out A.out (by decide))) (hHeld.2.2.2.2.2.2.2.2.2.2.2.1)))))))))))))))))), (cff_ (Kd.own_blk (Kd.R_ne B.out A.out (by decide))) ((cff_ (Kd.own_blk (Kd.R_ne B.out A.out (by decide))) ((cff_ (Kd.own_blk (Kd.R_ne B.out A.out (by decide))) ((cff_ (Kd.own_blk (Kd.R_ne B.out A.out (by decide))) ((cff_ (Kd.own_blk (Kd.R_ne B.out A.out (by decide))) ((cff_ (Kd.own_blk (Kd.R_ne B.out A.out (by decide))) ((cff_ (Kd.own_blk (Kd.R_ne B.out A.out (by decide))) ((cff_ (Kd.own_blk (Kd.R_ne B.out A.out (by decide))) ((cff_ (Kd.own_blk (Kd.R_ne B.out A.out (by decide))) (hHeld.2.2.2.2.2.2.2.2.2.2.2.2.1)))))))))))))))))), (cff_ (Kd.own_blk (Kd.R_ne B.out A.out (by decide))) ((cff_ (Kd.own_blk (Kd.R_ne B.out A.out (by decide))) ((cff_ (Kd.own_blk (Kd.R_ne B.out A.out (by decide))) ((cff_ (Kd.own_blk (Kd.R_ne B.out A.out (by decide))) ((cff_ (Kd.own_blk (Kd.R_ne B.out A.out (by decide))) ((cff_ (Kd.own_blk (Kd.R_ne B.out A.out (by decide))) ((cff_ (Kd.own_blk (Kd.R_ne B.out A.out (by decide))) ((cff_ (Kd.own_blk (Kd.R_ne B.out A.out (by decide))) ((cff_ (Kd.own_blk (Kd.R_ne B.out A.out (by decide))) (hHeld.2.2.2.2.2.2.2.2.2.2.2.2.2))))))))))))))))))⟩ (fun hHeld => ?_); clear hK K; refine done_ (done_of HT_.out (by kernel_rfl)) ?_; have dq := box9_ A.out; have hj := nn_ a3 a2; have dr := box9_ I.out
         try go_wp2
         refine bodyPost_ret (results_ct rfl _ _ af 55 #[.int .i64 J, .int .i64 (rd E 0), .int .i64 (rd E 1), .int .i64 (rd E 2), .int .i64 (wrap64 ((rd E 3) * 1000)), .int .i64 (rd E 4), .int .i64 (rd E 5), .slice eM ex.length eN, .slice eK ey.length eL] (0, 0) _ rfl (bq_ I.out) Tryz.underlying55 rfl (by kernel_rfl)) rfl ?_; exact ⟨_, _, by first | rfl | (simp [errW_none, errW_some] <;> rfl) | (simp [*, errW_none, errW_some] <;> rfl), by (with_reducible repeat (first | apply Kd.R_alloc | apply Kd.R_drewN | apply Kd.R_drew)); exact Kd.R_mono (rs9_ (rs9_ (Kd.R_types (Kd.R_types aV.out A.out (by decide)) I.out (by decide)) (fun _ hk => hk.1.2)) (fun _ hk => hk.2)) (fun _ hk => hk.1.1.2), by (with_reducible repeat (first | apply Kd.R_alloc | apply Kd.R_drewN | apply Kd.R_drew)); exact Kd.R_mono (rs9_ (rs9_ (Kd.R_types (Kd.R_types cp.out A.out (by decide)) I.out (by decide)) (fun _ hk => hk.1.2)) (fun _ hk => hk.2)) (fun _ hk => hk.1.1.2), be_ HB.out⟩
        ·
         have bT : (J == 1) = false := eq0_ bb; have bU : (J != 1) = true := ne1_ bb; have cq := Aside0.mk H; clear H
         go_upto_if 126 with (first | ((with_reducible refine gate_dst (N := 11) rfl ?_); (try (refine gate_guard (by rfl) ?_; dsimp only)); refine bz_ 11 ?_; intro U hg im hbox hb; replace X := rb_ X hb; replace W := rb_ W hb; replace B := rb_ B hb; obtain ⟨A, bC, bD, HB⟩ := nb_ hg hbox HB hb; have D := nx_ hg G; have L := ny_ hg G; replace G := bb_ G hb; have O := nx_ hg I; have T := ny_ hg I; replace I := bb_ I hb; clear hb hbox hg; have hs := nn_ L D; have ht := nn_ T O; have ds := box9_ A.out))
         (try simp only [Act.put, List.setIfInBounds_toArray, List.set_cons_zero, List.set_cons_succ])
         go_cut [126] (fun fo wc => ∃ (kq : Nat) (aW : Bool), fo = .bool aW ∧ Aside0 (spec_l10Layer.j2 kq E J aW J 0 0 0 0 0 0 = some (r1, r2, r3, r4, r5, r6, r7, r8, r9, r10)) ∧ Aside0 (kq ≤ kj13) ∧ Aside0 (Kd.R (Kd.int .i64) 3 wc w.heap.size (fun _ => True) av E) ∧ Aside0 (wc.heap[ae]? = some (.cells #[.int .i64 a1_0, .int .i64 a1_1, .int .i64 a1_2] 23 (0, 0))) ∧ Aside0 (wc.heap[af]? = some (.cells #[.int .i64 a6, .int .i64 a7, .int .i64 a8, .int .i64 a9, .int .i64 aa, .int .i64 ab, .int .i64 ac, (.slice none 0 0), (.slice none 0 0)] 55 (0, 0))) ∧ Aside0 (wc.heap[U]? = some (.cells #[.int .i64 J, .int .i64 0, .int .i64 0, .int .i64 0, .int .i64 0, .int .i64 0, .int .i64 0, (.slice none 0 0), (.slice none 0 0)] 55 (0, 0))) ∧ Aside0 (Below w.heap.size w wc))
         case first =>
          have H := cq.out; clear cq
          replace H := ic_ H; obtain ⟨bg, H⟩ | ⟨bg, H⟩ := H
          ·
           have aM : (J == 2) = true := eq1_ bg; have cr : (J != 2) = false := ne0_ bg; clear bg; (first | rw [aM] | (simp only [i64_w, i32_w]; rw [aM]) | skip); have H' := Aside0.mk H; clear H
           go_wp2
           go_meet
           case rel => exact ⟨_, ((J == 2)), rl_, H', ⟨by have := b6.out; have := bj.out; first | omega | exact Nat.le_refl _⟩, ⟨by (with_reducible repeat (first | apply Kd.R_alloc | apply Kd.R_drewN | apply Kd.R_drew)); exact Kd.R_mono (rs9_ (Kd.R_types B.out A.out (by decide)) (fun _ hk => hk.2)) (fun _ hk => trivial)⟩, ⟨bf_ G.out⟩, ⟨bf_ I.out⟩, ⟨bq_ A.out⟩, ⟨be_ HB.out⟩⟩
          ·
           have aM : (J == 2) = false := eq0_ bg; have cr : (J != 2) = true := ne1_ bg; (first | rw [aM] | (simp only [i64_w, i32_w]; rw [aM]) | skip); have H' := Aside0.mk H; clear H
           go_wp2
           go_meet
           case rel => exact ⟨_, ((J == 3)), rl_, H', ⟨by have := b6.out; have := bj.out; first | omega | exact Nat.le_refl _⟩, ⟨by (with_reducible repeat (first | apply Kd.R_alloc | apply Kd.R_drewN | apply Kd.R_drew)); exact Kd.R_mono (rs9_ (Kd.R_types B.out A.out (by decide)) (fun _ hk => hk.2)) (fun _ hk => trivial)⟩, ⟨bf_ G.out⟩, ⟨bf_ I.out⟩, ⟨bq_ A.out⟩, ⟨be_ HB.out⟩⟩
         case rest =>
          clear cq; (try clear hx1); (try clear p2); (try clear q2); (try clear hx2); (try clear qi2); (try clear c5); (try clear c6); (try clear p6); (try clear c9); (try clear hx19); (try clear p20); (try clear q20); (try clear hx20); (try clear qi20); (try clear c59); (try clear bb); (try clear bT); (try clear bU); (try clear d8); (try clear d9); (try clear da); (try clear db); (try clear p64); (try clear dc); (try clear dd); (try clear de); (try clear c91); (try clear c95); (try clear c96); (try clear bg); (try clear aM); (try clear cr); (try clear dq); (try clear dr); (try clear ds); (try clear ah); (try clear ai); (try clear aj); (try clear ak); (try clear al); (try clear am); (try clear an); (try clear ao); (try clear ap); (try clear aq); (try clear ar); (try clear bk); (try clear bl); obtain ⟨kq, aW, rfl, HA, ia, B, G, I, A, HB⟩ := hcut
          cases kq with
          | zero => exact absurd HA.out (by simp [spec_l10Layer.j2])
          | succ kj92 =>
           have H := HA.out; clear HA; simp only [spec_l10Layer.j2] at H
           replace H := icb_ H; obtain ⟨rfl, H⟩ | ⟨rfl, H⟩ := H
           ·
            obtain ⟨cM, H⟩ := ip_ H; have fs : decide (0 < (E.length : Int)) = true := dt_ cM; have ft : decide (0 < E.length) = true := decide_eq_true (by omega); clear cM
            obtain ⟨cN, H⟩ := ip_ H; have fu : decide (1 < (E.length : Int)) = true := dt_ cN; have fv : decide (1 < E.length) = true := decide_eq_true (by omega); clear cN; simp only [Option.some.injEq, Prod.mk.injEq] at H; obtain ⟨rfl, rfl, rfl, rfl, rfl, rfl, rfl, rfl, rfl, rfl⟩ := H; obtain ⟨hu, hv, dt⟩ := Kd.R_slice B.out; subst dt; have cs : 0 ≤ (0 : Int) := (by omega); have ct : 0 < (E.length : Int) := od_; obtain ⟨cu, fp, b3⟩ := Kd.at_int (Kd.R_reads' B.out).2.2 0 cs ct
            cases fp
            have hw : (0 < E.length) = True := eq_true (by omega); (try rw [show ((0 : Int)).toNat = 0 from rfl] at b3); (try rw [Addr.add_zero'] at b3); replace cs := eq_true cs; replace ct := eq_true ct; have fw := nn_ L D; have fx := nn_ T O; have fy := box9_ A.out; have cv : 0 ≤ (1 : Int) := (by omega); have cw : 1 < (E.length : Int) := od_; obtain ⟨du, fq, aL⟩ := Kd.at_int (Kd.R_reads' B.out).2.2 1 cv cw; obtain rfl : cu = du := (by injection fq); (try simp only [show (1 : Int).toNat = 1 from rfl, Nat.reduceMul, Nat.reduceEqDiff, Go.Addr.add, ↓reduceIte] at aL); have hx : (1 < E.length) = True := eq_true (by omega); (try rw [show ((1 : Int)).toNat = 1 from rfl] at aL); have b4 : cu.block ≠ U := Kd.own_blk (Kd.R_ne B.out A.out (by decide)); replace aL := cfs_ 2 (.int .i64 (rd E 0)) b4 aL; clear b4; replace cv := eq_true cv; replace cw := eq_true cw; have fz := nn_ a3 a2; have fA := box9_ I.out
            go_wp2
            refine bodyPost_ret (results_ct rfl _ _ af 55 #[.int .i64 J, .int .i64 0, .int .i64 (rd E 0), .int .i64 (rd E 1), .int .i64 0, .int .i64 0, .int .i64 0, .slice none 0 0, .slice none 0 0] (0, 0) _ rfl (bq_ I.out) Tryz.underlying55 rfl (by kernel_rfl)) rfl ?_; exact ⟨_, _, by first | rfl | (simp [errW_none, errW_some] <;> rfl) | (simp [*, errW_none, errW_some] <;> rfl), by first | exact Kd.R_nil _ _ _ _ _ | exact Kd.N_nil _ _ _ _ _ | exact Kd.V_nil _ _ _ _ _ | exact Kd.Q_nil _ _ _ _ _ | exact Kd.S_nil _ _ _ _ _, by first | exact Kd.R_nil _ _ _ _ _ | exact Kd.N_nil _ _ _ _ _ | exact Kd.V_nil _ _ _ _ _ | exact Kd.Q_nil _ _ _ _ _ | exact Kd.S_nil _ _ _ _ _, be_ HB.out⟩
           ·
            replace H := ic_ H; obtain ⟨aX, H⟩ | ⟨aX, H⟩ := H
            ·
             have cC : (J == 4) = true := eq1_ aX; have cD : (J != 4) = false := ne0_ aX; clear aX
             obtain ⟨cO, H⟩ := ip_ H; have fC : decide (0 < (E.length : Int)) = true := dt_ cO; have fD : decide (0 < E.length) = true := decide_eq_true (by omega); clear cO; simp only [Option.some.injEq, Prod.mk.injEq] at H; obtain ⟨rfl, rfl, rfl, rfl, rfl, rfl, rfl, rfl, rfl, rfl⟩ := H; obtain ⟨hy, hz, dw⟩ := Kd.R_slice B.out; subst dw; have cx : 0 ≤ (0 : Int) := (by omega); have cy : 0 < (E.length : Int) := od_; obtain ⟨hA, fr, b5⟩ := Kd.at_int (Kd.R_reads' B.out).2.2 0 cx cy
             cases fr
             have hB : (0 < E.length) = True := eq_true (by omega); (try rw [show ((0 : Int)).toNat = 0 from rfl] at b5); (try rw [Addr.add_zero'] at b5); replace cx := eq_true cx; replace cy := eq_true cy; have fE := nn_ L D; have fF := nn_ T O; have fG := box9_ A.out; have fH := nn_ a3 a2; have fI := box9_ I.out
             go_wp2
             refine bodyPost_ret (results_ct rfl _ _ af 55 #[.int .i64 J, .int .i64 0, .int .i64 0, .int .i64 0, .int .i64 0, .int .i64 0, .int .i64 (rd E 0), .slice none 0 0, .slice none 0 0] (0, 0) _ rfl (bq_ I.out) Tryz.underlying55 rfl (by kernel_rfl)) rfl ?_; exact ⟨_, _, by first | rfl | (simp [errW_none, errW_some] <;> rfl) | (simp [*, errW_none, errW_some] <;> rfl), by first | exact Kd.R_nil _ _ _ _ _ | exact Kd.N_nil _ _ _ _ _ | exact Kd.V_nil _ _ _ _ _ | exact Kd.Q_nil _ _ _ _ _ | exact Kd.S_nil _ _ _ _ _, by first | exact Kd.R_nil _ _ _ _ _ | exact Kd.N_nil _ _ _ _ _ | exact Kd.V_nil _ _ _ _ _ | exact Kd.Q_nil _ _ _ _ _ | exact Kd.S_nil _ _ _ _ _, be_ HB.out⟩
            ·
             have cC : (J == 4) = false := eq0_ aX; have cD : (J != 4) = true := ne1_ aX; simp only [Option.some.injEq, Prod.mk.injEq] at H; obtain ⟨rfl, rfl, rfl, rfl, rfl, rfl, rfl, rfl, rfl, rfl⟩ := H; have fJ := nn_ L D; have fK := nn_ T O; have fL := box9_ A.out; have fM := nn_ a3 a2; have fN := box9_ I.out
             go_wp2
             refine bodyPost_ret (results_ct rfl _ _ af 55 #[.int .i64 J, .int .i64 0, .int .i64 0, .int .i64 0, .int .i64 0, .int .i64 0, .int .i64 0, .slice none 0 0, .slice none 0 0] (0, 0) _ rfl (bq_ I.out) Tryz.underlying55 rfl (by kernel_rfl)) rfl ?_; exact ⟨_, _, by first | rfl | (simp [errW_none, errW_some] <;> rfl) | (simp [*, errW_none, errW_some] <;> rfl), by first | exact Kd.R_nil _ _ _ _ _ | exact Kd.N_nil _ _ _ _ _ | exact Kd.V_nil _ _ _ _ _ | exact Kd.Q_nil _ _ _ _ _ | exact Kd.S_nil _ _ _ _ _, by first | exact Kd.R_nil _ _ _ _ _ | exact Kd.N_nil _ _ _ _ _ | exact Kd.V_nil _ _ _ _ _ | exact Kd.Q_nil _ _ _ _ _ | exact Kd.S_nil _ _ _ _ _, be_ HB.out⟩
   ·
    simp only [Option.some.injEq, Prod.mk.injEq] at H; obtain ⟨rfl, rfl, rfl, rfl, rfl, rfl, rfl, rfl, rfl, rfl⟩ := H; obtain ⟨hC, hD, dx⟩ := Kd.R_slice X.out; subst dx; have fO := nn_ a3 a2; have fP := box9_ I.out
    go_wp2
    refine bodyPost_ret (results_ct rfl _ _ af 55 #[.int .i64 0, .int .i64 0, .int .i64 0, .int .i64 0, .int .i64 0, .int .i64 0, .int .i64 0, .slice none 0 0, .slice none 0 0] (0, 0) _ rfl (bq_ I.out) Tryz.underlying55 rfl (by kernel_rfl)) rfl ?_; exact ⟨_, _, by first | rfl | (simp [errW_none, errW_some] <;> rfl) | (simp [*, errW_none, errW_some] <;> rfl), by first | exact Kd.R_nil _ _ _ _ _ | exact Kd.N_nil _ _ _ _ _ | exact Kd.V_nil _ _ _ _ _ | exact Kd.Q_nil _ _ _ _ _ | exact Kd.S_nil _ _ _ _ _, by first | exact Kd.R_nil _ _ _ _ _ | exact Kd.N_nil _ _ _ _ _ | exact Kd.V_nil _ _ _ _ _ | exact Kd.Q_nil _ _ _ _ _ | exact Kd.S_nil _ _ _ _ _, be_ HB.out⟩

def spec_l02Int8.f (a0 : Int) : Option (Bool) := (spec_l01In.f a0 (-128) 127).bind fun t213 => (some t213)
set_option maxHeartbeats 8000000 in
set_option maxRecDepth 100000 in
theorem spec_l02Int8.calls {a0 : Int} {r : Bool} {w : World} (h : spec_l02Int8.f a0 = some r) :
  Calls Tryz.prog 96 #[.int .i64 a0] w fun e w' => e = .returned (.bool r) ∧ Drawn0 w w' := by
 have H : ((spec_l01In.f a0 (-128) 127).bind fun A => (some A)) = some r := h; clear h; obtain ⟨A, A2, H⟩ := bo_ H; (try dsimp only at H); obtain rfl := oi_ H
 go_enter Tryz.func96, Tryz.ntmps96
 go_wp2_with (first | ((with_reducible refine gc_ 57 ?_); refine gw_ (some 4) Tryz.func57 ?_; (with_reducible refine (spec_l01In.calls A2.out).mono ?_); rintro e w' ⟨rfl, ⟨nd, rfl⟩⟩; refine ⟨_, rfl, ?_⟩))
 go_ret
 exact ⟨by first | rfl | (simp; done) | (simp [*]; done), by repeat (first | exact Drawn0.refl _ | apply Drawn0.step)⟩

mutual
def spec_l03Plain.j0 : Nat → Bool → Int → Int → Int → Int → Int → Int → Int → List Int → List Int → Option (Bool)
 | 0, _, _, _, _, _, _, _, _, _, _ => none
 | k + 1, x2, x215000, x215001, x215002, x215003, x215004, x215005, x215006, x215007, x215008 => if x2 = true then ((spec_l01In.f x215001 1 8).bind fun t217 => (if t217 = true then ((spec_l01In.f x215004 0 2147483647).bind fun t218 => (if t218 = true then ((spec_l01In.f x215005 0 31).bind fun t219 => (if t219 = true then ((spec_l02Int8.f x215006).bind fun t220 => (if t220 = true then (spec_l03Plain.j1 k ((x215008.length : Int) != x215001) x215000 x215001 x215002 x215003 x215004 x215005 x215006 x215007 x215008) else (spec_l03Plain.j1 k true x215000 x215001 x215002 x215003 x215004 x215005 x215006 x215007 x215008))) else (spec_l03Plain.j1 k true x215000 x215001 x215002 x215003 x215004 x215005 x215006 x215007 x215008))) else (spec_l03Plain.j1 k true x215000 x215001 x215002 x215003 x215004 x215005 x215006 x215007 x215008))) else (spec_l03Plain.j1 k true x215000 x215001 x215002 x215003 x215004 x215005 x215006 x215007 x215008))) else (if x215001 = 0 then (if x215004 = 0 then (if x215005 = 0 then (if (x215007.length : Int) > 0 then (spec_l03Plain.j4 k true x215000 x215001 x215002 x215003 x215004 x215005 x215006 x215007 x215008) else (spec_l03Plain.j4 k (decide ((x215008.length : Int) > 0)) x215000 x215001 x215002 x215003 x215004 x215005 x215006 x215007 x215008)) else (spec_l03Plain.j4 k true x215000 x215001 x215002 x215003 x215004 x215005 x215006 x215007 x215008)) else (spec_l03Plain.j4 k true x215000 x215001 x215002 x215003 x215004 x215005 x215006 x215007 x215008)) else (spec_l03Plain.j4 k true x215000 x215001 x215002 x215003 x215004 x215005 x215006 x215007 x215008))
def spec_l03Plain.j1 : Nat → Bool → Int → Int → Int → Int → Int → Int → Int → List Int → List Int → Option (Bool)
 | 0, _, _, _, _, _, _, _, _, _, _ => none
 | k + 1, x58, x215000, x215001, x215002, x215003, x215004, x215005, x215006, x215007, x215008 => if x58 = true then (some false) else (spec_l03Plain.l0 k 0 x215000 x215001 x215002 x215003 x215004 x215005 x215006 x215007 x215008)
def spec_l03Plain.l0 : Nat → Int → Int → Int → Int → Int → Int → Int → Int → List Int → List Int → Option (Bool)
 | 0, _, _, _, _, _, _, _, _, _, _ => none
 | k + 1, x7, x215000, x215001, x215002, x215003, x215004, x215005, x215006, x215007, x215008 => if x7 < (x215008.length : Int) then (if 0 ≤ x7 then ((spec_l01In.f (rd x215008 x7) (-1000000) 1000000).bind fun t222 => (if t222 = true then (spec_l03Plain.l0 k (wrap64 (x7 + 1)) x215000 x215001 x215002 x215003 x215004 x215005 x215006 x215007 x215008) else (some false))) else (none)) else (spec_l03Plain.l1 k 0 x215000 x215001 x215002 x215003 x215004 x215005 x215006 x215007 x215008)
def spec_l03Plain.l1 : Nat → Int → Int → Int → Int → Int → Int → Int → Int → List Int → List Int → Option (Bool)
 | 0, _, _, _, _, _, _, _, _, _, _ => none
 | k + 1, x8, x215000, x215001, x215002, x215003, x215004, x215005, x215006, x215007, x215008 => if x8 < (x215007.length : Int) then (if 0 ≤ x8 then ((spec_l02Int8.f (rd x215007 x8)).bind fun t224 => (if t224 = true then (spec_l03Plain.l1 k (wrap64 (x8 + 1)) x215000 x215001 x215002 x215003 x215004 x215005 x215006 x215007 x215008) else (some false))) else (none)) else (some true)
def spec_l03Plain.j4 : Nat → Bool → Int → Int → Int → Int → Int → Int → Int → List Int → List Int → Option (Bool)
 | 0, _, _, _, _, _, _, _, _, _, _ => none
 | k + 1, x111, x215000, x215001, x215002, x215003, x215004, x215005, x215006, x215007, x215008 => if x111 = true then (some false) else (if x215000 = 4 then ((spec_l02Int8.f x215006).bind fun t225 => (some t225)) else (some (x215006 == 0)))
end
def spec_l03Plain.f (k : Nat) (a0_0 : Int) (a0_1 : Int) (a0_2 : Int) (a0_3 : Int) (a0_4 : Int) (a0_5 : Int) (a0_6 : Int) (l0_7 : List Int) (l0_8 : List Int) (a1 : Bool) (a2 : Bool) : Option (Bool) := if a1 = true then ((spec_l01In.f a0_2 1 3).bind fun t215 => (if t215 = true then ((spec_l01In.f a0_3 1 2).bind fun t216 => (if t216 = true then (spec_l03Plain.j0 k a2 a0_0 a0_1 a0_2 a0_3 a0_4 a0_5 a0_6 l0_7 l0_8) else (some false))) else (some false))) else (if a0_2 = 0 then (if a0_3 = 0 then (spec_l03Plain.j0 k a2 a0_0 a0_1 a0_2 a0_3 a0_4 a0_5 a0_6 l0_7 l0_8) else (some false)) else (some false))
set_option maxHeartbeats 8000000 in
set_option maxRecDepth 100000 in
theorem spec_l03Plain.calls {k : Nat} {a0_0 : Int} {a0_1 : Int} {a0_2 : Int} {a0_3 : Int} {a0_4 : Int} {a0_5 : Int} {a0_6 : Int} {A0_7 : Option Addr} {c0_7 : Nat} {l0_7 : List Int} {A0_8 : Option Addr} {c0_8 : Nat} {l0_8 : List Int} {a1 : Bool} {a2 : Bool} {r : Bool} {w : World} (hr0_7 : Kd.C (Kd.int .i64) w A0_7 l0_7.length l0_7) (hc0_7 : l0_7.length ≤ c0_7) (hr0_8 : Kd.C (Kd.int .i64) w A0_8 l0_8.length l0_8) (hc0_8 : l0_8.length ≤ c0_8) (h : spec_l03Plain.f k a0_0 a0_1 a0_2 a0_3 a0_4 a0_5 a0_6 l0_7 l0_8 a1 a2 = some r) :
  Calls Tryz.prog 62 #[.agg #[.int .i64 a0_0, .int .i64 a0_1, .int .i64 a0_2, .int .i64 a0_3, .int .i64 a0_4, .int .i64 a0_5, .int .i64 a0_6, .slice A0_7 l0_7.length c0_7, .slice A0_8 l0_8.length c0_8], .bool a1, .bool a2] w fun e w' => e = .returned (.bool r) ∧ Below w.heap.size w w' := by
 have hu55 := Tryz.underlying55; have am := Aside0.mk hr0_7; have b6 := Aside0.mk hc0_7; clear hr0_7 hc0_7; have an := Aside0.mk hr0_8; have b7 := Aside0.mk hc0_8; clear hr0_8 hc0_8; have HB := Aside0.mk (Below.refl w.heap.size w); have H : (if a1 = true then ((spec_l01In.f a0_2 1 3).bind fun aK => (if aK = true then ((spec_l01In.f a0_3 1 2).bind fun aL => (if aL = true then (spec_l03Plain.j0 k a2 a0_0 a0_1 a0_2 a0_3 a0_4 a0_5 a0_6 l0_7 l0_8) else (some false))) else (some false))) else (if a0_2 = 0 then (if a0_3 = 0 then (spec_l03Plain.j0 k a2 a0_0 a0_1 a0_2 a0_3 a0_4 a0_5 a0_6 l0_7 l0_8) else (some false)) else (some false))) = some r := h; clear h; have aM := Aside0.mk H; clear H
 go_enter Tryz.func62, Tryz.ntmps62
 go_upto_if 9 with (first | ((with_reducible refine gate_dst (N := 3) rfl ?_); (try (refine gate_guard (by rfl) ?_; dsimp only)); refine bz_ 3 ?_; intro X hg w5 hbox hb; obtain ⟨A, b8, b9, HB⟩ := nb_ hg hbox HB hb; clear hb hbox hg))
 (try simp only [Act.put, List.setIfInBounds_toArray, List.set_cons_zero, List.set_cons_succ])
 go_cut [] (fun wc => ∃ (kq : Nat), Aside0 (spec_l03Plain.j0 kq a2 a0_0 a0_1 a0_2 a0_3 a0_4 a0_5 a0_6 l0_7 l0_8 = some r) ∧ Aside0 (kq ≤ k) ∧ Aside0 (wc.heap[X]? = some (.cells #[.int .i64 a0_0, .int .i64 a0_1, .int .i64 a0_2, .int .i64 a0_3, .int .i64 a0_4, .int .i64 a0_5, .int .i64 a0_6, (.slice A0_7 l0_7.length c0_7), (.slice A0_8 l0_8.length c0_8)] 55 (0, 0))) ∧ Aside0 (Below w.heap.size w wc))
 case first =>
  have H := aM.out; clear aM
  by_cases c6 : a1 = true
  ·
   subst c6; rw [if_pos rfl] at H; obtain ⟨aK, A7, H⟩ := bo_ H; (try dsimp only at H)
   replace H := icb_ H; obtain ⟨rfl, H⟩ | ⟨rfl, H⟩ := H
   ·
    obtain ⟨aL, A9, H⟩ := bo_ H; (try dsimp only at H)
    replace H := icb_ H; obtain ⟨rfl, H⟩ | ⟨rfl, H⟩ := H
    ·
     have H' := Aside0.mk H; clear H; have Y := box9_ A.out
     go_wp2_with (first | ((with_reducible refine gc_ 57 ?_); refine gw_ (some 12) Tryz.func57 ?_; (with_reducible refine (spec_l01In.calls A7.out).mono ?_); rintro e w' ⟨rfl, ⟨nd, rfl⟩⟩; refine ⟨_, rfl, ?_⟩) | (go_at_call 57; (with_reducible refine (spec_l01In.calls A9.out).mono ?_); rintro e w' ⟨rfl, ⟨nd, rfl⟩⟩))
     go_meet
     case rel => exact ⟨_, H', ⟨ro_⟩, ⟨bu_ A.out⟩, ⟨be_ HB.out⟩⟩
    ·
     obtain rfl := oi_ H; have Z := box9_ A.out
     go_wp2_with (first | ((with_reducible refine gc_ 57 ?_); refine gw_ (some 12) Tryz.func57 ?_; (with_reducible refine (spec_l01In.calls A7.out).mono ?_); rintro e w' ⟨rfl, ⟨nd, rfl⟩⟩; refine ⟨_, rfl, ?_⟩) | (go_at_call 57; (with_reducible refine (spec_l01In.calls A9.out).mono ?_); rintro e w' ⟨rfl, ⟨nd, rfl⟩⟩))
     go_ret
     exact rt_ HB.out
   ·
    obtain rfl := oi_ H; have a0 := box9_ A.out
    go_wp2_with (first | ((with_reducible refine gc_ 57 ?_); refine gw_ (some 12) Tryz.func57 ?_; (with_reducible refine (spec_l01In.calls A7.out).mono ?_); rintro e w' ⟨rfl, ⟨nd, rfl⟩⟩; refine ⟨_, rfl, ?_⟩))
    go_ret
    exact rt_ HB.out
  ·
   replace c6 := fb_ c6; subst c6; replace H := if0_ H
   replace H := ic_ H; obtain ⟨a3, H⟩ | ⟨a3, H⟩ := H
   ·
    have D : (a0_2 == 0) = true := eq1_ a3; have M : (a0_2 != 0) = false := ne0_ a3; clear a3; (first | rw [D] | (simp only [i64_w, i32_w]; rw [D]) | skip)
    replace H := ic_ H; obtain ⟨a4, H⟩ | ⟨a4, H⟩ := H
    ·
     have O : (a0_3 == 0) = true := eq1_ a4; have P : (a0_3 != 0) = false := ne0_ a4; clear a4; have H' := Aside0.mk H; clear H; have a5 := box9_ A.out
     go_wp2
     go_meet
     case rel => exact ⟨_, H', ⟨ro_⟩, ⟨bu_ A.out⟩, ⟨be_ HB.out⟩⟩
    ·
     have O : (a0_3 == 0) = false := eq0_ a4; have P : (a0_3 != 0) = true := ne1_ a4; obtain rfl := oi_ H; have a6 := box9_ A.out
     go_wp2
     go_ret
     exact rt_ HB.out
   ·
    have D : (a0_2 == 0) = false := eq0_ a3; have M : (a0_2 != 0) = true := ne1_ a3; (first | rw [D] | (simp only [i64_w, i32_w]; rw [D]) | skip); obtain rfl := oi_ H; have a7 := box9_ A.out
    go_wp2
    go_ret
    exact rt_ HB.out
 case rest =>
  clear aM; (try clear c1); (try clear p2); (try clear c5); (try clear c6); (try clear c8); (try clear c10); (try clear a3); (try clear D); (try clear M); (try clear a4); (try clear O); (try clear P); (try clear Y); (try clear Z); (try clear a0); (try clear a5); (try clear a6); (try clear a7); obtain ⟨kq, HA, J, A, HB⟩ := hcut
  cases kq with
  | zero => exact absurd HA.out (by simp [spec_l03Plain.j0])
  | succ kj3 =>
   have H := HA.out; clear HA; simp only [spec_l03Plain.j0] at H
   replace H := icb_ H; obtain ⟨rfl, H⟩ | ⟨rfl, H⟩ := H
   ·
    have ao := Aside0.mk H; clear H
    go_upto_region 7 with (fail)
    go_cut [58] (fun v58 wc => ∃ (kq : Nat) (a9 : Bool), v58 = .bool a9 ∧ Aside0 (spec_l03Plain.j1 kq a9 a0_0 a0_1 a0_2 a0_3 a0_4 a0_5 a0_6 l0_7 l0_8 = some r) ∧ Aside0 (kq ≤ kj3) ∧ Aside0 (wc.heap[X]? = some (.cells #[.int .i64 a0_0, .int .i64 a0_1, .int .i64 a0_2, .int .i64 a0_3, .int .i64 a0_4, .int .i64 a0_5, .int .i64 a0_6, (.slice A0_7 l0_7.length c0_7), (.slice A0_8 l0_8.length c0_8)] 55 (0, 0))) ∧ Aside0 (Below w.heap.size w wc))
    case first =>
     have H := ao.out; clear ao; obtain ⟨bd, ap, H⟩ := bo_ H; (try dsimp only at H)
     replace H := icb_ H; obtain ⟨rfl, H⟩ | ⟨rfl, H⟩ := H
     ·
      obtain ⟨be, aI, H⟩ := bo_ H; (try dsimp only at H)
      replace H := icb_ H; obtain ⟨rfl, H⟩ | ⟨rfl, H⟩ := H
      ·
       obtain ⟨bf, aN, H⟩ := bo_ H; (try dsimp only at H)
       replace H := icb_ H; obtain ⟨rfl, H⟩ | ⟨rfl, H⟩ := H
       ·
        obtain ⟨bg, b1, H⟩ := bo_ H; (try dsimp only at H)
        replace H := icb_ H; obtain ⟨rfl, H⟩ | ⟨rfl, H⟩ := H
        ·
         have H' := Aside0.mk H; clear H; have aa := box9_ A.out
         go_wp2_with (first | ((with_reducible refine gc_ 57 ?_); refine gw_ (some 31) Tryz.func57 ?_; (with_reducible refine (spec_l01In.calls ap.out).mono ?_); rintro e w' ⟨rfl, ⟨nd, rfl⟩⟩; refine ⟨_, rfl, ?_⟩) | (go_at_call 57; (with_reducible refine (spec_l01In.calls aI.out).mono ?_); rintro e w' ⟨rfl, ⟨nd, rfl⟩⟩) | (go_at_call 57; (with_reducible refine (spec_l01In.calls aN.out).mono ?_); rintro e w' ⟨rfl, ⟨nd, rfl⟩⟩) | (go_at_call 96; (with_reducible refine (spec_l02Int8.calls b1.out).mono ?_); rintro e w' ⟨rfl, ⟨nd, rfl⟩⟩))
         go_meet
         case rel => exact ⟨_, (((l0_8.length : Int) != a0_1)), rl_, H', ⟨by have := J.out; first | omega | exact Nat.le_refl _⟩, ⟨bu_ A.out⟩, ⟨be_ HB.out⟩⟩
        ·
         have H' := Aside0.mk H; clear H; have ab := box9_ A.out
         go_wp2_with (first | ((with_reducible refine gc_ 57 ?_); refine gw_ (some 31) Tryz.func57 ?_; (with_reducible refine (spec_l01In.calls ap.out).mono ?_); rintro e w' ⟨rfl, ⟨nd, rfl⟩⟩; refine ⟨_, rfl, ?_⟩) | (go_at_call 57; (with_reducible refine (spec_l01In.calls aI.out).mono ?_); rintro e w' ⟨rfl, ⟨nd, rfl⟩⟩) | (go_at_call 57; (with_reducible refine (spec_l01In.calls aN.out).mono ?_); rintro e w' ⟨rfl, ⟨nd, rfl⟩⟩) | (go_at_call 96; (with_reducible refine (spec_l02Int8.calls b1.out).mono ?_); rintro e w' ⟨rfl, ⟨nd, rfl⟩⟩))
         go_meet
         case rel => exact ⟨_, (true), rl_, H', ⟨by have := J.out; first | omega | exact Nat.le_refl _⟩, ⟨bu_ A.out⟩, ⟨be_ HB.out⟩⟩
       ·
        have H' := Aside0.mk H; clear H; have ac := box9_ A.out
        go_wp2_with (first | ((with_reducible refine gc_ 57 ?_); refine gw_ (some 31) Tryz.func57 ?_; (with_reducible refine (spec_l01In.calls ap.out).mono ?_); rintro e w' ⟨rfl, ⟨nd, rfl⟩⟩; refine ⟨_, rfl, ?_⟩) | (go_at_call 57; (with_reducible refine (spec_l01In.calls aI.out).mono ?_); rintro e w' ⟨rfl, ⟨nd, rfl⟩⟩) | (go_at_call 57; (with_reducible refine (spec_l01In.calls aN.out).mono ?_); rintro e w' ⟨rfl, ⟨nd, rfl⟩⟩))
        go_meet
        case rel => exact ⟨_, (true), rl_, H', ⟨by have := J.out; first | omega | exact Nat.le_refl _⟩, ⟨bu_ A.out⟩, ⟨be_ HB.out⟩⟩
      ·
       have H' := Aside0.mk H; clear H; have ad := box9_ A.out
       go_wp2_with (first | ((with_reducible refine gc_ 57 ?_); refine gw_ (some 31) Tryz.func57 ?_; (with_reducible refine (spec_l01In.calls ap.out).mono ?_); rintro e w' ⟨rfl, ⟨nd, rfl⟩⟩; refine ⟨_, rfl, ?_⟩) | (go_at_call 57; (with_reducible refine (spec_l01In.calls aI.out).mono ?_); rintro e w' ⟨rfl, ⟨nd, rfl⟩⟩))
       go_meet
       case rel => exact ⟨_, (true), rl_, H', ⟨by have := J.out; first | omega | exact Nat.le_refl _⟩, ⟨bu_ A.out⟩, ⟨be_ HB.out⟩⟩
     ·
      have H' := Aside0.mk H; clear H; have ae := box9_ A.out
      go_wp2_with (first | ((with_reducible refine gc_ 57 ?_); refine gw_ (some 31) Tryz.func57 ?_; (with_reducible refine (spec_l01In.calls ap.out).mono ?_); rintro e w' ⟨rfl, ⟨nd, rfl⟩⟩; refine ⟨_, rfl, ?_⟩))
      go_meet
      case rel => exact ⟨_, (true), rl_, H', ⟨by have := J.out; first | omega | exact Nat.le_refl _⟩, ⟨bu_ A.out⟩, ⟨be_ HB.out⟩⟩
    case rest =>
     clear ao; (try clear c1); (try clear c2); (try clear p2); (try clear c5); (try clear c6); (try clear c8); (try clear c10); (try clear a3); (try clear D); (try clear M); (try clear a4); (try clear O); (try clear P); (try clear c19); (try clear c22); (try clear c24); (try clear c26); (try clear c28); (try clear Y); (try clear Z); (try clear a0); (try clear a5); (try clear a6); (try clear a7); (try clear aa); (try clear ab); (try clear ac); (try clear ad); (try clear ae); (try clear p2); obtain ⟨kq, a9, rfl, HA, aj, A, HB⟩ := hcut
     cases kq with
     | zero => exact absurd HA.out (by simp [spec_l03Plain.j1])
     | succ kj19 =>
      have H := HA.out; clear HA; simp only [spec_l03Plain.j1] at H
      replace H := icb_ H; obtain ⟨rfl, H⟩ | ⟨rfl, H⟩ := H
      ·
       obtain rfl := oi_ H
       go_wp2
       go_ret
       exact rt_ HB.out
      ·
       have H' := Aside0.mk H; clear H
       go_wp2
       go_loopg [7] kj19 (fun kq v7 w' => ∃ (G : Int), v7 = .int .i64 G ∧ Aside0 (spec_l03Plain.l0 kq G a0_0 a0_1 a0_2 a0_3 a0_4 a0_5 a0_6 l0_7 l0_8 = some r) ∧ Aside0 (kq ≤ kj19) ∧ Aside0 (w'.heap[X]? = some (.cells #[.int .i64 a0_0, .int .i64 a0_1, .int .i64 a0_2, .int .i64 a0_3, .int .i64 a0_4, .int .i64 a0_5, .int .i64 a0_6, (.slice A0_7 l0_7.length c0_7), (.slice A0_8 l0_8.length c0_8)] 55 (0, 0))) ∧ Aside0 (Below w.heap.size w w'))
       case atStart => exact ⟨(0), rl_, H', ⟨Nat.le_refl _⟩, ⟨bu_ A.out⟩, ⟨be_ HB.out⟩⟩
       case round =>
        clear H'; (try clear c1); (try clear c2); (try clear p2); (try clear c3); (try clear c5); (try clear c6); (try clear c8); (try clear c10); (try clear a3); (try clear D); (try clear M); (try clear a4); (try clear O); (try clear P); (try clear c19); (try clear c22); (try clear c24); (try clear c26); (try clear c28); (try clear c34); (try clear Y); (try clear Z); (try clear a0); (try clear a5); (try clear a6); (try clear a7); (try clear aa); (try clear ab); (try clear ac); (try clear ad); (try clear ae); (try clear p2); obtain ⟨G, rfl, HA, aJ, A, HB⟩ := hrel
        cases gk with
        | zero => exact absurd HA.out (by simp [spec_l03Plain.l0])
        | succ k3 =>
         have H := HA.out; clear HA; simp only [spec_l03Plain.l0] at H
         replace H := icd_ H; obtain ⟨af, H⟩ | ⟨af, H⟩ := H
         ·
          obtain ⟨aq, H⟩ := ipd_ H; obtain ⟨bh, b2, H⟩ := bo_ H; (try dsimp only at H)
          replace H := icb_ H; obtain ⟨rfl, H⟩ | ⟨rfl, H⟩ := H
          ·
           have H' := Aside0.mk H; clear H; have ar := box9_ A.out; have K : 0 ≤ (G : Int) := od_; have L : G < (l0_8.length : Int) := od_; obtain ⟨aO, au, B⟩ := Kd.at_int an.out G K L
           cases au
           replace B := cw_ HB.out B; replace K := eq_true K; replace L := eq_true L
           go_wp2_with (first | ((with_reducible refine gc_ 57 ?_); refine gw_ (some 71) Tryz.func57 ?_; (with_reducible refine (spec_l01In.calls b2.out).mono ?_); rintro e w' ⟨rfl, ⟨nd, rfl⟩⟩; refine ⟨_, rfl, ?_⟩))
           go_roundg k3
           case measure => have := J.out; have := aj.out; have := aJ.out; omega
           case rel => exact ⟨(wrap64 (G + 1)), rl_, H', ⟨by have := J.out; have := aj.out; have := aJ.out; omega⟩, ⟨bu_ A.out⟩, ⟨be_ HB.out⟩⟩
          ·
           obtain rfl := oi_ H; have av := box9_ A.out; have K : 0 ≤ (G : Int) := od_; have L : G < (l0_8.length : Int) := od_; obtain ⟨aO, au, B⟩ := Kd.at_int an.out G K L
           cases au
           replace B := cw_ HB.out B; replace K := eq_true K; replace L := eq_true L
           go_wp2_with (first | ((with_reducible refine gc_ 57 ?_); refine gw_ (some 71) Tryz.func57 ?_; (with_reducible refine (spec_l01In.calls b2.out).mono ?_); rintro e w' ⟨rfl, ⟨nd, rfl⟩⟩; refine ⟨_, rfl, ?_⟩))
           go_ret
           exact rt_ HB.out
         ·
          have H' := Aside0.mk H; clear H; have aw := box9_ A.out
          go_wp2
          go_loopg [8] k3 (fun kq v8 w' => ∃ (I : Int), v8 = .int .i64 I ∧ Aside0 (spec_l03Plain.l1 kq I a0_0 a0_1 a0_2 a0_3 a0_4 a0_5 a0_6 l0_7 l0_8 = some r) ∧ Aside0 (kq ≤ k3) ∧ Aside0 (w'.heap[X]? = some (.cells #[.int .i64 a0_0, .int .i64 a0_1, .int .i64 a0_2, .int .i64 a0_3, .int .i64 a0_4, .int .i64 a0_5, .int .i64 a0_6, (.slice A0_7 l0_7.length c0_7), (.slice A0_8 l0_8.length c0_8)] 55 (0, 0))) ∧ Aside0 (Below w.heap.size w w'))
          case atStart => exact ⟨(0), rl_, H', ⟨Nat.le_refl _⟩, ⟨bu_ A.out⟩, ⟨be_ HB.out⟩⟩
          case round =>
           clear H'; (try clear c1); (try clear c2); (try clear p2); (try clear q2); (try clear hx2); (try clear c3); (try clear c5); (try clear c6); (try clear p6); (try clear c8); (try clear c10); (try clear a3); (try clear D); (try clear M); (try clear a4); (try clear O); (try clear P); (try clear c19); (try clear c22); (try clear p22); (try clear q22); (try clear hx22); (try clear c24); (try clear c26); (try clear c28); (try clear c34); (try clear c35); (try clear af); (try clear c36); (try clear aq); (try clear c38); (try clear Y); (try clear Z); (try clear a0); (try clear a5); (try clear a6); (try clear a7); (try clear aa); (try clear ab); (try clear ac); (try clear ad); (try clear ae); (try clear ar); (try clear av); (try clear aw); (try clear B); (try clear p2); (try clear K); (try clear L); obtain ⟨I, rfl, HA, b3, A, HB⟩ := hrel
           cases gk with
           | zero => exact absurd HA.out (by simp [spec_l03Plain.l1])
           | succ k4 =>
            have H := HA.out; clear HA; simp only [spec_l03Plain.l1] at H
            replace H := icd_ H; obtain ⟨ax, H⟩ | ⟨ax, H⟩ := H
            ·
             obtain ⟨aP, H⟩ := ipd_ H; obtain ⟨bi, b4, H⟩ := bo_ H; (try dsimp only at H)
             replace H := icb_ H; obtain ⟨rfl, H⟩ | ⟨rfl, H⟩ := H
             ·
              have H' := Aside0.mk H; clear H; have aQ := box9_ A.out; have U : 0 ≤ (I : Int) := od_; have W : I < (l0_7.length : Int) := od_; obtain ⟨aR, ay, E⟩ := Kd.at_int am.out I U W
              cases ay
              replace E := cw_ HB.out E; replace U := eq_true U; replace W := eq_true W
              go_wp2_with (first | ((with_reducible refine gc_ 96 ?_); refine gw_ (some 85) Tryz.func96 ?_; (with_reducible refine (spec_l02Int8.calls b4.out).mono ?_); rintro e w' ⟨rfl, ⟨nd, rfl⟩⟩; refine ⟨_, rfl, ?_⟩))
              go_roundg k4
              case measure => have := J.out; have := aj.out; have := aJ.out; have := b3.out; omega
              case rel => exact ⟨(wrap64 (I + 1)), rl_, H', ⟨by have := J.out; have := aj.out; have := aJ.out; have := b3.out; omega⟩, ⟨bu_ A.out⟩, ⟨be_ HB.out⟩⟩
             ·
              obtain rfl := oi_ H; have aS := box9_ A.out; have U : 0 ≤ (I : Int) := od_; have W : I < (l0_7.length : Int) := od_; obtain ⟨aR, ay, E⟩ := Kd.at_int am.out I U W
              cases ay
              replace E := cw_ HB.out E; replace U := eq_true U; replace W := eq_true W
              go_wp2_with (first | ((with_reducible refine gc_ 96 ?_); refine gw_ (some 85) Tryz.func96 ?_; (with_reducible refine (spec_l02Int8.calls b4.out).mono ?_); rintro e w' ⟨rfl, ⟨nd, rfl⟩⟩; refine ⟨_, rfl, ?_⟩))
              go_ret
              exact rt_ HB.out
            ·
             obtain rfl := oi_ H; have aT := box9_ A.out
             go_wp2
             go_ret
             exact rt_ HB.out
   ·
    have az := Aside0.mk H; clear H
    go_upto_region 20 with (fail)
    go_cut [111] (fun b5 wc => ∃ (kq : Nat) (a8 : Bool), b5 = .bool a8 ∧ Aside0 (spec_l03Plain.j4 kq a8 a0_0 a0_1 a0_2 a0_3 a0_4 a0_5 a0_6 l0_7 l0_8 = some r) ∧ Aside0 (kq ≤ kj3) ∧ Aside0 (wc.heap[X]? = some (.cells #[.int .i64 a0_0, .int .i64 a0_1, .int .i64 a0_2, .int .i64 a0_3, .int .i64 a0_4, .int .i64 a0_5, .int .i64 a0_6, (.slice A0_7 l0_7.length c0_7), (.slice A0_8 l0_8.length c0_8)] 55 (0, 0))) ∧ Aside0 (Below w.heap.size w wc))
    case first =>
     have H := az.out; clear az
     replace H := ic_ H; obtain ⟨ag, H⟩ | ⟨ag, H⟩ := H
     ·
      have T : (a0_1 == 0) = true := eq1_ ag; have aA : (a0_1 != 0) = false := ne0_ ag; clear ag; (first | rw [T] | (simp only [i64_w, i32_w]; rw [T]) | skip)
      replace H := ic_ H; obtain ⟨ah, H⟩ | ⟨ah, H⟩ := H
      ·
       have aC : (a0_4 == 0) = true := eq1_ ah; have aD : (a0_4 != 0) = false := ne0_ ah; clear ah
       replace H := ic_ H; obtain ⟨ai, H⟩ | ⟨ai, H⟩ := H
       ·
        have aE : (a0_5 == 0) = true := eq1_ ai; have aF : (a0_5 != 0) = false := ne0_ ai; clear ai
        replace H := ic_ H; obtain ⟨ak, H⟩ | ⟨ak, H⟩ := H
        ·
         have aG : decide (0 < (l0_7.length : Int)) = true := dt_ ak; have aH : decide (0 < l0_7.length) = true := decide_eq_true (by omega); clear ak; have H' := Aside0.mk H; clear H; have aU := box9_ A.out
         go_wp2
         go_meet
         case rel => exact ⟨_, (true), rl_, H', ⟨by have := J.out; first | omega | exact Nat.le_refl _⟩, ⟨bu_ A.out⟩, ⟨be_ HB.out⟩⟩
        ·
         have aG : decide (0 < (l0_7.length : Int)) = false := df_ ak; have aH : decide (0 < l0_7.length) = false := decide_eq_false (by omega); clear ak; have H' := Aside0.mk H; clear H; have aV := box9_ A.out
         go_wp2
         go_meet
         case rel => exact ⟨_, (decide ((l0_8.length : Int) > 0)), rl_, H', ⟨by have := J.out; first | omega | exact Nat.le_refl _⟩, ⟨bu_ A.out⟩, ⟨be_ HB.out⟩⟩
       ·
        have aE : (a0_5 == 0) = false := eq0_ ai; have aF : (a0_5 != 0) = true := ne1_ ai; have H' := Aside0.mk H; clear H; have aW := box9_ A.out
        go_wp2
        go_meet
        case rel => exact ⟨_, (true), rl_, H', ⟨by have := J.out; first | omega | exact Nat.le_refl _⟩, ⟨bu_ A.out⟩, ⟨be_ HB.out⟩⟩
      ·
       have aC : (a0_4 == 0) = false := eq0_ ah; have aD : (a0_4 != 0) = true := ne1_ ah; have H' := Aside0.mk H; clear H; have aX := box9_ A.out
       go_wp2
       go_meet
       case rel => exact ⟨_, (true), rl_, H', ⟨by have := J.out; first | omega | exact Nat.le_refl _⟩, ⟨bu_ A.out⟩, ⟨be_ HB.out⟩⟩
     ·
      have T : (a0_1 == 0) = false := eq0_ ag; have aA : (a0_1 != 0) = true := ne1_ ag; (first | rw [T] | (simp only [i64_w, i32_w]; rw [T]) | skip); have H' := Aside0.mk H; clear H; have aY := box9_ A.out
      go_wp2
      go_meet
      case rel => exact ⟨_, (true), rl_, H', ⟨by have := J.out; first | omega | exact Nat.le_refl _⟩, ⟨bu_ A.out⟩, ⟨be_ HB.out⟩⟩
    case rest =>
     clear az; (try clear c1); (try clear c2); (try clear p2); (try clear q2); (try clear hx2); (try clear c3); (try clear c4); (try clear c5); (try clear c6); (try clear p6); (try clear c8); (try clear c9); (try clear c10); (try clear a3); (try clear D); (try clear M); (try clear a4); (try clear O); (try clear P); (try clear c19); (try clear c22); (try clear p22); (try clear q22); (try clear hx22); (try clear c24); (try clear c26); (try clear c28); (try clear c34); (try clear c35); (try clear af); (try clear c36); (try clear aq); (try clear c38); (try clear c42); (try clear ax); (try clear c43); (try clear aP); (try clear c45); (try clear ag); (try clear T); (try clear aA); (try clear ah); (try clear aC); (try clear aD); (try clear ai); (try clear aE); (try clear aF); (try clear ak); (try clear aG); (try clear aH); (try clear Y); (try clear Z); (try clear a0); (try clear a5); (try clear a6); (try clear a7); (try clear aa); (try clear ab); (try clear ac); (try clear ad); (try clear ae); (try clear ar); (try clear av); (try clear aw); (try clear aQ); (try clear aS); (try clear aT); (try clear aU); (try clear aV); (try clear aW); (try clear aX); (try clear aY); (try clear B); (try clear E); (try clear p2); (try clear p22); (try clear K); (try clear U); (try clear p6); (try clear q2); (try clear q22); (try clear L); (try clear W); obtain ⟨kq, a8, rfl, HA, bj, A, HB⟩ := hcut
     cases kq with
     | zero => exact absurd HA.out (by simp [spec_l03Plain.j4])
     | succ kj48 =>
      have H := HA.out; clear HA; simp only [spec_l03Plain.j4] at H
      replace H := icb_ H; obtain ⟨rfl, H⟩ | ⟨rfl, H⟩ := H
      ·
       obtain rfl := oi_ H
       go_wp2
       go_ret
       exact rt_ HB.out
      ·
       replace H := ic_ H; obtain ⟨al, H⟩ | ⟨al, H⟩ := H
       ·
        have aZ : (a0_0 == 4) = true := eq1_ al; have b0 : (a0_0 != 4) = false := ne0_ al; clear al; obtain ⟨bk, ba, H⟩ := bo_ H; (try dsimp only at H); obtain rfl := oi_ H; have bb := box9_ A.out
        go_wp2_with (first | ((with_reducible refine gc_ 96 ?_); refine gw_ (some 117) Tryz.func96 ?_; (with_reducible refine (spec_l02Int8.calls ba.out).mono ?_); rintro e w' ⟨rfl, ⟨nd, rfl⟩⟩; refine ⟨_, rfl, ?_⟩))
        go_ret
        exact rt_ HB.out
       ·
        have aZ : (a0_0 == 4) = false := eq0_ al; have b0 : (a0_0 != 4) = true := ne1_ al; obtain rfl := oi_ H; have bc := box9_ A.out
        go_wp2
        go_ret
        exact rt_ HB.out

mutual
def spec_OutShape.j0 : Nat → Bool → Int → Int → Int → Int → Int → Int → Int → Int → Int → Int → List Int → List Int → Int → Int → Int → Option (Int × Int × Int × Bool)
 | 0, _, _, _, _, _, _, _, _, _, _, _, _, _, _, _, _ => none
 | k + 1, x18, x227000, x227001, x227002, x228000, x228001, x228002, x228003, x228004, x228005, x228006, x228007, x228008, x230000, x230001, x230002 => if x18 = true then (some (x230000, x230001, x230002, false)) else ((spec_l01In.f x228000 1 3).bind fun t232 => ((spec_l03Plain.f k x228000 x228001 x228002 x228003 x228004 x228005 x228006 x228007 x228008 t232 (decide (x228000 ≤ 1))).bind fun t233 => (if t233 = true then (if t232 = true then (if x228002 > x227000 then (some (x230000, x230001, x230002, false)) else (if x228002 > x227001 then (some (x230000, x230001, x230002, false)) else (if x228003 = 0 then (none) else (spec_OutShape.j1 k x227000 x227001 x227002 x228000 x228001 x228002 x228003 x228004 x228005 x228006 x228007 x228008 x230000 x230001 x230002 (wrap64 ((wrap64 (Int.tdiv (wrap64 (x227000 - x228002)) x228003)) + 1)) (wrap64 ((wrap64 (Int.tdiv (wrap64 (x227001 - x228002)) x228003)) + 1)) x227002)))) else (spec_OutShape.j1 k x227000 x227001 x227002 x228000 x228001 x228002 x228003 x228004 x228005 x228006 x228007 x228008 x230000 x230001 x230002 x227000 x227001 x227002)) else (some (x230000, x230001, x230002, false)))))
def spec_OutShape.j1 : Nat → Int → Int → Int → Int → Int → Int → Int → Int → Int → Int → List Int → List Int → Int → Int → Int → Int → Int → Int → Option (Int × Int × Int × Bool)
 | 0, _, _, _, _, _, _, _, _, _, _, _, _, _, _, _, _, _, _ => none
 | k + 1, x227000, x227001, x227002, x228000, x228001, x228002, x228003, x228004, x228005, x228006, x228007, x228008, x230000, x230001, x230002, x235000, x235001, x235002 => if x228000 = 0 then ((spec_SizeOf.f x227000 x227001 x227002).bind fun t235 => (if t235 > 64 then (some (x230000, x230001, x230002, false)) else ((spec_SizeOf.f x227000 x227001 x227002).bind fun t236 => (if (x228007.length : Int) = (wrap64 (x228001 * t236)) then (some (1, 1, x228001, true)) else (some (x230000, x230001, x230002, false)))))) else (if x228000 = 1 then (if (x228007.length : Int) = (wrap64 ((wrap64 ((wrap64 (x228001 * x228002)) * x228002)) * x227002)) then (if (x228007.length : Int) > 600 then (some (x230000, x230001, x230002, false)) else (some (x235000, x235001, x228001, true))) else (some (x230000, x230001, x230002, false))) else (if x228000 = 5 then ((spec_SizeOf.f x227000 x227001 x227002).bind fun t237 => (if t237 > 8 then (some (x230000, x230001, x230002, false)) else ((spec_SizeOf.f x227000 x227001 x227002).bind fun t238 => (some (1, 1, t238, true))))) else (some (x235000, x235001, x235002, true))))
end
def spec_OutShape.f (k : Nat) (a0_0 : Int) (a0_1 : Int) (a0_2 : Int) (a1_0 : Int) (a1_1 : Int) (a1_2 : Int) (a1_3 : Int) (a1_4 : Int) (a1_5 : Int) (a1_6 : Int) (l1_7 : List Int) (l1_8 : List Int) : Option (Int × Int × Int × Bool) := (spec_ShapeOk.f a0_0 a0_1 a0_2).bind fun t230 => (if t230 = true then ((spec_l01In.f a1_0 0 5).bind fun t231 => (spec_OutShape.j0 k (!t231) a0_0 a0_1 a0_2 a1_0 a1_1 a1_2 a1_3 a1_4 a1_5 a1_6 l1_7 l1_8 0 0 0)) else (spec_OutShape.j0 k true a0_0 a0_1 a0_2 a1_0 a1_1 a1_2 a1_3 a1_4 a1_5 a1_6 l1_7 l1_8 0 0 0))
def spec_OutShape.T15 : Bool × List (List Nat × List Nat) := (true, [([], []), ([0], [0]), ([1], [1]), ([2, 1], [2]), ([3], [3]), ([4, 3], [3, 4]), ([5, 3], [3, 5]), ([3], [3]), ([7, 3], [3, 7]), ([3], [3]), ([9, 3, 3], [3, 9]), ([8, 10, 3], [3, 8, 10]), ([6, 11, 3], [3, 6, 11]), ([3, 12], [3, 12])])
def spec_OutShape.B15 : List Nat := [0, 1, 3, 7, 15, 31, 63, 15, 143, 15, 527, 1935, 4095, 8191]
theorem spec_OutShape.tab15 : rtab .any (opsOf Tryz.f26 15) = spec_OutShape.T15 := by kernel_rfl
theorem spec_OutShape.bits15 : waitsOk spec_OutShape.T15.2 spec_OutShape.B15 = true := by kernel_rfl
set_option maxHeartbeats 8000000 in
set_option maxRecDepth 100000 in
theorem spec_OutShape.calls {k : Nat} {a0_0 : Int} {a0_1 : Int} {a0_2 : Int} {a1_0 : Int} {a1_1 : Int} {a1_2 : Int} {a1_3 : Int} {a1_4 : Int} {a1_5 : Int} {a1_6 : Int} {A1_7 : Option Addr} {c1_7 : Nat} {l1_7 : List Int} {A1_8 : Option Addr} {c1_8 : Nat} {l1_8 : List Int} {r1 : Int} {r2 : Int} {r3 : Int} {r4 : Bool} {w : World} (hr1_7 : Kd.C (Kd.int .i64) w A1_7 l1_7.length l1_7) (hc1_7 : l1_7.length ≤ c1_7) (hr1_8 : Kd.C (Kd.int .i64) w A1_8 l1_8.length l1_8) (hc1_8 : l1_8.length ≤ c1_8) (h : spec_OutShape.f k a0_0 a0_1 a0_2 a1_0 a1_1 a1_2 a1_3 a1_4 a1_5 a1_6 l1_7 l1_8 = some (r1, r2, r3, r4)) :
  Calls Tryz.prog 26 #[.agg #[.int .i64 a0_0, .int .i64 a0_1, .int .i64 a0_2], .agg #[.int .i64 a1_0, .int .i64 a1_1, .int .i64 a1_2, .int .i64 a1_3, .int .i64 a1_4, .int .i64 a1_5, .int .i64 a1_6, .slice A1_7 l1_7.length c1_7, .slice A1_8 l1_8.length c1_8]] w fun e w' => e = .returned (.tuple #[.agg #[.int .i64 r1, .int .i64 r2, .int .i64 r3], .bool r4]) ∧ Below w.heap.size w w' := by
 have hu23 := Tryz.underlying23; have hu55 := Tryz.underlying55; have ar := Aside0.mk hr1_7; have au := Aside0.mk hc1_7; clear hr1_7 hc1_7; have av := Aside0.mk hr1_8; have aw := Aside0.mk hc1_8; clear hr1_8 hc1_8; have HB := Aside0.mk (Below.refl w.heap.size w); have H : ((spec_ShapeOk.f a0_0 a0_1 a0_2).bind fun aV => (if aV = true then ((spec_l01In.f a1_0 0 5).bind fun ax => (spec_OutShape.j0 k (!ax) a0_0 a0_1 a0_2 a1_0 a1_1 a1_2 a1_3 a1_4 a1_5 a1_6 l1_7 l1_8 0 0 0)) else (spec_OutShape.j0 k true a0_0 a0_1 a0_2 a1_0 a1_1 a1_2 a1_3 a1_4 a1_5 a1_6 l1_7 l1_8 0 0 0))) = some (r1, r2, r3, r4) := h; clear h; have aZ := Aside0.mk H; clear H
 go_enter Tryz.func26, Tryz.ntmps26
 go_upto_region 2 with (first | ((with_reducible refine gate_dst (N := 2) rfl ?_); (try (refine gate_guard (by rfl) ?_; dsimp only)); refine bz_ 2 ?_; intro ay hg w4 hbox hb; obtain ⟨B, cJ, cK, HB⟩ := nb_ hg hbox HB hb; clear hb hbox hg) | ((with_reducible refine gate_dst (N := 3) rfl ?_); (try (refine gate_guard (by rfl) ?_; dsimp only)); refine bz_ 3 ?_; intro az hg w5 hbox hb; obtain ⟨D, cL, cM, HB⟩ := nb_ hg hbox HB hb; have a7 := nx_ hg B; have a8 := ny_ hg B; replace B := bb_ B hb; clear hb hbox hg) | ((with_reducible refine gate_dst (N := 4) rfl ?_); (try (refine gate_guard (by rfl) ?_; dsimp only)); refine bz_ 4 ?_; intro Y hg w6 hbox hb; obtain ⟨A, cN, cO, HB⟩ := nb_ hg hbox HB hb; have M := nx_ hg B; have O := ny_ hg B; replace B := bb_ B hb; have a1 := nx_ hg D; have a2 := ny_ hg D; replace D := bb_ D hb; clear hb hbox hg) | ((with_reducible refine gate_dst (N := 6) rfl ?_); (try (refine gate_guard (by rfl) ?_; dsimp only)); refine bz_ 6 ?_; intro aA hg w7 hbox hb; obtain ⟨E, cP, cQ, HB⟩ := nb_ hg hbox HB hb; have P := nx_ hg B; have T := ny_ hg B; replace B := bb_ B hb; have Z := nx_ hg D; have a0 := ny_ hg D; replace D := bb_ D hb; have G := nx_ hg A; have I := ny_ hg A; replace A := bb_ A hb; clear hb hbox hg; have dE := nn_ T P; have dF := nn_ a0 Z; have cR := nn_ I G; have aC := box3_ E.out))
 (try simp only [Act.put, List.setIfInBounds_toArray, List.set_cons_zero, List.set_cons_succ])
 go_cut [18] (fun v18 wc => ∃ (kq : Nat) (am : Bool), v18 = .bool am ∧ Aside0 (spec_OutShape.j0 kq am a0_0 a0_1 a0_2 a1_0 a1_1 a1_2 a1_3 a1_4 a1_5 a1_6 l1_7 l1_8 0 0 0 = some (r1, r2, r3, r4)) ∧ Aside0 (kq ≤ k) ∧ Aside0 (wc.heap[ay]? = some (.cells #[.int .i64 a0_0, .int .i64 a0_1, .int .i64 a0_2] 23 (0, 0))) ∧ Aside0 (wc.heap[az]? = some (.cells #[.int .i64 a1_0, .int .i64 a1_1, .int .i64 a1_2, .int .i64 a1_3, .int .i64 a1_4, .int .i64 a1_5, .int .i64 a1_6, (.slice A1_7 l1_7.length c1_7), (.slice A1_8 l1_8.length c1_8)] 55 (0, 0))) ∧ Aside0 (wc.heap[Y]? = some (.cells #[.int .i64 0, .int .i64 0, .int .i64 0] 23 (0, 0))) ∧ Aside0 (wc.heap[aA]? = some (.cells #[.int .i64 0, .int .i64 0, .int .i64 0] 23 (0, 0))) ∧ Aside0 (Below w.heap.size w wc))
 case first =>
  have H := aZ.out; clear aZ; obtain ⟨aV, bj, H⟩ := bo_ H; (try dsimp only at H); have cS := nn_ a7 a8; have cT := nn_ M O; have cU := nn_ P T; have aD := box3_ B.out; refine Aside0.out ?_
  replace H := icb_ H; obtain ⟨rfl, H⟩ | ⟨rfl, H⟩ := H
  ·
   obtain ⟨ax, cV, H⟩ := bo_ H; (try dsimp only at H); have H' := Aside0.mk H; clear H; refine ⟨?_⟩
   go_wp2_with (first | ((with_reducible refine gc_ 61 ?_); refine gw_ (some 11) Tryz.func61 ?_; (with_reducible refine (spec_ShapeOk.calls bj.out).mono ?_); rintro e dR ⟨rfl, hb⟩; refine ⟨_, rfl, ?_⟩; replace B := bc_ B hb; replace D := bc_ D hb; replace A := bc_ A hb; replace E := bp_ (#[.int .i64 0, .int .i64 0, .int .i64 0]) E hb; replace HB := hb_ HB hb; (try clear hb); have cW := nn_ a1 a2; have cX := nn_ Z a0; have aE := box9_ D.out) | (go_at_call 57; (with_reducible refine (spec_l01In.calls cV.out).mono ?_); rintro e w' ⟨rfl, ⟨nd, rfl⟩⟩))
   go_meet
   case rel => exact ⟨_, (!ax), rl_, H', ⟨ro_⟩, ⟨bu_ B.out⟩, ⟨bu_ D.out⟩, ⟨bu_ A.out⟩, ⟨bu_ E.out⟩, ⟨be_ HB.out⟩⟩
  ·
   have H' := Aside0.mk H; clear H; refine ⟨?_⟩
   go_wp2_with (first | ((with_reducible refine gc_ 61 ?_); refine gw_ (some 11) Tryz.func61 ?_; (with_reducible refine (spec_ShapeOk.calls bj.out).mono ?_); rintro e dS ⟨rfl, hb⟩; refine ⟨_, rfl, ?_⟩; replace B := bc_ B hb; replace D := bc_ D hb; replace A := bc_ A hb; replace E := bp_ (#[.int .i64 0, .int .i64 0, .int .i64 0]) E hb; replace HB := hb_ HB hb; (try clear hb)))
   go_meet
   case rel => exact ⟨_, (true), rl_, H', ⟨ro_⟩, ⟨bu_ B.out⟩, ⟨bu_ D.out⟩, ⟨bu_ A.out⟩, ⟨bu_ E.out⟩, ⟨be_ HB.out⟩⟩
 case rest =>
  clear aZ; (try clear c1); (try clear c2); (try clear p2); (try clear c6); (try clear c8); (try clear c9); (try clear c10); (try clear c13); (try clear c15); (try clear c16); (try clear c17); (try clear c20); (try clear c21); (try clear c23); (try clear c24); (try clear c25); (try clear c26); (try clear aC); (try clear aD); (try clear aE); (try clear hcz26); obtain ⟨kq, am, rfl, HA, bk, B, D, A, E, HB⟩ := hcut
  cases kq with
  | zero => exact absurd HA.out (by simp [spec_OutShape.j0])
  | succ kj2 =>
   have H := HA.out; clear HA; simp only [spec_OutShape.j0] at H
   replace H := icb_ H; obtain ⟨rfl, H⟩ | ⟨rfl, H⟩ := H
   ·
    simp only [Option.some.injEq, Prod.mk.injEq] at H; obtain ⟨rfl, rfl, rfl, rfl⟩ := H; have cY := nn_ T P; have cZ := nn_ a0 Z; have d0 := nn_ I G; have b0 := box3_ E.out; have d1 := nn_ O M; have d2 := nn_ a2 a1; have b1 := box3_ A.out
    go_wp2
    refine bodyPost_ret (results_ct rfl _ _ Y 23 #[.int .i64 0, .int .i64 0, .int .i64 0] (0, 0) _ rfl (bq_ A.out) Tryz.underlying23 rfl (by kernel_rfl)) rfl ?_; exact rt_ HB.out
   ·
    obtain ⟨bl, d3, H⟩ := bo_ H; (try dsimp only at H); obtain ⟨dG, bm, H⟩ := bo_ H; (try dsimp only at H); have d4 := nn_ a8 a7; have d5 := nn_ a1 a2; have d6 := nn_ Z a0; have aF := box9_ D.out
    go_wp2_with (first | ((with_reducible refine gc_ 57 ?_); refine gw_ (some 22) Tryz.func57 ?_; (with_reducible refine (spec_l01In.calls d3.out).mono ?_); rintro e w' ⟨rfl, ⟨nd, rfl⟩⟩; refine ⟨_, rfl, ?_⟩; (try (rw [drewN_self wc]; generalize hq_ : World.drewN wc _ = wc; replace B := Aside0.mk (blk_at hq_ B.out); replace D := Aside0.mk (blk_at hq_ D.out); replace A := Aside0.mk (blk_at hq_ A.out); replace E := Aside0.mk (blk_at hq_ E.out); replace HB := Aside0.mk (below_at hq_ HB.out); clear hq_; have aF := box9_ D.out)); refine Aside0.out ?_))
    replace H := icb_ H; obtain ⟨rfl, H⟩ | ⟨rfl, H⟩ := H
    ·
     have aG := Aside0.mk H; clear H; refine ⟨?_⟩
     go_upto_if 32 with (first | ((with_reducible refine gc_ 62 ?_); refine gw_ (some 28) Tryz.func62 ?_; (with_reducible refine (spec_l03Plain.calls ?_ ?_ ?_ ?_ bm.out).mono ?_); exact cu_ ar.out HB.out; exact au.out; exact cu_ av.out HB.out; exact aw.out; rintro e dT ⟨rfl, hb⟩; refine ⟨_, rfl, ?_⟩; replace B := bb_ B hb; replace D := bb_ D hb; replace A := bb_ A hb; replace E := bb_ E hb; replace HB := hb_ HB hb; (try clear hb); have d7 := nn_ M O; have d8 := nn_ P T; have b2 := box3_ B.out) | ((with_reducible refine gate_dst (N := 8) rfl ?_); (try (refine gate_guard (by rfl) ?_; dsimp only)); refine bz_ 8 ?_; intro b3 hg dU hbox hb; obtain ⟨U, d9, da, HB⟩ := nb_ hg hbox HB hb; have a3 := nx_ hg B; have a4 := ny_ hg B; replace B := bb_ B hb; have a9 := nx_ hg D; have aa := ny_ hg D; replace D := bb_ D hb; have J := nx_ hg A; have L := ny_ hg A; replace A := bb_ A hb; have W := nx_ hg E; have X := ny_ hg E; replace E := bb_ E hb; clear hb hbox hg; have db := nn_ a4 a3; have dc := nn_ aa a9; have dd := nn_ L J; have de := nn_ X W; have b4 := box3_ U.out))
     (try simp only [Act.put, List.setIfInBounds_toArray, List.set_cons_zero, List.set_cons_succ])
     go_cut [] (fun wc => ∃ (kq : Nat) (ac : Int) (ad : Int) (ae : Int) (a5 : Int) (a6 : Int), Aside0 (spec_OutShape.j1 kq a0_0 a0_1 a0_2 a1_0 a1_1 a1_2 a1_3 a1_4 a1_5 a1_6 l1_7 l1_8 0 0 0 a5 a6 a0_2 = some (r1, r2, r3, r4)) ∧ Aside0 (kq ≤ kj2) ∧ Aside0 (wc.heap[ay]? = some (.cells #[.int .i64 a0_0, .int .i64 a0_1, .int .i64 a0_2] 23 (0, 0))) ∧ Aside0 (wc.heap[az]? = some (.cells #[.int .i64 a1_0, .int .i64 a1_1, .int .i64 a1_2, .int .i64 a1_3, .int .i64 a1_4, .int .i64 a1_5, .int .i64 a1_6, (.slice A1_7 l1_7.length c1_7), (.slice A1_8 l1_8.length c1_8)] 55 (0, 0))) ∧ Aside0 (wc.heap[Y]? = some (.cells #[.int .i64 ac, .int .i64 ad, .int .i64 ae] 23 (0, 0))) ∧ Aside0 (wc.heap[aA]? = some (.cells #[.int .i64 0, .int .i64 0, .int .i64 0] 23 (0, 0))) ∧ Aside0 (wc.heap[b3]? = some (.cells #[.int .i64 a5, .int .i64 a6, .int .i64 a0_2] 23 (0, 0))) ∧ Aside0 (Below w.heap.size w wc))
     case first =>
      have H := aG.out; clear aG
      by_cases aH : bl = true
      ·
       subst aH; rw [if_pos rfl] at H
       replace H := ic_ H; obtain ⟨ao, H⟩ | ⟨ao, H⟩ := H
       ·
        have ab : decide (a0_0 < a1_2) = true := dt_ ao; clear ao; (first | rw [ab] | (simp only [i64_w, i32_w]; rw [ab]) | skip); simp only [Option.some.injEq, Prod.mk.injEq] at H; obtain ⟨rfl, rfl, rfl, rfl⟩ := H; have df := nn_ a8 a7; have dg := nn_ a1 a2; have dh := nn_ Z a0; have di := nn_ a9 aa; have b5 := box9_ D.out; have dj := nn_ M O; have dk := nn_ P T; have dl := nn_ a3 a4; have b6 := box3_ B.out; have dm := nn_ I G; have dn := nn_ W X; have b7 := box3_ E.out; have dp := nn_ J L; have b8 := box3_ A.out
        go_wp2
        refine bodyPost_ret (results_ct rfl _ _ Y 23 #[.int .i64 0, .int .i64 0, .int .i64 0] (0, 0) _ rfl (bq_ A.out) Tryz.underlying23 rfl (by kernel_rfl)) rfl ?_; exact rt_ HB.out
       ·
        have ab : decide (a0_0 < a1_2) = false := df_ ao; clear ao; (first | rw [ab] | (simp only [i64_w, i32_w]; rw [ab]) | skip)
        have dq := nn_ a8 a7; have dr := nn_ a1 a2; have ds := nn_ Z a0; have dt := nn_ a9 aa; have b9 := box9_ D.out; have du := nn_ M O; have dw := nn_ P T; have dx := nn_ a3 a4; have ba := box3_ B.out; refine Aside0.out ?_
        replace H := ic_ H; obtain ⟨ap, H⟩ | ⟨ap, H⟩ := H
        ·
         have aI : decide (a0_1 < a1_2) = true := dt_ ap; clear ap; simp only [Option.some.injEq, Prod.mk.injEq] at H; obtain ⟨rfl, rfl, rfl, rfl⟩ := H; refine ⟨?_⟩
         have dy := nn_ I G; have dz := nn_ W X; have bb := box3_ E.out; have dA := nn_ J L; have bc := box3_ A.out
         go_wp2
         refine bodyPost_ret (results_ct rfl _ _ Y 23 #[.int .i64 0, .int .i64 0, .int .i64 0] (0, 0) _ rfl (bq_ A.out) Tryz.underlying23 rfl (by kernel_rfl)) rfl ?_; exact rt_ HB.out
        ·
         have aI : decide (a0_1 < a1_2) = false := df_ ap; clear ap
         obtain ⟨bd, H⟩ := in_ H; have be : (a1_3 == 0) = false := eq0_ bd; have bf : (a1_3 != 0) = true := ne1_ bd; have H' := Aside0.mk H; clear H; refine ⟨?_⟩
         have dC := nn_ L J; have dD := nn_ X W; have bg := box3_ U.out
         go_wp2
         go_meet
         case rel => exact ⟨_, (0), (0), (0), (wrap64 ((wrap64 (Int.tdiv (wrap64 (a0_0 - a1_2)) a1_3)) + 1)), (wrap64 ((wrap64 (Int.tdiv (wrap64 (a0_1 - a1_2)) a1_3)) + 1)), H', ⟨by have := bk.out; first | omega | exact Nat.le_refl _⟩, ⟨bf_ B.out⟩, ⟨bf_ D.out⟩, ⟨bf_ A.out⟩, ⟨bf_ E.out⟩, ⟨bq_ U.out⟩, ⟨be_ HB.out⟩⟩
      ·
       replace aH := fb_ aH; subst aH; replace H := if0_ H
       have H' := Aside0.mk H; clear H
       go_wp2
       go_meet
       case rel => exact ⟨_, (0), (0), (0), (a0_0), (a0_1), H', ⟨by have := bk.out; first | omega | exact Nat.le_refl _⟩, ⟨bf_ B.out⟩, ⟨bf_ D.out⟩, ⟨bf_ A.out⟩, ⟨bf_ E.out⟩, ⟨bq_ U.out⟩, ⟨be_ HB.out⟩⟩
     case rest =>
      clear aG; (try clear c1); (try clear c2); (try clear p2); (try clear c3); (try clear c4); (try clear c5); (try clear c6); (try clear p6); (try clear c7); (try clear c8); (try clear c9); (try clear c10); (try clear c13); (try clear c15); (try clear c16); (try clear c17); (try clear c20); (try clear c21); (try clear c23); (try clear c24); (try clear c25); (try clear c26); (try clear c28); (try clear c29); (try clear c30); (try clear c31); (try clear c33); (try clear c34); (try clear c38); (try clear c40); (try clear c41); (try clear c42); (try clear c45); (try clear c46); (try clear c49); (try clear c50); (try clear c51); (try clear c52); (try clear aH); (try clear ao); (try clear ab); (try clear c56); (try clear c57); (try clear c58); (try clear c59); (try clear c61); (try clear c62); (try clear c63); (try clear p64); (try clear c65); (try clear c66); (try clear c68); (try clear ap); (try clear aI); (try clear c71); (try clear c72); (try clear c73); (try clear c74); (try clear c76); (try clear c77); (try clear c78); (try clear c80); (try clear c81); (try clear c83); (try clear bd); (try clear be); (try clear bf); (try clear c86); (try clear c87); (try clear c88); (try clear c89); (try clear c91); (try clear c92); (try clear c93); (try clear c95); (try clear c96); (try clear aC); (try clear aD); (try clear aE); (try clear hcz26); (try clear b0); (try clear b1); (try clear aF); (try clear b2); (try clear b4); (try clear b5); (try clear b6); (try clear b7); (try clear b8); (try clear b9); (try clear ba); (try clear bb); (try clear bc); (try clear hcz90); (try clear hcz94); (try clear bg); (try clear p2); obtain ⟨kq, ac, ad, ae, a5, a6, HA, dH, B, D, A, E, U, HB⟩ := hcut
      cases kq with
      | zero => exact absurd HA.out (by simp [spec_OutShape.j1])
      | succ kj38 =>
       have H := HA.out; clear HA; simp only [spec_OutShape.j1] at H
       have br := nn_ a8 a7; have bs := nn_ a1 a2; have bu := nn_ Z a0; have bv := nn_ a9 aa; have bw := box9_ D.out; refine Aside0.out ?_
       replace H := ic_ H; obtain ⟨aq, H⟩ | ⟨aq, H⟩ := H
       ·
        have bh : (a1_0 == 0) = true := eq1_ aq; have bi : (a1_0 != 0) = false := ne0_ aq; clear aq; obtain ⟨aW, bn, H⟩ := bo_ H; (try dsimp only at H)
        refine ⟨?_⟩
        try go_wp2
        replace B := Aside0.mk (blk_drew B.out); replace D := Aside0.mk (blk_drew D.out); replace A := Aside0.mk (blk_drew A.out); replace E := Aside0.mk (blk_drew E.out); replace U := Aside0.mk (blk_drew U.out); replace HB := Aside0.mk (below_drew1 HB.out); refine Aside0.out ?_
        replace H := ic_ H; obtain ⟨aj, H⟩ | ⟨aj, H⟩ := H
        ·
         have aJ : decide (64 < aW) = true := dt_ aj; clear aj; simp only [Option.some.injEq, Prod.mk.injEq] at H; obtain ⟨rfl, rfl, rfl, rfl⟩ := H; refine ⟨?_⟩
         refine sta1_ 14 (cb_ B) (fun hHeld => ?_); refine with_tabW spec_OutShape.tab15 spec_OutShape.bits15 (fun HT_ HW_ => ?_)
         generalize wc.drew = dI at B D A E U HB hHeld ⊢
         refine tv_ 0 14 1 ?_; refine one_ (i := 1) (N := some 71) (bl_ 14 3) rfl rfl (one_of HT_.out (by kernel_rfl)) (by decide) (fun K hK => ?_); refine gv_ Tryz.func60 ?_
         (with_reducible refine (spec_SizeOf.calls bn.out).mono ?_)
         rintro e dJ ⟨rfl, hb⟩; refine ⟨_, rfl, ?_⟩; replace B := bb_ B hb; replace D := bb_ D hb; replace A := bb_ A hb; replace E := bb_ E hb; replace U := bb_ U hb; replace HB := hb_ HB hb; (try clear hb); refine hK.out _ _ (cb_ B) (fun hHeld => ?_); clear hK K; refine nm_ 71 (h := ?_); refine pv_ 2 14 7 ?_; refine pv_ 3 14 15 ?_; refine pw_ 4 14 31 ?_; refine pw_ 5 14 63 ?_; refine pw_ 6 14 127 ?_; refine pw_ 7 14 255 ?_; refine pw_ 8 14 511 ?_; refine pw_ 9 14 1023 ?_; refine pw_ 10 14 2047 ?_; refine pw_ 11 14 4095 ?_; refine pw_ 12 14 8191 ?_; refine pv_ 13 14 16383 ?_; refine done_ (done_of HT_.out (by kernel_rfl)) ?_; have bx := nn_ T P; have bz := nn_ I G; have bA := nn_ W X; have bB := box3_ E.out; have bC := nn_ O M; have bD := nn_ J L; have bE := box3_ A.out
         try go_wp2
         refine bodyPost_ret (results_ct rfl _ _ Y 23 #[.int .i64 0, .int .i64 0, .int .i64 0] (0, 0) _ rfl (bq_ A.out) Tryz.underlying23 rfl (by kernel_rfl)) rfl ?_; exact rt_ HB.out
        ·
         have aJ : decide (64 < aW) = false := df_ aj; clear aj; obtain ⟨an, bo, H⟩ := bo_ H; (try dsimp only at H)
         refine ⟨?_⟩; refine sta2_ 14 (cb_ B) (cb_ D) (fun hHeld => ?_); refine with_tabW spec_OutShape.tab15 spec_OutShape.bits15 (fun HT_ HW_ => ?_)
         generalize wc.drew = dK at B D A E U HB hHeld ⊢
         refine tv_ 0 14 1 ?_; refine one_ (i := 1) (N := some 71) (bl_ 14 3) rfl rfl (one_of HT_.out (by kernel_rfl)) (by decide) (fun K hK => ?_); refine gv_ Tryz.func60 ?_
         (with_reducible refine (spec_SizeOf.calls bn.out).mono ?_)
         rintro e dL ⟨rfl, hb⟩; refine ⟨_, rfl, ?_⟩; replace B := bb_ B hb; replace D := bb_ D hb; replace A := bb_ A hb; replace E := bb_ E hb; replace U := bb_ U hb; replace HB := hb_ HB hb; (try clear hb); refine hK.out _ _ ⟨cb_ B, cb_ D⟩ (fun hHeld => ?_); clear hK K; refine nm_ 71 (h := ?_); refine pv_ 2 14 7 ?_; refine pv_ 3 14 15 ?_; refine pv_ 4 14 31 ?_; refine pv_ 7 14 159 ?_; refine tv_ 5 14 191 ?_; refine pv_ 6 14 255 ?_; refine tv_ 8 14 511 ?_; refine tv_ 9 14 1023 ?_; refine one_ (i := 10) (N := some 80) (bl_ 14 2047) rfl rfl (one_of HT_.out (by kernel_rfl)) (by decide) (fun K hK => ?_); refine gv_ Tryz.func60 ?_
         (with_reducible refine (spec_SizeOf.calls bo.out).mono ?_)
         rintro e dM ⟨rfl, hb⟩; refine ⟨_, rfl, ?_⟩; replace B := bb_ B hb; replace D := bb_ D hb; replace A := bb_ A hb; replace E := bb_ E hb; replace U := bb_ U hb; replace HB := hb_ HB hb; (try clear hb); refine hK.out _ _ ⟨cb_ B, cb_ D⟩ (fun hHeld => ?_); clear hK K; refine nm_ 80 (h := ?_); refine pv_ 11 14 4095 ?_; refine pv_ 12 14 8191 ?_; refine pv_ 13 14 16383 ?_; refine done_ (done_of HT_.out (by kernel_rfl)) ?_; refine Aside0.out ?_
         replace H := ic_ H; obtain ⟨af, H⟩ | ⟨af, H⟩ := H
         ·
          have aK : ((l1_7.length : Int) == (wrap64 (a1_1 * an))) = true := eq1_ af; have aL : ((l1_7.length : Int) != (wrap64 (a1_1 * an))) = false := ne0_ af; clear af; simp only [Option.some.injEq, Prod.mk.injEq] at H; obtain ⟨rfl, rfl, rfl, rfl⟩ := H; refine ⟨?_⟩
          have bF := box9_ D.out; have bG := nn_ O M; have bH := nn_ G I; have bI := nn_ J L; have bJ := box3_ A.out
          try go_wp2
          refine bodyPost_ret (results_ct rfl _ _ Y 23 #[.int .i64 1, .int .i64 1, .int .i64 a1_1] (0, 0) _ rfl (bq_ A.out) Tryz.underlying23 rfl (by kernel_rfl)) rfl ?_; exact rt_ HB.out
         ·
          have aK : ((l1_7.length : Int) == (wrap64 (a1_1 * an))) = false := eq0_ af; have aL : ((l1_7.length : Int) != (wrap64 (a1_1 * an))) = true := ne1_ af; simp only [Option.some.injEq, Prod.mk.injEq] at H; obtain ⟨rfl, rfl, rfl, rfl⟩ := H; refine ⟨?_⟩
          have bK := nn_ T P; have bL := nn_ I G; have bM := nn_ W X; have bN := box3_ E.out; have bO := nn_ O M; have bP := nn_ J L; have bQ := box3_ A.out
          try go_wp2
          refine bodyPost_ret (results_ct rfl _ _ Y 23 #[.int .i64 0, .int .i64 0, .int .i64 0] (0, 0) _ rfl (bq_ A.out) Tryz.underlying23 rfl (by kernel_rfl)) rfl ?_; exact rt_ HB.out
       ·
        have bh : (a1_0 == 0) = false := eq0_ aq; have bi : (a1_0 != 0) = true := ne1_ aq
        replace H := ic_ H; obtain ⟨ag, H⟩ | ⟨ag, H⟩ := H
        ·
         have aM : (a1_0 == 1) = true := eq1_ ag; have aN : (a1_0 != 1) = false := ne0_ ag; clear ag
         refine ⟨?_⟩; have bR := nn_ M O; have bS := nn_ P T; have bT := nn_ a3 a4; have bU := box3_ B.out; refine Aside0.out ?_
         replace H := ic_ H; obtain ⟨ah, H⟩ | ⟨ah, H⟩ := H
         ·
          have aO : ((l1_7.length : Int) == (wrap64 ((wrap64 ((wrap64 (a1_1 * a1_2)) * a1_2)) * a0_2))) = true := eq1_ ah; have aP : ((l1_7.length : Int) != (wrap64 ((wrap64 ((wrap64 (a1_1 * a1_2)) * a1_2)) * a0_2))) = false := ne0_ ah; clear ah
          replace H := ic_ H; obtain ⟨ak, H⟩ | ⟨ak, H⟩ := H
          ·
           have aQ : decide (600 < (l1_7.length : Int)) = true := dt_ ak; have aR : decide (600 < l1_7.length) = true := decide_eq_true (by omega); clear ak; simp only [Option.some.injEq, Prod.mk.injEq] at H; obtain ⟨rfl, rfl, rfl, rfl⟩ := H; refine ⟨?_⟩
           have bV := nn_ I G; have bW := nn_ W X; have bX := box3_ E.out; have bY := nn_ J L; have bZ := box3_ A.out
           go_wp2
           refine bodyPost_ret (results_ct rfl _ _ Y 23 #[.int .i64 0, .int .i64 0, .int .i64 0] (0, 0) _ rfl (bq_ A.out) Tryz.underlying23 rfl (by kernel_rfl)) rfl ?_; exact rt_ HB.out
          ·
           have aQ : decide (600 < (l1_7.length : Int)) = false := df_ ak; have aR : decide (600 < l1_7.length) = false := decide_eq_false (by omega); clear ak; simp only [Option.some.injEq, Prod.mk.injEq] at H; obtain ⟨rfl, rfl, rfl, rfl⟩ := H; refine ⟨?_⟩
           have c0 := nn_ L J; have ca := nn_ X W; have cb := box3_ U.out; have cc := nn_ G I; have cd := box3_ A.out
           go_wp2
           refine bodyPost_ret (results_ct rfl _ _ Y 23 #[.int .i64 a5, .int .i64 a6, .int .i64 a1_1] (0, 0) _ rfl (bq_ A.out) Tryz.underlying23 rfl (by kernel_rfl)) rfl ?_; exact rt_ HB.out
         ·
          have aO : ((l1_7.length : Int) == (wrap64 ((wrap64 ((wrap64 (a1_1 * a1_2)) * a1_2)) * a0_2))) = false := eq0_ ah; have aP : ((l1_7.length : Int) != (wrap64 ((wrap64 ((wrap64 (a1_1 * a1_2)) * a1_2)) * a0_2))) = true := ne1_ ah; simp only [Option.some.injEq, Prod.mk.injEq] at H; obtain ⟨rfl, rfl, rfl, rfl⟩ := H; refine ⟨?_⟩
          have ce := nn_ I G; have cf := nn_ W X; have cg := box3_ E.out; have ch := nn_ J L; have ci := box3_ A.out
          go_wp2
          refine bodyPost_ret (results_ct rfl _ _ Y 23 #[.int .i64 0, .int .i64 0, .int .i64 0] (0, 0) _ rfl (bq_ A.out) Tryz.underlying23 rfl (by kernel_rfl)) rfl ?_; exact rt_ HB.out
        ·
         have aM : (a1_0 == 1) = false := eq0_ ag; have aN : (a1_0 != 1) = true := ne1_ ag
         replace H := ic_ H; obtain ⟨ai, H⟩ | ⟨ai, H⟩ := H
         ·
          have aS : (a1_0 == 5) = true := eq1_ ai; have aT : (a1_0 != 5) = false := ne0_ ai; clear ai; obtain ⟨aX, aY, H⟩ := bo_ H; (try dsimp only at H)
          refine ⟨?_⟩; have cj := nn_ M O; have ck := nn_ P T; have cl := nn_ a3 a4; have cm := box3_ B.out; refine Aside0.out ?_
          replace H := ic_ H; obtain ⟨al, H⟩ | ⟨al, H⟩ := H
          ·
           have aU : decide (8 < aX) = true := dt_ al; clear al; simp only [Option.some.injEq, Prod.mk.injEq] at H; obtain ⟨rfl, rfl, rfl, rfl⟩ := H; refine ⟨?_⟩
           go_wp2_with (first | ((with_reducible refine gc_ 60 ?_); refine gw_ (some 118) Tryz.func60 ?_; (with_reducible refine (spec_SizeOf.calls aY.out).mono ?_); rintro e dN ⟨rfl, hb⟩; refine ⟨_, rfl, ?_⟩; replace B := bb_ B hb; replace D := bb_ D hb; replace A := bb_ A hb; replace E := bb_ E hb; replace U := bb_ U hb; replace HB := hb_ HB hb; (try clear hb); have cn := nn_ I G; have co := nn_ W X; have cp := box3_ E.out; have cq := nn_ J L; have cr := box3_ A.out))
           refine bodyPost_ret (results_ct rfl _ _ Y 23 #[.int .i64 0, .int .i64 0, .int .i64 0] (0, 0) _ rfl (bq_ A.out) Tryz.underlying23 rfl (by kernel_rfl)) rfl ?_; exact rt_ HB.out
          ·
           have aU : decide (8 < aX) = false := df_ al; clear al; obtain ⟨bp, bq, H⟩ := bo_ H; (try dsimp only at H); simp only [Option.some.injEq, Prod.mk.injEq] at H; obtain ⟨rfl, rfl, rfl, rfl⟩ := H; refine ⟨?_⟩
           go_wp2_with (first | ((with_reducible refine gc_ 60 ?_); refine gw_ (some 118) Tryz.func60 ?_; (with_reducible refine (spec_SizeOf.calls aY.out).mono ?_); rintro e dO ⟨rfl, hb⟩; refine ⟨_, rfl, ?_⟩; replace B := bb_ B hb; replace D := bb_ D hb; replace A := bb_ A hb; replace E := bb_ E hb; replace U := bb_ U hb; replace HB := hb_ HB hb; (try clear hb); have cs := box3_ B.out) | ((with_reducible refine gc_ 60 ?_); refine gw_ (some 122) Tryz.func60 ?_; (with_reducible refine (spec_SizeOf.calls bq.out).mono ?_); rintro e dP ⟨rfl, hb⟩; refine ⟨_, rfl, ?_⟩; replace B := bb_ B hb; replace D := bb_ D hb; replace A := bb_ A hb; replace E := bb_ E hb; replace U := bb_ U hb; replace HB := hb_ HB hb; (try clear hb); have ct := nn_ G I; have cu := nn_ J L; have cv := box3_ A.out))
           refine bodyPost_ret (results_ct rfl _ _ Y 23 #[.int .i64 1, .int .i64 1, .int .i64 bp] (0, 0) _ rfl (bq_ A.out) Tryz.underlying23 rfl (by kernel_rfl)) rfl ?_; exact rt_ HB.out
         ·
          have aS : (a1_0 == 5) = false := eq0_ ai; have aT : (a1_0 != 5) = true := ne1_ ai; simp only [Option.some.injEq, Prod.mk.injEq] at H; obtain ⟨rfl, rfl, rfl, rfl⟩ := H; refine ⟨?_⟩
          have cw := nn_ a4 a3; have cx := nn_ L J; have cy := nn_ X W; have cz := box3_ U.out; have cA := nn_ O M; have cC := nn_ G I; have cD := box3_ A.out
          go_wp2
          refine bodyPost_ret (results_ct rfl _ _ Y 23 #[.int .i64 a5, .int .i64 a6, .int .i64 a0_2] (0, 0) _ rfl (bq_ A.out) Tryz.underlying23 rfl (by kernel_rfl)) rfl ?_; exact rt_ HB.out
    ·
     simp only [Option.some.injEq, Prod.mk.injEq] at H; obtain ⟨rfl, rfl, rfl, rfl⟩ := H; refine ⟨?_⟩
     go_wp2_with (first | ((with_reducible refine gc_ 62 ?_); refine gw_ (some 28) Tryz.func62 ?_; (with_reducible refine (spec_l03Plain.calls ?_ ?_ ?_ ?_ bm.out).mono ?_); exact cu_ ar.out HB.out; exact au.out; exact cu_ av.out HB.out; exact aw.out; rintro e dQ ⟨rfl, hb⟩; refine ⟨_, rfl, ?_⟩; replace B := bb_ B hb; replace D := bb_ D hb; replace A := bb_ A hb; replace E := bb_ E hb; replace HB := hb_ HB hb; (try clear hb); have cE := nn_ T P; have cF := nn_ I G; have cG := box3_ E.out; have cH := nn_ O M; have cI := box3_ A.out))
     refine bodyPost_ret (results_ct rfl _ _ Y 23 #[.int .i64 0, .int .i64 0, .int .i64 0] (0, 0) _ rfl (bq_ A.out) Tryz.underlying23 rfl (by kernel_rfl)) rfl ?_; exact rt_ HB.out

end Go.Proofs.YtgolleldpmkkoaaGreatDoor.QFnExactPlanText
