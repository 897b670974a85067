/- The Go functions that the statement FnPlanned reaches, as Lean functions, each with a proof that the call does what its function says; laid by a program of this session. No condition. -/
import Derived.Test.YtdniejjhkkepcaaDoorQFnPlannedx0
import Derived.Test.YtdniejjhkkepcaaDoorQFnPlannedx4
namespace Go.Proofs.YtdniejjhkkepcaaDoor.QFnPlanned
open Go.RowKit Go.Proofs.YtdniejjhkkepcaaDoorW.PrintWords Go.Proofs.YtdniejjhkkepcaaDoorW.PrintLast Go.Proofs.YtdniejjhkkepcaaDoorW.PrintMore
attribute [local go_sem] max2_int min2_int max_two min_two max_three min_three max_four min_four   -- for this text's walks alone
set_option linter.unusedVariables false
set_option linter.unusedSimpArgs false

def impl_SlotsText.l0 : Nat → List ByteArray → List (S49) → Int → Int → Option (ByteArray)
 | 0, _, _, _, _ => none
 | k + 1, x3, x7, x8, x9 => if x9 < x8 then (if 0 ≤ x9 then (if x9 < (x7.length : Int) then ((strconv_Itoa.f ((rd_T49 x7 x9).f0)).bind fun t250 => (if t250.size + 1 ≤ 9223372036854775807 then ((strconv_Itoa.f ((rd_T49 x7 x9).f1)).bind fun t251 => (if (t250 ++ (⟨#[64]⟩ : ByteArray)).size + t251.size ≤ 9223372036854775807 then (if ((t250 ++ (⟨#[64]⟩ : ByteArray)) ++ t251).size + 1 ≤ 9223372036854775807 then ((strconv_Itoa.f ((rd_T49 x7 x9).f2)).bind fun t252 => (if (((t250 ++ (⟨#[64]⟩ : ByteArray)) ++ t251) ++ (⟨#[58]⟩ : ByteArray)).size + t252.size ≤ 9223372036854775807 then (if ((((t250 ++ (⟨#[64]⟩ : ByteArray)) ++ t251) ++ (⟨#[58]⟩ : ByteArray)) ++ t252).size + 1 ≤ 9223372036854775807 then ((strconv_Itoa.f ((rd_T49 x7 x9).f3)).bind fun t253 => (if (((((t250 ++ (⟨#[64]⟩ : ByteArray)) ++ t251) ++ (⟨#[58]⟩ : ByteArray)) ++ t252) ++ (⟨#[45]⟩ : ByteArray)).size + t253.size ≤ 9223372036854775807 then (if x3.length < 8796093022208 then (impl_SlotsText.l0 k (x3 ++ [(((((t250 ++ (⟨#[64]⟩ : ByteArray)) ++ t251) ++ (⟨#[58]⟩ : ByteArray)) ++ t252) ++ (⟨#[45]⟩ : ByteArray)) ++ t253]) x7 x8 (wrap64 (x9 + 1))) else (none)) else (none))) else (none)) else (none))) else (none)) else (none))) else (none))) else (none)) else (none)) else ((strings_Join.f x3 (⟨#[32]⟩ : ByteArray)).bind fun t247 => (some t247))
def impl_SlotsText.f (k : Nat) (l0 : List (S49)) : Option (ByteArray) := impl_SlotsText.l0 k (([] : List ByteArray)) l0 (l0.length : Int) 0
theorem impl_SlotsText.mono_l : ∀ k, (∀ y0 y1 y2 y3, LeO (impl_SlotsText.l0 k y0 y1 y2 y3) (impl_SlotsText.l0 (k + 1) y0 y1 y2 y3))
 | 0 => fun _ _ _ _ r h => by simp [impl_SlotsText.l0] at h
 | k + 1 => by
  have ih0 := impl_SlotsText.mono_l k
  ·
   intro y0 y1 y2 y3
   unfold impl_SlotsText.l0
   repeat' first
   | (with_reducible exact ih0 _ _ _ _)
   | (with_reducible exact LeO.refl _)
   | (with_reducible exact LeO.none _)
   | (with_reducible refine LeO.ite ?_ ?_)
   | (with_reducible refine LeO.bind ?_ (fun _ => ?_))
   | exact ih0 _ _ _ _
   | exact LeO.none _
   | refine LeO.ite ?_ ?_
   | refine LeO.bind ?_ (fun _ => ?_)
theorem impl_SlotsText.mono : ∀ a0 k, LeO (impl_SlotsText.f k a0) (impl_SlotsText.f (k + 1) a0) := by
 intro a0 k
 have ih0 := impl_SlotsText.mono_l k
 unfold impl_SlotsText.f
 repeat' first
   | (with_reducible exact ih0 _ _ _ _)
   | (with_reducible exact LeO.refl _)
   | (with_reducible exact LeO.none _)
   | (with_reducible refine LeO.ite ?_ ?_)
   | (with_reducible refine LeO.bind ?_ (fun _ => ?_))
   | exact ih0 _ _ _ _
   | exact LeO.none _
   | refine LeO.ite ?_ ?_
   | refine LeO.bind ?_ (fun _ => ?_)
def impl_SlotsText.T5 : Bool × List (List Nat × List Nat) := (true, [([], []), ([], []), ([1], [1]), ([2], [2]), ([3], [3]), ([], []), ([5], [5]), ([6, 3], [6]), ([4, 7], [4, 7]), ([8], [8]), ([], []), ([10], [10]), ([11, 7], [11]), ([9, 12], [9, 12]), ([13], [13]), ([], []), ([15], [15]), ([16, 12], [16]), ([14, 17], [14, 17]), ([18], [18]), ([0, 19, 17], [0, 19]), ([20, 20, 0, 1, 2, 3, 4, 5, 6, 7, 8, 9, 10, 11, 12, 13, 14, 15, 16, 17, 18, 19, 20], [0, 20])])
def impl_SlotsText.B5 : List Nat := [0, 0, 2, 6, 14, 0, 32, 110, 254, 510, 0, 1024, 3310, 8190, 16382, 0, 32768, 105710, 262142, 524286, 1048575, 2097151]
theorem impl_SlotsText.tab5 : rtab .any (opsOf Tryd.f9 5) = impl_SlotsText.T5 := by kernel_rfl
theorem impl_SlotsText.bits5 : waitsOk impl_SlotsText.T5.2 impl_SlotsText.B5 = true := by kernel_rfl
set_option maxHeartbeats 8000000 in
set_option maxRecDepth 100000 in
theorem impl_SlotsText.calls (k : Nat) (A0 : Option Addr) (c0 : Nat) (l0 : List (S49)) (r : ByteArray) (w : World) (hr0 : Kd.C k49 w A0 l0.length l0) (hc0 : l0.length ≤ c0) (h : impl_SlotsText.f k l0 = some r) (tb_ : Tab w := by exact Tab.on HTab_.out (by repeat (first | exact HB.out | apply below_alloc | apply pw_below_drewN | apply below_drew1 | (refine below_cell_ ?_ (by apply Aside0.out; with_reducible assumption))))) :
  Calls Tryd.prog 9 #[.slice A0 l0.length c0] w fun e w' => e = .returned (.string r) ∧ Below w.heap.size w w' := by
 have HTab_ := Aside0.mk tb_
 clear tb_
 have hu49 := Tryd.underlying49
 have HR0 := Aside0.mk hr0
 have HC0 := Aside0.mk hc0
 clear hr0 hc0
 have HB := Aside0.mk (Below.refl w.heap.size w)
 have H : (impl_SlotsText.l0 k (([] : List ByteArray)) l0 (l0.length : Int) 0) = some r := h
 clear h
 obtain ⟨y244, hy244⟩ : ∃ y_ : List ByteArray, y_ = (([] : List ByteArray)) := ⟨_, rfl⟩
 replace H : (impl_SlotsText.l0 k y244 l0 (l0.length : Int) 0) = some r := by first | (rw [hy244]; with_reducible exact H) | (have H2_ := (Option.bind_some _ _).symm.trans H; rw [hy244]; with_reducible exact H2_) | (have H2_ := (Option.bind_some _ _).symm.trans H; with_reducible exact H2_) | with_reducible exact H | (rw [hy244]; exact H) | exact H
 have Ny244 := Aside0.mk hy244
 clear hy244
 have H' := Aside0.mk H
 clear H
 go_enter Tryd.func9, Tryd.ntmps9
 go_wp2_with (first | ((with_reducible refine gate_dst (N := 6) rfl ?_); refine Kd.R_lit Kd.string _ 9 ?hg (N := 6) ?hd (xs := ([] : List ByteArray)) (inner := []) (ok := fun _ => True) (okp := fun _ => True) ?hr ?hp (fun _ hk => hk) trivial (Below.refl _ _) (Nat.le_refl _) (by simp) ?_; (case hd => rfl); (case hg => rfl); (case hr => first | (go_simp; done) | (go_simp; rfl)); (case hp => exact (Reps.none _ _)); intro v245 w2 ho3 hb hg_ hnew_; clear hg_ hnew_; (first | rw [← Ny244.out] at ho3 | (simp only [Int.reduceToNat] at ho3; rw [← Ny244.out] at ho3)); have n0_ := Aside0.mk (Kd.R_lower ho3 (below_size (be_ HB.out))); have n1_ := Aside0.mk (below_step (be_ HB.out) hb); clear HB; have HO246 := n0_; have HB := n1_; clear n0_ n1_; clear hb ho3))
 (try simp only [Act.put, List.setIfInBounds_toArray, List.set_cons_zero, List.set_cons_succ])
 go_loopg [3, 9] k (fun kq v3 v9 w' => ∃ (x3_1 : List ByteArray) (x9_1 : Int), v9 = .int .i64 x9_1 ∧ Aside0 (impl_SlotsText.l0 kq x3_1 l0 (l0.length : Int) x9_1 = some r) ∧ Aside0 (kq ≤ k) ∧ Aside0 (Kd.R Kd.string 9 w' w.heap.size (fun _ => True) v3 x3_1) ∧ Aside0 (Below w.heap.size w w'))
 case atStart => exact ⟨(y244), (0), (by first | rfl | (simp; done) | (simp [*]; done)), H', ⟨Nat.le_refl _⟩, ⟨by (with_reducible repeat (first | apply Kd.R_alloc | apply Kd.R_drewN | apply Kd.R_drew)); exact HO246.out⟩, ⟨be_ HB.out⟩⟩
 case round =>
  clear H'
  try clear p2
  obtain ⟨x3_1, x9_1, rfl, HA, HK1, HO_3, HB⟩ := hrel
  cases gk with
  | zero => exact absurd HA.out (by simp [impl_SlotsText.l0])
  | succ k1 =>
   have H := HA.out
   clear HA
   simp only [impl_SlotsText.l0] at H
   by_cases c4 : x9_1 < (l0.length : Int)
   ·
    rw [if_pos c4] at H
    have c4b0 : decide (x9_1 < (l0.length : Int)) = true := decide_eq_true c4
    clear c4
    by_cases c5 : 0 ≤ x9_1
    ·
     rw [if_pos c5] at H
     have c5b0 : decide (0 ≤ x9_1) = true := decide_eq_true c5
     clear c5
     by_cases c6 : x9_1 < (l0.length : Int)
     ·
      rw [if_pos c6] at H
      have c6b0 : decide (x9_1 < (l0.length : Int)) = true := decide_eq_true c6
      clear c6
      replace H := Option.bind_eq_some_iff.mp H
      obtain ⟨t250, A70, H⟩ := H
      replace H : (if t250.size + 1 ≤ 9223372036854775807 then ((strconv_Itoa.f ((rd_T49 l0 x9_1).f1)).bind fun t251 => (if (t250 ++ (⟨#[64]⟩ : ByteArray)).size + t251.size ≤ 9223372036854775807 then (if ((t250 ++ (⟨#[64]⟩ : ByteArray)) ++ t251).size + 1 ≤ 9223372036854775807 then ((strconv_Itoa.f ((rd_T49 l0 x9_1).f2)).bind fun t252 => (if (((t250 ++ (⟨#[64]⟩ : ByteArray)) ++ t251) ++ (⟨#[58]⟩ : ByteArray)).size + t252.size ≤ 9223372036854775807 then (if ((((t250 ++ (⟨#[64]⟩ : ByteArray)) ++ t251) ++ (⟨#[58]⟩ : ByteArray)) ++ t252).size + 1 ≤ 9223372036854775807 then ((strconv_Itoa.f ((rd_T49 l0 x9_1).f3)).bind fun t253 => (if (((((t250 ++ (⟨#[64]⟩ : ByteArray)) ++ t251) ++ (⟨#[58]⟩ : ByteArray)) ++ t252) ++ (⟨#[45]⟩ : ByteArray)).size + t253.size ≤ 9223372036854775807 then (if x3_1.length < 8796093022208 then (impl_SlotsText.l0 k1 (x3_1 ++ [(((((t250 ++ (⟨#[64]⟩ : ByteArray)) ++ t251) ++ (⟨#[58]⟩ : ByteArray)) ++ t252) ++ (⟨#[45]⟩ : ByteArray)) ++ t253]) l0 (l0.length : Int) (wrap64 (x9_1 + 1))) else (none)) else (none))) else (none)) else (none))) else (none)) else (none))) else (none)) = some r := H
      have A7 := Aside0.mk A70
      clear A70
      by_cases c8 : t250.size + 1 ≤ 9223372036854775807
      ·
       rw [if_pos c8] at H
       have c8b0 := eq_true c8
       have c8b1 : decide (t250.size + 1 ≤ 9223372036854775807) = true := decide_eq_true c8
       try have c8b2 : (9223372036854775807 < t250.size + 1) = False := eq_false (Nat.not_lt.2 c8)
       replace H := Option.bind_eq_some_iff.mp H
       obtain ⟨t251, A90, H⟩ := H
       replace H : (if (t250 ++ (⟨#[64]⟩ : ByteArray)).size + t251.size ≤ 9223372036854775807 then (if ((t250 ++ (⟨#[64]⟩ : ByteArray)) ++ t251).size + 1 ≤ 9223372036854775807 then ((strconv_Itoa.f ((rd_T49 l0 x9_1).f2)).bind fun t252 => (if (((t250 ++ (⟨#[64]⟩ : ByteArray)) ++ t251) ++ (⟨#[58]⟩ : ByteArray)).size + t252.size ≤ 9223372036854775807 then (if ((((t250 ++ (⟨#[64]⟩ : ByteArray)) ++ t251) ++ (⟨#[58]⟩ : ByteArray)) ++ t252).size + 1 ≤ 9223372036854775807 then ((strconv_Itoa.f ((rd_T49 l0 x9_1).f3)).bind fun t253 => (if (((((t250 ++ (⟨#[64]⟩ : ByteArray)) ++ t251) ++ (⟨#[58]⟩ : ByteArray)) ++ t252) ++ (⟨#[45]⟩ : ByteArray)).size + t253.size ≤ 9223372036854775807 then (if x3_1.length < 8796093022208 then (impl_SlotsText.l0 k1 (x3_1 ++ [(((((t250 ++ (⟨#[64]⟩ : ByteArray)) ++ t251) ++ (⟨#[58]⟩ : ByteArray)) ++ t252) ++ (⟨#[45]⟩ : ByteArray)) ++ t253]) l0 (l0.length : Int) (wrap64 (x9_1 + 1))) else (none)) else (none))) else (none)) else (none))) else (none)) else (none)) = some r := H
       have A9 := Aside0.mk A90
       clear A90
       by_cases c10 : (t250 ++ (⟨#[64]⟩ : ByteArray)).size + t251.size ≤ 9223372036854775807
       ·
        rw [if_pos c10] at H
        have c10b0 := eq_true c10
        have c10b1 : decide ((t250 ++ (⟨#[64]⟩ : ByteArray)).size + t251.size ≤ 9223372036854775807) = true := decide_eq_true c10
        try have c10b2 : (9223372036854775807 < (t250 ++ (⟨#[64]⟩ : ByteArray)).size + t251.size) = False := eq_false (Nat.not_lt.2 c10)
        try have c10b3 : (9223372036854775807 < t250.size + 1 + t251.size) = False := by have e_ : t250.size + 1 + t251.size = (t250 ++ (⟨#[64]⟩ : ByteArray)).size + t251.size := (by simp only [ByteArray.size_append] <;> rfl); rw [e_]; exact c10b2
        by_cases c11 : ((t250 ++ (⟨#[64]⟩ : ByteArray)) ++ t251).size + 1 ≤ 9223372036854775807
        ·
         rw [if_pos c11] at H
         have c11b0 := eq_true c11
         have c11b1 : decide (((t250 ++ (⟨#[64]⟩ : ByteArray)) ++ t251).size + 1 ≤ 9223372036854775807) = true := decide_eq_true c11
         try have c11b2 : (9223372036854775807 < ((t250 ++ (⟨#[64]⟩ : ByteArray)) ++ t251).size + 1) = False := eq_false (Nat.not_lt.2 c11)
         try have c11b3 : (9223372036854775807 < t250.size + 1 + t251.size + 1) = False := by have e_ : t250.size + 1 + t251.size + 1 = ((t250 ++ (⟨#[64]⟩ : ByteArray)) ++ t251).size + 1 := (by simp only [ByteArray.size_append] <;> rfl); rw [e_]; exact c11b2
         replace H := Option.bind_eq_some_iff.mp H
         obtain ⟨t252, A120, H⟩ := H
         replace H : (if (((t250 ++ (⟨#[64]⟩ : ByteArray)) ++ t251) ++ (⟨#[58]⟩ : ByteArray)).size + t252.size ≤ 9223372036854775807 then (if ((((t250 ++ (⟨#[64]⟩ : ByteArray)) ++ t251) ++ (⟨#[58]⟩ : ByteArray)) ++ t252).size + 1 ≤ 9223372036854775807 then ((strconv_Itoa.f ((rd_T49 l0 x9_1).f3)).bind fun t253 => (if (((((t250 ++ (⟨#[64]⟩ : ByteArray)) ++ t251) ++ (⟨#[58]⟩ : ByteArray)) ++ t252) ++ (⟨#[45]⟩ : ByteArray)).size + t253.size ≤ 9223372036854775807 then (if x3_1.length < 8796093022208 then (impl_SlotsText.l0 k1 (x3_1 ++ [(((((t250 ++ (⟨#[64]⟩ : ByteArray)) ++ t251) ++ (⟨#[58]⟩ : ByteArray)) ++ t252) ++ (⟨#[45]⟩ : ByteArray)) ++ t253]) l0 (l0.length : Int) (wrap64 (x9_1 + 1))) else (none)) else (none))) else (none)) else (none)) = some r := H
         have A12 := Aside0.mk A120
         clear A120
         by_cases c13 : (((t250 ++ (⟨#[64]⟩ : ByteArray)) ++ t251) ++ (⟨#[58]⟩ : ByteArray)).size + t252.size ≤ 9223372036854775807
         ·
          rw [if_pos c13] at H
          have c13b0 := eq_true c13
          have c13b1 : decide ((((t250 ++ (⟨#[64]⟩ : ByteArray)) ++ t251) ++ (⟨#[58]⟩ : ByteArray)).size + t252.size ≤ 9223372036854775807) = true := decide_eq_true c13
          try have c13b2 : (9223372036854775807 < (((t250 ++ (⟨#[64]⟩ : ByteArray)) ++ t251) ++ (⟨#[58]⟩ : ByteArray)).size + t252.size) = False := eq_false (Nat.not_lt.2 c13)
          try have c13b3 : (9223372036854775807 < t250.size + 1 + t251.size + 1 + t252.size) = False := by have e_ : t250.size + 1 + t251.size + 1 + t252.size = (((t250 ++ (⟨#[64]⟩ : ByteArray)) ++ t251) ++ (⟨#[58]⟩ : ByteArray)).size + t252.size := (by simp only [ByteArray.size_append] <;> rfl); rw [e_]; exact c13b2
          by_cases c14 : ((((t250 ++ (⟨#[64]⟩ : ByteArray)) ++ t251) ++ (⟨#[58]⟩ : ByteArray)) ++ t252).size + 1 ≤ 9223372036854775807
          ·
           rw [if_pos c14] at H
           have c14b0 := eq_true c14
           have c14b1 : decide (((((t250 ++ (⟨#[64]⟩ : ByteArray)) ++ t251) ++ (⟨#[58]⟩ : ByteArray)) ++ t252).size + 1 ≤ 9223372036854775807) = true := decide_eq_true c14
           try have c14b2 : (9223372036854775807 < ((((t250 ++ (⟨#[64]⟩ : ByteArray)) ++ t251) ++ (⟨#[58]⟩ : ByteArray)) ++ t252).size + 1) = False := eq_false (Nat.not_lt.2 c14)
           try have c14b3 : (9223372036854775807 < t250.size + 1 + t251.size + 1 + t252.size + 1) = False := by have e_ : t250.size + 1 + t251.size + 1 + t252.size + 1 = ((((t250 ++ (⟨#[64]⟩ : ByteArray)) ++ t251) ++ (⟨#[58]⟩ : ByteArray)) ++ t252).size + 1 := (by simp only [ByteArray.size_append] <;> rfl); rw [e_]; exact c14b2
           replace H := Option.bind_eq_some_iff.mp H
           obtain ⟨t253, A150, H⟩ := H
           replace H : (if (((((t250 ++ (⟨#[64]⟩ : ByteArray)) ++ t251) ++ (⟨#[58]⟩ : ByteArray)) ++ t252) ++ (⟨#[45]⟩ : ByteArray)).size + t253.size ≤ 9223372036854775807 then (if x3_1.length < 8796093022208 then (impl_SlotsText.l0 k1 (x3_1 ++ [(((((t250 ++ (⟨#[64]⟩ : ByteArray)) ++ t251) ++ (⟨#[58]⟩ : ByteArray)) ++ t252) ++ (⟨#[45]⟩ : ByteArray)) ++ t253]) l0 (l0.length : Int) (wrap64 (x9_1 + 1))) else (none)) else (none)) = some r := H
           have A15 := Aside0.mk A150
           clear A150
           by_cases c16 : (((((t250 ++ (⟨#[64]⟩ : ByteArray)) ++ t251) ++ (⟨#[58]⟩ : ByteArray)) ++ t252) ++ (⟨#[45]⟩ : ByteArray)).size + t253.size ≤ 9223372036854775807
           ·
            rw [if_pos c16] at H
            have c16b0 := eq_true c16
            have c16b1 : decide ((((((t250 ++ (⟨#[64]⟩ : ByteArray)) ++ t251) ++ (⟨#[58]⟩ : ByteArray)) ++ t252) ++ (⟨#[45]⟩ : ByteArray)).size + t253.size ≤ 9223372036854775807) = true := decide_eq_true c16
            try have c16b2 : (9223372036854775807 < (((((t250 ++ (⟨#[64]⟩ : ByteArray)) ++ t251) ++ (⟨#[58]⟩ : ByteArray)) ++ t252) ++ (⟨#[45]⟩ : ByteArray)).size + t253.size) = False := eq_false (Nat.not_lt.2 c16)
            try have c16b3 : (9223372036854775807 < t250.size + 1 + t251.size + 1 + t252.size + 1 + t253.size) = False := by have e_ : t250.size + 1 + t251.size + 1 + t252.size + 1 + t253.size = (((((t250 ++ (⟨#[64]⟩ : ByteArray)) ++ t251) ++ (⟨#[58]⟩ : ByteArray)) ++ t252) ++ (⟨#[45]⟩ : ByteArray)).size + t253.size := (by simp only [ByteArray.size_append] <;> rfl); rw [e_]; exact c16b2
            by_cases c17 : x3_1.length < 8796093022208
            ·
             rw [if_pos c17] at H
             have LMc17 := Aside0.mk c17
             clear c17
             obtain ⟨y254, hy254⟩ : ∃ y_ : List ByteArray, y_ = (x3_1 ++ [(((((t250 ++ (⟨#[64]⟩ : ByteArray)) ++ t251) ++ (⟨#[58]⟩ : ByteArray)) ++ t252) ++ (⟨#[45]⟩ : ByteArray)) ++ t253]) := ⟨_, rfl⟩
             replace H : (impl_SlotsText.l0 k1 y254 l0 (l0.length : Int) (wrap64 (x9_1 + 1))) = some r := by first | (rw [hy254]; with_reducible exact H) | (have H2_ := (Option.bind_some _ _).symm.trans H; rw [hy254]; with_reducible exact H2_) | (have H2_ := (Option.bind_some _ _).symm.trans H; with_reducible exact H2_) | with_reducible exact H | (rw [hy254]; exact H) | exact H
             have Ny254 := Aside0.mk hy254
             clear hy254
             have H' := Aside0.mk H
             clear H
             have p248 : 0 ≤ (x9_1 : Int) := of_decide_eq_true (by first | (with_reducible assumption) | assumption)
             have q248 : x9_1 < (l0.length : Int) := of_decide_eq_true (by first | (with_reducible assumption) | assumption)
             obtain ⟨ad248, e248, hx248_0, hx248_1, hx248_2, hx248_3⟩ := at_T49 HR0.out x9_1 p248 q248
             cases e248
             replace hx248_0 := cw_ HB.out hx248_0
             replace hx248_1 := cw_ HB.out hx248_1
             replace hx248_2 := cw_ HB.out hx248_2
             replace hx248_3 := cw_ HB.out hx248_3
             replace p248 := eq_true p248
             replace q248 := eq_true q248
             try go_wp2_with (first | ((with_reducible refine gate_dst (N := 5) rfl ?_); refine bx_ 5 #[.int .i64 0, .int .i64 0, .int .i64 0, .int .i64 0] 49 ?_; intro gb249 hg w18 hbox hb; have n0_ := Aside0.mk (Kd.R_below (by (with_reducible repeat (first | apply Kd.R_alloc | apply Kd.R_drewN | apply Kd.R_drew)); exact HO_3.out) hb); have n1_ := Aside0.mk (below_step (be_ HB.out) hb); have n2_ := Aside0.mk (hbox); have n3_ := Aside0.mk ((bg_ hg HB.out)); have n4_ := Aside0.mk ((bg_ hg HB.out)); clear HO_3; clear HB; have HO_3 := n0_; have HB := n1_; have BK249 := n2_; have GW249 := n3_; have GE249 := n4_; clear n0_ n1_ n2_ n3_ n4_; clear hb hbox hg; obtain ⟨hcz19_0, hcz19_1, hcz19_2, hcz19_3, hfz19_0, hfz19_1, hfz19_2, hfz19_3⟩ := box4_ BK249.out))
             have n0_ : Aside0 (Kd.R Kd.string 9 ((((w18.setCell ⟨gb249, 0, none⟩ (.int .i64 ((rd_T49 l0 x9_1).f0))).setCell ⟨gb249, 1, none⟩ (.int .i64 ((rd_T49 l0 x9_1).f1))).setCell ⟨gb249, 2, none⟩ (.int .i64 ((rd_T49 l0 x9_1).f2))).setCell ⟨gb249, 3, none⟩ (.int .i64 ((rd_T49 l0 x9_1).f3))) w.heap.size (fun _ => True) u3 x3_1) := ⟨by (with_reducible repeat (first | apply Kd.R_alloc | apply Kd.R_drewN | apply Kd.R_drew)); exact Kd.R_mono (Kd.R_far (p := ⟨gb249, 3, none⟩) (Kd.R_far (p := ⟨gb249, 2, none⟩) (Kd.R_far (p := ⟨gb249, 1, none⟩) (Kd.R_far (p := ⟨gb249, 0, none⟩) (Kd.R_types HO_3.out BK249.out (by decide)) (fun _ hk => hk.2) (.int .i64 ((rd_T49 l0 x9_1).f0))) (fun _ hk => hk.2) (.int .i64 ((rd_T49 l0 x9_1).f1))) (fun _ hk => hk.2) (.int .i64 ((rd_T49 l0 x9_1).f2))) (fun _ hk => hk.2) (.int .i64 ((rd_T49 l0 x9_1).f3))) (fun _ hk => trivial)⟩
             have n1_ : Aside0 (((((w18.setCell ⟨gb249, 0, none⟩ (.int .i64 ((rd_T49 l0 x9_1).f0))).setCell ⟨gb249, 1, none⟩ (.int .i64 ((rd_T49 l0 x9_1).f1))).setCell ⟨gb249, 2, none⟩ (.int .i64 ((rd_T49 l0 x9_1).f2))).setCell ⟨gb249, 3, none⟩ (.int .i64 ((rd_T49 l0 x9_1).f3))).heap[gb249]? = some (.cells #[.int .i64 ((rd_T49 l0 x9_1).f0), .int .i64 ((rd_T49 l0 x9_1).f1), .int .i64 ((rd_T49 l0 x9_1).f2), .int .i64 ((rd_T49 l0 x9_1).f3)] 49 (0, 0))) := ⟨by (with_reducible repeat (first | refine blk_drewN ?_ _ | refine blk_drew ?_ | refine blk_alloc ?_ _)); refine blk_put (cs := #[.int .i64 ((rd_T49 l0 x9_1).f0), .int .i64 ((rd_T49 l0 x9_1).f1), .int .i64 ((rd_T49 l0 x9_1).f2), .int .i64 0]) ?_ 3 _ rfl; (with_reducible repeat (first | refine blk_drewN ?_ _ | refine blk_drew ?_ | refine blk_alloc ?_ _)); refine blk_put (cs := #[.int .i64 ((rd_T49 l0 x9_1).f0), .int .i64 ((rd_T49 l0 x9_1).f1), .int .i64 0, .int .i64 0]) ?_ 2 _ rfl; (with_reducible repeat (first | refine blk_drewN ?_ _ | refine blk_drew ?_ | refine blk_alloc ?_ _)); refine blk_put (cs := #[.int .i64 ((rd_T49 l0 x9_1).f0), .int .i64 0, .int .i64 0, .int .i64 0]) ?_ 1 _ rfl; (with_reducible repeat (first | refine blk_drewN ?_ _ | refine blk_drew ?_ | refine blk_alloc ?_ _)); refine blk_put (cs := #[.int .i64 0, .int .i64 0, .int .i64 0, .int .i64 0]) ?_ 0 _ rfl; (with_reducible repeat (first | refine blk_drewN ?_ _ | refine blk_drew ?_ | refine blk_alloc ?_ _)); exact BK249.out⟩
             have n2_ : Aside0 (Below w.heap.size w ((((w18.setCell ⟨gb249, 0, none⟩ (.int .i64 ((rd_T49 l0 x9_1).f0))).setCell ⟨gb249, 1, none⟩ (.int .i64 ((rd_T49 l0 x9_1).f1))).setCell ⟨gb249, 2, none⟩ (.int .i64 ((rd_T49 l0 x9_1).f2))).setCell ⟨gb249, 3, none⟩ (.int .i64 ((rd_T49 l0 x9_1).f3)))) := ⟨be_ HB.out⟩
             (try clear HO_3)
             (try clear BK249)
             (try clear HB)
             generalize ((((w18.setCell ⟨gb249, 0, none⟩ (.int .i64 ((rd_T49 l0 x9_1).f0))).setCell ⟨gb249, 1, none⟩ (.int .i64 ((rd_T49 l0 x9_1).f1))).setCell ⟨gb249, 2, none⟩ (.int .i64 ((rd_T49 l0 x9_1).f2))).setCell ⟨gb249, 3, none⟩ (.int .i64 ((rd_T49 l0 x9_1).f3))) = w20 at n0_ n1_ n2_ ⊢
             have HO_3 := n0_
             have BK249 := n1_
             have HB := n2_
             clear n0_ n1_ n2_
             have n0_ := Aside0.mk (Kd.R_drew HO_3.out)
             have n1_ := Aside0.mk (blk_drew BK249.out)
             have n2_ := Aside0.mk (below_drew1 HB.out)
             clear HO_3
             clear BK249
             clear HB
             have HO_3 := n0_
             have BK249 := n1_
             have HB := n2_
             clear n0_ n1_ n2_
             refine start_ (n := 22) (S := fun w' => w'.cell? ⟨gb249, 0, none⟩ = some (.int .i64 ((rd_T49 l0 x9_1).f0)) ∧ w'.cell? ⟨gb249, 1, none⟩ = some (.int .i64 ((rd_T49 l0 x9_1).f1)) ∧ w'.cell? ⟨gb249, 2, none⟩ = some (.int .i64 ((rd_T49 l0 x9_1).f2)) ∧ w'.cell? ⟨gb249, 3, none⟩ = some (.int .i64 ((rd_T49 l0 x9_1).f3))) (ds := []) #[false, false, false, false, false, false, false, false, false, false, false, false, false, false, false, false, false, false, false, false, false, false] (by kernel_rfl) rfl rfl ⟨(blk_cell BK249.out 0).trans rfl, (blk_cell BK249.out 1).trans rfl, (blk_cell BK249.out 2).trans rfl, (blk_cell BK249.out 3).trans rfl⟩ (fun hHeld => ?_); refine with_tabW impl_SlotsText.tab5 impl_SlotsText.bits5 (fun HT_ HW_ => ?_)
             generalize w20.drew = w21 at HO_3 BK249 HB hHeld ⊢
             refine pl_ 0 (some 13) 22 1 HT_.out ?_
             refine pl_ 1 (some 14) 22 3 HT_.out ?_
             refine pl_ 5 (some 18) 22 35 HT_.out ?_
             refine pl_ 10 (some 23) 22 1059 HT_.out ?_
             refine pl_ 15 (some 28) 22 33827 HT_.out ?_
             refine tk_ 2 (some 15) 22 33831 HT_.out HW_.out hHeld (hy := by rintro w' ⟨s0, s1, s2, s3⟩; go_simp; with_reducible rfl) (h := ?_)
             refine tk_ 6 (some 19) 22 33895 HT_.out HW_.out hHeld (hy := by rintro w' ⟨s0, s1, s2, s3⟩; go_simp; with_reducible rfl) (h := ?_)
             refine tk_ 11 (some 24) 22 35943 HT_.out HW_.out hHeld (hy := by rintro w' ⟨s0, s1, s2, s3⟩; go_simp; with_reducible rfl) (h := ?_)
             refine tk_ 16 (some 29) 22 101479 HT_.out HW_.out hHeld (hy := by rintro w' ⟨s0, s1, s2, s3⟩; go_simp; with_reducible rfl) (h := ?_)
             refine one_ (i := 3) (N := some 16) (bl_ 22 101487) rfl rfl (one_of HT_.out (by kernel_rfl)) (by decide) (fun K hK => ?_)
             refine goes_ Tryd.func31 (by kernel_rfl) rfl #[.int .i64 ((rd_T49 l0 x9_1).f0)] (by rfl) rfl rfl ar_ ?_
             with_reducible refine (strconv_Itoa.calls ((rd_T49 l0 x9_1).f0) t250 _ A7.out).mono ?_
             rintro e w22 ⟨rfl, hb⟩
             refine ⟨_, rfl, ?_⟩
             have n0_ := Aside0.mk (Kd.R_below (by (with_reducible repeat (first | apply Kd.R_alloc | apply Kd.R_drewN | apply Kd.R_drew)); exact HO_3.out) hb)
             have n1_ := Aside0.mk (blk_below (bu_ BK249.out) hb)
             have n2_ := Aside0.mk (below_step (be_ HB.out) hb)
             clear HO_3
             clear BK249
             clear HB
             have HO_3 := n0_
             have BK249 := n1_
             have HB := n2_
             clear n0_ n1_ n2_
             (try clear hb)
             (try clear hb2)
             (try clear hk)
             (try clear hi)
             refine hK.out _ _ ⟨(blk_cell BK249.out 0).trans rfl, (blk_cell BK249.out 1).trans rfl, (blk_cell BK249.out 2).trans rfl, (blk_cell BK249.out 3).trans rfl⟩ (fun hHeld => ?_)
             clear hK K
             refine nm_ 16 (h := ?_)
             refine pl_ 4 (some 17) 22 101503 HT_.out ?_
             refine one_ (i := 7) (N := some 20) (bl_ 22 101631) rfl rfl (one_of HT_.out (by kernel_rfl)) (by decide) (fun K hK => ?_)
             refine goes_ Tryd.func31 (by kernel_rfl) rfl #[.int .i64 ((rd_T49 l0 x9_1).f1)] (by rfl) rfl rfl ar_ ?_
             with_reducible refine (strconv_Itoa.calls ((rd_T49 l0 x9_1).f1) t251 _ A9.out).mono ?_
             rintro e w23 ⟨rfl, hb⟩
             refine ⟨_, rfl, ?_⟩
             have n0_ := Aside0.mk (Kd.R_below (by (with_reducible repeat (first | apply Kd.R_alloc | apply Kd.R_drewN | apply Kd.R_drew)); exact HO_3.out) hb)
             have n1_ := Aside0.mk (blk_below (bu_ BK249.out) hb)
             have n2_ := Aside0.mk (below_step (be_ HB.out) hb)
             clear HO_3
             clear BK249
             clear HB
             have HO_3 := n0_
             have BK249 := n1_
             have HB := n2_
             clear n0_ n1_ n2_
             (try clear hb)
             (try clear hb2)
             (try clear hk)
             (try clear hi)
             refine hK.out _ _ ⟨(blk_cell BK249.out 0).trans rfl, (blk_cell BK249.out 1).trans rfl, (blk_cell BK249.out 2).trans rfl, (blk_cell BK249.out 3).trans rfl⟩ (fun hHeld => ?_)
             clear hK K
             refine nm_ 20 (h := ?_)
             refine pl_ 8 (some 21) 22 101887 HT_.out ?_
             refine pl_ 9 (some 22) 22 102399 HT_.out ?_
             refine one_ (i := 12) (N := some 25) (bl_ 22 106495) rfl rfl (one_of HT_.out (by kernel_rfl)) (by decide) (fun K hK => ?_)
             refine goes_ Tryd.func31 (by kernel_rfl) rfl #[.int .i64 ((rd_T49 l0 x9_1).f2)] (by rfl) rfl rfl ar_ ?_
             with_reducible refine (strconv_Itoa.calls ((rd_T49 l0 x9_1).f2) t252 _ A12.out).mono ?_
             rintro e w24 ⟨rfl, hb⟩
             refine ⟨_, rfl, ?_⟩
             have n0_ := Aside0.mk (Kd.R_below (by (with_reducible repeat (first | apply Kd.R_alloc | apply Kd.R_drewN | apply Kd.R_drew)); exact HO_3.out) hb)
             have n1_ := Aside0.mk (blk_below (bu_ BK249.out) hb)
             have n2_ := Aside0.mk (below_step (be_ HB.out) hb)
             clear HO_3
             clear BK249
             clear HB
             have HO_3 := n0_
             have BK249 := n1_
             have HB := n2_
             clear n0_ n1_ n2_
             (try clear hb)
             (try clear hb2)
             (try clear hk)
             (try clear hi)
             refine hK.out _ _ ⟨(blk_cell BK249.out 0).trans rfl, (blk_cell BK249.out 1).trans rfl, (blk_cell BK249.out 2).trans rfl, (blk_cell BK249.out 3).trans rfl⟩ (fun hHeld => ?_)
             clear hK K
             refine nm_ 25 (h := ?_)
             refine pl_ 13 (some 26) 22 114687 HT_.out ?_
             refine pl_ 14 (some 27) 22 131071 HT_.out ?_
             refine one_ (i := 17) (N := some 30) (bl_ 22 262143) rfl rfl (one_of HT_.out (by kernel_rfl)) (by decide) (fun K hK => ?_)
             refine goes_ Tryd.func31 (by kernel_rfl) rfl #[.int .i64 ((rd_T49 l0 x9_1).f3)] (by rfl) rfl rfl ar_ ?_
             with_reducible refine (strconv_Itoa.calls ((rd_T49 l0 x9_1).f3) t253 _ A15.out).mono ?_
             rintro e w25 ⟨rfl, hb⟩
             refine ⟨_, rfl, ?_⟩
             have n0_ := Aside0.mk (Kd.R_below (by (with_reducible repeat (first | apply Kd.R_alloc | apply Kd.R_drewN | apply Kd.R_drew)); exact HO_3.out) hb)
             have n1_ := Aside0.mk (blk_below (bu_ BK249.out) hb)
             have n2_ := Aside0.mk (below_step (be_ HB.out) hb)
             clear HO_3
             clear BK249
             clear HB
             have HO_3 := n0_
             have BK249 := n1_
             have HB := n2_
             clear n0_ n1_ n2_
             (try clear hb)
             (try clear hb2)
             (try clear hk)
             (try clear hi)
             refine hK.out _ _ ⟨(blk_cell BK249.out 0).trans rfl, (blk_cell BK249.out 1).trans rfl, (blk_cell BK249.out 2).trans rfl, (blk_cell BK249.out 3).trans rfl⟩ (fun hHeld => ?_)
             clear hK K
             refine nm_ 30 (h := ?_)
             refine pl_ 18 (some 31) 22 524287 HT_.out ?_
             refine one_ (i := 19) (N := some 32) (bl_ 22 1048575) rfl rfl (one_of HT_.out (by kernel_rfl)) (by decide) (fun K hK => ?_)
             refine value_ (w1 := ?_) (v := ?_) (by rfl) rfl ?_ ?_
             rotate_left 2
             ·
              go_simp
              constructor
              ·
               rfl
              ·
               rfl
             refine hK.out _ _ ⟨(blk_cell (blk_alloc BK249.out _) 0).trans rfl, (blk_cell (blk_alloc BK249.out _) 1).trans rfl, (blk_cell (blk_alloc BK249.out _) 2).trans rfl, (blk_cell (blk_alloc BK249.out _) 3).trans rfl⟩ (fun hHeld => ?_)
             clear hK K
             refine nm_ 32 (h := ?_)
             refine one_ (i := 20) (N := some 33) (bl_ 22 2097151) rfl rfl (one_of HT_.out (by kernel_rfl)) (by decide) (fun K hK => ?_)
             refine Kd.R_append_step Kd.string (w0 := w) w.heap.size (by rfl) (.tmp 13) (.tmp 32) 47 9 (.string ⟨#[]⟩) 16 rfl Tryd.underlying47 info9 rfl (by decide) (by omega) u3 x3_1 ((((((t250 ++ (⟨#[64]⟩ : ByteArray)) ++ t251) ++ (⟨#[58]⟩ : ByteArray)) ++ t252) ++ (⟨#[45]⟩ : ByteArray)) ++ t253) [.string ((((((t250 ++ (⟨#[64]⟩ : ByteArray)) ++ t251) ++ (⟨#[58]⟩ : ByteArray)) ++ t252) ++ (⟨#[45]⟩ : ByteArray)) ++ t253)] (fun _ => True) (fun _ => False) rfl rfl ?aP (fun _ hk => hk.elim) ?aF ?aO ?aB ?aS ?aL ?_
             (case aP => exact rfl)
             (case aB => exact (be_ HB.out))
             (case aF => exact (fun _ _ => trivial))
             (case aO => exact (by (with_reducible repeat (first | apply Kd.R_alloc | apply Kd.R_drewN | apply Kd.R_drew)); exact HO_3.out))
             (case aS => exact (below_size (be_ HB.out)))
             (case aL => have := LMc17.out; omega)
             intro v255 w26 ho hb hg hat
             rw [← Ny254.out] at ho
             have n0_ := Aside0.mk (blk_grown (g := gb249) (o := .cells #[.int .i64 ((rd_T49 l0 x9_1).f0), .int .i64 ((rd_T49 l0 x9_1).f1), .int .i64 ((rd_T49 l0 x9_1).f2), .int .i64 ((rd_T49 l0 x9_1).f3)] 49 (0, 0)) (bu_ BK249.out) hg (Kd.R_ne HO_3.out BK249.out (by decide)))
             have n1_ := Aside0.mk (hb)
             have n2_ := Aside0.mk (ho)
             clear BK249
             clear HB
             clear HO_3
             have BK249 := n0_
             have HB := n1_
             have HO256 := n2_
             clear n0_ n1_ n2_
             clear ho hb hg hat
             refine hK.out _ _ ⟨(blk_cell BK249.out 0).trans rfl, (blk_cell BK249.out 1).trans rfl, (blk_cell BK249.out 2).trans rfl, (blk_cell BK249.out 3).trans rfl⟩ (fun hHeld => ?_)
             clear hK K
             refine nm_ 33 (h := ?_)
             refine pl_ 21 (some 3) 22 4194303 HT_.out ?_
             refine done_ (done_of HT_.out (by kernel_rfl)) ?_
             try go_wp2
             go_roundg k1
             case measure => have := HK1.out; omega
             case rel => exact ⟨(y254), (wrap64 (x9_1 + 1)), (by first | rfl | (simp; done) | (simp [*]; done)), H', ⟨by have := HK1.out; omega⟩, ⟨by (with_reducible repeat (first | apply Kd.R_alloc | apply Kd.R_drewN | apply Kd.R_drew)); exact HO256.out⟩, ⟨be_ HB.out⟩⟩
            ·
             rw [if_neg c17] at H
             exact absurd H (by simp)
           ·
            rw [if_neg c16] at H
            exact absurd H (by simp)
          ·
           rw [if_neg c14] at H
           exact absurd H (by simp)
         ·
          rw [if_neg c13] at H
          exact absurd H (by simp)
        ·
         rw [if_neg c11] at H
         exact absurd H (by simp)
       ·
        rw [if_neg c10] at H
        exact absurd H (by simp)
      ·
       rw [if_neg c8] at H
       exact absurd H (by simp)
     ·
      rw [if_neg c6] at H
      exact absurd H (by simp)
    ·
     rw [if_neg c5] at H
     exact absurd H (by simp)
   ·
    rw [if_neg c4] at H
    have c4b0 : decide (x9_1 < (l0.length : Int)) = false := decide_eq_false c4
    clear c4
    replace H := Option.bind_eq_some_iff.mp H
    obtain ⟨t247, A270, H⟩ := H
    replace H : (some t247) = some r := H
    have A27 := Aside0.mk A270
    clear A270
    obtain rfl := Option.some.inj H
    obtain ⟨Ao28, co28, eo28⟩ := Kd.R_slice HO_3.out
    subst eo28
    go_wp2_with (first | ((with_reducible refine gate_callee (f := 32) rfl ?_); refine goesL_ (some 36) rfl rfl Tryd.func32 (by kernel_rfl) rfl #[.slice Ao28 x3_1.length co28, .string (⟨#[32]⟩ : ByteArray)] rfl ar_ ?_; (with_reducible refine (strings_Join.calls _ _ x3_1 (⟨#[32]⟩ : ByteArray) t247 _ ?side1 ?side2 A27.out).mono ?_); (case side1 => repeat (first | exact (Kd.R_reads' HO_3.out).2.2 | (with_reducible refine Kd.C_alloc ?_ _) | (with_reducible refine Kd.C_drewN ?_ _) | (with_reducible refine Kd.C_drew ?_))); (case side2 => exact (Kd.R_reads' HO_3.out).2.1); rintro e w29 ⟨rfl, hb⟩; refine ⟨_, rfl, ?_⟩; replace HO_3 := Aside0.mk (Kd.R_below (by (with_reducible repeat (first | apply Kd.R_alloc | apply Kd.R_drewN | apply Kd.R_drew)); exact HO_3.out) hb); replace HB := Aside0.mk (below_step (be_ HB.out) hb); (try clear hb); (try clear hb2); (try clear hk); (try clear hi)))
    go_ret
    exact ⟨by first | rfl | (simp [errW_none, errW_some] <;> rfl) | (simp [*, errW_none, errW_some] <;> rfl), be_ HB.out⟩

def spec_l01Num.l0 : Nat → Int → ByteArray → Bool → Option (ByteArray)
 | 0, _, _, _ => none
 | k + 1, x0, x3, x4 => if x0 = 0 then (if x4 = true then (if 1 + x3.size ≤ 9223372036854775807 then (some ((⟨#[45]⟩ : ByteArray) ++ x3)) else (none)) else (some x3)) else (if (Int.tmod x0 10) < 0 then ((some (([(wrap64 (48 + (wrap64 (-(Int.tmod x0 10))))) % 256] : List Int) : List Int)).bind fun y257 => (if (strOfNums y257).size + x3.size ≤ 9223372036854775807 then (spec_l01Num.l0 k (wrap64 (Int.tdiv x0 10)) ((strOfNums y257) ++ x3) x4) else (none))) else ((some (([(wrap64 (48 + (Int.tmod x0 10))) % 256] : List Int) : List Int)).bind fun y260 => (if (strOfNums y260).size + x3.size ≤ 9223372036854775807 then (spec_l01Num.l0 k (wrap64 (Int.tdiv x0 10)) ((strOfNums y260) ++ x3) x4) else (none))))
def spec_l01Num.f (k : Nat) (a0 : Int) : Option (ByteArray) := if a0 = 0 then (some (⟨#[48]⟩ : ByteArray)) else (spec_l01Num.l0 k a0 (⟨#[]⟩ : ByteArray) (decide (a0 < 0)))
theorem spec_l01Num.mono_l : ∀ k, (∀ y0 y1 y2, LeO (spec_l01Num.l0 k y0 y1 y2) (spec_l01Num.l0 (k + 1) y0 y1 y2))
 | 0 => fun _ _ _ r h => by simp [spec_l01Num.l0] at h
 | k + 1 => by
  have ih0 := spec_l01Num.mono_l k
  ·
   intro y0 y1 y2
   unfold spec_l01Num.l0
   repeat' first
   | (with_reducible exact ih0 _ _ _)
   | (with_reducible exact LeO.refl _)
   | (with_reducible exact LeO.none _)
   | (with_reducible refine LeO.ite ?_ ?_)
   | (with_reducible refine LeO.bind ?_ (fun _ => ?_))
   | exact ih0 _ _ _
   | exact LeO.none _
   | refine LeO.ite ?_ ?_
   | refine LeO.bind ?_ (fun _ => ?_)
theorem spec_l01Num.mono : ∀ a0 k, LeO (spec_l01Num.f k a0) (spec_l01Num.f (k + 1) a0) := by
 intro a0 k
 have ih0 := spec_l01Num.mono_l k
 unfold spec_l01Num.f
 repeat' first
   | (with_reducible exact ih0 _ _ _)
   | (with_reducible exact LeO.refl _)
   | (with_reducible exact LeO.none _)
   | (with_reducible refine LeO.ite ?_ ?_)
   | (with_reducible refine LeO.bind ?_ (fun _ => ?_))
   | exact ih0 _ _ _
   | exact LeO.none _
   | refine LeO.ite ?_ ?_
   | refine LeO.bind ?_ (fun _ => ?_)
set_option maxHeartbeats 8000000 in
set_option maxRecDepth 100000 in
theorem spec_l01Num.calls (k : Nat) (a0 : Int) (r : ByteArray) (w : World) (h : spec_l01Num.f k a0 = some r) :
  Calls Tryd.prog 33 #[.int .i64 a0] w fun e w' => e = .returned (.string r) ∧ Below w.heap.size w w' := by
 have HB := Aside0.mk (Below.refl w.heap.size w)
 have H : (if a0 = 0 then (some (⟨#[48]⟩ : ByteArray)) else (spec_l01Num.l0 k a0 (⟨#[]⟩ : ByteArray) (decide (a0 < 0)))) = some r := h
 clear h
 by_cases c2 : a0 = 0
 ·
  rw [if_pos c2] at H
  have c2b0 : (a0 == 0) = true := beq_iff_eq.mpr c2
  have c2b1 : (a0 != 0) = false := bne_eq_false_iff_eq.mpr c2
  clear c2
  obtain rfl := Option.some.inj H
  go_enter Tryd.func33, Tryd.ntmps33
  go_wp2
  go_ret
  exact ⟨by first | rfl | (simp [errW_none, errW_some] <;> rfl) | (simp [*, errW_none, errW_some] <;> rfl), be_ HB.out⟩
 ·
  rw [if_neg c2] at H
  have c2b0 : (a0 == 0) = false := beq_eq_false_iff_ne.mpr c2
  have c2b1 : (a0 != 0) = true := bne_iff_ne.mpr c2
  have H' := Aside0.mk H
  clear H
  go_enter Tryd.func33, Tryd.ntmps33
  go_wp2
  go_loopg [0, 3] k (fun kq v0 v3 w' => ∃ (x0_1 : Int) (x3_1 : ByteArray), v0 = .int .i64 x0_1 ∧ v3 = .string x3_1 ∧ Aside0 (spec_l01Num.l0 kq x0_1 x3_1 (decide (a0 < 0)) = some r) ∧ Aside0 (kq ≤ k) ∧ Aside0 (Below w.heap.size w w'))
  case atStart => exact ⟨(a0), ((⟨#[]⟩ : ByteArray)), (by first | rfl | (simp; done) | (simp [*]; done)), (by first | rfl | (simp; done) | (simp [*]; done)), H', ⟨Nat.le_refl _⟩, ⟨be_ HB.out⟩⟩
  case round =>
   clear H'
   (try clear c2); (try clear c2b0); (try clear c2b1); (try clear p2)
   obtain ⟨x0_1, x3_1, rfl, rfl, HA, HK1, HB⟩ := hrel
   cases gk with
   | zero => exact absurd HA.out (by simp [spec_l01Num.l0])
   | succ k1 =>
    have H := HA.out
    clear HA
    simp only [spec_l01Num.l0] at H
    by_cases c3 : x0_1 = 0
    ·
     rw [if_pos c3] at H
     have c3b0 : (x0_1 == 0) = true := beq_iff_eq.mpr c3
     have c3b1 : (x0_1 != 0) = false := bne_eq_false_iff_eq.mpr c3
     clear c3
     by_cases c4 : (decide (a0 < 0)) = true
     ·
      rw [if_pos c4] at H
      have c4b0 : (decide (a0 < 0)) = true := c4
      have c4p0 := of_decide_eq_true c4b0
      clear c4
      by_cases c5 : 1 + x3_1.size ≤ 9223372036854775807
      ·
       rw [if_pos c5] at H
       have c5b0 := eq_true c5
       have c5b1 : decide (1 + x3_1.size ≤ 9223372036854775807) = true := decide_eq_true c5
       try have c5b2 : (9223372036854775807 < 1 + x3_1.size) = False := eq_false (Nat.not_lt.2 c5)
       obtain rfl := Option.some.inj H
       go_wp2
       go_ret
       exact ⟨by first | rfl | (simp [errW_none, errW_some] <;> rfl) | (simp [*, errW_none, errW_some] <;> rfl), be_ HB.out⟩
      ·
       rw [if_neg c5] at H
       exact absurd H (by simp)
     ·
      rw [if_neg c4] at H
      have c4b0 : (decide (a0 < 0)) = false := by simpa using c4
      have c4p0 := of_decide_eq_false c4b0
      clear c4
      obtain rfl := Option.some.inj H
      go_wp2
      go_ret
      exact ⟨by first | rfl | (simp [errW_none, errW_some] <;> rfl) | (simp [*, errW_none, errW_some] <;> rfl), be_ HB.out⟩
    ·
     rw [if_neg c3] at H
     have c3b0 : (x0_1 == 0) = false := beq_eq_false_iff_ne.mpr c3
     have c3b1 : (x0_1 != 0) = true := bne_iff_ne.mpr c3
     by_cases c6 : (Int.tmod x0_1 10) < 0
     ·
      rw [if_pos c6] at H
      have c6b0 : decide ((Int.tmod x0_1 10) < 0) = true := decide_eq_true c6
      clear c6
      obtain ⟨y257, hy257⟩ : ∃ y_ : List Int, y_ = (([(wrap64 (48 + (wrap64 (-(Int.tmod x0_1 10))))) % 256] : List Int)) := ⟨_, rfl⟩
      replace H : (if (strOfNums y257).size + x3_1.size ≤ 9223372036854775807 then (spec_l01Num.l0 k1 (wrap64 (Int.tdiv x0_1 10)) ((strOfNums y257) ++ x3_1) (decide (a0 < 0))) else (none)) = some r := by first | (rw [hy257]; with_reducible exact H) | (have H2_ := (Option.bind_some _ _).symm.trans H; rw [hy257]; with_reducible exact H2_) | (have H2_ := (Option.bind_some _ _).symm.trans H; with_reducible exact H2_) | with_reducible exact H | (rw [hy257]; exact H) | exact H
      have Ny257 := Aside0.mk hy257
      clear hy257
      by_cases c7 : (strOfNums y257).size + x3_1.size ≤ 9223372036854775807
      ·
       rw [if_pos c7] at H
       have c7b0 := eq_true c7
       have c7b1 : decide ((strOfNums y257).size + x3_1.size ≤ 9223372036854775807) = true := decide_eq_true c7
       try have c7b2 : (9223372036854775807 < (strOfNums y257).size + x3_1.size) = False := eq_false (Nat.not_lt.2 c7)
       have H' := Aside0.mk H
       clear H
       go_wp2_with (first | ((with_reducible refine gate_dst (N := 21) rfl ?_); refine Kd.R_lit (Kd.int .u8) _ 5 ?hg (N := 21) ?hd (xs := ([(wrap64 (48 + (wrap64 (-(Int.tmod x0_1 10))))) % 256] : List Int)) (inner := [.int .u8 ((wrap64 (48 + (wrap64 (-(Int.tmod x0_1 10))))) % 256)]) (ok := fun _ => True) (okp := fun _ => True) ?hr ?hp (fun _ hk => hk) trivial (Below.refl _ _) (Nat.le_refl _) (by simp) ?_; (case hd => rfl); (case hg => rfl); (case hr => first | (go_simp; done) | (go_simp; rfl)); (case hp => exact (Reps.one (show Kd.M (Kd.int .u8) _ _ _ ((wrap64 (48 + (wrap64 (-(Int.tmod x0_1 10))))) % 256) [.int .u8 ((wrap64 (48 + (wrap64 (-(Int.tmod x0_1 10))))) % 256)] from rfl) (Reps.none _ _))); intro v258 w8 ho9 hb hg_ hnew_; clear hg_ hnew_; (first | rw [← Ny257.out] at ho9 | (simp only [Int.reduceToNat] at ho9; rw [← Ny257.out] at ho9)); have n0_ := Aside0.mk (Kd.R_lower ho9 (below_size (be_ HB.out))); have n1_ := Aside0.mk (below_step (be_ HB.out) hb); clear HB; have HO259 := n0_; have HB := n1_; clear n0_ n1_; clear hb ho9; have hcv10 := own_string (P := Tryd.prog) Tryd.underlying22 Tryd.underlying5 Tryd.underlying9 (Kd.own_of_R HO259.out)))
       go_roundg k1
       case measure => have := HK1.out; omega
       case rel => exact ⟨(wrap64 (Int.tdiv x0_1 10)), ((strOfNums y257) ++ x3_1), (by first | rfl | (simp; done) | (simp [*]; done)), (by first | rfl | (simp; done) | (simp [*]; done)), H', ⟨by have := HK1.out; omega⟩, ⟨be_ HB.out⟩⟩
      ·
       rw [if_neg c7] at H
       exact absurd H (by simp)
     ·
      rw [if_neg c6] at H
      have c6b0 : decide ((Int.tmod x0_1 10) < 0) = false := decide_eq_false c6
      clear c6
      obtain ⟨y260, hy260⟩ : ∃ y_ : List Int, y_ = (([(wrap64 (48 + (Int.tmod x0_1 10))) % 256] : List Int)) := ⟨_, rfl⟩
      replace H : (if (strOfNums y260).size + x3_1.size ≤ 9223372036854775807 then (spec_l01Num.l0 k1 (wrap64 (Int.tdiv x0_1 10)) ((strOfNums y260) ++ x3_1) (decide (a0 < 0))) else (none)) = some r := by first | (rw [hy260]; with_reducible exact H) | (have H2_ := (Option.bind_some _ _).symm.trans H; rw [hy260]; with_reducible exact H2_) | (have H2_ := (Option.bind_some _ _).symm.trans H; with_reducible exact H2_) | with_reducible exact H | (rw [hy260]; exact H) | exact H
      have Ny260 := Aside0.mk hy260
      clear hy260
      by_cases c11 : (strOfNums y260).size + x3_1.size ≤ 9223372036854775807
      ·
       rw [if_pos c11] at H
       have c11b0 := eq_true c11
       have c11b1 : decide ((strOfNums y260).size + x3_1.size ≤ 9223372036854775807) = true := decide_eq_true c11
       try have c11b2 : (9223372036854775807 < (strOfNums y260).size + x3_1.size) = False := eq_false (Nat.not_lt.2 c11)
       have H' := Aside0.mk H
       clear H
       go_wp2_with (first | ((with_reducible refine gate_dst (N := 21) rfl ?_); refine Kd.R_lit (Kd.int .u8) _ 5 ?hg (N := 21) ?hd (xs := ([(wrap64 (48 + (Int.tmod x0_1 10))) % 256] : List Int)) (inner := [.int .u8 ((wrap64 (48 + (Int.tmod x0_1 10))) % 256)]) (ok := fun _ => True) (okp := fun _ => True) ?hr ?hp (fun _ hk => hk) trivial (Below.refl _ _) (Nat.le_refl _) (by simp) ?_; (case hd => rfl); (case hg => rfl); (case hr => first | (go_simp; done) | (go_simp; rfl)); (case hp => exact (Reps.one (show Kd.M (Kd.int .u8) _ _ _ ((wrap64 (48 + (Int.tmod x0_1 10))) % 256) [.int .u8 ((wrap64 (48 + (Int.tmod x0_1 10))) % 256)] from rfl) (Reps.none _ _))); intro v261 w12 ho13 hb hg_ hnew_; clear hg_ hnew_; (first | rw [← Ny260.out] at ho13 | (simp only [Int.reduceToNat] at ho13; rw [← Ny260.out] at ho13)); have n0_ := Aside0.mk (Kd.R_lower ho13 (below_size (be_ HB.out))); have n1_ := Aside0.mk (below_step (be_ HB.out) hb); clear HB; have HO262 := n0_; have HB := n1_; clear n0_ n1_; clear hb ho13; have hcv14 := own_string (P := Tryd.prog) Tryd.underlying22 Tryd.underlying5 Tryd.underlying9 (Kd.own_of_R HO262.out)))
       go_roundg k1
       case measure => have := HK1.out; omega
       case rel => exact ⟨(wrap64 (Int.tdiv x0_1 10)), ((strOfNums y260) ++ x3_1), (by first | rfl | (simp; done) | (simp [*]; done)), (by first | rfl | (simp; done) | (simp [*]; done)), H', ⟨by have := HK1.out; omega⟩, ⟨be_ HB.out⟩⟩
      ·
       rw [if_neg c11] at H
       exact absurd H (by simp)

end Go.Proofs.YtdniejjhkkepcaaDoor.QFnPlanned
