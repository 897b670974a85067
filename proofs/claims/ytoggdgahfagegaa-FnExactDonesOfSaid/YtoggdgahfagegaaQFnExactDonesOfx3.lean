/- The Go functions that the statement FnExactDonesOf reaches, as Lean functions, each with a proof that the call does what its function says; laid by a program of this session. No condition. -/
import Derived.Test.YtoggdgahfagegaaQFnExactDonesOfx0
import Derived.Test.YtoggdgahfagegaaQFnExactDonesOfx2
namespace Go.Proofs.Ytoggdgahfagegaa.QFnExactDonesOf
open Go.RowKit Go.Proofs.YtoggdgahfagegaaW.PrintWords Go.Proofs.YtoggdgahfagegaaW.PrintLast Go.Proofs.YtoggdgahfagegaaW.PrintMore
attribute [local go_sem] max2_int min2_int max_two min_two max_three min_three max_four min_four   -- for this text's walks alone
set_option linter.unusedVariables false
set_option linter.unusedSimpArgs false

/-! ### laws_eqEventS: function 30 -/
def laws_eqEventS.l0 : Nat → List (S79) → List (S79) → Int → Option (Bool)
  | 0, _, _, _ => none
  | k + 1, x0, x1, x5 => if x5 < (x0.length : Int) then (if 0 ≤ x5 then (if x5 < (x1.length : Int) then ((laws_eqEvent.f k ((rd_T79 x0 x5).f0) ((rd_T79 x0 x5).f1) ((rd_T79 x0 x5).f2) ((rd_T79 x0 x5).f3.f0.f0) ((rd_T79 x0 x5).f3.f0.f1) ((rd_T79 x0 x5).f3.f0.f2) ((rd_T79 x0 x5).f3.f1) ((rd_T79 x1 x5).f0) ((rd_T79 x1 x5).f1) ((rd_T79 x1 x5).f2) ((rd_T79 x1 x5).f3.f0.f0) ((rd_T79 x1 x5).f3.f0.f1) ((rd_T79 x1 x5).f3.f0.f2) ((rd_T79 x1 x5).f3.f1)).bind fun t178 => (if t178 = true then (laws_eqEventS.l0 k x0 x1 (wrap64 (x5 + 1))) else (some false))) else (none)) else (none)) else (some true)
def laws_eqEventS.f (k : Nat) (l0 : List (S79)) (l1 : List (S79)) : Option (Bool) := if (l0.length : Int) = (l1.length : Int) then (laws_eqEventS.l0 k l0 l1 0) else (some false)
theorem laws_eqEventS.mono_l : ∀ k, (∀ y0 y1 y2, LeO (laws_eqEventS.l0 k y0 y1 y2) (laws_eqEventS.l0 (k + 1) y0 y1 y2))
  | 0 => fun _ _ _ r h => by simp [laws_eqEventS.l0] at h
  | k + 1 => by
    have ih0 := laws_eqEventS.mono_l k
    · intro y0 y1 y2
      unfold laws_eqEventS.l0
      repeat' first
      | (with_reducible exact ih0 _ _ _)
      | (with_reducible exact laws_eqEvent.mono _ _ _ _ _ _ _ _ _ _ _ _ _ _ _)
      | (with_reducible exact LeO.refl _)
      | (with_reducible exact LeO.none _)
      | (with_reducible refine LeO.ite ?_ ?_)
      | (with_reducible refine LeO.bind ?_ (fun _ => ?_))
      | exact ih0 _ _ _
      | exact laws_eqEvent.mono _ _ _ _ _ _ _ _ _ _ _ _ _ _ _
      | exact LeO.none _
      | refine LeO.ite ?_ ?_
      | refine LeO.bind ?_ (fun _ => ?_)
theorem laws_eqEventS.mono : ∀ a0 a1 k, LeO (laws_eqEventS.f k a0 a1) (laws_eqEventS.f (k + 1) a0 a1) := by
  intro a0 a1 k
  have ih0 := laws_eqEventS.mono_l k
  unfold laws_eqEventS.f
  repeat' first
      | (with_reducible exact ih0 _ _ _)
      | (with_reducible exact laws_eqEvent.mono _ _ _ _ _ _ _ _ _ _ _ _ _ _ _)
      | (with_reducible exact LeO.refl _)
      | (with_reducible exact LeO.none _)
      | (with_reducible refine LeO.ite ?_ ?_)
      | (with_reducible refine LeO.bind ?_ (fun _ => ?_))
      | exact ih0 _ _ _
      | exact laws_eqEvent.mono _ _ _ _ _ _ _ _ _ _ _ _ _ _ _
      | exact LeO.none _
      | refine LeO.ite ?_ ?_
      | refine LeO.bind ?_ (fun _ => ?_)
def laws_eqEventS.T6 : Bool × List (List Nat × List Nat) := (true, [([], []), ([], []), ([0, 1], [0, 1]), ([2], [2]), ([], []), ([], []), ([4, 5], [4, 5]), ([6], [6]), ([3, 7], [3, 7]), ([8], [8])])
def laws_eqEventS.B6 : List Nat := [0, 0, 3, 7, 0, 0, 48, 112, 255, 511]
theorem laws_eqEventS.tab6 : rtab .any (opsOf Try.f30 6) = laws_eqEventS.T6 := by kernel_rfl
theorem laws_eqEventS.bits6 : waitsOk laws_eqEventS.T6.2 laws_eqEventS.B6 = true := by kernel_rfl
set_option maxHeartbeats 8000000 in
set_option maxRecDepth 100000 in
theorem laws_eqEventS.calls (k : Nat) (A0 : Option Addr) (c0 : Nat) (l0 : List (S79)) (A1 : Option Addr) (c1 : Nat) (l1 : List (S79)) (r : Bool) (w : World) (hr0 : Kd.C k79 w A0 l0.length l0) (hc0 : l0.length ≤ c0) (hr1 : Kd.C k79 w A1 l1.length l1) (hc1 : l1.length ≤ c1) (h : laws_eqEventS.f k l0 l1 = some r) :
    Calls Try.prog 30 #[.slice A0 l0.length c0, .slice A1 l1.length c1] w fun e w' => e = .returned (.bool r) ∧ Below w.heap.size w w' := by
  have hu79 := Try.underlying79
  have HR0 := Aside0.mk hr0
  have HC0 := Aside0.mk hc0
  clear hr0 hc0
  have HR1 := Aside0.mk hr1
  have HC1 := Aside0.mk hc1
  clear hr1 hc1
  have HB := Aside0.mk (Below.refl w.heap.size w)
  have H : (if (l0.length : Int) = (l1.length : Int) then (laws_eqEventS.l0 k l0 l1 0) else (some false)) = some r := h
  clear h
  by_cases c3 : (l0.length : Int) = (l1.length : Int)
  · rw [if_pos c3] at H
    have c3b0 : ((l0.length : Int) == (l1.length : Int)) = true := beq_iff_eq.mpr c3
    have c3b1 : ((l0.length : Int) != (l1.length : Int)) = false := bne_eq_false_iff_eq.mpr c3
    have c3b2 : (l0.length == l1.length) = true := by first | simpa using c3 | (simp at c3 ⊢; omega)
    clear c3
    have H' := Aside0.mk H
    clear H
    go_enter Try.func30, Try.ntmps30
    go_wp2
    go_loopg [5] k (fun kq v5 w' => ∃ (x5_1 : Int), v5 = .int .i64 x5_1 ∧ Aside0 (laws_eqEventS.l0 kq l0 l1 x5_1 = some r) ∧ Aside0 (kq ≤ k) ∧ Aside0 (Below w.heap.size w w'))
    case atStart => exact ⟨(0), (by first | rfl | (simp; done) | (simp [*]; done)), H', ⟨Nat.le_refl _⟩, ⟨by repeat (first | (with_reducible first | exact HB.out | apply below_alloc | apply pw_below_drewN | apply below_drew1) | exact HB.out)⟩⟩
    case round =>
      clear H'
      try clear c1
      try clear p2
      try clear c3
      try clear c3b0
      try clear c3b1
      try clear c3b2
      obtain ⟨x5_1, rfl, HA, HK1, HB⟩ := hrel
      cases gk with
      | zero => exact absurd HA.out (by simp [laws_eqEventS.l0])
      | succ k1 =>
        have H := HA.out
        clear HA
        simp only [laws_eqEventS.l0] at H
        by_cases c4 : x5_1 < (l0.length : Int)
        · rw [if_pos c4] at H
          have c4b0 : decide (x5_1 < (l0.length : Int)) = true := decide_eq_true c4
          clear c4
          by_cases c5 : 0 ≤ x5_1
          · rw [if_pos c5] at H
            have c5b0 : decide (0 ≤ x5_1) = true := decide_eq_true c5
            clear c5
            by_cases c6 : x5_1 < (l1.length : Int)
            · rw [if_pos c6] at H
              have c6b0 : decide (x5_1 < (l1.length : Int)) = true := decide_eq_true c6
              clear c6
              replace H := Option.bind_eq_some_iff.mp H
              obtain ⟨t178, A70, H⟩ := H
              replace H : (if t178 = true then (laws_eqEventS.l0 k1 l0 l1 (wrap64 (x5_1 + 1))) else (some false)) = some r := H
              have A7 := Aside0.mk A70
              clear A70
              by_cases c8 : t178 = true
              · subst c8
                have H1 : (laws_eqEventS.l0 k1 l0 l1 (wrap64 (x5_1 + 1))) = some r := by rw [if_pos rfl] at H; exact H
                clear H
                have H := H1
                clear H1
                have H' := Aside0.mk H
                clear H
                try go_wp2
                have n0_ := Aside0.mk (below_drew1 HB.out)
                clear HB
                have HB := n0_
                clear n0_
                have p176 : 0 ≤ (x5_1 : Int) := of_decide_eq_true (by first | (with_reducible assumption) | assumption)
                have q176 : x5_1 < (l0.length : Int) := of_decide_eq_true (by first | (with_reducible assumption) | assumption)
                obtain ⟨ad176, A176_6, c176_6, e176, hx176_0, hx176_1, hx176_2, hx176_3, hx176_4, hx176_5, hx176_6, hl176_6, hi176_6⟩ := at_T79 HR0.out x5_1 p176 q176
                have hw176_6 := hx176_6
                have hw176_5 := hx176_5
                have hw176_4 := hx176_4
                have hw176_3 := hx176_3
                have hw176_2 := hx176_2
                have hw176_1 := hx176_1
                have hw176_0 := hx176_0
                cases e176
                replace hx176_0 := (HB.out.cell (World.block_lt_of_cell? w _ hx176_0)).trans hx176_0
                replace hx176_1 := (HB.out.cell (World.block_lt_of_cell? w _ hx176_1)).trans hx176_1
                replace hx176_2 := (HB.out.cell (World.block_lt_of_cell? w _ hx176_2)).trans hx176_2
                replace hx176_3 := (HB.out.cell (World.block_lt_of_cell? w _ hx176_3)).trans hx176_3
                replace hx176_4 := (HB.out.cell (World.block_lt_of_cell? w _ hx176_4)).trans hx176_4
                replace hx176_5 := (HB.out.cell (World.block_lt_of_cell? w _ hx176_5)).trans hx176_5
                replace hx176_6 := (HB.out.cell (World.block_lt_of_cell? w _ hx176_6)).trans hx176_6
                have HR176_6 := Aside0.mk hi176_6
                have HC176_6 := Aside0.mk hl176_6
                clear hi176_6 hl176_6
                replace p176 := eq_true p176
                replace q176 := eq_true q176
                have p177 : 0 ≤ (x5_1 : Int) := of_decide_eq_true (by first | (with_reducible assumption) | assumption)
                have q177 : x5_1 < (l1.length : Int) := of_decide_eq_true (by first | (with_reducible assumption) | assumption)
                obtain ⟨ad177, A177_6, c177_6, e177, hx177_0, hx177_1, hx177_2, hx177_3, hx177_4, hx177_5, hx177_6, hl177_6, hi177_6⟩ := at_T79 HR1.out x5_1 p177 q177
                have hw177_6 := hx177_6
                have hw177_5 := hx177_5
                have hw177_4 := hx177_4
                have hw177_3 := hx177_3
                have hw177_2 := hx177_2
                have hw177_1 := hx177_1
                have hw177_0 := hx177_0
                cases e177
                replace hx177_0 := (HB.out.cell (World.block_lt_of_cell? w _ hx177_0)).trans hx177_0
                replace hx177_1 := (HB.out.cell (World.block_lt_of_cell? w _ hx177_1)).trans hx177_1
                replace hx177_2 := (HB.out.cell (World.block_lt_of_cell? w _ hx177_2)).trans hx177_2
                replace hx177_3 := (HB.out.cell (World.block_lt_of_cell? w _ hx177_3)).trans hx177_3
                replace hx177_4 := (HB.out.cell (World.block_lt_of_cell? w _ hx177_4)).trans hx177_4
                replace hx177_5 := (HB.out.cell (World.block_lt_of_cell? w _ hx177_5)).trans hx177_5
                replace hx177_6 := (HB.out.cell (World.block_lt_of_cell? w _ hx177_6)).trans hx177_6
                have HR177_6 := Aside0.mk hi177_6
                have HC177_6 := Aside0.mk hl177_6
                clear hi177_6 hl177_6
                replace p177 := eq_true p177
                replace q177 := eq_true q177
                refine start_ (n := 10) (S := fun w' => w'.cell? (ad176.add ((x5_1).toNat * 7)) = some (.int .i64 ((rd_T79 l0 x5_1).f0)) ∧ w'.cell? ⟨(ad176.add ((x5_1).toNat * 7)).block, (ad176.add ((x5_1).toNat * 7)).off + 1, none⟩ = some (.int .i64 ((rd_T79 l0 x5_1).f1)) ∧ w'.cell? ⟨(ad176.add ((x5_1).toNat * 7)).block, (ad176.add ((x5_1).toNat * 7)).off + 2, none⟩ = some (.int .i64 ((rd_T79 l0 x5_1).f2)) ∧ w'.cell? ⟨(ad176.add ((x5_1).toNat * 7)).block, (ad176.add ((x5_1).toNat * 7)).off + 3, none⟩ = some (.int .i64 ((rd_T79 l0 x5_1).f3.f0.f0)) ∧ w'.cell? ⟨(ad176.add ((x5_1).toNat * 7)).block, (ad176.add ((x5_1).toNat * 7)).off + 4, none⟩ = some (.int .i64 ((rd_T79 l0 x5_1).f3.f0.f1)) ∧ w'.cell? ⟨(ad176.add ((x5_1).toNat * 7)).block, (ad176.add ((x5_1).toNat * 7)).off + 5, none⟩ = some (.int .i64 ((rd_T79 l0 x5_1).f3.f0.f2)) ∧ w'.cell? ⟨(ad176.add ((x5_1).toNat * 7)).block, (ad176.add ((x5_1).toNat * 7)).off + 6, none⟩ = some (.slice A176_6 ((rd_T79 l0 x5_1).f3.f1).length c176_6) ∧ w'.cell? (ad177.add ((x5_1).toNat * 7)) = some (.int .i64 ((rd_T79 l1 x5_1).f0)) ∧ w'.cell? ⟨(ad177.add ((x5_1).toNat * 7)).block, (ad177.add ((x5_1).toNat * 7)).off + 1, none⟩ = some (.int .i64 ((rd_T79 l1 x5_1).f1)) ∧ w'.cell? ⟨(ad177.add ((x5_1).toNat * 7)).block, (ad177.add ((x5_1).toNat * 7)).off + 2, none⟩ = some (.int .i64 ((rd_T79 l1 x5_1).f2)) ∧ w'.cell? ⟨(ad177.add ((x5_1).toNat * 7)).block, (ad177.add ((x5_1).toNat * 7)).off + 3, none⟩ = some (.int .i64 ((rd_T79 l1 x5_1).f3.f0.f0)) ∧ w'.cell? ⟨(ad177.add ((x5_1).toNat * 7)).block, (ad177.add ((x5_1).toNat * 7)).off + 4, none⟩ = some (.int .i64 ((rd_T79 l1 x5_1).f3.f0.f1)) ∧ w'.cell? ⟨(ad177.add ((x5_1).toNat * 7)).block, (ad177.add ((x5_1).toNat * 7)).off + 5, none⟩ = some (.int .i64 ((rd_T79 l1 x5_1).f3.f0.f2)) ∧ w'.cell? ⟨(ad177.add ((x5_1).toNat * 7)).block, (ad177.add ((x5_1).toNat * 7)).off + 6, none⟩ = some (.slice A177_6 ((rd_T79 l1 x5_1).f3.f1).length c177_6)) (ds := []) #[false, false, false, false, false, false, false, false, false, false] (by kernel_rfl) rfl rfl ⟨((HB.out.cell (World.block_lt_of_cell? w _ hw176_0)).trans hw176_0), ((HB.out.cell (World.block_lt_of_cell? w _ hw176_1)).trans hw176_1), ((HB.out.cell (World.block_lt_of_cell? w _ hw176_2)).trans hw176_2), ((HB.out.cell (World.block_lt_of_cell? w _ hw176_3)).trans hw176_3), ((HB.out.cell (World.block_lt_of_cell? w _ hw176_4)).trans hw176_4), ((HB.out.cell (World.block_lt_of_cell? w _ hw176_5)).trans hw176_5), ((HB.out.cell (World.block_lt_of_cell? w _ hw176_6)).trans hw176_6), ((HB.out.cell (World.block_lt_of_cell? w _ hw177_0)).trans hw177_0), ((HB.out.cell (World.block_lt_of_cell? w _ hw177_1)).trans hw177_1), ((HB.out.cell (World.block_lt_of_cell? w _ hw177_2)).trans hw177_2), ((HB.out.cell (World.block_lt_of_cell? w _ hw177_3)).trans hw177_3), ((HB.out.cell (World.block_lt_of_cell? w _ hw177_4)).trans hw177_4), ((HB.out.cell (World.block_lt_of_cell? w _ hw177_5)).trans hw177_5), ((HB.out.cell (World.block_lt_of_cell? w _ hw177_6)).trans hw177_6)⟩ (fun hHeld => ?_); refine with_tabW laws_eqEventS.tab6 laws_eqEventS.bits6 (fun HT_ HW_ => ?_)
                generalize wr.drew = w9 at HB HR176_6 HR177_6 hx176_0 hx176_1 hx176_2 hx176_3 hx176_4 hx176_5 hx176_6 hx177_0 hx177_1 hx177_2 hx177_3 hx177_4 hx177_5 hx177_6 hHeld ⊢
                refine pure_ (i := 0) (N := some 17) (v := ?_) (a' := ?_) #[true, false, false, false, false, false, false, false, false, false] rfl rfl (any_of HT_.out (by kernel_rfl)) (fun _ _ _ h => h) (Or.inl ⟨by rfl, ?_⟩) ?_ ?_
                rotate_left
                · intro w'
                  go_simp
                  with_reducible rfl
                rotate_left
                · simp only [Act.put, List.setIfInBounds_toArray, List.set_cons_zero, List.set_cons_succ, i64_w, i32_w]
                  rfl
                refine pure_ (i := 1) (N := some 18) (v := ?_) (a' := ?_) #[true, true, false, false, false, false, false, false, false, false] rfl rfl (any_of HT_.out (by kernel_rfl)) (fun _ _ _ h => h) (Or.inl ⟨by rfl, ?_⟩) ?_ ?_
                rotate_left
                · intro w'
                  go_simp
                  with_reducible rfl
                rotate_left
                · simp only [Act.put, List.setIfInBounds_toArray, List.set_cons_zero, List.set_cons_succ, i64_w, i32_w]
                  rfl
                refine pure_ (i := 2) (N := some 19) (v := ?_) (a' := ?_) #[true, true, true, false, false, false, false, false, false, false] rfl rfl (any_of HT_.out (by kernel_rfl)) (fun _ _ _ h => h) (Or.inl ⟨by rfl, ?_⟩) ?_ ?_
                rotate_left
                · intro w'
                  go_simp
                  with_reducible rfl
                rotate_left
                · simp only [Act.put, List.setIfInBounds_toArray, List.set_cons_zero, List.set_cons_succ, i64_w, i32_w]
                  rfl
                refine pure_ (i := 4) (N := some 21) (v := ?_) (a' := ?_) #[true, true, true, false, true, false, false, false, false, false] rfl rfl (any_of HT_.out (by kernel_rfl)) (fun _ _ _ h => h) (Or.inl ⟨by rfl, ?_⟩) ?_ ?_
                rotate_left
                · intro w'
                  go_simp
                  with_reducible rfl
                rotate_left
                · simp only [Act.put, List.setIfInBounds_toArray, List.set_cons_zero, List.set_cons_succ, i64_w, i32_w]
                  rfl
                refine pure_ (i := 5) (N := some 22) (v := ?_) (a' := ?_) #[true, true, true, false, true, true, false, false, false, false] rfl rfl (any_of HT_.out (by kernel_rfl)) (fun _ _ _ h => h) (Or.inl ⟨by rfl, ?_⟩) ?_ ?_
                rotate_left
                · intro w'
                  go_simp
                  with_reducible rfl
                rotate_left
                · simp only [Act.put, List.setIfInBounds_toArray, List.set_cons_zero, List.set_cons_succ, i64_w, i32_w]
                  rfl
                refine pure_ (i := 6) (N := some 23) (v := ?_) (a' := ?_) #[true, true, true, false, true, true, true, false, false, false] rfl rfl (any_of HT_.out (by kernel_rfl)) (fun _ _ _ h => h) (Or.inl ⟨by rfl, ?_⟩) ?_ ?_
                rotate_left
                · intro w'
                  go_simp
                  with_reducible rfl
                rotate_left
                · simp only [Act.put, List.setIfInBounds_toArray, List.set_cons_zero, List.set_cons_succ, i64_w, i32_w]
                  rfl
                refine take_ (i := 3) (N := some 20) (v := ?_) (a' := ?_) #[true, true, true, true, true, true, true, false, false, false] rfl rfl (take_ofW HT_.out HW_.out (by kernel_rfl)) (fun _ _ _ h => h) (Or.inl ⟨by rfl, ?_⟩) hHeld ?_ ?_
                rotate_left
                · rintro w' ⟨s0, s1, s2, s3, s4, s5, s6, s7, s8, s9, s10, s11, s12, s13⟩
                  go_simp
                  with_reducible rfl
                rotate_left
                · simp only [Act.put, List.setIfInBounds_toArray, List.set_cons_zero, List.set_cons_succ, i64_w, i32_w]
                  rfl
                refine take_ (i := 7) (N := some 24) (v := ?_) (a' := ?_) #[true, true, true, true, true, true, true, true, false, false] rfl rfl (take_ofW HT_.out HW_.out (by kernel_rfl)) (fun _ _ _ h => h) (Or.inl ⟨by rfl, ?_⟩) hHeld ?_ ?_
                rotate_left
                · rintro w' ⟨s0, s1, s2, s3, s4, s5, s6, s7, s8, s9, s10, s11, s12, s13⟩
                  go_simp
                  with_reducible rfl
                rotate_left
                · simp only [Act.put, List.setIfInBounds_toArray, List.set_cons_zero, List.set_cons_succ, i64_w, i32_w]
                  rfl
                refine one_ (i := 8) (N := some 25) #[true, true, true, true, true, true, true, true, true, false] rfl rfl (one_of HT_.out (by kernel_rfl)) (by decide) (fun K hK => ?_)
                refine goes_ Try.func53 (by kernel_rfl) rfl #[.agg #[.int .i64 ((rd_T79 l0 x5_1).f0), .int .i64 ((rd_T79 l0 x5_1).f1), .int .i64 ((rd_T79 l0 x5_1).f2), .int .i64 ((rd_T79 l0 x5_1).f3.f0.f0), .int .i64 ((rd_T79 l0 x5_1).f3.f0.f1), .int .i64 ((rd_T79 l0 x5_1).f3.f0.f2), .slice A176_6 ((rd_T79 l0 x5_1).f3.f1).length c176_6], .agg #[.int .i64 ((rd_T79 l1 x5_1).f0), .int .i64 ((rd_T79 l1 x5_1).f1), .int .i64 ((rd_T79 l1 x5_1).f2), .int .i64 ((rd_T79 l1 x5_1).f3.f0.f0), .int .i64 ((rd_T79 l1 x5_1).f3.f0.f1), .int .i64 ((rd_T79 l1 x5_1).f3.f0.f2), .slice A177_6 ((rd_T79 l1 x5_1).f3.f1).length c177_6]] (by rfl) rfl rfl (by (try simp only [List.map_toArray, List.map_cons, List.map_nil]); first | done | rfl | (simp only [List.length_drop, List.length_take]; rfl)) ?_
                with_reducible refine (laws_eqEvent.calls k1 ((rd_T79 l0 x5_1).f0) ((rd_T79 l0 x5_1).f1) ((rd_T79 l0 x5_1).f2) ((rd_T79 l0 x5_1).f3.f0.f0) ((rd_T79 l0 x5_1).f3.f0.f1) ((rd_T79 l0 x5_1).f3.f0.f2) _ _ ((rd_T79 l0 x5_1).f3.f1) ((rd_T79 l1 x5_1).f0) ((rd_T79 l1 x5_1).f1) ((rd_T79 l1 x5_1).f2) ((rd_T79 l1 x5_1).f3.f0.f0) ((rd_T79 l1 x5_1).f3.f0.f1) ((rd_T79 l1 x5_1).f3.f0.f2) _ _ ((rd_T79 l1 x5_1).f3.f1) true _ ?side1 ?side2 ?side3 ?side4 A7.out).mono ?_
                (case side1 => repeat (first | exact (Kd.C_below HR176_6.out HB.out) | (with_reducible refine Kd.C_alloc ?_ _) | (with_reducible refine Kd.C_drewN ?_ _) | (with_reducible refine Kd.C_drew ?_)))
                (case side2 => exact HC176_6.out)
                (case side3 => repeat (first | exact (Kd.C_below HR177_6.out HB.out) | (with_reducible refine Kd.C_alloc ?_ _) | (with_reducible refine Kd.C_drewN ?_ _) | (with_reducible refine Kd.C_drew ?_)))
                (case side4 => exact HC177_6.out)
                rintro e w10 ⟨rfl, hb⟩
                refine ⟨_, rfl, ?_⟩
                have n0_ := Aside0.mk (below_step (by repeat (first | (with_reducible first | exact HB.out | apply below_alloc | apply pw_below_drewN | apply below_drew1) | exact HB.out)) hb)
                clear HB
                have HB := n0_
                clear n0_
                (try clear hb)
                (try clear hb2)
                (try clear hk)
                (try clear hi)
                refine hK.out _ _ ⟨((HB.out.cell (World.block_lt_of_cell? w _ hw176_0)).trans hw176_0), ((HB.out.cell (World.block_lt_of_cell? w _ hw176_1)).trans hw176_1), ((HB.out.cell (World.block_lt_of_cell? w _ hw176_2)).trans hw176_2), ((HB.out.cell (World.block_lt_of_cell? w _ hw176_3)).trans hw176_3), ((HB.out.cell (World.block_lt_of_cell? w _ hw176_4)).trans hw176_4), ((HB.out.cell (World.block_lt_of_cell? w _ hw176_5)).trans hw176_5), ((HB.out.cell (World.block_lt_of_cell? w _ hw176_6)).trans hw176_6), ((HB.out.cell (World.block_lt_of_cell? w _ hw177_0)).trans hw177_0), ((HB.out.cell (World.block_lt_of_cell? w _ hw177_1)).trans hw177_1), ((HB.out.cell (World.block_lt_of_cell? w _ hw177_2)).trans hw177_2), ((HB.out.cell (World.block_lt_of_cell? w _ hw177_3)).trans hw177_3), ((HB.out.cell (World.block_lt_of_cell? w _ hw177_4)).trans hw177_4), ((HB.out.cell (World.block_lt_of_cell? w _ hw177_5)).trans hw177_5), ((HB.out.cell (World.block_lt_of_cell? w _ hw177_6)).trans hw177_6)⟩ (fun hHeld => ?_)
                clear hK K
                refine norm_ (a' := ?_) ?_ ?_
                rotate_left
                · show Act.put _ (some 25) _ = _
                  simp only [Act.put, List.setIfInBounds_toArray, List.set_cons_zero, List.set_cons_succ, i64_w, i32_w]
                  rfl
                refine pure_ (i := 9) (N := some 26) (v := ?_) (a' := ?_) #[true, true, true, true, true, true, true, true, true, true] rfl rfl (any_of HT_.out (by kernel_rfl)) (fun _ _ _ h => h) (Or.inl ⟨by rfl, ?_⟩) ?_ ?_
                rotate_left
                · intro w'
                  go_simp
                  with_reducible rfl
                rotate_left
                · simp only [Act.put, List.setIfInBounds_toArray, List.set_cons_zero, List.set_cons_succ, i64_w, i32_w]
                  rfl
                refine done_ (done_of HT_.out (by kernel_rfl)) ?_
                try go_wp2
                go_roundg k1
                case measure => have := HK1.out; omega
                case rel => exact ⟨(wrap64 (x5_1 + 1)), (by first | rfl | (simp; done) | (simp [*]; done)), H', ⟨by have := HK1.out; omega⟩, ⟨by repeat (first | (with_reducible first | exact HB.out | apply below_alloc | apply pw_below_drewN | apply below_drew1) | exact HB.out)⟩⟩
              · replace c8 := Bool.eq_false_iff.mpr c8
                subst c8
                have H1 : (some false) = some r := by rw [if_neg (show ¬ (false = true) by decide)] at H; exact H
                clear H
                have H := H1
                clear H1
                obtain rfl := Option.some.inj H
                try go_wp2
                have n0_ := Aside0.mk (below_drew1 HB.out)
                clear HB
                have HB := n0_
                clear n0_
                have p176 : 0 ≤ (x5_1 : Int) := of_decide_eq_true (by first | (with_reducible assumption) | assumption)
                have q176 : x5_1 < (l0.length : Int) := of_decide_eq_true (by first | (with_reducible assumption) | assumption)
                obtain ⟨ad176, A176_6, c176_6, e176, hx176_0, hx176_1, hx176_2, hx176_3, hx176_4, hx176_5, hx176_6, hl176_6, hi176_6⟩ := at_T79 HR0.out x5_1 p176 q176
                have hw176_6 := hx176_6
                have hw176_5 := hx176_5
                have hw176_4 := hx176_4
                have hw176_3 := hx176_3
                have hw176_2 := hx176_2
                have hw176_1 := hx176_1
                have hw176_0 := hx176_0
                cases e176
                replace hx176_0 := (HB.out.cell (World.block_lt_of_cell? w _ hx176_0)).trans hx176_0
                replace hx176_1 := (HB.out.cell (World.block_lt_of_cell? w _ hx176_1)).trans hx176_1
                replace hx176_2 := (HB.out.cell (World.block_lt_of_cell? w _ hx176_2)).trans hx176_2
                replace hx176_3 := (HB.out.cell (World.block_lt_of_cell? w _ hx176_3)).trans hx176_3
                replace hx176_4 := (HB.out.cell (World.block_lt_of_cell? w _ hx176_4)).trans hx176_4
                replace hx176_5 := (HB.out.cell (World.block_lt_of_cell? w _ hx176_5)).trans hx176_5
                replace hx176_6 := (HB.out.cell (World.block_lt_of_cell? w _ hx176_6)).trans hx176_6
                have HR176_6 := Aside0.mk hi176_6
                have HC176_6 := Aside0.mk hl176_6
                clear hi176_6 hl176_6
                replace p176 := eq_true p176
                replace q176 := eq_true q176
                have p177 : 0 ≤ (x5_1 : Int) := of_decide_eq_true (by first | (with_reducible assumption) | assumption)
                have q177 : x5_1 < (l1.length : Int) := of_decide_eq_true (by first | (with_reducible assumption) | assumption)
                obtain ⟨ad177, A177_6, c177_6, e177, hx177_0, hx177_1, hx177_2, hx177_3, hx177_4, hx177_5, hx177_6, hl177_6, hi177_6⟩ := at_T79 HR1.out x5_1 p177 q177
                have hw177_6 := hx177_6
                have hw177_5 := hx177_5
                have hw177_4 := hx177_4
                have hw177_3 := hx177_3
                have hw177_2 := hx177_2
                have hw177_1 := hx177_1
                have hw177_0 := hx177_0
                cases e177
                replace hx177_0 := (HB.out.cell (World.block_lt_of_cell? w _ hx177_0)).trans hx177_0
                replace hx177_1 := (HB.out.cell (World.block_lt_of_cell? w _ hx177_1)).trans hx177_1
                replace hx177_2 := (HB.out.cell (World.block_lt_of_cell? w _ hx177_2)).trans hx177_2
                replace hx177_3 := (HB.out.cell (World.block_lt_of_cell? w _ hx177_3)).trans hx177_3
                replace hx177_4 := (HB.out.cell (World.block_lt_of_cell? w _ hx177_4)).trans hx177_4
                replace hx177_5 := (HB.out.cell (World.block_lt_of_cell? w _ hx177_5)).trans hx177_5
                replace hx177_6 := (HB.out.cell (World.block_lt_of_cell? w _ hx177_6)).trans hx177_6
                have HR177_6 := Aside0.mk hi177_6
                have HC177_6 := Aside0.mk hl177_6
                clear hi177_6 hl177_6
                replace p177 := eq_true p177
                replace q177 := eq_true q177
                refine start_ (n := 10) (S := fun w' => w'.cell? (ad176.add ((x5_1).toNat * 7)) = some (.int .i64 ((rd_T79 l0 x5_1).f0)) ∧ w'.cell? ⟨(ad176.add ((x5_1).toNat * 7)).block, (ad176.add ((x5_1).toNat * 7)).off + 1, none⟩ = some (.int .i64 ((rd_T79 l0 x5_1).f1)) ∧ w'.cell? ⟨(ad176.add ((x5_1).toNat * 7)).block, (ad176.add ((x5_1).toNat * 7)).off + 2, none⟩ = some (.int .i64 ((rd_T79 l0 x5_1).f2)) ∧ w'.cell? ⟨(ad176.add ((x5_1).toNat * 7)).block, (ad176.add ((x5_1).toNat * 7)).off + 3, none⟩ = some (.int .i64 ((rd_T79 l0 x5_1).f3.f0.f0)) ∧ w'.cell? ⟨(ad176.add ((x5_1).toNat * 7)).block, (ad176.add ((x5_1).toNat * 7)).off + 4, none⟩ = some (.int .i64 ((rd_T79 l0 x5_1).f3.f0.f1)) ∧ w'.cell? ⟨(ad176.add ((x5_1).toNat * 7)).block, (ad176.add ((x5_1).toNat * 7)).off + 5, none⟩ = some (.int .i64 ((rd_T79 l0 x5_1).f3.f0.f2)) ∧ w'.cell? ⟨(ad176.add ((x5_1).toNat * 7)).block, (ad176.add ((x5_1).toNat * 7)).off + 6, none⟩ = some (.slice A176_6 ((rd_T79 l0 x5_1).f3.f1).length c176_6) ∧ w'.cell? (ad177.add ((x5_1).toNat * 7)) = some (.int .i64 ((rd_T79 l1 x5_1).f0)) ∧ w'.cell? ⟨(ad177.add ((x5_1).toNat * 7)).block, (ad177.add ((x5_1).toNat * 7)).off + 1, none⟩ = some (.int .i64 ((rd_T79 l1 x5_1).f1)) ∧ w'.cell? ⟨(ad177.add ((x5_1).toNat * 7)).block, (ad177.add ((x5_1).toNat * 7)).off + 2, none⟩ = some (.int .i64 ((rd_T79 l1 x5_1).f2)) ∧ w'.cell? ⟨(ad177.add ((x5_1).toNat * 7)).block, (ad177.add ((x5_1).toNat * 7)).off + 3, none⟩ = some (.int .i64 ((rd_T79 l1 x5_1).f3.f0.f0)) ∧ w'.cell? ⟨(ad177.add ((x5_1).toNat * 7)).block, (ad177.add ((x5_1).toNat * 7)).off + 4, none⟩ = some (.int .i64 ((rd_T79 l1 x5_1).f3.f0.f1)) ∧ w'.cell? ⟨(ad177.add ((x5_1).toNat * 7)).block, (ad177.add ((x5_1).toNat * 7)).off + 5, none⟩ = some (.int .i64 ((rd_T79 l1 x5_1).f3.f0.f2)) ∧ w'.cell? ⟨(ad177.add ((x5_1).toNat * 7)).block, (ad177.add ((x5_1).toNat * 7)).off + 6, none⟩ = some (.slice A177_6 ((rd_T79 l1 x5_1).f3.f1).length c177_6)) (ds := []) #[false, false, false, false, false, false, false, false, false, false] (by kernel_rfl) rfl rfl ⟨((HB.out.cell (World.block_lt_of_cell? w _ hw176_0)).trans hw176_0), ((HB.out.cell (World.block_lt_of_cell? w _ hw176_1)).trans hw176_1), ((HB.out.cell (World.block_lt_of_cell? w _ hw176_2)).trans hw176_2), ((HB.out.cell (World.block_lt_of_cell? w _ hw176_3)).trans hw176_3), ((HB.out.cell (World.block_lt_of_cell? w _ hw176_4)).trans hw176_4), ((HB.out.cell (World.block_lt_of_cell? w _ hw176_5)).trans hw176_5), ((HB.out.cell (World.block_lt_of_cell? w _ hw176_6)).trans hw176_6), ((HB.out.cell (World.block_lt_of_cell? w _ hw177_0)).trans hw177_0), ((HB.out.cell (World.block_lt_of_cell? w _ hw177_1)).trans hw177_1), ((HB.out.cell (World.block_lt_of_cell? w _ hw177_2)).trans hw177_2), ((HB.out.cell (World.block_lt_of_cell? w _ hw177_3)).trans hw177_3), ((HB.out.cell (World.block_lt_of_cell? w _ hw177_4)).trans hw177_4), ((HB.out.cell (World.block_lt_of_cell? w _ hw177_5)).trans hw177_5), ((HB.out.cell (World.block_lt_of_cell? w _ hw177_6)).trans hw177_6)⟩ (fun hHeld => ?_); refine with_tabW laws_eqEventS.tab6 laws_eqEventS.bits6 (fun HT_ HW_ => ?_)
                generalize wr.drew = w11 at HB HR176_6 HR177_6 hx176_0 hx176_1 hx176_2 hx176_3 hx176_4 hx176_5 hx176_6 hx177_0 hx177_1 hx177_2 hx177_3 hx177_4 hx177_5 hx177_6 hHeld ⊢
                refine pure_ (i := 0) (N := some 17) (v := ?_) (a' := ?_) #[true, false, false, false, false, false, false, false, false, false] rfl rfl (any_of HT_.out (by kernel_rfl)) (fun _ _ _ h => h) (Or.inl ⟨by rfl, ?_⟩) ?_ ?_
                rotate_left
                · intro w'
                  go_simp
                  with_reducible rfl
                rotate_left
                · simp only [Act.put, List.setIfInBounds_toArray, List.set_cons_zero, List.set_cons_succ, i64_w, i32_w]
                  rfl
                refine pure_ (i := 1) (N := some 18) (v := ?_) (a' := ?_) #[true, true, false, false, false, false, false, false, false, false] rfl rfl (any_of HT_.out (by kernel_rfl)) (fun _ _ _ h => h) (Or.inl ⟨by rfl, ?_⟩) ?_ ?_
                rotate_left
                · intro w'
                  go_simp
                  with_reducible rfl
                rotate_left
                · simp only [Act.put, List.setIfInBounds_toArray, List.set_cons_zero, List.set_cons_succ, i64_w, i32_w]
                  rfl
                refine pure_ (i := 2) (N := some 19) (v := ?_) (a' := ?_) #[true, true, true, false, false, false, false, false, false, false] rfl rfl (any_of HT_.out (by kernel_rfl)) (fun _ _ _ h => h) (Or.inl ⟨by rfl, ?_⟩) ?_ ?_
                rotate_left
                · intro w'
                  go_simp
                  with_reducible rfl
                rotate_left
                · simp only [Act.put, List.setIfInBounds_toArray, List.set_cons_zero, List.set_cons_succ, i64_w, i32_w]
                  rfl
                refine pure_ (i := 4) (N := some 21) (v := ?_) (a' := ?_) #[true, true, true, false, true, false, false, false, false, false] rfl rfl (any_of HT_.out (by kernel_rfl)) (fun _ _ _ h => h) (Or.inl ⟨by rfl, ?_⟩) ?_ ?_
                rotate_left
                · intro w'
                  go_simp
                  with_reducible rfl
                rotate_left
                · simp only [Act.put, List.setIfInBounds_toArray, List.set_cons_zero, List.set_cons_succ, i64_w, i32_w]
                  rfl
                refine pure_ (i := 5) (N := some 22) (v := ?_) (a' := ?_) #[true, true, true, false, true, true, false, false, false, false] rfl rfl (any_of HT_.out (by kernel_rfl)) (fun _ _ _ h => h) (Or.inl ⟨by rfl, ?_⟩) ?_ ?_
                rotate_left
                · intro w'
                  go_simp
                  with_reducible rfl
                rotate_left
                · simp only [Act.put, List.setIfInBounds_toArray, List.set_cons_zero, List.set_cons_succ, i64_w, i32_w]
                  rfl
                refine pure_ (i := 6) (N := some 23) (v := ?_) (a' := ?_) #[true, true, true, false, true, true, true, false, false, false] rfl rfl (any_of HT_.out (by kernel_rfl)) (fun _ _ _ h => h) (Or.inl ⟨by rfl, ?_⟩) ?_ ?_
                rotate_left
                · intro w'
                  go_simp
                  with_reducible rfl
                rotate_left
                · simp only [Act.put, List.setIfInBounds_toArray, List.set_cons_zero, List.set_cons_succ, i64_w, i32_w]
                  rfl
                refine take_ (i := 3) (N := some 20) (v := ?_) (a' := ?_) #[true, true, true, true, true, true, true, false, false, false] rfl rfl (take_ofW HT_.out HW_.out (by kernel_rfl)) (fun _ _ _ h => h) (Or.inl ⟨by rfl, ?_⟩) hHeld ?_ ?_
                rotate_left
                · rintro w' ⟨s0, s1, s2, s3, s4, s5, s6, s7, s8, s9, s10, s11, s12, s13⟩
                  go_simp
                  with_reducible rfl
                rotate_left
                · simp only [Act.put, List.setIfInBounds_toArray, List.set_cons_zero, List.set_cons_succ, i64_w, i32_w]
                  rfl
                refine take_ (i := 7) (N := some 24) (v := ?_) (a' := ?_) #[true, true, true, true, true, true, true, true, false, false] rfl rfl (take_ofW HT_.out HW_.out (by kernel_rfl)) (fun _ _ _ h => h) (Or.inl ⟨by rfl, ?_⟩) hHeld ?_ ?_
                rotate_left
                · rintro w' ⟨s0, s1, s2, s3, s4, s5, s6, s7, s8, s9, s10, s11, s12, s13⟩
                  go_simp
                  with_reducible rfl
                rotate_left
                · simp only [Act.put, List.setIfInBounds_toArray, List.set_cons_zero, List.set_cons_succ, i64_w, i32_w]
                  rfl
                refine one_ (i := 8) (N := some 25) #[true, true, true, true, true, true, true, true, true, false] rfl rfl (one_of HT_.out (by kernel_rfl)) (by decide) (fun K hK => ?_)
                refine goes_ Try.func53 (by kernel_rfl) rfl #[.agg #[.int .i64 ((rd_T79 l0 x5_1).f0), .int .i64 ((rd_T79 l0 x5_1).f1), .int .i64 ((rd_T79 l0 x5_1).f2), .int .i64 ((rd_T79 l0 x5_1).f3.f0.f0), .int .i64 ((rd_T79 l0 x5_1).f3.f0.f1), .int .i64 ((rd_T79 l0 x5_1).f3.f0.f2), .slice A176_6 ((rd_T79 l0 x5_1).f3.f1).length c176_6], .agg #[.int .i64 ((rd_T79 l1 x5_1).f0), .int .i64 ((rd_T79 l1 x5_1).f1), .int .i64 ((rd_T79 l1 x5_1).f2), .int .i64 ((rd_T79 l1 x5_1).f3.f0.f0), .int .i64 ((rd_T79 l1 x5_1).f3.f0.f1), .int .i64 ((rd_T79 l1 x5_1).f3.f0.f2), .slice A177_6 ((rd_T79 l1 x5_1).f3.f1).length c177_6]] (by rfl) rfl rfl (by (try simp only [List.map_toArray, List.map_cons, List.map_nil]); first | done | rfl | (simp only [List.length_drop, List.length_take]; rfl)) ?_
                with_reducible refine (laws_eqEvent.calls k1 ((rd_T79 l0 x5_1).f0) ((rd_T79 l0 x5_1).f1) ((rd_T79 l0 x5_1).f2) ((rd_T79 l0 x5_1).f3.f0.f0) ((rd_T79 l0 x5_1).f3.f0.f1) ((rd_T79 l0 x5_1).f3.f0.f2) _ _ ((rd_T79 l0 x5_1).f3.f1) ((rd_T79 l1 x5_1).f0) ((rd_T79 l1 x5_1).f1) ((rd_T79 l1 x5_1).f2) ((rd_T79 l1 x5_1).f3.f0.f0) ((rd_T79 l1 x5_1).f3.f0.f1) ((rd_T79 l1 x5_1).f3.f0.f2) _ _ ((rd_T79 l1 x5_1).f3.f1) false _ ?side1 ?side2 ?side3 ?side4 A7.out).mono ?_
                (case side1 => repeat (first | exact (Kd.C_below HR176_6.out HB.out) | (with_reducible refine Kd.C_alloc ?_ _) | (with_reducible refine Kd.C_drewN ?_ _) | (with_reducible refine Kd.C_drew ?_)))
                (case side2 => exact HC176_6.out)
                (case side3 => repeat (first | exact (Kd.C_below HR177_6.out HB.out) | (with_reducible refine Kd.C_alloc ?_ _) | (with_reducible refine Kd.C_drewN ?_ _) | (with_reducible refine Kd.C_drew ?_)))
                (case side4 => exact HC177_6.out)
                rintro e w12 ⟨rfl, hb⟩
                refine ⟨_, rfl, ?_⟩
                have n0_ := Aside0.mk (below_step (by repeat (first | (with_reducible first | exact HB.out | apply below_alloc | apply pw_below_drewN | apply below_drew1) | exact HB.out)) hb)
                clear HB
                have HB := n0_
                clear n0_
                (try clear hb)
                (try clear hb2)
                (try clear hk)
                (try clear hi)
                refine hK.out _ _ ⟨((HB.out.cell (World.block_lt_of_cell? w _ hw176_0)).trans hw176_0), ((HB.out.cell (World.block_lt_of_cell? w _ hw176_1)).trans hw176_1), ((HB.out.cell (World.block_lt_of_cell? w _ hw176_2)).trans hw176_2), ((HB.out.cell (World.block_lt_of_cell? w _ hw176_3)).trans hw176_3), ((HB.out.cell (World.block_lt_of_cell? w _ hw176_4)).trans hw176_4), ((HB.out.cell (World.block_lt_of_cell? w _ hw176_5)).trans hw176_5), ((HB.out.cell (World.block_lt_of_cell? w _ hw176_6)).trans hw176_6), ((HB.out.cell (World.block_lt_of_cell? w _ hw177_0)).trans hw177_0), ((HB.out.cell (World.block_lt_of_cell? w _ hw177_1)).trans hw177_1), ((HB.out.cell (World.block_lt_of_cell? w _ hw177_2)).trans hw177_2), ((HB.out.cell (World.block_lt_of_cell? w _ hw177_3)).trans hw177_3), ((HB.out.cell (World.block_lt_of_cell? w _ hw177_4)).trans hw177_4), ((HB.out.cell (World.block_lt_of_cell? w _ hw177_5)).trans hw177_5), ((HB.out.cell (World.block_lt_of_cell? w _ hw177_6)).trans hw177_6)⟩ (fun hHeld => ?_)
                clear hK K
                refine norm_ (a' := ?_) ?_ ?_
                rotate_left
                · show Act.put _ (some 25) _ = _
                  simp only [Act.put, List.setIfInBounds_toArray, List.set_cons_zero, List.set_cons_succ, i64_w, i32_w]
                  rfl
                refine pure_ (i := 9) (N := some 26) (v := ?_) (a' := ?_) #[true, true, true, true, true, true, true, true, true, true] rfl rfl (any_of HT_.out (by kernel_rfl)) (fun _ _ _ h => h) (Or.inl ⟨by rfl, ?_⟩) ?_ ?_
                rotate_left
                · intro w'
                  go_simp
                  with_reducible rfl
                rotate_left
                · simp only [Act.put, List.setIfInBounds_toArray, List.set_cons_zero, List.set_cons_succ, i64_w, i32_w]
                  rfl
                refine done_ (done_of HT_.out (by kernel_rfl)) ?_
                try go_wp2
                go_ret
                exact ⟨by first | rfl | (simp [errW_none, errW_some] <;> rfl) | (simp [*, errW_none, errW_some] <;> rfl), by repeat (first | (with_reducible first | exact HB.out | apply below_alloc | apply pw_below_drewN | apply below_drew1) | exact HB.out)⟩
            · rw [if_neg c6] at H
              exact absurd H (by simp)
          · rw [if_neg c5] at H
            exact absurd H (by simp)
        · rw [if_neg c4] at H
          have c4b0 : decide (x5_1 < (l0.length : Int)) = false := decide_eq_false c4
          clear c4
          obtain rfl := Option.some.inj H
          go_wp2
          go_ret
          exact ⟨by first | rfl | (simp [errW_none, errW_some] <;> rfl) | (simp [*, errW_none, errW_some] <;> rfl), by repeat (first | (with_reducible first | exact HB.out | apply below_alloc | apply pw_below_drewN | apply below_drew1) | exact HB.out)⟩
  · rw [if_neg c3] at H
    have c3b0 : ((l0.length : Int) == (l1.length : Int)) = false := beq_eq_false_iff_ne.mpr c3
    have c3b1 : ((l0.length : Int) != (l1.length : Int)) = true := bne_iff_ne.mpr c3
    have c3b2 : (l0.length == l1.length) = false := by first | simpa using c3 | (simp at c3 ⊢; omega)
    obtain rfl := Option.some.inj H
    go_enter Try.func30, Try.ntmps30
    go_wp2
    go_ret
    exact ⟨by first | rfl | (simp [errW_none, errW_some] <;> rfl) | (simp [*, errW_none, errW_some] <;> rfl), by repeat (first | (with_reducible first | exact HB.out | apply below_alloc | apply pw_below_drewN | apply below_drew1) | exact HB.out)⟩

/-! ### laws_markEventS: function 31, by hand -/
set_option maxHeartbeats 8000000 in
theorem marks24 (Ad : Value) (n : Nat) (a : Int) (w0 w : World) (S : Nat → Prop) (hB : Below w0.heap.size w0 w) (hA : Leads w0 w S 3 Ad n) :
    Calls Try.prog 24 #[Ad, .int .i64 a] w fun e w' => e = .returned (.int .i64 (mkI n a)) ∧ Below w0.heap.size w0 w' ∧ MShape w w' ∧ Kept w w' S := by
  obtain ⟨A1, c1, rfl, hn, hA⟩ := hA
  have HA := Aside0.mk hA
  have HB := Aside0.mk hB
  clear hA hB
  go_enter Try.func24, Try.ntmps24
  go_wp2
  go_loopg [1, 5] n (fun gg v1 v5 wr => ∃ (kk : Nat) (x : Int), kk ≤ n ∧ n - kk ≤ gg ∧ v1 = .int .i64 x ∧ v5 = .int .i64 kk ∧ Aside0 (mkI (n - kk) x = mkI n a) ∧ Aside0 (Below w0.heap.size w0 wr) ∧ Aside0 (MShape w wr) ∧ Aside0 (Kept w wr S))
  case atStart => exact ⟨0, a, Nat.zero_le _, by omega, rfl, rfl, ⟨rfl⟩, HB, ⟨MShape.refl w⟩, ⟨Kept.refl w S⟩⟩
  case round =>
    obtain ⟨kk, x, hkk, hg, rfl, rfl, A9, BW, SW, KW⟩ := hrel
    by_cases hlt : kk < n
    · obtain ⟨g, cells, rfl, hS, hb, hh, hl⟩ := HA.out.resolve_left (by omega)
      have A8 : Aside0 (mkI (n - (kk + 1)) (wrap64 (x + 1)) = mkI n a) := ⟨by have h := A9.out; rwa [show n - kk = (n - (kk + 1)) + 1 by omega, mkI] at h⟩
      obtain ⟨x0, hc, hf⟩ := SW.out.at_ hh (o := kk) (by omega)
      have hltz : (kk : Int) < (n : Int) := by omega
      have N1 := Aside0.mk (below_set BW.out hb : Below w0.heap.size w0 (wr.setCell ⟨g, kk, none⟩ (.int .i64 x)))
      have N2 := Aside0.mk (SW.out.setCell g kk (.int .i64 x))
      have N3 := Aside0.mk (KW.out.setCell (p := ⟨g, kk, none⟩) (.inl hS) (.int .i64 x))
      clear HA hh hS hb hl A9 BW SW KW
      go_wp2
      go_roundg (n - (kk + 1))
      case measure => omega
      case rel => exact ⟨kk + 1, wrap64 (x + 1), by omega, by omega, rfl, by go_num, A8, N1, N2, N3⟩
    · have hltz : ¬ (kk : Int) < (n : Int) := by omega
      have A8 : Aside0 (x = mkI n a) := ⟨by have h := A9.out; rwa [show n - kk = 0 by omega, mkI] at h⟩
      clear A9
      go_wp2
      go_ret
      exact ⟨by rw [A8.out]; rfl, BW.out, SW.out, KW.out⟩
theorem leads_laws_markEventS {w0 w : World} {P : Nat → Prop} {v : Value} {l : List S79} (h : Kd.R k79 79 w w0.heap.size P v l) : ∃ A c g, v = .slice A l.length c ∧ l.length ≤ 9223372036854775807 ∧
    (l.length = 0 ∨ ∃ cells, A = some ⟨g, 0, none⟩ ∧ P g ∧ w0.heap.size ≤ g ∧ w.heap[g]? = some (.cells cells 79 (0, 0)) ∧ l.length * 7 ≤ cells.size ∧
      ∀ i, i < l.length → ∃ v1, w.cell? ⟨g, i * 7 + 6, none⟩ = some v1 ∧ Leads w0 w (fun k => P k ∧ k ≠ g) 3 v1 (l.getD i z79).f3.f1.length) := by
  obtain ⟨h0, inner, ho, hr⟩ := h
  rcases ho.2 with ⟨rfl, hn⟩ | ⟨g, cap, cur, rfl, hg, hh, hc, hm, hs, ht⟩
  · exact ⟨none, 0, 0, by rw [hn], by omega, .inl hn⟩
  · unfold maxLen at hm
    have hz : (k79).sz = 7 := rfl
    rw [hz] at hs ht
    refine ⟨_, cap, g, rfl, by omega, .inr ⟨cur, rfl, h0 g (by simp [Value.ownBlock]), hg, hh, by rw [hs]; omega, fun i hi => ?_⟩⟩
    have h1 := hr.2 i _ (List.getElem?_eq_getElem hi)
    obtain ⟨v1, hcs, hR⟩ := k79_openM h1
    refine ⟨v1, ?_, ?_⟩
    · have h2 := congrArg (fun z : List Value => z[6]?) hcs
      simp only [hz, ← ht, List.getElem?_take, List.getElem?_drop] at h2
      rw [blk_cell hh]
      have h3 : i * 7 + 6 < l.length * 7 := by omega
      simpa [h3] using h2
    · have h3 := Leads.of_R hR
      simp only [List.getD_eq_getElem?_getD, List.getElem?_eq_getElem hi, Option.getD_some]
      obtain ⟨A', c', rfl, hn', h4⟩ := h3
      refine ⟨A', c', rfl, hn', h4.imp id ?_⟩
      rintro ⟨g', cells, rfl, hs', r⟩
      exact ⟨g', cells, rfl, ⟨hs'.1, fun e => hs'.2 (by rw [e]; rfl)⟩, r⟩
/-- The number behind the marks of a row. -/
def mk_laws_markEventS : List S79 → Int → Int
  | [], a => a
  | t :: r, a => mk_laws_markEventS r (mkI t.f3.f1.length (wrap64 ((wrap64 ((wrap64 ((wrap64 ((wrap64 ((wrap64 (a + 1)) + 1)) + 1)) + 1)) + 1)) + 1)))
def laws_markEventS.f (l0 : List S79) (a1 : Int) : Option Int := some (mk_laws_markEventS l0 a1)
set_option maxHeartbeats 8000000 in
set_option maxRecDepth 100000 in
theorem laws_markEventS.calls (P0_ : Nat → Prop) (u9000_ : Value) (l0 : List S79) (a1 : Int) (r : Int) (w0 w : World) (hB : Below w0.heap.size w0 w) (ho0 : Kd.R k79 79 w w0.heap.size P0_ u9000_ l0) (h : laws_markEventS.f l0 a1 = some r) :
    Calls Try.prog 31 #[u9000_, .int .i64 a1] w fun e w' => e = .returned (.int .i64 r) ∧ Below w0.heap.size w0 w' ∧ Kept w w' P0_ := by
  obtain ⟨A1, c1, g, rfl, hn, hA⟩ := leads_laws_markEventS ho0
  have HA := Aside0.mk hA
  have HR : Aside0 (mk_laws_markEventS l0 a1 = r) := ⟨Option.some.inj h⟩
  have HI : Aside0 (MInv w0 w g P0_ (fun o => o % 7 = 6) w) := ⟨MInv.refl hB⟩
  clear hA ho0 h hB
  go_enter Try.func31, Try.ntmps31
  go_wp2
  go_loopg [1, 5] l0.length (fun gg v1 v5 wr => ∃ (kk : Nat) (x : Int), kk ≤ l0.length ∧ l0.length - kk ≤ gg ∧ v1 = .int .i64 x ∧ v5 = .int .i64 kk ∧ Aside0 (mk_laws_markEventS (l0.drop kk) x = r) ∧ Aside0 (MInv w0 w g P0_ (fun o => o % 7 = 6) wr))
  case atStart => exact ⟨0, a1, Nat.zero_le _, by omega, rfl, rfl, HR, HI⟩
  case round =>
    clear HR HI
    obtain ⟨kk, x, hkk, hg, rfl, rfl, A9, I0⟩ := hrel
    by_cases hlt : kk < l0.length
    · obtain ⟨cells, rfl, hP, hb, hh, hl, hv⟩ := HA.out.resolve_left (by omega)
      obtain ⟨v1, hv1, hL⟩ := hv kk hlt
      have A8 : Aside0 (mk_laws_markEventS (l0.drop (kk + 1)) (mkI (l0.getD kk z79).f3.f1.length (wrap64 ((wrap64 ((wrap64 ((wrap64 ((wrap64 ((wrap64 (x + 1)) + 1)) + 1)) + 1)) + 1)) + 1))) = r) := ⟨by have h := A9.out; rwa [List.drop_eq_getElem_cons hlt, mk_laws_markEventS, show l0[kk] = l0.getD kk z79 by simp [hlt]] at h⟩
      have HH := Aside0.mk hh
      have HL := Aside0.mk hL
      have HV : Aside0 (w.cell? ⟨g, kk * 7 + 6, none⟩ = some v1) := ⟨hv1⟩
      have HP := Aside0.mk hP
      have HB0 := Aside0.mk hb
      have HZ := Aside0.mk hl
      have D1 := Aside0.mk (I0.out.S.at_ HH.out (o := kk * 7) (by have := HZ.out; omega))
      have hltz : (kk : Int) < (l0.length : Int) := by omega
      clear HA hh hv hv1 hL A9 hP hb hl
      generalize (l0.getD kk z79).f3.f1.length = m at A8 HL
      go_wp2_with (first
        | ((with_reducible refine gate_store (t := 3) (p := 16) rfl ?_); refine store_event (t := 3) (p := 16) (v := ?vo16) (w1 := wr.setCell ⟨g, kk * 7, none⟩ (.int .i64 x)) ?hg ?ho ?hn ?hr ?_; (case ho => rfl); (case hg => rfl); (case hn => rfl); (case hr => obtain ⟨xx, hcc, hff⟩ := D1.out; first | (go_simp; done) | (go_simp; rfl)); intro w1 hw; have I1 : Aside0 (MInv w0 w g P0_ (fun o => o % 7 = 6) w1) := ⟨by rw [hw]; exact I0.out.set HP.out HB0.out _ (by omega) _⟩; clear hw D1 I0; have D2 := Aside0.mk (I1.out.S.at_ HH.out (o := kk * 7 + 1) (by have := HZ.out; omega)))
        | ((with_reducible refine gate_store (t := 3) (p := 23) rfl ?_); refine store_event (t := 3) (p := 23) (v := ?vo23) (w1 := w1.setCell ⟨g, kk * 7 + 1, none⟩ (.int .i64 (wrap64 (x + 1)))) ?hg ?ho ?hn ?hr ?_; (case ho => rfl); (case hg => rfl); (case hn => rfl); (case hr => obtain ⟨xx, hcc, hff⟩ := D2.out; first | (go_simp; done) | (go_simp; rfl)); intro w2 hw; have I2 : Aside0 (MInv w0 w g P0_ (fun o => o % 7 = 6) w2) := ⟨by rw [hw]; exact I1.out.set HP.out HB0.out _ (by omega) _⟩; clear hw D2 I1; have D3 := Aside0.mk (I2.out.S.at_ HH.out (o := kk * 7 + 2) (by have := HZ.out; omega)))
        | ((with_reducible refine gate_store (t := 3) (p := 30) rfl ?_); refine store_event (t := 3) (p := 30) (v := ?vo30) (w1 := w2.setCell ⟨g, kk * 7 + 2, none⟩ (.int .i64 (wrap64 ((wrap64 (x + 1)) + 1)))) ?hg ?ho ?hn ?hr ?_; (case ho => rfl); (case hg => rfl); (case hn => rfl); (case hr => obtain ⟨xx, hcc, hff⟩ := D3.out; first | (go_simp; done) | (go_simp; rfl)); intro w3 hw; have I3 : Aside0 (MInv w0 w g P0_ (fun o => o % 7 = 6) w3) := ⟨by rw [hw]; exact I2.out.set HP.out HB0.out _ (by omega) _⟩; clear hw D3 I2; have D4 := Aside0.mk (I3.out.S.at_ HH.out (o := kk * 7 + 3) (by have := HZ.out; omega)))
        | ((with_reducible refine gate_store (t := 3) (p := 39) rfl ?_); refine store_event (t := 3) (p := 39) (v := ?vo39) (w1 := w3.setCell ⟨g, kk * 7 + 3, none⟩ (.int .i64 (wrap64 ((wrap64 ((wrap64 (x + 1)) + 1)) + 1)))) ?hg ?ho ?hn ?hr ?_; (case ho => rfl); (case hg => rfl); (case hn => rfl); (case hr => obtain ⟨xx, hcc, hff⟩ := D4.out; first | (go_simp; done) | (go_simp; rfl)); intro w4 hw; have I4 : Aside0 (MInv w0 w g P0_ (fun o => o % 7 = 6) w4) := ⟨by rw [hw]; exact I3.out.set HP.out HB0.out _ (by omega) _⟩; clear hw D4 I3; have D5 := Aside0.mk (I4.out.S.at_ HH.out (o := kk * 7 + 4) (by have := HZ.out; omega)))
        | ((with_reducible refine gate_store (t := 3) (p := 48) rfl ?_); refine store_event (t := 3) (p := 48) (v := ?vo48) (w1 := w4.setCell ⟨g, kk * 7 + 4, none⟩ (.int .i64 (wrap64 ((wrap64 ((wrap64 ((wrap64 (x + 1)) + 1)) + 1)) + 1)))) ?hg ?ho ?hn ?hr ?_; (case ho => rfl); (case hg => rfl); (case hn => rfl); (case hr => obtain ⟨xx, hcc, hff⟩ := D5.out; first | (go_simp; done) | (go_simp; rfl)); intro w5 hw; have I5 : Aside0 (MInv w0 w g P0_ (fun o => o % 7 = 6) w5) := ⟨by rw [hw]; exact I4.out.set HP.out HB0.out _ (by omega) _⟩; clear hw D5 I4; have D6 := Aside0.mk (I5.out.S.at_ HH.out (o := kk * 7 + 5) (by have := HZ.out; omega)))
        | ((with_reducible refine gate_store (t := 3) (p := 57) rfl ?_); refine store_event (t := 3) (p := 57) (v := ?vo57) (w1 := w5.setCell ⟨g, kk * 7 + 5, none⟩ (.int .i64 (wrap64 ((wrap64 ((wrap64 ((wrap64 ((wrap64 (x + 1)) + 1)) + 1)) + 1)) + 1)))) ?hg ?ho ?hn ?hr ?_; (case ho => rfl); (case hg => rfl); (case hn => rfl); (case hr => obtain ⟨xx, hcc, hff⟩ := D6.out; first | (go_simp; done) | (go_simp; rfl)); intro w6 hw; have I6 : Aside0 (MInv w0 w g P0_ (fun o => o % 7 = 6) w6) := ⟨by rw [hw]; exact I5.out.set HP.out HB0.out _ (by omega) _⟩; clear hw D6 I5; have hc7 := (I6.out.same (kk * 7 + 6) (by omega)).trans HV.out)
        | (go_at_call 24; refine (marks24 v1 m _ w0 w6 _ I6.out.B (HL.out.later I6.out.S)).mono ?_; rintro e w7 ⟨rfl, hb2, hs2, hk2⟩; have I7 : Aside0 (MInv w0 w g P0_ (fun o => o % 7 = 6) w7) := ⟨I6.out.call (blk_lt (Classical.choose_spec (I6.out.S _ _ _ HH.out)).1) hb2 hs2 hk2 (fun _ h => h)⟩; clear hb2 hs2 hk2 hc7 I6))
      go_roundg (l0.length - (kk + 1))
      case measure => omega
      case rel => exact ⟨kk + 1, _, by omega, by omega, rfl, by go_num, A8, I7⟩
    · have hltz : ¬ (kk : Int) < (l0.length : Int) := by omega
      have A8 : Aside0 (x = r) := ⟨by have h := A9.out; rwa [List.drop_of_length_le (by omega), mk_laws_markEventS] at h⟩
      clear A9 HA
      go_wp2
      go_ret
      exact ⟨by rw [A8.out]; rfl, I0.out.B, I0.out.K⟩


end Go.Proofs.Ytoggdgahfagegaa.QFnExactDonesOf
