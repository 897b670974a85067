/- The Go functions that the statement FnExactNewSched reaches, as Lean functions, each with a proof that the call does what its function says; laid by a program of this session. No condition. -/
import Derived.Test.YtljboinndpnefaaQFnExactNewSchedx0
import Derived.Test.YtljboinndpnefaaQFnExactNewSchedx1
import Derived.Test.YtljboinndpnefaaQFnExactNewSchedx4
import Derived.Test.YtljboinndpnefaaQFnExactNewSchedx6
import Derived.Test.YtljboinndpnefaaQFnExactNewSchedx7
namespace Go.Proofs.Ytljboinndpnefaa.QFnExactNewSched
open Go.RowKit Go.Proofs.YtljboinndpnefaaW.PrintWords Go.Proofs.YtljboinndpnefaaW.PrintLast Go.Proofs.YtljboinndpnefaaW.PrintMore
attribute [local go_sem] max2_int min2_int max_two min_two max_three min_three max_four min_four   -- for this text's walks alone
set_option linter.unusedVariables false
set_option linter.unusedSimpArgs false

/-! ### laws_FnExactNewSched: function 5 -/
mutual
def laws_FnExactNewSched.j0 : Nat → Int → Int → Bool → Bool → Int → Int → Int → List (S27) → Int → Int → Int → Int → Int → Int → Int → List (S27) → Int → Int → Int → Int → Option (Bool)
  | 0, _, _, _, _, _, _, _, _, _, _, _, _, _, _, _, _, _, _, _, _ => none
  | k + 1, x0, x1, x6, x33, x197000, x197001, x197002, x197003, x197004, x197005, x197006, x197007, x209000, x209001, x209002, x209003, x209004, x209005, x209006, x209007 => if x33 = true then (some false) else ((laws_markSched.f x209000 x209001 x209002 x209003 x209004 x209005 x209006 x209007 1).bind fun t210 => ((laws_heldSched.f k x209000 x209001 x209002 x209003 x209004 x209005 x209006 x209007 1).bind fun t211 => (if t211 < 0 then (some false) else (if t211 = t210 then ((impl_NewSched.f k x0 x1).bind fun bt212 => ((laws_eqSched.f k bt212.1 bt212.2.1 bt212.2.2.1 bt212.2.2.2.1 bt212.2.2.2.2.1 bt212.2.2.2.2.2.1 bt212.2.2.2.2.2.2.1 bt212.2.2.2.2.2.2.2.1 x197000 x197001 x197002 x197003 x197004 x197005 x197006 x197007).bind fun t224 => (if t224 = true then (laws_FnExactNewSched.j1 k t210 (bt212.2.2.2.2.2.2.2.2 != x6) x209000 x209001 x209002 x209003 x209004 x209005 x209006 x209007) else (laws_FnExactNewSched.j1 k t210 true x209000 x209001 x209002 x209003 x209004 x209005 x209006 x209007)))) else (some false)))))
def laws_FnExactNewSched.j1 : Nat → Int → Bool → Int → Int → Int → List (S27) → Int → Int → Int → Int → Option (Bool)
  | 0, _, _, _, _, _, _, _, _, _, _ => none
  | k + 1, x9, x59, x209000, x209001, x209002, x209003, x209004, x209005, x209006, x209007 => if x59 = true then (some false) else ((laws_heldSched.f k x209000 x209001 x209002 x209003 x209004 x209005 x209006 x209007 1).bind fun t225 => (if t225 < 0 then (some false) else (if t225 = x9 then (some true) else (some false))))
end
def laws_FnExactNewSched.f (k : Nat) (a0 : Int) (a1 : Int) : Option (Bool) := (spec_NewSched.f k a0 a1).bind fun bt185 => ((impl_NewSched.f k a0 a1).bind fun bt197 => ((laws_eqSched.f k bt197.1 bt197.2.1 bt197.2.2.1 bt197.2.2.2.1 bt197.2.2.2.2.1 bt197.2.2.2.2.2.1 bt197.2.2.2.2.2.2.1 bt197.2.2.2.2.2.2.2.1 bt185.1 bt185.2.1 bt185.2.2.1 bt185.2.2.2.1 bt185.2.2.2.2.1 bt185.2.2.2.2.2.1 bt185.2.2.2.2.2.2.1 bt185.2.2.2.2.2.2.2.1).bind fun t209 => (if t209 = true then (laws_FnExactNewSched.j0 k a0 a1 bt185.2.2.2.2.2.2.2.2 (bt197.2.2.2.2.2.2.2.2 != bt185.2.2.2.2.2.2.2.2) bt185.1 bt185.2.1 bt185.2.2.1 bt185.2.2.2.1 bt185.2.2.2.2.1 bt185.2.2.2.2.2.1 bt185.2.2.2.2.2.2.1 bt185.2.2.2.2.2.2.2.1 bt197.1 bt197.2.1 bt197.2.2.1 bt197.2.2.2.1 bt197.2.2.2.2.1 bt197.2.2.2.2.2.1 bt197.2.2.2.2.2.2.1 bt197.2.2.2.2.2.2.2.1) else (laws_FnExactNewSched.j0 k a0 a1 bt185.2.2.2.2.2.2.2.2 true bt185.1 bt185.2.1 bt185.2.2.1 bt185.2.2.2.1 bt185.2.2.2.2.1 bt185.2.2.2.2.2.1 bt185.2.2.2.2.2.2.1 bt185.2.2.2.2.2.2.2.1 bt197.1 bt197.2.1 bt197.2.2.1 bt197.2.2.2.1 bt197.2.2.2.2.1 bt197.2.2.2.2.2.1 bt197.2.2.2.2.2.2.1 bt197.2.2.2.2.2.2.2.1))))
theorem laws_FnExactNewSched.mono_l : ∀ k, (∀ y0 y1 y2 y3 y4 y5 y6 y7 y8 y9 y10 y11 y12 y13 y14 y15 y16 y17 y18 y19, LeO (laws_FnExactNewSched.j0 k y0 y1 y2 y3 y4 y5 y6 y7 y8 y9 y10 y11 y12 y13 y14 y15 y16 y17 y18 y19) (laws_FnExactNewSched.j0 (k + 1) y0 y1 y2 y3 y4 y5 y6 y7 y8 y9 y10 y11 y12 y13 y14 y15 y16 y17 y18 y19)) ∧ (∀ y0 y1 y2 y3 y4 y5 y6 y7 y8 y9, LeO (laws_FnExactNewSched.j1 k y0 y1 y2 y3 y4 y5 y6 y7 y8 y9) (laws_FnExactNewSched.j1 (k + 1) y0 y1 y2 y3 y4 y5 y6 y7 y8 y9))
  | 0 => ⟨fun _ _ _ _ _ _ _ _ _ _ _ _ _ _ _ _ _ _ _ _ r h => by simp [laws_FnExactNewSched.j0] at h, fun _ _ _ _ _ _ _ _ _ _ r h => by simp [laws_FnExactNewSched.j1] at h⟩
  | k + 1 => by
    obtain ⟨ih0, ih1⟩ := laws_FnExactNewSched.mono_l k
    refine ⟨?_, ?_⟩
    · intro y0 y1 y2 y3 y4 y5 y6 y7 y8 y9 y10 y11 y12 y13 y14 y15 y16 y17 y18 y19
      unfold laws_FnExactNewSched.j0
      repeat' first
      | (with_reducible exact ih0 _ _ _ _ _ _ _ _ _ _ _ _ _ _ _ _ _ _ _ _)
      | (with_reducible exact ih1 _ _ _ _ _ _ _ _ _ _)
      | (with_reducible exact impl_NewSched.mono _ _ _)
      | (with_reducible exact laws_eqSched.mono _ _ _ _ _ _ _ _ _ _ _ _ _ _ _ _ _)
      | (with_reducible exact laws_heldSched.mono _ _ _ _ _ _ _ _ _ _)
      | (with_reducible exact spec_NewSched.mono _ _ _)
      | (with_reducible exact LeO.refl _)
      | (with_reducible exact LeO.none _)
      | (with_reducible refine LeO.ite ?_ ?_)
      | (with_reducible refine LeO.bind ?_ (fun _ => ?_))
      | exact ih0 _ _ _ _ _ _ _ _ _ _ _ _ _ _ _ _ _ _ _ _
      | exact ih1 _ _ _ _ _ _ _ _ _ _
      | exact impl_NewSched.mono _ _ _
      | exact laws_eqSched.mono _ _ _ _ _ _ _ _ _ _ _ _ _ _ _ _ _
      | exact laws_heldSched.mono _ _ _ _ _ _ _ _ _ _
      | exact spec_NewSched.mono _ _ _
      | exact LeO.none _
      | refine LeO.ite ?_ ?_
      | refine LeO.bind ?_ (fun _ => ?_)
    · intro y0 y1 y2 y3 y4 y5 y6 y7 y8 y9
      unfold laws_FnExactNewSched.j1
      repeat' first
      | (with_reducible exact ih0 _ _ _ _ _ _ _ _ _ _ _ _ _ _ _ _ _ _ _ _)
      | (with_reducible exact ih1 _ _ _ _ _ _ _ _ _ _)
      | (with_reducible exact impl_NewSched.mono _ _ _)
      | (with_reducible exact laws_eqSched.mono _ _ _ _ _ _ _ _ _ _ _ _ _ _ _ _ _)
      | (with_reducible exact laws_heldSched.mono _ _ _ _ _ _ _ _ _ _)
      | (with_reducible exact spec_NewSched.mono _ _ _)
      | (with_reducible exact LeO.refl _)
      | (with_reducible exact LeO.none _)
      | (with_reducible refine LeO.ite ?_ ?_)
      | (with_reducible refine LeO.bind ?_ (fun _ => ?_))
      | exact ih0 _ _ _ _ _ _ _ _ _ _ _ _ _ _ _ _ _ _ _ _
      | exact ih1 _ _ _ _ _ _ _ _ _ _
      | exact impl_NewSched.mono _ _ _
      | exact laws_eqSched.mono _ _ _ _ _ _ _ _ _ _ _ _ _ _ _ _ _
      | exact laws_heldSched.mono _ _ _ _ _ _ _ _ _ _
      | exact spec_NewSched.mono _ _ _
      | exact LeO.none _
      | refine LeO.ite ?_ ?_
      | refine LeO.bind ?_ (fun _ => ?_)
theorem laws_FnExactNewSched.mono : ∀ a0 a1 k, LeO (laws_FnExactNewSched.f k a0 a1) (laws_FnExactNewSched.f (k + 1) a0 a1) := by
  intro a0 a1 k
  obtain ⟨ih0, ih1⟩ := laws_FnExactNewSched.mono_l k
  unfold laws_FnExactNewSched.f
  repeat' first
      | (with_reducible exact ih0 _ _ _ _ _ _ _ _ _ _ _ _ _ _ _ _ _ _ _ _)
      | (with_reducible exact ih1 _ _ _ _ _ _ _ _ _ _)
      | (with_reducible exact impl_NewSched.mono _ _ _)
      | (with_reducible exact laws_eqSched.mono _ _ _ _ _ _ _ _ _ _ _ _ _ _ _ _ _)
      | (with_reducible exact laws_heldSched.mono _ _ _ _ _ _ _ _ _ _)
      | (with_reducible exact spec_NewSched.mono _ _ _)
      | (with_reducible exact LeO.refl _)
      | (with_reducible exact LeO.none _)
      | (with_reducible refine LeO.ite ?_ ?_)
      | (with_reducible refine LeO.bind ?_ (fun _ => ?_))
      | exact ih0 _ _ _ _ _ _ _ _ _ _ _ _ _ _ _ _ _ _ _ _
      | exact ih1 _ _ _ _ _ _ _ _ _ _
      | exact impl_NewSched.mono _ _ _
      | exact laws_eqSched.mono _ _ _ _ _ _ _ _ _ _ _ _ _ _ _ _ _
      | exact laws_heldSched.mono _ _ _ _ _ _ _ _ _ _
      | exact spec_NewSched.mono _ _ _
      | exact LeO.none _
      | refine LeO.ite ?_ ?_
      | refine LeO.bind ?_ (fun _ => ?_)
set_option maxHeartbeats 8000000 in
set_option maxRecDepth 100000 in
theorem laws_FnExactNewSched.calls (k : Nat) (a0 : Int) (a1 : Int) (r : Bool) (w : World) (hr_ : Aside0 (r = true)) (h : laws_FnExactNewSched.f k a0 a1 = some r) :
    Calls Try.prog 5 #[.int .i64 a0, .int .i64 a1] w fun e w' => e = .returned (.bool r) ∧ Below w.heap.size w w' := by
  have hu38 := Try.underlying38
  have HB := Aside0.mk (Below.refl w.heap.size w)
  have H : ((spec_NewSched.f k a0 a1).bind fun bt185 => ((impl_NewSched.f k a0 a1).bind fun bt197 => ((laws_eqSched.f k bt197.1 bt197.2.1 bt197.2.2.1 bt197.2.2.2.1 bt197.2.2.2.2.1 bt197.2.2.2.2.2.1 bt197.2.2.2.2.2.2.1 bt197.2.2.2.2.2.2.2.1 bt185.1 bt185.2.1 bt185.2.2.1 bt185.2.2.2.1 bt185.2.2.2.2.1 bt185.2.2.2.2.2.1 bt185.2.2.2.2.2.2.1 bt185.2.2.2.2.2.2.2.1).bind fun t209 => (if t209 = true then (laws_FnExactNewSched.j0 k a0 a1 bt185.2.2.2.2.2.2.2.2 (bt197.2.2.2.2.2.2.2.2 != bt185.2.2.2.2.2.2.2.2) bt185.1 bt185.2.1 bt185.2.2.1 bt185.2.2.2.1 bt185.2.2.2.2.1 bt185.2.2.2.2.2.1 bt185.2.2.2.2.2.2.1 bt185.2.2.2.2.2.2.2.1 bt197.1 bt197.2.1 bt197.2.2.1 bt197.2.2.2.1 bt197.2.2.2.2.1 bt197.2.2.2.2.2.1 bt197.2.2.2.2.2.2.1 bt197.2.2.2.2.2.2.2.1) else (laws_FnExactNewSched.j0 k a0 a1 bt185.2.2.2.2.2.2.2.2 true bt185.1 bt185.2.1 bt185.2.2.1 bt185.2.2.2.1 bt185.2.2.2.2.1 bt185.2.2.2.2.2.1 bt185.2.2.2.2.2.2.1 bt185.2.2.2.2.2.2.2.1 bt197.1 bt197.2.1 bt197.2.2.1 bt197.2.2.2.1 bt197.2.2.2.2.1 bt197.2.2.2.2.2.1 bt197.2.2.2.2.2.2.1 bt197.2.2.2.2.2.2.2.1))))) = some r := h
  clear h
  replace H := Option.bind_eq_some_iff.mp H
  obtain ⟨⟨t185, t186, t187, t188, t191, t192, t193, t194, t195⟩, A30, H⟩ := H
  replace H : ((impl_NewSched.f k a0 a1).bind fun bt197 => ((laws_eqSched.f k bt197.1 bt197.2.1 bt197.2.2.1 bt197.2.2.2.1 bt197.2.2.2.2.1 bt197.2.2.2.2.2.1 bt197.2.2.2.2.2.2.1 bt197.2.2.2.2.2.2.2.1 t185 t186 t187 t188 t191 t192 t193 t194).bind fun t209 => (if t209 = true then (laws_FnExactNewSched.j0 k a0 a1 t195 (bt197.2.2.2.2.2.2.2.2 != t195) t185 t186 t187 t188 t191 t192 t193 t194 bt197.1 bt197.2.1 bt197.2.2.1 bt197.2.2.2.1 bt197.2.2.2.2.1 bt197.2.2.2.2.2.1 bt197.2.2.2.2.2.2.1 bt197.2.2.2.2.2.2.2.1) else (laws_FnExactNewSched.j0 k a0 a1 t195 true t185 t186 t187 t188 t191 t192 t193 t194 bt197.1 bt197.2.1 bt197.2.2.1 bt197.2.2.2.1 bt197.2.2.2.2.1 bt197.2.2.2.2.2.1 bt197.2.2.2.2.2.2.1 bt197.2.2.2.2.2.2.2.1)))) = some r := H
  have A3 := Aside0.mk A30
  clear A30
  replace H := Option.bind_eq_some_iff.mp H
  obtain ⟨⟨t197, t198, t199, t200, t203, t204, t205, t206, t207⟩, A40, H⟩ := H
  replace H : ((laws_eqSched.f k t197 t198 t199 t200 t203 t204 t205 t206 t185 t186 t187 t188 t191 t192 t193 t194).bind fun t209 => (if t209 = true then (laws_FnExactNewSched.j0 k a0 a1 t195 (t207 != t195) t185 t186 t187 t188 t191 t192 t193 t194 t197 t198 t199 t200 t203 t204 t205 t206) else (laws_FnExactNewSched.j0 k a0 a1 t195 true t185 t186 t187 t188 t191 t192 t193 t194 t197 t198 t199 t200 t203 t204 t205 t206))) = some r := H
  have A4 := Aside0.mk A40
  clear A40
  have HC5 := Aside0.mk H
  clear H
  go_enter Try.func5, Try.ntmps5
  go_upto_region 3 with (first | ((with_reducible refine gate_callee (f := 24) rfl ?_); refine goesL_ (some 16) rfl rfl Try.func24 (by kernel_rfl) rfl #[.int .i64 a0, .int .i64 a1] rfl (by (try simp only [List.map_toArray, List.map_cons, List.map_nil]); first | done | rfl | (simp only [List.length_drop, List.length_take]; rfl)) ?_; (with_reducible refine (spec_NewSched.calls k a0 a1 t185 t186 t187 t188 t191 t192 t193 t194 t195 _ A3.out).mono ?_); rintro e w6 ⟨v189, rfl, ho0, hb⟩; refine ⟨_, rfl, ?_⟩; have n0_ := Aside0.mk (Kd.S_lower ho0 (below_size (by repeat (first | (with_reducible first | exact HB.out | apply below_alloc | apply pw_below_drewN | apply below_drew1) | exact HB.out)))); have n1_ := Aside0.mk (below_step (by repeat (first | (with_reducible first | exact HB.out | apply below_alloc | apply pw_below_drewN | apply below_drew1) | exact HB.out)) hb); clear HB; have HO190 := n0_; have HB := n1_; clear n0_ n1_; (try clear hb); (try clear hb2); (try clear hk); (try clear hi); (try clear ho0)) | ((with_reducible refine gate_dst (N := 5) rfl ?_); refine box_event ?hg (N := 5) ?hd (cs := #[.int .i64 0, .int .i64 0, .int .i64 0, .slice none 0 0, .int .i64 0, .int .i64 0, .int .i64 0, .int .i64 0]) (t := 38) ?hr ?_; (case hd => rfl); (case hg => rfl); (case hr => first | (go_simp; done) | (go_simp; rfl)); intro gb196 hg w7 hbox hb; have n0_ := Aside0.mk (Kd.S_below (by (with_reducible repeat (first | apply Kd.S_alloc | apply Kd.S_drewN | apply Kd.S_drew)); exact HO190.out) hb); have n1_ := Aside0.mk (below_step (by repeat (first | (with_reducible first | exact HB.out | apply below_alloc | apply pw_below_drewN | apply below_drew1) | exact HB.out)) hb); have n2_ := Aside0.mk (hbox); have n3_ := Aside0.mk ((by rw [hg]; exact (below_size (by repeat (first | (with_reducible first | exact HB.out | apply below_alloc | apply pw_below_drewN | apply below_drew1) | exact HB.out))) : w.heap.size ≤ gb196)); have n4_ := Aside0.mk ((by rw [hg]; exact (below_size (by repeat (first | (with_reducible first | exact HB.out | apply below_alloc | apply pw_below_drewN | apply below_drew1) | exact HB.out))) : w.heap.size ≤ gb196)); clear HO190; clear HB; have HO190 := n0_; have HB := n1_; have BK196 := n2_; have GW196 := n3_; have GE196 := n4_; clear n0_ n1_ n2_ n3_ n4_; clear hb hbox hg; have hcz8_0 : w7.cell? ⟨gb196, 0, none⟩ = some (.int .i64 0) := (blk_cell BK196.out 0).trans rfl; have hcz8_1 : w7.cell? ⟨gb196, 1, none⟩ = some (.int .i64 0) := (blk_cell BK196.out 1).trans rfl; have hcz8_2 : w7.cell? ⟨gb196, 2, none⟩ = some (.int .i64 0) := (blk_cell BK196.out 2).trans rfl; have hcz8_3 : w7.cell? ⟨gb196, 3, none⟩ = some (.slice none 0 0) := (blk_cell BK196.out 3).trans rfl; have hcz8_4 : w7.cell? ⟨gb196, 4, none⟩ = some (.int .i64 0) := (blk_cell BK196.out 4).trans rfl; have hcz8_5 : w7.cell? ⟨gb196, 5, none⟩ = some (.int .i64 0) := (blk_cell BK196.out 5).trans rfl; have hcz8_6 : w7.cell? ⟨gb196, 6, none⟩ = some (.int .i64 0) := (blk_cell BK196.out 6).trans rfl; have hcz8_7 : w7.cell? ⟨gb196, 7, none⟩ = some (.int .i64 0) := (blk_cell BK196.out 7).trans rfl; have hfz8_0 := blk_frozen BK196.out 0; have hfz8_1 := blk_frozen BK196.out 1; have hfz8_2 := blk_frozen BK196.out 2; have hfz8_3 := blk_frozen BK196.out 3; have hfz8_4 := blk_frozen BK196.out 4; have hfz8_5 := blk_frozen BK196.out 5; have hfz8_6 := blk_frozen BK196.out 6; have hfz8_7 := blk_frozen BK196.out 7; obtain ⟨Ao9, co9, eo9⟩ := Kd.S_slice HO190.out; subst eo9) | ((with_reducible refine gate_callee (f := 25) rfl ?_); refine goesL_ (some 22) rfl rfl Try.func25 (by kernel_rfl) rfl #[.int .i64 a0, .int .i64 a1] rfl (by (try simp only [List.map_toArray, List.map_cons, List.map_nil]); first | done | rfl | (simp only [List.length_drop, List.length_take]; rfl)) ?_; (with_reducible refine (impl_NewSched.calls k a0 a1 t197 t198 t199 t200 t203 t204 t205 t206 t207 _ A4.out).mono ?_); rintro e w10 ⟨v201, rfl, ho0, hb⟩; refine ⟨_, rfl, ?_⟩; have n0_ := Aside0.mk (Kd.S_elder' (by (with_reducible repeat (first | apply Kd.S_alloc | apply Kd.S_drewN | apply Kd.S_drew)); exact (Kd.S_mono (Kd.S_far (p := ⟨gb196, 7, none⟩) (Kd.S_far (p := ⟨gb196, 6, none⟩) (Kd.S_far (p := ⟨gb196, 5, none⟩) (Kd.S_far (p := ⟨gb196, 4, none⟩) (Kd.S_far (p := ⟨gb196, 3, none⟩) (Kd.S_far (p := ⟨gb196, 2, none⟩) (Kd.S_far (p := ⟨gb196, 1, none⟩) (Kd.S_far (p := ⟨gb196, 0, none⟩) (Kd.S_types HO190.out BK196.out (by decide)) (fun _ hk => hk.2) (.int .i64 t185)) (fun _ hk => hk.2) (.int .i64 t186)) (fun _ hk => hk.2) (.int .i64 t187)) (fun _ hk => hk.2) (.slice Ao9 t188.length co9)) (fun _ hk => hk.2) (.int .i64 t191)) (fun _ hk => hk.2) (.int .i64 t192)) (fun _ hk => hk.2) (.int .i64 t193)) (fun _ hk => hk.2) (.int .i64 t194)) (fun _ h_ => h_.1))) (Kd.S_base ho0) hb); have n1_ := Aside0.mk (Kd.S_lower (Kd.S_new' ho0 (Kd.S_lt (by (with_reducible repeat (first | apply Kd.S_alloc | apply Kd.S_drewN | apply Kd.S_drew)); exact (Kd.S_mono (Kd.S_far (p := ⟨gb196, 7, none⟩) (Kd.S_far (p := ⟨gb196, 6, none⟩) (Kd.S_far (p := ⟨gb196, 5, none⟩) (Kd.S_far (p := ⟨gb196, 4, none⟩) (Kd.S_far (p := ⟨gb196, 3, none⟩) (Kd.S_far (p := ⟨gb196, 2, none⟩) (Kd.S_far (p := ⟨gb196, 1, none⟩) (Kd.S_far (p := ⟨gb196, 0, none⟩) (Kd.S_types HO190.out BK196.out (by decide)) (fun _ hk => hk.2) (.int .i64 t185)) (fun _ hk => hk.2) (.int .i64 t186)) (fun _ hk => hk.2) (.int .i64 t187)) (fun _ hk => hk.2) (.slice Ao9 t188.length co9)) (fun _ hk => hk.2) (.int .i64 t191)) (fun _ hk => hk.2) (.int .i64 t192)) (fun _ hk => hk.2) (.int .i64 t193)) (fun _ hk => hk.2) (.int .i64 t194)) (fun _ h_ => h_.1))))) (below_size (by repeat (first | (with_reducible first | exact HB.out | apply below_alloc | apply pw_below_drewN | apply below_drew1 | refine below_set ?_ GE196.out) | exact HB.out)))); have n2_ := Aside0.mk (blk_below (g := gb196) (o := .cells #[.int .i64 t185, .int .i64 t186, .int .i64 t187, .slice Ao9 t188.length co9, .int .i64 t191, .int .i64 t192, .int .i64 t193, .int .i64 t194] 38 (0, 0)) (by (with_reducible repeat (first | refine blk_drewN ?_ _ | refine blk_drew ?_ | refine blk_alloc ?_ _)); refine blk_put (cs := #[.int .i64 t185, .int .i64 t186, .int .i64 t187, .slice Ao9 t188.length co9, .int .i64 t191, .int .i64 t192, .int .i64 t193, .int .i64 0]) ?_ 7 _ rfl; (with_reducible repeat (first | refine blk_drewN ?_ _ | refine blk_drew ?_ | refine blk_alloc ?_ _)); refine blk_put (cs := #[.int .i64 t185, .int .i64 t186, .int .i64 t187, .slice Ao9 t188.length co9, .int .i64 t191, .int .i64 t192, .int .i64 0, .int .i64 0]) ?_ 6 _ rfl; (with_reducible repeat (first | refine blk_drewN ?_ _ | refine blk_drew ?_ | refine blk_alloc ?_ _)); refine blk_put (cs := #[.int .i64 t185, .int .i64 t186, .int .i64 t187, .slice Ao9 t188.length co9, .int .i64 t191, .int .i64 0, .int .i64 0, .int .i64 0]) ?_ 5 _ rfl; (with_reducible repeat (first | refine blk_drewN ?_ _ | refine blk_drew ?_ | refine blk_alloc ?_ _)); refine blk_put (cs := #[.int .i64 t185, .int .i64 t186, .int .i64 t187, .slice Ao9 t188.length co9, .int .i64 0, .int .i64 0, .int .i64 0, .int .i64 0]) ?_ 4 _ rfl; (with_reducible repeat (first | refine blk_drewN ?_ _ | refine blk_drew ?_ | refine blk_alloc ?_ _)); refine blk_put (cs := #[.int .i64 t185, .int .i64 t186, .int .i64 t187, .slice none 0 0, .int .i64 0, .int .i64 0, .int .i64 0, .int .i64 0]) ?_ 3 _ rfl; (with_reducible repeat (first | refine blk_drewN ?_ _ | refine blk_drew ?_ | refine blk_alloc ?_ _)); refine blk_put (cs := #[.int .i64 t185, .int .i64 t186, .int .i64 0, .slice none 0 0, .int .i64 0, .int .i64 0, .int .i64 0, .int .i64 0]) ?_ 2 _ rfl; (with_reducible repeat (first | refine blk_drewN ?_ _ | refine blk_drew ?_ | refine blk_alloc ?_ _)); refine blk_put (cs := #[.int .i64 t185, .int .i64 0, .int .i64 0, .slice none 0 0, .int .i64 0, .int .i64 0, .int .i64 0, .int .i64 0]) ?_ 1 _ rfl; (with_reducible repeat (first | refine blk_drewN ?_ _ | refine blk_drew ?_ | refine blk_alloc ?_ _)); refine blk_put (cs := #[.int .i64 0, .int .i64 0, .int .i64 0, .slice none 0 0, .int .i64 0, .int .i64 0, .int .i64 0, .int .i64 0]) ?_ 0 _ rfl; (with_reducible repeat (first | refine blk_drewN ?_ _ | refine blk_drew ?_ | refine blk_alloc ?_ _)); exact BK196.out) hb); have n3_ := Aside0.mk (below_step (by repeat (first | (with_reducible first | exact HB.out | apply below_alloc | apply pw_below_drewN | apply below_drew1 | refine below_set ?_ GE196.out) | exact HB.out)) hb); clear HO190; clear BK196; clear HB; have HO190 := n0_; have HO202 := n1_; have BK196 := n2_; have HB := n3_; clear n0_ n1_ n2_ n3_; (try clear hb); (try clear hb2); (try clear hk); (try clear hi); (try clear ho0)) | ((with_reducible refine gate_dst (N := 7) rfl ?_); refine box_event ?hg (N := 7) ?hd (cs := #[.int .i64 0, .int .i64 0, .int .i64 0, .slice none 0 0, .int .i64 0, .int .i64 0, .int .i64 0, .int .i64 0]) (t := 38) ?hr ?_; (case hd => rfl); (case hg => rfl); (case hr => first | (go_simp; done) | (go_simp; rfl)); intro gb208 hg w11 hbox hb; have n0_ := Aside0.mk (Kd.S_below (by (with_reducible repeat (first | apply Kd.S_alloc | apply Kd.S_drewN | apply Kd.S_drew)); exact HO190.out) hb); have n1_ := Aside0.mk (Kd.S_below (by (with_reducible repeat (first | apply Kd.S_alloc | apply Kd.S_drewN | apply Kd.S_drew)); exact HO202.out) hb); have n2_ := Aside0.mk (blk_below (g := gb196) (o := .cells #[.int .i64 t185, .int .i64 t186, .int .i64 t187, .slice Ao9 t188.length co9, .int .i64 t191, .int .i64 t192, .int .i64 t193, .int .i64 t194] 38 (0, 0)) (by (with_reducible repeat (first | refine blk_drewN ?_ _ | refine blk_drew ?_ | refine blk_alloc ?_ _)); exact BK196.out) hb); have n3_ := Aside0.mk (below_step (by repeat (first | (with_reducible first | exact HB.out | apply below_alloc | apply pw_below_drewN | apply below_drew1 | refine below_set ?_ GE196.out) | exact HB.out)) hb); have n4_ := Aside0.mk (hbox); have n5_ := Aside0.mk ((by rw [hg]; exact (below_size (by repeat (first | (with_reducible first | exact HB.out | apply below_alloc | apply pw_below_drewN | apply below_drew1 | refine below_set ?_ GE196.out) | exact HB.out))) : w.heap.size ≤ gb208)); have n6_ := Aside0.mk ((by rw [hg]; exact (below_size (by repeat (first | (with_reducible first | exact HB.out | apply below_alloc | apply pw_below_drewN | apply below_drew1 | refine below_set ?_ GE196.out) | exact HB.out))) : w.heap.size ≤ gb208)); have n7_ := Aside0.mk ((by rw [hg]; exact Nat.ne_of_lt (blk_lt (g := gb196) (o := .cells #[.int .i64 t185, .int .i64 t186, .int .i64 t187, .slice Ao9 t188.length co9, .int .i64 t191, .int .i64 t192, .int .i64 t193, .int .i64 t194] 38 (0, 0)) (by (with_reducible repeat (first | refine blk_drewN ?_ _ | refine blk_drew ?_ | refine blk_alloc ?_ _)); exact BK196.out)) : gb196 ≠ gb208)); have n8_ := Aside0.mk ((by rw [hg]; exact Nat.ne_of_gt (blk_lt (g := gb196) (o := .cells #[.int .i64 t185, .int .i64 t186, .int .i64 t187, .slice Ao9 t188.length co9, .int .i64 t191, .int .i64 t192, .int .i64 t193, .int .i64 t194] 38 (0, 0)) (by (with_reducible repeat (first | refine blk_drewN ?_ _ | refine blk_drew ?_ | refine blk_alloc ?_ _)); exact BK196.out)) : gb208 ≠ gb196)); clear HO190; clear HO202; clear BK196; clear HB; have HO190 := n0_; have HO202 := n1_; have BK196 := n2_; have HB := n3_; have BK208 := n4_; have GW208 := n5_; have GE208 := n6_; have NB196_208 := n7_; have NB208_196 := n8_; clear n0_ n1_ n2_ n3_ n4_ n5_ n6_ n7_ n8_; clear hb hbox hg; have hnb12 := NB208_196.out; have hnc12 := NB196_208.out; have hcz13_0 : w11.cell? ⟨gb208, 0, none⟩ = some (.int .i64 0) := (blk_cell BK208.out 0).trans rfl; have hcz13_1 : w11.cell? ⟨gb208, 1, none⟩ = some (.int .i64 0) := (blk_cell BK208.out 1).trans rfl; have hcz13_2 : w11.cell? ⟨gb208, 2, none⟩ = some (.int .i64 0) := (blk_cell BK208.out 2).trans rfl; have hcz13_3 : w11.cell? ⟨gb208, 3, none⟩ = some (.slice none 0 0) := (blk_cell BK208.out 3).trans rfl; have hcz13_4 : w11.cell? ⟨gb208, 4, none⟩ = some (.int .i64 0) := (blk_cell BK208.out 4).trans rfl; have hcz13_5 : w11.cell? ⟨gb208, 5, none⟩ = some (.int .i64 0) := (blk_cell BK208.out 5).trans rfl; have hcz13_6 : w11.cell? ⟨gb208, 6, none⟩ = some (.int .i64 0) := (blk_cell BK208.out 6).trans rfl; have hcz13_7 : w11.cell? ⟨gb208, 7, none⟩ = some (.int .i64 0) := (blk_cell BK208.out 7).trans rfl; have hfz13_0 := blk_frozen BK208.out 0; have hfz13_1 := blk_frozen BK208.out 1; have hfz13_2 := blk_frozen BK208.out 2; have hfz13_3 := blk_frozen BK208.out 3; have hfz13_4 := blk_frozen BK208.out 4; have hfz13_5 := blk_frozen BK208.out 5; have hfz13_6 := blk_frozen BK208.out 6; have hfz13_7 := blk_frozen BK208.out 7; obtain ⟨Ao14, co14, eo14⟩ := Kd.S_slice HO202.out; subst eo14))
  (try simp only [Act.put, List.setIfInBounds_toArray, List.set_cons_zero, List.set_cons_succ])
  go_cut [33] (fun v33 wc => ∃ (kq : Nat) (x33_4 : Bool), v33 = .bool x33_4 ∧ Aside0 (laws_FnExactNewSched.j0 kq a0 a1 t195 x33_4 t185 t186 t187 t188 t191 t192 t193 t194 t197 t198 t199 t200 t203 t204 t205 t206 = some r) ∧ Aside0 (kq ≤ k) ∧ Aside0 (Kd.S k27 27 wc w.heap.size (fun k_ => some k_ ≠ ((.slice Ao14 t200.length co14) : Value).ownBlock) (.slice Ao9 t188.length co9) t188) ∧ Aside0 (Kd.S k27 27 wc w.heap.size (fun k_ => some k_ ≠ ((.slice Ao9 t188.length co9) : Value).ownBlock) (.slice Ao14 t200.length co14) t200) ∧ Aside0 (wc.heap[gb196]? = some (.cells #[.int .i64 t185, .int .i64 t186, .int .i64 t187, (.slice Ao9 t188.length co9), .int .i64 t191, .int .i64 t192, .int .i64 t193, .int .i64 t194] 38 (0, 0))) ∧ Aside0 (wc.heap[gb208]? = some (.cells #[.int .i64 t197, .int .i64 t198, .int .i64 t199, (.slice Ao14 t200.length co14), .int .i64 t203, .int .i64 t204, .int .i64 t205, .int .i64 t206] 38 (0, 0))) ∧ Aside0 (Below w.heap.size w wc))
  case first =>
    have H := HC5.out
    clear HC5
    replace H := Option.bind_eq_some_iff.mp H
    obtain ⟨t209, A150, H⟩ := H
    replace H : (if t209 = true then (laws_FnExactNewSched.j0 k a0 a1 t195 (t207 != t195) t185 t186 t187 t188 t191 t192 t193 t194 t197 t198 t199 t200 t203 t204 t205 t206) else (laws_FnExactNewSched.j0 k a0 a1 t195 true t185 t186 t187 t188 t191 t192 t193 t194 t197 t198 t199 t200 t203 t204 t205 t206)) = some r := H
    have A15 := Aside0.mk A150
    clear A150
    by_cases c16 : t209 = true
    · subst c16
      have H1 : (laws_FnExactNewSched.j0 k a0 a1 t195 (t207 != t195) t185 t186 t187 t188 t191 t192 t193 t194 t197 t198 t199 t200 t203 t204 t205 t206) = some r := by rw [if_pos rfl] at H; exact H
      clear H
      have H := H1
      clear H1
      have H' := Aside0.mk H
      clear H
      have hnb17 := NB208_196.out
      have hnc17 := NB196_208.out
      have hcz18_0 : w11.cell? ⟨gb208, 0, none⟩ = some (.int .i64 0) := (blk_cell BK208.out 0).trans rfl
      have hcz18_1 : w11.cell? ⟨gb208, 1, none⟩ = some (.int .i64 0) := (blk_cell BK208.out 1).trans rfl
      have hcz18_2 : w11.cell? ⟨gb208, 2, none⟩ = some (.int .i64 0) := (blk_cell BK208.out 2).trans rfl
      have hcz18_3 : w11.cell? ⟨gb208, 3, none⟩ = some (.slice none 0 0) := (blk_cell BK208.out 3).trans rfl
      have hcz18_4 : w11.cell? ⟨gb208, 4, none⟩ = some (.int .i64 0) := (blk_cell BK208.out 4).trans rfl
      have hcz18_5 : w11.cell? ⟨gb208, 5, none⟩ = some (.int .i64 0) := (blk_cell BK208.out 5).trans rfl
      have hcz18_6 : w11.cell? ⟨gb208, 6, none⟩ = some (.int .i64 0) := (blk_cell BK208.out 6).trans rfl
      have hcz18_7 : w11.cell? ⟨gb208, 7, none⟩ = some (.int .i64 0) := (blk_cell BK208.out 7).trans rfl
      have hfz18_0 := blk_frozen BK208.out 0
      have hfz18_1 := blk_frozen BK208.out 1
      have hfz18_2 := blk_frozen BK208.out 2
      have hfz18_3 := blk_frozen BK208.out 3
      have hfz18_4 := blk_frozen BK208.out 4
      have hfz18_5 := blk_frozen BK208.out 5
      have hfz18_6 := blk_frozen BK208.out 6
      have hfz18_7 := blk_frozen BK208.out 7
      have hcz19_0 : w11.cell? ⟨gb196, 0, none⟩ = some (.int .i64 t185) := (blk_cell BK196.out 0).trans rfl
      have hcz19_1 : w11.cell? ⟨gb196, 1, none⟩ = some (.int .i64 t186) := (blk_cell BK196.out 1).trans rfl
      have hcz19_2 : w11.cell? ⟨gb196, 2, none⟩ = some (.int .i64 t187) := (blk_cell BK196.out 2).trans rfl
      have hcz19_3 : w11.cell? ⟨gb196, 3, none⟩ = some (.slice Ao9 t188.length co9) := (blk_cell BK196.out 3).trans rfl
      have hcz19_4 : w11.cell? ⟨gb196, 4, none⟩ = some (.int .i64 t191) := (blk_cell BK196.out 4).trans rfl
      have hcz19_5 : w11.cell? ⟨gb196, 5, none⟩ = some (.int .i64 t192) := (blk_cell BK196.out 5).trans rfl
      have hcz19_6 : w11.cell? ⟨gb196, 6, none⟩ = some (.int .i64 t193) := (blk_cell BK196.out 6).trans rfl
      have hcz19_7 : w11.cell? ⟨gb196, 7, none⟩ = some (.int .i64 t194) := (blk_cell BK196.out 7).trans rfl
      have hfz19_0 := blk_frozen BK196.out 0
      have hfz19_1 := blk_frozen BK196.out 1
      have hfz19_2 := blk_frozen BK196.out 2
      have hfz19_3 := blk_frozen BK196.out 3
      have hfz19_4 := blk_frozen BK196.out 4
      have hfz19_5 := blk_frozen BK196.out 5
      have hfz19_6 := blk_frozen BK196.out 6
      have hfz19_7 := blk_frozen BK196.out 7
      go_wp2_with (first | ((with_reducible refine gate_callee (f := 23) rfl ?_); refine goesL_ (some 27) rfl rfl Try.func23 (by kernel_rfl) rfl #[.agg #[.int .i64 t197, .int .i64 t198, .int .i64 t199, .slice Ao14 t200.length co14, .int .i64 t203, .int .i64 t204, .int .i64 t205, .int .i64 t206], .agg #[.int .i64 t185, .int .i64 t186, .int .i64 t187, .slice Ao9 t188.length co9, .int .i64 t191, .int .i64 t192, .int .i64 t193, .int .i64 t194]] rfl (by (try simp only [List.map_toArray, List.map_cons, List.map_nil]); first | done | rfl | (simp only [List.length_drop, List.length_take]; rfl)) ?_; (with_reducible refine (laws_eqSched.calls k t197 t198 t199 _ _ t200 t203 t204 t205 t206 t185 t186 t187 _ _ t188 t191 t192 t193 t194 true _ ?side1 ?side2 ?side3 ?side4 A15.out).mono ?_); (case side1 => refine (Kd.S_reads' (e := 27) (base := w.heap.size) (ok := fun k_ => (True ∧ some k_ ≠ (.slice Ao9 t188.length co9 : Value).ownBlock)) (n := t200.length) (c := co14) ?_).2.2; exact (by (with_reducible repeat (first | apply Kd.S_alloc | apply Kd.S_drewN | apply Kd.S_drew)); exact (Kd.S_mono (Kd.S_far (p := ⟨gb208, 7, none⟩) (Kd.S_far (p := ⟨gb208, 6, none⟩) (Kd.S_far (p := ⟨gb208, 5, none⟩) (Kd.S_far (p := ⟨gb208, 4, none⟩) (Kd.S_far (p := ⟨gb208, 3, none⟩) (Kd.S_far (p := ⟨gb208, 2, none⟩) (Kd.S_far (p := ⟨gb208, 1, none⟩) (Kd.S_far (p := ⟨gb208, 0, none⟩) (Kd.S_types HO202.out BK208.out (by decide)) (fun _ hk => hk.2) (.int .i64 t197)) (fun _ hk => hk.2) (.int .i64 t198)) (fun _ hk => hk.2) (.int .i64 t199)) (fun _ hk => hk.2) (.slice Ao14 t200.length co14)) (fun _ hk => hk.2) (.int .i64 t203)) (fun _ hk => hk.2) (.int .i64 t204)) (fun _ hk => hk.2) (.int .i64 t205)) (fun _ hk => hk.2) (.int .i64 t206)) (fun _ h_ => h_.1)))); (case side2 => exact (Kd.S_reads' HO202.out).2.1); (case side3 => refine (Kd.S_reads' (e := 27) (base := w.heap.size) (ok := fun k_ => (True ∧ some k_ ≠ (.slice Ao14 t200.length co14 : Value).ownBlock)) (n := t188.length) (c := co9) ?_).2.2; exact (by (with_reducible repeat (first | apply Kd.S_alloc | apply Kd.S_drewN | apply Kd.S_drew)); exact (Kd.S_mono (Kd.S_far (p := ⟨gb208, 7, none⟩) (Kd.S_far (p := ⟨gb208, 6, none⟩) (Kd.S_far (p := ⟨gb208, 5, none⟩) (Kd.S_far (p := ⟨gb208, 4, none⟩) (Kd.S_far (p := ⟨gb208, 3, none⟩) (Kd.S_far (p := ⟨gb208, 2, none⟩) (Kd.S_far (p := ⟨gb208, 1, none⟩) (Kd.S_far (p := ⟨gb208, 0, none⟩) (Kd.S_types HO190.out BK208.out (by decide)) (fun _ hk => hk.2) (.int .i64 t197)) (fun _ hk => hk.2) (.int .i64 t198)) (fun _ hk => hk.2) (.int .i64 t199)) (fun _ hk => hk.2) (.slice Ao14 t200.length co14)) (fun _ hk => hk.2) (.int .i64 t203)) (fun _ hk => hk.2) (.int .i64 t204)) (fun _ hk => hk.2) (.int .i64 t205)) (fun _ hk => hk.2) (.int .i64 t206)) (fun _ h_ => h_.1)))); (case side4 => exact (Kd.S_reads' HO190.out).2.1); rintro e w20 ⟨rfl, hb⟩; refine ⟨_, rfl, ?_⟩; have n0_ := Aside0.mk (Kd.S_below (by (with_reducible repeat (first | apply Kd.S_alloc | apply Kd.S_drewN | apply Kd.S_drew)); exact (Kd.S_mono (Kd.S_far (p := ⟨gb208, 7, none⟩) (Kd.S_far (p := ⟨gb208, 6, none⟩) (Kd.S_far (p := ⟨gb208, 5, none⟩) (Kd.S_far (p := ⟨gb208, 4, none⟩) (Kd.S_far (p := ⟨gb208, 3, none⟩) (Kd.S_far (p := ⟨gb208, 2, none⟩) (Kd.S_far (p := ⟨gb208, 1, none⟩) (Kd.S_far (p := ⟨gb208, 0, none⟩) (Kd.S_types HO190.out BK208.out (by decide)) (fun _ hk => hk.2) (.int .i64 t197)) (fun _ hk => hk.2) (.int .i64 t198)) (fun _ hk => hk.2) (.int .i64 t199)) (fun _ hk => hk.2) (.slice Ao14 t200.length co14)) (fun _ hk => hk.2) (.int .i64 t203)) (fun _ hk => hk.2) (.int .i64 t204)) (fun _ hk => hk.2) (.int .i64 t205)) (fun _ hk => hk.2) (.int .i64 t206)) (fun _ h_ => h_.1))) hb); have n1_ := Aside0.mk (Kd.S_below (by (with_reducible repeat (first | apply Kd.S_alloc | apply Kd.S_drewN | apply Kd.S_drew)); exact (Kd.S_mono (Kd.S_far (p := ⟨gb208, 7, none⟩) (Kd.S_far (p := ⟨gb208, 6, none⟩) (Kd.S_far (p := ⟨gb208, 5, none⟩) (Kd.S_far (p := ⟨gb208, 4, none⟩) (Kd.S_far (p := ⟨gb208, 3, none⟩) (Kd.S_far (p := ⟨gb208, 2, none⟩) (Kd.S_far (p := ⟨gb208, 1, none⟩) (Kd.S_far (p := ⟨gb208, 0, none⟩) (Kd.S_types HO202.out BK208.out (by decide)) (fun _ hk => hk.2) (.int .i64 t197)) (fun _ hk => hk.2) (.int .i64 t198)) (fun _ hk => hk.2) (.int .i64 t199)) (fun _ hk => hk.2) (.slice Ao14 t200.length co14)) (fun _ hk => hk.2) (.int .i64 t203)) (fun _ hk => hk.2) (.int .i64 t204)) (fun _ hk => hk.2) (.int .i64 t205)) (fun _ hk => hk.2) (.int .i64 t206)) (fun _ h_ => h_.1))) hb); have n2_ := Aside0.mk (blk_below (g := gb196) (o := .cells #[.int .i64 t185, .int .i64 t186, .int .i64 t187, .slice Ao9 t188.length co9, .int .i64 t191, .int .i64 t192, .int .i64 t193, .int .i64 t194] 38 (0, 0)) (by (with_reducible repeat (first | refine blk_drewN ?_ _ | refine blk_drew ?_ | refine blk_alloc ?_ _)); refine blk_far ?_ NB196_208.out _; (with_reducible repeat (first | refine blk_drewN ?_ _ | refine blk_drew ?_ | refine blk_alloc ?_ _)); refine blk_far ?_ NB196_208.out _; (with_reducible repeat (first | refine blk_drewN ?_ _ | refine blk_drew ?_ | refine blk_alloc ?_ _)); refine blk_far ?_ NB196_208.out _; (with_reducible repeat (first | refine blk_drewN ?_ _ | refine blk_drew ?_ | refine blk_alloc ?_ _)); refine blk_far ?_ NB196_208.out _; (with_reducible repeat (first | refine blk_drewN ?_ _ | refine blk_drew ?_ | refine blk_alloc ?_ _)); refine blk_far ?_ NB196_208.out _; (with_reducible repeat (first | refine blk_drewN ?_ _ | refine blk_drew ?_ | refine blk_alloc ?_ _)); refine blk_far ?_ NB196_208.out _; (with_reducible repeat (first | refine blk_drewN ?_ _ | refine blk_drew ?_ | refine blk_alloc ?_ _)); refine blk_far ?_ NB196_208.out _; (with_reducible repeat (first | refine blk_drewN ?_ _ | refine blk_drew ?_ | refine blk_alloc ?_ _)); refine blk_far ?_ NB196_208.out _; (with_reducible repeat (first | refine blk_drewN ?_ _ | refine blk_drew ?_ | refine blk_alloc ?_ _)); exact BK196.out) hb); have n3_ := Aside0.mk (blk_below (g := gb208) (o := .cells #[.int .i64 t197, .int .i64 t198, .int .i64 t199, .slice Ao14 t200.length co14, .int .i64 t203, .int .i64 t204, .int .i64 t205, .int .i64 t206] 38 (0, 0)) (by (with_reducible repeat (first | refine blk_drewN ?_ _ | refine blk_drew ?_ | refine blk_alloc ?_ _)); refine blk_put (cs := #[.int .i64 t197, .int .i64 t198, .int .i64 t199, .slice Ao14 t200.length co14, .int .i64 t203, .int .i64 t204, .int .i64 t205, .int .i64 0]) ?_ 7 _ rfl; (with_reducible repeat (first | refine blk_drewN ?_ _ | refine blk_drew ?_ | refine blk_alloc ?_ _)); refine blk_put (cs := #[.int .i64 t197, .int .i64 t198, .int .i64 t199, .slice Ao14 t200.length co14, .int .i64 t203, .int .i64 t204, .int .i64 0, .int .i64 0]) ?_ 6 _ rfl; (with_reducible repeat (first | refine blk_drewN ?_ _ | refine blk_drew ?_ | refine blk_alloc ?_ _)); refine blk_put (cs := #[.int .i64 t197, .int .i64 t198, .int .i64 t199, .slice Ao14 t200.length co14, .int .i64 t203, .int .i64 0, .int .i64 0, .int .i64 0]) ?_ 5 _ rfl; (with_reducible repeat (first | refine blk_drewN ?_ _ | refine blk_drew ?_ | refine blk_alloc ?_ _)); refine blk_put (cs := #[.int .i64 t197, .int .i64 t198, .int .i64 t199, .slice Ao14 t200.length co14, .int .i64 0, .int .i64 0, .int .i64 0, .int .i64 0]) ?_ 4 _ rfl; (with_reducible repeat (first | refine blk_drewN ?_ _ | refine blk_drew ?_ | refine blk_alloc ?_ _)); refine blk_put (cs := #[.int .i64 t197, .int .i64 t198, .int .i64 t199, .slice none 0 0, .int .i64 0, .int .i64 0, .int .i64 0, .int .i64 0]) ?_ 3 _ rfl; (with_reducible repeat (first | refine blk_drewN ?_ _ | refine blk_drew ?_ | refine blk_alloc ?_ _)); refine blk_put (cs := #[.int .i64 t197, .int .i64 t198, .int .i64 0, .slice none 0 0, .int .i64 0, .int .i64 0, .int .i64 0, .int .i64 0]) ?_ 2 _ rfl; (with_reducible repeat (first | refine blk_drewN ?_ _ | refine blk_drew ?_ | refine blk_alloc ?_ _)); refine blk_put (cs := #[.int .i64 t197, .int .i64 0, .int .i64 0, .slice none 0 0, .int .i64 0, .int .i64 0, .int .i64 0, .int .i64 0]) ?_ 1 _ rfl; (with_reducible repeat (first | refine blk_drewN ?_ _ | refine blk_drew ?_ | refine blk_alloc ?_ _)); refine blk_put (cs := #[.int .i64 0, .int .i64 0, .int .i64 0, .slice none 0 0, .int .i64 0, .int .i64 0, .int .i64 0, .int .i64 0]) ?_ 0 _ rfl; (with_reducible repeat (first | refine blk_drewN ?_ _ | refine blk_drew ?_ | refine blk_alloc ?_ _)); exact BK208.out) hb); have n4_ := Aside0.mk (below_step (by repeat (first | (with_reducible first | exact HB.out | apply below_alloc | apply pw_below_drewN | apply below_drew1 | refine below_set ?_ GE196.out | refine below_set ?_ GE208.out) | exact HB.out)) hb); clear HO190; clear HO202; clear BK196; clear BK208; clear HB; have HO190 := n0_; have HO202 := n1_; have BK196 := n2_; have BK208 := n3_; have HB := n4_; clear n0_ n1_ n2_ n3_ n4_; (try clear hb); (try clear hb2); (try clear hk); (try clear hi)))
      go_meet
      case rel => exact ⟨_, ((t207 != t195)), (by first | rfl | (simp; done) | (simp [*]; done)), H', ⟨by first | omega | exact Nat.le_refl _⟩, ⟨by (with_reducible repeat (first | apply Kd.S_alloc | apply Kd.S_drewN | apply Kd.S_drew)); exact Kd.S_mono HO190.out (fun _ hk => hk.2)⟩, ⟨by (with_reducible repeat (first | apply Kd.S_alloc | apply Kd.S_drewN | apply Kd.S_drew)); exact Kd.S_mono HO202.out (fun _ hk => hk.2)⟩, ⟨by (with_reducible repeat (first | refine blk_drewN ?_ _ | refine blk_drew ?_ | refine blk_alloc ?_ _)); exact BK196.out⟩, ⟨by (with_reducible repeat (first | refine blk_drewN ?_ _ | refine blk_drew ?_ | refine blk_alloc ?_ _)); exact BK208.out⟩, ⟨by repeat (first | (with_reducible first | exact HB.out | apply below_alloc | apply pw_below_drewN | apply below_drew1 | refine below_set ?_ GE196.out | refine below_set ?_ GE208.out) | exact HB.out)⟩⟩
    · replace c16 := Bool.eq_false_iff.mpr c16
      subst c16
      have H1 : (laws_FnExactNewSched.j0 k a0 a1 t195 true t185 t186 t187 t188 t191 t192 t193 t194 t197 t198 t199 t200 t203 t204 t205 t206) = some r := by rw [if_neg (show ¬ (false = true) by decide)] at H; exact H
      clear H
      have H := H1
      clear H1
      have H' := Aside0.mk H
      clear H
      have hnb21 := NB208_196.out
      have hnc21 := NB196_208.out
      have hcz22_0 : w11.cell? ⟨gb208, 0, none⟩ = some (.int .i64 0) := (blk_cell BK208.out 0).trans rfl
      have hcz22_1 : w11.cell? ⟨gb208, 1, none⟩ = some (.int .i64 0) := (blk_cell BK208.out 1).trans rfl
      have hcz22_2 : w11.cell? ⟨gb208, 2, none⟩ = some (.int .i64 0) := (blk_cell BK208.out 2).trans rfl
      have hcz22_3 : w11.cell? ⟨gb208, 3, none⟩ = some (.slice none 0 0) := (blk_cell BK208.out 3).trans rfl
      have hcz22_4 : w11.cell? ⟨gb208, 4, none⟩ = some (.int .i64 0) := (blk_cell BK208.out 4).trans rfl
      have hcz22_5 : w11.cell? ⟨gb208, 5, none⟩ = some (.int .i64 0) := (blk_cell BK208.out 5).trans rfl
      have hcz22_6 : w11.cell? ⟨gb208, 6, none⟩ = some (.int .i64 0) := (blk_cell BK208.out 6).trans rfl
      have hcz22_7 : w11.cell? ⟨gb208, 7, none⟩ = some (.int .i64 0) := (blk_cell BK208.out 7).trans rfl
      have hfz22_0 := blk_frozen BK208.out 0
      have hfz22_1 := blk_frozen BK208.out 1
      have hfz22_2 := blk_frozen BK208.out 2
      have hfz22_3 := blk_frozen BK208.out 3
      have hfz22_4 := blk_frozen BK208.out 4
      have hfz22_5 := blk_frozen BK208.out 5
      have hfz22_6 := blk_frozen BK208.out 6
      have hfz22_7 := blk_frozen BK208.out 7
      have hcz23_0 : w11.cell? ⟨gb196, 0, none⟩ = some (.int .i64 t185) := (blk_cell BK196.out 0).trans rfl
      have hcz23_1 : w11.cell? ⟨gb196, 1, none⟩ = some (.int .i64 t186) := (blk_cell BK196.out 1).trans rfl
      have hcz23_2 : w11.cell? ⟨gb196, 2, none⟩ = some (.int .i64 t187) := (blk_cell BK196.out 2).trans rfl
      have hcz23_3 : w11.cell? ⟨gb196, 3, none⟩ = some (.slice Ao9 t188.length co9) := (blk_cell BK196.out 3).trans rfl
      have hcz23_4 : w11.cell? ⟨gb196, 4, none⟩ = some (.int .i64 t191) := (blk_cell BK196.out 4).trans rfl
      have hcz23_5 : w11.cell? ⟨gb196, 5, none⟩ = some (.int .i64 t192) := (blk_cell BK196.out 5).trans rfl
      have hcz23_6 : w11.cell? ⟨gb196, 6, none⟩ = some (.int .i64 t193) := (blk_cell BK196.out 6).trans rfl
      have hcz23_7 : w11.cell? ⟨gb196, 7, none⟩ = some (.int .i64 t194) := (blk_cell BK196.out 7).trans rfl
      have hfz23_0 := blk_frozen BK196.out 0
      have hfz23_1 := blk_frozen BK196.out 1
      have hfz23_2 := blk_frozen BK196.out 2
      have hfz23_3 := blk_frozen BK196.out 3
      have hfz23_4 := blk_frozen BK196.out 4
      have hfz23_5 := blk_frozen BK196.out 5
      have hfz23_6 := blk_frozen BK196.out 6
      have hfz23_7 := blk_frozen BK196.out 7
      go_wp2_with (first | ((with_reducible refine gate_callee (f := 23) rfl ?_); refine goesL_ (some 27) rfl rfl Try.func23 (by kernel_rfl) rfl #[.agg #[.int .i64 t197, .int .i64 t198, .int .i64 t199, .slice Ao14 t200.length co14, .int .i64 t203, .int .i64 t204, .int .i64 t205, .int .i64 t206], .agg #[.int .i64 t185, .int .i64 t186, .int .i64 t187, .slice Ao9 t188.length co9, .int .i64 t191, .int .i64 t192, .int .i64 t193, .int .i64 t194]] rfl (by (try simp only [List.map_toArray, List.map_cons, List.map_nil]); first | done | rfl | (simp only [List.length_drop, List.length_take]; rfl)) ?_; (with_reducible refine (laws_eqSched.calls k t197 t198 t199 _ _ t200 t203 t204 t205 t206 t185 t186 t187 _ _ t188 t191 t192 t193 t194 false _ ?side1 ?side2 ?side3 ?side4 A15.out).mono ?_); (case side1 => refine (Kd.S_reads' (e := 27) (base := w.heap.size) (ok := fun k_ => (True ∧ some k_ ≠ (.slice Ao9 t188.length co9 : Value).ownBlock)) (n := t200.length) (c := co14) ?_).2.2; exact (by (with_reducible repeat (first | apply Kd.S_alloc | apply Kd.S_drewN | apply Kd.S_drew)); exact (Kd.S_mono (Kd.S_far (p := ⟨gb208, 7, none⟩) (Kd.S_far (p := ⟨gb208, 6, none⟩) (Kd.S_far (p := ⟨gb208, 5, none⟩) (Kd.S_far (p := ⟨gb208, 4, none⟩) (Kd.S_far (p := ⟨gb208, 3, none⟩) (Kd.S_far (p := ⟨gb208, 2, none⟩) (Kd.S_far (p := ⟨gb208, 1, none⟩) (Kd.S_far (p := ⟨gb208, 0, none⟩) (Kd.S_types HO202.out BK208.out (by decide)) (fun _ hk => hk.2) (.int .i64 t197)) (fun _ hk => hk.2) (.int .i64 t198)) (fun _ hk => hk.2) (.int .i64 t199)) (fun _ hk => hk.2) (.slice Ao14 t200.length co14)) (fun _ hk => hk.2) (.int .i64 t203)) (fun _ hk => hk.2) (.int .i64 t204)) (fun _ hk => hk.2) (.int .i64 t205)) (fun _ hk => hk.2) (.int .i64 t206)) (fun _ h_ => h_.1)))); (case side2 => exact (Kd.S_reads' HO202.out).2.1); (case side3 => refine (Kd.S_reads' (e := 27) (base := w.heap.size) (ok := fun k_ => (True ∧ some k_ ≠ (.slice Ao14 t200.length co14 : Value).ownBlock)) (n := t188.length) (c := co9) ?_).2.2; exact (by (with_reducible repeat (first | apply Kd.S_alloc | apply Kd.S_drewN | apply Kd.S_drew)); exact (Kd.S_mono (Kd.S_far (p := ⟨gb208, 7, none⟩) (Kd.S_far (p := ⟨gb208, 6, none⟩) (Kd.S_far (p := ⟨gb208, 5, none⟩) (Kd.S_far (p := ⟨gb208, 4, none⟩) (Kd.S_far (p := ⟨gb208, 3, none⟩) (Kd.S_far (p := ⟨gb208, 2, none⟩) (Kd.S_far (p := ⟨gb208, 1, none⟩) (Kd.S_far (p := ⟨gb208, 0, none⟩) (Kd.S_types HO190.out BK208.out (by decide)) (fun _ hk => hk.2) (.int .i64 t197)) (fun _ hk => hk.2) (.int .i64 t198)) (fun _ hk => hk.2) (.int .i64 t199)) (fun _ hk => hk.2) (.slice Ao14 t200.length co14)) (fun _ hk => hk.2) (.int .i64 t203)) (fun _ hk => hk.2) (.int .i64 t204)) (fun _ hk => hk.2) (.int .i64 t205)) (fun _ hk => hk.2) (.int .i64 t206)) (fun _ h_ => h_.1)))); (case side4 => exact (Kd.S_reads' HO190.out).2.1); rintro e w24 ⟨rfl, hb⟩; refine ⟨_, rfl, ?_⟩; have n0_ := Aside0.mk (Kd.S_below (by (with_reducible repeat (first | apply Kd.S_alloc | apply Kd.S_drewN | apply Kd.S_drew)); exact (Kd.S_mono (Kd.S_far (p := ⟨gb208, 7, none⟩) (Kd.S_far (p := ⟨gb208, 6, none⟩) (Kd.S_far (p := ⟨gb208, 5, none⟩) (Kd.S_far (p := ⟨gb208, 4, none⟩) (Kd.S_far (p := ⟨gb208, 3, none⟩) (Kd.S_far (p := ⟨gb208, 2, none⟩) (Kd.S_far (p := ⟨gb208, 1, none⟩) (Kd.S_far (p := ⟨gb208, 0, none⟩) (Kd.S_types HO190.out BK208.out (by decide)) (fun _ hk => hk.2) (.int .i64 t197)) (fun _ hk => hk.2) (.int .i64 t198)) (fun _ hk => hk.2) (.int .i64 t199)) (fun _ hk => hk.2) (.slice Ao14 t200.length co14)) (fun _ hk => hk.2) (.int .i64 t203)) (fun _ hk => hk.2) (.int .i64 t204)) (fun _ hk => hk.2) (.int .i64 t205)) (fun _ hk => hk.2) (.int .i64 t206)) (fun _ h_ => h_.1))) hb); have n1_ := Aside0.mk (Kd.S_below (by (with_reducible repeat (first | apply Kd.S_alloc | apply Kd.S_drewN | apply Kd.S_drew)); exact (Kd.S_mono (Kd.S_far (p := ⟨gb208, 7, none⟩) (Kd.S_far (p := ⟨gb208, 6, none⟩) (Kd.S_far (p := ⟨gb208, 5, none⟩) (Kd.S_far (p := ⟨gb208, 4, none⟩) (Kd.S_far (p := ⟨gb208, 3, none⟩) (Kd.S_far (p := ⟨gb208, 2, none⟩) (Kd.S_far (p := ⟨gb208, 1, none⟩) (Kd.S_far (p := ⟨gb208, 0, none⟩) (Kd.S_types HO202.out BK208.out (by decide)) (fun _ hk => hk.2) (.int .i64 t197)) (fun _ hk => hk.2) (.int .i64 t198)) (fun _ hk => hk.2) (.int .i64 t199)) (fun _ hk => hk.2) (.slice Ao14 t200.length co14)) (fun _ hk => hk.2) (.int .i64 t203)) (fun _ hk => hk.2) (.int .i64 t204)) (fun _ hk => hk.2) (.int .i64 t205)) (fun _ hk => hk.2) (.int .i64 t206)) (fun _ h_ => h_.1))) hb); have n2_ := Aside0.mk (blk_below (g := gb196) (o := .cells #[.int .i64 t185, .int .i64 t186, .int .i64 t187, .slice Ao9 t188.length co9, .int .i64 t191, .int .i64 t192, .int .i64 t193, .int .i64 t194] 38 (0, 0)) (by (with_reducible repeat (first | refine blk_drewN ?_ _ | refine blk_drew ?_ | refine blk_alloc ?_ _)); refine blk_far ?_ NB196_208.out _; (with_reducible repeat (first | refine blk_drewN ?_ _ | refine blk_drew ?_ | refine blk_alloc ?_ _)); refine blk_far ?_ NB196_208.out _; (with_reducible repeat (first | refine blk_drewN ?_ _ | refine blk_drew ?_ | refine blk_alloc ?_ _)); refine blk_far ?_ NB196_208.out _; (with_reducible repeat (first | refine blk_drewN ?_ _ | refine blk_drew ?_ | refine blk_alloc ?_ _)); refine blk_far ?_ NB196_208.out _; (with_reducible repeat (first | refine blk_drewN ?_ _ | refine blk_drew ?_ | refine blk_alloc ?_ _)); refine blk_far ?_ NB196_208.out _; (with_reducible repeat (first | refine blk_drewN ?_ _ | refine blk_drew ?_ | refine blk_alloc ?_ _)); refine blk_far ?_ NB196_208.out _; (with_reducible repeat (first | refine blk_drewN ?_ _ | refine blk_drew ?_ | refine blk_alloc ?_ _)); refine blk_far ?_ NB196_208.out _; (with_reducible repeat (first | refine blk_drewN ?_ _ | refine blk_drew ?_ | refine blk_alloc ?_ _)); refine blk_far ?_ NB196_208.out _; (with_reducible repeat (first | refine blk_drewN ?_ _ | refine blk_drew ?_ | refine blk_alloc ?_ _)); exact BK196.out) hb); have n3_ := Aside0.mk (blk_below (g := gb208) (o := .cells #[.int .i64 t197, .int .i64 t198, .int .i64 t199, .slice Ao14 t200.length co14, .int .i64 t203, .int .i64 t204, .int .i64 t205, .int .i64 t206] 38 (0, 0)) (by (with_reducible repeat (first | refine blk_drewN ?_ _ | refine blk_drew ?_ | refine blk_alloc ?_ _)); refine blk_put (cs := #[.int .i64 t197, .int .i64 t198, .int .i64 t199, .slice Ao14 t200.length co14, .int .i64 t203, .int .i64 t204, .int .i64 t205, .int .i64 0]) ?_ 7 _ rfl; (with_reducible repeat (first | refine blk_drewN ?_ _ | refine blk_drew ?_ | refine blk_alloc ?_ _)); refine blk_put (cs := #[.int .i64 t197, .int .i64 t198, .int .i64 t199, .slice Ao14 t200.length co14, .int .i64 t203, .int .i64 t204, .int .i64 0, .int .i64 0]) ?_ 6 _ rfl; (with_reducible repeat (first | refine blk_drewN ?_ _ | refine blk_drew ?_ | refine blk_alloc ?_ _)); refine blk_put (cs := #[.int .i64 t197, .int .i64 t198, .int .i64 t199, .slice Ao14 t200.length co14, .int .i64 t203, .int .i64 0, .int .i64 0, .int .i64 0]) ?_ 5 _ rfl; (with_reducible repeat (first | refine blk_drewN ?_ _ | refine blk_drew ?_ | refine blk_alloc ?_ _)); refine blk_put (cs := #[.int .i64 t197, .int .i64 t198, .int .i64 t199, .slice Ao14 t200.length co14, .int .i64 0, .int .i64 0, .int .i64 0, .int .i64 0]) ?_ 4 _ rfl; (with_reducible repeat (first | refine blk_drewN ?_ _ | refine blk_drew ?_ | refine blk_alloc ?_ _)); refine blk_put (cs := #[.int .i64 t197, .int .i64 t198, .int .i64 t199, .slice none 0 0, .int .i64 0, .int .i64 0, .int .i64 0, .int .i64 0]) ?_ 3 _ rfl; (with_reducible repeat (first | refine blk_drewN ?_ _ | refine blk_drew ?_ | refine blk_alloc ?_ _)); refine blk_put (cs := #[.int .i64 t197, .int .i64 t198, .int .i64 0, .slice none 0 0, .int .i64 0, .int .i64 0, .int .i64 0, .int .i64 0]) ?_ 2 _ rfl; (with_reducible repeat (first | refine blk_drewN ?_ _ | refine blk_drew ?_ | refine blk_alloc ?_ _)); refine blk_put (cs := #[.int .i64 t197, .int .i64 0, .int .i64 0, .slice none 0 0, .int .i64 0, .int .i64 0, .int .i64 0, .int .i64 0]) ?_ 1 _ rfl; (with_reducible repeat (first | refine blk_drewN ?_ _ | refine blk_drew ?_ | refine blk_alloc ?_ _)); refine blk_put (cs := #[.int .i64 0, .int .i64 0, .int .i64 0, .slice none 0 0, .int .i64 0, .int .i64 0, .int .i64 0, .int .i64 0]) ?_ 0 _ rfl; (with_reducible repeat (first | refine blk_drewN ?_ _ | refine blk_drew ?_ | refine blk_alloc ?_ _)); exact BK208.out) hb); have n4_ := Aside0.mk (below_step (by repeat (first | (with_reducible first | exact HB.out | apply below_alloc | apply pw_below_drewN | apply below_drew1 | refine below_set ?_ GE196.out | refine below_set ?_ GE208.out) | exact HB.out)) hb); clear HO190; clear HO202; clear BK196; clear BK208; clear HB; have HO190 := n0_; have HO202 := n1_; have BK196 := n2_; have BK208 := n3_; have HB := n4_; clear n0_ n1_ n2_ n3_ n4_; (try clear hb); (try clear hb2); (try clear hk); (try clear hi)))
      go_meet
      case rel => exact ⟨_, (true), (by first | rfl | (simp; done) | (simp [*]; done)), H', ⟨by first | omega | exact Nat.le_refl _⟩, ⟨by (with_reducible repeat (first | apply Kd.S_alloc | apply Kd.S_drewN | apply Kd.S_drew)); exact Kd.S_mono HO190.out (fun _ hk => hk.2)⟩, ⟨by (with_reducible repeat (first | apply Kd.S_alloc | apply Kd.S_drewN | apply Kd.S_drew)); exact Kd.S_mono HO202.out (fun _ hk => hk.2)⟩, ⟨by (with_reducible repeat (first | refine blk_drewN ?_ _ | refine blk_drew ?_ | refine blk_alloc ?_ _)); exact BK196.out⟩, ⟨by (with_reducible repeat (first | refine blk_drewN ?_ _ | refine blk_drew ?_ | refine blk_alloc ?_ _)); exact BK208.out⟩, ⟨by repeat (first | (with_reducible first | exact HB.out | apply below_alloc | apply pw_below_drewN | apply below_drew1 | refine below_set ?_ GE196.out | refine below_set ?_ GE208.out) | exact HB.out)⟩⟩
  case rest =>
    clear HC5
    try clear c1
    try clear c2
    try clear p2
    try clear c5
    try clear c12
    try clear c16
    try clear c17
    try clear c21
    try clear c23
    try clear c24
    try clear hcz13_0
    try clear hcz13_1
    try clear hcz13_2
    try clear hcz13_3
    try clear hcz13_4
    try clear hcz13_5
    try clear hcz13_6
    try clear hcz13_7
    try clear hcz18_0
    try clear hcz18_1
    try clear hcz18_2
    try clear hcz18_3
    try clear hcz18_4
    try clear hcz18_5
    try clear hcz18_6
    try clear hcz18_7
    try clear hcz19_0
    try clear hcz19_1
    try clear hcz19_2
    try clear hcz19_3
    try clear hcz19_4
    try clear hcz19_5
    try clear hcz19_6
    try clear hcz19_7
    try clear hcz22_0
    try clear hcz22_1
    try clear hcz22_2
    try clear hcz22_3
    try clear hcz22_4
    try clear hcz22_5
    try clear hcz22_6
    try clear hcz22_7
    try clear hcz23_0
    try clear hcz23_1
    try clear hcz23_2
    try clear hcz23_3
    try clear hcz23_4
    try clear hcz23_5
    try clear hcz23_6
    try clear hcz23_7
    try clear hcz8_0
    try clear hcz8_1
    try clear hcz8_2
    try clear hcz8_3
    try clear hcz8_4
    try clear hcz8_5
    try clear hcz8_6
    try clear hcz8_7
    try clear hfz13_0
    try clear hfz13_1
    try clear hfz13_2
    try clear hfz13_3
    try clear hfz13_4
    try clear hfz13_5
    try clear hfz13_6
    try clear hfz13_7
    try clear hfz18_0
    try clear hfz18_1
    try clear hfz18_2
    try clear hfz18_3
    try clear hfz18_4
    try clear hfz18_5
    try clear hfz18_6
    try clear hfz18_7
    try clear hfz19_0
    try clear hfz19_1
    try clear hfz19_2
    try clear hfz19_3
    try clear hfz19_4
    try clear hfz19_5
    try clear hfz19_6
    try clear hfz19_7
    try clear hfz22_0
    try clear hfz22_1
    try clear hfz22_2
    try clear hfz22_3
    try clear hfz22_4
    try clear hfz22_5
    try clear hfz22_6
    try clear hfz22_7
    try clear hfz23_0
    try clear hfz23_1
    try clear hfz23_2
    try clear hfz23_3
    try clear hfz23_4
    try clear hfz23_5
    try clear hfz23_6
    try clear hfz23_7
    try clear hfz8_0
    try clear hfz8_1
    try clear hfz8_2
    try clear hfz8_3
    try clear hfz8_4
    try clear hfz8_5
    try clear hfz8_6
    try clear hfz8_7
    obtain ⟨kq, x33_4, rfl, HA, HJ4, HO_197003, HO_209003, BK196, BK208, HB⟩ := hcut
    cases kq with
    | zero => exact absurd HA.out (by simp [laws_FnExactNewSched.j0])
    | succ kj4 =>
      have H := HA.out
      clear HA
      simp only [laws_FnExactNewSched.j0] at H
      by_cases c25 : x33_4 = true
      · subst c25
        have H1 : (some false) = some r := by rw [if_pos rfl] at H; exact H
        clear H
        have H := H1
        clear H1
        exact absurd ((Option.some.inj H).trans hr_.out) (by decide)
      · replace c25 := Bool.eq_false_iff.mpr c25
        subst c25
        have H1 : ((laws_markSched.f t197 t198 t199 t200 t203 t204 t205 t206 1).bind fun t210 => ((laws_heldSched.f kj4 t197 t198 t199 t200 t203 t204 t205 t206 1).bind fun t211 => (if t211 < 0 then (some false) else (if t211 = t210 then ((impl_NewSched.f kj4 a0 a1).bind fun bt212 => ((laws_eqSched.f kj4 bt212.1 bt212.2.1 bt212.2.2.1 bt212.2.2.2.1 bt212.2.2.2.2.1 bt212.2.2.2.2.2.1 bt212.2.2.2.2.2.2.1 bt212.2.2.2.2.2.2.2.1 t185 t186 t187 t188 t191 t192 t193 t194).bind fun t224 => (if t224 = true then (laws_FnExactNewSched.j1 kj4 t210 (bt212.2.2.2.2.2.2.2.2 != t195) t197 t198 t199 t200 t203 t204 t205 t206) else (laws_FnExactNewSched.j1 kj4 t210 true t197 t198 t199 t200 t203 t204 t205 t206)))) else (some false))))) = some r := by rw [if_neg (show ¬ (false = true) by decide)] at H; exact H
        clear H
        have H := H1
        clear H1
        replace H := Option.bind_eq_some_iff.mp H
        obtain ⟨t210, A260, H⟩ := H
        replace H : ((laws_heldSched.f kj4 t197 t198 t199 t200 t203 t204 t205 t206 1).bind fun t211 => (if t211 < 0 then (some false) else (if t211 = t210 then ((impl_NewSched.f kj4 a0 a1).bind fun bt212 => ((laws_eqSched.f kj4 bt212.1 bt212.2.1 bt212.2.2.1 bt212.2.2.2.1 bt212.2.2.2.2.1 bt212.2.2.2.2.2.1 bt212.2.2.2.2.2.2.1 bt212.2.2.2.2.2.2.2.1 t185 t186 t187 t188 t191 t192 t193 t194).bind fun t224 => (if t224 = true then (laws_FnExactNewSched.j1 kj4 t210 (bt212.2.2.2.2.2.2.2.2 != t195) t197 t198 t199 t200 t203 t204 t205 t206) else (laws_FnExactNewSched.j1 kj4 t210 true t197 t198 t199 t200 t203 t204 t205 t206)))) else (some false)))) = some r := H
        have A26 := Aside0.mk A260
        clear A260
        replace H := Option.bind_eq_some_iff.mp H
        obtain ⟨t211, A270, H⟩ := H
        replace H : (if t211 < 0 then (some false) else (if t211 = t210 then ((impl_NewSched.f kj4 a0 a1).bind fun bt212 => ((laws_eqSched.f kj4 bt212.1 bt212.2.1 bt212.2.2.1 bt212.2.2.2.1 bt212.2.2.2.2.1 bt212.2.2.2.2.2.1 bt212.2.2.2.2.2.2.1 bt212.2.2.2.2.2.2.2.1 t185 t186 t187 t188 t191 t192 t193 t194).bind fun t224 => (if t224 = true then (laws_FnExactNewSched.j1 kj4 t210 (bt212.2.2.2.2.2.2.2.2 != t195) t197 t198 t199 t200 t203 t204 t205 t206) else (laws_FnExactNewSched.j1 kj4 t210 true t197 t198 t199 t200 t203 t204 t205 t206)))) else (some false))) = some r := H
        have A27 := Aside0.mk A270
        clear A270
        by_cases c28 : t211 < 0
        · rw [if_pos c28] at H
          have c28b0 : decide (t211 < 0) = true := decide_eq_true c28
          clear c28
          exact absurd ((Option.some.inj H).trans hr_.out) (by decide)
        · rw [if_neg c28] at H
          have c28b0 : decide (t211 < 0) = false := decide_eq_false c28
          clear c28
          by_cases c29 : t211 = t210
          · rw [if_pos c29] at H
            have c29b0 : (t211 == t210) = true := beq_iff_eq.mpr c29
            have c29b1 : (t211 != t210) = false := bne_eq_false_iff_eq.mpr c29
            clear c29
            replace H := Option.bind_eq_some_iff.mp H
            obtain ⟨⟨t212, t213, t214, t215, t218, t219, t220, t221, t222⟩, A300, H⟩ := H
            replace H : ((laws_eqSched.f kj4 t212 t213 t214 t215 t218 t219 t220 t221 t185 t186 t187 t188 t191 t192 t193 t194).bind fun t224 => (if t224 = true then (laws_FnExactNewSched.j1 kj4 t210 (t222 != t195) t197 t198 t199 t200 t203 t204 t205 t206) else (laws_FnExactNewSched.j1 kj4 t210 true t197 t198 t199 t200 t203 t204 t205 t206))) = some r := H
            have A30 := Aside0.mk A300
            clear A300
            have HC31 := Aside0.mk H
            clear H
            have hnb32 := NB208_196.out
            have hnc32 := NB196_208.out
            have hcz33_0 : wc.cell? ⟨gb208, 0, none⟩ = some (.int .i64 t197) := (blk_cell BK208.out 0).trans rfl
            have hcz33_1 : wc.cell? ⟨gb208, 1, none⟩ = some (.int .i64 t198) := (blk_cell BK208.out 1).trans rfl
            have hcz33_2 : wc.cell? ⟨gb208, 2, none⟩ = some (.int .i64 t199) := (blk_cell BK208.out 2).trans rfl
            have hcz33_3 : wc.cell? ⟨gb208, 3, none⟩ = some (.slice Ao14 t200.length co14) := (blk_cell BK208.out 3).trans rfl
            have hcz33_4 : wc.cell? ⟨gb208, 4, none⟩ = some (.int .i64 t203) := (blk_cell BK208.out 4).trans rfl
            have hcz33_5 : wc.cell? ⟨gb208, 5, none⟩ = some (.int .i64 t204) := (blk_cell BK208.out 5).trans rfl
            have hcz33_6 : wc.cell? ⟨gb208, 6, none⟩ = some (.int .i64 t205) := (blk_cell BK208.out 6).trans rfl
            have hcz33_7 : wc.cell? ⟨gb208, 7, none⟩ = some (.int .i64 t206) := (blk_cell BK208.out 7).trans rfl
            have hfz33_0 := blk_frozen BK208.out 0
            have hfz33_1 := blk_frozen BK208.out 1
            have hfz33_2 := blk_frozen BK208.out 2
            have hfz33_3 := blk_frozen BK208.out 3
            have hfz33_4 := blk_frozen BK208.out 4
            have hfz33_5 := blk_frozen BK208.out 5
            have hfz33_6 := blk_frozen BK208.out 6
            have hfz33_7 := blk_frozen BK208.out 7
            go_upto_region 14 with (first | ((with_reducible refine gate_callee (f := 26) rfl ?_); refine goesL_ (some 36) rfl rfl Try.func26 (by kernel_rfl) rfl #[.agg #[.int .i64 t197, .int .i64 t198, .int .i64 t199, .slice Ao14 t200.length co14, .int .i64 t203, .int .i64 t204, .int .i64 t205, .int .i64 t206], .int .i64 1] rfl (by (try simp only [List.map_toArray, List.map_cons, List.map_nil]); first | done | rfl | (simp only [List.length_drop, List.length_take]; rfl)) ?_; (with_reducible refine (laws_markSched.calls t197 t198 t199 _ _ t200 t203 t204 t205 t206 1 t210 _ ?side1 ?side2 A26.out).mono ?_); (case side1 => repeat (first | exact (Kd.S_reads' HO_209003.out).2.2 | (with_reducible refine Kd.C_alloc ?_ _) | (with_reducible refine Kd.C_drewN ?_ _) | (with_reducible refine Kd.C_drew ?_))); (case side2 => exact (Kd.S_reads' HO_209003.out).2.1); rintro e w34 ⟨rfl, hb⟩; refine ⟨_, rfl, ?_⟩; have n0_ := Aside0.mk (Kd.S_below (by (with_reducible repeat (first | apply Kd.S_alloc | apply Kd.S_drewN | apply Kd.S_drew)); exact HO_197003.out) hb); have n1_ := Aside0.mk (Kd.S_below (by (with_reducible repeat (first | apply Kd.S_alloc | apply Kd.S_drewN | apply Kd.S_drew)); exact HO_209003.out) hb); have n2_ := Aside0.mk (blk_below (g := gb196) (o := .cells #[.int .i64 t185, .int .i64 t186, .int .i64 t187, .slice Ao9 t188.length co9, .int .i64 t191, .int .i64 t192, .int .i64 t193, .int .i64 t194] 38 (0, 0)) (by (with_reducible repeat (first | refine blk_drewN ?_ _ | refine blk_drew ?_ | refine blk_alloc ?_ _)); exact BK196.out) hb); have n3_ := Aside0.mk (blk_below (g := gb208) (o := .cells #[.int .i64 t197, .int .i64 t198, .int .i64 t199, .slice Ao14 t200.length co14, .int .i64 t203, .int .i64 t204, .int .i64 t205, .int .i64 t206] 38 (0, 0)) (by (with_reducible repeat (first | refine blk_drewN ?_ _ | refine blk_drew ?_ | refine blk_alloc ?_ _)); exact BK208.out) hb); have n4_ := Aside0.mk (below_step (by repeat (first | (with_reducible first | exact HB.out | apply below_alloc | apply pw_below_drewN | apply below_drew1 | refine below_set ?_ GE196.out | refine below_set ?_ GE208.out) | exact HB.out)) hb); clear HO_197003; clear HO_209003; clear BK196; clear BK208; clear HB; have HO_197003 := n0_; have HO_209003 := n1_; have BK196 := n2_; have BK208 := n3_; have HB := n4_; clear n0_ n1_ n2_ n3_ n4_; (try clear hb); (try clear hb2); (try clear hk); (try clear hi); have hcz35_0 : w34.cell? ⟨gb208, 0, none⟩ = some (.int .i64 t197) := (blk_cell BK208.out 0).trans rfl; have hcz35_1 : w34.cell? ⟨gb208, 1, none⟩ = some (.int .i64 t198) := (blk_cell BK208.out 1).trans rfl; have hcz35_2 : w34.cell? ⟨gb208, 2, none⟩ = some (.int .i64 t199) := (blk_cell BK208.out 2).trans rfl; have hcz35_3 : w34.cell? ⟨gb208, 3, none⟩ = some (.slice Ao14 t200.length co14) := (blk_cell BK208.out 3).trans rfl; have hcz35_4 : w34.cell? ⟨gb208, 4, none⟩ = some (.int .i64 t203) := (blk_cell BK208.out 4).trans rfl; have hcz35_5 : w34.cell? ⟨gb208, 5, none⟩ = some (.int .i64 t204) := (blk_cell BK208.out 5).trans rfl; have hcz35_6 : w34.cell? ⟨gb208, 6, none⟩ = some (.int .i64 t205) := (blk_cell BK208.out 6).trans rfl; have hcz35_7 : w34.cell? ⟨gb208, 7, none⟩ = some (.int .i64 t206) := (blk_cell BK208.out 7).trans rfl; have hfz35_0 := blk_frozen BK208.out 0; have hfz35_1 := blk_frozen BK208.out 1; have hfz35_2 := blk_frozen BK208.out 2; have hfz35_3 := blk_frozen BK208.out 3; have hfz35_4 := blk_frozen BK208.out 4; have hfz35_5 := blk_frozen BK208.out 5; have hfz35_6 := blk_frozen BK208.out 6; have hfz35_7 := blk_frozen BK208.out 7) | ((with_reducible refine gate_callee (f := 27) rfl ?_); refine goesL_ (some 39) rfl rfl Try.func27 (by kernel_rfl) rfl #[.agg #[.int .i64 t197, .int .i64 t198, .int .i64 t199, .slice Ao14 t200.length co14, .int .i64 t203, .int .i64 t204, .int .i64 t205, .int .i64 t206], .int .i64 1] rfl (by (try simp only [List.map_toArray, List.map_cons, List.map_nil]); first | done | rfl | (simp only [List.length_drop, List.length_take]; rfl)) ?_; (with_reducible refine (laws_heldSched.calls kj4 t197 t198 t199 _ _ t200 t203 t204 t205 t206 1 t211 _ ?side1 ?side2 A27.out).mono ?_); (case side1 => repeat (first | exact (Kd.S_reads' HO_209003.out).2.2 | (with_reducible refine Kd.C_alloc ?_ _) | (with_reducible refine Kd.C_drewN ?_ _) | (with_reducible refine Kd.C_drew ?_))); (case side2 => exact (Kd.S_reads' HO_209003.out).2.1); rintro e w36 ⟨rfl, hb⟩; refine ⟨_, rfl, ?_⟩; have n0_ := Aside0.mk (Kd.S_below (by (with_reducible repeat (first | apply Kd.S_alloc | apply Kd.S_drewN | apply Kd.S_drew)); exact HO_197003.out) hb); have n1_ := Aside0.mk (Kd.S_below (by (with_reducible repeat (first | apply Kd.S_alloc | apply Kd.S_drewN | apply Kd.S_drew)); exact HO_209003.out) hb); have n2_ := Aside0.mk (blk_below (g := gb196) (o := .cells #[.int .i64 t185, .int .i64 t186, .int .i64 t187, .slice Ao9 t188.length co9, .int .i64 t191, .int .i64 t192, .int .i64 t193, .int .i64 t194] 38 (0, 0)) (by (with_reducible repeat (first | refine blk_drewN ?_ _ | refine blk_drew ?_ | refine blk_alloc ?_ _)); exact BK196.out) hb); have n3_ := Aside0.mk (blk_below (g := gb208) (o := .cells #[.int .i64 t197, .int .i64 t198, .int .i64 t199, .slice Ao14 t200.length co14, .int .i64 t203, .int .i64 t204, .int .i64 t205, .int .i64 t206] 38 (0, 0)) (by (with_reducible repeat (first | refine blk_drewN ?_ _ | refine blk_drew ?_ | refine blk_alloc ?_ _)); exact BK208.out) hb); have n4_ := Aside0.mk (below_step (by repeat (first | (with_reducible first | exact HB.out | apply below_alloc | apply pw_below_drewN | apply below_drew1 | refine below_set ?_ GE196.out | refine below_set ?_ GE208.out) | exact HB.out)) hb); clear HO_197003; clear HO_209003; clear BK196; clear BK208; clear HB; have HO_197003 := n0_; have HO_209003 := n1_; have BK196 := n2_; have BK208 := n3_; have HB := n4_; clear n0_ n1_ n2_ n3_ n4_; (try clear hb); (try clear hb2); (try clear hk); (try clear hi)) | ((with_reducible refine gate_callee (f := 25) rfl ?_); refine goesL_ (some 48) rfl rfl Try.func25 (by kernel_rfl) rfl #[.int .i64 a0, .int .i64 a1] rfl (by (try simp only [List.map_toArray, List.map_cons, List.map_nil]); first | done | rfl | (simp only [List.length_drop, List.length_take]; rfl)) ?_; (with_reducible refine (impl_NewSched.calls kj4 a0 a1 t212 t213 t214 t215 t218 t219 t220 t221 t222 _ A30.out).mono ?_); rintro e w37 ⟨v216, rfl, ho0, hb⟩; refine ⟨_, rfl, ?_⟩; have n0_ := Aside0.mk (Kd.S_elder' (by (with_reducible repeat (first | apply Kd.S_alloc | apply Kd.S_drewN | apply Kd.S_drew)); exact HO_197003.out) (Kd.S_base ho0) hb); have n1_ := Aside0.mk (Kd.S_elder' (by (with_reducible repeat (first | apply Kd.S_alloc | apply Kd.S_drewN | apply Kd.S_drew)); exact HO_209003.out) (Kd.S_base ho0) hb); have n2_ := Aside0.mk (Kd.S_lower (Kd.S_new' (Kd.S_new' ho0 (Kd.S_lt (by (with_reducible repeat (first | apply Kd.S_alloc | apply Kd.S_drewN | apply Kd.S_drew)); exact HO_197003.out))) (Kd.S_lt (by (with_reducible repeat (first | apply Kd.S_alloc | apply Kd.S_drewN | apply Kd.S_drew)); exact HO_209003.out))) (below_size (by repeat (first | (with_reducible first | exact HB.out | apply below_alloc | apply pw_below_drewN | apply below_drew1 | refine below_set ?_ GE196.out | refine below_set ?_ GE208.out) | exact HB.out)))); have n3_ := Aside0.mk (blk_below (g := gb196) (o := .cells #[.int .i64 t185, .int .i64 t186, .int .i64 t187, .slice Ao9 t188.length co9, .int .i64 t191, .int .i64 t192, .int .i64 t193, .int .i64 t194] 38 (0, 0)) (by (with_reducible repeat (first | refine blk_drewN ?_ _ | refine blk_drew ?_ | refine blk_alloc ?_ _)); exact BK196.out) hb); have n4_ := Aside0.mk (blk_below (g := gb208) (o := .cells #[.int .i64 t197, .int .i64 t198, .int .i64 t199, .slice Ao14 t200.length co14, .int .i64 t203, .int .i64 t204, .int .i64 t205, .int .i64 t206] 38 (0, 0)) (by (with_reducible repeat (first | refine blk_drewN ?_ _ | refine blk_drew ?_ | refine blk_alloc ?_ _)); exact BK208.out) hb); have n5_ := Aside0.mk (below_step (by repeat (first | (with_reducible first | exact HB.out | apply below_alloc | apply pw_below_drewN | apply below_drew1 | refine below_set ?_ GE196.out | refine below_set ?_ GE208.out) | exact HB.out)) hb); clear HO_197003; clear HO_209003; clear BK196; clear BK208; clear HB; have HO_197003 := n0_; have HO_209003 := n1_; have HO217 := n2_; have BK196 := n3_; have BK208 := n4_; have HB := n5_; clear n0_ n1_ n2_ n3_ n4_ n5_; (try clear hb); (try clear hb2); (try clear hk); (try clear hi); (try clear ho0)) | ((with_reducible refine gate_dst (N := 11) rfl ?_); refine box_event ?hg (N := 11) ?hd (cs := #[.int .i64 0, .int .i64 0, .int .i64 0, .slice none 0 0, .int .i64 0, .int .i64 0, .int .i64 0, .int .i64 0]) (t := 38) ?hr ?_; (case hd => rfl); (case hg => rfl); (case hr => first | (go_simp; done) | (go_simp; rfl)); intro gb223 hg w38 hbox hb; have n0_ := Aside0.mk (Kd.S_below (by (with_reducible repeat (first | apply Kd.S_alloc | apply Kd.S_drewN | apply Kd.S_drew)); exact HO_197003.out) hb); have n1_ := Aside0.mk (Kd.S_below (by (with_reducible repeat (first | apply Kd.S_alloc | apply Kd.S_drewN | apply Kd.S_drew)); exact HO_209003.out) hb); have n2_ := Aside0.mk (Kd.S_below (by (with_reducible repeat (first | apply Kd.S_alloc | apply Kd.S_drewN | apply Kd.S_drew)); exact HO217.out) hb); have n3_ := Aside0.mk (blk_below (g := gb196) (o := .cells #[.int .i64 t185, .int .i64 t186, .int .i64 t187, .slice Ao9 t188.length co9, .int .i64 t191, .int .i64 t192, .int .i64 t193, .int .i64 t194] 38 (0, 0)) (by (with_reducible repeat (first | refine blk_drewN ?_ _ | refine blk_drew ?_ | refine blk_alloc ?_ _)); exact BK196.out) hb); have n4_ := Aside0.mk (blk_below (g := gb208) (o := .cells #[.int .i64 t197, .int .i64 t198, .int .i64 t199, .slice Ao14 t200.length co14, .int .i64 t203, .int .i64 t204, .int .i64 t205, .int .i64 t206] 38 (0, 0)) (by (with_reducible repeat (first | refine blk_drewN ?_ _ | refine blk_drew ?_ | refine blk_alloc ?_ _)); exact BK208.out) hb); have n5_ := Aside0.mk (below_step (by repeat (first | (with_reducible first | exact HB.out | apply below_alloc | apply pw_below_drewN | apply below_drew1 | refine below_set ?_ GE196.out | refine below_set ?_ GE208.out) | exact HB.out)) hb); have n6_ := Aside0.mk (hbox); have n7_ := Aside0.mk ((by rw [hg]; exact (below_size (by repeat (first | (with_reducible first | exact HB.out | apply below_alloc | apply pw_below_drewN | apply below_drew1 | refine below_set ?_ GE196.out | refine below_set ?_ GE208.out) | exact HB.out))) : w.heap.size ≤ gb223)); have n8_ := Aside0.mk ((by rw [hg]; exact (below_size (by repeat (first | (with_reducible first | exact HB.out | apply below_alloc | apply pw_below_drewN | apply below_drew1 | refine below_set ?_ GE196.out | refine below_set ?_ GE208.out) | exact HB.out))) : w.heap.size ≤ gb223)); have n9_ := Aside0.mk ((by rw [hg]; exact Nat.ne_of_lt (blk_lt (g := gb196) (o := .cells #[.int .i64 t185, .int .i64 t186, .int .i64 t187, .slice Ao9 t188.length co9, .int .i64 t191, .int .i64 t192, .int .i64 t193, .int .i64 t194] 38 (0, 0)) (by (with_reducible repeat (first | refine blk_drewN ?_ _ | refine blk_drew ?_ | refine blk_alloc ?_ _)); exact BK196.out)) : gb196 ≠ gb223)); have n10_ := Aside0.mk ((by rw [hg]; exact Nat.ne_of_gt (blk_lt (g := gb196) (o := .cells #[.int .i64 t185, .int .i64 t186, .int .i64 t187, .slice Ao9 t188.length co9, .int .i64 t191, .int .i64 t192, .int .i64 t193, .int .i64 t194] 38 (0, 0)) (by (with_reducible repeat (first | refine blk_drewN ?_ _ | refine blk_drew ?_ | refine blk_alloc ?_ _)); exact BK196.out)) : gb223 ≠ gb196)); have n11_ := Aside0.mk ((by rw [hg]; exact Nat.ne_of_lt (blk_lt (g := gb208) (o := .cells #[.int .i64 t197, .int .i64 t198, .int .i64 t199, .slice Ao14 t200.length co14, .int .i64 t203, .int .i64 t204, .int .i64 t205, .int .i64 t206] 38 (0, 0)) (by (with_reducible repeat (first | refine blk_drewN ?_ _ | refine blk_drew ?_ | refine blk_alloc ?_ _)); exact BK208.out)) : gb208 ≠ gb223)); have n12_ := Aside0.mk ((by rw [hg]; exact Nat.ne_of_gt (blk_lt (g := gb208) (o := .cells #[.int .i64 t197, .int .i64 t198, .int .i64 t199, .slice Ao14 t200.length co14, .int .i64 t203, .int .i64 t204, .int .i64 t205, .int .i64 t206] 38 (0, 0)) (by (with_reducible repeat (first | refine blk_drewN ?_ _ | refine blk_drew ?_ | refine blk_alloc ?_ _)); exact BK208.out)) : gb223 ≠ gb208)); clear HO_197003; clear HO_209003; clear HO217; clear BK196; clear BK208; clear HB; have HO_197003 := n0_; have HO_209003 := n1_; have HO217 := n2_; have BK196 := n3_; have BK208 := n4_; have HB := n5_; have BK223 := n6_; have GW223 := n7_; have GE223 := n8_; have NB196_223 := n9_; have NB223_196 := n10_; have NB208_223 := n11_; have NB223_208 := n12_; clear n0_ n1_ n2_ n3_ n4_ n5_ n6_ n7_ n8_ n9_ n10_ n11_ n12_; clear hb hbox hg; have hnb39 := NB223_196.out; have hnc39 := NB196_223.out; have hnb40 := NB223_208.out; have hnc40 := NB208_223.out; have hcz41_0 : w38.cell? ⟨gb223, 0, none⟩ = some (.int .i64 0) := (blk_cell BK223.out 0).trans rfl; have hcz41_1 : w38.cell? ⟨gb223, 1, none⟩ = some (.int .i64 0) := (blk_cell BK223.out 1).trans rfl; have hcz41_2 : w38.cell? ⟨gb223, 2, none⟩ = some (.int .i64 0) := (blk_cell BK223.out 2).trans rfl; have hcz41_3 : w38.cell? ⟨gb223, 3, none⟩ = some (.slice none 0 0) := (blk_cell BK223.out 3).trans rfl; have hcz41_4 : w38.cell? ⟨gb223, 4, none⟩ = some (.int .i64 0) := (blk_cell BK223.out 4).trans rfl; have hcz41_5 : w38.cell? ⟨gb223, 5, none⟩ = some (.int .i64 0) := (blk_cell BK223.out 5).trans rfl; have hcz41_6 : w38.cell? ⟨gb223, 6, none⟩ = some (.int .i64 0) := (blk_cell BK223.out 6).trans rfl; have hcz41_7 : w38.cell? ⟨gb223, 7, none⟩ = some (.int .i64 0) := (blk_cell BK223.out 7).trans rfl; have hfz41_0 := blk_frozen BK223.out 0; have hfz41_1 := blk_frozen BK223.out 1; have hfz41_2 := blk_frozen BK223.out 2; have hfz41_3 := blk_frozen BK223.out 3; have hfz41_4 := blk_frozen BK223.out 4; have hfz41_5 := blk_frozen BK223.out 5; have hfz41_6 := blk_frozen BK223.out 6; have hfz41_7 := blk_frozen BK223.out 7; obtain ⟨Ao42, co42, eo42⟩ := Kd.S_slice HO217.out; subst eo42))
            (try simp only [Act.put, List.setIfInBounds_toArray, List.set_cons_zero, List.set_cons_succ])
            go_cut [59] (fun v59 wc => ∃ (kq : Nat) (x59_30 : Bool), v59 = .bool x59_30 ∧ Aside0 (laws_FnExactNewSched.j1 kq t210 x59_30 t197 t198 t199 t200 t203 t204 t205 t206 = some r) ∧ Aside0 (kq ≤ kj4) ∧ Aside0 (Kd.S k27 27 wc w.heap.size (fun k_ => some k_ ≠ ((.slice Ao14 t200.length co14) : Value).ownBlock ∧ some k_ ≠ ((.slice Ao42 t215.length co42) : Value).ownBlock) (.slice Ao9 t188.length co9) t188) ∧ Aside0 (Kd.S k27 27 wc w.heap.size (fun k_ => some k_ ≠ ((.slice Ao9 t188.length co9) : Value).ownBlock ∧ some k_ ≠ ((.slice Ao42 t215.length co42) : Value).ownBlock) (.slice Ao14 t200.length co14) t200) ∧ Aside0 (Kd.S k27 27 wc w.heap.size (fun k_ => some k_ ≠ ((.slice Ao9 t188.length co9) : Value).ownBlock ∧ some k_ ≠ ((.slice Ao14 t200.length co14) : Value).ownBlock) (.slice Ao42 t215.length co42) t215) ∧ Aside0 (wc.heap[gb196]? = some (.cells #[.int .i64 t185, .int .i64 t186, .int .i64 t187, (.slice Ao9 t188.length co9), .int .i64 t191, .int .i64 t192, .int .i64 t193, .int .i64 t194] 38 (0, 0))) ∧ Aside0 (wc.heap[gb208]? = some (.cells #[.int .i64 t197, .int .i64 t198, .int .i64 t199, (.slice Ao14 t200.length co14), .int .i64 t203, .int .i64 t204, .int .i64 t205, .int .i64 t206] 38 (0, 0))) ∧ Aside0 (wc.heap[gb223]? = some (.cells #[.int .i64 t212, .int .i64 t213, .int .i64 t214, (.slice Ao42 t215.length co42), .int .i64 t218, .int .i64 t219, .int .i64 t220, .int .i64 t221] 38 (0, 0))) ∧ Aside0 (Below w.heap.size w wc))
            case first =>
              have H := HC31.out
              clear HC31
              replace H := Option.bind_eq_some_iff.mp H
              obtain ⟨t224, A430, H⟩ := H
              replace H : (if t224 = true then (laws_FnExactNewSched.j1 kj4 t210 (t222 != t195) t197 t198 t199 t200 t203 t204 t205 t206) else (laws_FnExactNewSched.j1 kj4 t210 true t197 t198 t199 t200 t203 t204 t205 t206)) = some r := H
              have A43 := Aside0.mk A430
              clear A430
              by_cases c44 : t224 = true
              · subst c44
                have H1 : (laws_FnExactNewSched.j1 kj4 t210 (t222 != t195) t197 t198 t199 t200 t203 t204 t205 t206) = some r := by rw [if_pos rfl] at H; exact H
                clear H
                have H := H1
                clear H1
                have H' := Aside0.mk H
                clear H
                have hnb45 := NB223_196.out
                have hnc45 := NB196_223.out
                have hnb46 := NB223_208.out
                have hnc46 := NB208_223.out
                have hcz47_0 : w38.cell? ⟨gb223, 0, none⟩ = some (.int .i64 0) := (blk_cell BK223.out 0).trans rfl
                have hcz47_1 : w38.cell? ⟨gb223, 1, none⟩ = some (.int .i64 0) := (blk_cell BK223.out 1).trans rfl
                have hcz47_2 : w38.cell? ⟨gb223, 2, none⟩ = some (.int .i64 0) := (blk_cell BK223.out 2).trans rfl
                have hcz47_3 : w38.cell? ⟨gb223, 3, none⟩ = some (.slice none 0 0) := (blk_cell BK223.out 3).trans rfl
                have hcz47_4 : w38.cell? ⟨gb223, 4, none⟩ = some (.int .i64 0) := (blk_cell BK223.out 4).trans rfl
                have hcz47_5 : w38.cell? ⟨gb223, 5, none⟩ = some (.int .i64 0) := (blk_cell BK223.out 5).trans rfl
                have hcz47_6 : w38.cell? ⟨gb223, 6, none⟩ = some (.int .i64 0) := (blk_cell BK223.out 6).trans rfl
                have hcz47_7 : w38.cell? ⟨gb223, 7, none⟩ = some (.int .i64 0) := (blk_cell BK223.out 7).trans rfl
                have hfz47_0 := blk_frozen BK223.out 0
                have hfz47_1 := blk_frozen BK223.out 1
                have hfz47_2 := blk_frozen BK223.out 2
                have hfz47_3 := blk_frozen BK223.out 3
                have hfz47_4 := blk_frozen BK223.out 4
                have hfz47_5 := blk_frozen BK223.out 5
                have hfz47_6 := blk_frozen BK223.out 6
                have hfz47_7 := blk_frozen BK223.out 7
                have hnb48 := NB196_208.out
                have hnc48 := NB208_196.out
                have hcz49_0 : w38.cell? ⟨gb196, 0, none⟩ = some (.int .i64 t185) := (blk_cell BK196.out 0).trans rfl
                have hcz49_1 : w38.cell? ⟨gb196, 1, none⟩ = some (.int .i64 t186) := (blk_cell BK196.out 1).trans rfl
                have hcz49_2 : w38.cell? ⟨gb196, 2, none⟩ = some (.int .i64 t187) := (blk_cell BK196.out 2).trans rfl
                have hcz49_3 : w38.cell? ⟨gb196, 3, none⟩ = some (.slice Ao9 t188.length co9) := (blk_cell BK196.out 3).trans rfl
                have hcz49_4 : w38.cell? ⟨gb196, 4, none⟩ = some (.int .i64 t191) := (blk_cell BK196.out 4).trans rfl
                have hcz49_5 : w38.cell? ⟨gb196, 5, none⟩ = some (.int .i64 t192) := (blk_cell BK196.out 5).trans rfl
                have hcz49_6 : w38.cell? ⟨gb196, 6, none⟩ = some (.int .i64 t193) := (blk_cell BK196.out 6).trans rfl
                have hcz49_7 : w38.cell? ⟨gb196, 7, none⟩ = some (.int .i64 t194) := (blk_cell BK196.out 7).trans rfl
                have hfz49_0 := blk_frozen BK196.out 0
                have hfz49_1 := blk_frozen BK196.out 1
                have hfz49_2 := blk_frozen BK196.out 2
                have hfz49_3 := blk_frozen BK196.out 3
                have hfz49_4 := blk_frozen BK196.out 4
                have hfz49_5 := blk_frozen BK196.out 5
                have hfz49_6 := blk_frozen BK196.out 6
                have hfz49_7 := blk_frozen BK196.out 7
                go_wp2_with (first | ((with_reducible refine gate_callee (f := 23) rfl ?_); refine goesL_ (some 53) rfl rfl Try.func23 (by kernel_rfl) rfl #[.agg #[.int .i64 t212, .int .i64 t213, .int .i64 t214, .slice Ao42 t215.length co42, .int .i64 t218, .int .i64 t219, .int .i64 t220, .int .i64 t221], .agg #[.int .i64 t185, .int .i64 t186, .int .i64 t187, .slice Ao9 t188.length co9, .int .i64 t191, .int .i64 t192, .int .i64 t193, .int .i64 t194]] rfl (by (try simp only [List.map_toArray, List.map_cons, List.map_nil]); first | done | rfl | (simp only [List.length_drop, List.length_take]; rfl)) ?_; (with_reducible refine (laws_eqSched.calls kj4 t212 t213 t214 _ _ t215 t218 t219 t220 t221 t185 t186 t187 _ _ t188 t191 t192 t193 t194 true _ ?side1 ?side2 ?side3 ?side4 A43.out).mono ?_); (case side1 => refine (Kd.S_reads' (e := 27) (base := w.heap.size) (ok := fun k_ => ((True ∧ some k_ ≠ (.slice Ao9 t188.length co9 : Value).ownBlock) ∧ some k_ ≠ (.slice Ao14 t200.length co14 : Value).ownBlock)) (n := t215.length) (c := co42) ?_).2.2; exact (by (with_reducible repeat (first | apply Kd.S_alloc | apply Kd.S_drewN | apply Kd.S_drew)); exact (Kd.S_mono (Kd.S_far (p := ⟨gb223, 7, none⟩) (Kd.S_far (p := ⟨gb223, 6, none⟩) (Kd.S_far (p := ⟨gb223, 5, none⟩) (Kd.S_far (p := ⟨gb223, 4, none⟩) (Kd.S_far (p := ⟨gb223, 3, none⟩) (Kd.S_far (p := ⟨gb223, 2, none⟩) (Kd.S_far (p := ⟨gb223, 1, none⟩) (Kd.S_far (p := ⟨gb223, 0, none⟩) (Kd.S_types HO217.out BK223.out (by decide)) (fun _ hk => hk.2) (.int .i64 t212)) (fun _ hk => hk.2) (.int .i64 t213)) (fun _ hk => hk.2) (.int .i64 t214)) (fun _ hk => hk.2) (.slice Ao42 t215.length co42)) (fun _ hk => hk.2) (.int .i64 t218)) (fun _ hk => hk.2) (.int .i64 t219)) (fun _ hk => hk.2) (.int .i64 t220)) (fun _ hk => hk.2) (.int .i64 t221)) (fun _ h_ => h_.1)))); (case side2 => exact (Kd.S_reads' HO217.out).2.1); (case side3 => refine (Kd.S_reads' (e := 27) (base := w.heap.size) (ok := fun k_ => (some k_ ≠ (.slice Ao14 t200.length co14 : Value).ownBlock ∧ some k_ ≠ (.slice Ao42 t215.length co42 : Value).ownBlock)) (n := t188.length) (c := co9) ?_).2.2; exact (by (with_reducible repeat (first | apply Kd.S_alloc | apply Kd.S_drewN | apply Kd.S_drew)); exact (Kd.S_mono (Kd.S_far (p := ⟨gb223, 7, none⟩) (Kd.S_far (p := ⟨gb223, 6, none⟩) (Kd.S_far (p := ⟨gb223, 5, none⟩) (Kd.S_far (p := ⟨gb223, 4, none⟩) (Kd.S_far (p := ⟨gb223, 3, none⟩) (Kd.S_far (p := ⟨gb223, 2, none⟩) (Kd.S_far (p := ⟨gb223, 1, none⟩) (Kd.S_far (p := ⟨gb223, 0, none⟩) (Kd.S_types HO_197003.out BK223.out (by decide)) (fun _ hk => hk.2) (.int .i64 t212)) (fun _ hk => hk.2) (.int .i64 t213)) (fun _ hk => hk.2) (.int .i64 t214)) (fun _ hk => hk.2) (.slice Ao42 t215.length co42)) (fun _ hk => hk.2) (.int .i64 t218)) (fun _ hk => hk.2) (.int .i64 t219)) (fun _ hk => hk.2) (.int .i64 t220)) (fun _ hk => hk.2) (.int .i64 t221)) (fun _ h_ => h_.1)))); (case side4 => exact (Kd.S_reads' HO_197003.out).2.1); rintro e w50 ⟨rfl, hb⟩; refine ⟨_, rfl, ?_⟩; have n0_ := Aside0.mk (Kd.S_below (by (with_reducible repeat (first | apply Kd.S_alloc | apply Kd.S_drewN | apply Kd.S_drew)); exact (Kd.S_mono (Kd.S_far (p := ⟨gb223, 7, none⟩) (Kd.S_far (p := ⟨gb223, 6, none⟩) (Kd.S_far (p := ⟨gb223, 5, none⟩) (Kd.S_far (p := ⟨gb223, 4, none⟩) (Kd.S_far (p := ⟨gb223, 3, none⟩) (Kd.S_far (p := ⟨gb223, 2, none⟩) (Kd.S_far (p := ⟨gb223, 1, none⟩) (Kd.S_far (p := ⟨gb223, 0, none⟩) (Kd.S_types HO_197003.out BK223.out (by decide)) (fun _ hk => hk.2) (.int .i64 t212)) (fun _ hk => hk.2) (.int .i64 t213)) (fun _ hk => hk.2) (.int .i64 t214)) (fun _ hk => hk.2) (.slice Ao42 t215.length co42)) (fun _ hk => hk.2) (.int .i64 t218)) (fun _ hk => hk.2) (.int .i64 t219)) (fun _ hk => hk.2) (.int .i64 t220)) (fun _ hk => hk.2) (.int .i64 t221)) (fun _ h_ => h_.1))) hb); have n1_ := Aside0.mk (Kd.S_below (by (with_reducible repeat (first | apply Kd.S_alloc | apply Kd.S_drewN | apply Kd.S_drew)); exact (Kd.S_mono (Kd.S_far (p := ⟨gb223, 7, none⟩) (Kd.S_far (p := ⟨gb223, 6, none⟩) (Kd.S_far (p := ⟨gb223, 5, none⟩) (Kd.S_far (p := ⟨gb223, 4, none⟩) (Kd.S_far (p := ⟨gb223, 3, none⟩) (Kd.S_far (p := ⟨gb223, 2, none⟩) (Kd.S_far (p := ⟨gb223, 1, none⟩) (Kd.S_far (p := ⟨gb223, 0, none⟩) (Kd.S_types HO_209003.out BK223.out (by decide)) (fun _ hk => hk.2) (.int .i64 t212)) (fun _ hk => hk.2) (.int .i64 t213)) (fun _ hk => hk.2) (.int .i64 t214)) (fun _ hk => hk.2) (.slice Ao42 t215.length co42)) (fun _ hk => hk.2) (.int .i64 t218)) (fun _ hk => hk.2) (.int .i64 t219)) (fun _ hk => hk.2) (.int .i64 t220)) (fun _ hk => hk.2) (.int .i64 t221)) (fun _ h_ => h_.1))) hb); have n2_ := Aside0.mk (Kd.S_below (by (with_reducible repeat (first | apply Kd.S_alloc | apply Kd.S_drewN | apply Kd.S_drew)); exact (Kd.S_mono (Kd.S_far (p := ⟨gb223, 7, none⟩) (Kd.S_far (p := ⟨gb223, 6, none⟩) (Kd.S_far (p := ⟨gb223, 5, none⟩) (Kd.S_far (p := ⟨gb223, 4, none⟩) (Kd.S_far (p := ⟨gb223, 3, none⟩) (Kd.S_far (p := ⟨gb223, 2, none⟩) (Kd.S_far (p := ⟨gb223, 1, none⟩) (Kd.S_far (p := ⟨gb223, 0, none⟩) (Kd.S_types HO217.out BK223.out (by decide)) (fun _ hk => hk.2) (.int .i64 t212)) (fun _ hk => hk.2) (.int .i64 t213)) (fun _ hk => hk.2) (.int .i64 t214)) (fun _ hk => hk.2) (.slice Ao42 t215.length co42)) (fun _ hk => hk.2) (.int .i64 t218)) (fun _ hk => hk.2) (.int .i64 t219)) (fun _ hk => hk.2) (.int .i64 t220)) (fun _ hk => hk.2) (.int .i64 t221)) (fun _ h_ => h_.1))) hb); have n3_ := Aside0.mk (blk_below (g := gb196) (o := .cells #[.int .i64 t185, .int .i64 t186, .int .i64 t187, .slice Ao9 t188.length co9, .int .i64 t191, .int .i64 t192, .int .i64 t193, .int .i64 t194] 38 (0, 0)) (by (with_reducible repeat (first | refine blk_drewN ?_ _ | refine blk_drew ?_ | refine blk_alloc ?_ _)); refine blk_far ?_ NB196_223.out _; (with_reducible repeat (first | refine blk_drewN ?_ _ | refine blk_drew ?_ | refine blk_alloc ?_ _)); refine blk_far ?_ NB196_223.out _; (with_reducible repeat (first | refine blk_drewN ?_ _ | refine blk_drew ?_ | refine blk_alloc ?_ _)); refine blk_far ?_ NB196_223.out _; (with_reducible repeat (first | refine blk_drewN ?_ _ | refine blk_drew ?_ | refine blk_alloc ?_ _)); refine blk_far ?_ NB196_223.out _; (with_reducible repeat (first | refine blk_drewN ?_ _ | refine blk_drew ?_ | refine blk_alloc ?_ _)); refine blk_far ?_ NB196_223.out _; (with_reducible repeat (first | refine blk_drewN ?_ _ | refine blk_drew ?_ | refine blk_alloc ?_ _)); refine blk_far ?_ NB196_223.out _; (with_reducible repeat (first | refine blk_drewN ?_ _ | refine blk_drew ?_ | refine blk_alloc ?_ _)); refine blk_far ?_ NB196_223.out _; (with_reducible repeat (first | refine blk_drewN ?_ _ | refine blk_drew ?_ | refine blk_alloc ?_ _)); refine blk_far ?_ NB196_223.out _; (with_reducible repeat (first | refine blk_drewN ?_ _ | refine blk_drew ?_ | refine blk_alloc ?_ _)); exact BK196.out) hb); have n4_ := Aside0.mk (blk_below (g := gb208) (o := .cells #[.int .i64 t197, .int .i64 t198, .int .i64 t199, .slice Ao14 t200.length co14, .int .i64 t203, .int .i64 t204, .int .i64 t205, .int .i64 t206] 38 (0, 0)) (by (with_reducible repeat (first | refine blk_drewN ?_ _ | refine blk_drew ?_ | refine blk_alloc ?_ _)); refine blk_far ?_ NB208_223.out _; (with_reducible repeat (first | refine blk_drewN ?_ _ | refine blk_drew ?_ | refine blk_alloc ?_ _)); refine blk_far ?_ NB208_223.out _; (with_reducible repeat (first | refine blk_drewN ?_ _ | refine blk_drew ?_ | refine blk_alloc ?_ _)); refine blk_far ?_ NB208_223.out _; (with_reducible repeat (first | refine blk_drewN ?_ _ | refine blk_drew ?_ | refine blk_alloc ?_ _)); refine blk_far ?_ NB208_223.out _; (with_reducible repeat (first | refine blk_drewN ?_ _ | refine blk_drew ?_ | refine blk_alloc ?_ _)); refine blk_far ?_ NB208_223.out _; (with_reducible repeat (first | refine blk_drewN ?_ _ | refine blk_drew ?_ | refine blk_alloc ?_ _)); refine blk_far ?_ NB208_223.out _; (with_reducible repeat (first | refine blk_drewN ?_ _ | refine blk_drew ?_ | refine blk_alloc ?_ _)); refine blk_far ?_ NB208_223.out _; (with_reducible repeat (first | refine blk_drewN ?_ _ | refine blk_drew ?_ | refine blk_alloc ?_ _)); refine blk_far ?_ NB208_223.out _; (with_reducible repeat (first | refine blk_drewN ?_ _ | refine blk_drew ?_ | refine blk_alloc ?_ _)); exact BK208.out) hb); have n5_ := Aside0.mk (blk_below (g := gb223) (o := .cells #[.int .i64 t212, .int .i64 t213, .int .i64 t214, .slice Ao42 t215.length co42, .int .i64 t218, .int .i64 t219, .int .i64 t220, .int .i64 t221] 38 (0, 0)) (by (with_reducible repeat (first | refine blk_drewN ?_ _ | refine blk_drew ?_ | refine blk_alloc ?_ _)); refine blk_put (cs := #[.int .i64 t212, .int .i64 t213, .int .i64 t214, .slice Ao42 t215.length co42, .int .i64 t218, .int .i64 t219, .int .i64 t220, .int .i64 0]) ?_ 7 _ rfl; (with_reducible repeat (first | refine blk_drewN ?_ _ | refine blk_drew ?_ | refine blk_alloc ?_ _)); refine blk_put (cs := #[.int .i64 t212, .int .i64 t213, .int .i64 t214, .slice Ao42 t215.length co42, .int .i64 t218, .int .i64 t219, .int .i64 0, .int .i64 0]) ?_ 6 _ rfl; (with_reducible repeat (first | refine blk_drewN ?_ _ | refine blk_drew ?_ | refine blk_alloc ?_ _)); refine blk_put (cs := #[.int .i64 t212, .int .i64 t213, .int .i64 t214, .slice Ao42 t215.length co42, .int .i64 t218, .int .i64 0, .int .i64 0, .int .i64 0]) ?_ 5 _ rfl; (with_reducible repeat (first | refine blk_drewN ?_ _ | refine blk_drew ?_ | refine blk_alloc ?_ _)); refine blk_put (cs := #[.int .i64 t212, .int .i64 t213, .int .i64 t214, .slice Ao42 t215.length co42, .int .i64 0, .int .i64 0, .int .i64 0, .int .i64 0]) ?_ 4 _ rfl; (with_reducible repeat (first | refine blk_drewN ?_ _ | refine blk_drew ?_ | refine blk_alloc ?_ _)); refine blk_put (cs := #[.int .i64 t212, .int .i64 t213, .int .i64 t214, .slice none 0 0, .int .i64 0, .int .i64 0, .int .i64 0, .int .i64 0]) ?_ 3 _ rfl; (with_reducible repeat (first | refine blk_drewN ?_ _ | refine blk_drew ?_ | refine blk_alloc ?_ _)); refine blk_put (cs := #[.int .i64 t212, .int .i64 t213, .int .i64 0, .slice none 0 0, .int .i64 0, .int .i64 0, .int .i64 0, .int .i64 0]) ?_ 2 _ rfl; (with_reducible repeat (first | refine blk_drewN ?_ _ | refine blk_drew ?_ | refine blk_alloc ?_ _)); refine blk_put (cs := #[.int .i64 t212, .int .i64 0, .int .i64 0, .slice none 0 0, .int .i64 0, .int .i64 0, .int .i64 0, .int .i64 0]) ?_ 1 _ rfl; (with_reducible repeat (first | refine blk_drewN ?_ _ | refine blk_drew ?_ | refine blk_alloc ?_ _)); refine blk_put (cs := #[.int .i64 0, .int .i64 0, .int .i64 0, .slice none 0 0, .int .i64 0, .int .i64 0, .int .i64 0, .int .i64 0]) ?_ 0 _ rfl; (with_reducible repeat (first | refine blk_drewN ?_ _ | refine blk_drew ?_ | refine blk_alloc ?_ _)); exact BK223.out) hb); have n6_ := Aside0.mk (below_step (by repeat (first | (with_reducible first | exact HB.out | apply below_alloc | apply pw_below_drewN | apply below_drew1 | refine below_set ?_ GE196.out | refine below_set ?_ GE208.out | refine below_set ?_ GE223.out) | exact HB.out)) hb); clear HO_197003; clear HO_209003; clear HO217; clear BK196; clear BK208; clear BK223; clear HB; have HO_197003 := n0_; have HO_209003 := n1_; have HO217 := n2_; have BK196 := n3_; have BK208 := n4_; have BK223 := n5_; have HB := n6_; clear n0_ n1_ n2_ n3_ n4_ n5_ n6_; (try clear hb); (try clear hb2); (try clear hk); (try clear hi)))
                go_meet
                case rel => exact ⟨_, ((t222 != t195)), (by first | rfl | (simp; done) | (simp [*]; done)), H', ⟨by have := HJ4.out; first | omega | exact Nat.le_refl _⟩, ⟨by (with_reducible repeat (first | apply Kd.S_alloc | apply Kd.S_drewN | apply Kd.S_drew)); exact HO_197003.out⟩, ⟨by (with_reducible repeat (first | apply Kd.S_alloc | apply Kd.S_drewN | apply Kd.S_drew)); exact HO_209003.out⟩, ⟨by (with_reducible repeat (first | apply Kd.S_alloc | apply Kd.S_drewN | apply Kd.S_drew)); exact Kd.S_mono HO217.out (fun _ hk => ⟨hk.1.2, hk.2⟩)⟩, ⟨by (with_reducible repeat (first | refine blk_drewN ?_ _ | refine blk_drew ?_ | refine blk_alloc ?_ _)); exact BK196.out⟩, ⟨by (with_reducible repeat (first | refine blk_drewN ?_ _ | refine blk_drew ?_ | refine blk_alloc ?_ _)); exact BK208.out⟩, ⟨by (with_reducible repeat (first | refine blk_drewN ?_ _ | refine blk_drew ?_ | refine blk_alloc ?_ _)); exact BK223.out⟩, ⟨by repeat (first | (with_reducible first | exact HB.out | apply below_alloc | apply pw_below_drewN | apply below_drew1 | refine below_set ?_ GE196.out | refine below_set ?_ GE208.out | refine below_set ?_ GE223.out) | exact HB.out)⟩⟩
              · replace c44 := Bool.eq_false_iff.mpr c44
                subst c44
                have H1 : (laws_FnExactNewSched.j1 kj4 t210 true t197 t198 t199 t200 t203 t204 t205 t206) = some r := by rw [if_neg (show ¬ (false = true) by decide)] at H; exact H
                clear H
                have H := H1
                clear H1
                have H' := Aside0.mk H
                clear H
                have hnb51 := NB223_196.out
                have hnc51 := NB196_223.out
                have hnb52 := NB223_208.out
                have hnc52 := NB208_223.out
                have hcz53_0 : w38.cell? ⟨gb223, 0, none⟩ = some (.int .i64 0) := (blk_cell BK223.out 0).trans rfl
                have hcz53_1 : w38.cell? ⟨gb223, 1, none⟩ = some (.int .i64 0) := (blk_cell BK223.out 1).trans rfl
                have hcz53_2 : w38.cell? ⟨gb223, 2, none⟩ = some (.int .i64 0) := (blk_cell BK223.out 2).trans rfl
                have hcz53_3 : w38.cell? ⟨gb223, 3, none⟩ = some (.slice none 0 0) := (blk_cell BK223.out 3).trans rfl
                have hcz53_4 : w38.cell? ⟨gb223, 4, none⟩ = some (.int .i64 0) := (blk_cell BK223.out 4).trans rfl
                have hcz53_5 : w38.cell? ⟨gb223, 5, none⟩ = some (.int .i64 0) := (blk_cell BK223.out 5).trans rfl
                have hcz53_6 : w38.cell? ⟨gb223, 6, none⟩ = some (.int .i64 0) := (blk_cell BK223.out 6).trans rfl
                have hcz53_7 : w38.cell? ⟨gb223, 7, none⟩ = some (.int .i64 0) := (blk_cell BK223.out 7).trans rfl
                have hfz53_0 := blk_frozen BK223.out 0
                have hfz53_1 := blk_frozen BK223.out 1
                have hfz53_2 := blk_frozen BK223.out 2
                have hfz53_3 := blk_frozen BK223.out 3
                have hfz53_4 := blk_frozen BK223.out 4
                have hfz53_5 := blk_frozen BK223.out 5
                have hfz53_6 := blk_frozen BK223.out 6
                have hfz53_7 := blk_frozen BK223.out 7
                have hnb54 := NB196_208.out
                have hnc54 := NB208_196.out
                have hcz55_0 : w38.cell? ⟨gb196, 0, none⟩ = some (.int .i64 t185) := (blk_cell BK196.out 0).trans rfl
                have hcz55_1 : w38.cell? ⟨gb196, 1, none⟩ = some (.int .i64 t186) := (blk_cell BK196.out 1).trans rfl
                have hcz55_2 : w38.cell? ⟨gb196, 2, none⟩ = some (.int .i64 t187) := (blk_cell BK196.out 2).trans rfl
                have hcz55_3 : w38.cell? ⟨gb196, 3, none⟩ = some (.slice Ao9 t188.length co9) := (blk_cell BK196.out 3).trans rfl
                have hcz55_4 : w38.cell? ⟨gb196, 4, none⟩ = some (.int .i64 t191) := (blk_cell BK196.out 4).trans rfl
                have hcz55_5 : w38.cell? ⟨gb196, 5, none⟩ = some (.int .i64 t192) := (blk_cell BK196.out 5).trans rfl
                have hcz55_6 : w38.cell? ⟨gb196, 6, none⟩ = some (.int .i64 t193) := (blk_cell BK196.out 6).trans rfl
                have hcz55_7 : w38.cell? ⟨gb196, 7, none⟩ = some (.int .i64 t194) := (blk_cell BK196.out 7).trans rfl
                have hfz55_0 := blk_frozen BK196.out 0
                have hfz55_1 := blk_frozen BK196.out 1
                have hfz55_2 := blk_frozen BK196.out 2
                have hfz55_3 := blk_frozen BK196.out 3
                have hfz55_4 := blk_frozen BK196.out 4
                have hfz55_5 := blk_frozen BK196.out 5
                have hfz55_6 := blk_frozen BK196.out 6
                have hfz55_7 := blk_frozen BK196.out 7
                go_wp2_with (first | ((with_reducible refine gate_callee (f := 23) rfl ?_); refine goesL_ (some 53) rfl rfl Try.func23 (by kernel_rfl) rfl #[.agg #[.int .i64 t212, .int .i64 t213, .int .i64 t214, .slice Ao42 t215.length co42, .int .i64 t218, .int .i64 t219, .int .i64 t220, .int .i64 t221], .agg #[.int .i64 t185, .int .i64 t186, .int .i64 t187, .slice Ao9 t188.length co9, .int .i64 t191, .int .i64 t192, .int .i64 t193, .int .i64 t194]] rfl (by (try simp only [List.map_toArray, List.map_cons, List.map_nil]); first | done | rfl | (simp only [List.length_drop, List.length_take]; rfl)) ?_; (with_reducible refine (laws_eqSched.calls kj4 t212 t213 t214 _ _ t215 t218 t219 t220 t221 t185 t186 t187 _ _ t188 t191 t192 t193 t194 false _ ?side1 ?side2 ?side3 ?side4 A43.out).mono ?_); (case side1 => refine (Kd.S_reads' (e := 27) (base := w.heap.size) (ok := fun k_ => ((True ∧ some k_ ≠ (.slice Ao9 t188.length co9 : Value).ownBlock) ∧ some k_ ≠ (.slice Ao14 t200.length co14 : Value).ownBlock)) (n := t215.length) (c := co42) ?_).2.2; exact (by (with_reducible repeat (first | apply Kd.S_alloc | apply Kd.S_drewN | apply Kd.S_drew)); exact (Kd.S_mono (Kd.S_far (p := ⟨gb223, 7, none⟩) (Kd.S_far (p := ⟨gb223, 6, none⟩) (Kd.S_far (p := ⟨gb223, 5, none⟩) (Kd.S_far (p := ⟨gb223, 4, none⟩) (Kd.S_far (p := ⟨gb223, 3, none⟩) (Kd.S_far (p := ⟨gb223, 2, none⟩) (Kd.S_far (p := ⟨gb223, 1, none⟩) (Kd.S_far (p := ⟨gb223, 0, none⟩) (Kd.S_types HO217.out BK223.out (by decide)) (fun _ hk => hk.2) (.int .i64 t212)) (fun _ hk => hk.2) (.int .i64 t213)) (fun _ hk => hk.2) (.int .i64 t214)) (fun _ hk => hk.2) (.slice Ao42 t215.length co42)) (fun _ hk => hk.2) (.int .i64 t218)) (fun _ hk => hk.2) (.int .i64 t219)) (fun _ hk => hk.2) (.int .i64 t220)) (fun _ hk => hk.2) (.int .i64 t221)) (fun _ h_ => h_.1)))); (case side2 => exact (Kd.S_reads' HO217.out).2.1); (case side3 => refine (Kd.S_reads' (e := 27) (base := w.heap.size) (ok := fun k_ => (some k_ ≠ (.slice Ao14 t200.length co14 : Value).ownBlock ∧ some k_ ≠ (.slice Ao42 t215.length co42 : Value).ownBlock)) (n := t188.length) (c := co9) ?_).2.2; exact (by (with_reducible repeat (first | apply Kd.S_alloc | apply Kd.S_drewN | apply Kd.S_drew)); exact (Kd.S_mono (Kd.S_far (p := ⟨gb223, 7, none⟩) (Kd.S_far (p := ⟨gb223, 6, none⟩) (Kd.S_far (p := ⟨gb223, 5, none⟩) (Kd.S_far (p := ⟨gb223, 4, none⟩) (Kd.S_far (p := ⟨gb223, 3, none⟩) (Kd.S_far (p := ⟨gb223, 2, none⟩) (Kd.S_far (p := ⟨gb223, 1, none⟩) (Kd.S_far (p := ⟨gb223, 0, none⟩) (Kd.S_types HO_197003.out BK223.out (by decide)) (fun _ hk => hk.2) (.int .i64 t212)) (fun _ hk => hk.2) (.int .i64 t213)) (fun _ hk => hk.2) (.int .i64 t214)) (fun _ hk => hk.2) (.slice Ao42 t215.length co42)) (fun _ hk => hk.2) (.int .i64 t218)) (fun _ hk => hk.2) (.int .i64 t219)) (fun _ hk => hk.2) (.int .i64 t220)) (fun _ hk => hk.2) (.int .i64 t221)) (fun _ h_ => h_.1)))); (case side4 => exact (Kd.S_reads' HO_197003.out).2.1); rintro e w56 ⟨rfl, hb⟩; refine ⟨_, rfl, ?_⟩; have n0_ := Aside0.mk (Kd.S_below (by (with_reducible repeat (first | apply Kd.S_alloc | apply Kd.S_drewN | apply Kd.S_drew)); exact (Kd.S_mono (Kd.S_far (p := ⟨gb223, 7, none⟩) (Kd.S_far (p := ⟨gb223, 6, none⟩) (Kd.S_far (p := ⟨gb223, 5, none⟩) (Kd.S_far (p := ⟨gb223, 4, none⟩) (Kd.S_far (p := ⟨gb223, 3, none⟩) (Kd.S_far (p := ⟨gb223, 2, none⟩) (Kd.S_far (p := ⟨gb223, 1, none⟩) (Kd.S_far (p := ⟨gb223, 0, none⟩) (Kd.S_types HO_197003.out BK223.out (by decide)) (fun _ hk => hk.2) (.int .i64 t212)) (fun _ hk => hk.2) (.int .i64 t213)) (fun _ hk => hk.2) (.int .i64 t214)) (fun _ hk => hk.2) (.slice Ao42 t215.length co42)) (fun _ hk => hk.2) (.int .i64 t218)) (fun _ hk => hk.2) (.int .i64 t219)) (fun _ hk => hk.2) (.int .i64 t220)) (fun _ hk => hk.2) (.int .i64 t221)) (fun _ h_ => h_.1))) hb); have n1_ := Aside0.mk (Kd.S_below (by (with_reducible repeat (first | apply Kd.S_alloc | apply Kd.S_drewN | apply Kd.S_drew)); exact (Kd.S_mono (Kd.S_far (p := ⟨gb223, 7, none⟩) (Kd.S_far (p := ⟨gb223, 6, none⟩) (Kd.S_far (p := ⟨gb223, 5, none⟩) (Kd.S_far (p := ⟨gb223, 4, none⟩) (Kd.S_far (p := ⟨gb223, 3, none⟩) (Kd.S_far (p := ⟨gb223, 2, none⟩) (Kd.S_far (p := ⟨gb223, 1, none⟩) (Kd.S_far (p := ⟨gb223, 0, none⟩) (Kd.S_types HO_209003.out BK223.out (by decide)) (fun _ hk => hk.2) (.int .i64 t212)) (fun _ hk => hk.2) (.int .i64 t213)) (fun _ hk => hk.2) (.int .i64 t214)) (fun _ hk => hk.2) (.slice Ao42 t215.length co42)) (fun _ hk => hk.2) (.int .i64 t218)) (fun _ hk => hk.2) (.int .i64 t219)) (fun _ hk => hk.2) (.int .i64 t220)) (fun _ hk => hk.2) (.int .i64 t221)) (fun _ h_ => h_.1))) hb); have n2_ := Aside0.mk (Kd.S_below (by (with_reducible repeat (first | apply Kd.S_alloc | apply Kd.S_drewN | apply Kd.S_drew)); exact (Kd.S_mono (Kd.S_far (p := ⟨gb223, 7, none⟩) (Kd.S_far (p := ⟨gb223, 6, none⟩) (Kd.S_far (p := ⟨gb223, 5, none⟩) (Kd.S_far (p := ⟨gb223, 4, none⟩) (Kd.S_far (p := ⟨gb223, 3, none⟩) (Kd.S_far (p := ⟨gb223, 2, none⟩) (Kd.S_far (p := ⟨gb223, 1, none⟩) (Kd.S_far (p := ⟨gb223, 0, none⟩) (Kd.S_types HO217.out BK223.out (by decide)) (fun _ hk => hk.2) (.int .i64 t212)) (fun _ hk => hk.2) (.int .i64 t213)) (fun _ hk => hk.2) (.int .i64 t214)) (fun _ hk => hk.2) (.slice Ao42 t215.length co42)) (fun _ hk => hk.2) (.int .i64 t218)) (fun _ hk => hk.2) (.int .i64 t219)) (fun _ hk => hk.2) (.int .i64 t220)) (fun _ hk => hk.2) (.int .i64 t221)) (fun _ h_ => h_.1))) hb); have n3_ := Aside0.mk (blk_below (g := gb196) (o := .cells #[.int .i64 t185, .int .i64 t186, .int .i64 t187, .slice Ao9 t188.length co9, .int .i64 t191, .int .i64 t192, .int .i64 t193, .int .i64 t194] 38 (0, 0)) (by (with_reducible repeat (first | refine blk_drewN ?_ _ | refine blk_drew ?_ | refine blk_alloc ?_ _)); refine blk_far ?_ NB196_223.out _; (with_reducible repeat (first | refine blk_drewN ?_ _ | refine blk_drew ?_ | refine blk_alloc ?_ _)); refine blk_far ?_ NB196_223.out _; (with_reducible repeat (first | refine blk_drewN ?_ _ | refine blk_drew ?_ | refine blk_alloc ?_ _)); refine blk_far ?_ NB196_223.out _; (with_reducible repeat (first | refine blk_drewN ?_ _ | refine blk_drew ?_ | refine blk_alloc ?_ _)); refine blk_far ?_ NB196_223.out _; (with_reducible repeat (first | refine blk_drewN ?_ _ | refine blk_drew ?_ | refine blk_alloc ?_ _)); refine blk_far ?_ NB196_223.out _; (with_reducible repeat (first | refine blk_drewN ?_ _ | refine blk_drew ?_ | refine blk_alloc ?_ _)); refine blk_far ?_ NB196_223.out _; (with_reducible repeat (first | refine blk_drewN ?_ _ | refine blk_drew ?_ | refine blk_alloc ?_ _)); refine blk_far ?_ NB196_223.out _; (with_reducible repeat (first | refine blk_drewN ?_ _ | refine blk_drew ?_ | refine blk_alloc ?_ _)); refine blk_far ?_ NB196_223.out _; (with_reducible repeat (first | refine blk_drewN ?_ _ | refine blk_drew ?_ | refine blk_alloc ?_ _)); exact BK196.out) hb); have n4_ := Aside0.mk (blk_below (g := gb208) (o := .cells #[.int .i64 t197, .int .i64 t198, .int .i64 t199, .slice Ao14 t200.length co14, .int .i64 t203, .int .i64 t204, .int .i64 t205, .int .i64 t206] 38 (0, 0)) (by (with_reducible repeat (first | refine blk_drewN ?_ _ | refine blk_drew ?_ | refine blk_alloc ?_ _)); refine blk_far ?_ NB208_223.out _; (with_reducible repeat (first | refine blk_drewN ?_ _ | refine blk_drew ?_ | refine blk_alloc ?_ _)); refine blk_far ?_ NB208_223.out _; (with_reducible repeat (first | refine blk_drewN ?_ _ | refine blk_drew ?_ | refine blk_alloc ?_ _)); refine blk_far ?_ NB208_223.out _; (with_reducible repeat (first | refine blk_drewN ?_ _ | refine blk_drew ?_ | refine blk_alloc ?_ _)); refine blk_far ?_ NB208_223.out _; (with_reducible repeat (first | refine blk_drewN ?_ _ | refine blk_drew ?_ | refine blk_alloc ?_ _)); refine blk_far ?_ NB208_223.out _; (with_reducible repeat (first | refine blk_drewN ?_ _ | refine blk_drew ?_ | refine blk_alloc ?_ _)); refine blk_far ?_ NB208_223.out _; (with_reducible repeat (first | refine blk_drewN ?_ _ | refine blk_drew ?_ | refine blk_alloc ?_ _)); refine blk_far ?_ NB208_223.out _; (with_reducible repeat (first | refine blk_drewN ?_ _ | refine blk_drew ?_ | refine blk_alloc ?_ _)); refine blk_far ?_ NB208_223.out _; (with_reducible repeat (first | refine blk_drewN ?_ _ | refine blk_drew ?_ | refine blk_alloc ?_ _)); exact BK208.out) hb); have n5_ := Aside0.mk (blk_below (g := gb223) (o := .cells #[.int .i64 t212, .int .i64 t213, .int .i64 t214, .slice Ao42 t215.length co42, .int .i64 t218, .int .i64 t219, .int .i64 t220, .int .i64 t221] 38 (0, 0)) (by (with_reducible repeat (first | refine blk_drewN ?_ _ | refine blk_drew ?_ | refine blk_alloc ?_ _)); refine blk_put (cs := #[.int .i64 t212, .int .i64 t213, .int .i64 t214, .slice Ao42 t215.length co42, .int .i64 t218, .int .i64 t219, .int .i64 t220, .int .i64 0]) ?_ 7 _ rfl; (with_reducible repeat (first | refine blk_drewN ?_ _ | refine blk_drew ?_ | refine blk_alloc ?_ _)); refine blk_put (cs := #[.int .i64 t212, .int .i64 t213, .int .i64 t214, .slice Ao42 t215.length co42, .int .i64 t218, .int .i64 t219, .int .i64 0, .int .i64 0]) ?_ 6 _ rfl; (with_reducible repeat (first | refine blk_drewN ?_ _ | refine blk_drew ?_ | refine blk_alloc ?_ _)); refine blk_put (cs := #[.int .i64 t212, .int .i64 t213, .int .i64 t214, .slice Ao42 t215.length co42, .int .i64 t218, .int .i64 0, .int .i64 0, .int .i64 0]) ?_ 5 _ rfl; (with_reducible repeat (first | refine blk_drewN ?_ _ | refine blk_drew ?_ | refine blk_alloc ?_ _)); refine blk_put (cs := #[.int .i64 t212, .int .i64 t213, .int .i64 t214, .slice Ao42 t215.length co42, .int .i64 0, .int .i64 0, .int .i64 0, .int .i64 0]) ?_ 4 _ rfl; (with_reducible repeat (first | refine blk_drewN ?_ _ | refine blk_drew ?_ | refine blk_alloc ?_ _)); refine blk_put (cs := #[.int .i64 t212, .int .i64 t213, .int .i64 t214, .slice none 0 0, .int .i64 0, .int .i64 0, .int .i64 0, .int .i64 0]) ?_ 3 _ rfl; (with_reducible repeat (first | refine blk_drewN ?_ _ | refine blk_drew ?_ | refine blk_alloc ?_ _)); refine blk_put (cs := #[.int .i64 t212, .int .i64 t213, .int .i64 0, .slice none 0 0, .int .i64 0, .int .i64 0, .int .i64 0, .int .i64 0]) ?_ 2 _ rfl; (with_reducible repeat (first | refine blk_drewN ?_ _ | refine blk_drew ?_ | refine blk_alloc ?_ _)); refine blk_put (cs := #[.int .i64 t212, .int .i64 0, .int .i64 0, .slice none 0 0, .int .i64 0, .int .i64 0, .int .i64 0, .int .i64 0]) ?_ 1 _ rfl; (with_reducible repeat (first | refine blk_drewN ?_ _ | refine blk_drew ?_ | refine blk_alloc ?_ _)); refine blk_put (cs := #[.int .i64 0, .int .i64 0, .int .i64 0, .slice none 0 0, .int .i64 0, .int .i64 0, .int .i64 0, .int .i64 0]) ?_ 0 _ rfl; (with_reducible repeat (first | refine blk_drewN ?_ _ | refine blk_drew ?_ | refine blk_alloc ?_ _)); exact BK223.out) hb); have n6_ := Aside0.mk (below_step (by repeat (first | (with_reducible first | exact HB.out | apply below_alloc | apply pw_below_drewN | apply below_drew1 | refine below_set ?_ GE196.out | refine below_set ?_ GE208.out | refine below_set ?_ GE223.out) | exact HB.out)) hb); clear HO_197003; clear HO_209003; clear HO217; clear BK196; clear BK208; clear BK223; clear HB; have HO_197003 := n0_; have HO_209003 := n1_; have HO217 := n2_; have BK196 := n3_; have BK208 := n4_; have BK223 := n5_; have HB := n6_; clear n0_ n1_ n2_ n3_ n4_ n5_ n6_; (try clear hb); (try clear hb2); (try clear hk); (try clear hi)))
                go_meet
                case rel => exact ⟨_, (true), (by first | rfl | (simp; done) | (simp [*]; done)), H', ⟨by have := HJ4.out; first | omega | exact Nat.le_refl _⟩, ⟨by (with_reducible repeat (first | apply Kd.S_alloc | apply Kd.S_drewN | apply Kd.S_drew)); exact HO_197003.out⟩, ⟨by (with_reducible repeat (first | apply Kd.S_alloc | apply Kd.S_drewN | apply Kd.S_drew)); exact HO_209003.out⟩, ⟨by (with_reducible repeat (first | apply Kd.S_alloc | apply Kd.S_drewN | apply Kd.S_drew)); exact Kd.S_mono HO217.out (fun _ hk => ⟨hk.1.2, hk.2⟩)⟩, ⟨by (with_reducible repeat (first | refine blk_drewN ?_ _ | refine blk_drew ?_ | refine blk_alloc ?_ _)); exact BK196.out⟩, ⟨by (with_reducible repeat (first | refine blk_drewN ?_ _ | refine blk_drew ?_ | refine blk_alloc ?_ _)); exact BK208.out⟩, ⟨by (with_reducible repeat (first | refine blk_drewN ?_ _ | refine blk_drew ?_ | refine blk_alloc ?_ _)); exact BK223.out⟩, ⟨by repeat (first | (with_reducible first | exact HB.out | apply below_alloc | apply pw_below_drewN | apply below_drew1 | refine below_set ?_ GE196.out | refine below_set ?_ GE208.out | refine below_set ?_ GE223.out) | exact HB.out)⟩⟩
            case rest =>
              clear HC31
              try clear c1
              try clear c2
              try clear p2
              try clear c3
              try clear c4
              try clear c5
              try clear c12
              try clear c16
              try clear c17
              try clear c21
              try clear c23
              try clear c24
              try clear c25
              try clear c26
              try clear c27
              try clear c28
              try clear c28b0
              try clear c29
              try clear c29b0
              try clear c29b1
              try clear c32
              try clear c39
              try clear c40
              try clear c44
              try clear c45
              try clear c46
              try clear c48
              try clear c51
              try clear c52
              try clear c54
              try clear hcz13_0
              try clear hcz13_1
              try clear hcz13_2
              try clear hcz13_3
              try clear hcz13_4
              try clear hcz13_5
              try clear hcz13_6
              try clear hcz13_7
              try clear hcz18_0
              try clear hcz18_1
              try clear hcz18_2
              try clear hcz18_3
              try clear hcz18_4
              try clear hcz18_5
              try clear hcz18_6
              try clear hcz18_7
              try clear hcz19_0
              try clear hcz19_1
              try clear hcz19_2
              try clear hcz19_3
              try clear hcz19_4
              try clear hcz19_5
              try clear hcz19_6
              try clear hcz19_7
              try clear hcz22_0
              try clear hcz22_1
              try clear hcz22_2
              try clear hcz22_3
              try clear hcz22_4
              try clear hcz22_5
              try clear hcz22_6
              try clear hcz22_7
              try clear hcz23_0
              try clear hcz23_1
              try clear hcz23_2
              try clear hcz23_3
              try clear hcz23_4
              try clear hcz23_5
              try clear hcz23_6
              try clear hcz23_7
              try clear hcz33_0
              try clear hcz33_1
              try clear hcz33_2
              try clear hcz33_3
              try clear hcz33_4
              try clear hcz33_5
              try clear hcz33_6
              try clear hcz33_7
              try clear hcz35_0
              try clear hcz35_1
              try clear hcz35_2
              try clear hcz35_3
              try clear hcz35_4
              try clear hcz35_5
              try clear hcz35_6
              try clear hcz35_7
              try clear hcz41_0
              try clear hcz41_1
              try clear hcz41_2
              try clear hcz41_3
              try clear hcz41_4
              try clear hcz41_5
              try clear hcz41_6
              try clear hcz41_7
              try clear hcz47_0
              try clear hcz47_1
              try clear hcz47_2
              try clear hcz47_3
              try clear hcz47_4
              try clear hcz47_5
              try clear hcz47_6
              try clear hcz47_7
              try clear hcz49_0
              try clear hcz49_1
              try clear hcz49_2
              try clear hcz49_3
              try clear hcz49_4
              try clear hcz49_5
              try clear hcz49_6
              try clear hcz49_7
              try clear hcz53_0
              try clear hcz53_1
              try clear hcz53_2
              try clear hcz53_3
              try clear hcz53_4
              try clear hcz53_5
              try clear hcz53_6
              try clear hcz53_7
              try clear hcz55_0
              try clear hcz55_1
              try clear hcz55_2
              try clear hcz55_3
              try clear hcz55_4
              try clear hcz55_5
              try clear hcz55_6
              try clear hcz55_7
              try clear hcz8_0
              try clear hcz8_1
              try clear hcz8_2
              try clear hcz8_3
              try clear hcz8_4
              try clear hcz8_5
              try clear hcz8_6
              try clear hcz8_7
              try clear hfz13_0
              try clear hfz13_1
              try clear hfz13_2
              try clear hfz13_3
              try clear hfz13_4
              try clear hfz13_5
              try clear hfz13_6
              try clear hfz13_7
              try clear hfz18_0
              try clear hfz18_1
              try clear hfz18_2
              try clear hfz18_3
              try clear hfz18_4
              try clear hfz18_5
              try clear hfz18_6
              try clear hfz18_7
              try clear hfz19_0
              try clear hfz19_1
              try clear hfz19_2
              try clear hfz19_3
              try clear hfz19_4
              try clear hfz19_5
              try clear hfz19_6
              try clear hfz19_7
              try clear hfz22_0
              try clear hfz22_1
              try clear hfz22_2
              try clear hfz22_3
              try clear hfz22_4
              try clear hfz22_5
              try clear hfz22_6
              try clear hfz22_7
              try clear hfz23_0
              try clear hfz23_1
              try clear hfz23_2
              try clear hfz23_3
              try clear hfz23_4
              try clear hfz23_5
              try clear hfz23_6
              try clear hfz23_7
              try clear hfz33_0
              try clear hfz33_1
              try clear hfz33_2
              try clear hfz33_3
              try clear hfz33_4
              try clear hfz33_5
              try clear hfz33_6
              try clear hfz33_7
              try clear hfz35_0
              try clear hfz35_1
              try clear hfz35_2
              try clear hfz35_3
              try clear hfz35_4
              try clear hfz35_5
              try clear hfz35_6
              try clear hfz35_7
              try clear hfz41_0
              try clear hfz41_1
              try clear hfz41_2
              try clear hfz41_3
              try clear hfz41_4
              try clear hfz41_5
              try clear hfz41_6
              try clear hfz41_7
              try clear hfz47_0
              try clear hfz47_1
              try clear hfz47_2
              try clear hfz47_3
              try clear hfz47_4
              try clear hfz47_5
              try clear hfz47_6
              try clear hfz47_7
              try clear hfz49_0
              try clear hfz49_1
              try clear hfz49_2
              try clear hfz49_3
              try clear hfz49_4
              try clear hfz49_5
              try clear hfz49_6
              try clear hfz49_7
              try clear hfz53_0
              try clear hfz53_1
              try clear hfz53_2
              try clear hfz53_3
              try clear hfz53_4
              try clear hfz53_5
              try clear hfz53_6
              try clear hfz53_7
              try clear hfz55_0
              try clear hfz55_1
              try clear hfz55_2
              try clear hfz55_3
              try clear hfz55_4
              try clear hfz55_5
              try clear hfz55_6
              try clear hfz55_7
              try clear hfz8_0
              try clear hfz8_1
              try clear hfz8_2
              try clear hfz8_3
              try clear hfz8_4
              try clear hfz8_5
              try clear hfz8_6
              try clear hfz8_7
              try clear p2
              obtain ⟨kq, x59_30, rfl, HA, HJ30, HO_197003, HO_209003, HO_224003, BK196, BK208, BK223, HB⟩ := hcut
              cases kq with
              | zero => exact absurd HA.out (by simp [laws_FnExactNewSched.j1])
              | succ kj30 =>
                have H := HA.out
                clear HA
                simp only [laws_FnExactNewSched.j1] at H
                by_cases c57 : x59_30 = true
                · subst c57
                  have H1 : (some false) = some r := by rw [if_pos rfl] at H; exact H
                  clear H
                  have H := H1
                  clear H1
                  exact absurd ((Option.some.inj H).trans hr_.out) (by decide)
                · replace c57 := Bool.eq_false_iff.mpr c57
                  subst c57
                  have H1 : ((laws_heldSched.f kj30 t197 t198 t199 t200 t203 t204 t205 t206 1).bind fun t225 => (if t225 < 0 then (some false) else (if t225 = t210 then (some true) else (some false)))) = some r := by rw [if_neg (show ¬ (false = true) by decide)] at H; exact H
                  clear H
                  have H := H1
                  clear H1
                  replace H := Option.bind_eq_some_iff.mp H
                  obtain ⟨t225, A580, H⟩ := H
                  replace H : (if t225 < 0 then (some false) else (if t225 = t210 then (some true) else (some false))) = some r := H
                  have A58 := Aside0.mk A580
                  clear A580
                  by_cases c59 : t225 < 0
                  · rw [if_pos c59] at H
                    have c59b0 : decide (t225 < 0) = true := decide_eq_true c59
                    clear c59
                    exact absurd ((Option.some.inj H).trans hr_.out) (by decide)
                  · rw [if_neg c59] at H
                    have c59b0 : decide (t225 < 0) = false := decide_eq_false c59
                    clear c59
                    by_cases c60 : t225 = t210
                    · rw [if_pos c60] at H
                      have c60b0 : (t225 == t210) = true := beq_iff_eq.mpr c60
                      have c60b1 : (t225 != t210) = false := bne_eq_false_iff_eq.mpr c60
                      clear c60
                      obtain rfl := Option.some.inj H
                      have hnb61 := NB208_196.out
                      have hnc61 := NB196_208.out
                      have hnb62 := NB208_223.out
                      have hnc62 := NB223_208.out
                      have hcz63_0 : wc.cell? ⟨gb208, 0, none⟩ = some (.int .i64 t197) := (blk_cell BK208.out 0).trans rfl
                      have hcz63_1 : wc.cell? ⟨gb208, 1, none⟩ = some (.int .i64 t198) := (blk_cell BK208.out 1).trans rfl
                      have hcz63_2 : wc.cell? ⟨gb208, 2, none⟩ = some (.int .i64 t199) := (blk_cell BK208.out 2).trans rfl
                      have hcz63_3 : wc.cell? ⟨gb208, 3, none⟩ = some (.slice Ao14 t200.length co14) := (blk_cell BK208.out 3).trans rfl
                      have hcz63_4 : wc.cell? ⟨gb208, 4, none⟩ = some (.int .i64 t203) := (blk_cell BK208.out 4).trans rfl
                      have hcz63_5 : wc.cell? ⟨gb208, 5, none⟩ = some (.int .i64 t204) := (blk_cell BK208.out 5).trans rfl
                      have hcz63_6 : wc.cell? ⟨gb208, 6, none⟩ = some (.int .i64 t205) := (blk_cell BK208.out 6).trans rfl
                      have hcz63_7 : wc.cell? ⟨gb208, 7, none⟩ = some (.int .i64 t206) := (blk_cell BK208.out 7).trans rfl
                      have hfz63_0 := blk_frozen BK208.out 0
                      have hfz63_1 := blk_frozen BK208.out 1
                      have hfz63_2 := blk_frozen BK208.out 2
                      have hfz63_3 := blk_frozen BK208.out 3
                      have hfz63_4 := blk_frozen BK208.out 4
                      have hfz63_5 := blk_frozen BK208.out 5
                      have hfz63_6 := blk_frozen BK208.out 6
                      have hfz63_7 := blk_frozen BK208.out 7
                      go_wp2_with (first | ((with_reducible refine gate_callee (f := 27) rfl ?_); refine goesL_ (some 62) rfl rfl Try.func27 (by kernel_rfl) rfl #[.agg #[.int .i64 t197, .int .i64 t198, .int .i64 t199, .slice Ao14 t200.length co14, .int .i64 t203, .int .i64 t204, .int .i64 t205, .int .i64 t206], .int .i64 1] rfl (by (try simp only [List.map_toArray, List.map_cons, List.map_nil]); first | done | rfl | (simp only [List.length_drop, List.length_take]; rfl)) ?_; (with_reducible refine (laws_heldSched.calls kj30 t197 t198 t199 _ _ t200 t203 t204 t205 t206 1 t225 _ ?side1 ?side2 A58.out).mono ?_); (case side1 => repeat (first | exact (Kd.S_reads' HO_209003.out).2.2 | (with_reducible refine Kd.C_alloc ?_ _) | (with_reducible refine Kd.C_drewN ?_ _) | (with_reducible refine Kd.C_drew ?_))); (case side2 => exact (Kd.S_reads' HO_209003.out).2.1); rintro e w64 ⟨rfl, hb⟩; refine ⟨_, rfl, ?_⟩; have n0_ := Aside0.mk (Kd.S_below (by (with_reducible repeat (first | apply Kd.S_alloc | apply Kd.S_drewN | apply Kd.S_drew)); exact HO_197003.out) hb); have n1_ := Aside0.mk (Kd.S_below (by (with_reducible repeat (first | apply Kd.S_alloc | apply Kd.S_drewN | apply Kd.S_drew)); exact HO_209003.out) hb); have n2_ := Aside0.mk (Kd.S_below (by (with_reducible repeat (first | apply Kd.S_alloc | apply Kd.S_drewN | apply Kd.S_drew)); exact HO_224003.out) hb); have n3_ := Aside0.mk (blk_below (g := gb196) (o := .cells #[.int .i64 t185, .int .i64 t186, .int .i64 t187, .slice Ao9 t188.length co9, .int .i64 t191, .int .i64 t192, .int .i64 t193, .int .i64 t194] 38 (0, 0)) (by (with_reducible repeat (first | refine blk_drewN ?_ _ | refine blk_drew ?_ | refine blk_alloc ?_ _)); exact BK196.out) hb); have n4_ := Aside0.mk (blk_below (g := gb208) (o := .cells #[.int .i64 t197, .int .i64 t198, .int .i64 t199, .slice Ao14 t200.length co14, .int .i64 t203, .int .i64 t204, .int .i64 t205, .int .i64 t206] 38 (0, 0)) (by (with_reducible repeat (first | refine blk_drewN ?_ _ | refine blk_drew ?_ | refine blk_alloc ?_ _)); exact BK208.out) hb); have n5_ := Aside0.mk (blk_below (g := gb223) (o := .cells #[.int .i64 t212, .int .i64 t213, .int .i64 t214, .slice Ao42 t215.length co42, .int .i64 t218, .int .i64 t219, .int .i64 t220, .int .i64 t221] 38 (0, 0)) (by (with_reducible repeat (first | refine blk_drewN ?_ _ | refine blk_drew ?_ | refine blk_alloc ?_ _)); exact BK223.out) hb); have n6_ := Aside0.mk (below_step (by repeat (first | (with_reducible first | exact HB.out | apply below_alloc | apply pw_below_drewN | apply below_drew1 | refine below_set ?_ GE196.out | refine below_set ?_ GE208.out | refine below_set ?_ GE223.out) | exact HB.out)) hb); clear HO_197003; clear HO_209003; clear HO_224003; clear BK196; clear BK208; clear BK223; clear HB; have HO_197003 := n0_; have HO_209003 := n1_; have HO_224003 := n2_; have BK196 := n3_; have BK208 := n4_; have BK223 := n5_; have HB := n6_; clear n0_ n1_ n2_ n3_ n4_ n5_ n6_; (try clear hb); (try clear hb2); (try clear hk); (try clear hi)))
                      go_ret
                      exact ⟨by first | rfl | (simp [errW_none, errW_some] <;> rfl) | (simp [*, errW_none, errW_some] <;> rfl), by repeat (first | (with_reducible first | exact HB.out | apply below_alloc | apply pw_below_drewN | apply below_drew1 | refine below_set ?_ GE196.out | refine below_set ?_ GE208.out | refine below_set ?_ GE223.out) | exact HB.out)⟩
                    · rw [if_neg c60] at H
                      have c60b0 : (t225 == t210) = false := beq_eq_false_iff_ne.mpr c60
                      have c60b1 : (t225 != t210) = true := bne_iff_ne.mpr c60
                      exact absurd ((Option.some.inj H).trans hr_.out) (by decide)
          · rw [if_neg c29] at H
            have c29b0 : (t211 == t210) = false := beq_eq_false_iff_ne.mpr c29
            have c29b1 : (t211 != t210) = true := bne_iff_ne.mpr c29
            exact absurd ((Option.some.inj H).trans hr_.out) (by decide)

/-- THE ONE PURE STATEMENT of laws_FnExactNewSched. -/

def laws_FnExactNewSched.Pure : Prop := ∀ (a0 : Int) (a1 : Int), (WI .i64) a0 → (WI .i64) a1 → ∃ k, laws_FnExactNewSched.f k a0 a1 = some true
theorem laws_FnExactNewSched.walk : True := trivial

end Go.Proofs.Ytljboinndpnefaa.QFnExactNewSched
