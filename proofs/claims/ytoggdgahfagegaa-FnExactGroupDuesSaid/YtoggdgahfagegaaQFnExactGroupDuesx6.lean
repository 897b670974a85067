/- The Go functions that the statement FnExactGroupDues reaches, as Lean functions, each with a proof that the call does what its function says; laid by a program of this session. No condition. -/
import Derived.Test.YtoggdgahfagegaaQFnExactGroupDuesx0
import Derived.Test.YtoggdgahfagegaaQFnExactGroupDuesx1
import Derived.Test.YtoggdgahfagegaaQFnExactGroupDuesx2
import Derived.Test.YtoggdgahfagegaaQFnExactGroupDuesx3
import Derived.Test.YtoggdgahfagegaaQFnExactGroupDuesx4
import Derived.Test.YtoggdgahfagegaaQFnExactGroupDuesx5
namespace Go.Proofs.Ytoggdgahfagegaa.QFnExactGroupDues
open Go.RowKit Go.Proofs.YtoggdgahfagegaaW.PrintWords Go.Proofs.YtoggdgahfagegaaW.PrintLast Go.Proofs.YtoggdgahfagegaaW.PrintMore
attribute [local go_sem] max2_int min2_int max_two min_two max_three min_three max_four min_four   -- for this text's walks alone
set_option linter.unusedVariables false
set_option linter.unusedSimpArgs false

/-! ### laws_FnExactGroupDues: function 4 -/
def laws_FnExactGroupDues.j0 : Nat → List (S66) → List (List Int) → List Int → List Int → Bool → Option (Bool)
  | 0, _, _, _, _, _ => none
  | k + 1, x0, x1, x6, x9, x63 => if x63 = true then (some false) else ((laws_markIntS.f k x9 1).bind fun bt199 => ((laws_heldIntS.f k bt199.2 1).bind fun t201 => (if t201 < 0 then (some false) else (if t201 = bt199.1 then ((laws_toWishS.f k x0).bind fun t202 => ((laws_toIntSS.f k x1).bind fun t205 => ((impl_GroupDues.f k t202 t205).bind fun t208 => ((laws_eqIntS.f k t208 x6).bind fun t211 => (if t211 = true then ((laws_heldIntS.f k bt199.2 1).bind fun t212 => (if t212 < 0 then (some false) else (if t212 = bt199.1 then (some true) else (some false)))) else (some false)))))) else (some false)))))
def laws_FnExactGroupDues.f (k : Nat) (l0 : List (S66)) (l1 : List (List Int)) : Option (Bool) := (laws_szWishS.f l0 1048576).bind fun t166 => (if t166 < 0 then (some true) else ((laws_szIntSS.f k l1 t166).bind fun t167 => (if t167 < 0 then (some true) else ((laws_toWishS.f k l0).bind fun t168 => ((laws_toIntSS.f k l1).bind fun t171 => ((spec_GroupDues.f k t168 t171).bind fun t174 => ((laws_toWishS.f k l0).bind fun t177 => ((laws_toIntSS.f k l1).bind fun t180 => ((impl_GroupDues.f k t177 t180).bind fun t183 => ((laws_eqIntS.f k t183 t174).bind fun t186 => (if t186 = true then ((laws_toWishS.f k l0).bind fun t187 => ((laws_eqWishS.f k t177 t187).bind fun t190 => (if t190 = true then ((laws_toIntSS.f k l1).bind fun t191 => ((laws_eqIntSS.f k t180 t191).bind fun t194 => (if t194 = true then ((laws_markWishS.f k t177 1).bind fun bt195 => ((laws_markIntSS.f t180 bt195.1).bind fun t197 => (if t197 < 0 then (laws_FnExactGroupDues.j0 k l0 l1 t174 t183 true) else ((laws_eqIntS.f k t183 t174).bind fun t198 => (laws_FnExactGroupDues.j0 k l0 l1 t174 t183 (!t198)))))) else (some false)))) else (some false)))) else (some false))))))))))))
theorem laws_FnExactGroupDues.mono_l : ∀ k, (∀ y0 y1 y2 y3 y4, LeO (laws_FnExactGroupDues.j0 k y0 y1 y2 y3 y4) (laws_FnExactGroupDues.j0 (k + 1) y0 y1 y2 y3 y4))
  | 0 => fun _ _ _ _ _ r h => by simp [laws_FnExactGroupDues.j0] at h
  | k + 1 => by
    have ih0 := laws_FnExactGroupDues.mono_l k
    · intro y0 y1 y2 y3 y4
      unfold laws_FnExactGroupDues.j0
      repeat' first
      | (with_reducible exact ih0 _ _ _ _ _)
      | (with_reducible exact impl_GroupDues.mono _ _ _)
      | (with_reducible exact laws_eqIntS.mono _ _ _)
      | (with_reducible exact laws_eqIntSS.mono _ _ _)
      | (with_reducible exact laws_eqWishS.mono _ _ _)
      | (with_reducible exact laws_heldIntS.mono _ _ _)
      | (with_reducible exact laws_markIntS.mono _ _ _)
      | (with_reducible exact laws_markWishS.mono _ _ _)
      | (with_reducible exact laws_szIntSS.mono _ _ _)
      | (with_reducible exact laws_toIntSS.mono _ _)
      | (with_reducible exact laws_toWishS.mono _ _)
      | (with_reducible exact spec_GroupDues.mono _ _ _)
      | (with_reducible exact LeO.refl _)
      | (with_reducible exact LeO.none _)
      | (with_reducible refine LeO.ite ?_ ?_)
      | (with_reducible refine LeO.bind ?_ (fun _ => ?_))
      | exact ih0 _ _ _ _ _
      | exact impl_GroupDues.mono _ _ _
      | exact laws_eqIntS.mono _ _ _
      | exact laws_eqIntSS.mono _ _ _
      | exact laws_eqWishS.mono _ _ _
      | exact laws_heldIntS.mono _ _ _
      | exact laws_markIntS.mono _ _ _
      | exact laws_markWishS.mono _ _ _
      | exact laws_szIntSS.mono _ _ _
      | exact laws_toIntSS.mono _ _
      | exact laws_toWishS.mono _ _
      | exact spec_GroupDues.mono _ _ _
      | exact LeO.none _
      | refine LeO.ite ?_ ?_
      | refine LeO.bind ?_ (fun _ => ?_)
theorem laws_FnExactGroupDues.mono : ∀ a0 a1 k, LeO (laws_FnExactGroupDues.f k a0 a1) (laws_FnExactGroupDues.f (k + 1) a0 a1) := by
  intro a0 a1 k
  have ih0 := laws_FnExactGroupDues.mono_l k
  unfold laws_FnExactGroupDues.f
  repeat' first
      | (with_reducible exact ih0 _ _ _ _ _)
      | (with_reducible exact impl_GroupDues.mono _ _ _)
      | (with_reducible exact laws_eqIntS.mono _ _ _)
      | (with_reducible exact laws_eqIntSS.mono _ _ _)
      | (with_reducible exact laws_eqWishS.mono _ _ _)
      | (with_reducible exact laws_heldIntS.mono _ _ _)
      | (with_reducible exact laws_markIntS.mono _ _ _)
      | (with_reducible exact laws_markWishS.mono _ _ _)
      | (with_reducible exact laws_szIntSS.mono _ _ _)
      | (with_reducible exact laws_toIntSS.mono _ _)
      | (with_reducible exact laws_toWishS.mono _ _)
      | (with_reducible exact spec_GroupDues.mono _ _ _)
      | (with_reducible exact LeO.refl _)
      | (with_reducible exact LeO.none _)
      | (with_reducible refine LeO.ite ?_ ?_)
      | (with_reducible refine LeO.bind ?_ (fun _ => ?_))
      | exact ih0 _ _ _ _ _
      | exact impl_GroupDues.mono _ _ _
      | exact laws_eqIntS.mono _ _ _
      | exact laws_eqIntSS.mono _ _ _
      | exact laws_eqWishS.mono _ _ _
      | exact laws_heldIntS.mono _ _ _
      | exact laws_markIntS.mono _ _ _
      | exact laws_markWishS.mono _ _ _
      | exact laws_szIntSS.mono _ _ _
      | exact laws_toIntSS.mono _ _
      | exact laws_toWishS.mono _ _
      | exact spec_GroupDues.mono _ _ _
      | exact LeO.none _
      | refine LeO.ite ?_ ?_
      | refine LeO.bind ?_ (fun _ => ?_)
set_option maxHeartbeats 8000000 in
set_option maxRecDepth 100000 in
theorem laws_FnExactGroupDues.calls (k : Nat) (A0 : Option Addr) (c0 : Nat) (l0 : List (S66)) (A1 : Option Addr) (c1 : Nat) (l1 : List (List Int)) (r : Bool) (w : World) (hr_ : Aside0 (r = true)) (hr0 : Kd.C k66 w A0 l0.length l0) (hc0 : l0.length ≤ c0) (hr1 : Kd.C (Kd.slice 3 (Kd.int .i64)) w A1 l1.length l1) (hc1 : l1.length ≤ c1) (h : laws_FnExactGroupDues.f k l0 l1 = some r) :
    Calls Try.prog 4 #[.slice A0 l0.length c0, .slice A1 l1.length c1] w fun e w' => e = .returned (.bool r) ∧ Below w.heap.size w w' := by
  have HR0 := Aside0.mk hr0
  have HC0 := Aside0.mk hc0
  clear hr0 hc0
  have HR1 := Aside0.mk hr1
  have HC1 := Aside0.mk hc1
  clear hr1 hc1
  have HB := Aside0.mk (Below.refl w.heap.size w)
  have H : ((laws_szWishS.f l0 1048576).bind fun t166 => (if t166 < 0 then (some true) else ((laws_szIntSS.f k l1 t166).bind fun t167 => (if t167 < 0 then (some true) else ((laws_toWishS.f k l0).bind fun t168 => ((laws_toIntSS.f k l1).bind fun t171 => ((spec_GroupDues.f k t168 t171).bind fun t174 => ((laws_toWishS.f k l0).bind fun t177 => ((laws_toIntSS.f k l1).bind fun t180 => ((impl_GroupDues.f k t177 t180).bind fun t183 => ((laws_eqIntS.f k t183 t174).bind fun t186 => (if t186 = true then ((laws_toWishS.f k l0).bind fun t187 => ((laws_eqWishS.f k t177 t187).bind fun t190 => (if t190 = true then ((laws_toIntSS.f k l1).bind fun t191 => ((laws_eqIntSS.f k t180 t191).bind fun t194 => (if t194 = true then ((laws_markWishS.f k t177 1).bind fun bt195 => ((laws_markIntSS.f t180 bt195.1).bind fun t197 => (if t197 < 0 then (laws_FnExactGroupDues.j0 k l0 l1 t174 t183 true) else ((laws_eqIntS.f k t183 t174).bind fun t198 => (laws_FnExactGroupDues.j0 k l0 l1 t174 t183 (!t198)))))) else (some false)))) else (some false)))) else (some false))))))))))))) = some r := h
  clear h
  replace H := Option.bind_eq_some_iff.mp H
  obtain ⟨t166, A30, H⟩ := H
  replace H : (if t166 < 0 then (some true) else ((laws_szIntSS.f k l1 t166).bind fun t167 => (if t167 < 0 then (some true) else ((laws_toWishS.f k l0).bind fun t168 => ((laws_toIntSS.f k l1).bind fun t171 => ((spec_GroupDues.f k t168 t171).bind fun t174 => ((laws_toWishS.f k l0).bind fun t177 => ((laws_toIntSS.f k l1).bind fun t180 => ((impl_GroupDues.f k t177 t180).bind fun t183 => ((laws_eqIntS.f k t183 t174).bind fun t186 => (if t186 = true then ((laws_toWishS.f k l0).bind fun t187 => ((laws_eqWishS.f k t177 t187).bind fun t190 => (if t190 = true then ((laws_toIntSS.f k l1).bind fun t191 => ((laws_eqIntSS.f k t180 t191).bind fun t194 => (if t194 = true then ((laws_markWishS.f k t177 1).bind fun bt195 => ((laws_markIntSS.f t180 bt195.1).bind fun t197 => (if t197 < 0 then (laws_FnExactGroupDues.j0 k l0 l1 t174 t183 true) else ((laws_eqIntS.f k t183 t174).bind fun t198 => (laws_FnExactGroupDues.j0 k l0 l1 t174 t183 (!t198)))))) else (some false)))) else (some false)))) else (some false)))))))))))) = some r := H
  have A3 := Aside0.mk A30
  clear A30
  by_cases c4 : t166 < 0
  · rw [if_pos c4] at H
    have c4b0 : decide (t166 < 0) = true := decide_eq_true c4
    clear c4
    obtain rfl := Option.some.inj H
    go_enter Try.func4, Try.ntmps4
    go_wp2_with (first | ((with_reducible refine gate_callee (f := 14) rfl ?_); refine goesL_ (some 16) rfl rfl Try.func14 (by kernel_rfl) rfl #[.slice A0 l0.length c0, .int .i64 1048576] rfl (by (try simp only [List.map_toArray, List.map_cons, List.map_nil]); first | done | rfl | (simp only [List.length_drop, List.length_take]; rfl)) ?_; (with_reducible refine (laws_szWishS.calls _ _ l0 1048576 t166 _ ?side1 ?side2 A3.out).mono ?_); (case side1 => repeat (first | exact HR0.out | (with_reducible refine Kd.C_alloc ?_ _) | (with_reducible refine Kd.C_drewN ?_ _) | (with_reducible refine Kd.C_drew ?_))); (case side2 => exact HC0.out); rintro e w' ⟨rfl, ⟨nd, rfl⟩⟩; refine ⟨_, rfl, ?_⟩))
    go_ret
    exact ⟨by first | rfl | (simp [errW_none, errW_some] <;> rfl) | (simp [*, errW_none, errW_some] <;> rfl), by repeat (first | (with_reducible first | exact HB.out | apply below_alloc | apply pw_below_drewN | apply below_drew1) | exact HB.out)⟩
  · rw [if_neg c4] at H
    have c4b0 : decide (t166 < 0) = false := decide_eq_false c4
    clear c4
    replace H := Option.bind_eq_some_iff.mp H
    obtain ⟨t167, A50, H⟩ := H
    replace H : (if t167 < 0 then (some true) else ((laws_toWishS.f k l0).bind fun t168 => ((laws_toIntSS.f k l1).bind fun t171 => ((spec_GroupDues.f k t168 t171).bind fun t174 => ((laws_toWishS.f k l0).bind fun t177 => ((laws_toIntSS.f k l1).bind fun t180 => ((impl_GroupDues.f k t177 t180).bind fun t183 => ((laws_eqIntS.f k t183 t174).bind fun t186 => (if t186 = true then ((laws_toWishS.f k l0).bind fun t187 => ((laws_eqWishS.f k t177 t187).bind fun t190 => (if t190 = true then ((laws_toIntSS.f k l1).bind fun t191 => ((laws_eqIntSS.f k t180 t191).bind fun t194 => (if t194 = true then ((laws_markWishS.f k t177 1).bind fun bt195 => ((laws_markIntSS.f t180 bt195.1).bind fun t197 => (if t197 < 0 then (laws_FnExactGroupDues.j0 k l0 l1 t174 t183 true) else ((laws_eqIntS.f k t183 t174).bind fun t198 => (laws_FnExactGroupDues.j0 k l0 l1 t174 t183 (!t198)))))) else (some false)))) else (some false)))) else (some false)))))))))) = some r := H
    have A5 := Aside0.mk A50
    clear A50
    by_cases c6 : t167 < 0
    · rw [if_pos c6] at H
      have c6b0 : decide (t167 < 0) = true := decide_eq_true c6
      clear c6
      obtain rfl := Option.some.inj H
      go_enter Try.func4, Try.ntmps4
      go_wp2_with (first | ((with_reducible refine gate_callee (f := 14) rfl ?_); refine goesL_ (some 16) rfl rfl Try.func14 (by kernel_rfl) rfl #[.slice A0 l0.length c0, .int .i64 1048576] rfl (by (try simp only [List.map_toArray, List.map_cons, List.map_nil]); first | done | rfl | (simp only [List.length_drop, List.length_take]; rfl)) ?_; (with_reducible refine (laws_szWishS.calls _ _ l0 1048576 t166 _ ?side1 ?side2 A3.out).mono ?_); (case side1 => repeat (first | exact HR0.out | (with_reducible refine Kd.C_alloc ?_ _) | (with_reducible refine Kd.C_drewN ?_ _) | (with_reducible refine Kd.C_drew ?_))); (case side2 => exact HC0.out); rintro e w' ⟨rfl, ⟨nd, rfl⟩⟩; refine ⟨_, rfl, ?_⟩) | ((with_reducible refine gate_callee (f := 15) rfl ?_); refine goesL_ (some 21) rfl rfl Try.func15 (by kernel_rfl) rfl #[.slice A1 l1.length c1, .int .i64 t166] rfl (by (try simp only [List.map_toArray, List.map_cons, List.map_nil]); first | done | rfl | (simp only [List.length_drop, List.length_take]; rfl)) ?_; (with_reducible refine (laws_szIntSS.calls k _ _ l1 t166 t167 _ ?side1 ?side2 A5.out).mono ?_); (case side1 => repeat (first | exact HR1.out | (with_reducible refine Kd.C_alloc ?_ _) | (with_reducible refine Kd.C_drewN ?_ _) | (with_reducible refine Kd.C_drew ?_))); (case side2 => exact HC1.out); rintro e w' ⟨rfl, ⟨nd, rfl⟩⟩; refine ⟨_, rfl, ?_⟩))
      go_ret
      exact ⟨by first | rfl | (simp [errW_none, errW_some] <;> rfl) | (simp [*, errW_none, errW_some] <;> rfl), by repeat (first | (with_reducible first | exact HB.out | apply below_alloc | apply pw_below_drewN | apply below_drew1) | exact HB.out)⟩
    · rw [if_neg c6] at H
      have c6b0 : decide (t167 < 0) = false := decide_eq_false c6
      clear c6
      replace H := Option.bind_eq_some_iff.mp H
      obtain ⟨t168, A70, H⟩ := H
      replace H : ((laws_toIntSS.f k l1).bind fun t171 => ((spec_GroupDues.f k t168 t171).bind fun t174 => ((laws_toWishS.f k l0).bind fun t177 => ((laws_toIntSS.f k l1).bind fun t180 => ((impl_GroupDues.f k t177 t180).bind fun t183 => ((laws_eqIntS.f k t183 t174).bind fun t186 => (if t186 = true then ((laws_toWishS.f k l0).bind fun t187 => ((laws_eqWishS.f k t177 t187).bind fun t190 => (if t190 = true then ((laws_toIntSS.f k l1).bind fun t191 => ((laws_eqIntSS.f k t180 t191).bind fun t194 => (if t194 = true then ((laws_markWishS.f k t177 1).bind fun bt195 => ((laws_markIntSS.f t180 bt195.1).bind fun t197 => (if t197 < 0 then (laws_FnExactGroupDues.j0 k l0 l1 t174 t183 true) else ((laws_eqIntS.f k t183 t174).bind fun t198 => (laws_FnExactGroupDues.j0 k l0 l1 t174 t183 (!t198)))))) else (some false)))) else (some false)))) else (some false)))))))) = some r := H
      have A7 := Aside0.mk A70
      clear A70
      replace H := Option.bind_eq_some_iff.mp H
      obtain ⟨t171, A80, H⟩ := H
      replace H : ((spec_GroupDues.f k t168 t171).bind fun t174 => ((laws_toWishS.f k l0).bind fun t177 => ((laws_toIntSS.f k l1).bind fun t180 => ((impl_GroupDues.f k t177 t180).bind fun t183 => ((laws_eqIntS.f k t183 t174).bind fun t186 => (if t186 = true then ((laws_toWishS.f k l0).bind fun t187 => ((laws_eqWishS.f k t177 t187).bind fun t190 => (if t190 = true then ((laws_toIntSS.f k l1).bind fun t191 => ((laws_eqIntSS.f k t180 t191).bind fun t194 => (if t194 = true then ((laws_markWishS.f k t177 1).bind fun bt195 => ((laws_markIntSS.f t180 bt195.1).bind fun t197 => (if t197 < 0 then (laws_FnExactGroupDues.j0 k l0 l1 t174 t183 true) else ((laws_eqIntS.f k t183 t174).bind fun t198 => (laws_FnExactGroupDues.j0 k l0 l1 t174 t183 (!t198)))))) else (some false)))) else (some false)))) else (some false))))))) = some r := H
      have A8 := Aside0.mk A80
      clear A80
      replace H := Option.bind_eq_some_iff.mp H
      obtain ⟨t174, A90, H⟩ := H
      replace H : ((laws_toWishS.f k l0).bind fun t177 => ((laws_toIntSS.f k l1).bind fun t180 => ((impl_GroupDues.f k t177 t180).bind fun t183 => ((laws_eqIntS.f k t183 t174).bind fun t186 => (if t186 = true then ((laws_toWishS.f k l0).bind fun t187 => ((laws_eqWishS.f k t177 t187).bind fun t190 => (if t190 = true then ((laws_toIntSS.f k l1).bind fun t191 => ((laws_eqIntSS.f k t180 t191).bind fun t194 => (if t194 = true then ((laws_markWishS.f k t177 1).bind fun bt195 => ((laws_markIntSS.f t180 bt195.1).bind fun t197 => (if t197 < 0 then (laws_FnExactGroupDues.j0 k l0 l1 t174 t183 true) else ((laws_eqIntS.f k t183 t174).bind fun t198 => (laws_FnExactGroupDues.j0 k l0 l1 t174 t183 (!t198)))))) else (some false)))) else (some false)))) else (some false)))))) = some r := H
      have A9 := Aside0.mk A90
      clear A90
      replace H := Option.bind_eq_some_iff.mp H
      obtain ⟨t177, A100, H⟩ := H
      replace H : ((laws_toIntSS.f k l1).bind fun t180 => ((impl_GroupDues.f k t177 t180).bind fun t183 => ((laws_eqIntS.f k t183 t174).bind fun t186 => (if t186 = true then ((laws_toWishS.f k l0).bind fun t187 => ((laws_eqWishS.f k t177 t187).bind fun t190 => (if t190 = true then ((laws_toIntSS.f k l1).bind fun t191 => ((laws_eqIntSS.f k t180 t191).bind fun t194 => (if t194 = true then ((laws_markWishS.f k t177 1).bind fun bt195 => ((laws_markIntSS.f t180 bt195.1).bind fun t197 => (if t197 < 0 then (laws_FnExactGroupDues.j0 k l0 l1 t174 t183 true) else ((laws_eqIntS.f k t183 t174).bind fun t198 => (laws_FnExactGroupDues.j0 k l0 l1 t174 t183 (!t198)))))) else (some false)))) else (some false)))) else (some false))))) = some r := H
      have A10 := Aside0.mk A100
      clear A100
      replace H := Option.bind_eq_some_iff.mp H
      obtain ⟨t180, A110, H⟩ := H
      replace H : ((impl_GroupDues.f k t177 t180).bind fun t183 => ((laws_eqIntS.f k t183 t174).bind fun t186 => (if t186 = true then ((laws_toWishS.f k l0).bind fun t187 => ((laws_eqWishS.f k t177 t187).bind fun t190 => (if t190 = true then ((laws_toIntSS.f k l1).bind fun t191 => ((laws_eqIntSS.f k t180 t191).bind fun t194 => (if t194 = true then ((laws_markWishS.f k t177 1).bind fun bt195 => ((laws_markIntSS.f t180 bt195.1).bind fun t197 => (if t197 < 0 then (laws_FnExactGroupDues.j0 k l0 l1 t174 t183 true) else ((laws_eqIntS.f k t183 t174).bind fun t198 => (laws_FnExactGroupDues.j0 k l0 l1 t174 t183 (!t198)))))) else (some false)))) else (some false)))) else (some false)))) = some r := H
      have A11 := Aside0.mk A110
      clear A110
      replace H := Option.bind_eq_some_iff.mp H
      obtain ⟨t183, A120, H⟩ := H
      replace H : ((laws_eqIntS.f k t183 t174).bind fun t186 => (if t186 = true then ((laws_toWishS.f k l0).bind fun t187 => ((laws_eqWishS.f k t177 t187).bind fun t190 => (if t190 = true then ((laws_toIntSS.f k l1).bind fun t191 => ((laws_eqIntSS.f k t180 t191).bind fun t194 => (if t194 = true then ((laws_markWishS.f k t177 1).bind fun bt195 => ((laws_markIntSS.f t180 bt195.1).bind fun t197 => (if t197 < 0 then (laws_FnExactGroupDues.j0 k l0 l1 t174 t183 true) else ((laws_eqIntS.f k t183 t174).bind fun t198 => (laws_FnExactGroupDues.j0 k l0 l1 t174 t183 (!t198)))))) else (some false)))) else (some false)))) else (some false))) = some r := H
      have A12 := Aside0.mk A120
      clear A120
      replace H := Option.bind_eq_some_iff.mp H
      obtain ⟨t186, A130, H⟩ := H
      replace H : (if t186 = true then ((laws_toWishS.f k l0).bind fun t187 => ((laws_eqWishS.f k t177 t187).bind fun t190 => (if t190 = true then ((laws_toIntSS.f k l1).bind fun t191 => ((laws_eqIntSS.f k t180 t191).bind fun t194 => (if t194 = true then ((laws_markWishS.f k t177 1).bind fun bt195 => ((laws_markIntSS.f t180 bt195.1).bind fun t197 => (if t197 < 0 then (laws_FnExactGroupDues.j0 k l0 l1 t174 t183 true) else ((laws_eqIntS.f k t183 t174).bind fun t198 => (laws_FnExactGroupDues.j0 k l0 l1 t174 t183 (!t198)))))) else (some false)))) else (some false)))) else (some false)) = some r := H
      have A13 := Aside0.mk A130
      clear A130
      by_cases c14 : t186 = true
      · subst c14
        have H1 : ((laws_toWishS.f k l0).bind fun t187 => ((laws_eqWishS.f k t177 t187).bind fun t190 => (if t190 = true then ((laws_toIntSS.f k l1).bind fun t191 => ((laws_eqIntSS.f k t180 t191).bind fun t194 => (if t194 = true then ((laws_markWishS.f k t177 1).bind fun bt195 => ((laws_markIntSS.f t180 bt195.1).bind fun t197 => (if t197 < 0 then (laws_FnExactGroupDues.j0 k l0 l1 t174 t183 true) else ((laws_eqIntS.f k t183 t174).bind fun t198 => (laws_FnExactGroupDues.j0 k l0 l1 t174 t183 (!t198)))))) else (some false)))) else (some false)))) = some r := by rw [if_pos rfl] at H; exact H
        clear H
        have H := H1
        clear H1
        replace H := Option.bind_eq_some_iff.mp H
        obtain ⟨t187, A150, H⟩ := H
        replace H : ((laws_eqWishS.f k t177 t187).bind fun t190 => (if t190 = true then ((laws_toIntSS.f k l1).bind fun t191 => ((laws_eqIntSS.f k t180 t191).bind fun t194 => (if t194 = true then ((laws_markWishS.f k t177 1).bind fun bt195 => ((laws_markIntSS.f t180 bt195.1).bind fun t197 => (if t197 < 0 then (laws_FnExactGroupDues.j0 k l0 l1 t174 t183 true) else ((laws_eqIntS.f k t183 t174).bind fun t198 => (laws_FnExactGroupDues.j0 k l0 l1 t174 t183 (!t198)))))) else (some false)))) else (some false))) = some r := H
        have A15 := Aside0.mk A150
        clear A150
        replace H := Option.bind_eq_some_iff.mp H
        obtain ⟨t190, A160, H⟩ := H
        replace H : (if t190 = true then ((laws_toIntSS.f k l1).bind fun t191 => ((laws_eqIntSS.f k t180 t191).bind fun t194 => (if t194 = true then ((laws_markWishS.f k t177 1).bind fun bt195 => ((laws_markIntSS.f t180 bt195.1).bind fun t197 => (if t197 < 0 then (laws_FnExactGroupDues.j0 k l0 l1 t174 t183 true) else ((laws_eqIntS.f k t183 t174).bind fun t198 => (laws_FnExactGroupDues.j0 k l0 l1 t174 t183 (!t198)))))) else (some false)))) else (some false)) = some r := H
        have A16 := Aside0.mk A160
        clear A160
        by_cases c17 : t190 = true
        · subst c17
          have H1 : ((laws_toIntSS.f k l1).bind fun t191 => ((laws_eqIntSS.f k t180 t191).bind fun t194 => (if t194 = true then ((laws_markWishS.f k t177 1).bind fun bt195 => ((laws_markIntSS.f t180 bt195.1).bind fun t197 => (if t197 < 0 then (laws_FnExactGroupDues.j0 k l0 l1 t174 t183 true) else ((laws_eqIntS.f k t183 t174).bind fun t198 => (laws_FnExactGroupDues.j0 k l0 l1 t174 t183 (!t198)))))) else (some false)))) = some r := by rw [if_pos rfl] at H; exact H
          clear H
          have H := H1
          clear H1
          replace H := Option.bind_eq_some_iff.mp H
          obtain ⟨t191, A180, H⟩ := H
          replace H : ((laws_eqIntSS.f k t180 t191).bind fun t194 => (if t194 = true then ((laws_markWishS.f k t177 1).bind fun bt195 => ((laws_markIntSS.f t180 bt195.1).bind fun t197 => (if t197 < 0 then (laws_FnExactGroupDues.j0 k l0 l1 t174 t183 true) else ((laws_eqIntS.f k t183 t174).bind fun t198 => (laws_FnExactGroupDues.j0 k l0 l1 t174 t183 (!t198)))))) else (some false))) = some r := H
          have A18 := Aside0.mk A180
          clear A180
          replace H := Option.bind_eq_some_iff.mp H
          obtain ⟨t194, A190, H⟩ := H
          replace H : (if t194 = true then ((laws_markWishS.f k t177 1).bind fun bt195 => ((laws_markIntSS.f t180 bt195.1).bind fun t197 => (if t197 < 0 then (laws_FnExactGroupDues.j0 k l0 l1 t174 t183 true) else ((laws_eqIntS.f k t183 t174).bind fun t198 => (laws_FnExactGroupDues.j0 k l0 l1 t174 t183 (!t198)))))) else (some false)) = some r := H
          have A19 := Aside0.mk A190
          clear A190
          by_cases c20 : t194 = true
          · subst c20
            have H1 : ((laws_markWishS.f k t177 1).bind fun bt195 => ((laws_markIntSS.f t180 bt195.1).bind fun t197 => (if t197 < 0 then (laws_FnExactGroupDues.j0 k l0 l1 t174 t183 true) else ((laws_eqIntS.f k t183 t174).bind fun t198 => (laws_FnExactGroupDues.j0 k l0 l1 t174 t183 (!t198)))))) = some r := by rw [if_pos rfl] at H; exact H
            clear H
            have H := H1
            clear H1
            replace H := Option.bind_eq_some_iff.mp H
            obtain ⟨⟨t195, t196⟩, A210, H⟩ := H
            replace H : ((laws_markIntSS.f t180 t195).bind fun t197 => (if t197 < 0 then (laws_FnExactGroupDues.j0 k l0 l1 t174 t183 true) else ((laws_eqIntS.f k t183 t174).bind fun t198 => (laws_FnExactGroupDues.j0 k l0 l1 t174 t183 (!t198))))) = some r := H
            have A21 := Aside0.mk A210
            clear A210
            replace H := Option.bind_eq_some_iff.mp H
            obtain ⟨t197, A220, H⟩ := H
            replace H : (if t197 < 0 then (laws_FnExactGroupDues.j0 k l0 l1 t174 t183 true) else ((laws_eqIntS.f k t183 t174).bind fun t198 => (laws_FnExactGroupDues.j0 k l0 l1 t174 t183 (!t198)))) = some r := H
            have A22 := Aside0.mk A220
            clear A220
            have HC23 := Aside0.mk H
            clear H
            go_enter Try.func4, Try.ntmps4
            go_upto_region 21 with (first | ((with_reducible refine gate_callee (f := 14) rfl ?_); refine goesL_ (some 16) rfl rfl Try.func14 (by kernel_rfl) rfl #[.slice A0 l0.length c0, .int .i64 1048576] rfl (by (try simp only [List.map_toArray, List.map_cons, List.map_nil]); first | done | rfl | (simp only [List.length_drop, List.length_take]; rfl)) ?_; (with_reducible refine (laws_szWishS.calls _ _ l0 1048576 t166 _ ?side1 ?side2 A3.out).mono ?_); (case side1 => repeat (first | exact HR0.out | (with_reducible refine Kd.C_alloc ?_ _) | (with_reducible refine Kd.C_drewN ?_ _) | (with_reducible refine Kd.C_drew ?_))); (case side2 => exact HC0.out); rintro e w' ⟨rfl, ⟨nd, rfl⟩⟩; refine ⟨_, rfl, ?_⟩) | ((with_reducible refine gate_callee (f := 15) rfl ?_); refine goesL_ (some 21) rfl rfl Try.func15 (by kernel_rfl) rfl #[.slice A1 l1.length c1, .int .i64 t166] rfl (by (try simp only [List.map_toArray, List.map_cons, List.map_nil]); first | done | rfl | (simp only [List.length_drop, List.length_take]; rfl)) ?_; (with_reducible refine (laws_szIntSS.calls k _ _ l1 t166 t167 _ ?side1 ?side2 A5.out).mono ?_); (case side1 => repeat (first | exact HR1.out | (with_reducible refine Kd.C_alloc ?_ _) | (with_reducible refine Kd.C_drewN ?_ _) | (with_reducible refine Kd.C_drew ?_))); (case side2 => exact HC1.out); rintro e w' ⟨rfl, ⟨nd, rfl⟩⟩; refine ⟨_, rfl, ?_⟩) | ((with_reducible refine gate_callee (f := 17) rfl ?_); refine goesL_ (some 25) rfl rfl Try.func17 (by kernel_rfl) rfl #[.slice A0 l0.length c0] rfl (by (try simp only [List.map_toArray, List.map_cons, List.map_nil]); first | done | rfl | (simp only [List.length_drop, List.length_take]; rfl)) ?_; (with_reducible refine (laws_toWishS.calls k _ _ l0 t168 _ ?side1 ?side2 A7.out).mono ?_); (case side1 => repeat (first | exact HR0.out | (with_reducible refine Kd.C_alloc ?_ _) | (with_reducible refine Kd.C_drewN ?_ _) | (with_reducible refine Kd.C_drew ?_))); (case side2 => exact HC0.out); rintro e w24 ⟨v169, rfl, ho0, hb⟩; refine ⟨_, rfl, ?_⟩; have n0_ := Aside0.mk (Kd.R_lower ho0 (below_size (by repeat (first | (with_reducible first | exact HB.out | apply below_alloc | apply pw_below_drewN | apply below_drew1) | exact HB.out)))); have n1_ := Aside0.mk (below_step (by repeat (first | (with_reducible first | exact HB.out | apply below_alloc | apply pw_below_drewN | apply below_drew1) | exact HB.out)) hb); clear HB; have HO170 := n0_; have HB := n1_; clear n0_ n1_; (try clear hb); (try clear hb2); (try clear hk); (try clear hi); (try clear ho0)) | ((with_reducible refine gate_callee (f := 18) rfl ?_); refine goesL_ (some 27) rfl rfl Try.func18 (by kernel_rfl) rfl #[.slice A1 l1.length c1] rfl (by (try simp only [List.map_toArray, List.map_cons, List.map_nil]); first | done | rfl | (simp only [List.length_drop, List.length_take]; rfl)) ?_; (with_reducible refine (laws_toIntSS.calls k _ _ l1 t171 _ ?side1 ?side2 A8.out).mono ?_); (case side1 => repeat (first | exact (Kd.C_below HR1.out HB.out) | (with_reducible refine Kd.C_alloc ?_ _) | (with_reducible refine Kd.C_drewN ?_ _) | (with_reducible refine Kd.C_drew ?_))); (case side2 => exact HC1.out); rintro e w25 ⟨v172, rfl, ho0, hb⟩; refine ⟨_, rfl, ?_⟩; have n0_ := Aside0.mk (Kd.R_below (by (with_reducible repeat (first | apply Kd.R_alloc | apply Kd.R_drewN | apply Kd.R_drew)); exact HO170.out) hb); have n1_ := Aside0.mk (Kd.S_lower ho0 (below_size (by repeat (first | (with_reducible first | exact HB.out | apply below_alloc | apply pw_below_drewN | apply below_drew1) | exact HB.out)))); have n2_ := Aside0.mk (below_step (by repeat (first | (with_reducible first | exact HB.out | apply below_alloc | apply pw_below_drewN | apply below_drew1) | exact HB.out)) hb); clear HO170; clear HB; have HO170 := n0_; have HO173 := n1_; have HB := n2_; clear n0_ n1_ n2_; (try clear hb); (try clear hb2); (try clear hk); (try clear hi); (try clear ho0); obtain ⟨Ao26, co26, eo26⟩ := Kd.R_slice HO170.out; subst eo26; obtain ⟨Ao27, co27, eo27⟩ := Kd.S_slice HO173.out; subst eo27) | ((with_reducible refine gate_callee (f := 16) rfl ?_); refine goesL_ (some 28) rfl rfl Try.func16 (by kernel_rfl) rfl #[.slice Ao26 t168.length co26, .slice Ao27 t171.length co27] rfl (by (try simp only [List.map_toArray, List.map_cons, List.map_nil]); first | done | rfl | (simp only [List.length_drop, List.length_take]; rfl)) ?_; (with_reducible refine (spec_GroupDues.calls k _ _ t168 _ _ t171 t174 _ ?side1 ?side2 ?side3 ?side4 A9.out).mono ?_); (case side1 => repeat (first | exact (Kd.R_reads' HO170.out).2.2 | (with_reducible refine Kd.C_alloc ?_ _) | (with_reducible refine Kd.C_drewN ?_ _) | (with_reducible refine Kd.C_drew ?_))); (case side2 => exact (Kd.R_reads' HO170.out).2.1); (case side3 => repeat (first | exact (Kd.S_reads' HO173.out).2.2 | (with_reducible refine Kd.C_alloc ?_ _) | (with_reducible refine Kd.C_drewN ?_ _) | (with_reducible refine Kd.C_drew ?_))); (case side4 => exact (Kd.S_reads' HO173.out).2.1); rintro e w28 ⟨v175, rfl, ho0, hb⟩; refine ⟨_, rfl, ?_⟩; have n0_ := Aside0.mk (Kd.R_below (by (with_reducible repeat (first | apply Kd.R_alloc | apply Kd.R_drewN | apply Kd.R_drew)); exact HO170.out) hb); have n1_ := Aside0.mk (Kd.S_elder' (by (with_reducible repeat (first | apply Kd.S_alloc | apply Kd.S_drewN | apply Kd.S_drew)); exact HO173.out) (Kd.R_base ho0) hb); have n2_ := Aside0.mk (Kd.R_lower ho0 (below_size (by repeat (first | (with_reducible first | exact HB.out | apply below_alloc | apply pw_below_drewN | apply below_drew1) | exact HB.out)))); have n3_ := Aside0.mk (below_step (by repeat (first | (with_reducible first | exact HB.out | apply below_alloc | apply pw_below_drewN | apply below_drew1) | exact HB.out)) hb); clear HO170; clear HO173; clear HB; have HO170 := n0_; have HO173 := n1_; have HO176 := n2_; have HB := n3_; clear n0_ n1_ n2_ n3_; (try clear hb); (try clear hb2); (try clear hk); (try clear hi); (try clear ho0)) | ((with_reducible refine gate_callee (f := 17) rfl ?_); refine goesL_ (some 30) rfl rfl Try.func17 (by kernel_rfl) rfl #[.slice A0 l0.length c0] rfl (by (try simp only [List.map_toArray, List.map_cons, List.map_nil]); first | done | rfl | (simp only [List.length_drop, List.length_take]; rfl)) ?_; (with_reducible refine (laws_toWishS.calls k _ _ l0 t177 _ ?side1 ?side2 A10.out).mono ?_); (case side1 => repeat (first | exact (Kd.C_below HR0.out HB.out) | (with_reducible refine Kd.C_alloc ?_ _) | (with_reducible refine Kd.C_drewN ?_ _) | (with_reducible refine Kd.C_drew ?_))); (case side2 => exact HC0.out); rintro e w29 ⟨v178, rfl, ho0, hb⟩; refine ⟨_, rfl, ?_⟩; have n0_ := Aside0.mk (Kd.R_elder' (by (with_reducible repeat (first | apply Kd.R_alloc | apply Kd.R_drewN | apply Kd.R_drew)); exact HO170.out) (Kd.R_base ho0) hb); have n1_ := Aside0.mk (Kd.S_below (by (with_reducible repeat (first | apply Kd.S_alloc | apply Kd.S_drewN | apply Kd.S_drew)); exact HO173.out) hb); have n2_ := Aside0.mk (Kd.R_below (by (with_reducible repeat (first | apply Kd.R_alloc | apply Kd.R_drewN | apply Kd.R_drew)); exact HO176.out) hb); have n3_ := Aside0.mk (Kd.R_lower (Kd.R_new' ho0 (Kd.R_lt (by (with_reducible repeat (first | apply Kd.R_alloc | apply Kd.R_drewN | apply Kd.R_drew)); exact HO170.out))) (below_size (by repeat (first | (with_reducible first | exact HB.out | apply below_alloc | apply pw_below_drewN | apply below_drew1) | exact HB.out)))); have n4_ := Aside0.mk (below_step (by repeat (first | (with_reducible first | exact HB.out | apply below_alloc | apply pw_below_drewN | apply below_drew1) | exact HB.out)) hb); clear HO170; clear HO173; clear HO176; clear HB; have HO170 := n0_; have HO173 := n1_; have HO176 := n2_; have HO179 := n3_; have HB := n4_; clear n0_ n1_ n2_ n3_ n4_; (try clear hb); (try clear hb2); (try clear hk); (try clear hi); (try clear ho0)) | ((with_reducible refine gate_callee (f := 18) rfl ?_); refine goesL_ (some 32) rfl rfl Try.func18 (by kernel_rfl) rfl #[.slice A1 l1.length c1] rfl (by (try simp only [List.map_toArray, List.map_cons, List.map_nil]); first | done | rfl | (simp only [List.length_drop, List.length_take]; rfl)) ?_; (with_reducible refine (laws_toIntSS.calls k _ _ l1 t180 _ ?side1 ?side2 A11.out).mono ?_); (case side1 => repeat (first | exact (Kd.C_below HR1.out HB.out) | (with_reducible refine Kd.C_alloc ?_ _) | (with_reducible refine Kd.C_drewN ?_ _) | (with_reducible refine Kd.C_drew ?_))); (case side2 => exact HC1.out); rintro e w30 ⟨v181, rfl, ho0, hb⟩; refine ⟨_, rfl, ?_⟩; have n0_ := Aside0.mk (Kd.R_below (by (with_reducible repeat (first | apply Kd.R_alloc | apply Kd.R_drewN | apply Kd.R_drew)); exact HO170.out) hb); have n1_ := Aside0.mk (Kd.S_elder' (by (with_reducible repeat (first | apply Kd.S_alloc | apply Kd.S_drewN | apply Kd.S_drew)); exact HO173.out) (Kd.S_base ho0) hb); have n2_ := Aside0.mk (Kd.R_below (by (with_reducible repeat (first | apply Kd.R_alloc | apply Kd.R_drewN | apply Kd.R_drew)); exact HO176.out) hb); have n3_ := Aside0.mk (Kd.R_below (by (with_reducible repeat (first | apply Kd.R_alloc | apply Kd.R_drewN | apply Kd.R_drew)); exact HO179.out) hb); have n4_ := Aside0.mk (Kd.S_lower (Kd.S_new' (Kd.S_new' ho0 (Kd.S_lt (by (with_reducible repeat (first | apply Kd.S_alloc | apply Kd.S_drewN | apply Kd.S_drew)); exact HO173.out))) (Kd.R_lt (by (with_reducible repeat (first | apply Kd.R_alloc | apply Kd.R_drewN | apply Kd.R_drew)); exact HO176.out))) (below_size (by repeat (first | (with_reducible first | exact HB.out | apply below_alloc | apply pw_below_drewN | apply below_drew1) | exact HB.out)))); have n5_ := Aside0.mk (below_step (by repeat (first | (with_reducible first | exact HB.out | apply below_alloc | apply pw_below_drewN | apply below_drew1) | exact HB.out)) hb); clear HO170; clear HO173; clear HO176; clear HO179; clear HB; have HO170 := n0_; have HO173 := n1_; have HO176 := n2_; have HO179 := n3_; have HO182 := n4_; have HB := n5_; clear n0_ n1_ n2_ n3_ n4_ n5_; (try clear hb); (try clear hb2); (try clear hk); (try clear hi); (try clear ho0); obtain ⟨Ao31, co31, eo31⟩ := Kd.R_slice HO179.out; subst eo31; obtain ⟨Ao32, co32, eo32⟩ := Kd.S_slice HO182.out; subst eo32) | ((with_reducible refine gate_callee (f := 19) rfl ?_); refine goesL_ (some 35) rfl rfl Try.func19 (by kernel_rfl) rfl #[.slice Ao31 t177.length co31, .slice Ao32 t180.length co32] rfl (by (try simp only [List.map_toArray, List.map_cons, List.map_nil]); first | done | rfl | (simp only [List.length_drop, List.length_take]; rfl)) ?_; (with_reducible refine (impl_GroupDues.calls k _ _ t177 _ _ t180 t183 _ ?side1 ?side2 ?side3 ?side4 A12.out).mono ?_); (case side1 => repeat (first | exact (Kd.R_reads' HO179.out).2.2 | (with_reducible refine Kd.C_alloc ?_ _) | (with_reducible refine Kd.C_drewN ?_ _) | (with_reducible refine Kd.C_drew ?_))); (case side2 => exact (Kd.R_reads' HO179.out).2.1); (case side3 => repeat (first | exact (Kd.S_reads' HO182.out).2.2 | (with_reducible refine Kd.C_alloc ?_ _) | (with_reducible refine Kd.C_drewN ?_ _) | (with_reducible refine Kd.C_drew ?_))); (case side4 => exact (Kd.S_reads' HO182.out).2.1); rintro e w33 ⟨v184, rfl, ho0, hb⟩; refine ⟨_, rfl, ?_⟩; have n0_ := Aside0.mk (Kd.R_below (by (with_reducible repeat (first | apply Kd.R_alloc | apply Kd.R_drewN | apply Kd.R_drew)); exact HO170.out) hb); have n1_ := Aside0.mk (Kd.S_elder' (by (with_reducible repeat (first | apply Kd.S_alloc | apply Kd.S_drewN | apply Kd.S_drew)); exact HO173.out) (Kd.R_base ho0) hb); have n2_ := Aside0.mk (Kd.R_elder' (by (with_reducible repeat (first | apply Kd.R_alloc | apply Kd.R_drewN | apply Kd.R_drew)); exact HO176.out) (Kd.R_base ho0) hb); have n3_ := Aside0.mk (Kd.R_below (by (with_reducible repeat (first | apply Kd.R_alloc | apply Kd.R_drewN | apply Kd.R_drew)); exact HO179.out) hb); have n4_ := Aside0.mk (Kd.S_elder' (by (with_reducible repeat (first | apply Kd.S_alloc | apply Kd.S_drewN | apply Kd.S_drew)); exact HO182.out) (Kd.R_base ho0) hb); have n5_ := Aside0.mk (Kd.R_lower (Kd.R_new' ho0 (Kd.R_lt (by (with_reducible repeat (first | apply Kd.R_alloc | apply Kd.R_drewN | apply Kd.R_drew)); exact HO176.out))) (below_size (by repeat (first | (with_reducible first | exact HB.out | apply below_alloc | apply pw_below_drewN | apply below_drew1) | exact HB.out)))); have n6_ := Aside0.mk (below_step (by repeat (first | (with_reducible first | exact HB.out | apply below_alloc | apply pw_below_drewN | apply below_drew1) | exact HB.out)) hb); clear HO170; clear HO173; clear HO176; clear HO179; clear HO182; clear HB; have HO170 := n0_; have HO173 := n1_; have HO176 := n2_; have HO179 := n3_; have HO182 := n4_; have HO185 := n5_; have HB := n6_; clear n0_ n1_ n2_ n3_ n4_ n5_ n6_; (try clear hb); (try clear hb2); (try clear hk); (try clear hi); (try clear ho0); obtain ⟨Ao34, co34, eo34⟩ := Kd.R_slice HO185.out; subst eo34; obtain ⟨Ao35, co35, eo35⟩ := Kd.R_slice HO176.out; subst eo35) | ((with_reducible refine gate_callee (f := 13) rfl ?_); refine goesL_ (some 38) rfl rfl Try.func13 (by kernel_rfl) rfl #[.slice Ao34 t183.length co34, .slice Ao35 t174.length co35] rfl (by (try simp only [List.map_toArray, List.map_cons, List.map_nil]); first | done | rfl | (simp only [List.length_drop, List.length_take]; rfl)) ?_; (with_reducible refine (laws_eqIntS.calls k _ _ t183 _ _ t174 true _ ?side1 ?side2 ?side3 ?side4 A13.out).mono ?_); (case side1 => repeat (first | exact (Kd.R_reads' HO185.out).2.2 | (with_reducible refine Kd.C_alloc ?_ _) | (with_reducible refine Kd.C_drewN ?_ _) | (with_reducible refine Kd.C_drew ?_))); (case side2 => exact (Kd.R_reads' HO185.out).2.1); (case side3 => repeat (first | exact (Kd.R_reads' HO176.out).2.2 | (with_reducible refine Kd.C_alloc ?_ _) | (with_reducible refine Kd.C_drewN ?_ _) | (with_reducible refine Kd.C_drew ?_))); (case side4 => exact (Kd.R_reads' HO176.out).2.1); rintro e w' ⟨rfl, ⟨nd, rfl⟩⟩; refine ⟨_, rfl, ?_⟩) | ((with_reducible refine gate_callee (f := 17) rfl ?_); refine goesL_ (some 42) rfl rfl Try.func17 (by kernel_rfl) rfl #[.slice A0 l0.length c0] rfl (by (try simp only [List.map_toArray, List.map_cons, List.map_nil]); first | done | rfl | (simp only [List.length_drop, List.length_take]; rfl)) ?_; (with_reducible refine (laws_toWishS.calls k _ _ l0 t187 _ ?side1 ?side2 A15.out).mono ?_); (case side1 => repeat (first | exact (Kd.C_below HR0.out (by repeat (first | (with_reducible first | exact HB.out | apply below_alloc | apply pw_below_drewN | apply below_drew1) | exact HB.out))) | (with_reducible refine Kd.C_alloc ?_ _) | (with_reducible refine Kd.C_drewN ?_ _) | (with_reducible refine Kd.C_drew ?_))); (case side2 => exact HC0.out); rintro e w36 ⟨v188, rfl, ho0, hb⟩; refine ⟨_, rfl, ?_⟩; have n0_ := Aside0.mk (Kd.R_elder' (by (with_reducible repeat (first | apply Kd.R_alloc | apply Kd.R_drewN | apply Kd.R_drew)); exact HO170.out) (Kd.R_base ho0) hb); have n1_ := Aside0.mk (Kd.S_below (by (with_reducible repeat (first | apply Kd.S_alloc | apply Kd.S_drewN | apply Kd.S_drew)); exact HO173.out) hb); have n2_ := Aside0.mk (Kd.R_below (by (with_reducible repeat (first | apply Kd.R_alloc | apply Kd.R_drewN | apply Kd.R_drew)); exact HO176.out) hb); have n3_ := Aside0.mk (Kd.R_elder' (by (with_reducible repeat (first | apply Kd.R_alloc | apply Kd.R_drewN | apply Kd.R_drew)); exact HO179.out) (Kd.R_base ho0) hb); have n4_ := Aside0.mk (Kd.S_below (by (with_reducible repeat (first | apply Kd.S_alloc | apply Kd.S_drewN | apply Kd.S_drew)); exact HO182.out) hb); have n5_ := Aside0.mk (Kd.R_below (by (with_reducible repeat (first | apply Kd.R_alloc | apply Kd.R_drewN | apply Kd.R_drew)); exact HO185.out) hb); have n6_ := Aside0.mk (Kd.R_lower (Kd.R_new' (Kd.R_new' ho0 (Kd.R_lt (by (with_reducible repeat (first | apply Kd.R_alloc | apply Kd.R_drewN | apply Kd.R_drew)); exact HO170.out))) (Kd.R_lt (by (with_reducible repeat (first | apply Kd.R_alloc | apply Kd.R_drewN | apply Kd.R_drew)); exact HO179.out))) (below_size (by repeat (first | (with_reducible first | exact HB.out | apply below_alloc | apply pw_below_drewN | apply below_drew1) | exact HB.out)))); have n7_ := Aside0.mk (below_step (by repeat (first | (with_reducible first | exact HB.out | apply below_alloc | apply pw_below_drewN | apply below_drew1) | exact HB.out)) hb); clear HO170; clear HO173; clear HO176; clear HO179; clear HO182; clear HO185; clear HB; have HO170 := n0_; have HO173 := n1_; have HO176 := n2_; have HO179 := n3_; have HO182 := n4_; have HO185 := n5_; have HO189 := n6_; have HB := n7_; clear n0_ n1_ n2_ n3_ n4_ n5_ n6_ n7_; (try clear hb); (try clear hb2); (try clear hk); (try clear hi); (try clear ho0); obtain ⟨Ao37, co37, eo37⟩ := Kd.R_slice HO189.out; subst eo37) | ((with_reducible refine gate_callee (f := 20) rfl ?_); refine goesL_ (some 43) rfl rfl Try.func20 (by kernel_rfl) rfl #[.slice Ao31 t177.length co31, .slice Ao37 t187.length co37] rfl (by (try simp only [List.map_toArray, List.map_cons, List.map_nil]); first | done | rfl | (simp only [List.length_drop, List.length_take]; rfl)) ?_; (with_reducible refine (laws_eqWishS.calls k _ _ t177 _ _ t187 true _ ?side1 ?side2 ?side3 ?side4 A16.out).mono ?_); (case side1 => repeat (first | exact (Kd.R_reads' HO179.out).2.2 | (with_reducible refine Kd.C_alloc ?_ _) | (with_reducible refine Kd.C_drewN ?_ _) | (with_reducible refine Kd.C_drew ?_))); (case side2 => exact (Kd.R_reads' HO179.out).2.1); (case side3 => repeat (first | exact (Kd.R_reads' HO189.out).2.2 | (with_reducible refine Kd.C_alloc ?_ _) | (with_reducible refine Kd.C_drewN ?_ _) | (with_reducible refine Kd.C_drew ?_))); (case side4 => exact (Kd.R_reads' HO189.out).2.1); rintro e w38 ⟨rfl, hb⟩; refine ⟨_, rfl, ?_⟩; have n0_ := Aside0.mk (Kd.R_below (by (with_reducible repeat (first | apply Kd.R_alloc | apply Kd.R_drewN | apply Kd.R_drew)); exact HO170.out) hb); have n1_ := Aside0.mk (Kd.S_below (by (with_reducible repeat (first | apply Kd.S_alloc | apply Kd.S_drewN | apply Kd.S_drew)); exact HO173.out) hb); have n2_ := Aside0.mk (Kd.R_below (by (with_reducible repeat (first | apply Kd.R_alloc | apply Kd.R_drewN | apply Kd.R_drew)); exact HO176.out) hb); have n3_ := Aside0.mk (Kd.R_below (by (with_reducible repeat (first | apply Kd.R_alloc | apply Kd.R_drewN | apply Kd.R_drew)); exact HO179.out) hb); have n4_ := Aside0.mk (Kd.S_below (by (with_reducible repeat (first | apply Kd.S_alloc | apply Kd.S_drewN | apply Kd.S_drew)); exact HO182.out) hb); have n5_ := Aside0.mk (Kd.R_below (by (with_reducible repeat (first | apply Kd.R_alloc | apply Kd.R_drewN | apply Kd.R_drew)); exact HO185.out) hb); have n6_ := Aside0.mk (Kd.R_below (by (with_reducible repeat (first | apply Kd.R_alloc | apply Kd.R_drewN | apply Kd.R_drew)); exact HO189.out) hb); have n7_ := Aside0.mk (below_step (by repeat (first | (with_reducible first | exact HB.out | apply below_alloc | apply pw_below_drewN | apply below_drew1) | exact HB.out)) hb); clear HO170; clear HO173; clear HO176; clear HO179; clear HO182; clear HO185; clear HO189; clear HB; have HO170 := n0_; have HO173 := n1_; have HO176 := n2_; have HO179 := n3_; have HO182 := n4_; have HO185 := n5_; have HO189 := n6_; have HB := n7_; clear n0_ n1_ n2_ n3_ n4_ n5_ n6_ n7_; (try clear hb); (try clear hb2); (try clear hk); (try clear hi)) | ((with_reducible refine gate_callee (f := 18) rfl ?_); refine goesL_ (some 47) rfl rfl Try.func18 (by kernel_rfl) rfl #[.slice A1 l1.length c1] rfl (by (try simp only [List.map_toArray, List.map_cons, List.map_nil]); first | done | rfl | (simp only [List.length_drop, List.length_take]; rfl)) ?_; (with_reducible refine (laws_toIntSS.calls k _ _ l1 t191 _ ?side1 ?side2 A18.out).mono ?_); (case side1 => repeat (first | exact (Kd.C_below HR1.out HB.out) | (with_reducible refine Kd.C_alloc ?_ _) | (with_reducible refine Kd.C_drewN ?_ _) | (with_reducible refine Kd.C_drew ?_))); (case side2 => exact HC1.out); rintro e w39 ⟨v192, rfl, ho0, hb⟩; refine ⟨_, rfl, ?_⟩; have n0_ := Aside0.mk (Kd.R_below (by (with_reducible repeat (first | apply Kd.R_alloc | apply Kd.R_drewN | apply Kd.R_drew)); exact HO170.out) hb); have n1_ := Aside0.mk (Kd.S_elder' (by (with_reducible repeat (first | apply Kd.S_alloc | apply Kd.S_drewN | apply Kd.S_drew)); exact HO173.out) (Kd.S_base ho0) hb); have n2_ := Aside0.mk (Kd.R_below (by (with_reducible repeat (first | apply Kd.R_alloc | apply Kd.R_drewN | apply Kd.R_drew)); exact HO176.out) hb); have n3_ := Aside0.mk (Kd.R_below (by (with_reducible repeat (first | apply Kd.R_alloc | apply Kd.R_drewN | apply Kd.R_drew)); exact HO179.out) hb); have n4_ := Aside0.mk (Kd.S_elder' (by (with_reducible repeat (first | apply Kd.S_alloc | apply Kd.S_drewN | apply Kd.S_drew)); exact HO182.out) (Kd.S_base ho0) hb); have n5_ := Aside0.mk (Kd.R_below (by (with_reducible repeat (first | apply Kd.R_alloc | apply Kd.R_drewN | apply Kd.R_drew)); exact HO185.out) hb); have n6_ := Aside0.mk (Kd.R_below (by (with_reducible repeat (first | apply Kd.R_alloc | apply Kd.R_drewN | apply Kd.R_drew)); exact HO189.out) hb); have n7_ := Aside0.mk (Kd.S_lower (Kd.S_new' (Kd.S_new' (Kd.S_new' (Kd.S_new' ho0 (Kd.S_lt (by (with_reducible repeat (first | apply Kd.S_alloc | apply Kd.S_drewN | apply Kd.S_drew)); exact HO173.out))) (Kd.R_lt (by (with_reducible repeat (first | apply Kd.R_alloc | apply Kd.R_drewN | apply Kd.R_drew)); exact HO176.out))) (Kd.S_lt (by (with_reducible repeat (first | apply Kd.S_alloc | apply Kd.S_drewN | apply Kd.S_drew)); exact HO182.out))) (Kd.R_lt (by (with_reducible repeat (first | apply Kd.R_alloc | apply Kd.R_drewN | apply Kd.R_drew)); exact HO185.out))) (below_size (by repeat (first | (with_reducible first | exact HB.out | apply below_alloc | apply pw_below_drewN | apply below_drew1) | exact HB.out)))); have n8_ := Aside0.mk (below_step (by repeat (first | (with_reducible first | exact HB.out | apply below_alloc | apply pw_below_drewN | apply below_drew1) | exact HB.out)) hb); clear HO170; clear HO173; clear HO176; clear HO179; clear HO182; clear HO185; clear HO189; clear HB; have HO170 := n0_; have HO173 := n1_; have HO176 := n2_; have HO179 := n3_; have HO182 := n4_; have HO185 := n5_; have HO189 := n6_; have HO193 := n7_; have HB := n8_; clear n0_ n1_ n2_ n3_ n4_ n5_ n6_ n7_ n8_; (try clear hb); (try clear hb2); (try clear hk); (try clear hi); (try clear ho0); obtain ⟨Ao40, co40, eo40⟩ := Kd.S_slice HO193.out; subst eo40) | ((with_reducible refine gate_callee (f := 21) rfl ?_); refine goesL_ (some 48) rfl rfl Try.func21 (by kernel_rfl) rfl #[.slice Ao32 t180.length co32, .slice Ao40 t191.length co40] rfl (by (try simp only [List.map_toArray, List.map_cons, List.map_nil]); first | done | rfl | (simp only [List.length_drop, List.length_take]; rfl)) ?_; (with_reducible refine (laws_eqIntSS.calls k _ _ t180 _ _ t191 true _ ?side1 ?side2 ?side3 ?side4 A19.out).mono ?_); (case side1 => repeat (first | exact (Kd.S_reads' HO182.out).2.2 | (with_reducible refine Kd.C_alloc ?_ _) | (with_reducible refine Kd.C_drewN ?_ _) | (with_reducible refine Kd.C_drew ?_))); (case side2 => exact (Kd.S_reads' HO182.out).2.1); (case side3 => repeat (first | exact (Kd.S_reads' HO193.out).2.2 | (with_reducible refine Kd.C_alloc ?_ _) | (with_reducible refine Kd.C_drewN ?_ _) | (with_reducible refine Kd.C_drew ?_))); (case side4 => exact (Kd.S_reads' HO193.out).2.1); rintro e w41 ⟨rfl, hb⟩; refine ⟨_, rfl, ?_⟩; have n0_ := Aside0.mk (Kd.R_below (by (with_reducible repeat (first | apply Kd.R_alloc | apply Kd.R_drewN | apply Kd.R_drew)); exact HO170.out) hb); have n1_ := Aside0.mk (Kd.S_below (by (with_reducible repeat (first | apply Kd.S_alloc | apply Kd.S_drewN | apply Kd.S_drew)); exact HO173.out) hb); have n2_ := Aside0.mk (Kd.R_below (by (with_reducible repeat (first | apply Kd.R_alloc | apply Kd.R_drewN | apply Kd.R_drew)); exact HO176.out) hb); have n3_ := Aside0.mk (Kd.R_below (by (with_reducible repeat (first | apply Kd.R_alloc | apply Kd.R_drewN | apply Kd.R_drew)); exact HO179.out) hb); have n4_ := Aside0.mk (Kd.S_below (by (with_reducible repeat (first | apply Kd.S_alloc | apply Kd.S_drewN | apply Kd.S_drew)); exact HO182.out) hb); have n5_ := Aside0.mk (Kd.R_below (by (with_reducible repeat (first | apply Kd.R_alloc | apply Kd.R_drewN | apply Kd.R_drew)); exact HO185.out) hb); have n6_ := Aside0.mk (Kd.R_below (by (with_reducible repeat (first | apply Kd.R_alloc | apply Kd.R_drewN | apply Kd.R_drew)); exact HO189.out) hb); have n7_ := Aside0.mk (Kd.S_below (by (with_reducible repeat (first | apply Kd.S_alloc | apply Kd.S_drewN | apply Kd.S_drew)); exact HO193.out) hb); have n8_ := Aside0.mk (below_step (by repeat (first | (with_reducible first | exact HB.out | apply below_alloc | apply pw_below_drewN | apply below_drew1) | exact HB.out)) hb); clear HO170; clear HO173; clear HO176; clear HO179; clear HO182; clear HO185; clear HO189; clear HO193; clear HB; have HO170 := n0_; have HO173 := n1_; have HO176 := n2_; have HO179 := n3_; have HO182 := n4_; have HO185 := n5_; have HO189 := n6_; have HO193 := n7_; have HB := n8_; clear n0_ n1_ n2_ n3_ n4_ n5_ n6_ n7_ n8_; (try clear hb); (try clear hb2); (try clear hk); (try clear hi)) | ((with_reducible refine gate_callee (f := 22) rfl ?_); refine goesL_ (some 52) rfl rfl Try.func22 (by kernel_rfl) rfl #[.slice Ao31 t177.length co31, .int .i64 1] rfl (by (try simp only [List.map_toArray, List.map_cons, List.map_nil]); first | done | rfl | (simp only [List.length_drop, List.length_take]; rfl)) ?_; (with_reducible refine (laws_markWishS.calls k (fun k_ => some k_ = (.slice Ao31 t177.length co31 : Value).ownBlock) (.slice Ao31 t177.length co31) t177 1 t195 t196 w _ ?side1 ?side2 A21.out).mono ?_); (case side1 => repeat (first | (with_reducible first | exact HB.out | apply below_alloc | apply pw_below_drewN | apply below_drew1) | exact HB.out)); (case side2 => exact Kd.R_tight rfl HO179.out); rintro e w42 ⟨rfl, hy0, hb, hkp⟩; refine ⟨_, rfl, ?_⟩; have n0_ := Aside0.mk (Kd.R_mono (ok' := fun k_ => some k_ ≠ (.slice Ao31 t177.length co31 : Value).ownBlock ∧ some k_ ≠ (.slice Ao37 t187.length co37 : Value).ownBlock) (Kd.R_keptB (HO170.out) hkp (fun k_ hk_ hs_ => (hk_.1.2) hs_)) (fun k_ hk_ => ⟨hk_.1.1.2, hk_.1.2⟩)); have n1_ := Aside0.mk (Kd.S_mono (ok' := fun k_ => some k_ ≠ (.slice Ao35 t174.length co35 : Value).ownBlock ∧ some k_ ≠ (.slice Ao32 t180.length co32 : Value).ownBlock ∧ some k_ ≠ (.slice Ao34 t183.length co34 : Value).ownBlock ∧ some k_ ≠ (.slice Ao40 t191.length co40 : Value).ownBlock) (Kd.S_keptB ((Kd.S_apart' HO173.out (Kd.R_typed HO179.out) (by decide))) hkp (fun k_ hk_ hs_ => (hk_.2) hs_)) (fun k_ hk_ => ⟨hk_.1.1.1.1.1.2, hk_.1.1.1.1.2, hk_.1.1.1.2, hk_.1.1.2⟩)); have n2_ := Aside0.mk (Kd.R_mono (ok' := fun k_ => some k_ ≠ (.slice Ao34 t183.length co34 : Value).ownBlock) (Kd.R_keptB ((Kd.R_apart' HO176.out (Kd.R_typed HO179.out) (by decide))) hkp (fun k_ hk_ hs_ => (hk_.2) hs_)) (fun k_ hk_ => hk_.1.1.2)); have n3_ := Aside0.mk (Kd.R_reok rfl hy0 (fun k_ e_ => HO179.out.1 k_ e_)); have n4_ := Aside0.mk (Kd.S_mono (ok' := fun k_ => some k_ ≠ (.slice Ao27 t171.length co27 : Value).ownBlock ∧ some k_ ≠ (.slice Ao35 t174.length co35 : Value).ownBlock ∧ some k_ ≠ (.slice Ao34 t183.length co34 : Value).ownBlock ∧ some k_ ≠ (.slice Ao40 t191.length co40 : Value).ownBlock) (Kd.S_keptB ((Kd.S_apart' HO182.out (Kd.R_typed HO179.out) (by decide))) hkp (fun k_ hk_ hs_ => (hk_.2) hs_)) (fun k_ hk_ => ⟨hk_.1.1.1.1.1.2, hk_.1.1.1.1.2, hk_.1.1.1.2, hk_.1.1.2⟩)); have n5_ := Aside0.mk (Kd.R_mono (ok' := fun k_ => some k_ ≠ (.slice Ao35 t174.length co35 : Value).ownBlock) (Kd.R_keptB ((Kd.R_apart' HO185.out (Kd.R_typed HO179.out) (by decide))) hkp (fun k_ hk_ hs_ => (hk_.2) hs_)) (fun k_ hk_ => hk_.1.1.2)); have n6_ := Aside0.mk (Kd.R_mono (ok' := fun k_ => some k_ ≠ (.slice Ao26 t168.length co26 : Value).ownBlock ∧ some k_ ≠ (.slice Ao31 t177.length co31 : Value).ownBlock) (Kd.R_keptB (HO189.out) hkp (fun k_ hk_ hs_ => (hk_.2) hs_)) (fun k_ hk_ => ⟨hk_.1.1.2, hk_.1.2⟩)); have n7_ := Aside0.mk (Kd.S_mono (ok' := fun k_ => some k_ ≠ (.slice Ao27 t171.length co27 : Value).ownBlock ∧ some k_ ≠ (.slice Ao35 t174.length co35 : Value).ownBlock ∧ some k_ ≠ (.slice Ao32 t180.length co32 : Value).ownBlock ∧ some k_ ≠ (.slice Ao34 t183.length co34 : Value).ownBlock) (Kd.S_keptB ((Kd.S_apart' HO193.out (Kd.R_typed HO179.out) (by decide))) hkp (fun k_ hk_ hs_ => (hk_.2) hs_)) (fun k_ hk_ => ⟨hk_.1.1.1.1.1.2, hk_.1.1.1.1.2, hk_.1.1.1.2, hk_.1.1.2⟩)); have n8_ := Aside0.mk (hb); clear HO170; clear HO173; clear HO176; clear HO179; clear HO182; clear HO185; clear HO189; clear HO193; clear HB; have HO170 := n0_; have HO173 := n1_; have HO176 := n2_; have HO179 := n3_; have HO182 := n4_; have HO185 := n5_; have HO189 := n6_; have HO193 := n7_; have HB := n8_; clear n0_ n1_ n2_ n3_ n4_ n5_ n6_ n7_ n8_; (try clear hb); (try clear hkp); (try clear hy0)) | ((with_reducible refine gate_callee (f := 23) rfl ?_); refine goesL_ (some 55) rfl rfl Try.func23 (by kernel_rfl) rfl #[.slice Ao32 t180.length co32, .int .i64 t195] rfl (by (try simp only [List.map_toArray, List.map_cons, List.map_nil]); first | done | rfl | (simp only [List.length_drop, List.length_take]; rfl)) ?_; (with_reducible refine (laws_markIntSS.calls (fun k_ : Nat => ((((some k_ ≠ (.slice Ao27 t171.length co27 : Value).ownBlock ∧ (some k_ ≠ (.slice Ao35 t174.length co35 : Value).ownBlock ∧ (some k_ ≠ (.slice Ao34 t183.length co34 : Value).ownBlock ∧ some k_ ≠ (.slice Ao40 t191.length co40 : Value).ownBlock))) ∧ some k_ ≠ (.slice Ao26 t168.length co26 : Value).ownBlock) ∧ some k_ ≠ (.slice Ao31 t177.length co31 : Value).ownBlock) ∧ some k_ ≠ (.slice Ao37 t187.length co37 : Value).ownBlock)) (.slice Ao32 t180.length co32) t180 t195 t197 w _ ?side1 ?side2 A22.out).mono ?_); (case side1 => repeat (first | (with_reducible first | exact HB.out | apply below_alloc | apply pw_below_drewN | apply below_drew1) | exact HB.out)); (case side2 => exact (Kd.S_R (Kd.S_apart' (Kd.S_apart' (Kd.S_apart' HO182.out (Kd.R_typed HO170.out) (by decide)) (Kd.R_typed HO179.out) (by decide)) (Kd.R_typed HO189.out) (by decide)))); rintro e w43 ⟨rfl, hb, hkp⟩; refine ⟨_, rfl, ?_⟩; have n0_ := Aside0.mk (Kd.R_mono (ok' := fun k_ => some k_ ≠ (.slice Ao31 t177.length co31 : Value).ownBlock ∧ some k_ ≠ (.slice Ao37 t187.length co37 : Value).ownBlock) (Kd.R_keptB ((Kd.R_tight2 rfl HO170.out)) hkp (fun k_ hk_ hs_ => (fun (e_ : (fun k_ : Nat => ((((some k_ ≠ (.slice Ao27 t171.length co27 : Value).ownBlock ∧ (some k_ ≠ (.slice Ao35 t174.length co35 : Value).ownBlock ∧ (some k_ ≠ (.slice Ao34 t183.length co34 : Value).ownBlock ∧ some k_ ≠ (.slice Ao40 t191.length co40 : Value).ownBlock))) ∧ some k_ ≠ (.slice Ao26 t168.length co26 : Value).ownBlock) ∧ some k_ ≠ (.slice Ao31 t177.length co31 : Value).ownBlock) ∧ some k_ ≠ (.slice Ao37 t187.length co37 : Value).ownBlock)) _) => (e_.1.1.2) hk_.1) hs_)) (fun k_ hk_ => ⟨hk_.1.2.1, hk_.1.2.2⟩)); have n1_ := Aside0.mk (Kd.R_mono (ok' := fun k_ => some k_ ≠ (.slice Ao34 t183.length co34 : Value).ownBlock) (Kd.R_keptB ((Kd.R_tight2 rfl HO176.out)) hkp (fun k_ hk_ hs_ => (fun (e_ : (fun k_ : Nat => ((((some k_ ≠ (.slice Ao27 t171.length co27 : Value).ownBlock ∧ (some k_ ≠ (.slice Ao35 t174.length co35 : Value).ownBlock ∧ (some k_ ≠ (.slice Ao34 t183.length co34 : Value).ownBlock ∧ some k_ ≠ (.slice Ao40 t191.length co40 : Value).ownBlock))) ∧ some k_ ≠ (.slice Ao26 t168.length co26 : Value).ownBlock) ∧ some k_ ≠ (.slice Ao31 t177.length co31 : Value).ownBlock) ∧ some k_ ≠ (.slice Ao37 t187.length co37 : Value).ownBlock)) _) => (e_.1.1.1.2.1) hk_.1) hs_)) (fun k_ hk_ => hk_.1.2)); have n2_ := Aside0.mk (Kd.R_mono (ok' := fun k_ => some k_ ≠ (.slice Ao26 t168.length co26 : Value).ownBlock ∧ some k_ ≠ (.slice Ao37 t187.length co37 : Value).ownBlock) (Kd.R_keptB ((Kd.R_tight2 rfl HO179.out)) hkp (fun k_ hk_ hs_ => (fun (e_ : (fun k_ : Nat => ((((some k_ ≠ (.slice Ao27 t171.length co27 : Value).ownBlock ∧ (some k_ ≠ (.slice Ao35 t174.length co35 : Value).ownBlock ∧ (some k_ ≠ (.slice Ao34 t183.length co34 : Value).ownBlock ∧ some k_ ≠ (.slice Ao40 t191.length co40 : Value).ownBlock))) ∧ some k_ ≠ (.slice Ao26 t168.length co26 : Value).ownBlock) ∧ some k_ ≠ (.slice Ao31 t177.length co31 : Value).ownBlock) ∧ some k_ ≠ (.slice Ao37 t187.length co37 : Value).ownBlock)) _) => (e_.1.2) hk_.1) hs_)) (fun k_ hk_ => ⟨hk_.1.2.1.2, hk_.1.2.2⟩)); have n3_ := Aside0.mk (Kd.R_mono (ok' := fun k_ => some k_ ≠ (.slice Ao35 t174.length co35 : Value).ownBlock) (Kd.R_keptB ((Kd.R_tight2 rfl HO185.out)) hkp (fun k_ hk_ hs_ => (fun (e_ : (fun k_ : Nat => ((((some k_ ≠ (.slice Ao27 t171.length co27 : Value).ownBlock ∧ (some k_ ≠ (.slice Ao35 t174.length co35 : Value).ownBlock ∧ (some k_ ≠ (.slice Ao34 t183.length co34 : Value).ownBlock ∧ some k_ ≠ (.slice Ao40 t191.length co40 : Value).ownBlock))) ∧ some k_ ≠ (.slice Ao26 t168.length co26 : Value).ownBlock) ∧ some k_ ≠ (.slice Ao31 t177.length co31 : Value).ownBlock) ∧ some k_ ≠ (.slice Ao37 t187.length co37 : Value).ownBlock)) _) => (e_.1.1.1.2.2.1) hk_.1) hs_)) (fun k_ hk_ => hk_.1.2)); have n4_ := Aside0.mk (Kd.R_mono (ok' := fun k_ => some k_ ≠ (.slice Ao26 t168.length co26 : Value).ownBlock ∧ some k_ ≠ (.slice Ao31 t177.length co31 : Value).ownBlock) (Kd.R_keptB ((Kd.R_tight2 rfl HO189.out)) hkp (fun k_ hk_ hs_ => (fun (e_ : (fun k_ : Nat => ((((some k_ ≠ (.slice Ao27 t171.length co27 : Value).ownBlock ∧ (some k_ ≠ (.slice Ao35 t174.length co35 : Value).ownBlock ∧ (some k_ ≠ (.slice Ao34 t183.length co34 : Value).ownBlock ∧ some k_ ≠ (.slice Ao40 t191.length co40 : Value).ownBlock))) ∧ some k_ ≠ (.slice Ao26 t168.length co26 : Value).ownBlock) ∧ some k_ ≠ (.slice Ao31 t177.length co31 : Value).ownBlock) ∧ some k_ ≠ (.slice Ao37 t187.length co37 : Value).ownBlock)) _) => (e_.2) hk_.1) hs_)) (fun k_ hk_ => ⟨hk_.1.2.1, hk_.1.2.2⟩)); have n5_ := Aside0.mk (hb); clear HO170; clear HO176; clear HO179; clear HO185; clear HO189; clear HB; clear HO182; clear HO173; clear HO193; have HO170 := n0_; have HO176 := n1_; have HO179 := n2_; have HO185 := n3_; have HO189 := n4_; have HB := n5_; clear n0_ n1_ n2_ n3_ n4_ n5_; (try clear hb); (try clear hkp)))
            (try simp only [Act.put, List.setIfInBounds_toArray, List.set_cons_zero, List.set_cons_succ])
            go_cut [63] (fun v63 wc => ∃ (kq : Nat) (x63_22 : Bool), v63 = .bool x63_22 ∧ Aside0 (laws_FnExactGroupDues.j0 kq l0 l1 t174 t183 x63_22 = some r) ∧ Aside0 (kq ≤ k) ∧ Aside0 (Kd.R (Kd.int .i64) 3 wc w.heap.size (fun k_ => some k_ ≠ ((.slice Ao34 t183.length co34) : Value).ownBlock) (.slice Ao35 t174.length co35) t174) ∧ Aside0 (Kd.R (Kd.int .i64) 3 wc w.heap.size (fun k_ => some k_ ≠ ((.slice Ao35 t174.length co35) : Value).ownBlock) (.slice Ao34 t183.length co34) t183) ∧ Aside0 (Below w.heap.size w wc))
            case first =>
              have H := HC23.out
              clear HC23
              by_cases c44 : t197 < 0
              · rw [if_pos c44] at H
                have c44b0 : decide (t197 < 0) = true := decide_eq_true c44
                clear c44
                (first | rw [c44b0] | (simp only [i64_w, i32_w]; rw [c44b0]) | skip)
                have H' := Aside0.mk H
                clear H
                go_wp2
                go_meet
                case rel => exact ⟨_, (true), (by first | rfl | (simp; done) | (simp [*]; done)), H', ⟨by first | omega | exact Nat.le_refl _⟩, ⟨by (with_reducible repeat (first | apply Kd.R_alloc | apply Kd.R_drewN | apply Kd.R_drew)); exact HO176.out⟩, ⟨by (with_reducible repeat (first | apply Kd.R_alloc | apply Kd.R_drewN | apply Kd.R_drew)); exact HO185.out⟩, ⟨by repeat (first | (with_reducible first | exact HB.out | apply below_alloc | apply pw_below_drewN | apply below_drew1) | exact HB.out)⟩⟩
              · rw [if_neg c44] at H
                have c44b0 : decide (t197 < 0) = false := decide_eq_false c44
                clear c44
                (first | rw [c44b0] | (simp only [i64_w, i32_w]; rw [c44b0]) | skip)
                replace H := Option.bind_eq_some_iff.mp H
                obtain ⟨t198, A450, H⟩ := H
                replace H : (laws_FnExactGroupDues.j0 k l0 l1 t174 t183 (!t198)) = some r := H
                have A45 := Aside0.mk A450
                clear A450
                have H' := Aside0.mk H
                clear H
                go_wp2_with (first | (go_at_call 13; (with_reducible refine (laws_eqIntS.calls k _ _ t183 _ _ t174 t198 _ ?side1 ?side2 ?side3 ?side4 A45.out).mono ?_); (case side1 => repeat (first | exact (Kd.R_reads' HO185.out).2.2 | (with_reducible refine Kd.C_alloc ?_ _) | (with_reducible refine Kd.C_drewN ?_ _) | (with_reducible refine Kd.C_drew ?_))); (case side2 => exact (Kd.R_reads' HO185.out).2.1); (case side3 => repeat (first | exact (Kd.R_reads' HO176.out).2.2 | (with_reducible refine Kd.C_alloc ?_ _) | (with_reducible refine Kd.C_drewN ?_ _) | (with_reducible refine Kd.C_drew ?_))); (case side4 => exact (Kd.R_reads' HO176.out).2.1); rintro e w' ⟨rfl, ⟨nd, rfl⟩⟩))
                go_meet
                case rel => exact ⟨_, (!t198), (by first | rfl | (simp; done) | (simp [*]; done)), H', ⟨by first | omega | exact Nat.le_refl _⟩, ⟨by (with_reducible repeat (first | apply Kd.R_alloc | apply Kd.R_drewN | apply Kd.R_drew)); exact HO176.out⟩, ⟨by (with_reducible repeat (first | apply Kd.R_alloc | apply Kd.R_drewN | apply Kd.R_drew)); exact HO185.out⟩, ⟨by repeat (first | (with_reducible first | exact HB.out | apply below_alloc | apply pw_below_drewN | apply below_drew1) | exact HB.out)⟩⟩
            case rest =>
              clear HC23
              try clear c1
              try clear c2
              try clear p2
              try clear c4
              try clear c4b0
              try clear c6
              try clear c6b0
              try clear c13
              try clear c14
              try clear c15
              try clear c16
              try clear c17
              try clear c18
              try clear c19
              try clear c20
              try clear c21
              try clear c22
              try clear c23
              try clear c44
              try clear c44b0
              obtain ⟨kq, x63_22, rfl, HA, HJ22, HO_6, HO_9, HB⟩ := hcut
              cases kq with
              | zero => exact absurd HA.out (by simp [laws_FnExactGroupDues.j0])
              | succ kj22 =>
                have H := HA.out
                clear HA
                simp only [laws_FnExactGroupDues.j0] at H
                by_cases c46 : x63_22 = true
                · subst c46
                  have H1 : (some false) = some r := by rw [if_pos rfl] at H; exact H
                  clear H
                  have H := H1
                  clear H1
                  exact absurd ((Option.some.inj H).trans hr_.out) (by decide)
                · replace c46 := Bool.eq_false_iff.mpr c46
                  subst c46
                  have H1 : ((laws_markIntS.f kj22 t183 1).bind fun bt199 => ((laws_heldIntS.f kj22 bt199.2 1).bind fun t201 => (if t201 < 0 then (some false) else (if t201 = bt199.1 then ((laws_toWishS.f kj22 l0).bind fun t202 => ((laws_toIntSS.f kj22 l1).bind fun t205 => ((impl_GroupDues.f kj22 t202 t205).bind fun t208 => ((laws_eqIntS.f kj22 t208 t174).bind fun t211 => (if t211 = true then ((laws_heldIntS.f kj22 bt199.2 1).bind fun t212 => (if t212 < 0 then (some false) else (if t212 = bt199.1 then (some true) else (some false)))) else (some false)))))) else (some false))))) = some r := by rw [if_neg (show ¬ (false = true) by decide)] at H; exact H
                  clear H
                  have H := H1
                  clear H1
                  replace H := Option.bind_eq_some_iff.mp H
                  obtain ⟨⟨t199, t200⟩, A470, H⟩ := H
                  replace H : ((laws_heldIntS.f kj22 t200 1).bind fun t201 => (if t201 < 0 then (some false) else (if t201 = t199 then ((laws_toWishS.f kj22 l0).bind fun t202 => ((laws_toIntSS.f kj22 l1).bind fun t205 => ((impl_GroupDues.f kj22 t202 t205).bind fun t208 => ((laws_eqIntS.f kj22 t208 t174).bind fun t211 => (if t211 = true then ((laws_heldIntS.f kj22 t200 1).bind fun t212 => (if t212 < 0 then (some false) else (if t212 = t199 then (some true) else (some false)))) else (some false)))))) else (some false)))) = some r := H
                  have A47 := Aside0.mk A470
                  clear A470
                  replace H := Option.bind_eq_some_iff.mp H
                  obtain ⟨t201, A480, H⟩ := H
                  replace H : (if t201 < 0 then (some false) else (if t201 = t199 then ((laws_toWishS.f kj22 l0).bind fun t202 => ((laws_toIntSS.f kj22 l1).bind fun t205 => ((impl_GroupDues.f kj22 t202 t205).bind fun t208 => ((laws_eqIntS.f kj22 t208 t174).bind fun t211 => (if t211 = true then ((laws_heldIntS.f kj22 t200 1).bind fun t212 => (if t212 < 0 then (some false) else (if t212 = t199 then (some true) else (some false)))) else (some false)))))) else (some false))) = some r := H
                  have A48 := Aside0.mk A480
                  clear A480
                  by_cases c49 : t201 < 0
                  · rw [if_pos c49] at H
                    have c49b0 : decide (t201 < 0) = true := decide_eq_true c49
                    clear c49
                    exact absurd ((Option.some.inj H).trans hr_.out) (by decide)
                  · rw [if_neg c49] at H
                    have c49b0 : decide (t201 < 0) = false := decide_eq_false c49
                    clear c49
                    by_cases c50 : t201 = t199
                    · rw [if_pos c50] at H
                      have c50b0 : (t201 == t199) = true := beq_iff_eq.mpr c50
                      have c50b1 : (t201 != t199) = false := bne_eq_false_iff_eq.mpr c50
                      clear c50
                      replace H := Option.bind_eq_some_iff.mp H
                      obtain ⟨t202, A510, H⟩ := H
                      replace H : ((laws_toIntSS.f kj22 l1).bind fun t205 => ((impl_GroupDues.f kj22 t202 t205).bind fun t208 => ((laws_eqIntS.f kj22 t208 t174).bind fun t211 => (if t211 = true then ((laws_heldIntS.f kj22 t200 1).bind fun t212 => (if t212 < 0 then (some false) else (if t212 = t199 then (some true) else (some false)))) else (some false))))) = some r := H
                      have A51 := Aside0.mk A510
                      clear A510
                      replace H := Option.bind_eq_some_iff.mp H
                      obtain ⟨t205, A520, H⟩ := H
                      replace H : ((impl_GroupDues.f kj22 t202 t205).bind fun t208 => ((laws_eqIntS.f kj22 t208 t174).bind fun t211 => (if t211 = true then ((laws_heldIntS.f kj22 t200 1).bind fun t212 => (if t212 < 0 then (some false) else (if t212 = t199 then (some true) else (some false)))) else (some false)))) = some r := H
                      have A52 := Aside0.mk A520
                      clear A520
                      replace H := Option.bind_eq_some_iff.mp H
                      obtain ⟨t208, A530, H⟩ := H
                      replace H : ((laws_eqIntS.f kj22 t208 t174).bind fun t211 => (if t211 = true then ((laws_heldIntS.f kj22 t200 1).bind fun t212 => (if t212 < 0 then (some false) else (if t212 = t199 then (some true) else (some false)))) else (some false))) = some r := H
                      have A53 := Aside0.mk A530
                      clear A530
                      replace H := Option.bind_eq_some_iff.mp H
                      obtain ⟨t211, A540, H⟩ := H
                      replace H : (if t211 = true then ((laws_heldIntS.f kj22 t200 1).bind fun t212 => (if t212 < 0 then (some false) else (if t212 = t199 then (some true) else (some false)))) else (some false)) = some r := H
                      have A54 := Aside0.mk A540
                      clear A540
                      by_cases c55 : t211 = true
                      · subst c55
                        have H1 : ((laws_heldIntS.f kj22 t200 1).bind fun t212 => (if t212 < 0 then (some false) else (if t212 = t199 then (some true) else (some false)))) = some r := by rw [if_pos rfl] at H; exact H
                        clear H
                        have H := H1
                        clear H1
                        replace H := Option.bind_eq_some_iff.mp H
                        obtain ⟨t212, A560, H⟩ := H
                        replace H : (if t212 < 0 then (some false) else (if t212 = t199 then (some true) else (some false))) = some r := H
                        have A56 := Aside0.mk A560
                        clear A560
                        by_cases c57 : t212 < 0
                        · rw [if_pos c57] at H
                          have c57b0 : decide (t212 < 0) = true := decide_eq_true c57
                          clear c57
                          exact absurd ((Option.some.inj H).trans hr_.out) (by decide)
                        · rw [if_neg c57] at H
                          have c57b0 : decide (t212 < 0) = false := decide_eq_false c57
                          clear c57
                          by_cases c58 : t212 = t199
                          · rw [if_pos c58] at H
                            have c58b0 : (t212 == t199) = true := beq_iff_eq.mpr c58
                            have c58b1 : (t212 != t199) = false := bne_eq_false_iff_eq.mpr c58
                            clear c58
                            obtain rfl := Option.some.inj H
                            go_wp2_with (first | ((with_reducible refine gate_callee (f := 24) rfl ?_); refine goesL_ (some 66) rfl rfl Try.func24 (by kernel_rfl) rfl #[.slice Ao34 t183.length co34, .int .i64 1] rfl (by (try simp only [List.map_toArray, List.map_cons, List.map_nil]); first | done | rfl | (simp only [List.length_drop, List.length_take]; rfl)) ?_; (with_reducible refine (laws_markIntS.calls kj22 (fun k_ => some k_ = (.slice Ao34 t183.length co34 : Value).ownBlock) (.slice Ao34 t183.length co34) t183 1 t199 t200 w _ ?side1 ?side2 A47.out).mono ?_); (case side1 => repeat (first | (with_reducible first | exact HB.out | apply below_alloc | apply pw_below_drewN | apply below_drew1) | exact HB.out)); (case side2 => exact Kd.R_tight rfl HO_9.out); rintro e w59 ⟨rfl, hy0, hb, hkp⟩; refine ⟨_, rfl, ?_⟩; have n0_ := Aside0.mk (Kd.R_mono (ok' := fun k_ => some k_ ≠ (.slice Ao34 t183.length co34 : Value).ownBlock) (Kd.R_keptB (HO_6.out) hkp (fun k_ hk_ hs_ => (hk_) hs_)) (fun k_ hk_ => hk_.1)); have n1_ := Aside0.mk (Kd.R_reok rfl hy0 (fun k_ e_ => HO_9.out.1 k_ e_)); have n2_ := Aside0.mk (hb); clear HO_6; clear HO_9; clear HB; have HO_6 := n0_; have HO_9 := n1_; have HB := n2_; clear n0_ n1_ n2_; (try clear hb); (try clear hkp); (try clear hy0)) | ((with_reducible refine gate_callee (f := 25) rfl ?_); refine goesL_ (some 69) rfl rfl Try.func25 (by kernel_rfl) rfl #[.slice Ao34 t200.length co34, .int .i64 1] rfl (by (try simp only [List.map_toArray, List.map_cons, List.map_nil]); first | done | (rw [show t200.length = t183.length from (Kd.R_reads' HO_9.out).1.symm] <;> rfl) | rfl | (simp only [List.length_drop, List.length_take]; rfl)) ?_; (with_reducible refine (laws_heldIntS.calls kj22 _ _ t200 1 t201 _ ?side1 ?side2 A48.out).mono ?_); (case side1 => repeat (first | exact (Kd.R_reads' HO_9.out).2.2 | (with_reducible refine Kd.C_alloc ?_ _) | (with_reducible refine Kd.C_drewN ?_ _) | (with_reducible refine Kd.C_drew ?_))); (case side2 => rw [show t200.length = t183.length from (Kd.R_reads' HO_9.out).1.symm]; exact (Kd.R_reads' HO_9.out).2.1); rintro e w' ⟨rfl, ⟨nd, rfl⟩⟩; refine ⟨_, rfl, ?_⟩) | ((with_reducible refine gate_callee (f := 17) rfl ?_); refine goesL_ (some 76) rfl rfl Try.func17 (by kernel_rfl) rfl #[.slice A0 l0.length c0] rfl (by (try simp only [List.map_toArray, List.map_cons, List.map_nil]); first | done | rfl | (simp only [List.length_drop, List.length_take]; rfl)) ?_; (with_reducible refine (laws_toWishS.calls kj22 _ _ l0 t202 _ ?side1 ?side2 A51.out).mono ?_); (case side1 => repeat (first | exact (Kd.C_below HR0.out (by repeat (first | (with_reducible first | exact HB.out | apply below_alloc | apply pw_below_drewN | apply below_drew1) | exact HB.out))) | (with_reducible refine Kd.C_alloc ?_ _) | (with_reducible refine Kd.C_drewN ?_ _) | (with_reducible refine Kd.C_drew ?_))); (case side2 => exact HC0.out); rintro e w60 ⟨v203, rfl, ho0, hb⟩; refine ⟨_, rfl, ?_⟩; have n0_ := Aside0.mk (Kd.R_below (by (with_reducible repeat (first | apply Kd.R_alloc | apply Kd.R_drewN | apply Kd.R_drew)); exact HO_6.out) hb); have n1_ := Aside0.mk (Kd.R_below (by (with_reducible repeat (first | apply Kd.R_alloc | apply Kd.R_drewN | apply Kd.R_drew)); exact HO_9.out) hb); have n2_ := Aside0.mk (Kd.R_lower ho0 (below_size (by repeat (first | (with_reducible first | exact HB.out | apply below_alloc | apply pw_below_drewN | apply below_drew1) | exact HB.out)))); have n3_ := Aside0.mk (below_step (by repeat (first | (with_reducible first | exact HB.out | apply below_alloc | apply pw_below_drewN | apply below_drew1) | exact HB.out)) hb); clear HO_6; clear HO_9; clear HB; have HO_6 := n0_; have HO_9 := n1_; have HO204 := n2_; have HB := n3_; clear n0_ n1_ n2_ n3_; (try clear hb); (try clear hb2); (try clear hk); (try clear hi); (try clear ho0)) | ((with_reducible refine gate_callee (f := 18) rfl ?_); refine goesL_ (some 78) rfl rfl Try.func18 (by kernel_rfl) rfl #[.slice A1 l1.length c1] rfl (by (try simp only [List.map_toArray, List.map_cons, List.map_nil]); first | done | rfl | (simp only [List.length_drop, List.length_take]; rfl)) ?_; (with_reducible refine (laws_toIntSS.calls kj22 _ _ l1 t205 _ ?side1 ?side2 A52.out).mono ?_); (case side1 => repeat (first | exact (Kd.C_below HR1.out HB.out) | (with_reducible refine Kd.C_alloc ?_ _) | (with_reducible refine Kd.C_drewN ?_ _) | (with_reducible refine Kd.C_drew ?_))); (case side2 => exact HC1.out); rintro e w61 ⟨v206, rfl, ho0, hb⟩; refine ⟨_, rfl, ?_⟩; have n0_ := Aside0.mk (Kd.R_below (by (with_reducible repeat (first | apply Kd.R_alloc | apply Kd.R_drewN | apply Kd.R_drew)); exact HO_6.out) hb); have n1_ := Aside0.mk (Kd.R_below (by (with_reducible repeat (first | apply Kd.R_alloc | apply Kd.R_drewN | apply Kd.R_drew)); exact HO_9.out) hb); have n2_ := Aside0.mk (Kd.R_below (by (with_reducible repeat (first | apply Kd.R_alloc | apply Kd.R_drewN | apply Kd.R_drew)); exact HO204.out) hb); have n3_ := Aside0.mk (Kd.S_lower (Kd.S_new' (Kd.S_new' ho0 (Kd.R_lt (by (with_reducible repeat (first | apply Kd.R_alloc | apply Kd.R_drewN | apply Kd.R_drew)); exact HO_6.out))) (Kd.R_lt (by (with_reducible repeat (first | apply Kd.R_alloc | apply Kd.R_drewN | apply Kd.R_drew)); exact HO_9.out))) (below_size (by repeat (first | (with_reducible first | exact HB.out | apply below_alloc | apply pw_below_drewN | apply below_drew1) | exact HB.out)))); have n4_ := Aside0.mk (below_step (by repeat (first | (with_reducible first | exact HB.out | apply below_alloc | apply pw_below_drewN | apply below_drew1) | exact HB.out)) hb); clear HO_6; clear HO_9; clear HO204; clear HB; have HO_6 := n0_; have HO_9 := n1_; have HO204 := n2_; have HO207 := n3_; have HB := n4_; clear n0_ n1_ n2_ n3_ n4_; (try clear hb); (try clear hb2); (try clear hk); (try clear hi); (try clear ho0); obtain ⟨Ao62, co62, eo62⟩ := Kd.R_slice HO204.out; subst eo62; obtain ⟨Ao63, co63, eo63⟩ := Kd.S_slice HO207.out; subst eo63) | ((with_reducible refine gate_callee (f := 19) rfl ?_); refine goesL_ (some 79) rfl rfl Try.func19 (by kernel_rfl) rfl #[.slice Ao62 t202.length co62, .slice Ao63 t205.length co63] rfl (by (try simp only [List.map_toArray, List.map_cons, List.map_nil]); first | done | rfl | (simp only [List.length_drop, List.length_take]; rfl)) ?_; (with_reducible refine (impl_GroupDues.calls kj22 _ _ t202 _ _ t205 t208 _ ?side1 ?side2 ?side3 ?side4 A53.out).mono ?_); (case side1 => repeat (first | exact (Kd.R_reads' HO204.out).2.2 | (with_reducible refine Kd.C_alloc ?_ _) | (with_reducible refine Kd.C_drewN ?_ _) | (with_reducible refine Kd.C_drew ?_))); (case side2 => exact (Kd.R_reads' HO204.out).2.1); (case side3 => repeat (first | exact (Kd.S_reads' HO207.out).2.2 | (with_reducible refine Kd.C_alloc ?_ _) | (with_reducible refine Kd.C_drewN ?_ _) | (with_reducible refine Kd.C_drew ?_))); (case side4 => exact (Kd.S_reads' HO207.out).2.1); rintro e w64 ⟨v209, rfl, ho0, hb⟩; refine ⟨_, rfl, ?_⟩; have n0_ := Aside0.mk (Kd.R_elder' (by (with_reducible repeat (first | apply Kd.R_alloc | apply Kd.R_drewN | apply Kd.R_drew)); exact HO_6.out) (Kd.R_base ho0) hb); have n1_ := Aside0.mk (Kd.R_elder' (by (with_reducible repeat (first | apply Kd.R_alloc | apply Kd.R_drewN | apply Kd.R_drew)); exact HO_9.out) (Kd.R_base ho0) hb); have n2_ := Aside0.mk (Kd.R_below (by (with_reducible repeat (first | apply Kd.R_alloc | apply Kd.R_drewN | apply Kd.R_drew)); exact HO204.out) hb); have n3_ := Aside0.mk (Kd.S_elder' (by (with_reducible repeat (first | apply Kd.S_alloc | apply Kd.S_drewN | apply Kd.S_drew)); exact HO207.out) (Kd.R_base ho0) hb); have n4_ := Aside0.mk (Kd.R_lower (Kd.R_new' (Kd.R_new' ho0 (Kd.R_lt (by (with_reducible repeat (first | apply Kd.R_alloc | apply Kd.R_drewN | apply Kd.R_drew)); exact HO_6.out))) (Kd.R_lt (by (with_reducible repeat (first | apply Kd.R_alloc | apply Kd.R_drewN | apply Kd.R_drew)); exact HO_9.out))) (below_size (by repeat (first | (with_reducible first | exact HB.out | apply below_alloc | apply pw_below_drewN | apply below_drew1) | exact HB.out)))); have n5_ := Aside0.mk (below_step (by repeat (first | (with_reducible first | exact HB.out | apply below_alloc | apply pw_below_drewN | apply below_drew1) | exact HB.out)) hb); clear HO_6; clear HO_9; clear HO204; clear HO207; clear HB; have HO_6 := n0_; have HO_9 := n1_; have HO204 := n2_; have HO207 := n3_; have HO210 := n4_; have HB := n5_; clear n0_ n1_ n2_ n3_ n4_ n5_; (try clear hb); (try clear hb2); (try clear hk); (try clear hi); (try clear ho0); obtain ⟨Ao65, co65, eo65⟩ := Kd.R_slice HO210.out; subst eo65) | ((with_reducible refine gate_callee (f := 13) rfl ?_); refine goesL_ (some 82) rfl rfl Try.func13 (by kernel_rfl) rfl #[.slice Ao65 t208.length co65, .slice Ao35 t174.length co35] rfl (by (try simp only [List.map_toArray, List.map_cons, List.map_nil]); first | done | rfl | (simp only [List.length_drop, List.length_take]; rfl)) ?_; (with_reducible refine (laws_eqIntS.calls kj22 _ _ t208 _ _ t174 true _ ?side1 ?side2 ?side3 ?side4 A54.out).mono ?_); (case side1 => repeat (first | exact (Kd.R_reads' HO210.out).2.2 | (with_reducible refine Kd.C_alloc ?_ _) | (with_reducible refine Kd.C_drewN ?_ _) | (with_reducible refine Kd.C_drew ?_))); (case side2 => exact (Kd.R_reads' HO210.out).2.1); (case side3 => repeat (first | exact (Kd.R_reads' HO_6.out).2.2 | (with_reducible refine Kd.C_alloc ?_ _) | (with_reducible refine Kd.C_drewN ?_ _) | (with_reducible refine Kd.C_drew ?_))); (case side4 => exact (Kd.R_reads' HO_6.out).2.1); rintro e w' ⟨rfl, ⟨nd, rfl⟩⟩; refine ⟨_, rfl, ?_⟩) | ((with_reducible refine gate_callee (f := 25) rfl ?_); refine goesL_ (some 86) rfl rfl Try.func25 (by kernel_rfl) rfl #[.slice Ao34 t200.length co34, .int .i64 1] rfl (by (try simp only [List.map_toArray, List.map_cons, List.map_nil]); first | done | (rw [show t200.length = t183.length from (Kd.R_reads' HO_9.out).1.symm] <;> rfl) | rfl | (simp only [List.length_drop, List.length_take]; rfl)) ?_; (with_reducible refine (laws_heldIntS.calls kj22 _ _ t200 1 t212 _ ?side1 ?side2 A56.out).mono ?_); (case side1 => repeat (first | exact (Kd.R_reads' HO_9.out).2.2 | (with_reducible refine Kd.C_alloc ?_ _) | (with_reducible refine Kd.C_drewN ?_ _) | (with_reducible refine Kd.C_drew ?_))); (case side2 => rw [show t200.length = t183.length from (Kd.R_reads' HO_9.out).1.symm]; exact (Kd.R_reads' HO_9.out).2.1); rintro e w' ⟨rfl, ⟨nd, rfl⟩⟩; refine ⟨_, rfl, ?_⟩))
                            go_ret
                            exact ⟨by first | rfl | (simp [errW_none, errW_some] <;> rfl) | (simp [*, errW_none, errW_some] <;> rfl), by repeat (first | (with_reducible first | exact HB.out | apply below_alloc | apply pw_below_drewN | apply below_drew1) | exact HB.out)⟩
                          · rw [if_neg c58] at H
                            have c58b0 : (t212 == t199) = false := beq_eq_false_iff_ne.mpr c58
                            have c58b1 : (t212 != t199) = true := bne_iff_ne.mpr c58
                            exact absurd ((Option.some.inj H).trans hr_.out) (by decide)
                      · replace c55 := Bool.eq_false_iff.mpr c55
                        subst c55
                        have H1 : (some false) = some r := by rw [if_neg (show ¬ (false = true) by decide)] at H; exact H
                        clear H
                        have H := H1
                        clear H1
                        exact absurd ((Option.some.inj H).trans hr_.out) (by decide)
                    · rw [if_neg c50] at H
                      have c50b0 : (t201 == t199) = false := beq_eq_false_iff_ne.mpr c50
                      have c50b1 : (t201 != t199) = true := bne_iff_ne.mpr c50
                      exact absurd ((Option.some.inj H).trans hr_.out) (by decide)
          · replace c20 := Bool.eq_false_iff.mpr c20
            subst c20
            have H1 : (some false) = some r := by rw [if_neg (show ¬ (false = true) by decide)] at H; exact H
            clear H
            have H := H1
            clear H1
            exact absurd ((Option.some.inj H).trans hr_.out) (by decide)
        · replace c17 := Bool.eq_false_iff.mpr c17
          subst c17
          have H1 : (some false) = some r := by rw [if_neg (show ¬ (false = true) by decide)] at H; exact H
          clear H
          have H := H1
          clear H1
          exact absurd ((Option.some.inj H).trans hr_.out) (by decide)
      · replace c14 := Bool.eq_false_iff.mpr c14
        subst c14
        have H1 : (some false) = some r := by rw [if_neg (show ¬ (false = true) by decide)] at H; exact H
        clear H
        have H := H1
        clear H1
        exact absurd ((Option.some.inj H).trans hr_.out) (by decide)

/-- THE ONE PURE STATEMENT of laws_FnExactGroupDues. -/
def Wt66 (x : S66) : Prop := (WI .i64) x.f0 ∧ (WI .i64) x.f1 ∧ (WI .i64) x.f2
theorem opens66 (W : World) : Opens Try.prog W 66 k66 Wt66 := fun enc base spare held fuel cs x h => by
  obtain ⟨hl, n, hf⟩ := struct_parts Try.underlying66 h
  have hl2 : cs.length = 3 := hl.trans (by kernel_rfl)
  obtain ⟨y0, q0⟩ := hf 0 _ rfl
  have g0 : DataW.trod enc Try.prog W base spare held n 3 ((cs.drop 0).take (Try.prog.cellsOf 3)) = some y0 := q0
  rw [show Try.prog.cellsOf 3 = 1 from by kernel_rfl] at g0
  obtain ⟨v0, K0, w0⟩ := (opens_int Try.underlying3) enc base spare held n _ _ g0
  obtain ⟨y1, q1⟩ := hf 1 _ rfl
  have g1 : DataW.trod enc Try.prog W base spare held n 3 ((cs.drop 1).take (Try.prog.cellsOf 3)) = some y1 := q1
  rw [show Try.prog.cellsOf 3 = 1 from by kernel_rfl] at g1
  obtain ⟨v1, K1, w1⟩ := (opens_int Try.underlying3) enc base spare held n _ _ g1
  obtain ⟨y2, q2⟩ := hf 2 _ rfl
  have g2 : DataW.trod enc Try.prog W base spare held n 3 ((cs.drop 2).take (Try.prog.cellsOf 3)) = some y2 := q2
  rw [show Try.prog.cellsOf 3 = 1 from by kernel_rfl] at g2
  obtain ⟨v2, K2, w2⟩ := (opens_int Try.underlying3) enc base spare held n _ _ g2
  have e2 : (cs.drop 2).take 1 = cs.drop 2 := List.take_of_length_le (by rw [List.length_drop]; omega)
  have e1 : cs.drop 1 = (cs.drop 1).take 1 ++ cs.drop 2 := list_split cs 1 1
  have e0 : cs.drop 0 = (cs.drop 0).take 1 ++ cs.drop 1 := list_split cs 0 1
  rw [e2] at K2
  refine ⟨⟨v0, v1, v2⟩, ?_, w0, w1, w2⟩
  exact ⟨_, _, (List.drop_zero (l := cs)).symm.trans e0, K0, _, _, e1, K1, K2⟩
def laws_FnExactGroupDues.Pure : Prop := ∀ (l0 : List (S66)) (l1 : List (List Int)), (WL Wt66) l0 → (WL (WL (WI .i64))) l1 → ∃ k, laws_FnExactGroupDues.f k l0 l1 = some true
theorem laws_FnExactGroupDues.walk : True := trivial

end Go.Proofs.Ytoggdgahfagegaa.QFnExactGroupDues
