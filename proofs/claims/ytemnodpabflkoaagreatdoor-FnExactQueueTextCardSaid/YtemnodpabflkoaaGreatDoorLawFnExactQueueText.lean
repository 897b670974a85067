/- The statement FnExactQueueText, with the listed package variables tied to the program's text: the Go function answers true at every input, and each argument reads afterwards as it read before: out of the printed functions and of the pure statement. No condition beyond the card's own. -/
import Derived.Test.YtemnodpabflkoaaGreatDoorRows
import Derived.Test.YtemnodpabflkoaaGreatDoorTie
import Derived.Test.YtemnodpabflkoaaGreatDoorCards
import Derived.Test.YtemnodpabflkoaaGreatDoorQFnExactQueueTextx7
import Derived.Test.YtemnodpabflkoaaGreatDoorPureFnExactQueueText
import Derived.Test.YtemnodpabflkoaaGreatDoorDw
import Derived.WalkKit
import Derived.ProofKit
import Derived.OpenShut
import Derived.ShutString
import Derived.ChangeOld
import Derived.Below
import Derived.SizedLaws
import Derived.LaidMore
import Derived.Stop.Joined
import Derived.SevenTiedAt
import Derived.Lib.LaidTab
import Derived.Test.YtemnodpabflkoaaGreatDoorWSized
namespace Go.Proofs.YtemnodpabflkoaaGreatDoor.fnExactQueueText
open Go.ChangeShapes Go.WideShapes Go.ChangeAt Go.RowKit Go.Proofs.YtemnodpabflkoaaGreatDoorW.PrintWords Go.Proofs.YtemnodpabflkoaaGreatDoorW.PrintLast Go.Proofs.YtemnodpabflkoaaGreatDoor.QFnExactQueueText
open Go.ChangeMaps (open_string shut_string)
theorem own : ownKnob Tryz.prog.godebug = none := by kernel_rfl
theorem laidOut : laidOutB Tryz.prog = true := by kernel_rfl
def laid : List (String × DataW Unit) := [("math/bits.deBruijn32tab", Rows.laid_math_bits_deBruijn32tab), ("math/bits.deBruijn64tab", Rows.laid_math_bits_deBruijn64tab), ("internal/strconv.uint64pow10", Rows.laid_internal_strconv_uint64pow10)]
/-- The door's own heap meets the condition. -/
theorem door_met (os : Os) (args : Array Value) : laidMetH Tryz.prog laid ((World.doorLaid Tryz.prog 400 os).forCall (fun _ _ => 0) ⟨#[], args, []⟩).memory :=
  laidMetH_of_parts3 (fuel := 8) (laidMet_of_run' 8 (by kernel_rfl) (by kernel_rfl)) (by kernel_rfl) (by kernel_rfl)
/-- The table of powers of ten, out of the condition. -/
theorem tab_of {W : World} (h : laidMetH Tryz.prog laid W) : Tab W := by
  rw [MakeChecks.laidMetH_plain _ _ _ (by kernel_rfl)] at h
  obtain ⟨ps, ⟨g0, t0, cs0, f0, p0, q0, hg0, ht0, hv0, hd0, ⟨g1, t1, cs1, f1, p1, q1, hg1, ht1, hv1, hd1, ⟨g2, t2, cs2, f2, p2, q2, hg2, ht2, hv2, hd2, _, _⟩, _⟩, _⟩, _, _⟩ := h
  obtain rfl := Option.some.inj (gTab.symm.trans hg2)
  obtain rfl := Option.some.inj (gTabT.symm.trans ht2)
  unfold Tab Go.Lib.TabIs
  rw [hv2, ← Go.Lib.cells_of_tab (k := .u64) (zs := Go.Lib.pow10Tab) tabA tabE (by kernel_rfl) (by kernel_rfl) hd2]
set_option maxRecDepth 100000 in
theorem lifted (os : Os) (started : os.Started) (H : Type) (enc : TypeId × Value → H) :
    ReturnsInHanded {} Tryz.checked os 3 .any (fun w args => (Rows.fnExactQueueTextSpec.pre enc Tryz.prog Tryz.f3 [] false w args ∧ laidMetH Tryz.prog laid w) ∧ sizedMet enc Tryz.prog Tryz.f3 (OpenSpec.ofChange Rows.fnExactQueueTextSpec) false w args)
      (Rows.fnExactQueueTextSpec.post enc Tryz.prog Tryz.f3 false true false false) := by
  refine returnsInHanded_of_change_and (C := Tryz.checked) (X := fun w _ => laidMetH Tryz.prog laid w) (fun _ _ _ hh h => h.of_heap hh) own started (by kernel_rfl) Tryz.func3
    (ChangeSpec.witness_shaped (enc := enc) (C := Tryz.checked) (os := os) (X := fun w _ => laidMetH Tryz.prog laid w) false (World.doorLaid Tryz.prog 400 os) #[.agg #[.int .i64 0, .int .i64 0, .int .i64 0, .slice none 0 0, .int .i64 0, .int .i64 0, .int .i64 0, .int .i64 0, .slice none 0 0, .slice none 0 0, .slice none 0 0]] 8 rfl (World.shaped_of_RefB (by kernel_rfl) (by kernel_rfl)) (by kernel_rfl) (by kernel_rfl) (by kernel_rfl) (door_met os _)) ?_
  intro W base args ds gs before hval0 hW hcnd hsz0 hL _
  have hsz : (DataW.weightsEach Tryz.prog (Tryz.f3.params.toList ++ Rows.fnExactQueueTextSpec.plain.varTypes Tryz.prog) (ds ++ gs)).all (· ≤ reachBytes) = true := hsz0
  have hval : ∀ (j : Nat) t v, Tryz.f3.params[j]? = some t → args[j]? = some v → Value.okWide Tryz.prog W .any base t v := hval0
  have HTab := tab_of hL
  have hW' := hW
  obtain ⟨p, q, hA0, hV, rfl, hfz, hnd⟩ := hW
  have hA : DataW.TrodAll enc Tryz.prog W 0 (fun _ => true) true Tryz.f3.params.toList args.toList ds p := hA0
  rw [Tryz.params3] at hA hval hsz
  obtain ⟨v0, vs0, d0, ds0, p0, q0, hargs, rfl, rfl, h0, r0⟩ := trodAll_cons hA
  obtain ⟨rfl, rfl, rfl⟩ := trodAll_nil r0
  obtain rfl : args = #[v0] := by cases args; simp_all
  obtain ⟨rfl, rfl⟩ := trodVars_none hV
  have k0 := h0
  have lt0 : ∀ x ∈ p0, x.block < W.heap.size := by obtain ⟨m, hm⟩ := k0; exact DataW.trod_lt m _ _ _ hm
  obtain ⟨cs0, y0, rfl, hK0, w0⟩ := open_struct_arg Tryz.underlying29 (opens29 W) (hval 0 29 v0 rfl rfl) h0
  obtain ⟨A0_3, c0_3, A0_8, c0_8, A0_9, c0_9, A0_10, c0_10, rfl, hl0_3, hC0_3, hl0_8, hC0_8, hl0_9, hC0_9, hl0_10, hC0_10⟩ := k29_open hK0
  clear hA0 hval0 hsz0 hsz
  obtain ⟨k, hp⟩ := Pure.FnExactQueueText y0.f0.f0 y0.f0.f1 y0.f0.f2 y0.f0.f3 y0.f0.f4 y0.f0.f5 y0.f0.f6 y0.f0.f7 y0.f1 y0.f2 y0.f3 w0.1.1 w0.1.2.1 w0.1.2.2.1 w0.1.2.2.2.1 w0.1.2.2.2.2.1 w0.1.2.2.2.2.2.1 w0.1.2.2.2.2.2.2.1 w0.1.2.2.2.2.2.2.2 w0.2.1 w0.2.2.1 w0.2.2.2
  refine (laws_FnExactQueueText.calls k y0.f0.f0 y0.f0.f1 y0.f0.f2 _ _ y0.f0.f3 y0.f0.f4 y0.f0.f5 y0.f0.f6 y0.f0.f7 _ _ y0.f1 _ _ y0.f2 _ _ y0.f3 true W ⟨rfl⟩ hC0_3 hl0_3 hC0_8 hl0_8 hC0_9 hl0_9 hC0_10 hl0_10 hp HTab).mono fun e W' ⟨he, bel⟩ => ?_
  subst he
  exact ⟨_, rfl, _, _, _, [], _, [], hW', trodAll_mk1 (shut_bool Tryz.underlying4 _), (trodAll_cons_mk (Below.trod laidOut (by kernel_rfl) (of_decide_eq_true (by kernel_rfl)) k0 bel lt0) trodAll_mk0), rfl, bel.frame _, fun h => by cases h⟩
theorem over : Rows.fnExactQueueTextRow.holds Tryz.pinned (OpenSpec.ofChange Rows.fnExactQueueTextSpec) :=
  OpenClaim.holds_of_wide 3 Tryz.f3 rfl rfl rfl rfl rfl rfl rfl ⟨rfl, rfl, rfl, rfl, rfl⟩ rfl rfl rfl rfl rfl (by kernel_rfl) Tryz.func3 (by kernel_rfl)
    (of_decide_eq_true (by kernel_rfl)) (by unfold Func.isWrapper; first | (rw [if_pos (by decide +kernel)]; kernel_rfl) | (rw [if_neg (by decide +kernel)]; exact ⟨rfl, rfl⟩))
    (fun os started H enc _ => lifted os started H enc)
theorem said : Rows.FnExactQueueTextSaid := over
theorem proved : Rows.FnExactQueueTextCardSaid :=
  Claim7.holds_tied_plain_at .later [] [.data, .data, .data] true (true, "6228b7f5b1e044a4756abc097921ec9abd07de7ed4dcbd794b9fbc63634cedaf") false
    said (fun _ h => by cases h) (by kernel_rfl) (fun _ h => by cases h) fnExactQueueText_row_tie rfl ⟨rfl, rfl⟩ (by kernel_rfl) rfl
    (fun f fn hf hfn => by
      obtain rfl : f = 3 := Option.some.inj ((show Tryz.prog.funcNamed "loop.example/g00778/laws.FnExactQueueText" = some 3 by kernel_rfl).symm.trans hf) |>.symm
      obtain rfl : fn = Tryz.f3 := (Option.some.inj (Tryz.func3.symm.trans hfn)).symm
      exact ⟨by kernel_rfl, fun j t ht => by
        rw [Tryz.params3] at ht
        have hm : t ∈ [29] := by simpa using Array.mem_of_getElem? ht
        have hall : ([29].all fun u => !Tryz.prog.wantsStandIn u) = true := by kernel_rfl
        exact (show Tryz.prog.wantsStandIn t = false by simpa using List.all_eq_true.1 hall t hm)⟩)
    (by kernel_rfl)
#print axioms proved
end Go.Proofs.YtemnodpabflkoaaGreatDoor.fnExactQueueText
namespace Go.Proofs.YtemnodpabflkoaaGreatDoor
/-- The card, under a short name, for the claim. -/
theorem fnExactQueueText_holds : Rows.FnExactQueueTextCardSaid := fnExactQueueText.proved
end Go.Proofs.YtemnodpabflkoaaGreatDoor
