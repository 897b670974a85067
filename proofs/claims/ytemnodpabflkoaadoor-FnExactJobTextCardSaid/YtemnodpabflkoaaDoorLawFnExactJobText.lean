/- The statement FnExactJobText, with the listed package variables tied to the program's text: the Go function answers true at every input, and each argument reads afterwards as it read before: out of the printed functions and of the pure statement. No condition beyond the card's own. -/
import Derived.Test.YtemnodpabflkoaaDoorRows
import Derived.Test.YtemnodpabflkoaaDoorTie
import Derived.Test.YtemnodpabflkoaaDoorCards
import Derived.Test.YtemnodpabflkoaaDoorQFnExactJobTextx8
import Derived.Test.YtemnodpabflkoaaDoorPureFnExactJobText
import Derived.Test.YtemnodpabflkoaaDoorDw
import Derived.WalkKit
import Derived.ProofKit
import Derived.OpenShut
import Derived.ShutString
import Derived.ChangeOld
import Derived.Below
import Derived.SizedLaws
import Derived.LaidMore
import Derived.Stop.Joined
import Derived.SevenTiedAt
import Derived.Lib.LaidTab
import Derived.Test.YtemnodpabflkoaaDoorWSized
namespace Go.Proofs.YtemnodpabflkoaaDoor.fnExactJobText
open Go.ChangeShapes Go.WideShapes Go.ChangeAt Go.RowKit Go.Proofs.YtemnodpabflkoaaDoorW.PrintWords Go.Proofs.YtemnodpabflkoaaDoorW.PrintLast Go.Proofs.YtemnodpabflkoaaDoor.QFnExactJobText
open Go.ChangeMaps (open_string shut_string)
theorem own : ownKnob Tryd.prog.godebug = none := by kernel_rfl
theorem laidOut : laidOutB Tryd.prog = true := by kernel_rfl
def laid : List (String × DataW Unit) := [("math/bits.deBruijn32tab", Rows.laid_math_bits_deBruijn32tab), ("math/bits.deBruijn64tab", Rows.laid_math_bits_deBruijn64tab), ("internal/strconv.uint64pow10", Rows.laid_internal_strconv_uint64pow10)]
/-- The door's own heap meets the condition. -/
theorem door_met (os : Os) (args : Array Value) : laidMetH Tryd.prog laid ((World.doorLaid Tryd.prog 400 os).forCall (fun _ _ => 0) ⟨#[], args, []⟩).memory :=
  laidMetH_of_parts3 (fuel := 8) (laidMet_of_run' 8 (by kernel_rfl) (by kernel_rfl)) (by kernel_rfl) (by kernel_rfl)
/-- The table of powers of ten, out of the condition. -/
theorem tab_of {W : World} (h : laidMetH Tryd.prog laid W) : Tab W := by
  rw [MakeChecks.laidMetH_plain _ _ _ (by kernel_rfl)] at h
  obtain ⟨ps, ⟨g0, t0, cs0, f0, p0, q0, hg0, ht0, hv0, hd0, ⟨g1, t1, cs1, f1, p1, q1, hg1, ht1, hv1, hd1, ⟨g2, t2, cs2, f2, p2, q2, hg2, ht2, hv2, hd2, _, _⟩, _⟩, _⟩, _, _⟩ := h
  obtain rfl := Option.some.inj (gTab.symm.trans hg2)
  obtain rfl := Option.some.inj (gTabT.symm.trans ht2)
  unfold Tab Go.Lib.TabIs
  rw [hv2, ← Go.Lib.cells_of_tab (k := .u64) (zs := Go.Lib.pow10Tab) tabA tabE (by kernel_rfl) (by kernel_rfl) hd2]
set_option maxRecDepth 100000 in
theorem lifted (os : Os) (started : os.Started) (H : Type) (enc : TypeId × Value → H) :
    ReturnsInHanded {} Tryd.checked os 5 .any (fun w args => (Rows.fnExactJobTextSpec.pre enc Tryd.prog Tryd.f5 [] false w args ∧ laidMetH Tryd.prog laid w) ∧ sizedMet enc Tryd.prog Tryd.f5 (OpenSpec.ofChange Rows.fnExactJobTextSpec) false w args)
      (Rows.fnExactJobTextSpec.post enc Tryd.prog Tryd.f5 false true false false) := by
  refine returnsInHanded_of_change_and (C := Tryd.checked) (X := fun w _ => laidMetH Tryd.prog laid w) (fun _ _ _ hh h => h.of_heap hh) own started (by kernel_rfl) Tryd.func5
    (ChangeSpec.witness_shaped (enc := enc) (C := Tryd.checked) (os := os) (X := fun w _ => laidMetH Tryd.prog laid w) false (World.doorLaid Tryd.prog 400 os) #[.agg #[.int .i64 0, .int .i64 0, .int .i64 0, .slice none 0 0, .int .i64 0, .int .i64 0, .int .i64 0, .int .i64 0, .slice none 0 0, .int .i64 0]] 8 rfl (World.shaped_of_RefB (by kernel_rfl) (by kernel_rfl)) (by kernel_rfl) (by kernel_rfl) (by kernel_rfl) (door_met os _)) ?_
  intro W base args ds gs before hval0 hW hcnd hsz0 hL _
  have hsz : (DataW.weightsEach Tryd.prog (Tryd.f5.params.toList ++ Rows.fnExactJobTextSpec.plain.varTypes Tryd.prog) (ds ++ gs)).all (· ≤ reachBytes) = true := hsz0
  have hval : ∀ (j : Nat) t v, Tryd.f5.params[j]? = some t → args[j]? = some v → Value.okWide Tryd.prog W .any base t v := hval0
  have HTab := tab_of hL
  have hW' := hW
  obtain ⟨p, q, hA0, hV, rfl, hfz, hnd⟩ := hW
  have hA : DataW.TrodAll enc Tryd.prog W 0 (fun _ => true) true Tryd.f5.params.toList args.toList ds p := hA0
  rw [Tryd.params5] at hA hval hsz
  obtain ⟨v0, vs0, d0, ds0, p0, q0, hargs, rfl, rfl, h0, r0⟩ := trodAll_cons hA
  obtain ⟨rfl, rfl, rfl⟩ := trodAll_nil r0
  obtain rfl : args = #[v0] := by cases args; simp_all
  obtain ⟨rfl, rfl⟩ := trodVars_none hV
  have k0 := h0
  have lt0 : ∀ x ∈ p0, x.block < W.heap.size := by obtain ⟨m, hm⟩ := k0; exact DataW.trod_lt m _ _ _ hm
  obtain ⟨cs0, y0, rfl, hK0, w0⟩ := open_struct_arg Tryd.underlying49 (opens49 W) (hval 0 49 v0 rfl rfl) h0
  obtain ⟨A0_3, c0_3, A0_8, c0_8, rfl, hl0_3, hC0_3, hl0_8, hC0_8⟩ := k49_open hK0
  clear hA0 hval0 hsz0 hsz
  obtain ⟨k, hp⟩ := Pure.FnExactJobText y0.f0.f0.f0 y0.f0.f0.f1 y0.f0.f0.f2 y0.f0.f1 y0.f1 y0.f2.f0.f0 y0.f2.f0.f1 y0.f2.f0.f2 y0.f2.f1 y0.f3 w0.1.1.1 w0.1.1.2.1 w0.1.1.2.2 w0.1.2 w0.2.1 w0.2.2.1.1.1 w0.2.2.1.1.2.1 w0.2.2.1.1.2.2 w0.2.2.1.2 w0.2.2.2
  refine (laws_FnExactJobText.calls k y0.f0.f0.f0 y0.f0.f0.f1 y0.f0.f0.f2 _ _ y0.f0.f1 y0.f1 y0.f2.f0.f0 y0.f2.f0.f1 y0.f2.f0.f2 _ _ y0.f2.f1 y0.f3 true W ⟨rfl⟩ hC0_3 hl0_3 hC0_8 hl0_8 hp HTab).mono fun e W' ⟨he, bel⟩ => ?_
  subst he
  exact ⟨_, rfl, _, _, _, [], _, [], hW', trodAll_mk1 (shut_bool Tryd.underlying4 _), (trodAll_cons_mk (Below.trod laidOut (by kernel_rfl) (of_decide_eq_true (by kernel_rfl)) k0 bel lt0) trodAll_mk0), rfl, bel.frame _, fun h => by cases h⟩
theorem over : Rows.fnExactJobTextRow.holds Tryd.pinned (OpenSpec.ofChange Rows.fnExactJobTextSpec) :=
  OpenClaim.holds_of_wide 5 Tryd.f5 rfl rfl rfl rfl rfl rfl rfl ⟨rfl, rfl, rfl, rfl, rfl⟩ rfl rfl rfl rfl rfl (by kernel_rfl) Tryd.func5 (by kernel_rfl)
    (of_decide_eq_true (by kernel_rfl)) (by unfold Func.isWrapper; first | (rw [if_pos (by decide +kernel)]; kernel_rfl) | (rw [if_neg (by decide +kernel)]; exact ⟨rfl, rfl⟩))
    (fun os started H enc _ => lifted os started H enc)
theorem said : Rows.FnExactJobTextSaid := over
theorem proved : Rows.FnExactJobTextCardSaid :=
  Claim7.holds_tied_plain_at .later [] [.data, .data, .data] true (true, "55e81930d1fd7e9e2d2b2fbbb8aad460a48e6bedc537a312764915baae52a474") false
    said (fun _ h => by cases h) (by kernel_rfl) (fun _ h => by cases h) fnExactJobText_row_tie rfl ⟨rfl, rfl⟩ (by kernel_rfl) rfl
    (fun f fn hf hfn => by
      obtain rfl : f = 5 := Option.some.inj ((show Tryd.prog.funcNamed "loop.example/g00778/laws.FnExactJobText" = some 5 by kernel_rfl).symm.trans hf) |>.symm
      obtain rfl : fn = Tryd.f5 := (Option.some.inj (Tryd.func5.symm.trans hfn)).symm
      exact ⟨by kernel_rfl, fun j t ht => by
        rw [Tryd.params5] at ht
        have hm : t ∈ [49] := by simpa using Array.mem_of_getElem? ht
        have hall : ([49].all fun u => !Tryd.prog.wantsStandIn u) = true := by kernel_rfl
        exact (show Tryd.prog.wantsStandIn t = false by simpa using List.all_eq_true.1 hall t hm)⟩)
    (by kernel_rfl)
#print axioms proved
end Go.Proofs.YtemnodpabflkoaaDoor.fnExactJobText
namespace Go.Proofs.YtemnodpabflkoaaDoor
/-- The card, under a short name, for the claim. -/
theorem fnExactJobText_holds : Rows.FnExactJobTextCardSaid := fnExactJobText.proved
end Go.Proofs.YtemnodpabflkoaaDoor
