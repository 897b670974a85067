/- The Go functions that the statement FnExactNewRuntime reaches, as Lean functions, each with a proof that the call does what its function says; laid by a program of this session. No condition. -/
import Derived.Test.YtljboinndpnefaaQFnExactNewRuntimex0
import Derived.Test.YtljboinndpnefaaQFnExactNewRuntimex2
namespace Go.Proofs.Ytljboinndpnefaa.QFnExactNewRuntime
open Go.RowKit Go.Proofs.YtljboinndpnefaaW.PrintWords Go.Proofs.YtljboinndpnefaaW.PrintLast Go.Proofs.YtljboinndpnefaaW.PrintMore
attribute [local go_sem] max2_int min2_int max_two min_two max_three min_three max_four min_four   -- for this text's walks alone
set_option linter.unusedVariables false
set_option linter.unusedSimpArgs false

/-! ### laws_eqTensor: function 107 -/
def laws_eqTensor.f (k : Nat) (a0_0 : Int) (a0_1 : Int) (a0_2 : Int) (l0_3 : List Int) (a1_0 : Int) (a1_1 : Int) (a1_2 : Int) (l1_3 : List Int) : Option (Bool) := (laws_eqShape.f a0_0 a0_1 a0_2 a1_0 a1_1 a1_2).bind fun t231 => (if t231 = true then ((laws_eqIntS.f k l0_3 l1_3).bind fun t232 => (if t232 = true then (some true) else (some false))) else (some false))
set_option maxHeartbeats 8000000 in
set_option maxRecDepth 100000 in
theorem laws_eqTensor.calls {k : Nat} {a0_0 : Int} {a0_1 : Int} {a0_2 : Int} {A0_3 : Option Addr} {c0_3 : Nat} {l0_3 : List Int} {a1_0 : Int} {a1_1 : Int} {a1_2 : Int} {A1_3 : Option Addr} {c1_3 : Nat} {l1_3 : List Int} {r : Bool} {w : World} (hr0_3 : Kd.C (Kd.int .i64) w A0_3 l0_3.length l0_3) (hc0_3 : l0_3.length ≤ c0_3) (hr1_3 : Kd.C (Kd.int .i64) w A1_3 l1_3.length l1_3) (hc1_3 : l1_3.length ≤ c1_3) (h : laws_eqTensor.f k a0_0 a0_1 a0_2 l0_3 a1_0 a1_1 a1_2 l1_3 = some r) :
  Calls Try.prog 107 #[.agg #[.int .i64 a0_0, .int .i64 a0_1, .int .i64 a0_2, .slice A0_3 l0_3.length c0_3], .agg #[.int .i64 a1_0, .int .i64 a1_1, .int .i64 a1_2, .slice A1_3 l1_3.length c1_3]] w fun e w' => e = .returned (.bool r) ∧ Below w.heap.size w w' := by
 have hu91 := Try.underlying91; have hu85 := Try.underlying85; have HR0_3 := Aside0.mk hr0_3; have HC0_3 := Aside0.mk hc0_3; clear hr0_3 hc0_3; have HR1_3 := Aside0.mk hr1_3; have HC1_3 := Aside0.mk hc1_3; clear hr1_3 hc1_3; have HB := Aside0.mk (Below.refl w.heap.size w); have H : ((laws_eqShape.f a0_0 a0_1 a0_2 a1_0 a1_1 a1_2).bind fun t231 => (if t231 = true then ((laws_eqIntS.f k l0_3 l1_3).bind fun t232 => (if t232 = true then (some true) else (some false))) else (some false))) = some r := h; clear h; obtain ⟨t231, A3, H⟩ := bo_ H; (try dsimp only at H)
 by_cases c4 : t231 = true
 ·
  subst c4; rw [if_pos rfl] at H; obtain ⟨t232, A5, H⟩ := bo_ H; (try dsimp only at H)
  by_cases c6 : t232 = true
  ·
   subst c6; rw [if_pos rfl] at H; obtain rfl := Option.some.inj H
   go_enter Try.func107, Try.ntmps107
   go_wp2_with (first | ((with_reducible refine gate_dst (N := 2) rfl ?_); refine bz_ 2 ?_; intro gb229 hg w7 hbox hb; obtain ⟨BK229, GW229, GE229, HB⟩ := nb_ hg hbox HB hb; clear hb hbox hg) | ((with_reducible refine gate_dst (N := 3) rfl ?_); refine bz_ 3 ?_; intro gb230 hg w8 hbox hb; obtain ⟨BK230, GW230, GE230, HB⟩ := nb_ hg hbox HB hb; have NB229_230 := nx_ hg BK229; have NB230_229 := ny_ hg BK229; replace BK229 := bb_ BK229 hb; clear hb hbox hg; have hnb9 := NB229_230.out; have hnc9 := NB230_229.out; have hcz10 := box4_ BK229.out; have hcz11 := box4_ BK230.out) | ((with_reducible refine gc_ 102 ?_); refine gl_ (some 9) Try.func102 #[.agg #[.int .i64 a0_0, .int .i64 a0_1, .int .i64 a0_2], .agg #[.int .i64 a1_0, .int .i64 a1_1, .int .i64 a1_2]] ?_; (with_reducible refine (laws_eqShape.calls A3.out).mono ?_); rintro e w12 ⟨rfl, hb⟩; refine ⟨_, rfl, ?_⟩; replace BK229 := bb_ BK229 hb; replace BK230 := bb_ BK230 hb; replace HB := hb_ HB hb; (try clear hb); have hcz13 := box4_ BK229.out; have hcz14 := box4_ BK230.out) | ((with_reducible refine gc_ 38 ?_); refine gl_ (some 15) Try.func38 #[.slice A0_3 l0_3.length c0_3, .slice A1_3 l1_3.length c1_3] ?_; (with_reducible refine (laws_eqIntS.calls ?_ ?_ ?_ ?_ A5.out).mono ?_); exact cu_ HR0_3.out HB.out; exact HC0_3.out; exact cu_ HR1_3.out HB.out; exact HC1_3.out; rintro e w' ⟨rfl, ⟨nd, rfl⟩⟩; refine ⟨_, rfl, ?_⟩))
   go_ret
   exact rt_ HB.out
  ·
   replace c6 := Bool.eq_false_iff.mpr c6; subst c6; have H1 : (some false) = some r := by rw [if_neg (show ¬ (false = true) by decide)] at H; exact H
   clear H; have H := H1; clear H1; obtain rfl := Option.some.inj H
   go_enter Try.func107, Try.ntmps107
   go_wp2_with (first | ((with_reducible refine gate_dst (N := 2) rfl ?_); refine bz_ 2 ?_; intro gb229 hg w15 hbox hb; obtain ⟨BK229, GW229, GE229, HB⟩ := nb_ hg hbox HB hb; clear hb hbox hg) | ((with_reducible refine gate_dst (N := 3) rfl ?_); refine bz_ 3 ?_; intro gb230 hg w16 hbox hb; obtain ⟨BK230, GW230, GE230, HB⟩ := nb_ hg hbox HB hb; have NB229_230 := nx_ hg BK229; have NB230_229 := ny_ hg BK229; replace BK229 := bb_ BK229 hb; clear hb hbox hg; have hnb17 := NB229_230.out; have hnc17 := NB230_229.out; have hcz18 := box4_ BK229.out; have hcz19 := box4_ BK230.out) | ((with_reducible refine gc_ 102 ?_); refine gl_ (some 9) Try.func102 #[.agg #[.int .i64 a0_0, .int .i64 a0_1, .int .i64 a0_2], .agg #[.int .i64 a1_0, .int .i64 a1_1, .int .i64 a1_2]] ?_; (with_reducible refine (laws_eqShape.calls A3.out).mono ?_); rintro e w20 ⟨rfl, hb⟩; refine ⟨_, rfl, ?_⟩; replace BK229 := bb_ BK229 hb; replace BK230 := bb_ BK230 hb; replace HB := hb_ HB hb; (try clear hb); have hcz21 := box4_ BK229.out; have hcz22 := box4_ BK230.out) | ((with_reducible refine gc_ 38 ?_); refine gl_ (some 15) Try.func38 #[.slice A0_3 l0_3.length c0_3, .slice A1_3 l1_3.length c1_3] ?_; (with_reducible refine (laws_eqIntS.calls ?_ ?_ ?_ ?_ A5.out).mono ?_); exact cu_ HR0_3.out HB.out; exact HC0_3.out; exact cu_ HR1_3.out HB.out; exact HC1_3.out; rintro e w' ⟨rfl, ⟨nd, rfl⟩⟩; refine ⟨_, rfl, ?_⟩))
   go_ret
   exact rt_ HB.out
 ·
  replace c4 := Bool.eq_false_iff.mpr c4; subst c4; have H1 : (some false) = some r := by rw [if_neg (show ¬ (false = true) by decide)] at H; exact H
  clear H; have H := H1; clear H1; obtain rfl := Option.some.inj H
  go_enter Try.func107, Try.ntmps107
  go_wp2_with (first | ((with_reducible refine gate_dst (N := 2) rfl ?_); refine bz_ 2 ?_; intro gb229 hg w23 hbox hb; obtain ⟨BK229, GW229, GE229, HB⟩ := nb_ hg hbox HB hb; clear hb hbox hg) | ((with_reducible refine gate_dst (N := 3) rfl ?_); refine bz_ 3 ?_; intro gb230 hg w24 hbox hb; obtain ⟨BK230, GW230, GE230, HB⟩ := nb_ hg hbox HB hb; have NB229_230 := nx_ hg BK229; have NB230_229 := ny_ hg BK229; replace BK229 := bb_ BK229 hb; clear hb hbox hg; have hnb25 := NB229_230.out; have hnc25 := NB230_229.out; have hcz26 := box4_ BK229.out; have hcz27 := box4_ BK230.out) | ((with_reducible refine gc_ 102 ?_); refine gl_ (some 9) Try.func102 #[.agg #[.int .i64 a0_0, .int .i64 a0_1, .int .i64 a0_2], .agg #[.int .i64 a1_0, .int .i64 a1_1, .int .i64 a1_2]] ?_; (with_reducible refine (laws_eqShape.calls A3.out).mono ?_); rintro e w28 ⟨rfl, hb⟩; refine ⟨_, rfl, ?_⟩; replace BK229 := bb_ BK229 hb; replace BK230 := bb_ BK230 hb; replace HB := hb_ HB hb; (try clear hb)))
  go_ret
  exact rt_ HB.out

/-! ### laws_eqJob: function 104 -/
def laws_eqJob.f (k : Nat) (a0_0 : Int) (a0_1 : Int) (a0_2 : Int) (l0_3 : List (S107)) (a0_4 : Int) (a0_5 : Int) (a0_6 : Int) (a0_7 : Int) (l0_8 : List Int) (a0_9 : Int) (a1_0 : Int) (a1_1 : Int) (a1_2 : Int) (l1_3 : List (S107)) (a1_4 : Int) (a1_5 : Int) (a1_6 : Int) (a1_7 : Int) (l1_8 : List Int) (a1_9 : Int) : Option (Bool) := (laws_eqModel.f k a0_0 a0_1 a0_2 l0_3 a1_0 a1_1 a1_2 l1_3).bind fun t235 => (if t235 = true then (if a0_4 = a1_4 then ((laws_eqTensor.f k a0_5 a0_6 a0_7 l0_8 a1_5 a1_6 a1_7 l1_8).bind fun t236 => (if t236 = true then (if a0_9 = a1_9 then (some true) else (some false)) else (some false))) else (some false)) else (some false))
set_option maxHeartbeats 8000000 in
set_option maxRecDepth 100000 in
theorem laws_eqJob.calls {k : Nat} {a0_0 : Int} {a0_1 : Int} {a0_2 : Int} {A0_3 : Option Addr} {c0_3 : Nat} {l0_3 : List (S107)} {a0_4 : Int} {a0_5 : Int} {a0_6 : Int} {a0_7 : Int} {A0_8 : Option Addr} {c0_8 : Nat} {l0_8 : List Int} {a0_9 : Int} {a1_0 : Int} {a1_1 : Int} {a1_2 : Int} {A1_3 : Option Addr} {c1_3 : Nat} {l1_3 : List (S107)} {a1_4 : Int} {a1_5 : Int} {a1_6 : Int} {a1_7 : Int} {A1_8 : Option Addr} {c1_8 : Nat} {l1_8 : List Int} {a1_9 : Int} {r : Bool} {w : World} (hr0_3 : Kd.C k107 w A0_3 l0_3.length l0_3) (hc0_3 : l0_3.length ≤ c0_3) (hr0_8 : Kd.C (Kd.int .i64) w A0_8 l0_8.length l0_8) (hc0_8 : l0_8.length ≤ c0_8) (hr1_3 : Kd.C k107 w A1_3 l1_3.length l1_3) (hc1_3 : l1_3.length ≤ c1_3) (hr1_8 : Kd.C (Kd.int .i64) w A1_8 l1_8.length l1_8) (hc1_8 : l1_8.length ≤ c1_8) (h : laws_eqJob.f k a0_0 a0_1 a0_2 l0_3 a0_4 a0_5 a0_6 a0_7 l0_8 a0_9 a1_0 a1_1 a1_2 l1_3 a1_4 a1_5 a1_6 a1_7 l1_8 a1_9 = some r) :
  Calls Try.prog 104 #[.agg #[.int .i64 a0_0, .int .i64 a0_1, .int .i64 a0_2, .slice A0_3 l0_3.length c0_3, .int .i64 a0_4, .int .i64 a0_5, .int .i64 a0_6, .int .i64 a0_7, .slice A0_8 l0_8.length c0_8, .int .i64 a0_9], .agg #[.int .i64 a1_0, .int .i64 a1_1, .int .i64 a1_2, .slice A1_3 l1_3.length c1_3, .int .i64 a1_4, .int .i64 a1_5, .int .i64 a1_6, .int .i64 a1_7, .slice A1_8 l1_8.length c1_8, .int .i64 a1_9]] w fun e w' => e = .returned (.bool r) ∧ Below w.heap.size w w' := by
 have hu93 := Try.underlying93; have hu88 := Try.underlying88; have hu91 := Try.underlying91; have HR0_3 := Aside0.mk hr0_3; have HC0_3 := Aside0.mk hc0_3; clear hr0_3 hc0_3; have HR0_8 := Aside0.mk hr0_8; have HC0_8 := Aside0.mk hc0_8; clear hr0_8 hc0_8; have HR1_3 := Aside0.mk hr1_3; have HC1_3 := Aside0.mk hc1_3; clear hr1_3 hc1_3; have HR1_8 := Aside0.mk hr1_8; have HC1_8 := Aside0.mk hc1_8; clear hr1_8 hc1_8; have HB := Aside0.mk (Below.refl w.heap.size w); have H : ((laws_eqModel.f k a0_0 a0_1 a0_2 l0_3 a1_0 a1_1 a1_2 l1_3).bind fun t235 => (if t235 = true then (if a0_4 = a1_4 then ((laws_eqTensor.f k a0_5 a0_6 a0_7 l0_8 a1_5 a1_6 a1_7 l1_8).bind fun t236 => (if t236 = true then (if a0_9 = a1_9 then (some true) else (some false)) else (some false))) else (some false)) else (some false))) = some r := h; clear h; obtain ⟨t235, A3, H⟩ := bo_ H; (try dsimp only at H)
 by_cases c4 : t235 = true
 ·
  subst c4; rw [if_pos rfl] at H
  by_cases c5 : a0_4 = a1_4
  ·
   rw [if_pos c5] at H; have c5b0 : (a0_4 == a1_4) = true := beq_iff_eq.mpr c5; have c5b1 : (a0_4 != a1_4) = false := bne_eq_false_iff_eq.mpr c5; clear c5; obtain ⟨t236, A6, H⟩ := bo_ H; (try dsimp only at H)
   by_cases c7 : t236 = true
   ·
    subst c7; rw [if_pos rfl] at H
    by_cases c8 : a0_9 = a1_9
    ·
     rw [if_pos c8] at H; have c8b0 : (a0_9 == a1_9) = true := beq_iff_eq.mpr c8; have c8b1 : (a0_9 != a1_9) = false := bne_eq_false_iff_eq.mpr c8; clear c8; obtain rfl := Option.some.inj H
     go_enter Try.func104, Try.ntmps104
     go_wp2_with (first | ((with_reducible refine gate_dst (N := 2) rfl ?_); refine bz_ 2 ?_; intro gb233 hg w9 hbox hb; obtain ⟨BK233, GW233, GE233, HB⟩ := nb_ hg hbox HB hb; clear hb hbox hg) | ((with_reducible refine gate_dst (N := 3) rfl ?_); refine bz_ 3 ?_; intro gb234 hg w10 hbox hb; obtain ⟨BK234, GW234, GE234, HB⟩ := nb_ hg hbox HB hb; have NB233_234 := nx_ hg BK233; have NB234_233 := ny_ hg BK233; replace BK233 := bb_ BK233 hb; clear hb hbox hg; have hnb11 := NB233_234.out; have hnc11 := NB234_233.out; have hcz12 := box10_ BK233.out; have hcz13 := box10_ BK234.out) | ((with_reducible refine gc_ 91 ?_); refine gl_ (some 9) Try.func91 #[.agg #[.int .i64 a0_0, .int .i64 a0_1, .int .i64 a0_2, .slice A0_3 l0_3.length c0_3], .agg #[.int .i64 a1_0, .int .i64 a1_1, .int .i64 a1_2, .slice A1_3 l1_3.length c1_3]] ?_; (with_reducible refine (laws_eqModel.calls ?_ ?_ ?_ ?_ A3.out).mono ?_); exact cu_ HR0_3.out HB.out; exact HC0_3.out; exact cu_ HR1_3.out HB.out; exact HC1_3.out; rintro e w14 ⟨rfl, hb⟩; refine ⟨_, rfl, ?_⟩; replace BK233 := bb_ BK233 hb; replace BK234 := bb_ BK234 hb; replace HB := hb_ HB hb; (try clear hb); have hcz15 := box10_ BK233.out; have hcz16 := box10_ BK234.out) | ((with_reducible refine gc_ 107 ?_); refine gl_ (some 20) Try.func107 #[.agg #[.int .i64 a0_5, .int .i64 a0_6, .int .i64 a0_7, .slice A0_8 l0_8.length c0_8], .agg #[.int .i64 a1_5, .int .i64 a1_6, .int .i64 a1_7, .slice A1_8 l1_8.length c1_8]] ?_; (with_reducible refine (laws_eqTensor.calls ?_ ?_ ?_ ?_ A6.out).mono ?_); exact cu_ HR0_8.out HB.out; exact HC0_8.out; exact cu_ HR1_8.out HB.out; exact HC1_8.out; rintro e w17 ⟨rfl, hb⟩; refine ⟨_, rfl, ?_⟩; replace BK233 := bb_ BK233 hb; replace BK234 := bb_ BK234 hb; replace HB := hb_ HB hb; (try clear hb); have hcz18 := box10_ BK233.out; have hcz19 := box10_ BK234.out))
     go_ret
     exact rt_ HB.out
    ·
     rw [if_neg c8] at H; have c8b0 : (a0_9 == a1_9) = false := beq_eq_false_iff_ne.mpr c8; have c8b1 : (a0_9 != a1_9) = true := bne_iff_ne.mpr c8; obtain rfl := Option.some.inj H
     go_enter Try.func104, Try.ntmps104
     go_wp2_with (first | ((with_reducible refine gate_dst (N := 2) rfl ?_); refine bz_ 2 ?_; intro gb233 hg w20 hbox hb; obtain ⟨BK233, GW233, GE233, HB⟩ := nb_ hg hbox HB hb; clear hb hbox hg) | ((with_reducible refine gate_dst (N := 3) rfl ?_); refine bz_ 3 ?_; intro gb234 hg w21 hbox hb; obtain ⟨BK234, GW234, GE234, HB⟩ := nb_ hg hbox HB hb; have NB233_234 := nx_ hg BK233; have NB234_233 := ny_ hg BK233; replace BK233 := bb_ BK233 hb; clear hb hbox hg; have hnb22 := NB233_234.out; have hnc22 := NB234_233.out; have hcz23 := box10_ BK233.out; have hcz24 := box10_ BK234.out) | ((with_reducible refine gc_ 91 ?_); refine gl_ (some 9) Try.func91 #[.agg #[.int .i64 a0_0, .int .i64 a0_1, .int .i64 a0_2, .slice A0_3 l0_3.length c0_3], .agg #[.int .i64 a1_0, .int .i64 a1_1, .int .i64 a1_2, .slice A1_3 l1_3.length c1_3]] ?_; (with_reducible refine (laws_eqModel.calls ?_ ?_ ?_ ?_ A3.out).mono ?_); exact cu_ HR0_3.out HB.out; exact HC0_3.out; exact cu_ HR1_3.out HB.out; exact HC1_3.out; rintro e w25 ⟨rfl, hb⟩; refine ⟨_, rfl, ?_⟩; replace BK233 := bb_ BK233 hb; replace BK234 := bb_ BK234 hb; replace HB := hb_ HB hb; (try clear hb); have hcz26 := box10_ BK233.out; have hcz27 := box10_ BK234.out) | ((with_reducible refine gc_ 107 ?_); refine gl_ (some 20) Try.func107 #[.agg #[.int .i64 a0_5, .int .i64 a0_6, .int .i64 a0_7, .slice A0_8 l0_8.length c0_8], .agg #[.int .i64 a1_5, .int .i64 a1_6, .int .i64 a1_7, .slice A1_8 l1_8.length c1_8]] ?_; (with_reducible refine (laws_eqTensor.calls ?_ ?_ ?_ ?_ A6.out).mono ?_); exact cu_ HR0_8.out HB.out; exact HC0_8.out; exact cu_ HR1_8.out HB.out; exact HC1_8.out; rintro e w28 ⟨rfl, hb⟩; refine ⟨_, rfl, ?_⟩; replace BK233 := bb_ BK233 hb; replace BK234 := bb_ BK234 hb; replace HB := hb_ HB hb; (try clear hb); have hcz29 := box10_ BK233.out; have hcz30 := box10_ BK234.out))
     go_ret
     exact rt_ HB.out
   ·
    replace c7 := Bool.eq_false_iff.mpr c7; subst c7; have H1 : (some false) = some r := by rw [if_neg (show ¬ (false = true) by decide)] at H; exact H
    clear H; have H := H1; clear H1; obtain rfl := Option.some.inj H
    go_enter Try.func104, Try.ntmps104
    go_wp2_with (first | ((with_reducible refine gate_dst (N := 2) rfl ?_); refine bz_ 2 ?_; intro gb233 hg w31 hbox hb; obtain ⟨BK233, GW233, GE233, HB⟩ := nb_ hg hbox HB hb; clear hb hbox hg) | ((with_reducible refine gate_dst (N := 3) rfl ?_); refine bz_ 3 ?_; intro gb234 hg w32 hbox hb; obtain ⟨BK234, GW234, GE234, HB⟩ := nb_ hg hbox HB hb; have NB233_234 := nx_ hg BK233; have NB234_233 := ny_ hg BK233; replace BK233 := bb_ BK233 hb; clear hb hbox hg; have hnb33 := NB233_234.out; have hnc33 := NB234_233.out; have hcz34 := box10_ BK233.out; have hcz35 := box10_ BK234.out) | ((with_reducible refine gc_ 91 ?_); refine gl_ (some 9) Try.func91 #[.agg #[.int .i64 a0_0, .int .i64 a0_1, .int .i64 a0_2, .slice A0_3 l0_3.length c0_3], .agg #[.int .i64 a1_0, .int .i64 a1_1, .int .i64 a1_2, .slice A1_3 l1_3.length c1_3]] ?_; (with_reducible refine (laws_eqModel.calls ?_ ?_ ?_ ?_ A3.out).mono ?_); exact cu_ HR0_3.out HB.out; exact HC0_3.out; exact cu_ HR1_3.out HB.out; exact HC1_3.out; rintro e w36 ⟨rfl, hb⟩; refine ⟨_, rfl, ?_⟩; replace BK233 := bb_ BK233 hb; replace BK234 := bb_ BK234 hb; replace HB := hb_ HB hb; (try clear hb); have hcz37 := box10_ BK233.out; have hcz38 := box10_ BK234.out) | ((with_reducible refine gc_ 107 ?_); refine gl_ (some 20) Try.func107 #[.agg #[.int .i64 a0_5, .int .i64 a0_6, .int .i64 a0_7, .slice A0_8 l0_8.length c0_8], .agg #[.int .i64 a1_5, .int .i64 a1_6, .int .i64 a1_7, .slice A1_8 l1_8.length c1_8]] ?_; (with_reducible refine (laws_eqTensor.calls ?_ ?_ ?_ ?_ A6.out).mono ?_); exact cu_ HR0_8.out HB.out; exact HC0_8.out; exact cu_ HR1_8.out HB.out; exact HC1_8.out; rintro e w39 ⟨rfl, hb⟩; refine ⟨_, rfl, ?_⟩; replace BK233 := bb_ BK233 hb; replace BK234 := bb_ BK234 hb; replace HB := hb_ HB hb; (try clear hb)))
    go_ret
    exact rt_ HB.out
  ·
   rw [if_neg c5] at H; have c5b0 : (a0_4 == a1_4) = false := beq_eq_false_iff_ne.mpr c5; have c5b1 : (a0_4 != a1_4) = true := bne_iff_ne.mpr c5; obtain rfl := Option.some.inj H
   go_enter Try.func104, Try.ntmps104
   go_wp2_with (first | ((with_reducible refine gate_dst (N := 2) rfl ?_); refine bz_ 2 ?_; intro gb233 hg w40 hbox hb; obtain ⟨BK233, GW233, GE233, HB⟩ := nb_ hg hbox HB hb; clear hb hbox hg) | ((with_reducible refine gate_dst (N := 3) rfl ?_); refine bz_ 3 ?_; intro gb234 hg w41 hbox hb; obtain ⟨BK234, GW234, GE234, HB⟩ := nb_ hg hbox HB hb; have NB233_234 := nx_ hg BK233; have NB234_233 := ny_ hg BK233; replace BK233 := bb_ BK233 hb; clear hb hbox hg; have hnb42 := NB233_234.out; have hnc42 := NB234_233.out; have hcz43 := box10_ BK233.out; have hcz44 := box10_ BK234.out) | ((with_reducible refine gc_ 91 ?_); refine gl_ (some 9) Try.func91 #[.agg #[.int .i64 a0_0, .int .i64 a0_1, .int .i64 a0_2, .slice A0_3 l0_3.length c0_3], .agg #[.int .i64 a1_0, .int .i64 a1_1, .int .i64 a1_2, .slice A1_3 l1_3.length c1_3]] ?_; (with_reducible refine (laws_eqModel.calls ?_ ?_ ?_ ?_ A3.out).mono ?_); exact cu_ HR0_3.out HB.out; exact HC0_3.out; exact cu_ HR1_3.out HB.out; exact HC1_3.out; rintro e w45 ⟨rfl, hb⟩; refine ⟨_, rfl, ?_⟩; replace BK233 := bb_ BK233 hb; replace BK234 := bb_ BK234 hb; replace HB := hb_ HB hb; (try clear hb); have hcz46 := box10_ BK233.out; have hcz47 := box10_ BK234.out))
   go_ret
   exact rt_ HB.out
 ·
  replace c4 := Bool.eq_false_iff.mpr c4; subst c4; have H1 : (some false) = some r := by rw [if_neg (show ¬ (false = true) by decide)] at H; exact H
  clear H; have H := H1; clear H1; obtain rfl := Option.some.inj H
  go_enter Try.func104, Try.ntmps104
  go_wp2_with (first | ((with_reducible refine gate_dst (N := 2) rfl ?_); refine bz_ 2 ?_; intro gb233 hg w48 hbox hb; obtain ⟨BK233, GW233, GE233, HB⟩ := nb_ hg hbox HB hb; clear hb hbox hg) | ((with_reducible refine gate_dst (N := 3) rfl ?_); refine bz_ 3 ?_; intro gb234 hg w49 hbox hb; obtain ⟨BK234, GW234, GE234, HB⟩ := nb_ hg hbox HB hb; have NB233_234 := nx_ hg BK233; have NB234_233 := ny_ hg BK233; replace BK233 := bb_ BK233 hb; clear hb hbox hg; have hnb50 := NB233_234.out; have hnc50 := NB234_233.out; have hcz51 := box10_ BK233.out; have hcz52 := box10_ BK234.out) | ((with_reducible refine gc_ 91 ?_); refine gl_ (some 9) Try.func91 #[.agg #[.int .i64 a0_0, .int .i64 a0_1, .int .i64 a0_2, .slice A0_3 l0_3.length c0_3], .agg #[.int .i64 a1_0, .int .i64 a1_1, .int .i64 a1_2, .slice A1_3 l1_3.length c1_3]] ?_; (with_reducible refine (laws_eqModel.calls ?_ ?_ ?_ ?_ A3.out).mono ?_); exact cu_ HR0_3.out HB.out; exact HC0_3.out; exact cu_ HR1_3.out HB.out; exact HC1_3.out; rintro e w53 ⟨rfl, hb⟩; refine ⟨_, rfl, ?_⟩; replace BK233 := bb_ BK233 hb; replace BK234 := bb_ BK234 hb; replace HB := hb_ HB hb; (try clear hb)))
  go_ret
  exact rt_ HB.out

/-! ### laws_eqRequest: function 92 -/
def laws_eqRequest.f (k : Nat) (a0_0 : Int) (a0_1 : Int) (a0_2 : Int) (a0_3 : Int) (a0_4 : Int) (l0_5 : List (S107)) (a0_6 : Int) (a0_7 : Int) (a0_8 : Int) (a0_9 : Int) (l0_10 : List Int) (a0_11 : Int) (a0_12 : Int) (a1_0 : Int) (a1_1 : Int) (a1_2 : Int) (a1_3 : Int) (a1_4 : Int) (l1_5 : List (S107)) (a1_6 : Int) (a1_7 : Int) (a1_8 : Int) (a1_9 : Int) (l1_10 : List Int) (a1_11 : Int) (a1_12 : Int) : Option (Bool) := if a0_0 = a1_0 then (if a0_1 = a1_1 then ((laws_eqJob.f k a0_2 a0_3 a0_4 l0_5 a0_6 a0_7 a0_8 a0_9 l0_10 a0_11 a1_2 a1_3 a1_4 l1_5 a1_6 a1_7 a1_8 a1_9 l1_10 a1_11).bind fun t239 => (if t239 = true then (if a0_12 = a1_12 then (some true) else (some false)) else (some false))) else (some false)) else (some false)
set_option maxHeartbeats 8000000 in
set_option maxRecDepth 100000 in
theorem laws_eqRequest.calls {k : Nat} {a0_0 : Int} {a0_1 : Int} {a0_2 : Int} {a0_3 : Int} {a0_4 : Int} {A0_5 : Option Addr} {c0_5 : Nat} {l0_5 : List (S107)} {a0_6 : Int} {a0_7 : Int} {a0_8 : Int} {a0_9 : Int} {A0_10 : Option Addr} {c0_10 : Nat} {l0_10 : List Int} {a0_11 : Int} {a0_12 : Int} {a1_0 : Int} {a1_1 : Int} {a1_2 : Int} {a1_3 : Int} {a1_4 : Int} {A1_5 : Option Addr} {c1_5 : Nat} {l1_5 : List (S107)} {a1_6 : Int} {a1_7 : Int} {a1_8 : Int} {a1_9 : Int} {A1_10 : Option Addr} {c1_10 : Nat} {l1_10 : List Int} {a1_11 : Int} {a1_12 : Int} {r : Bool} {w : World} (hr0_5 : Kd.C k107 w A0_5 l0_5.length l0_5) (hc0_5 : l0_5.length ≤ c0_5) (hr0_10 : Kd.C (Kd.int .i64) w A0_10 l0_10.length l0_10) (hc0_10 : l0_10.length ≤ c0_10) (hr1_5 : Kd.C k107 w A1_5 l1_5.length l1_5) (hc1_5 : l1_5.length ≤ c1_5) (hr1_10 : Kd.C (Kd.int .i64) w A1_10 l1_10.length l1_10) (hc1_10 : l1_10.length ≤ c1_10) (h : laws_eqRequest.f k a0_0 a0_1 a0_2 a0_3 a0_4 l0_5 a0_6 a0_7 a0_8 a0_9 l0_10 a0_11 a0_12 a1_0 a1_1 a1_2 a1_3 a1_4 l1_5 a1_6 a1_7 a1_8 a1_9 l1_10 a1_11 a1_12 = some r) :
  Calls Try.prog 92 #[.agg #[.int .i64 a0_0, .int .i64 a0_1, .int .i64 a0_2, .int .i64 a0_3, .int .i64 a0_4, .slice A0_5 l0_5.length c0_5, .int .i64 a0_6, .int .i64 a0_7, .int .i64 a0_8, .int .i64 a0_9, .slice A0_10 l0_10.length c0_10, .int .i64 a0_11, .int .i64 a0_12], .agg #[.int .i64 a1_0, .int .i64 a1_1, .int .i64 a1_2, .int .i64 a1_3, .int .i64 a1_4, .slice A1_5 l1_5.length c1_5, .int .i64 a1_6, .int .i64 a1_7, .int .i64 a1_8, .int .i64 a1_9, .slice A1_10 l1_10.length c1_10, .int .i64 a1_11, .int .i64 a1_12]] w fun e w' => e = .returned (.bool r) ∧ Below w.heap.size w w' := by
 have hu95 := Try.underlying95; have hu93 := Try.underlying93; have HR0_5 := Aside0.mk hr0_5; have HC0_5 := Aside0.mk hc0_5; clear hr0_5 hc0_5; have HR0_10 := Aside0.mk hr0_10; have HC0_10 := Aside0.mk hc0_10; clear hr0_10 hc0_10; have HR1_5 := Aside0.mk hr1_5; have HC1_5 := Aside0.mk hc1_5; clear hr1_5 hc1_5; have HR1_10 := Aside0.mk hr1_10; have HC1_10 := Aside0.mk hc1_10; clear hr1_10 hc1_10; have HB := Aside0.mk (Below.refl w.heap.size w); have H : (if a0_0 = a1_0 then (if a0_1 = a1_1 then ((laws_eqJob.f k a0_2 a0_3 a0_4 l0_5 a0_6 a0_7 a0_8 a0_9 l0_10 a0_11 a1_2 a1_3 a1_4 l1_5 a1_6 a1_7 a1_8 a1_9 l1_10 a1_11).bind fun t239 => (if t239 = true then (if a0_12 = a1_12 then (some true) else (some false)) else (some false))) else (some false)) else (some false)) = some r := h; clear h
 by_cases c3 : a0_0 = a1_0
 ·
  rw [if_pos c3] at H; have c3b0 : (a0_0 == a1_0) = true := beq_iff_eq.mpr c3; have c3b1 : (a0_0 != a1_0) = false := bne_eq_false_iff_eq.mpr c3; clear c3
  by_cases c4 : a0_1 = a1_1
  ·
   rw [if_pos c4] at H; have c4b0 : (a0_1 == a1_1) = true := beq_iff_eq.mpr c4; have c4b1 : (a0_1 != a1_1) = false := bne_eq_false_iff_eq.mpr c4; clear c4; obtain ⟨t239, A5, H⟩ := bo_ H; (try dsimp only at H)
   by_cases c6 : t239 = true
   ·
    subst c6; rw [if_pos rfl] at H
    by_cases c7 : a0_12 = a1_12
    ·
     rw [if_pos c7] at H; have c7b0 : (a0_12 == a1_12) = true := beq_iff_eq.mpr c7; have c7b1 : (a0_12 != a1_12) = false := bne_eq_false_iff_eq.mpr c7; clear c7; obtain rfl := Option.some.inj H
     go_enter Try.func92, Try.ntmps92
     go_wp2_with (first | ((with_reducible refine gate_dst (N := 2) rfl ?_); refine bz_ 2 ?_; intro gb237 hg w8 hbox hb; obtain ⟨BK237, GW237, GE237, HB⟩ := nb_ hg hbox HB hb; clear hb hbox hg) | ((with_reducible refine gate_dst (N := 3) rfl ?_); refine bz_ 3 ?_; intro gb238 hg w9 hbox hb; obtain ⟨BK238, GW238, GE238, HB⟩ := nb_ hg hbox HB hb; have NB237_238 := nx_ hg BK237; have NB238_237 := ny_ hg BK237; replace BK237 := bb_ BK237 hb; clear hb hbox hg; have hnb10 := NB237_238.out; have hnc10 := NB238_237.out; have hcz11 := box13_ BK237.out; have hcz12 := box13_ BK238.out) | ((with_reducible refine gc_ 104 ?_); refine gl_ (some 19) Try.func104 #[.agg #[.int .i64 a0_2, .int .i64 a0_3, .int .i64 a0_4, .slice A0_5 l0_5.length c0_5, .int .i64 a0_6, .int .i64 a0_7, .int .i64 a0_8, .int .i64 a0_9, .slice A0_10 l0_10.length c0_10, .int .i64 a0_11], .agg #[.int .i64 a1_2, .int .i64 a1_3, .int .i64 a1_4, .slice A1_5 l1_5.length c1_5, .int .i64 a1_6, .int .i64 a1_7, .int .i64 a1_8, .int .i64 a1_9, .slice A1_10 l1_10.length c1_10, .int .i64 a1_11]] ?_; (with_reducible refine (laws_eqJob.calls ?_ ?_ ?_ ?_ ?_ ?_ ?_ ?_ A5.out).mono ?_); exact cu_ HR0_5.out HB.out; exact HC0_5.out; exact cu_ HR0_10.out HB.out; exact HC0_10.out; exact cu_ HR1_5.out HB.out; exact HC1_5.out; exact cu_ HR1_10.out HB.out; exact HC1_10.out; rintro e w13 ⟨rfl, hb⟩; refine ⟨_, rfl, ?_⟩; replace BK237 := bb_ BK237 hb; replace BK238 := bb_ BK238 hb; replace HB := hb_ HB hb; (try clear hb); have hcz14 := box13_ BK237.out; have hcz15 := box13_ BK238.out))
     go_ret
     exact rt_ HB.out
    ·
     rw [if_neg c7] at H; have c7b0 : (a0_12 == a1_12) = false := beq_eq_false_iff_ne.mpr c7; have c7b1 : (a0_12 != a1_12) = true := bne_iff_ne.mpr c7; obtain rfl := Option.some.inj H
     go_enter Try.func92, Try.ntmps92
     go_wp2_with (first | ((with_reducible refine gate_dst (N := 2) rfl ?_); refine bz_ 2 ?_; intro gb237 hg w16 hbox hb; obtain ⟨BK237, GW237, GE237, HB⟩ := nb_ hg hbox HB hb; clear hb hbox hg) | ((with_reducible refine gate_dst (N := 3) rfl ?_); refine bz_ 3 ?_; intro gb238 hg w17 hbox hb; obtain ⟨BK238, GW238, GE238, HB⟩ := nb_ hg hbox HB hb; have NB237_238 := nx_ hg BK237; have NB238_237 := ny_ hg BK237; replace BK237 := bb_ BK237 hb; clear hb hbox hg; have hnb18 := NB237_238.out; have hnc18 := NB238_237.out; have hcz19 := box13_ BK237.out; have hcz20 := box13_ BK238.out) | ((with_reducible refine gc_ 104 ?_); refine gl_ (some 19) Try.func104 #[.agg #[.int .i64 a0_2, .int .i64 a0_3, .int .i64 a0_4, .slice A0_5 l0_5.length c0_5, .int .i64 a0_6, .int .i64 a0_7, .int .i64 a0_8, .int .i64 a0_9, .slice A0_10 l0_10.length c0_10, .int .i64 a0_11], .agg #[.int .i64 a1_2, .int .i64 a1_3, .int .i64 a1_4, .slice A1_5 l1_5.length c1_5, .int .i64 a1_6, .int .i64 a1_7, .int .i64 a1_8, .int .i64 a1_9, .slice A1_10 l1_10.length c1_10, .int .i64 a1_11]] ?_; (with_reducible refine (laws_eqJob.calls ?_ ?_ ?_ ?_ ?_ ?_ ?_ ?_ A5.out).mono ?_); exact cu_ HR0_5.out HB.out; exact HC0_5.out; exact cu_ HR0_10.out HB.out; exact HC0_10.out; exact cu_ HR1_5.out HB.out; exact HC1_5.out; exact cu_ HR1_10.out HB.out; exact HC1_10.out; rintro e w21 ⟨rfl, hb⟩; refine ⟨_, rfl, ?_⟩; replace BK237 := bb_ BK237 hb; replace BK238 := bb_ BK238 hb; replace HB := hb_ HB hb; (try clear hb); have hcz22 := box13_ BK237.out; have hcz23 := box13_ BK238.out))
     go_ret
     exact rt_ HB.out
   ·
    replace c6 := Bool.eq_false_iff.mpr c6; subst c6; have H1 : (some false) = some r := by rw [if_neg (show ¬ (false = true) by decide)] at H; exact H
    clear H; have H := H1; clear H1; obtain rfl := Option.some.inj H
    go_enter Try.func92, Try.ntmps92
    go_wp2_with (first | ((with_reducible refine gate_dst (N := 2) rfl ?_); refine bz_ 2 ?_; intro gb237 hg w24 hbox hb; obtain ⟨BK237, GW237, GE237, HB⟩ := nb_ hg hbox HB hb; clear hb hbox hg) | ((with_reducible refine gate_dst (N := 3) rfl ?_); refine bz_ 3 ?_; intro gb238 hg w25 hbox hb; obtain ⟨BK238, GW238, GE238, HB⟩ := nb_ hg hbox HB hb; have NB237_238 := nx_ hg BK237; have NB238_237 := ny_ hg BK237; replace BK237 := bb_ BK237 hb; clear hb hbox hg; have hnb26 := NB237_238.out; have hnc26 := NB238_237.out; have hcz27 := box13_ BK237.out; have hcz28 := box13_ BK238.out) | ((with_reducible refine gc_ 104 ?_); refine gl_ (some 19) Try.func104 #[.agg #[.int .i64 a0_2, .int .i64 a0_3, .int .i64 a0_4, .slice A0_5 l0_5.length c0_5, .int .i64 a0_6, .int .i64 a0_7, .int .i64 a0_8, .int .i64 a0_9, .slice A0_10 l0_10.length c0_10, .int .i64 a0_11], .agg #[.int .i64 a1_2, .int .i64 a1_3, .int .i64 a1_4, .slice A1_5 l1_5.length c1_5, .int .i64 a1_6, .int .i64 a1_7, .int .i64 a1_8, .int .i64 a1_9, .slice A1_10 l1_10.length c1_10, .int .i64 a1_11]] ?_; (with_reducible refine (laws_eqJob.calls ?_ ?_ ?_ ?_ ?_ ?_ ?_ ?_ A5.out).mono ?_); exact cu_ HR0_5.out HB.out; exact HC0_5.out; exact cu_ HR0_10.out HB.out; exact HC0_10.out; exact cu_ HR1_5.out HB.out; exact HC1_5.out; exact cu_ HR1_10.out HB.out; exact HC1_10.out; rintro e w29 ⟨rfl, hb⟩; refine ⟨_, rfl, ?_⟩; replace BK237 := bb_ BK237 hb; replace BK238 := bb_ BK238 hb; replace HB := hb_ HB hb; (try clear hb)))
    go_ret
    exact rt_ HB.out
  ·
   rw [if_neg c4] at H; have c4b0 : (a0_1 == a1_1) = false := beq_eq_false_iff_ne.mpr c4; have c4b1 : (a0_1 != a1_1) = true := bne_iff_ne.mpr c4; obtain rfl := Option.some.inj H
   go_enter Try.func92, Try.ntmps92
   go_wp2_with (first | ((with_reducible refine gate_dst (N := 2) rfl ?_); refine bz_ 2 ?_; intro gb237 hg w30 hbox hb; obtain ⟨BK237, GW237, GE237, HB⟩ := nb_ hg hbox HB hb; clear hb hbox hg) | ((with_reducible refine gate_dst (N := 3) rfl ?_); refine bz_ 3 ?_; intro gb238 hg w31 hbox hb; obtain ⟨BK238, GW238, GE238, HB⟩ := nb_ hg hbox HB hb; have NB237_238 := nx_ hg BK237; have NB238_237 := ny_ hg BK237; replace BK237 := bb_ BK237 hb; clear hb hbox hg; have hnb32 := NB237_238.out; have hnc32 := NB238_237.out; have hcz33 := box13_ BK237.out; have hcz34 := box13_ BK238.out))
   go_ret
   exact rt_ HB.out
 ·
  rw [if_neg c3] at H; have c3b0 : (a0_0 == a1_0) = false := beq_eq_false_iff_ne.mpr c3; have c3b1 : (a0_0 != a1_0) = true := bne_iff_ne.mpr c3; obtain rfl := Option.some.inj H
  go_enter Try.func92, Try.ntmps92
  go_wp2_with (first | ((with_reducible refine gate_dst (N := 2) rfl ?_); refine bz_ 2 ?_; intro gb237 hg w35 hbox hb; obtain ⟨BK237, GW237, GE237, HB⟩ := nb_ hg hbox HB hb; clear hb hbox hg) | ((with_reducible refine gate_dst (N := 3) rfl ?_); refine bz_ 3 ?_; intro gb238 hg w36 hbox hb; obtain ⟨BK238, GW238, GE238, HB⟩ := nb_ hg hbox HB hb; have NB237_238 := nx_ hg BK237; have NB238_237 := ny_ hg BK237; replace BK237 := bb_ BK237 hb; clear hb hbox hg; have hnb37 := NB237_238.out; have hnc37 := NB238_237.out; have hcz38 := box13_ BK237.out; have hcz39 := box13_ BK238.out))
  go_ret
  exact rt_ HB.out

/-! ### laws_eqRequestS: function 76 -/
def laws_eqRequestS.l0 : Nat → List (S95) → List (S95) → Int → Option (Bool)
 | 0, _, _, _ => none
 | k + 1, x0, x1, x5 => if x5 < (x0.length : Int) then (if 0 ≤ x5 then (if x5 < (x1.length : Int) then ((laws_eqRequest.f k ((rd_T95 x0 x5).f0) ((rd_T95 x0 x5).f1) ((rd_T95 x0 x5).f2.f0.f0.f0) ((rd_T95 x0 x5).f2.f0.f0.f1) ((rd_T95 x0 x5).f2.f0.f0.f2) ((rd_T95 x0 x5).f2.f0.f1) ((rd_T95 x0 x5).f2.f1) ((rd_T95 x0 x5).f2.f2.f0.f0) ((rd_T95 x0 x5).f2.f2.f0.f1) ((rd_T95 x0 x5).f2.f2.f0.f2) ((rd_T95 x0 x5).f2.f2.f1) ((rd_T95 x0 x5).f2.f3) ((rd_T95 x0 x5).f3) ((rd_T95 x1 x5).f0) ((rd_T95 x1 x5).f1) ((rd_T95 x1 x5).f2.f0.f0.f0) ((rd_T95 x1 x5).f2.f0.f0.f1) ((rd_T95 x1 x5).f2.f0.f0.f2) ((rd_T95 x1 x5).f2.f0.f1) ((rd_T95 x1 x5).f2.f1) ((rd_T95 x1 x5).f2.f2.f0.f0) ((rd_T95 x1 x5).f2.f2.f0.f1) ((rd_T95 x1 x5).f2.f2.f0.f2) ((rd_T95 x1 x5).f2.f2.f1) ((rd_T95 x1 x5).f2.f3) ((rd_T95 x1 x5).f3)).bind fun t242 => (if t242 = true then (laws_eqRequestS.l0 k x0 x1 (wrap64 (x5 + 1))) else (some false))) else (none)) else (none)) else (some true)
def laws_eqRequestS.f (k : Nat) (l0 : List (S95)) (l1 : List (S95)) : Option (Bool) := if (l0.length : Int) = (l1.length : Int) then (laws_eqRequestS.l0 k l0 l1 0) else (some false)
def laws_eqRequestS.T6 : Bool × List (List Nat × List Nat) := (true, [([], []), ([], []), ([0, 1], [0, 1]), ([2], [2]), ([], []), ([], []), ([4, 5], [4, 5]), ([6], [6]), ([3, 7], [3, 7]), ([8], [8])])
def laws_eqRequestS.B6 : List Nat := [0, 0, 3, 7, 0, 0, 48, 112, 255, 511]
theorem laws_eqRequestS.tab6 : rtab .any (opsOf Try.f76 6) = laws_eqRequestS.T6 := by kernel_rfl
theorem laws_eqRequestS.bits6 : waitsOk laws_eqRequestS.T6.2 laws_eqRequestS.B6 = true := by kernel_rfl
set_option maxHeartbeats 8000000 in
set_option maxRecDepth 100000 in
theorem laws_eqRequestS.calls {k : Nat} {A0 : Option Addr} {c0 : Nat} {l0 : List (S95)} {A1 : Option Addr} {c1 : Nat} {l1 : List (S95)} {r : Bool} {w : World} (hr0 : Kd.C k95 w A0 l0.length l0) (hc0 : l0.length ≤ c0) (hr1 : Kd.C k95 w A1 l1.length l1) (hc1 : l1.length ≤ c1) (h : laws_eqRequestS.f k l0 l1 = some r) :
  Calls Try.prog 76 #[.slice A0 l0.length c0, .slice A1 l1.length c1] w fun e w' => e = .returned (.bool r) ∧ Below w.heap.size w w' := by
 have hu95 := Try.underlying95; have HR0 := Aside0.mk hr0; have HC0 := Aside0.mk hc0; clear hr0 hc0; have HR1 := Aside0.mk hr1; have HC1 := Aside0.mk hc1; clear hr1 hc1; have HB := Aside0.mk (Below.refl w.heap.size w); have H : (if (l0.length : Int) = (l1.length : Int) then (laws_eqRequestS.l0 k l0 l1 0) else (some false)) = some r := h; clear h
 by_cases c3 : (l0.length : Int) = (l1.length : Int)
 ·
  rw [if_pos c3] at H; have c3b0 : ((l0.length : Int) == (l1.length : Int)) = true := beq_iff_eq.mpr c3; have c3b1 : ((l0.length : Int) != (l1.length : Int)) = false := bne_eq_false_iff_eq.mpr c3; have c3b2 : (l0.length == l1.length) = true := by first | simpa using c3 | (simp at c3 ⊢; omega)
  clear c3; have H' := Aside0.mk H; clear H
  go_enter Try.func76, Try.ntmps76
  go_wp2
  go_loopg [5] k (fun kq v5 w' => ∃ (x5_1 : Int), v5 = .int .i64 x5_1 ∧ Aside0 (laws_eqRequestS.l0 kq l0 l1 x5_1 = some r) ∧ Aside0 (kq ≤ k) ∧ Aside0 (Below w.heap.size w w'))
  case atStart => exact ⟨(0), (by first | rfl | (simp; done) | (simp [*]; done)), H', ⟨Nat.le_refl _⟩, ⟨be_ HB.out⟩⟩
  case round =>
   clear H'; (try clear c1); (try clear p2); (try clear c3); (try clear c3b0); (try clear c3b1); (try clear c3b2); obtain ⟨x5_1, rfl, HA, HK1, HB⟩ := hrel
   cases gk with
   | zero => exact absurd HA.out (by simp [laws_eqRequestS.l0])
   | succ k1 =>
    have H := HA.out; clear HA; simp only [laws_eqRequestS.l0] at H
    by_cases c4 : x5_1 < (l0.length : Int)
    ·
     rw [if_pos c4] at H; have c4b0 : decide (x5_1 < (l0.length : Int)) = true := decide_eq_true c4; clear c4
     by_cases c5 : 0 ≤ x5_1
     ·
      rw [if_pos c5] at H; have c5b0 : decide (0 ≤ x5_1) = true := decide_eq_true c5; clear c5
      by_cases c6 : x5_1 < (l1.length : Int)
      ·
       rw [if_pos c6] at H; have c6b0 : decide (x5_1 < (l1.length : Int)) = true := decide_eq_true c6; clear c6; obtain ⟨t242, A7, H⟩ := bo_ H; (try dsimp only at H)
       by_cases c8 : t242 = true
       ·
        subst c8; rw [if_pos rfl] at H; have H' := Aside0.mk H; clear H
        try go_wp2
        replace HB := Aside0.mk (below_drew1 HB.out); have p240 : 0 ≤ (x5_1 : Int) := od_; have q240 : x5_1 < (l0.length : Int) := od_; obtain ⟨ad240, A240_5, c240_5, A240_10, c240_10, e240, hx240_0, hx240_1, hx240_2, hx240_3, hx240_4, hx240_5, hx240_6, hx240_7, hx240_8, hx240_9, hx240_10, hx240_11, hx240_12, hl240_5, hi240_5, hl240_10, hi240_10⟩ := at_T95 HR0.out x5_1 p240 q240; have hw240_12 := hx240_12; have hw240_11 := hx240_11; have hw240_10 := hx240_10; have hw240_9 := hx240_9; have hw240_8 := hx240_8; have hw240_7 := hx240_7; have hw240_6 := hx240_6; have hw240_5 := hx240_5; have hw240_4 := hx240_4; have hw240_3 := hx240_3; have hw240_2 := hx240_2; have hw240_1 := hx240_1; have hw240_0 := hx240_0
        cases e240
        replace hx240_0 := cw_ HB.out hx240_0; replace hx240_1 := cw_ HB.out hx240_1; replace hx240_2 := cw_ HB.out hx240_2; replace hx240_3 := cw_ HB.out hx240_3; replace hx240_4 := cw_ HB.out hx240_4; replace hx240_5 := cw_ HB.out hx240_5; replace hx240_6 := cw_ HB.out hx240_6; replace hx240_7 := cw_ HB.out hx240_7; replace hx240_8 := cw_ HB.out hx240_8; replace hx240_9 := cw_ HB.out hx240_9; replace hx240_10 := cw_ HB.out hx240_10; replace hx240_11 := cw_ HB.out hx240_11; replace hx240_12 := cw_ HB.out hx240_12; have HR240_5 := Aside0.mk hi240_5; have HC240_5 := Aside0.mk hl240_5; clear hi240_5 hl240_5; have HR240_10 := Aside0.mk hi240_10; have HC240_10 := Aside0.mk hl240_10; clear hi240_10 hl240_10; replace p240 := eq_true p240; replace q240 := eq_true q240; have p241 : 0 ≤ (x5_1 : Int) := od_; have q241 : x5_1 < (l1.length : Int) := od_; obtain ⟨ad241, A241_5, c241_5, A241_10, c241_10, e241, hx241_0, hx241_1, hx241_2, hx241_3, hx241_4, hx241_5, hx241_6, hx241_7, hx241_8, hx241_9, hx241_10, hx241_11, hx241_12, hl241_5, hi241_5, hl241_10, hi241_10⟩ := at_T95 HR1.out x5_1 p241 q241; have hw241_12 := hx241_12; have hw241_11 := hx241_11; have hw241_10 := hx241_10; have hw241_9 := hx241_9; have hw241_8 := hx241_8; have hw241_7 := hx241_7; have hw241_6 := hx241_6; have hw241_5 := hx241_5; have hw241_4 := hx241_4; have hw241_3 := hx241_3; have hw241_2 := hx241_2; have hw241_1 := hx241_1; have hw241_0 := hx241_0
        cases e241
        replace hx241_0 := cw_ HB.out hx241_0; replace hx241_1 := cw_ HB.out hx241_1; replace hx241_2 := cw_ HB.out hx241_2; replace hx241_3 := cw_ HB.out hx241_3; replace hx241_4 := cw_ HB.out hx241_4; replace hx241_5 := cw_ HB.out hx241_5; replace hx241_6 := cw_ HB.out hx241_6; replace hx241_7 := cw_ HB.out hx241_7; replace hx241_8 := cw_ HB.out hx241_8; replace hx241_9 := cw_ HB.out hx241_9; replace hx241_10 := cw_ HB.out hx241_10; replace hx241_11 := cw_ HB.out hx241_11; replace hx241_12 := cw_ HB.out hx241_12; have HR241_5 := Aside0.mk hi241_5; have HC241_5 := Aside0.mk hl241_5; clear hi241_5 hl241_5; have HR241_10 := Aside0.mk hi241_10; have HC241_10 := Aside0.mk hl241_10; clear hi241_10 hl241_10; replace p241 := eq_true p241; replace q241 := eq_true q241; refine sta_ 10 (fun w' => w'.cell? (ad240.add ((x5_1).toNat * 13)) = some (.int .i64 ((rd_T95 l0 x5_1).f0)) ∧ CF_ w' (ad240.add ((x5_1).toNat * 13)) 1 (.int .i64 ((rd_T95 l0 x5_1).f1)) ∧ CF_ w' (ad240.add ((x5_1).toNat * 13)) 2 (.int .i64 ((rd_T95 l0 x5_1).f2.f0.f0.f0)) ∧ CF_ w' (ad240.add ((x5_1).toNat * 13)) 3 (.int .i64 ((rd_T95 l0 x5_1).f2.f0.f0.f1)) ∧ CF_ w' (ad240.add ((x5_1).toNat * 13)) 4 (.int .i64 ((rd_T95 l0 x5_1).f2.f0.f0.f2)) ∧ CF_ w' (ad240.add ((x5_1).toNat * 13)) 5 (.slice A240_5 ((rd_T95 l0 x5_1).f2.f0.f1).length c240_5) ∧ CF_ w' (ad240.add ((x5_1).toNat * 13)) 6 (.int .i64 ((rd_T95 l0 x5_1).f2.f1)) ∧ CF_ w' (ad240.add ((x5_1).toNat * 13)) 7 (.int .i64 ((rd_T95 l0 x5_1).f2.f2.f0.f0)) ∧ CF_ w' (ad240.add ((x5_1).toNat * 13)) 8 (.int .i64 ((rd_T95 l0 x5_1).f2.f2.f0.f1)) ∧ CF_ w' (ad240.add ((x5_1).toNat * 13)) 9 (.int .i64 ((rd_T95 l0 x5_1).f2.f2.f0.f2)) ∧ CF_ w' (ad240.add ((x5_1).toNat * 13)) 10 (.slice A240_10 ((rd_T95 l0 x5_1).f2.f2.f1).length c240_10) ∧ CF_ w' (ad240.add ((x5_1).toNat * 13)) 11 (.int .i64 ((rd_T95 l0 x5_1).f2.f3)) ∧ CF_ w' (ad240.add ((x5_1).toNat * 13)) 12 (.int .i64 ((rd_T95 l0 x5_1).f3)) ∧ w'.cell? (ad241.add ((x5_1).toNat * 13)) = some (.int .i64 ((rd_T95 l1 x5_1).f0)) ∧ CF_ w' (ad241.add ((x5_1).toNat * 13)) 1 (.int .i64 ((rd_T95 l1 x5_1).f1)) ∧ CF_ w' (ad241.add ((x5_1).toNat * 13)) 2 (.int .i64 ((rd_T95 l1 x5_1).f2.f0.f0.f0)) ∧ CF_ w' (ad241.add ((x5_1).toNat * 13)) 3 (.int .i64 ((rd_T95 l1 x5_1).f2.f0.f0.f1)) ∧ CF_ w' (ad241.add ((x5_1).toNat * 13)) 4 (.int .i64 ((rd_T95 l1 x5_1).f2.f0.f0.f2)) ∧ CF_ w' (ad241.add ((x5_1).toNat * 13)) 5 (.slice A241_5 ((rd_T95 l1 x5_1).f2.f0.f1).length c241_5) ∧ CF_ w' (ad241.add ((x5_1).toNat * 13)) 6 (.int .i64 ((rd_T95 l1 x5_1).f2.f1)) ∧ CF_ w' (ad241.add ((x5_1).toNat * 13)) 7 (.int .i64 ((rd_T95 l1 x5_1).f2.f2.f0.f0)) ∧ CF_ w' (ad241.add ((x5_1).toNat * 13)) 8 (.int .i64 ((rd_T95 l1 x5_1).f2.f2.f0.f1)) ∧ CF_ w' (ad241.add ((x5_1).toNat * 13)) 9 (.int .i64 ((rd_T95 l1 x5_1).f2.f2.f0.f2)) ∧ CF_ w' (ad241.add ((x5_1).toNat * 13)) 10 (.slice A241_10 ((rd_T95 l1 x5_1).f2.f2.f1).length c241_10) ∧ CF_ w' (ad241.add ((x5_1).toNat * 13)) 11 (.int .i64 ((rd_T95 l1 x5_1).f2.f3)) ∧ CF_ w' (ad241.add ((x5_1).toNat * 13)) 12 (.int .i64 ((rd_T95 l1 x5_1).f3))) ⟨(cw_ HB.out hw240_0), (cw_ HB.out hw240_1), (cw_ HB.out hw240_2), (cw_ HB.out hw240_3), (cw_ HB.out hw240_4), (cw_ HB.out hw240_5), (cw_ HB.out hw240_6), (cw_ HB.out hw240_7), (cw_ HB.out hw240_8), (cw_ HB.out hw240_9), (cw_ HB.out hw240_10), (cw_ HB.out hw240_11), (cw_ HB.out hw240_12), (cw_ HB.out hw241_0), (cw_ HB.out hw241_1), (cw_ HB.out hw241_2), (cw_ HB.out hw241_3), (cw_ HB.out hw241_4), (cw_ HB.out hw241_5), (cw_ HB.out hw241_6), (cw_ HB.out hw241_7), (cw_ HB.out hw241_8), (cw_ HB.out hw241_9), (cw_ HB.out hw241_10), (cw_ HB.out hw241_11), (cw_ HB.out hw241_12)⟩ (fun hHeld => ?_); refine with_tabW laws_eqRequestS.tab6 laws_eqRequestS.bits6 (fun HT_ HW_ => ?_); generalize wr.drew = w9 at HB HR240_10 HR240_5 HR241_10 HR241_5 hx240_0 hx240_1 hx240_10 hx240_11 hx240_12 hx240_2 hx240_3 hx240_4 hx240_5 hx240_6 hx240_7 hx240_8 hx240_9 hx241_0 hx241_1 hx241_10 hx241_11 hx241_12 hx241_2 hx241_3 hx241_4 hx241_5 hx241_6 hx241_7 hx241_8 hx241_9 hHeld ⊢; refine pv_ 0 10 1 HT_.out ?_; refine pv_ 1 10 3 HT_.out ?_; refine pv_ 2 10 7 HT_.out ?_; refine pv_ 4 10 23 HT_.out ?_; refine pv_ 5 10 55 HT_.out ?_; refine pv_ 6 10 119 HT_.out ?_; refine tv_ 3 10 127 HT_.out HW_.out hHeld ?_; refine tv_ 7 10 255 HT_.out HW_.out hHeld ?_; refine one_ (i := 8) (N := some 25) (bl_ 10 511) rfl rfl (one_of HT_.out (by kernel_rfl)) (by decide) (fun K hK => ?_); refine ge_ Try.func92 #[.agg #[.int .i64 ((rd_T95 l0 x5_1).f0), .int .i64 ((rd_T95 l0 x5_1).f1), .int .i64 ((rd_T95 l0 x5_1).f2.f0.f0.f0), .int .i64 ((rd_T95 l0 x5_1).f2.f0.f0.f1), .int .i64 ((rd_T95 l0 x5_1).f2.f0.f0.f2), .slice A240_5 ((rd_T95 l0 x5_1).f2.f0.f1).length c240_5, .int .i64 ((rd_T95 l0 x5_1).f2.f1), .int .i64 ((rd_T95 l0 x5_1).f2.f2.f0.f0), .int .i64 ((rd_T95 l0 x5_1).f2.f2.f0.f1), .int .i64 ((rd_T95 l0 x5_1).f2.f2.f0.f2), .slice A240_10 ((rd_T95 l0 x5_1).f2.f2.f1).length c240_10, .int .i64 ((rd_T95 l0 x5_1).f2.f3), .int .i64 ((rd_T95 l0 x5_1).f3)], .agg #[.int .i64 ((rd_T95 l1 x5_1).f0), .int .i64 ((rd_T95 l1 x5_1).f1), .int .i64 ((rd_T95 l1 x5_1).f2.f0.f0.f0), .int .i64 ((rd_T95 l1 x5_1).f2.f0.f0.f1), .int .i64 ((rd_T95 l1 x5_1).f2.f0.f0.f2), .slice A241_5 ((rd_T95 l1 x5_1).f2.f0.f1).length c241_5, .int .i64 ((rd_T95 l1 x5_1).f2.f1), .int .i64 ((rd_T95 l1 x5_1).f2.f2.f0.f0), .int .i64 ((rd_T95 l1 x5_1).f2.f2.f0.f1), .int .i64 ((rd_T95 l1 x5_1).f2.f2.f0.f2), .slice A241_10 ((rd_T95 l1 x5_1).f2.f2.f1).length c241_10, .int .i64 ((rd_T95 l1 x5_1).f2.f3), .int .i64 ((rd_T95 l1 x5_1).f3)]] ?_
        (with_reducible refine (laws_eqRequest.calls ?_ ?_ ?_ ?_ ?_ ?_ ?_ ?_ A7.out).mono ?_); exact cu_ HR240_5.out HB.out; exact HC240_5.out; exact cu_ HR240_10.out HB.out; exact HC240_10.out; exact cu_ HR241_5.out HB.out; exact HC241_5.out; exact cu_ HR241_10.out HB.out; exact HC241_10.out; rintro e w10 ⟨rfl, hb⟩; refine ⟨_, rfl, ?_⟩; replace HB := hb_ HB hb; (try clear hb); refine hK.out _ _ ⟨(cw_ HB.out hw240_0), (cw_ HB.out hw240_1), (cw_ HB.out hw240_2), (cw_ HB.out hw240_3), (cw_ HB.out hw240_4), (cw_ HB.out hw240_5), (cw_ HB.out hw240_6), (cw_ HB.out hw240_7), (cw_ HB.out hw240_8), (cw_ HB.out hw240_9), (cw_ HB.out hw240_10), (cw_ HB.out hw240_11), (cw_ HB.out hw240_12), (cw_ HB.out hw241_0), (cw_ HB.out hw241_1), (cw_ HB.out hw241_2), (cw_ HB.out hw241_3), (cw_ HB.out hw241_4), (cw_ HB.out hw241_5), (cw_ HB.out hw241_6), (cw_ HB.out hw241_7), (cw_ HB.out hw241_8), (cw_ HB.out hw241_9), (cw_ HB.out hw241_10), (cw_ HB.out hw241_11), (cw_ HB.out hw241_12)⟩ (fun hHeld => ?_); clear hK K; refine nm_ 25 (h := ?_); refine pv_ 9 10 1023 HT_.out ?_; refine done_ (done_of HT_.out (by kernel_rfl)) ?_
        try go_wp2
        go_roundg k1
        case measure => have := HK1.out; omega
        case rel => exact ⟨(wrap64 (x5_1 + 1)), (by first | rfl | (simp; done) | (simp [*]; done)), H', ⟨by have := HK1.out; omega⟩, ⟨be_ HB.out⟩⟩
       ·
        replace c8 := Bool.eq_false_iff.mpr c8; subst c8; have H1 : (some false) = some r := by rw [if_neg (show ¬ (false = true) by decide)] at H; exact H
        clear H; have H := H1; clear H1; obtain rfl := Option.some.inj H
        try go_wp2
        replace HB := Aside0.mk (below_drew1 HB.out); have p240 : 0 ≤ (x5_1 : Int) := od_; have q240 : x5_1 < (l0.length : Int) := od_; obtain ⟨ad240, A240_5, c240_5, A240_10, c240_10, e240, hx240_0, hx240_1, hx240_2, hx240_3, hx240_4, hx240_5, hx240_6, hx240_7, hx240_8, hx240_9, hx240_10, hx240_11, hx240_12, hl240_5, hi240_5, hl240_10, hi240_10⟩ := at_T95 HR0.out x5_1 p240 q240; have hw240_12 := hx240_12; have hw240_11 := hx240_11; have hw240_10 := hx240_10; have hw240_9 := hx240_9; have hw240_8 := hx240_8; have hw240_7 := hx240_7; have hw240_6 := hx240_6; have hw240_5 := hx240_5; have hw240_4 := hx240_4; have hw240_3 := hx240_3; have hw240_2 := hx240_2; have hw240_1 := hx240_1; have hw240_0 := hx240_0
        cases e240
        replace hx240_0 := cw_ HB.out hx240_0; replace hx240_1 := cw_ HB.out hx240_1; replace hx240_2 := cw_ HB.out hx240_2; replace hx240_3 := cw_ HB.out hx240_3; replace hx240_4 := cw_ HB.out hx240_4; replace hx240_5 := cw_ HB.out hx240_5; replace hx240_6 := cw_ HB.out hx240_6; replace hx240_7 := cw_ HB.out hx240_7; replace hx240_8 := cw_ HB.out hx240_8; replace hx240_9 := cw_ HB.out hx240_9; replace hx240_10 := cw_ HB.out hx240_10; replace hx240_11 := cw_ HB.out hx240_11; replace hx240_12 := cw_ HB.out hx240_12; have HR240_5 := Aside0.mk hi240_5; have HC240_5 := Aside0.mk hl240_5; clear hi240_5 hl240_5; have HR240_10 := Aside0.mk hi240_10; have HC240_10 := Aside0.mk hl240_10; clear hi240_10 hl240_10; replace p240 := eq_true p240; replace q240 := eq_true q240; have p241 : 0 ≤ (x5_1 : Int) := od_; have q241 : x5_1 < (l1.length : Int) := od_; obtain ⟨ad241, A241_5, c241_5, A241_10, c241_10, e241, hx241_0, hx241_1, hx241_2, hx241_3, hx241_4, hx241_5, hx241_6, hx241_7, hx241_8, hx241_9, hx241_10, hx241_11, hx241_12, hl241_5, hi241_5, hl241_10, hi241_10⟩ := at_T95 HR1.out x5_1 p241 q241; have hw241_12 := hx241_12; have hw241_11 := hx241_11; have hw241_10 := hx241_10; have hw241_9 := hx241_9; have hw241_8 := hx241_8; have hw241_7 := hx241_7; have hw241_6 := hx241_6; have hw241_5 := hx241_5; have hw241_4 := hx241_4; have hw241_3 := hx241_3; have hw241_2 := hx241_2; have hw241_1 := hx241_1; have hw241_0 := hx241_0
        cases e241
        replace hx241_0 := cw_ HB.out hx241_0; replace hx241_1 := cw_ HB.out hx241_1; replace hx241_2 := cw_ HB.out hx241_2; replace hx241_3 := cw_ HB.out hx241_3; replace hx241_4 := cw_ HB.out hx241_4; replace hx241_5 := cw_ HB.out hx241_5; replace hx241_6 := cw_ HB.out hx241_6; replace hx241_7 := cw_ HB.out hx241_7; replace hx241_8 := cw_ HB.out hx241_8; replace hx241_9 := cw_ HB.out hx241_9; replace hx241_10 := cw_ HB.out hx241_10; replace hx241_11 := cw_ HB.out hx241_11; replace hx241_12 := cw_ HB.out hx241_12; have HR241_5 := Aside0.mk hi241_5; have HC241_5 := Aside0.mk hl241_5; clear hi241_5 hl241_5; have HR241_10 := Aside0.mk hi241_10; have HC241_10 := Aside0.mk hl241_10; clear hi241_10 hl241_10; replace p241 := eq_true p241; replace q241 := eq_true q241; refine sta_ 10 (fun w' => w'.cell? (ad240.add ((x5_1).toNat * 13)) = some (.int .i64 ((rd_T95 l0 x5_1).f0)) ∧ CF_ w' (ad240.add ((x5_1).toNat * 13)) 1 (.int .i64 ((rd_T95 l0 x5_1).f1)) ∧ CF_ w' (ad240.add ((x5_1).toNat * 13)) 2 (.int .i64 ((rd_T95 l0 x5_1).f2.f0.f0.f0)) ∧ CF_ w' (ad240.add ((x5_1).toNat * 13)) 3 (.int .i64 ((rd_T95 l0 x5_1).f2.f0.f0.f1)) ∧ CF_ w' (ad240.add ((x5_1).toNat * 13)) 4 (.int .i64 ((rd_T95 l0 x5_1).f2.f0.f0.f2)) ∧ CF_ w' (ad240.add ((x5_1).toNat * 13)) 5 (.slice A240_5 ((rd_T95 l0 x5_1).f2.f0.f1).length c240_5) ∧ CF_ w' (ad240.add ((x5_1).toNat * 13)) 6 (.int .i64 ((rd_T95 l0 x5_1).f2.f1)) ∧ CF_ w' (ad240.add ((x5_1).toNat * 13)) 7 (.int .i64 ((rd_T95 l0 x5_1).f2.f2.f0.f0)) ∧ CF_ w' (ad240.add ((x5_1).toNat * 13)) 8 (.int .i64 ((rd_T95 l0 x5_1).f2.f2.f0.f1)) ∧ CF_ w' (ad240.add ((x5_1).toNat * 13)) 9 (.int .i64 ((rd_T95 l0 x5_1).f2.f2.f0.f2)) ∧ CF_ w' (ad240.add ((x5_1).toNat * 13)) 10 (.slice A240_10 ((rd_T95 l0 x5_1).f2.f2.f1).length c240_10) ∧ CF_ w' (ad240.add ((x5_1).toNat * 13)) 11 (.int .i64 ((rd_T95 l0 x5_1).f2.f3)) ∧ CF_ w' (ad240.add ((x5_1).toNat * 13)) 12 (.int .i64 ((rd_T95 l0 x5_1).f3)) ∧ w'.cell? (ad241.add ((x5_1).toNat * 13)) = some (.int .i64 ((rd_T95 l1 x5_1).f0)) ∧ CF_ w' (ad241.add ((x5_1).toNat * 13)) 1 (.int .i64 ((rd_T95 l1 x5_1).f1)) ∧ CF_ w' (ad241.add ((x5_1).toNat * 13)) 2 (.int .i64 ((rd_T95 l1 x5_1).f2.f0.f0.f0)) ∧ CF_ w' (ad241.add ((x5_1).toNat * 13)) 3 (.int .i64 ((rd_T95 l1 x5_1).f2.f0.f0.f1)) ∧ CF_ w' (ad241.add ((x5_1).toNat * 13)) 4 (.int .i64 ((rd_T95 l1 x5_1).f2.f0.f0.f2)) ∧ CF_ w' (ad241.add ((x5_1).toNat * 13)) 5 (.slice A241_5 ((rd_T95 l1 x5_1).f2.f0.f1).length c241_5) ∧ CF_ w' (ad241.add ((x5_1).toNat * 13)) 6 (.int .i64 ((rd_T95 l1 x5_1).f2.f1)) ∧ CF_ w' (ad241.add ((x5_1).toNat * 13)) 7 (.int .i64 ((rd_T95 l1 x5_1).f2.f2.f0.f0)) ∧ CF_ w' (ad241.add ((x5_1).toNat * 13)) 8 (.int .i64 ((rd_T95 l1 x5_1).f2.f2.f0.f1)) ∧ CF_ w' (ad241.add ((x5_1).toNat * 13)) 9 (.int .i64 ((rd_T95 l1 x5_1).f2.f2.f0.f2)) ∧ CF_ w' (ad241.add ((x5_1).toNat * 13)) 10 (.slice A241_10 ((rd_T95 l1 x5_1).f2.f2.f1).length c241_10) ∧ CF_ w' (ad241.add ((x5_1).toNat * 13)) 11 (.int .i64 ((rd_T95 l1 x5_1).f2.f3)) ∧ CF_ w' (ad241.add ((x5_1).toNat * 13)) 12 (.int .i64 ((rd_T95 l1 x5_1).f3))) ⟨(cw_ HB.out hw240_0), (cw_ HB.out hw240_1), (cw_ HB.out hw240_2), (cw_ HB.out hw240_3), (cw_ HB.out hw240_4), (cw_ HB.out hw240_5), (cw_ HB.out hw240_6), (cw_ HB.out hw240_7), (cw_ HB.out hw240_8), (cw_ HB.out hw240_9), (cw_ HB.out hw240_10), (cw_ HB.out hw240_11), (cw_ HB.out hw240_12), (cw_ HB.out hw241_0), (cw_ HB.out hw241_1), (cw_ HB.out hw241_2), (cw_ HB.out hw241_3), (cw_ HB.out hw241_4), (cw_ HB.out hw241_5), (cw_ HB.out hw241_6), (cw_ HB.out hw241_7), (cw_ HB.out hw241_8), (cw_ HB.out hw241_9), (cw_ HB.out hw241_10), (cw_ HB.out hw241_11), (cw_ HB.out hw241_12)⟩ (fun hHeld => ?_); refine with_tabW laws_eqRequestS.tab6 laws_eqRequestS.bits6 (fun HT_ HW_ => ?_); generalize wr.drew = w11 at HB HR240_10 HR240_5 HR241_10 HR241_5 hx240_0 hx240_1 hx240_10 hx240_11 hx240_12 hx240_2 hx240_3 hx240_4 hx240_5 hx240_6 hx240_7 hx240_8 hx240_9 hx241_0 hx241_1 hx241_10 hx241_11 hx241_12 hx241_2 hx241_3 hx241_4 hx241_5 hx241_6 hx241_7 hx241_8 hx241_9 hHeld ⊢; refine pv_ 0 10 1 HT_.out ?_; refine pv_ 1 10 3 HT_.out ?_; refine pv_ 2 10 7 HT_.out ?_; refine pv_ 4 10 23 HT_.out ?_; refine pv_ 5 10 55 HT_.out ?_; refine pv_ 6 10 119 HT_.out ?_; refine tv_ 3 10 127 HT_.out HW_.out hHeld ?_; refine tv_ 7 10 255 HT_.out HW_.out hHeld ?_; refine one_ (i := 8) (N := some 25) (bl_ 10 511) rfl rfl (one_of HT_.out (by kernel_rfl)) (by decide) (fun K hK => ?_); refine ge_ Try.func92 #[.agg #[.int .i64 ((rd_T95 l0 x5_1).f0), .int .i64 ((rd_T95 l0 x5_1).f1), .int .i64 ((rd_T95 l0 x5_1).f2.f0.f0.f0), .int .i64 ((rd_T95 l0 x5_1).f2.f0.f0.f1), .int .i64 ((rd_T95 l0 x5_1).f2.f0.f0.f2), .slice A240_5 ((rd_T95 l0 x5_1).f2.f0.f1).length c240_5, .int .i64 ((rd_T95 l0 x5_1).f2.f1), .int .i64 ((rd_T95 l0 x5_1).f2.f2.f0.f0), .int .i64 ((rd_T95 l0 x5_1).f2.f2.f0.f1), .int .i64 ((rd_T95 l0 x5_1).f2.f2.f0.f2), .slice A240_10 ((rd_T95 l0 x5_1).f2.f2.f1).length c240_10, .int .i64 ((rd_T95 l0 x5_1).f2.f3), .int .i64 ((rd_T95 l0 x5_1).f3)], .agg #[.int .i64 ((rd_T95 l1 x5_1).f0), .int .i64 ((rd_T95 l1 x5_1).f1), .int .i64 ((rd_T95 l1 x5_1).f2.f0.f0.f0), .int .i64 ((rd_T95 l1 x5_1).f2.f0.f0.f1), .int .i64 ((rd_T95 l1 x5_1).f2.f0.f0.f2), .slice A241_5 ((rd_T95 l1 x5_1).f2.f0.f1).length c241_5, .int .i64 ((rd_T95 l1 x5_1).f2.f1), .int .i64 ((rd_T95 l1 x5_1).f2.f2.f0.f0), .int .i64 ((rd_T95 l1 x5_1).f2.f2.f0.f1), .int .i64 ((rd_T95 l1 x5_1).f2.f2.f0.f2), .slice A241_10 ((rd_T95 l1 x5_1).f2.f2.f1).length c241_10, .int .i64 ((rd_T95 l1 x5_1).f2.f3), .int .i64 ((rd_T95 l1 x5_1).f3)]] ?_
        (with_reducible refine (laws_eqRequest.calls ?_ ?_ ?_ ?_ ?_ ?_ ?_ ?_ A7.out).mono ?_); exact cu_ HR240_5.out HB.out; exact HC240_5.out; exact cu_ HR240_10.out HB.out; exact HC240_10.out; exact cu_ HR241_5.out HB.out; exact HC241_5.out; exact cu_ HR241_10.out HB.out; exact HC241_10.out; rintro e w12 ⟨rfl, hb⟩; refine ⟨_, rfl, ?_⟩; replace HB := hb_ HB hb; (try clear hb); refine hK.out _ _ ⟨(cw_ HB.out hw240_0), (cw_ HB.out hw240_1), (cw_ HB.out hw240_2), (cw_ HB.out hw240_3), (cw_ HB.out hw240_4), (cw_ HB.out hw240_5), (cw_ HB.out hw240_6), (cw_ HB.out hw240_7), (cw_ HB.out hw240_8), (cw_ HB.out hw240_9), (cw_ HB.out hw240_10), (cw_ HB.out hw240_11), (cw_ HB.out hw240_12), (cw_ HB.out hw241_0), (cw_ HB.out hw241_1), (cw_ HB.out hw241_2), (cw_ HB.out hw241_3), (cw_ HB.out hw241_4), (cw_ HB.out hw241_5), (cw_ HB.out hw241_6), (cw_ HB.out hw241_7), (cw_ HB.out hw241_8), (cw_ HB.out hw241_9), (cw_ HB.out hw241_10), (cw_ HB.out hw241_11), (cw_ HB.out hw241_12)⟩ (fun hHeld => ?_); clear hK K; refine nm_ 25 (h := ?_); refine pv_ 9 10 1023 HT_.out ?_; refine done_ (done_of HT_.out (by kernel_rfl)) ?_
        try go_wp2
        go_ret
        exact rt_ HB.out
      ·
       rw [if_neg c6] at H; exact absurd H (by simp)
     ·
      rw [if_neg c5] at H; exact absurd H (by simp)
    ·
     rw [if_neg c4] at H; have c4b0 : decide (x5_1 < (l0.length : Int)) = false := decide_eq_false c4; clear c4; obtain rfl := Option.some.inj H
     go_wp2
     go_ret
     exact rt_ HB.out
 ·
  rw [if_neg c3] at H; have c3b0 : ((l0.length : Int) == (l1.length : Int)) = false := beq_eq_false_iff_ne.mpr c3; have c3b1 : ((l0.length : Int) != (l1.length : Int)) = true := bne_iff_ne.mpr c3; have c3b2 : (l0.length == l1.length) = false := by first | simpa using c3 | (simp at c3 ⊢; omega)
  obtain rfl := Option.some.inj H
  go_enter Try.func76, Try.ntmps76
  go_wp2
  go_ret
  exact rt_ HB.out

/-! ### laws_eqRuntime: function 47 -/
def laws_eqRuntime.f (k : Nat) (a0_0 : Int) (a0_1 : Int) (a0_2 : Int) (l0_3 : List (S27)) (a0_4 : Int) (a0_5 : Int) (a0_6 : Int) (a0_7 : Int) (l0_8 : List (S88)) (l0_9 : List Bool) (l0_10 : List (S95)) (a1_0 : Int) (a1_1 : Int) (a1_2 : Int) (l1_3 : List (S27)) (a1_4 : Int) (a1_5 : Int) (a1_6 : Int) (a1_7 : Int) (l1_8 : List (S88)) (l1_9 : List Bool) (l1_10 : List (S95)) : Option (Bool) := (laws_eqSched.f k a0_0 a0_1 a0_2 l0_3 a0_4 a0_5 a0_6 a0_7 a1_0 a1_1 a1_2 l1_3 a1_4 a1_5 a1_6 a1_7).bind fun t245 => (if t245 = true then ((laws_eqModelS.f k l0_8 l1_8).bind fun t246 => (if t246 = true then ((laws_eqBoolS.f k l0_9 l1_9).bind fun t247 => (if t247 = true then ((laws_eqRequestS.f k l0_10 l1_10).bind fun t248 => (if t248 = true then (some true) else (some false))) else (some false))) else (some false))) else (some false))
set_option maxHeartbeats 8000000 in
set_option maxRecDepth 100000 in
theorem laws_eqRuntime.calls {k : Nat} {a0_0 : Int} {a0_1 : Int} {a0_2 : Int} {A0_3 : Option Addr} {c0_3 : Nat} {l0_3 : List (S27)} {a0_4 : Int} {a0_5 : Int} {a0_6 : Int} {a0_7 : Int} {A0_8 : Option Addr} {c0_8 : Nat} {l0_8 : List (S88)} {A0_9 : Option Addr} {c0_9 : Nat} {l0_9 : List Bool} {A0_10 : Option Addr} {c0_10 : Nat} {l0_10 : List (S95)} {a1_0 : Int} {a1_1 : Int} {a1_2 : Int} {A1_3 : Option Addr} {c1_3 : Nat} {l1_3 : List (S27)} {a1_4 : Int} {a1_5 : Int} {a1_6 : Int} {a1_7 : Int} {A1_8 : Option Addr} {c1_8 : Nat} {l1_8 : List (S88)} {A1_9 : Option Addr} {c1_9 : Nat} {l1_9 : List Bool} {A1_10 : Option Addr} {c1_10 : Nat} {l1_10 : List (S95)} {r : Bool} {w : World} (hr0_3 : Kd.C k27 w A0_3 l0_3.length l0_3) (hc0_3 : l0_3.length ≤ c0_3) (hr0_8 : Kd.C k88 w A0_8 l0_8.length l0_8) (hc0_8 : l0_8.length ≤ c0_8) (hr0_9 : Kd.C Kd.bool w A0_9 l0_9.length l0_9) (hc0_9 : l0_9.length ≤ c0_9) (hr0_10 : Kd.C k95 w A0_10 l0_10.length l0_10) (hc0_10 : l0_10.length ≤ c0_10) (hr1_3 : Kd.C k27 w A1_3 l1_3.length l1_3) (hc1_3 : l1_3.length ≤ c1_3) (hr1_8 : Kd.C k88 w A1_8 l1_8.length l1_8) (hc1_8 : l1_8.length ≤ c1_8) (hr1_9 : Kd.C Kd.bool w A1_9 l1_9.length l1_9) (hc1_9 : l1_9.length ≤ c1_9) (hr1_10 : Kd.C k95 w A1_10 l1_10.length l1_10) (hc1_10 : l1_10.length ≤ c1_10) (h : laws_eqRuntime.f k a0_0 a0_1 a0_2 l0_3 a0_4 a0_5 a0_6 a0_7 l0_8 l0_9 l0_10 a1_0 a1_1 a1_2 l1_3 a1_4 a1_5 a1_6 a1_7 l1_8 l1_9 l1_10 = some r) :
  Calls Try.prog 47 #[.agg #[.int .i64 a0_0, .int .i64 a0_1, .int .i64 a0_2, .slice A0_3 l0_3.length c0_3, .int .i64 a0_4, .int .i64 a0_5, .int .i64 a0_6, .int .i64 a0_7, .slice A0_8 l0_8.length c0_8, .slice A0_9 l0_9.length c0_9, .slice A0_10 l0_10.length c0_10], .agg #[.int .i64 a1_0, .int .i64 a1_1, .int .i64 a1_2, .slice A1_3 l1_3.length c1_3, .int .i64 a1_4, .int .i64 a1_5, .int .i64 a1_6, .int .i64 a1_7, .slice A1_8 l1_8.length c1_8, .slice A1_9 l1_9.length c1_9, .slice A1_10 l1_10.length c1_10]] w fun e w' => e = .returned (.bool r) ∧ Below w.heap.size w w' := by
 have hu55 := Try.underlying55; have hu38 := Try.underlying38; have HR0_3 := Aside0.mk hr0_3; have HC0_3 := Aside0.mk hc0_3; clear hr0_3 hc0_3; have HR0_8 := Aside0.mk hr0_8; have HC0_8 := Aside0.mk hc0_8; clear hr0_8 hc0_8; have HR0_9 := Aside0.mk hr0_9; have HC0_9 := Aside0.mk hc0_9; clear hr0_9 hc0_9; have HR0_10 := Aside0.mk hr0_10; have HC0_10 := Aside0.mk hc0_10; clear hr0_10 hc0_10; have HR1_3 := Aside0.mk hr1_3; have HC1_3 := Aside0.mk hc1_3; clear hr1_3 hc1_3; have HR1_8 := Aside0.mk hr1_8; have HC1_8 := Aside0.mk hc1_8; clear hr1_8 hc1_8; have HR1_9 := Aside0.mk hr1_9; have HC1_9 := Aside0.mk hc1_9; clear hr1_9 hc1_9; have HR1_10 := Aside0.mk hr1_10; have HC1_10 := Aside0.mk hc1_10; clear hr1_10 hc1_10; have HB := Aside0.mk (Below.refl w.heap.size w); have H : ((laws_eqSched.f k a0_0 a0_1 a0_2 l0_3 a0_4 a0_5 a0_6 a0_7 a1_0 a1_1 a1_2 l1_3 a1_4 a1_5 a1_6 a1_7).bind fun t245 => (if t245 = true then ((laws_eqModelS.f k l0_8 l1_8).bind fun t246 => (if t246 = true then ((laws_eqBoolS.f k l0_9 l1_9).bind fun t247 => (if t247 = true then ((laws_eqRequestS.f k l0_10 l1_10).bind fun t248 => (if t248 = true then (some true) else (some false))) else (some false))) else (some false))) else (some false))) = some r := h; clear h; obtain ⟨t245, A3, H⟩ := bo_ H; (try dsimp only at H)
 by_cases c4 : t245 = true
 ·
  subst c4; rw [if_pos rfl] at H; obtain ⟨t246, A5, H⟩ := bo_ H; (try dsimp only at H)
  by_cases c6 : t246 = true
  ·
   subst c6; rw [if_pos rfl] at H; obtain ⟨t247, A7, H⟩ := bo_ H; (try dsimp only at H)
   by_cases c8 : t247 = true
   ·
    subst c8; rw [if_pos rfl] at H; obtain ⟨t248, A9, H⟩ := bo_ H; (try dsimp only at H)
    by_cases c10 : t248 = true
    ·
     subst c10; rw [if_pos rfl] at H; obtain rfl := Option.some.inj H
     go_enter Try.func47, Try.ntmps47
     go_wp2_with (first | ((with_reducible refine gate_dst (N := 2) rfl ?_); refine bz_ 2 ?_; intro gb243 hg w11 hbox hb; obtain ⟨BK243, GW243, GE243, HB⟩ := nb_ hg hbox HB hb; clear hb hbox hg) | ((with_reducible refine gate_dst (N := 3) rfl ?_); refine bz_ 3 ?_; intro gb244 hg w12 hbox hb; obtain ⟨BK244, GW244, GE244, HB⟩ := nb_ hg hbox HB hb; have NB243_244 := nx_ hg BK243; have NB244_243 := ny_ hg BK243; replace BK243 := bb_ BK243 hb; clear hb hbox hg; have hnb13 := NB243_244.out; have hnc13 := NB244_243.out; have hcz14 := box11_ BK243.out; have hcz15 := box11_ BK244.out) | ((with_reducible refine gc_ 23 ?_); refine gl_ (some 9) Try.func23 #[.agg #[.int .i64 a0_0, .int .i64 a0_1, .int .i64 a0_2, .slice A0_3 l0_3.length c0_3, .int .i64 a0_4, .int .i64 a0_5, .int .i64 a0_6, .int .i64 a0_7], .agg #[.int .i64 a1_0, .int .i64 a1_1, .int .i64 a1_2, .slice A1_3 l1_3.length c1_3, .int .i64 a1_4, .int .i64 a1_5, .int .i64 a1_6, .int .i64 a1_7]] ?_; (with_reducible refine (laws_eqSched.calls ?_ ?_ ?_ ?_ A3.out).mono ?_); exact cu_ HR0_3.out HB.out; exact HC0_3.out; exact cu_ HR1_3.out HB.out; exact HC1_3.out; rintro e w16 ⟨rfl, hb⟩; refine ⟨_, rfl, ?_⟩; replace BK243 := bb_ BK243 hb; replace BK244 := bb_ BK244 hb; replace HB := hb_ HB hb; (try clear hb); have hcz17 := box11_ BK243.out; have hcz18 := box11_ BK244.out) | ((with_reducible refine gc_ 74 ?_); refine gl_ (some 15) Try.func74 #[.slice A0_8 l0_8.length c0_8, .slice A1_8 l1_8.length c1_8] ?_; (with_reducible refine (laws_eqModelS.calls ?_ ?_ ?_ ?_ A5.out).mono ?_); exact cu_ HR0_8.out HB.out; exact HC0_8.out; exact cu_ HR1_8.out HB.out; exact HC1_8.out; rintro e w19 ⟨rfl, hb⟩; refine ⟨_, rfl, ?_⟩; replace BK243 := bb_ BK243 hb; replace BK244 := bb_ BK244 hb; replace HB := hb_ HB hb; (try clear hb); have hcz20 := box11_ BK243.out; have hcz21 := box11_ BK244.out) | ((with_reducible refine gc_ 75 ?_); refine gl_ (some 21) Try.func75 #[.slice A0_9 l0_9.length c0_9, .slice A1_9 l1_9.length c1_9] ?_; (with_reducible refine (laws_eqBoolS.calls ?_ ?_ ?_ ?_ A7.out).mono ?_); exact cu_ HR0_9.out HB.out; exact HC0_9.out; exact cu_ HR1_9.out HB.out; exact HC1_9.out; rintro e w' ⟨rfl, ⟨nd, rfl⟩⟩; refine ⟨_, rfl, ?_⟩) | ((with_reducible refine gc_ 76 ?_); refine gl_ (some 27) Try.func76 #[.slice A0_10 l0_10.length c0_10, .slice A1_10 l1_10.length c1_10] ?_; (with_reducible refine (laws_eqRequestS.calls ?_ ?_ ?_ ?_ A9.out).mono ?_); exact cu_ HR0_10.out HB.out; exact HC0_10.out; exact cu_ HR1_10.out HB.out; exact HC1_10.out; rintro e w22 ⟨rfl, hb⟩; refine ⟨_, rfl, ?_⟩; replace BK243 := bb_ BK243 hb; replace BK244 := bb_ BK244 hb; replace HB := hb_ HB hb; (try clear hb)))
     go_ret
     exact rt_ HB.out
    ·
     replace c10 := Bool.eq_false_iff.mpr c10; subst c10; have H1 : (some false) = some r := by rw [if_neg (show ¬ (false = true) by decide)] at H; exact H
     clear H; have H := H1; clear H1; obtain rfl := Option.some.inj H
     go_enter Try.func47, Try.ntmps47
     go_wp2_with (first | ((with_reducible refine gate_dst (N := 2) rfl ?_); refine bz_ 2 ?_; intro gb243 hg w23 hbox hb; obtain ⟨BK243, GW243, GE243, HB⟩ := nb_ hg hbox HB hb; clear hb hbox hg) | ((with_reducible refine gate_dst (N := 3) rfl ?_); refine bz_ 3 ?_; intro gb244 hg w24 hbox hb; obtain ⟨BK244, GW244, GE244, HB⟩ := nb_ hg hbox HB hb; have NB243_244 := nx_ hg BK243; have NB244_243 := ny_ hg BK243; replace BK243 := bb_ BK243 hb; clear hb hbox hg; have hnb25 := NB243_244.out; have hnc25 := NB244_243.out; have hcz26 := box11_ BK243.out; have hcz27 := box11_ BK244.out) | ((with_reducible refine gc_ 23 ?_); refine gl_ (some 9) Try.func23 #[.agg #[.int .i64 a0_0, .int .i64 a0_1, .int .i64 a0_2, .slice A0_3 l0_3.length c0_3, .int .i64 a0_4, .int .i64 a0_5, .int .i64 a0_6, .int .i64 a0_7], .agg #[.int .i64 a1_0, .int .i64 a1_1, .int .i64 a1_2, .slice A1_3 l1_3.length c1_3, .int .i64 a1_4, .int .i64 a1_5, .int .i64 a1_6, .int .i64 a1_7]] ?_; (with_reducible refine (laws_eqSched.calls ?_ ?_ ?_ ?_ A3.out).mono ?_); exact cu_ HR0_3.out HB.out; exact HC0_3.out; exact cu_ HR1_3.out HB.out; exact HC1_3.out; rintro e w28 ⟨rfl, hb⟩; refine ⟨_, rfl, ?_⟩; replace BK243 := bb_ BK243 hb; replace BK244 := bb_ BK244 hb; replace HB := hb_ HB hb; (try clear hb); have hcz29 := box11_ BK243.out; have hcz30 := box11_ BK244.out) | ((with_reducible refine gc_ 74 ?_); refine gl_ (some 15) Try.func74 #[.slice A0_8 l0_8.length c0_8, .slice A1_8 l1_8.length c1_8] ?_; (with_reducible refine (laws_eqModelS.calls ?_ ?_ ?_ ?_ A5.out).mono ?_); exact cu_ HR0_8.out HB.out; exact HC0_8.out; exact cu_ HR1_8.out HB.out; exact HC1_8.out; rintro e w31 ⟨rfl, hb⟩; refine ⟨_, rfl, ?_⟩; replace BK243 := bb_ BK243 hb; replace BK244 := bb_ BK244 hb; replace HB := hb_ HB hb; (try clear hb); have hcz32 := box11_ BK243.out; have hcz33 := box11_ BK244.out) | ((with_reducible refine gc_ 75 ?_); refine gl_ (some 21) Try.func75 #[.slice A0_9 l0_9.length c0_9, .slice A1_9 l1_9.length c1_9] ?_; (with_reducible refine (laws_eqBoolS.calls ?_ ?_ ?_ ?_ A7.out).mono ?_); exact cu_ HR0_9.out HB.out; exact HC0_9.out; exact cu_ HR1_9.out HB.out; exact HC1_9.out; rintro e w' ⟨rfl, ⟨nd, rfl⟩⟩; refine ⟨_, rfl, ?_⟩) | ((with_reducible refine gc_ 76 ?_); refine gl_ (some 27) Try.func76 #[.slice A0_10 l0_10.length c0_10, .slice A1_10 l1_10.length c1_10] ?_; (with_reducible refine (laws_eqRequestS.calls ?_ ?_ ?_ ?_ A9.out).mono ?_); exact cu_ HR0_10.out HB.out; exact HC0_10.out; exact cu_ HR1_10.out HB.out; exact HC1_10.out; rintro e w34 ⟨rfl, hb⟩; refine ⟨_, rfl, ?_⟩; replace BK243 := bb_ BK243 hb; replace BK244 := bb_ BK244 hb; replace HB := hb_ HB hb; (try clear hb)))
     go_ret
     exact rt_ HB.out
   ·
    replace c8 := Bool.eq_false_iff.mpr c8; subst c8; have H1 : (some false) = some r := by rw [if_neg (show ¬ (false = true) by decide)] at H; exact H
    clear H; have H := H1; clear H1; obtain rfl := Option.some.inj H
    go_enter Try.func47, Try.ntmps47
    go_wp2_with (first | ((with_reducible refine gate_dst (N := 2) rfl ?_); refine bz_ 2 ?_; intro gb243 hg w35 hbox hb; obtain ⟨BK243, GW243, GE243, HB⟩ := nb_ hg hbox HB hb; clear hb hbox hg) | ((with_reducible refine gate_dst (N := 3) rfl ?_); refine bz_ 3 ?_; intro gb244 hg w36 hbox hb; obtain ⟨BK244, GW244, GE244, HB⟩ := nb_ hg hbox HB hb; have NB243_244 := nx_ hg BK243; have NB244_243 := ny_ hg BK243; replace BK243 := bb_ BK243 hb; clear hb hbox hg; have hnb37 := NB243_244.out; have hnc37 := NB244_243.out; have hcz38 := box11_ BK243.out; have hcz39 := box11_ BK244.out) | ((with_reducible refine gc_ 23 ?_); refine gl_ (some 9) Try.func23 #[.agg #[.int .i64 a0_0, .int .i64 a0_1, .int .i64 a0_2, .slice A0_3 l0_3.length c0_3, .int .i64 a0_4, .int .i64 a0_5, .int .i64 a0_6, .int .i64 a0_7], .agg #[.int .i64 a1_0, .int .i64 a1_1, .int .i64 a1_2, .slice A1_3 l1_3.length c1_3, .int .i64 a1_4, .int .i64 a1_5, .int .i64 a1_6, .int .i64 a1_7]] ?_; (with_reducible refine (laws_eqSched.calls ?_ ?_ ?_ ?_ A3.out).mono ?_); exact cu_ HR0_3.out HB.out; exact HC0_3.out; exact cu_ HR1_3.out HB.out; exact HC1_3.out; rintro e w40 ⟨rfl, hb⟩; refine ⟨_, rfl, ?_⟩; replace BK243 := bb_ BK243 hb; replace BK244 := bb_ BK244 hb; replace HB := hb_ HB hb; (try clear hb); have hcz41 := box11_ BK243.out; have hcz42 := box11_ BK244.out) | ((with_reducible refine gc_ 74 ?_); refine gl_ (some 15) Try.func74 #[.slice A0_8 l0_8.length c0_8, .slice A1_8 l1_8.length c1_8] ?_; (with_reducible refine (laws_eqModelS.calls ?_ ?_ ?_ ?_ A5.out).mono ?_); exact cu_ HR0_8.out HB.out; exact HC0_8.out; exact cu_ HR1_8.out HB.out; exact HC1_8.out; rintro e w43 ⟨rfl, hb⟩; refine ⟨_, rfl, ?_⟩; replace BK243 := bb_ BK243 hb; replace BK244 := bb_ BK244 hb; replace HB := hb_ HB hb; (try clear hb); have hcz44 := box11_ BK243.out; have hcz45 := box11_ BK244.out) | ((with_reducible refine gc_ 75 ?_); refine gl_ (some 21) Try.func75 #[.slice A0_9 l0_9.length c0_9, .slice A1_9 l1_9.length c1_9] ?_; (with_reducible refine (laws_eqBoolS.calls ?_ ?_ ?_ ?_ A7.out).mono ?_); exact cu_ HR0_9.out HB.out; exact HC0_9.out; exact cu_ HR1_9.out HB.out; exact HC1_9.out; rintro e w' ⟨rfl, ⟨nd, rfl⟩⟩; refine ⟨_, rfl, ?_⟩))
    go_ret
    exact rt_ HB.out
  ·
   replace c6 := Bool.eq_false_iff.mpr c6; subst c6; have H1 : (some false) = some r := by rw [if_neg (show ¬ (false = true) by decide)] at H; exact H
   clear H; have H := H1; clear H1; obtain rfl := Option.some.inj H
   go_enter Try.func47, Try.ntmps47
   go_wp2_with (first | ((with_reducible refine gate_dst (N := 2) rfl ?_); refine bz_ 2 ?_; intro gb243 hg w46 hbox hb; obtain ⟨BK243, GW243, GE243, HB⟩ := nb_ hg hbox HB hb; clear hb hbox hg) | ((with_reducible refine gate_dst (N := 3) rfl ?_); refine bz_ 3 ?_; intro gb244 hg w47 hbox hb; obtain ⟨BK244, GW244, GE244, HB⟩ := nb_ hg hbox HB hb; have NB243_244 := nx_ hg BK243; have NB244_243 := ny_ hg BK243; replace BK243 := bb_ BK243 hb; clear hb hbox hg; have hnb48 := NB243_244.out; have hnc48 := NB244_243.out; have hcz49 := box11_ BK243.out; have hcz50 := box11_ BK244.out) | ((with_reducible refine gc_ 23 ?_); refine gl_ (some 9) Try.func23 #[.agg #[.int .i64 a0_0, .int .i64 a0_1, .int .i64 a0_2, .slice A0_3 l0_3.length c0_3, .int .i64 a0_4, .int .i64 a0_5, .int .i64 a0_6, .int .i64 a0_7], .agg #[.int .i64 a1_0, .int .i64 a1_1, .int .i64 a1_2, .slice A1_3 l1_3.length c1_3, .int .i64 a1_4, .int .i64 a1_5, .int .i64 a1_6, .int .i64 a1_7]] ?_; (with_reducible refine (laws_eqSched.calls ?_ ?_ ?_ ?_ A3.out).mono ?_); exact cu_ HR0_3.out HB.out; exact HC0_3.out; exact cu_ HR1_3.out HB.out; exact HC1_3.out; rintro e w51 ⟨rfl, hb⟩; refine ⟨_, rfl, ?_⟩; replace BK243 := bb_ BK243 hb; replace BK244 := bb_ BK244 hb; replace HB := hb_ HB hb; (try clear hb); have hcz52 := box11_ BK243.out; have hcz53 := box11_ BK244.out) | ((with_reducible refine gc_ 74 ?_); refine gl_ (some 15) Try.func74 #[.slice A0_8 l0_8.length c0_8, .slice A1_8 l1_8.length c1_8] ?_; (with_reducible refine (laws_eqModelS.calls ?_ ?_ ?_ ?_ A5.out).mono ?_); exact cu_ HR0_8.out HB.out; exact HC0_8.out; exact cu_ HR1_8.out HB.out; exact HC1_8.out; rintro e w54 ⟨rfl, hb⟩; refine ⟨_, rfl, ?_⟩; replace BK243 := bb_ BK243 hb; replace BK244 := bb_ BK244 hb; replace HB := hb_ HB hb; (try clear hb)))
   go_ret
   exact rt_ HB.out
 ·
  replace c4 := Bool.eq_false_iff.mpr c4; subst c4; have H1 : (some false) = some r := by rw [if_neg (show ¬ (false = true) by decide)] at H; exact H
  clear H; have H := H1; clear H1; obtain rfl := Option.some.inj H
  go_enter Try.func47, Try.ntmps47
  go_wp2_with (first | ((with_reducible refine gate_dst (N := 2) rfl ?_); refine bz_ 2 ?_; intro gb243 hg w55 hbox hb; obtain ⟨BK243, GW243, GE243, HB⟩ := nb_ hg hbox HB hb; clear hb hbox hg) | ((with_reducible refine gate_dst (N := 3) rfl ?_); refine bz_ 3 ?_; intro gb244 hg w56 hbox hb; obtain ⟨BK244, GW244, GE244, HB⟩ := nb_ hg hbox HB hb; have NB243_244 := nx_ hg BK243; have NB244_243 := ny_ hg BK243; replace BK243 := bb_ BK243 hb; clear hb hbox hg; have hnb57 := NB243_244.out; have hnc57 := NB244_243.out; have hcz58 := box11_ BK243.out; have hcz59 := box11_ BK244.out) | ((with_reducible refine gc_ 23 ?_); refine gl_ (some 9) Try.func23 #[.agg #[.int .i64 a0_0, .int .i64 a0_1, .int .i64 a0_2, .slice A0_3 l0_3.length c0_3, .int .i64 a0_4, .int .i64 a0_5, .int .i64 a0_6, .int .i64 a0_7], .agg #[.int .i64 a1_0, .int .i64 a1_1, .int .i64 a1_2, .slice A1_3 l1_3.length c1_3, .int .i64 a1_4, .int .i64 a1_5, .int .i64 a1_6, .int .i64 a1_7]] ?_; (with_reducible refine (laws_eqSched.calls ?_ ?_ ?_ ?_ A3.out).mono ?_); exact cu_ HR0_3.out HB.out; exact HC0_3.out; exact cu_ HR1_3.out HB.out; exact HC1_3.out; rintro e w60 ⟨rfl, hb⟩; refine ⟨_, rfl, ?_⟩; replace BK243 := bb_ BK243 hb; replace BK244 := bb_ BK244 hb; replace HB := hb_ HB hb; (try clear hb)))
  go_ret
  exact rt_ HB.out

/-! ### laws_markIntS: function 39 -/
def laws_markIntS.l0 : Nat → List Int → Int → Int → Option (Int × List Int)
 | 0, _, _, _ => none
 | k + 1, x0, x1, x5 => if x5 < (x0.length : Int) then (if 0 ≤ x5 then (laws_markIntS.l0 k (x0.set (x5 : Int).toNat x1) (wrap64 (x1 + 1)) (wrap64 (x5 + 1))) else (none)) else (some (x1, x0))
def laws_markIntS.f (k : Nat) (l0 : List Int) (a1 : Int) : Option (Int × List Int) := laws_markIntS.l0 k l0 a1 0
set_option maxHeartbeats 8000000 in
set_option maxRecDepth 100000 in
theorem laws_markIntS.calls {k : Nat} {P0_ : Nat → Prop} {u9000_ : Value} {l0 : List Int} {a1 : Int} {r1 : Int} {r2 : List Int} {w0 w : World} (hB : Below w0.heap.size w0 w) (ho0 : Kd.R (Kd.int .i64) 3 w w0.heap.size P0_ u9000_ l0) (h : laws_markIntS.f k l0 a1 = some (r1, r2)) :
  Calls Try.prog 39 #[u9000_, .int .i64 a1] w fun e w' => e = .returned (.int .i64 r1) ∧ Kd.R (Kd.int .i64) 3 w' w0.heap.size (fun k_ => (P0_ k_ ∨ w.heap.size ≤ k_)) u9000_ r2 ∧ Below w0.heap.size w0 w' ∧ Kept w w' (fun k_ => P0_ k_) := by
 have HO0 := Aside0.mk (show Kd.R (Kd.int .i64) 3 w w0.heap.size (fun k_ => (P0_ k_ ∨ w.heap.size ≤ k_)) u9000_ l0 from Kd.R_mono ho0 (fun k_ hk => (.inl hk))); have HK := Aside0.mk (Kept.refl w (fun k_ => P0_ k_)); have HW0 := Aside0.mk hB.size; have HB := Aside0.mk hB; clear hB; have H : (laws_markIntS.l0 k l0 a1 0) = some (r1, r2) := h; clear h; have H' := Aside0.mk H; clear H
 go_enter Try.func39, Try.ntmps39
 go_wp2
 go_loopg [1, 5] k (fun kq v1 v5 w' => ∃ (x0_1 : List Int) (x1_1 : Int) (x5_1 : Int), v1 = .int .i64 x1_1 ∧ v5 = .int .i64 x5_1 ∧ Aside0 (laws_markIntS.l0 kq x0_1 x1_1 x5_1 = some (r1, r2)) ∧ Aside0 (kq ≤ k) ∧ Aside0 (Kd.R (Kd.int .i64) 3 w' w0.heap.size (fun k_ => (P0_ k_ ∨ w.heap.size ≤ k_)) u9000_ x0_1) ∧ Aside0 (Kept w w' (fun k_ => P0_ k_)) ∧ Aside0 (Below w0.heap.size w0 w'))
 case atStart => exact ⟨(l0), (a1), (0), (by first | rfl | (simp; done) | (simp [*]; done)), (by first | rfl | (simp; done) | (simp [*]; done)), H', ⟨Nat.le_refl _⟩, ⟨by (with_reducible repeat (first | apply Kd.R_alloc | apply Kd.R_drewN | apply Kd.R_drew)); exact HO0.out⟩, ⟨by repeat (first | (with_reducible first | exact HK.out | apply Kept.alloc | apply Kept.drewN | apply Kept.drew) | exact HK.out)⟩, ⟨be_ HB.out⟩⟩
 case round =>
  clear H'; (try clear p2); obtain ⟨x0_1, x1_1, x5_1, rfl, rfl, HA, HK1, HO_0, HK, HB⟩ := hrel
  cases gk with
  | zero => exact absurd HA.out (by simp [laws_markIntS.l0])
  | succ k1 =>
   have H := HA.out; clear HA; simp only [laws_markIntS.l0] at H
   by_cases c3 : x5_1 < (x0_1.length : Int)
   ·
    rw [if_pos c3] at H; have c3b0 : decide (x5_1 < (x0_1.length : Int)) = true := decide_eq_true c3; clear c3
    by_cases c4 : 0 ≤ x5_1
    ·
     rw [if_pos c4] at H; have c4b0 : decide (0 ≤ x5_1) = true := decide_eq_true c4; clear c4; obtain ⟨y249, hy249⟩ : ∃ y_ : List Int, y_ = (x0_1.set (x5_1 : Int).toNat x1_1) := ⟨_, rfl⟩; replace H : (laws_markIntS.l0 k1 y249 (wrap64 (x1_1 + 1)) (wrap64 (x5_1 + 1))) = some (r1, r2) := by first | (rw [hy249]; with_reducible exact H) | (have H2_ := (Option.bind_some _ _).symm.trans H; rw [hy249]; with_reducible exact H2_) | (have H2_ := (Option.bind_some _ _).symm.trans H; with_reducible exact H2_) | with_reducible exact H | (rw [hy249]; exact H) | exact H
     have Ny249 := Aside0.mk hy249; clear hy249; have H' := Aside0.mk H; clear H; obtain ⟨Ao6, co6, eo6⟩ := Kd.R_slice HO_0.out; subst eo6; have p5 : 0 ≤ (x5_1 : Int) := od_; have q5 : (x5_1 : Int) < ((x0_1.length : Int) : Int) := od_; obtain ⟨go5, co5, eo5, gb5, gl5, cl5, HG5⟩ := Kd.R_form HO_0.out (by omega); (first | cases eo5 | (injection eo5 with ea_ en_ ec_; (first | subst ea_ | (injection ea_ with ea_; subst ea_)); subst ec_; clear en_)); have GB5 := Aside0.mk gb5; have GG5 := Aside0.mk HG5; clear gb5 gl5 HG5; have HMgo5 := Aside0.mk (show (P0_ go5 ∨ w.heap.size ≤ go5) from (HO_0.out.1 _ rfl)); obtain ⟨hx5_0, hf5_0⟩ := Kd.R_celln 0 HO_0.out (x5_1 : Int) p5 q5; replace p5 := eq_true p5; replace q5 := eq_true q5; have HP7 := Kd.R_putg HO_0.out (x5_1 : Int) x1_1
     go_wp2_with (first | ((with_reducible refine gate_store (t := 3) (p := 15) rfl ?_); refine store_event (t := 3) (p := 15) (v := ?vo_w8) (w1 := (wr.setCell ⟨go5, (x5_1 : Int).toNat, none⟩ (.int .i64 x1_1))) ?hg ?ho ?hn ?hr ?_; (case ho => rfl); (case hg => rfl); (case hn => rfl); (case hr => first | (go_simp; done) | (go_simp; rfl)); intro w8 hw; have hg : wr.grownBy w8 (some go5) := (by rw [hw]; exact HP7.2); have hp_ : Kd.R (Kd.int .i64) 3 w8 w0.heap.size (fun k_ => (P0_ k_ ∨ w.heap.size ≤ k_)) (.slice (some ⟨go5, 0, none⟩) x0_1.length co6) y249 := (by rw [hw, Ny249.out]; exact HP7.1); clear HP7; replace HB := Aside0.mk ((by rw [hw]; exact below_set (HB.out) GB5.out : Below w0.heap.size w0 w8)); replace HK := Aside0.mk (Kept.of_grown (S := (fun k_ => P0_ k_)) hg (by repeat (first | (with_reducible first | exact HK.out | apply Kept.alloc | apply Kept.drewN | apply Kept.drew) | exact HK.out)) (fun k_ e_ => (HO_0.out.1 k_ e_))); replace HO_0 := Aside0.mk (hp_); clear hg hw hp_))
     go_roundg k1
     case measure => have := HK1.out; omega
     case rel => exact ⟨(y249), (wrap64 (x1_1 + 1)), (wrap64 (x5_1 + 1)), (by first | rfl | (simp; done) | (simp [*]; done)), (by first | rfl | (simp; done) | (simp [*]; done)), H', ⟨by have := HK1.out; omega⟩, ⟨by (with_reducible repeat (first | apply Kd.R_alloc | apply Kd.R_drewN | apply Kd.R_drew)); exact HO_0.out⟩, ⟨by repeat (first | (with_reducible first | exact HK.out | apply Kept.alloc | apply Kept.drewN | apply Kept.drew) | exact HK.out)⟩, ⟨be_ HB.out⟩⟩
    ·
     rw [if_neg c4] at H; exact absurd H (by simp)
   ·
    rw [if_neg c3] at H; have c3b0 : decide (x5_1 < (x0_1.length : Int)) = false := decide_eq_false c3; clear c3; simp only [Option.some.injEq, Prod.mk.injEq] at H; obtain ⟨rfl, rfl⟩ := H; obtain ⟨Ao9, co9, eo9⟩ := Kd.R_slice HO_0.out; subst eo9
    go_wp2
    go_ret
    exact ⟨by first | rfl | (simp [errW_none, errW_some] <;> rfl) | (simp [*, errW_none, errW_some] <;> rfl), by (with_reducible repeat (first | apply Kd.R_alloc | apply Kd.R_drewN | apply Kd.R_drew)); exact HO_0.out, by repeat (first | (with_reducible first | exact HB.out | apply below_alloc | apply pw_below_drewN | apply below_drew1) | exact HB.out), by repeat (first | (with_reducible first | exact HK.out | apply Kept.alloc | apply Kept.drewN | apply Kept.drew) | exact HK.out)⟩

/-! ### laws_markTaskS: function 64, by hand -/
def laws_markTaskS.f (l0 : List (S27)) (a1 : Int) : Option Int := if l0.length = 0 then some a1 else none
set_option maxHeartbeats 8000000 in
set_option maxRecDepth 100000 in
theorem laws_markTaskS.calls (A0 : Option Addr) (c0 : Nat) (l0 : List (S27)) (a1 : Int) (r : Int) (w : World) (hr0 : Kd.C k27 w A0 l0.length l0) (hc0 : l0.length ≤ c0) (h : laws_markTaskS.f l0 a1 = some r) :
    Calls Try.prog 64 #[.slice A0 l0.length c0, .int .i64 a1] w fun e w' => e = .returned (.int .i64 r) ∧ Below w.heap.size w w' := by
  unfold laws_markTaskS.f at h
  by_cases c : l0.length = 0
  · rw [if_pos c] at h
    obtain rfl := Option.some.inj h
    rw [c]
    clear h hr0 hc0 c
    go_enter Try.func64, Try.ntmps64
    go_wp2
    go_loopg [1, 5] 0 (fun gg v1 v5 wr => v1 = .int .i64 a1 ∧ v5 = .int .i64 0 ∧ Aside0 (Below w.heap.size w wr))
    case atStart => exact ⟨rfl, rfl, ⟨Below.refl _ w⟩⟩
    case round =>
      obtain ⟨rfl, rfl, HB⟩ := hrel
      go_wp2
      go_ret
      exact ⟨rfl, HB.out⟩
  · rw [if_neg c] at h
    exact absurd h (by simp)


/-! ### laws_markSched: function 26 -/
def laws_markSched.f (a0_0 : Int) (a0_1 : Int) (a0_2 : Int) (l0_3 : List (S27)) (a0_4 : Int) (a0_5 : Int) (a0_6 : Int) (a0_7 : Int) (a1 : Int) : Option (Int) := (laws_markTaskS.f l0_3 a1).bind fun t251 => (some t251)
set_option maxHeartbeats 8000000 in
set_option maxRecDepth 100000 in
theorem laws_markSched.calls {a0_0 : Int} {a0_1 : Int} {a0_2 : Int} {A0_3 : Option Addr} {c0_3 : Nat} {l0_3 : List (S27)} {a0_4 : Int} {a0_5 : Int} {a0_6 : Int} {a0_7 : Int} {a1 : Int} {r : Int} {w : World} (hr0_3 : Kd.C k27 w A0_3 l0_3.length l0_3) (hc0_3 : l0_3.length ≤ c0_3) (h : laws_markSched.f a0_0 a0_1 a0_2 l0_3 a0_4 a0_5 a0_6 a0_7 a1 = some r) :
  Calls Try.prog 26 #[.agg #[.int .i64 a0_0, .int .i64 a0_1, .int .i64 a0_2, .slice A0_3 l0_3.length c0_3, .int .i64 a0_4, .int .i64 a0_5, .int .i64 a0_6, .int .i64 a0_7], .int .i64 a1] w fun e w' => e = .returned (.int .i64 r) ∧ Below w.heap.size w w' := by
 have hu38 := Try.underlying38; have HR0_3 := Aside0.mk hr0_3; have HC0_3 := Aside0.mk hc0_3; clear hr0_3 hc0_3; have HB := Aside0.mk (Below.refl w.heap.size w); have H : ((laws_markTaskS.f l0_3 a1).bind fun t251 => (some t251)) = some r := h; clear h; obtain ⟨t251, A3, H⟩ := bo_ H; (try dsimp only at H); obtain rfl := Option.some.inj H
 go_enter Try.func26, Try.ntmps26
 go_wp2_with (first | ((with_reducible refine gate_dst (N := 2) rfl ?_); refine bz_ 2 ?_; intro gb250 hg w4 hbox hb; obtain ⟨BK250, GW250, GE250, HB⟩ := nb_ hg hbox HB hb; clear hb hbox hg; have hcz5 := box8_ BK250.out) | ((with_reducible refine gc_ 64 ?_); refine gl_ (some 8) Try.func64 #[.slice A0_3 l0_3.length c0_3, .int .i64 a1] ?_; (with_reducible refine (laws_markTaskS.calls _ _ l0_3 a1 t251 _ ?_ ?_ A3.out).mono ?_); exact cu_ HR0_3.out HB.out; exact HC0_3.out; rintro e w6 ⟨rfl, hb⟩; refine ⟨_, rfl, ?_⟩; replace BK250 := bb_ BK250 hb; replace HB := hb_ HB hb; (try clear hb)))
 go_ret
 exact rt_ HB.out

/-! ### laws_markLayerS: function 93, by hand -/
def laws_markLayerS.f (l0 : List (S107)) (a1 : Int) : Option Int := if l0.length = 0 then some a1 else none
set_option maxHeartbeats 8000000 in
set_option maxRecDepth 100000 in
theorem laws_markLayerS.calls (A0 : Option Addr) (c0 : Nat) (l0 : List (S107)) (a1 : Int) (r : Int) (w : World) (hr0 : Kd.C k107 w A0 l0.length l0) (hc0 : l0.length ≤ c0) (h : laws_markLayerS.f l0 a1 = some r) :
    Calls Try.prog 93 #[.slice A0 l0.length c0, .int .i64 a1] w fun e w' => e = .returned (.int .i64 r) ∧ Below w.heap.size w w' := by
  unfold laws_markLayerS.f at h
  by_cases c : l0.length = 0
  · rw [if_pos c] at h
    obtain rfl := Option.some.inj h
    rw [c]
    clear h hr0 hc0 c
    go_enter Try.func93, Try.ntmps93
    go_wp2
    go_loopg [1, 5] 0 (fun gg v1 v5 wr => v1 = .int .i64 a1 ∧ v5 = .int .i64 0 ∧ Aside0 (Below w.heap.size w wr))
    case atStart => exact ⟨rfl, rfl, ⟨Below.refl _ w⟩⟩
    case round =>
      obtain ⟨rfl, rfl, HB⟩ := hrel
      go_wp2
      go_ret
      exact ⟨rfl, HB.out⟩
  · rw [if_neg c] at h
    exact absurd h (by simp)


/-! ### laws_markModelS: function 77, by hand -/
/-- A model whose shape is marked. -/
def mkM1 (x : S88) (a : Int) : S88 := ⟨⟨a, wrap64 (a + 1), wrap64 (wrap64 (a + 1) + 1)⟩, x.f1⟩
def mkMx (a : Int) : Int := wrap64 (wrap64 (wrap64 (a + 1) + 1) + 1)
def mkMl : List S88 → Int → List S88
  | [], _ => []
  | x :: r, a => mkM1 x a :: mkMl r (mkMx a)
def mkMn : Nat → Int → Int
  | 0, a => a
  | n + 1, a => mkMn n (mkMx a)
def put3_ (x : S88) (j : Nat) (u : Int) : S88 := if j = 0 then ⟨⟨u, x.f0.f1, x.f0.f2⟩, x.f1⟩ else if j = 1 then ⟨⟨x.f0.f0, u, x.f0.f2⟩, x.f1⟩ else ⟨⟨x.f0.f0, x.f0.f1, u⟩, x.f1⟩
theorem put3_R {W : World} {base g n cap : Nat} {ok : Nat → Prop} {xs : List S88} (HO : Kd.R k88 88 W base ok (.slice (some ⟨g, 0, none⟩) n cap) xs) (i : Nat) (hi : i < n) (j o : Nat) (hj : j < 3) (ho : o = i * 4 + j) (u : Int) :
    Kd.R k88 88 (W.setCell ⟨g, o, none⟩ (.int .i64 u)) base ok (.slice (some ⟨g, 0, none⟩) n cap) (xs.set i (put3_ (xs.getD i z88) j u)) ∧ W.grownBy (W.setCell ⟨g, o, none⟩ (.int .i64 u)) (some g) ∧ ∃ v, W.cell? ⟨g, o, none⟩ = some v ∧ W.frozen? ⟨g, o, none⟩ = false := by
  obtain ⟨c, hcl, hM, hcc, hf⟩ := Kd.R_elem HO z88 (i : Int) (by omega) (by omega)
  rw [Int.toNat_natCast] at hM hcc hf
  obtain ⟨v3, rfl, hv⟩ := k88_openM hM
  have hsz : k88.sz = 4 := rfl
  have hs := fun hM' => Kd.R_seg HO (i : Int) (by omega) (by omega) (seg := [.int .i64 u]) (j := j) hcl (by rw [Int.toNat_natCast]; exact hcc) (by rw [hsz]; simp; omega) (x' := put3_ (xs.getD i z88) j u) hM' (fun k hk => hk)
  rw [Int.toNat_natCast, hsz, ← ho] at hs
  have hM' : k88.M W base (fun k => ok k ∧ k ≠ g) (put3_ (xs.getD i z88) j u) (([.int .i64 (xs.getD i z88).f0.f0, .int .i64 (xs.getD i z88).f0.f1, .int .i64 (xs.getD i z88).f0.f2, v3] : List Value).take j ++ [.int .i64 u] ++ ([.int .i64 (xs.getD i z88).f0.f0, .int .i64 (xs.getD i z88).f0.f1, .int .i64 (xs.getD i z88).f0.f2, v3] : List Value).drop (j + 1)) := by
    rcases (by omega : j = 0 ∨ j = 1 ∨ j = 2) with rfl | rfl | rfl
    · exact k88_mkM W base _ ⟨⟨u, (xs.getD i z88).f0.f1, (xs.getD i z88).f0.f2⟩, (xs.getD i z88).f1⟩ hv
    · exact k88_mkM W base _ ⟨⟨(xs.getD i z88).f0.f0, u, (xs.getD i z88).f0.f2⟩, (xs.getD i z88).f1⟩ hv
    · exact k88_mkM W base _ ⟨⟨(xs.getD i z88).f0.f0, (xs.getD i z88).f0.f1, u⟩, (xs.getD i z88).f1⟩ hv
  obtain ⟨h1, h2⟩ := hs hM'
  refine ⟨h1, h2, ?_⟩
  have hfo := hf j
  rw [hsz, ← ho] at hfo
  rcases (by omega : j = 0 ∨ j = 1 ∨ j = 2) with rfl | rfl | rfl
  · have h := hcc 0 _ rfl
    rw [hsz, ← ho] at h
    exact ⟨_, h, hfo⟩
  · have h := hcc 1 _ rfl
    rw [hsz, ← ho] at h
    exact ⟨_, h, hfo⟩
  · have h := hcc 2 _ rfl
    rw [hsz, ← ho] at h
    exact ⟨_, h, hfo⟩
theorem put3_all (x : S88) (a : Int) : put3_ (put3_ (put3_ x 0 a) 1 (wrap64 (a + 1))) 2 (wrap64 (wrap64 (a + 1) + 1)) = mkM1 x a := rfl
theorem set_getD_ (l : List S88) (i : Nat) (y : S88) (h : i < l.length) : (l.set i y).getD i z88 = y := by simp [h]
theorem mkMl_len : ∀ (l : List S88) (a : Int), (mkMl l a).length = l.length
  | [], _ => rfl
  | x :: r, a => by simp [mkMl, mkMl_len r]
theorem mkMl_step (l : List S88) (kk : Nat) (x : Int) (h : kk < l.length) : (l.set kk (mkM1 (l.getD kk z88) x)).take (kk + 1) ++ mkMl ((l.set kk (mkM1 (l.getD kk z88) x)).drop (kk + 1)) (mkMx x) = l.take kk ++ mkMl (l.drop kk) x := by
  have e1 : (l.set kk (mkM1 (l.getD kk z88) x)).take (kk + 1) = l.take kk ++ [mkM1 (l.getD kk z88) x] := by
    rw [List.take_add_one, List.getElem?_set_self h, List.take_set_of_le (Nat.le_refl _)]
    rfl
  have e2 : (l.set kk (mkM1 (l.getD kk z88) x)).drop (kk + 1) = l.drop (kk + 1) := by
    rw [List.drop_set_of_lt (by omega)]
  have e3 : l.drop kk = l.getD kk z88 :: l.drop (kk + 1) := by
    rw [List.drop_eq_getElem_cons h, List.getD_eq_getElem?_getD, List.getElem?_eq_getElem h]
    rfl
  rw [e1, e2, e3, mkMl, List.append_assoc]
  rfl
theorem mem_at_ (l : List S88) (i : Nat) (h : i < l.length) : l.getD i z88 ∈ l := by
  rw [List.getD_eq_getElem?_getD, List.getElem?_eq_getElem h]
  exact List.getElem_mem h
theorem markM_at {W : World} {base g n cap : Nat} {ok : Nat → Prop} {xs : List S88} {x : Int} (i : Nat) (HO : Kd.R k88 88 W base ok (.slice (some ⟨g, 0, none⟩) n cap) (xs.set i (mkM1 (xs.getD i z88) x))) (hi : i < n) (hx : i < xs.length) (he : (xs.getD i z88).f1 = []) :
    ∃ A3 c3, W.cell? ⟨g, i * 4 + 3, none⟩ = some (.slice A3 0 c3) := by
  obtain ⟨c, hcl, hM, hcc, hf⟩ := Kd.R_elem HO z88 (i : Int) (by omega) (by omega)
  rw [Int.toNat_natCast] at hM hcc
  obtain ⟨v3, rfl, hv⟩ := k88_openM hM
  obtain ⟨A3, c3, rfl⟩ := Kd.R_slice hv
  have h := hcc 3 _ rfl
  rw [set_getD_ _ _ _ hx, show (mkM1 (xs.getD i z88) x).f1 = [] from he] at h
  exact ⟨A3, c3, h⟩
def laws_markModelS.f (l0 : List (S88)) (a1 : Int) : Option (Int × List (S88)) := if (decide (l0.length ≤ 1000000) && l0.all (fun x => x.f1.isEmpty)) = true then some (mkMn l0.length a1, mkMl l0 a1) else none
set_option maxHeartbeats 8000000 in
set_option maxRecDepth 100000 in
theorem markM_walk (P0_ : Nat → Prop) (u : Value) (l : List (S88)) (a1 : Int) (w0 w : World) (hB : Below w0.heap.size w0 w) (ho0 : Kd.R k88 88 w w0.heap.size P0_ u l) (hl : l.length ≤ 1000000) (hem : ∀ x ∈ l, x.f1 = []) :
    Calls Try.prog 77 #[u, .int .i64 a1] w fun e w' => e = .returned (.int .i64 (mkMn l.length a1)) ∧ Kd.R k88 88 w' w0.heap.size P0_ u (mkMl l a1) ∧ Below w0.heap.size w0 w' ∧ Kept w w' (fun k_ => some k_ = u.ownBlock) := by
  have HO0 := Aside0.mk (show Kd.R k88 88 w w0.heap.size P0_ u l from ho0)
  have HB0 := Aside0.mk hB
  have HE := Aside0.mk hem
  obtain ⟨A0, c0, rfl⟩ := Kd.R_slice ho0
  clear hB hem ho0
  go_enter Try.func77, Try.ntmps77
  go_wp2
  go_loopg [1, 5] l.length (fun gg v1 v5 wr => ∃ (kk : Nat) (x : Int) (xs : List S88), kk ≤ l.length ∧ l.length - kk ≤ gg ∧ v1 = .int .i64 x ∧ v5 = .int .i64 kk ∧ Aside0 (mkMn (l.length - kk) x = mkMn l.length a1) ∧ Aside0 (xs.length = l.length) ∧ Aside0 (xs.take kk ++ mkMl (xs.drop kk) x = mkMl l a1) ∧ Aside0 (∀ y ∈ xs, y.f1 = []) ∧ Aside0 (Kd.R k88 88 wr w0.heap.size P0_ (.slice A0 l.length c0) xs) ∧ Aside0 (Kept w wr (fun k_ => some k_ = (.slice A0 l.length c0 : Value).ownBlock)) ∧ Aside0 (Below w0.heap.size w0 wr))
  case atStart => exact ⟨0, a1, l, Nat.zero_le _, by omega, rfl, rfl, ⟨rfl⟩, ⟨rfl⟩, ⟨rfl⟩, HE, HO0, ⟨Kept.refl _ _⟩, HB0⟩
  case round =>
    clear HO0 HB0 HE
    obtain ⟨kk, x, xs, hkk, hg, rfl, rfl, N9, L9, T9, E9, R0, K0, B0⟩ := hrel
    by_cases hlt : kk < l.length
    · have hltz : (kk : Int) < (l.length : Int) := by omega
      obtain ⟨g, cap, e0, gb, gl, cl, hcl⟩ := Kd.R_form R0.out (by have := L9.out; omega)
      have ec : A0 = some ⟨g, 0, none⟩ ∧ c0 = cap := by injection e0 with ea en ec; exact ⟨ea, ec⟩
      obtain ⟨rfl, rfl⟩ := ec
      have GS : Aside0 (some g = (.slice (some ⟨g, 0, none⟩) l.length c0 : Value).ownBlock ∨ w.heap.size ≤ g) := ⟨.inl rfl⟩
      have GB := Aside0.mk gb
      clear e0 gb gl hcl
      have hkx : Aside0 (kk < xs.length) := ⟨by have := L9.out; omega⟩
      have D1 := Aside0.mk (put3_R R0.out kk hlt 0 (kk * 4) (by omega) (by omega) x)
      go_wp2_with (first
        | ((with_reducible refine gate_store (t := 3) (p := 17) rfl ?_); refine store_event (t := 3) (p := 17) (v := ?vo1) (w1 := wr.setCell ⟨g, kk * 4, none⟩ (.int .i64 x)) ?hg ?ho ?hn ?hr ?_; (case ho => rfl); (case hg => rfl); (case hn => rfl); (case hr => obtain ⟨_, _, xx, hcc, hff⟩ := D1.out; first | (go_simp; done) | (go_simp; rfl)); intro w1 hw; have R1 := Aside0.mk (show Kd.R k88 88 w1 w0.heap.size P0_ (.slice (some ⟨g, 0, none⟩) l.length c0) (xs.set kk (put3_ (xs.getD kk z88) 0 x)) from by rw [hw]; exact D1.out.1); have K1 := Aside0.mk (show Kept w w1 (fun k_ => some k_ = (.slice (some ⟨g, 0, none⟩) l.length c0 : Value).ownBlock) from by rw [hw]; exact Kept.of_grown D1.out.2.1 K0.out (fun k_ e_ => by injection e_ with e_; subst e_; exact GS.out)); have B1 := Aside0.mk (show Below w0.heap.size w0 w1 from by rw [hw]; exact B0.out.setCell (p := ⟨g, kk * 4, none⟩) GB.out _); have D2 := Aside0.mk (put3_R R1.out kk hlt 1 (kk * 4 + 1) (by omega) rfl (wrap64 (x + 1))); clear hw D1)
        | ((with_reducible refine gate_store (t := 3) (p := 25) rfl ?_); refine store_event (t := 3) (p := 25) (v := ?vo2) (w1 := w1.setCell ⟨g, kk * 4 + 1, none⟩ (.int .i64 (wrap64 (x + 1)))) ?hg ?ho ?hn ?hr ?_; (case ho => rfl); (case hg => rfl); (case hn => rfl); (case hr => obtain ⟨_, _, xx, hcc, hff⟩ := D2.out; first | (go_simp; done) | (go_simp; rfl)); intro w2 hw; have R2 := Aside0.mk (show Kd.R k88 88 w2 w0.heap.size P0_ (.slice (some ⟨g, 0, none⟩) l.length c0) (xs.set kk (put3_ (put3_ (xs.getD kk z88) 0 x) 1 (wrap64 (x + 1)))) from by rw [hw]; have h := D2.out.1; rwa [List.set_set, set_getD_ _ _ _ hkx.out] at h); have K2 := Aside0.mk (show Kept w w2 (fun k_ => some k_ = (.slice (some ⟨g, 0, none⟩) l.length c0 : Value).ownBlock) from by rw [hw]; exact Kept.of_grown D2.out.2.1 K1.out (fun k_ e_ => by injection e_ with e_; subst e_; exact GS.out)); have B2 := Aside0.mk (show Below w0.heap.size w0 w2 from by rw [hw]; exact B1.out.setCell (p := ⟨g, kk * 4 + 1, none⟩) GB.out _); have D3 := Aside0.mk (put3_R R2.out kk hlt 2 (kk * 4 + 2) (by omega) rfl (wrap64 (wrap64 (x + 1) + 1))); clear hw D2)
        | ((with_reducible refine gate_store (t := 3) (p := 33) rfl ?_); refine store_event (t := 3) (p := 33) (v := ?vo3) (w1 := w2.setCell ⟨g, kk * 4 + 2, none⟩ (.int .i64 (wrap64 (wrap64 (x + 1) + 1)))) ?hg ?ho ?hn ?hr ?_; (case ho => rfl); (case hg => rfl); (case hn => rfl); (case hr => obtain ⟨_, _, xx, hcc, hff⟩ := D3.out; first | (go_simp; done) | (go_simp; rfl)); intro w3 hw; have R3 := Aside0.mk (show Kd.R k88 88 w3 w0.heap.size P0_ (.slice (some ⟨g, 0, none⟩) l.length c0) (xs.set kk (mkM1 (xs.getD kk z88) x)) from by rw [hw, ← put3_all]; have h := D3.out.1; rwa [List.set_set, set_getD_ _ _ _ hkx.out] at h); have K3 := Aside0.mk (show Kept w w3 (fun k_ => some k_ = (.slice (some ⟨g, 0, none⟩) l.length c0 : Value).ownBlock) from by rw [hw]; exact Kept.of_grown D3.out.2.1 K2.out (fun k_ e_ => by injection e_ with e_; subst e_; exact GS.out)); have B3 := Aside0.mk (show Below w0.heap.size w0 w3 from by rw [hw]; exact B2.out.setCell (p := ⟨g, kk * 4 + 2, none⟩) GB.out _); clear hw D3; obtain ⟨A3, c3, hc3⟩ := markM_at kk R3.out hlt hkx.out (E9.out _ (mem_at_ xs kk hkx.out)))
        | (go_at_call 93; refine (laws_markLayerS.calls A3 c3 [] (wrap64 (wrap64 (wrap64 (x + 1) + 1) + 1)) _ w3 ⟨rfl, by simp, fun h => absurd h (by simp)⟩ (Nat.zero_le _) (if_pos rfl)).mono ?_; rintro e w4 ⟨rfl, hb4⟩; have R4 := Aside0.mk (Kd.R_below R3.out hb4); have K4 := Aside0.mk (Kept.below K3.out hb4); have B4 := Aside0.mk (B3.out.trans (hb4.mono B3.out.size)); clear hb4))
      go_roundg (l.length - (kk + 1))
      case measure => omega
      case rel =>
        refine ⟨kk + 1, mkMx x, xs.set kk (mkM1 (xs.getD kk z88) x), by omega, by omega, rfl, by go_num, ⟨?_⟩, ⟨?_⟩, ⟨?_⟩, ⟨?_⟩, R4, K4, B4⟩
        · have h := N9.out
          rwa [show l.length - kk = (l.length - (kk + 1)) + 1 by omega, mkMn] at h
        · rw [List.length_set]; exact L9.out
        · rw [mkMl_step xs kk x hkx.out]; exact T9.out
        · intro y hy
          rcases List.mem_or_eq_of_mem_set hy with h | h
          · exact E9.out y h
          · rw [h]; exact (show (mkM1 (xs.getD kk z88) x).f1 = [] from E9.out (xs.getD kk z88) (mem_at_ xs kk hkx.out))
    · have hltz : ¬ (kk : Int) < (l.length : Int) := by omega
      have hk := Aside0.mk (show kk = l.length by omega)
      have e1 : Aside0 (x = mkMn l.length a1) := ⟨by have h := N9.out; rwa [hk.out, Nat.sub_self, mkMn] at h⟩
      have e2 : Aside0 (xs = mkMl l a1) := ⟨by have h := T9.out; rwa [hk.out, ← L9.out, List.take_length, List.drop_length, mkMl, List.append_nil] at h⟩
      go_wp2
      go_ret
      exact ⟨by rw [← e1.out]; rfl, by rw [← e2.out]; exact R0.out, by first | exact B0.out | exact be_ B0.out | exact below_drew1 B0.out, by first | exact K0.out | exact Kept.drew K0.out⟩
theorem laws_markModelS.calls (P0_ : Nat → Prop) (u9000_ : Value) (l0 : List (S88)) (a1 : Int) (r1 : Int) (r2 : List (S88)) (w0 w : World) (hB : Below w0.heap.size w0 w) (ho0 : Kd.R k88 88 w w0.heap.size P0_ u9000_ l0) (h : laws_markModelS.f l0 a1 = some (r1, r2)) :
    Calls Try.prog 77 #[u9000_, .int .i64 a1] w fun e w' => e = .returned (.int .i64 r1) ∧ Kd.R k88 88 w' w0.heap.size P0_ u9000_ r2 ∧ Below w0.heap.size w0 w' ∧ Kept w w' (fun k_ => some k_ = u9000_.ownBlock) := by
  unfold laws_markModelS.f at h
  by_cases c : (decide (l0.length ≤ 1000000) && l0.all (fun x => x.f1.isEmpty)) = true
  · rw [if_pos c] at h
    obtain ⟨rfl, rfl⟩ := Prod.mk.inj (Option.some.inj h)
    simp only [Bool.and_eq_true, decide_eq_true_eq, List.all_eq_true, List.isEmpty_iff] at c
    exact markM_walk P0_ u9000_ l0 a1 w0 w hB ho0 c.1 c.2
  · rw [if_neg c] at h; exact absurd h (by simp)


/-! ### laws_markBoolS: function 78 -/
def laws_markBoolS.l0 : Nat → List Bool → Int → Int → Option (Int × List Bool)
 | 0, _, _, _ => none
 | k + 1, x0, x1, x5 => if x5 < (x0.length : Int) then (if 0 ≤ x5 then (laws_markBoolS.l0 k (x0.set (x5 : Int).toNat ((Int.tmod x1 3) == 0)) (wrap64 (x1 + 1)) (wrap64 (x5 + 1))) else (none)) else (some (x1, x0))
def laws_markBoolS.f (k : Nat) (l0 : List Bool) (a1 : Int) : Option (Int × List Bool) := laws_markBoolS.l0 k l0 a1 0
set_option maxHeartbeats 8000000 in
set_option maxRecDepth 100000 in
theorem laws_markBoolS.calls {k : Nat} {P0_ : Nat → Prop} {u9000_ : Value} {l0 : List Bool} {a1 : Int} {r1 : Int} {r2 : List Bool} {w0 w : World} (hB : Below w0.heap.size w0 w) (ho0 : Kd.R Kd.bool 4 w w0.heap.size P0_ u9000_ l0) (h : laws_markBoolS.f k l0 a1 = some (r1, r2)) :
  Calls Try.prog 78 #[u9000_, .int .i64 a1] w fun e w' => e = .returned (.int .i64 r1) ∧ Kd.R Kd.bool 4 w' w0.heap.size (fun k_ => (P0_ k_ ∨ w.heap.size ≤ k_)) u9000_ r2 ∧ Below w0.heap.size w0 w' ∧ Kept w w' (fun k_ => P0_ k_) := by
 have HO0 := Aside0.mk (show Kd.R Kd.bool 4 w w0.heap.size (fun k_ => (P0_ k_ ∨ w.heap.size ≤ k_)) u9000_ l0 from Kd.R_mono ho0 (fun k_ hk => (.inl hk))); have HK := Aside0.mk (Kept.refl w (fun k_ => P0_ k_)); have HW0 := Aside0.mk hB.size; have HB := Aside0.mk hB; clear hB; have H : (laws_markBoolS.l0 k l0 a1 0) = some (r1, r2) := h; clear h; have H' := Aside0.mk H; clear H
 go_enter Try.func78, Try.ntmps78
 go_wp2
 go_loopg [1, 5] k (fun kq v1 v5 w' => ∃ (x0_1 : List Bool) (x1_1 : Int) (x5_1 : Int), v1 = .int .i64 x1_1 ∧ v5 = .int .i64 x5_1 ∧ Aside0 (laws_markBoolS.l0 kq x0_1 x1_1 x5_1 = some (r1, r2)) ∧ Aside0 (kq ≤ k) ∧ Aside0 (Kd.R Kd.bool 4 w' w0.heap.size (fun k_ => (P0_ k_ ∨ w.heap.size ≤ k_)) u9000_ x0_1) ∧ Aside0 (Kept w w' (fun k_ => P0_ k_)) ∧ Aside0 (Below w0.heap.size w0 w'))
 case atStart => exact ⟨(l0), (a1), (0), (by first | rfl | (simp; done) | (simp [*]; done)), (by first | rfl | (simp; done) | (simp [*]; done)), H', ⟨Nat.le_refl _⟩, ⟨by (with_reducible repeat (first | apply Kd.R_alloc | apply Kd.R_drewN | apply Kd.R_drew)); exact HO0.out⟩, ⟨by repeat (first | (with_reducible first | exact HK.out | apply Kept.alloc | apply Kept.drewN | apply Kept.drew) | exact HK.out)⟩, ⟨be_ HB.out⟩⟩
 case round =>
  clear H'; (try clear p2); obtain ⟨x0_1, x1_1, x5_1, rfl, rfl, HA, HK1, HO_0, HK, HB⟩ := hrel
  cases gk with
  | zero => exact absurd HA.out (by simp [laws_markBoolS.l0])
  | succ k1 =>
   have H := HA.out; clear HA; simp only [laws_markBoolS.l0] at H
   by_cases c3 : x5_1 < (x0_1.length : Int)
   ·
    rw [if_pos c3] at H; have c3b0 : decide (x5_1 < (x0_1.length : Int)) = true := decide_eq_true c3; clear c3
    by_cases c4 : 0 ≤ x5_1
    ·
     rw [if_pos c4] at H; have c4b0 : decide (0 ≤ x5_1) = true := decide_eq_true c4; clear c4; obtain ⟨y252, hy252⟩ : ∃ y_ : List Bool, y_ = (x0_1.set (x5_1 : Int).toNat ((Int.tmod x1_1 3) == 0)) := ⟨_, rfl⟩; replace H : (laws_markBoolS.l0 k1 y252 (wrap64 (x1_1 + 1)) (wrap64 (x5_1 + 1))) = some (r1, r2) := by first | (rw [hy252]; with_reducible exact H) | (have H2_ := (Option.bind_some _ _).symm.trans H; rw [hy252]; with_reducible exact H2_) | (have H2_ := (Option.bind_some _ _).symm.trans H; with_reducible exact H2_) | with_reducible exact H | (rw [hy252]; exact H) | exact H
     have Ny252 := Aside0.mk hy252; clear hy252; have H' := Aside0.mk H; clear H; obtain ⟨Ao6, co6, eo6⟩ := Kd.R_slice HO_0.out; subst eo6; have p5 : 0 ≤ (x5_1 : Int) := od_; have q5 : (x5_1 : Int) < ((x0_1.length : Int) : Int) := od_; obtain ⟨go5, co5, eo5, gb5, gl5, cl5, HG5⟩ := Kd.R_form HO_0.out (by omega); (first | cases eo5 | (injection eo5 with ea_ en_ ec_; (first | subst ea_ | (injection ea_ with ea_; subst ea_)); subst ec_; clear en_)); have GB5 := Aside0.mk gb5; have GG5 := Aside0.mk HG5; clear gb5 gl5 HG5; have HMgo5 := Aside0.mk (show (P0_ go5 ∨ w.heap.size ≤ go5) from (HO_0.out.1 _ rfl)); obtain ⟨hx5_0, hf5_0⟩ := Kd.R_celln false HO_0.out (x5_1 : Int) p5 q5; replace p5 := eq_true p5; replace q5 := eq_true q5; have HP7 := Kd.R_putg HO_0.out (x5_1 : Int) ((Int.tmod x1_1 3) == 0)
     go_wp2_with (first | ((with_reducible refine gate_store (t := 4) (p := 17) rfl ?_); refine store_event (t := 4) (p := 17) (v := ?vo_w8) (w1 := (wr.setCell ⟨go5, (x5_1 : Int).toNat, none⟩ (.bool ((Int.tmod x1_1 3) == 0)))) ?hg ?ho ?hn ?hr ?_; (case ho => rfl); (case hg => rfl); (case hn => rfl); (case hr => first | (go_simp; done) | (go_simp; rfl)); intro w8 hw; have hg : wr.grownBy w8 (some go5) := (by rw [hw]; exact HP7.2); have hp_ : Kd.R Kd.bool 4 w8 w0.heap.size (fun k_ => (P0_ k_ ∨ w.heap.size ≤ k_)) (.slice (some ⟨go5, 0, none⟩) x0_1.length co6) y252 := (by rw [hw, Ny252.out]; exact HP7.1); clear HP7; replace HB := Aside0.mk ((by rw [hw]; exact below_set (HB.out) GB5.out : Below w0.heap.size w0 w8)); replace HK := Aside0.mk (Kept.of_grown (S := (fun k_ => P0_ k_)) hg (by repeat (first | (with_reducible first | exact HK.out | apply Kept.alloc | apply Kept.drewN | apply Kept.drew) | exact HK.out)) (fun k_ e_ => (HO_0.out.1 k_ e_))); replace HO_0 := Aside0.mk (hp_); clear hg hw hp_))
     go_roundg k1
     case measure => have := HK1.out; omega
     case rel => exact ⟨(y252), (wrap64 (x1_1 + 1)), (wrap64 (x5_1 + 1)), (by first | rfl | (simp; done) | (simp [*]; done)), (by first | rfl | (simp; done) | (simp [*]; done)), H', ⟨by have := HK1.out; omega⟩, ⟨by (with_reducible repeat (first | apply Kd.R_alloc | apply Kd.R_drewN | apply Kd.R_drew)); exact HO_0.out⟩, ⟨by repeat (first | (with_reducible first | exact HK.out | apply Kept.alloc | apply Kept.drewN | apply Kept.drew) | exact HK.out)⟩, ⟨be_ HB.out⟩⟩
    ·
     rw [if_neg c4] at H; exact absurd H (by simp)
   ·
    rw [if_neg c3] at H; have c3b0 : decide (x5_1 < (x0_1.length : Int)) = false := decide_eq_false c3; clear c3; simp only [Option.some.injEq, Prod.mk.injEq] at H; obtain ⟨rfl, rfl⟩ := H; obtain ⟨Ao9, co9, eo9⟩ := Kd.R_slice HO_0.out; subst eo9
    go_wp2
    go_ret
    exact ⟨by first | rfl | (simp [errW_none, errW_some] <;> rfl) | (simp [*, errW_none, errW_some] <;> rfl), by (with_reducible repeat (first | apply Kd.R_alloc | apply Kd.R_drewN | apply Kd.R_drew)); exact HO_0.out, by repeat (first | (with_reducible first | exact HB.out | apply below_alloc | apply pw_below_drewN | apply below_drew1) | exact HB.out), by repeat (first | (with_reducible first | exact HK.out | apply Kept.alloc | apply Kept.drewN | apply Kept.drew) | exact HK.out)⟩

/-! ### laws_markRequestS: function 79, by hand -/
def laws_markRequestS.f (l0 : List (S95)) (a1 : Int) : Option Int := if l0.length = 0 then some a1 else none
set_option maxHeartbeats 8000000 in
set_option maxRecDepth 100000 in
theorem laws_markRequestS.calls (A0 : Option Addr) (c0 : Nat) (l0 : List (S95)) (a1 : Int) (r : Int) (w : World) (hr0 : Kd.C k95 w A0 l0.length l0) (hc0 : l0.length ≤ c0) (h : laws_markRequestS.f l0 a1 = some r) :
    Calls Try.prog 79 #[.slice A0 l0.length c0, .int .i64 a1] w fun e w' => e = .returned (.int .i64 r) ∧ Below w.heap.size w w' := by
  unfold laws_markRequestS.f at h
  by_cases c : l0.length = 0
  · rw [if_pos c] at h
    obtain rfl := Option.some.inj h
    rw [c]
    clear h hr0 hc0 c
    go_enter Try.func79, Try.ntmps79
    go_wp2
    go_loopg [1, 5] 0 (fun gg v1 v5 wr => v1 = .int .i64 a1 ∧ v5 = .int .i64 0 ∧ Aside0 (Below w.heap.size w wr))
    case atStart => exact ⟨rfl, rfl, ⟨Below.refl _ w⟩⟩
    case round =>
      obtain ⟨rfl, rfl, HB⟩ := hrel
      go_wp2
      go_ret
      exact ⟨rfl, HB.out⟩
  · rw [if_neg c] at h
    exact absurd h (by simp)


/-! ### laws_markRuntime: function 48, by hand -/
def laws_markRuntime.f (k : Nat) (a0_0 : Int) (a0_1 : Int) (a0_2 : Int) (l0_3 : List (S27)) (a0_4 : Int) (a0_5 : Int) (a0_6 : Int) (a0_7 : Int) (l0_8 : List (S88)) (l0_9 : List Bool) (l0_10 : List (S95)) (a1 : Int) : Option (Int × (List (S88)) × List Bool) := (laws_markSched.f a0_0 a0_1 a0_2 l0_3 a0_4 a0_5 a0_6 a0_7 a1).bind fun t254 => ((laws_markModelS.f l0_8 t254).bind fun bt255 => ((laws_markBoolS.f k l0_9 bt255.1).bind fun bt257 => ((laws_markRequestS.f l0_10 bt257.1).bind fun t259 => (some (t259, bt255.2, bt257.2)))))
set_option maxHeartbeats 8000000 in
set_option maxRecDepth 100000 in
theorem laws_markRuntime.calls (k : Nat) (a0_0 : Int) (a0_1 : Int) (a0_2 : Int) (A0_3 : Option Addr) (c0_3 : Nat) (l0_3 : List (S27)) (a0_4 : Int) (a0_5 : Int) (a0_6 : Int) (a0_7 : Int) (P0_8_ : Nat → Prop) (u9000_ : Value) (l0_8 : List (S88)) (P0_9_ : Nat → Prop) (u9001_ : Value) (l0_9 : List Bool) (A0_10 : Option Addr) (c0_10 : Nat) (l0_10 : List (S95)) (a1 : Int) (r1 : Int) (r2 : List (S88)) (r3 : List Bool) (w0 w : World) (hB : Below w0.heap.size w0 w) (hr0_3 : ∀ W_, Kept w W_ (fun k_ => some k_ = u9000_.ownBlock ∨ some k_ = u9001_.ownBlock) → Kd.C k27 W_ A0_3 l0_3.length l0_3) (hc0_3 : l0_3.length ≤ c0_3) (ho0_8 : Kd.R k88 88 w w0.heap.size P0_8_ u9000_ l0_8) (ho0_9 : Kd.R Kd.bool 4 w w0.heap.size P0_9_ u9001_ l0_9) (hr0_10 : ∀ W_, Kept w W_ (fun k_ => some k_ = u9000_.ownBlock ∨ some k_ = u9001_.ownBlock) → Kd.C k95 W_ A0_10 l0_10.length l0_10) (hc0_10 : l0_10.length ≤ c0_10) (h : laws_markRuntime.f k a0_0 a0_1 a0_2 l0_3 a0_4 a0_5 a0_6 a0_7 l0_8 l0_9 l0_10 a1 = some (r1, r2, r3)) :
  Calls Try.prog 48 #[.agg #[.int .i64 a0_0, .int .i64 a0_1, .int .i64 a0_2, .slice A0_3 l0_3.length c0_3, .int .i64 a0_4, .int .i64 a0_5, .int .i64 a0_6, .int .i64 a0_7, u9000_, u9001_, .slice A0_10 l0_10.length c0_10], .int .i64 a1] w fun e w' => e = .returned (.int .i64 r1) ∧ Kd.R k88 88 w' w0.heap.size P0_8_ u9000_ r2 ∧ Kd.R Kd.bool 4 w' w0.heap.size (fun k_ => (P0_9_ k_ ∨ w.heap.size ≤ k_)) u9001_ r3 ∧ Below w0.heap.size w0 w' ∧ Kept w w' (fun k_ => some k_ = u9000_.ownBlock ∨ some k_ = u9001_.ownBlock) := by
 have hu55 := Try.underlying55; have hu38 := Try.underlying38; have HR0_3 := Aside0.mk hr0_3; have HC0_3 := Aside0.mk hc0_3; clear hr0_3 hc0_3; have HO0_8 := Aside0.mk (show Kd.R k88 88 w w0.heap.size P0_8_ u9000_ l0_8 from ho0_8); have HO0_9 := Aside0.mk (show Kd.R Kd.bool 4 w w0.heap.size (fun k_ => (P0_9_ k_ ∨ w.heap.size ≤ k_)) u9001_ l0_9 from Kd.R_mono ho0_9 (fun k_ hk => (.inl hk))); have HR0_10 := Aside0.mk hr0_10; have HC0_10 := Aside0.mk hc0_10; clear hr0_10 hc0_10; have HK := Aside0.mk (Kept.refl w (fun k_ => some k_ = u9000_.ownBlock ∨ some k_ = u9001_.ownBlock)); have HW0 := Aside0.mk hB.size; have HB := Aside0.mk hB; clear hB; have H : ((laws_markSched.f a0_0 a0_1 a0_2 l0_3 a0_4 a0_5 a0_6 a0_7 a1).bind fun t254 => ((laws_markModelS.f l0_8 t254).bind fun bt255 => ((laws_markBoolS.f k l0_9 bt255.1).bind fun bt257 => ((laws_markRequestS.f l0_10 bt257.1).bind fun t259 => (some (t259, bt255.2, bt257.2)))))) = some (r1, r2, r3) := h; clear h; obtain ⟨t254, A3, H⟩ := bo_ H; (try dsimp only at H); obtain ⟨⟨t255, t256⟩, A4, H⟩ := bo_ H; (try dsimp only at H); obtain ⟨⟨t257, t258⟩, A5, H⟩ := bo_ H; (try dsimp only at H); obtain ⟨t259, A6, H⟩ := bo_ H; (try dsimp only at H); simp only [Option.some.injEq, Prod.mk.injEq] at H; obtain ⟨rfl, rfl, rfl⟩ := H; obtain ⟨Ao7, co7, eo7⟩ := Kd.R_slice HO0_8.out; subst eo7; obtain ⟨Ao8, co8, eo8⟩ := Kd.R_slice HO0_9.out; subst eo8
 go_enter Try.func48, Try.ntmps48
 go_wp2_with (first | ((with_reducible refine gate_dst (N := 2) rfl ?_); refine bz_ 2 ?_; intro gb253 hg w9 hbox hb; replace HO0_8 := rb_ HO0_8 hb; replace HO0_9 := rb_ HO0_9 hb; have BK253 := Aside0.mk (hbox); have GW253 := Aside0.mk ((by rw [hg]; exact (by first | exact HK.out.1 | exact (show Kept w _ (fun k_ => some k_ = (.slice Ao7 l0_8.length co7 : Value).ownBlock ∨ some k_ = (.slice Ao8 l0_9.length co8 : Value).ownBlock) from by repeat (first | (with_reducible first | exact HK.out | apply Kept.alloc | apply Kept.drewN | apply Kept.drew) | exact HK.out)).1) : w.heap.size ≤ gb253)); replace HK := Aside0.mk (Kept.below (S := (fun k_ => some k_ = (.slice Ao7 l0_8.length co7 : Value).ownBlock ∨ some k_ = (.slice Ao8 l0_9.length co8 : Value).ownBlock)) (by repeat (first | (with_reducible first | exact HK.out | apply Kept.alloc | apply Kept.drewN | apply Kept.drew) | exact HK.out)) hb); have GE253 := Aside0.mk ((by rw [hg]; exact (below_size (be_ HB.out)) : w0.heap.size ≤ gb253)); replace HB := hb_ HB hb; clear hb hbox hg; have hcz10 := box11_ BK253.out) | ((with_reducible refine gc_ 26 ?_); refine gl_ (some 8) Try.func26 #[.agg #[.int .i64 a0_0, .int .i64 a0_1, .int .i64 a0_2, .slice A0_3 l0_3.length c0_3, .int .i64 a0_4, .int .i64 a0_5, .int .i64 a0_6, .int .i64 a0_7], .int .i64 a1] ?_; (with_reducible refine (laws_markSched.calls ?_ ?_ A3.out).mono ?_); exact Kd.C_kept_now HR0_3.out (by repeat (first | (with_reducible first | exact HK.out | apply Kept.alloc | apply Kept.drewN | apply Kept.drew | refine Kept.setCell ?_ (.inr GW253.out) _) | exact HK.out)); exact HC0_3.out; rintro e w11 ⟨rfl, hb⟩; refine ⟨_, rfl, ?_⟩; replace HO0_8 := rb_ HO0_8 hb; replace HO0_9 := rb_ HO0_9 hb; replace BK253 := bb_ BK253 hb; replace HK := Aside0.mk (Kept.below (S := (fun k_ => some k_ = (.slice Ao7 l0_8.length co7 : Value).ownBlock ∨ some k_ = (.slice Ao8 l0_9.length co8 : Value).ownBlock)) (by repeat (first | (with_reducible first | exact HK.out | apply Kept.alloc | apply Kept.drewN | apply Kept.drew | refine Kept.setCell ?_ (.inr GW253.out) _) | exact HK.out)) hb); replace HB := hb_ HB hb; (try clear hb); have hcz12 := box11_ BK253.out) | ((with_reducible refine gc_ 77 ?_); refine gl_ (some 12) Try.func77 #[.slice Ao7 l0_8.length co7, .int .i64 t254] ?_; (with_reducible refine (laws_markModelS.calls P0_8_ (.slice Ao7 l0_8.length co7) l0_8 t254 t255 t256 w0 _ ?side1 ?side2 A4.out).mono ?_); (case side1 => repeat (first | (with_reducible first | exact HB.out | apply below_alloc | apply pw_below_drewN | apply below_drew1 | refine below_set ?_ GE253.out) | exact HB.out)); (case side2 => exact HO0_8.out); rintro e w13 ⟨rfl, hy0, hb, hkp⟩; refine ⟨_, rfl, ?_⟩; replace HO0_9 := Aside0.mk (Kd.R_mono (ok' := (fun k_ => (P0_9_ k_ ∨ w.heap.size ≤ k_))) (Kd.R_keptB ((Kd.R_apart' HO0_9.out (Kd.R_typed HO0_8.out) (by decide))) hkp (fun k_ hk_ hs_ => (hk_.2) hs_)) (fun k_ hk_ => hk_.1.1)); replace BK253 := Aside0.mk (blk_kept (bu_ BK253.out) hkp (fun hs_ => (Kd.R_ne HO0_8.out BK253.out (by decide)) hs_)); replace HK := Aside0.mk (Kept.then_ (S := (fun k_ => some k_ = (.slice Ao7 l0_8.length co7 : Value).ownBlock ∨ some k_ = (.slice Ao8 l0_9.length co8 : Value).ownBlock)) (by repeat (first | (with_reducible first | exact HK.out | apply Kept.alloc | apply Kept.drewN | apply Kept.drew | refine Kept.setCell ?_ (.inr GW253.out) _) | exact HK.out)) hkp (fun k_ hs_ => .inl (.inl hs_))); replace HO0_8 := Aside0.mk hy0; replace HB := Aside0.mk (hb); (try clear hb); (try clear hkp); (try clear hy0); have hcz14 := box11_ BK253.out) | ((with_reducible refine gc_ 78 ?_); refine gl_ (some 16) Try.func78 #[.slice Ao8 l0_9.length co8, .int .i64 t255] ?_; (with_reducible refine (laws_markBoolS.calls (P0_ := fun k_ => some k_ = (.slice Ao8 l0_9.length co8 : Value).ownBlock) (w0 := w0) ?side1 ?side2 A5.out).mono ?_); (case side1 => repeat (first | (with_reducible first | exact HB.out | apply below_alloc | apply pw_below_drewN | apply below_drew1 | refine below_set ?_ GE253.out) | exact HB.out)); (case side2 => exact Kd.R_tight rfl HO0_9.out); rintro e w15 ⟨rfl, hy0, hb, hkp⟩; refine ⟨_, rfl, ?_⟩; replace HO0_8 := Aside0.mk (Kd.R_mono (ok' := P0_8_) (Kd.R_keptB ((Kd.R_apart' HO0_8.out (Kd.R_typed HO0_9.out) (by decide))) hkp (fun k_ hk_ hs_ => (hk_.2) hs_)) (fun k_ hk_ => hk_.1.1)); replace BK253 := Aside0.mk (blk_kept (bu_ BK253.out) hkp (fun hs_ => (fun e_ => (Kd.R_ne HO0_9.out BK253.out (by decide)) e_) hs_)); replace HK := Aside0.mk (Kept.then_ (S := (fun k_ => some k_ = (.slice Ao7 l0_8.length co7 : Value).ownBlock ∨ some k_ = (.slice Ao8 l0_9.length co8 : Value).ownBlock)) (by repeat (first | (with_reducible first | exact HK.out | apply Kept.alloc | apply Kept.drewN | apply Kept.drew | refine Kept.setCell ?_ (.inr GW253.out) _) | exact HK.out)) hkp (fun k_ hs_ => .inl (.inr hs_))); replace HO0_9 := Aside0.mk (Kd.R_reok rfl hy0 (fun k_ e_ => HO0_9.out.1 k_ e_)); replace HB := Aside0.mk (hb); (try clear hb); (try clear hkp); (try clear hy0); have hcz16 := box11_ BK253.out) | ((with_reducible refine gc_ 79 ?_); refine gl_ (some 20) Try.func79 #[.slice A0_10 l0_10.length c0_10, .int .i64 t257] ?_; (with_reducible refine (laws_markRequestS.calls _ _ l0_10 t257 t259 _ ?_ ?_ A6.out).mono ?_); exact Kd.C_kept_now HR0_10.out (by repeat (first | (with_reducible first | exact HK.out | apply Kept.alloc | apply Kept.drewN | apply Kept.drew | refine Kept.setCell ?_ (.inr GW253.out) _) | exact HK.out)); exact HC0_10.out; rintro e w17 ⟨rfl, hb⟩; refine ⟨_, rfl, ?_⟩; replace HO0_8 := rb_ HO0_8 hb; replace HO0_9 := rb_ HO0_9 hb; replace BK253 := bb_ BK253 hb; replace HK := Aside0.mk (Kept.below (S := (fun k_ => some k_ = (.slice Ao7 l0_8.length co7 : Value).ownBlock ∨ some k_ = (.slice Ao8 l0_9.length co8 : Value).ownBlock)) (by repeat (first | (with_reducible first | exact HK.out | apply Kept.alloc | apply Kept.drewN | apply Kept.drew | refine Kept.setCell ?_ (.inr GW253.out) _) | exact HK.out)) hb); replace HB := hb_ HB hb; (try clear hb)))
 go_ret
 exact ⟨by first | rfl | (simp [errW_none, errW_some] <;> rfl) | (simp [*, errW_none, errW_some] <;> rfl), by (with_reducible repeat (first | apply Kd.R_alloc | apply Kd.R_drewN | apply Kd.R_drew)); exact HO0_8.out, by (with_reducible repeat (first | apply Kd.R_alloc | apply Kd.R_drewN | apply Kd.R_drew)); exact HO0_9.out, by repeat (first | (with_reducible first | exact HB.out | apply below_alloc | apply pw_below_drewN | apply below_drew1 | refine below_set ?_ GE253.out) | exact HB.out), by repeat (first | (with_reducible first | exact HK.out | apply Kept.alloc | apply Kept.drewN | apply Kept.drew | refine Kept.setCell ?_ (.inr GW253.out) _) | exact HK.out)⟩


/-! ### laws_heldIntS: function 40 -/
def laws_heldIntS.l0 : Nat → List Int → Int → Int → Option (Int)
 | 0, _, _, _ => none
 | k + 1, x0, x1, x5 => if x5 < (x0.length : Int) then (if 0 ≤ x5 then (if (rd x0 x5) = x1 then (laws_heldIntS.l0 k x0 (wrap64 (x1 + 1)) (wrap64 (x5 + 1))) else (some (-1))) else (none)) else (some x1)
def laws_heldIntS.f (k : Nat) (l0 : List Int) (a1 : Int) : Option (Int) := laws_heldIntS.l0 k l0 a1 0
set_option maxHeartbeats 8000000 in
set_option maxRecDepth 100000 in
theorem laws_heldIntS.calls {k : Nat} {A0 : Option Addr} {c0 : Nat} {l0 : List Int} {a1 : Int} {r : Int} {w : World} (hr0 : Kd.C (Kd.int .i64) w A0 l0.length l0) (hc0 : l0.length ≤ c0) (h : laws_heldIntS.f k l0 a1 = some r) :
  Calls Try.prog 40 #[.slice A0 l0.length c0, .int .i64 a1] w fun e w' => e = .returned (.int .i64 r) ∧ Drawn0 w w' := by
 have HR0 := Aside0.mk hr0; have HC0 := Aside0.mk hc0; clear hr0 hc0; have H : (laws_heldIntS.l0 k l0 a1 0) = some r := h; clear h; have H' := Aside0.mk H; clear H
 go_enter Try.func40, Try.ntmps40
 go_wp2
 go_loopg [1, 5] k (fun kq v1 v5 w' => ∃ (x1_1 : Int) (x5_1 : Int), v1 = .int .i64 x1_1 ∧ v5 = .int .i64 x5_1 ∧ Aside0 (laws_heldIntS.l0 kq l0 x1_1 x5_1 = some r) ∧ Aside0 (kq ≤ k) ∧ Drawn0 w w')
 case atStart => exact ⟨(a1), (0), (by first | rfl | (simp; done) | (simp [*]; done)), (by first | rfl | (simp; done) | (simp [*]; done)), H', ⟨Nat.le_refl _⟩, by repeat (first | exact Drawn0.refl _ | apply Drawn0.step)⟩
 case round =>
  clear H'; (try clear p2); obtain ⟨x1_1, x5_1, rfl, rfl, HA, HK1, ⟨m1, rfl⟩⟩ := hrel
  cases gk with
  | zero => exact absurd HA.out (by simp [laws_heldIntS.l0])
  | succ k1 =>
   have H := HA.out; clear HA; simp only [laws_heldIntS.l0] at H
   by_cases c3 : x5_1 < (l0.length : Int)
   ·
    rw [if_pos c3] at H; have c3b0 : decide (x5_1 < (l0.length : Int)) = true := decide_eq_true c3; clear c3
    by_cases c4 : 0 ≤ x5_1
    ·
     rw [if_pos c4] at H; have c4b0 : decide (0 ≤ x5_1) = true := decide_eq_true c4; clear c4
     by_cases c5 : (rd l0 x5_1) = x1_1
     ·
      rw [if_pos c5] at H; have c5b0 : ((rd l0 x5_1) == x1_1) = true := beq_iff_eq.mpr c5; have c5b1 : ((rd l0 x5_1) != x1_1) = false := bne_eq_false_iff_eq.mpr c5; clear c5; have H' := Aside0.mk H; clear H; have p253 : 0 ≤ (x5_1 : Int) := od_; have q253 : x5_1 < (l0.length : Int) := od_; obtain ⟨ad253, e253, hx253_0⟩ := Kd.at_int HR0.out x5_1 p253 q253
      cases e253
      replace p253 := eq_true p253; replace q253 := eq_true q253
      go_wp2
      go_roundg k1
      case measure => have := HK1.out; omega
      case rel => exact ⟨(wrap64 (x1_1 + 1)), (wrap64 (x5_1 + 1)), (by first | rfl | (simp; done) | (simp [*]; done)), (by first | rfl | (simp; done) | (simp [*]; done)), H', ⟨by have := HK1.out; omega⟩, by repeat (first | exact Drawn0.refl _ | apply Drawn0.step)⟩
     ·
      rw [if_neg c5] at H; have c5b0 : ((rd l0 x5_1) == x1_1) = false := beq_eq_false_iff_ne.mpr c5; have c5b1 : ((rd l0 x5_1) != x1_1) = true := bne_iff_ne.mpr c5; obtain rfl := Option.some.inj H; have p253 : 0 ≤ (x5_1 : Int) := od_; have q253 : x5_1 < (l0.length : Int) := od_; obtain ⟨ad253, e253, hx253_0⟩ := Kd.at_int HR0.out x5_1 p253 q253
      cases e253
      replace p253 := eq_true p253; replace q253 := eq_true q253
      go_wp2
      go_ret
      exact ⟨by first | rfl | (simp; done) | (simp [*]; done), by repeat (first | exact Drawn0.refl _ | apply Drawn0.step)⟩
    ·
     rw [if_neg c4] at H; exact absurd H (by simp)
   ·
    rw [if_neg c3] at H; have c3b0 : decide (x5_1 < (l0.length : Int)) = false := decide_eq_false c3; clear c3; obtain rfl := Option.some.inj H
    go_wp2
    go_ret
    exact ⟨by first | rfl | (simp; done) | (simp [*]; done), by repeat (first | exact Drawn0.refl _ | apply Drawn0.step)⟩

/-! ### laws_heldTaskS: function 65 -/
def laws_heldTaskS.l0 : Nat → List (S27) → Int → Int → Option (Int)
 | 0, _, _, _ => none
 | k + 1, x0, x1, x5 => if x5 < (x0.length : Int) then (if 0 ≤ x5 then (if ((rd_T27 x0 x5).f0) = x1 then ((laws_heldIntS.f k ((rd_T27 x0 x5).f1) (wrap64 (x1 + 1))).bind fun t256 => (if t256 < 0 then (some (-1)) else (if ((rd_T27 x0 x5).f2) = t256 then (if ((rd_T27 x0 x5).f3) = (wrap64 (t256 + 1)) then (if ((rd_T27 x0 x5).f4) = (wrap64 ((wrap64 (t256 + 1)) + 1)) then (laws_heldTaskS.l0 k x0 (wrap64 ((wrap64 ((wrap64 (t256 + 1)) + 1)) + 1)) (wrap64 (x5 + 1))) else (some (-1))) else (some (-1))) else (some (-1))))) else (some (-1))) else (none)) else (some x1)
def laws_heldTaskS.f (k : Nat) (l0 : List (S27)) (a1 : Int) : Option (Int) := laws_heldTaskS.l0 k l0 a1 0
set_option maxHeartbeats 8000000 in
set_option maxRecDepth 100000 in
theorem laws_heldTaskS.calls {k : Nat} {A0 : Option Addr} {c0 : Nat} {l0 : List (S27)} {a1 : Int} {r : Int} {w : World} (hr0 : Kd.C k27 w A0 l0.length l0) (hc0 : l0.length ≤ c0) (h : laws_heldTaskS.f k l0 a1 = some r) :
  Calls Try.prog 65 #[.slice A0 l0.length c0, .int .i64 a1] w fun e w' => e = .returned (.int .i64 r) ∧ Drawn0 w w' := by
 have HR0 := Aside0.mk hr0; have HC0 := Aside0.mk hc0; clear hr0 hc0; have H : (laws_heldTaskS.l0 k l0 a1 0) = some r := h; clear h; have H' := Aside0.mk H; clear H
 go_enter Try.func65, Try.ntmps65
 go_wp2
 go_loopg [1, 5] k (fun kq v1 v5 w' => ∃ (x1_1 : Int) (x5_1 : Int), v1 = .int .i64 x1_1 ∧ v5 = .int .i64 x5_1 ∧ Aside0 (laws_heldTaskS.l0 kq l0 x1_1 x5_1 = some r) ∧ Aside0 (kq ≤ k) ∧ Drawn0 w w')
 case atStart => exact ⟨(a1), (0), (by first | rfl | (simp; done) | (simp [*]; done)), (by first | rfl | (simp; done) | (simp [*]; done)), H', ⟨Nat.le_refl _⟩, by repeat (first | exact Drawn0.refl _ | apply Drawn0.step)⟩
 case round =>
  clear H'; (try clear p2); obtain ⟨x1_1, x5_1, rfl, rfl, HA, HK1, ⟨m1, rfl⟩⟩ := hrel
  cases gk with
  | zero => exact absurd HA.out (by simp [laws_heldTaskS.l0])
  | succ k1 =>
   have H := HA.out; clear HA; simp only [laws_heldTaskS.l0] at H
   by_cases c3 : x5_1 < (l0.length : Int)
   ·
    rw [if_pos c3] at H; have c3b0 : decide (x5_1 < (l0.length : Int)) = true := decide_eq_true c3; clear c3
    by_cases c4 : 0 ≤ x5_1
    ·
     rw [if_pos c4] at H; have c4b0 : decide (0 ≤ x5_1) = true := decide_eq_true c4; clear c4
     by_cases c5 : ((rd_T27 l0 x5_1).f0) = x1_1
     ·
      rw [if_pos c5] at H; have c5b0 : (((rd_T27 l0 x5_1).f0) == x1_1) = true := beq_iff_eq.mpr c5; have c5b1 : (((rd_T27 l0 x5_1).f0) != x1_1) = false := bne_eq_false_iff_eq.mpr c5; clear c5; obtain ⟨t256, A6, H⟩ := bo_ H; (try dsimp only at H)
      by_cases c7 : t256 < 0
      ·
       rw [if_pos c7] at H; have c7b0 : decide (t256 < 0) = true := decide_eq_true c7; clear c7; obtain rfl := Option.some.inj H; have p254 : 0 ≤ (x5_1 : Int) := od_; have q254 : x5_1 < (l0.length : Int) := od_; obtain ⟨ad254, A254_1, c254_1, e254, hx254_0, hx254_1, hx254_2, hx254_3, hx254_4, hl254_1, hi254_1⟩ := at_T27 HR0.out x5_1 p254 q254
       cases e254
       have HR254_1 := Aside0.mk hi254_1; have HC254_1 := Aside0.mk hl254_1; clear hi254_1 hl254_1; replace p254 := eq_true p254; replace q254 := eq_true q254; have p255 : 0 ≤ (x5_1 : Int) := od_; have q255 : x5_1 < (l0.length : Int) := od_; obtain ⟨ad255, A255_1, c255_1, e255, hx255_0, hx255_1, hx255_2, hx255_3, hx255_4, hl255_1, hi255_1⟩ := at_T27 HR0.out x5_1 p255 q255; obtain rfl : ad254 = ad255 := (by injection e255); have HR255_1 := Aside0.mk hi255_1; have HC255_1 := Aside0.mk hl255_1; clear hi255_1 hl255_1; replace p255 := eq_true p255; replace q255 := eq_true q255; have ea_ := Option.some.inj (hx254_1.symm.trans hx255_1)
       injection ea_ with ea_ en_ ec_
       subst ea_; subst ec_; clear en_
       go_wp2_with (first | ((with_reducible refine gc_ 40 ?_); refine gl_ (some 27) Try.func40 #[.slice A254_1 ((rd_T27 l0 x5_1).f1).length c254_1, .int .i64 (wrap64 (x1_1 + 1))] ?_; (with_reducible refine (laws_heldIntS.calls ?side1 ?side2 A6.out).mono ?_); (case side1 => repeat (first | exact HR255_1.out | (with_reducible refine Kd.C_alloc ?_ _) | (with_reducible refine Kd.C_drewN ?_ _) | (with_reducible refine Kd.C_drew ?_))); (case side2 => exact HC255_1.out); rintro e w' ⟨rfl, ⟨nd, rfl⟩⟩; refine ⟨_, rfl, ?_⟩))
       go_ret
       exact ⟨by first | rfl | (simp; done) | (simp [*]; done), by repeat (first | exact Drawn0.refl _ | apply Drawn0.step)⟩
      ·
       rw [if_neg c7] at H; have c7b0 : decide (t256 < 0) = false := decide_eq_false c7; clear c7
       by_cases c8 : ((rd_T27 l0 x5_1).f2) = t256
       ·
        rw [if_pos c8] at H; have c8b0 : (((rd_T27 l0 x5_1).f2) == t256) = true := beq_iff_eq.mpr c8; have c8b1 : (((rd_T27 l0 x5_1).f2) != t256) = false := bne_eq_false_iff_eq.mpr c8; clear c8
        by_cases c9 : ((rd_T27 l0 x5_1).f3) = (wrap64 (t256 + 1))
        ·
         rw [if_pos c9] at H; have c9b0 : (((rd_T27 l0 x5_1).f3) == (wrap64 (t256 + 1))) = true := beq_iff_eq.mpr c9; have c9b1 : (((rd_T27 l0 x5_1).f3) != (wrap64 (t256 + 1))) = false := bne_eq_false_iff_eq.mpr c9; clear c9
         by_cases c10 : ((rd_T27 l0 x5_1).f4) = (wrap64 ((wrap64 (t256 + 1)) + 1))
         ·
          rw [if_pos c10] at H; have c10b0 : (((rd_T27 l0 x5_1).f4) == (wrap64 ((wrap64 (t256 + 1)) + 1))) = true := beq_iff_eq.mpr c10; have c10b1 : (((rd_T27 l0 x5_1).f4) != (wrap64 ((wrap64 (t256 + 1)) + 1))) = false := bne_eq_false_iff_eq.mpr c10; clear c10; have H' := Aside0.mk H; clear H; have p254 : 0 ≤ (x5_1 : Int) := od_; have q254 : x5_1 < (l0.length : Int) := od_; obtain ⟨ad254, A254_1, c254_1, e254, hx254_0, hx254_1, hx254_2, hx254_3, hx254_4, hl254_1, hi254_1⟩ := at_T27 HR0.out x5_1 p254 q254
          cases e254
          have HR254_1 := Aside0.mk hi254_1; have HC254_1 := Aside0.mk hl254_1; clear hi254_1 hl254_1; replace p254 := eq_true p254; replace q254 := eq_true q254; have p255 : 0 ≤ (x5_1 : Int) := od_; have q255 : x5_1 < (l0.length : Int) := od_; obtain ⟨ad255, A255_1, c255_1, e255, hx255_0, hx255_1, hx255_2, hx255_3, hx255_4, hl255_1, hi255_1⟩ := at_T27 HR0.out x5_1 p255 q255; obtain rfl : ad254 = ad255 := (by injection e255); have HR255_1 := Aside0.mk hi255_1; have HC255_1 := Aside0.mk hl255_1; clear hi255_1 hl255_1; replace p255 := eq_true p255; replace q255 := eq_true q255; have ea_ := Option.some.inj (hx254_1.symm.trans hx255_1)
          injection ea_ with ea_ en_ ec_
          subst ea_; subst ec_; clear en_
          go_wp2_with (first | ((with_reducible refine gc_ 40 ?_); refine gl_ (some 27) Try.func40 #[.slice A254_1 ((rd_T27 l0 x5_1).f1).length c254_1, .int .i64 (wrap64 (x1_1 + 1))] ?_; (with_reducible refine (laws_heldIntS.calls ?side1 ?side2 A6.out).mono ?_); (case side1 => repeat (first | exact HR255_1.out | (with_reducible refine Kd.C_alloc ?_ _) | (with_reducible refine Kd.C_drewN ?_ _) | (with_reducible refine Kd.C_drew ?_))); (case side2 => exact HC255_1.out); rintro e w' ⟨rfl, ⟨nd, rfl⟩⟩; refine ⟨_, rfl, ?_⟩; have p257 : 0 ≤ (x5_1 : Int) := od_; have q257 : x5_1 < (l0.length : Int) := od_; obtain ⟨ad257, A257_1, c257_1, e257, hx257_0, hx257_1, hx257_2, hx257_3, hx257_4, hl257_1, hi257_1⟩ := at_T27 HR0.out x5_1 p257 q257; obtain rfl : ad254 = ad257 := (by injection e257); have HR257_1 := Aside0.mk hi257_1; have HC257_1 := Aside0.mk hl257_1; clear hi257_1 hl257_1; replace p257 := eq_true p257; replace q257 := eq_true q257; have ea_ := Option.some.inj (hx254_1.symm.trans hx257_1); injection ea_ with ea_ en_ ec_; subst ea_; subst ec_; clear en_; have p258 : 0 ≤ (x5_1 : Int) := od_; have q258 : x5_1 < (l0.length : Int) := od_; obtain ⟨ad258, A258_1, c258_1, e258, hx258_0, hx258_1, hx258_2, hx258_3, hx258_4, hl258_1, hi258_1⟩ := at_T27 HR0.out x5_1 p258 q258; obtain rfl : ad254 = ad258 := (by injection e258); have HR258_1 := Aside0.mk hi258_1; have HC258_1 := Aside0.mk hl258_1; clear hi258_1 hl258_1; replace p258 := eq_true p258; replace q258 := eq_true q258; have ea_ := Option.some.inj (hx254_1.symm.trans hx258_1); injection ea_ with ea_ en_ ec_; subst ea_; subst ec_; clear en_; have p259 : 0 ≤ (x5_1 : Int) := od_; have q259 : x5_1 < (l0.length : Int) := od_; obtain ⟨ad259, A259_1, c259_1, e259, hx259_0, hx259_1, hx259_2, hx259_3, hx259_4, hl259_1, hi259_1⟩ := at_T27 HR0.out x5_1 p259 q259; obtain rfl : ad254 = ad259 := (by injection e259); have HR259_1 := Aside0.mk hi259_1; have HC259_1 := Aside0.mk hl259_1; clear hi259_1 hl259_1; replace p259 := eq_true p259; replace q259 := eq_true q259; have ea_ := Option.some.inj (hx254_1.symm.trans hx259_1); injection ea_ with ea_ en_ ec_; subst ea_; subst ec_; clear en_))
          go_roundg k1
          case measure => have := HK1.out; omega
          case rel => exact ⟨(wrap64 ((wrap64 ((wrap64 (t256 + 1)) + 1)) + 1)), (wrap64 (x5_1 + 1)), (by first | rfl | (simp; done) | (simp [*]; done)), (by first | rfl | (simp; done) | (simp [*]; done)), H', ⟨by have := HK1.out; omega⟩, by repeat (first | exact Drawn0.refl _ | apply Drawn0.step)⟩
         ·
          rw [if_neg c10] at H; have c10b0 : (((rd_T27 l0 x5_1).f4) == (wrap64 ((wrap64 (t256 + 1)) + 1))) = false := beq_eq_false_iff_ne.mpr c10; have c10b1 : (((rd_T27 l0 x5_1).f4) != (wrap64 ((wrap64 (t256 + 1)) + 1))) = true := bne_iff_ne.mpr c10; obtain rfl := Option.some.inj H; have p254 : 0 ≤ (x5_1 : Int) := od_; have q254 : x5_1 < (l0.length : Int) := od_; obtain ⟨ad254, A254_1, c254_1, e254, hx254_0, hx254_1, hx254_2, hx254_3, hx254_4, hl254_1, hi254_1⟩ := at_T27 HR0.out x5_1 p254 q254
          cases e254
          have HR254_1 := Aside0.mk hi254_1; have HC254_1 := Aside0.mk hl254_1; clear hi254_1 hl254_1; replace p254 := eq_true p254; replace q254 := eq_true q254; have p255 : 0 ≤ (x5_1 : Int) := od_; have q255 : x5_1 < (l0.length : Int) := od_; obtain ⟨ad255, A255_1, c255_1, e255, hx255_0, hx255_1, hx255_2, hx255_3, hx255_4, hl255_1, hi255_1⟩ := at_T27 HR0.out x5_1 p255 q255; obtain rfl : ad254 = ad255 := (by injection e255); have HR255_1 := Aside0.mk hi255_1; have HC255_1 := Aside0.mk hl255_1; clear hi255_1 hl255_1; replace p255 := eq_true p255; replace q255 := eq_true q255; have ea_ := Option.some.inj (hx254_1.symm.trans hx255_1)
          injection ea_ with ea_ en_ ec_
          subst ea_; subst ec_; clear en_
          go_wp2_with (first | ((with_reducible refine gc_ 40 ?_); refine gl_ (some 27) Try.func40 #[.slice A254_1 ((rd_T27 l0 x5_1).f1).length c254_1, .int .i64 (wrap64 (x1_1 + 1))] ?_; (with_reducible refine (laws_heldIntS.calls ?side1 ?side2 A6.out).mono ?_); (case side1 => repeat (first | exact HR255_1.out | (with_reducible refine Kd.C_alloc ?_ _) | (with_reducible refine Kd.C_drewN ?_ _) | (with_reducible refine Kd.C_drew ?_))); (case side2 => exact HC255_1.out); rintro e w' ⟨rfl, ⟨nd, rfl⟩⟩; refine ⟨_, rfl, ?_⟩; have p257 : 0 ≤ (x5_1 : Int) := od_; have q257 : x5_1 < (l0.length : Int) := od_; obtain ⟨ad257, A257_1, c257_1, e257, hx257_0, hx257_1, hx257_2, hx257_3, hx257_4, hl257_1, hi257_1⟩ := at_T27 HR0.out x5_1 p257 q257; obtain rfl : ad254 = ad257 := (by injection e257); have HR257_1 := Aside0.mk hi257_1; have HC257_1 := Aside0.mk hl257_1; clear hi257_1 hl257_1; replace p257 := eq_true p257; replace q257 := eq_true q257; have ea_ := Option.some.inj (hx254_1.symm.trans hx257_1); injection ea_ with ea_ en_ ec_; subst ea_; subst ec_; clear en_; have p258 : 0 ≤ (x5_1 : Int) := od_; have q258 : x5_1 < (l0.length : Int) := od_; obtain ⟨ad258, A258_1, c258_1, e258, hx258_0, hx258_1, hx258_2, hx258_3, hx258_4, hl258_1, hi258_1⟩ := at_T27 HR0.out x5_1 p258 q258; obtain rfl : ad254 = ad258 := (by injection e258); have HR258_1 := Aside0.mk hi258_1; have HC258_1 := Aside0.mk hl258_1; clear hi258_1 hl258_1; replace p258 := eq_true p258; replace q258 := eq_true q258; have ea_ := Option.some.inj (hx254_1.symm.trans hx258_1); injection ea_ with ea_ en_ ec_; subst ea_; subst ec_; clear en_; have p259 : 0 ≤ (x5_1 : Int) := od_; have q259 : x5_1 < (l0.length : Int) := od_; obtain ⟨ad259, A259_1, c259_1, e259, hx259_0, hx259_1, hx259_2, hx259_3, hx259_4, hl259_1, hi259_1⟩ := at_T27 HR0.out x5_1 p259 q259; obtain rfl : ad254 = ad259 := (by injection e259); have HR259_1 := Aside0.mk hi259_1; have HC259_1 := Aside0.mk hl259_1; clear hi259_1 hl259_1; replace p259 := eq_true p259; replace q259 := eq_true q259; have ea_ := Option.some.inj (hx254_1.symm.trans hx259_1); injection ea_ with ea_ en_ ec_; subst ea_; subst ec_; clear en_))
          go_ret
          exact ⟨by first | rfl | (simp; done) | (simp [*]; done), by repeat (first | exact Drawn0.refl _ | apply Drawn0.step)⟩
        ·
         rw [if_neg c9] at H; have c9b0 : (((rd_T27 l0 x5_1).f3) == (wrap64 (t256 + 1))) = false := beq_eq_false_iff_ne.mpr c9; have c9b1 : (((rd_T27 l0 x5_1).f3) != (wrap64 (t256 + 1))) = true := bne_iff_ne.mpr c9; obtain rfl := Option.some.inj H; have p254 : 0 ≤ (x5_1 : Int) := od_; have q254 : x5_1 < (l0.length : Int) := od_; obtain ⟨ad254, A254_1, c254_1, e254, hx254_0, hx254_1, hx254_2, hx254_3, hx254_4, hl254_1, hi254_1⟩ := at_T27 HR0.out x5_1 p254 q254
         cases e254
         have HR254_1 := Aside0.mk hi254_1; have HC254_1 := Aside0.mk hl254_1; clear hi254_1 hl254_1; replace p254 := eq_true p254; replace q254 := eq_true q254; have p255 : 0 ≤ (x5_1 : Int) := od_; have q255 : x5_1 < (l0.length : Int) := od_; obtain ⟨ad255, A255_1, c255_1, e255, hx255_0, hx255_1, hx255_2, hx255_3, hx255_4, hl255_1, hi255_1⟩ := at_T27 HR0.out x5_1 p255 q255; obtain rfl : ad254 = ad255 := (by injection e255); have HR255_1 := Aside0.mk hi255_1; have HC255_1 := Aside0.mk hl255_1; clear hi255_1 hl255_1; replace p255 := eq_true p255; replace q255 := eq_true q255; have ea_ := Option.some.inj (hx254_1.symm.trans hx255_1)
         injection ea_ with ea_ en_ ec_
         subst ea_; subst ec_; clear en_
         go_wp2_with (first | ((with_reducible refine gc_ 40 ?_); refine gl_ (some 27) Try.func40 #[.slice A254_1 ((rd_T27 l0 x5_1).f1).length c254_1, .int .i64 (wrap64 (x1_1 + 1))] ?_; (with_reducible refine (laws_heldIntS.calls ?side1 ?side2 A6.out).mono ?_); (case side1 => repeat (first | exact HR255_1.out | (with_reducible refine Kd.C_alloc ?_ _) | (with_reducible refine Kd.C_drewN ?_ _) | (with_reducible refine Kd.C_drew ?_))); (case side2 => exact HC255_1.out); rintro e w' ⟨rfl, ⟨nd, rfl⟩⟩; refine ⟨_, rfl, ?_⟩; have p257 : 0 ≤ (x5_1 : Int) := od_; have q257 : x5_1 < (l0.length : Int) := od_; obtain ⟨ad257, A257_1, c257_1, e257, hx257_0, hx257_1, hx257_2, hx257_3, hx257_4, hl257_1, hi257_1⟩ := at_T27 HR0.out x5_1 p257 q257; obtain rfl : ad254 = ad257 := (by injection e257); have HR257_1 := Aside0.mk hi257_1; have HC257_1 := Aside0.mk hl257_1; clear hi257_1 hl257_1; replace p257 := eq_true p257; replace q257 := eq_true q257; have ea_ := Option.some.inj (hx254_1.symm.trans hx257_1); injection ea_ with ea_ en_ ec_; subst ea_; subst ec_; clear en_; have p258 : 0 ≤ (x5_1 : Int) := od_; have q258 : x5_1 < (l0.length : Int) := od_; obtain ⟨ad258, A258_1, c258_1, e258, hx258_0, hx258_1, hx258_2, hx258_3, hx258_4, hl258_1, hi258_1⟩ := at_T27 HR0.out x5_1 p258 q258; obtain rfl : ad254 = ad258 := (by injection e258); have HR258_1 := Aside0.mk hi258_1; have HC258_1 := Aside0.mk hl258_1; clear hi258_1 hl258_1; replace p258 := eq_true p258; replace q258 := eq_true q258; have ea_ := Option.some.inj (hx254_1.symm.trans hx258_1); injection ea_ with ea_ en_ ec_; subst ea_; subst ec_; clear en_))
         go_ret
         exact ⟨by first | rfl | (simp; done) | (simp [*]; done), by repeat (first | exact Drawn0.refl _ | apply Drawn0.step)⟩
       ·
        rw [if_neg c8] at H; have c8b0 : (((rd_T27 l0 x5_1).f2) == t256) = false := beq_eq_false_iff_ne.mpr c8; have c8b1 : (((rd_T27 l0 x5_1).f2) != t256) = true := bne_iff_ne.mpr c8; obtain rfl := Option.some.inj H; have p254 : 0 ≤ (x5_1 : Int) := od_; have q254 : x5_1 < (l0.length : Int) := od_; obtain ⟨ad254, A254_1, c254_1, e254, hx254_0, hx254_1, hx254_2, hx254_3, hx254_4, hl254_1, hi254_1⟩ := at_T27 HR0.out x5_1 p254 q254
        cases e254
        have HR254_1 := Aside0.mk hi254_1; have HC254_1 := Aside0.mk hl254_1; clear hi254_1 hl254_1; replace p254 := eq_true p254; replace q254 := eq_true q254; have p255 : 0 ≤ (x5_1 : Int) := od_; have q255 : x5_1 < (l0.length : Int) := od_; obtain ⟨ad255, A255_1, c255_1, e255, hx255_0, hx255_1, hx255_2, hx255_3, hx255_4, hl255_1, hi255_1⟩ := at_T27 HR0.out x5_1 p255 q255; obtain rfl : ad254 = ad255 := (by injection e255); have HR255_1 := Aside0.mk hi255_1; have HC255_1 := Aside0.mk hl255_1; clear hi255_1 hl255_1; replace p255 := eq_true p255; replace q255 := eq_true q255; have ea_ := Option.some.inj (hx254_1.symm.trans hx255_1)
        injection ea_ with ea_ en_ ec_
        subst ea_; subst ec_; clear en_
        go_wp2_with (first | ((with_reducible refine gc_ 40 ?_); refine gl_ (some 27) Try.func40 #[.slice A254_1 ((rd_T27 l0 x5_1).f1).length c254_1, .int .i64 (wrap64 (x1_1 + 1))] ?_; (with_reducible refine (laws_heldIntS.calls ?side1 ?side2 A6.out).mono ?_); (case side1 => repeat (first | exact HR255_1.out | (with_reducible refine Kd.C_alloc ?_ _) | (with_reducible refine Kd.C_drewN ?_ _) | (with_reducible refine Kd.C_drew ?_))); (case side2 => exact HC255_1.out); rintro e w' ⟨rfl, ⟨nd, rfl⟩⟩; refine ⟨_, rfl, ?_⟩; have p257 : 0 ≤ (x5_1 : Int) := od_; have q257 : x5_1 < (l0.length : Int) := od_; obtain ⟨ad257, A257_1, c257_1, e257, hx257_0, hx257_1, hx257_2, hx257_3, hx257_4, hl257_1, hi257_1⟩ := at_T27 HR0.out x5_1 p257 q257; obtain rfl : ad254 = ad257 := (by injection e257); have HR257_1 := Aside0.mk hi257_1; have HC257_1 := Aside0.mk hl257_1; clear hi257_1 hl257_1; replace p257 := eq_true p257; replace q257 := eq_true q257; have ea_ := Option.some.inj (hx254_1.symm.trans hx257_1); injection ea_ with ea_ en_ ec_; subst ea_; subst ec_; clear en_))
        go_ret
        exact ⟨by first | rfl | (simp; done) | (simp [*]; done), by repeat (first | exact Drawn0.refl _ | apply Drawn0.step)⟩
     ·
      rw [if_neg c5] at H; have c5b0 : (((rd_T27 l0 x5_1).f0) == x1_1) = false := beq_eq_false_iff_ne.mpr c5; have c5b1 : (((rd_T27 l0 x5_1).f0) != x1_1) = true := bne_iff_ne.mpr c5; obtain rfl := Option.some.inj H; have p254 : 0 ≤ (x5_1 : Int) := od_; have q254 : x5_1 < (l0.length : Int) := od_; obtain ⟨ad254, A254_1, c254_1, e254, hx254_0, hx254_1, hx254_2, hx254_3, hx254_4, hl254_1, hi254_1⟩ := at_T27 HR0.out x5_1 p254 q254
      cases e254
      have HR254_1 := Aside0.mk hi254_1; have HC254_1 := Aside0.mk hl254_1; clear hi254_1 hl254_1; replace p254 := eq_true p254; replace q254 := eq_true q254
      go_wp2
      go_ret
      exact ⟨by first | rfl | (simp; done) | (simp [*]; done), by repeat (first | exact Drawn0.refl _ | apply Drawn0.step)⟩
    ·
     rw [if_neg c4] at H; exact absurd H (by simp)
   ·
    rw [if_neg c3] at H; have c3b0 : decide (x5_1 < (l0.length : Int)) = false := decide_eq_false c3; clear c3; obtain rfl := Option.some.inj H
    go_wp2
    go_ret
    exact ⟨by first | rfl | (simp; done) | (simp [*]; done), by repeat (first | exact Drawn0.refl _ | apply Drawn0.step)⟩

/-! ### laws_heldSched: function 27 -/
def laws_heldSched.f (k : Nat) (a0_0 : Int) (a0_1 : Int) (a0_2 : Int) (l0_3 : List (S27)) (a0_4 : Int) (a0_5 : Int) (a0_6 : Int) (a0_7 : Int) (a1 : Int) : Option (Int) := (laws_heldTaskS.f k l0_3 a1).bind fun t261 => (if t261 < 0 then (some (-1)) else (some t261))
set_option maxHeartbeats 8000000 in
set_option maxRecDepth 100000 in
theorem laws_heldSched.calls {k : Nat} {a0_0 : Int} {a0_1 : Int} {a0_2 : Int} {A0_3 : Option Addr} {c0_3 : Nat} {l0_3 : List (S27)} {a0_4 : Int} {a0_5 : Int} {a0_6 : Int} {a0_7 : Int} {a1 : Int} {r : Int} {w : World} (hr0_3 : Kd.C k27 w A0_3 l0_3.length l0_3) (hc0_3 : l0_3.length ≤ c0_3) (h : laws_heldSched.f k a0_0 a0_1 a0_2 l0_3 a0_4 a0_5 a0_6 a0_7 a1 = some r) :
  Calls Try.prog 27 #[.agg #[.int .i64 a0_0, .int .i64 a0_1, .int .i64 a0_2, .slice A0_3 l0_3.length c0_3, .int .i64 a0_4, .int .i64 a0_5, .int .i64 a0_6, .int .i64 a0_7], .int .i64 a1] w fun e w' => e = .returned (.int .i64 r) ∧ Below w.heap.size w w' := by
 have hu38 := Try.underlying38; have HR0_3 := Aside0.mk hr0_3; have HC0_3 := Aside0.mk hc0_3; clear hr0_3 hc0_3; have HB := Aside0.mk (Below.refl w.heap.size w); have H : ((laws_heldTaskS.f k l0_3 a1).bind fun t261 => (if t261 < 0 then (some (-1)) else (some t261))) = some r := h; clear h; obtain ⟨t261, A3, H⟩ := bo_ H; (try dsimp only at H)
 by_cases c4 : t261 < 0
 ·
  rw [if_pos c4] at H; have c4b0 : decide (t261 < 0) = true := decide_eq_true c4; clear c4; obtain rfl := Option.some.inj H
  go_enter Try.func27, Try.ntmps27
  go_wp2_with (first | ((with_reducible refine gate_dst (N := 2) rfl ?_); refine bz_ 2 ?_; intro gb260 hg w5 hbox hb; obtain ⟨BK260, GW260, GE260, HB⟩ := nb_ hg hbox HB hb; clear hb hbox hg; have hcz6 := box8_ BK260.out) | ((with_reducible refine gc_ 65 ?_); refine gl_ (some 8) Try.func65 #[.slice A0_3 l0_3.length c0_3, .int .i64 a1] ?_; (with_reducible refine (laws_heldTaskS.calls ?_ ?_ A3.out).mono ?_); exact cu_ HR0_3.out HB.out; exact HC0_3.out; rintro e w' ⟨rfl, ⟨nd, rfl⟩⟩; refine ⟨_, rfl, ?_⟩))
  go_ret
  exact rt_ HB.out
 ·
  rw [if_neg c4] at H; have c4b0 : decide (t261 < 0) = false := decide_eq_false c4; clear c4; obtain rfl := Option.some.inj H
  go_enter Try.func27, Try.ntmps27
  go_wp2_with (first | ((with_reducible refine gate_dst (N := 2) rfl ?_); refine bz_ 2 ?_; intro gb260 hg w7 hbox hb; obtain ⟨BK260, GW260, GE260, HB⟩ := nb_ hg hbox HB hb; clear hb hbox hg; have hcz8 := box8_ BK260.out) | ((with_reducible refine gc_ 65 ?_); refine gl_ (some 8) Try.func65 #[.slice A0_3 l0_3.length c0_3, .int .i64 a1] ?_; (with_reducible refine (laws_heldTaskS.calls ?_ ?_ A3.out).mono ?_); exact cu_ HR0_3.out HB.out; exact HC0_3.out; rintro e w' ⟨rfl, ⟨nd, rfl⟩⟩; refine ⟨_, rfl, ?_⟩))
  go_ret
  exact rt_ HB.out

end Go.Proofs.Ytljboinndpnefaa.QFnExactNewRuntime
