/- The Go functions that the statement FnExactPlanText reaches, as Lean functions, each with a proof that the call does what its function says; laid by a program of this session. No condition. -/
import Derived.Test.YtgolleldpmkkoaaGreatDoorQFnExactPlanTextx0
namespace Go.Proofs.YtgolleldpmkkoaaGreatDoor.QFnExactPlanText
open Go.RowKit Go.Proofs.YtgolleldpmkkoaaGreatDoorW.PrintWords Go.Proofs.YtgolleldpmkkoaaGreatDoorW.PrintLast Go.Proofs.YtgolleldpmkkoaaGreatDoorW.PrintMore
attribute [local go_sem] max2_int min2_int max_two min_two max_three min_three max_four min_four   -- for this text's walks alone
set_option linter.unusedVariables false
set_option linter.unusedSimpArgs false

def laws_eqShape.f (a0_0 : Int) (a0_1 : Int) (a0_2 : Int) (a1_0 : Int) (a1_1 : Int) (a1_2 : Int) : Option (Bool) := if a0_0 = a1_0 then (if a0_1 = a1_1 then (if a0_2 = a1_2 then (some true) else (some false)) else (some false)) else (some false)
set_option maxHeartbeats 8000000 in
set_option maxRecDepth 100000 in
theorem laws_eqShape.calls {a0_0 : Int} {a0_1 : Int} {a0_2 : Int} {a1_0 : Int} {a1_1 : Int} {a1_2 : Int} {r : Bool} {w : World} (h : laws_eqShape.f a0_0 a0_1 a0_2 a1_0 a1_1 a1_2 = some r) :
  Calls Tryz.prog 33 #[.agg #[.int .i64 a0_0, .int .i64 a0_1, .int .i64 a0_2], .agg #[.int .i64 a1_0, .int .i64 a1_1, .int .i64 a1_2]] w fun e w' => e = .returned (.bool r) ∧ Below w.heap.size w w' := by
 have hu23 := Tryz.underlying23; have HB := Aside0.mk (Below.refl w.heap.size w); have H : (if a0_0 = a1_0 then (if a0_1 = a1_1 then (if a0_2 = a1_2 then (some true) else (some false)) else (some false)) else (some false)) = some r := h; clear h
 go_enter Tryz.func33, Tryz.ntmps33
 go_wp2_with (first | ((with_reducible refine gate_dst (N := 2) rfl ?_); refine bz_ 2 ?_; intro O hg w6 hbox hb; obtain ⟨A, P, T, HB⟩ := nb_ hg hbox HB hb; clear hb hbox hg) | ((with_reducible refine gate_dst (N := 3) rfl ?_); refine bz_ 3 ?_; intro U hg w7 hbox hb; obtain ⟨E, W, X, HB⟩ := nb_ hg hbox HB hb; have B := nx_ hg A; have D := ny_ hg A; replace A := bb_ A hb; clear hb hbox hg; have Z := nn_ B D; have a0 := box3_ A.out; have Y := box3_ E.out; refine Aside0.out ?_))
 replace H := ic_ H; obtain ⟨c3, H⟩ | ⟨c3, H⟩ := H
 ·
  have G : (a0_0 == a1_0) = true := eq1_ c3; have I : (a0_0 != a1_0) = false := ne0_ c3; clear c3
  replace H := ic_ H; obtain ⟨c4, H⟩ | ⟨c4, H⟩ := H
  ·
   have J : (a0_1 == a1_1) = true := eq1_ c4; have K : (a0_1 != a1_1) = false := ne0_ c4; clear c4
   replace H := ic_ H; obtain ⟨c5, H⟩ | ⟨c5, H⟩ := H
   ·
    have L : (a0_2 == a1_2) = true := eq1_ c5; have M : (a0_2 != a1_2) = false := ne0_ c5; clear c5; obtain rfl := oi_ H
    refine ⟨?_⟩
    try go_wp2
    go_ret
    exact rt_ HB.out
   ·
    have L : (a0_2 == a1_2) = false := eq0_ c5; have M : (a0_2 != a1_2) = true := ne1_ c5; obtain rfl := oi_ H
    refine ⟨?_⟩
    try go_wp2
    go_ret
    exact rt_ HB.out
  ·
   have J : (a0_1 == a1_1) = false := eq0_ c4; have K : (a0_1 != a1_1) = true := ne1_ c4; obtain rfl := oi_ H
   refine ⟨?_⟩
   try go_wp2
   go_ret
   exact rt_ HB.out
 ·
  have G : (a0_0 == a1_0) = false := eq0_ c3; have I : (a0_0 != a1_0) = true := ne1_ c3; obtain rfl := oi_ H
  refine ⟨?_⟩
  try go_wp2
  go_ret
  exact rt_ HB.out

def laws_eqIntS.l0 : Nat → List Int → List Int → Int → Option (Bool)
 | 0, _, _, _ => none
 | k + 1, x0, x1, x5 => if x5 < (x0.length : Int) then (if 0 ≤ x5 then (if x5 < (x1.length : Int) then (if (rd x0 x5) = (rd x1 x5) then (laws_eqIntS.l0 k x0 x1 (wrap64 (x5 + 1))) else (some false)) else (none)) else (none)) else (some true)
def laws_eqIntS.f (k : Nat) (l0 : List Int) (l1 : List Int) : Option (Bool) := if (l0.length : Int) = (l1.length : Int) then (laws_eqIntS.l0 k l0 l1 0) else (some false)
set_option maxHeartbeats 8000000 in
set_option maxRecDepth 100000 in
theorem laws_eqIntS.calls {k : Nat} {A0 : Option Addr} {c0 : Nat} {l0 : List Int} {A1 : Option Addr} {c1 : Nat} {l1 : List Int} {r : Bool} {w : World} (hr0 : Kd.C (Kd.int .i64) w A0 l0.length l0) (hc0 : l0.length ≤ c0) (hr1 : Kd.C (Kd.int .i64) w A1 l1.length l1) (hc1 : l1.length ≤ c1) (h : laws_eqIntS.f k l0 l1 = some r) :
  Calls Tryz.prog 106 #[.slice A0 l0.length c0, .slice A1 l1.length c1] w fun e w' => e = .returned (.bool r) ∧ Drawn0 w w' := by
 have a0 := Aside0.mk hr0; have a4 := Aside0.mk hc0; clear hr0 hc0; have T := Aside0.mk hr1; have a5 := Aside0.mk hc1; clear hr1 hc1; have H : (if (l0.length : Int) = (l1.length : Int) then (laws_eqIntS.l0 k l0 l1 0) else (some false)) = some r := h; clear h
 replace H := ic_ H; obtain ⟨c3, H⟩ | ⟨c3, H⟩ := H
 ·
  have K : ((l0.length : Int) == (l1.length : Int)) = true := eq1_ c3; have L : ((l0.length : Int) != (l1.length : Int)) = false := ne0_ c3; have M : (l0.length == l1.length) = true := by first | simpa using c3 | (simp at c3 ⊢; omega)
  clear c3; have H' := Aside0.mk H; clear H
  go_enter Tryz.func106, Tryz.ntmps106
  go_wp2
  repeat (go_quiet (fail); try go_wp2)
  go_loopg [5] k (fun kq v5 w' => ∃ (A : Int), v5 = .int .i64 A ∧ Aside0 (laws_eqIntS.l0 kq l0 l1 A = some r) ∧ Aside0 (kq ≤ k) ∧ Drawn0 w w')
  case atStart => exact ⟨(0), rl_, H', ⟨Nat.le_refl _⟩, by repeat (first | exact Drawn0.refl _ | apply Drawn0.step)⟩
  case round =>
   clear H'; (try clear c1); (try clear p2); (try clear c3); (try clear K); (try clear L); (try clear M); obtain ⟨A, rfl, HA, U, ⟨m1, rfl⟩⟩ := hrel
   cases gk with
   | zero => exact absurd HA.out (by simp [laws_eqIntS.l0])
   | succ k1 =>
    have H := HA.out; clear HA; simp only [laws_eqIntS.l0] at H
    replace H := icd_ H; obtain ⟨W, H⟩ | ⟨W, H⟩ := H
    ·
     obtain ⟨a2, H⟩ := ipd_ H
     have E : 0 ≤ (A : Int) := od_
     have G : A < (l0.length : Int) := od_
     obtain ⟨a1, O, X⟩ := Kd.at_int a0.out A E G; refine Aside0.out ?_; obtain ⟨a3, H⟩ := ipd_ H
     replace H := ic_ H; obtain ⟨c7, H⟩ | ⟨c7, H⟩ := H
     ·
      have Y : ((rd l0 A) == (rd l1 A)) = true := eq1_ c7; have Z : ((rd l0 A) != (rd l1 A)) = false := ne0_ c7; clear c7; have H' := Aside0.mk H; clear H; refine ⟨?_⟩
      cases O
      replace E := eq_true E; replace G := eq_true G; have B : 0 ≤ (A : Int) := od_; have D : A < (l1.length : Int) := od_; obtain ⟨P, I, J⟩ := Kd.at_int T.out A B D
      cases I
      replace B := eq_true B; replace D := eq_true D
      go_wp2
      repeat (go_quiet (fail); try go_wp2)
      go_roundg k1
      case measure => have := U.out; omega
      case rel => exact ⟨(wrap64 (A + 1)), rl_, H', ⟨by have := U.out; omega⟩, by repeat (first | exact Drawn0.refl _ | apply Drawn0.step)⟩
     ·
      have Y : ((rd l0 A) == (rd l1 A)) = false := eq0_ c7; have Z : ((rd l0 A) != (rd l1 A)) = true := ne1_ c7; obtain rfl := oi_ H; refine ⟨?_⟩
      cases O
      replace E := eq_true E; replace G := eq_true G; have B : 0 ≤ (A : Int) := od_; have D : A < (l1.length : Int) := od_; obtain ⟨P, I, J⟩ := Kd.at_int T.out A B D
      cases I
      replace B := eq_true B; replace D := eq_true D
      go_wp2
      repeat (go_quiet (fail); try go_wp2)
      go_ret
      exact ⟨by first | rfl | (simp; done) | (simp [*]; done), by repeat (first | exact Drawn0.refl _ | apply Drawn0.step)⟩
    ·
     obtain rfl := oi_ H
     go_wp2
     repeat (go_quiet (fail); try go_wp2)
     go_ret
     exact ⟨by first | rfl | (simp; done) | (simp [*]; done), by repeat (first | exact Drawn0.refl _ | apply Drawn0.step)⟩
 ·
  have K : ((l0.length : Int) == (l1.length : Int)) = false := eq0_ c3; have L : ((l0.length : Int) != (l1.length : Int)) = true := ne1_ c3; have M : (l0.length == l1.length) = false := by first | simpa using c3 | (simp at c3 ⊢; omega)
  obtain rfl := oi_ H
  go_enter Tryz.func106, Tryz.ntmps106
  go_wp2
  repeat (go_quiet (fail); try go_wp2)
  go_ret
  exact ⟨by first | rfl | (simp; done) | (simp [*]; done), by repeat (first | exact Drawn0.refl _ | apply Drawn0.step)⟩

def laws_eqLayer.f (k : Nat) (a0_0 : Int) (a0_1 : Int) (a0_2 : Int) (a0_3 : Int) (a0_4 : Int) (a0_5 : Int) (a0_6 : Int) (l0_7 : List Int) (l0_8 : List Int) (a1_0 : Int) (a1_1 : Int) (a1_2 : Int) (a1_3 : Int) (a1_4 : Int) (a1_5 : Int) (a1_6 : Int) (l1_7 : List Int) (l1_8 : List Int) : Option (Bool) := if a0_0 = a1_0 then (if a0_1 = a1_1 then (if a0_2 = a1_2 then (if a0_3 = a1_3 then (if a0_4 = a1_4 then (if a0_5 = a1_5 then (if a0_6 = a1_6 then ((laws_eqIntS.f k l0_7 l1_7).bind fun t107 => (if t107 = true then ((laws_eqIntS.f k l0_8 l1_8).bind fun t108 => (if t108 = true then (some true) else (some false))) else (some false))) else (some false)) else (some false)) else (some false)) else (some false)) else (some false)) else (some false)) else (some false)
set_option maxHeartbeats 8000000 in
set_option maxRecDepth 100000 in
theorem laws_eqLayer.calls {k : Nat} {a0_0 : Int} {a0_1 : Int} {a0_2 : Int} {a0_3 : Int} {a0_4 : Int} {a0_5 : Int} {a0_6 : Int} {A0_7 : Option Addr} {c0_7 : Nat} {l0_7 : List Int} {A0_8 : Option Addr} {c0_8 : Nat} {l0_8 : List Int} {a1_0 : Int} {a1_1 : Int} {a1_2 : Int} {a1_3 : Int} {a1_4 : Int} {a1_5 : Int} {a1_6 : Int} {A1_7 : Option Addr} {c1_7 : Nat} {l1_7 : List Int} {A1_8 : Option Addr} {c1_8 : Nat} {l1_8 : List Int} {r : Bool} {w : World} (hr0_7 : Kd.C (Kd.int .i64) w A0_7 l0_7.length l0_7) (hc0_7 : l0_7.length ≤ c0_7) (hr0_8 : Kd.C (Kd.int .i64) w A0_8 l0_8.length l0_8) (hc0_8 : l0_8.length ≤ c0_8) (hr1_7 : Kd.C (Kd.int .i64) w A1_7 l1_7.length l1_7) (hc1_7 : l1_7.length ≤ c1_7) (hr1_8 : Kd.C (Kd.int .i64) w A1_8 l1_8.length l1_8) (hc1_8 : l1_8.length ≤ c1_8) (h : laws_eqLayer.f k a0_0 a0_1 a0_2 a0_3 a0_4 a0_5 a0_6 l0_7 l0_8 a1_0 a1_1 a1_2 a1_3 a1_4 a1_5 a1_6 l1_7 l1_8 = some r) :
  Calls Tryz.prog 75 #[.agg #[.int .i64 a0_0, .int .i64 a0_1, .int .i64 a0_2, .int .i64 a0_3, .int .i64 a0_4, .int .i64 a0_5, .int .i64 a0_6, .slice A0_7 l0_7.length c0_7, .slice A0_8 l0_8.length c0_8], .agg #[.int .i64 a1_0, .int .i64 a1_1, .int .i64 a1_2, .int .i64 a1_3, .int .i64 a1_4, .int .i64 a1_5, .int .i64 a1_6, .slice A1_7 l1_7.length c1_7, .slice A1_8 l1_8.length c1_8]] w fun e w' => e = .returned (.bool r) ∧ Below w.heap.size w w' := by
 have hu55 := Tryz.underlying55; have I := Aside0.mk hr0_7; have J := Aside0.mk hc0_7; clear hr0_7 hc0_7; have K := Aside0.mk hr0_8; have L := Aside0.mk hc0_8; clear hr0_8 hc0_8; have M := Aside0.mk hr1_7; have O := Aside0.mk hc1_7; clear hr1_7 hc1_7; have P := Aside0.mk hr1_8; have T := Aside0.mk hc1_8; clear hr1_8 hc1_8; have HB := Aside0.mk (Below.refl w.heap.size w); have H : (if a0_0 = a1_0 then (if a0_1 = a1_1 then (if a0_2 = a1_2 then (if a0_3 = a1_3 then (if a0_4 = a1_4 then (if a0_5 = a1_5 then (if a0_6 = a1_6 then ((laws_eqIntS.f k l0_7 l1_7).bind fun E => (if E = true then ((laws_eqIntS.f k l0_8 l1_8).bind fun G => (if G = true then (some true) else (some false))) else (some false))) else (some false)) else (some false)) else (some false)) else (some false)) else (some false)) else (some false)) else (some false)) = some r := h; clear h
 go_enter Tryz.func75, Tryz.ntmps75
 go_wp2_with (first | ((with_reducible refine gate_dst (N := 2) rfl ?_); refine bz_ 2 ?_; intro aa hg al hbox hb; obtain ⟨A, ab, ac, HB⟩ := nb_ hg hbox HB hb; clear hb hbox hg) | ((with_reducible refine gate_dst (N := 3) rfl ?_); refine bz_ 3 ?_; intro ad hg am hbox hb; obtain ⟨U, ae, af, HB⟩ := nb_ hg hbox HB hb; have B := nx_ hg A; have D := ny_ hg A; replace A := bb_ A hb; clear hb hbox hg; have ag := nn_ B D; have ah := box9_ A.out; have ai := box9_ U.out; refine Aside0.out ?_))
 replace H := ic_ H; obtain ⟨c3, H⟩ | ⟨c3, H⟩ := H
 ·
  have W : (a0_0 == a1_0) = true := eq1_ c3; have X : (a0_0 != a1_0) = false := ne0_ c3; clear c3
  replace H := ic_ H; obtain ⟨c4, H⟩ | ⟨c4, H⟩ := H
  ·
   have Y : (a0_1 == a1_1) = true := eq1_ c4; have Z : (a0_1 != a1_1) = false := ne0_ c4; clear c4
   replace H := ic_ H; obtain ⟨c5, H⟩ | ⟨c5, H⟩ := H
   ·
    have a0 : (a0_2 == a1_2) = true := eq1_ c5; have a1 : (a0_2 != a1_2) = false := ne0_ c5; clear c5
    replace H := ic_ H; obtain ⟨c6, H⟩ | ⟨c6, H⟩ := H
    ·
     have a2 : (a0_3 == a1_3) = true := eq1_ c6; have a3 : (a0_3 != a1_3) = false := ne0_ c6; clear c6
     replace H := ic_ H; obtain ⟨c7, H⟩ | ⟨c7, H⟩ := H
     ·
      have a4 : (a0_4 == a1_4) = true := eq1_ c7; have a5 : (a0_4 != a1_4) = false := ne0_ c7; clear c7
      replace H := ic_ H; obtain ⟨c8, H⟩ | ⟨c8, H⟩ := H
      ·
       have a6 : (a0_5 == a1_5) = true := eq1_ c8; have a7 : (a0_5 != a1_5) = false := ne0_ c8; clear c8
       replace H := ic_ H; obtain ⟨c9, H⟩ | ⟨c9, H⟩ := H
       ·
        have a8 : (a0_6 == a1_6) = true := eq1_ c9; have a9 : (a0_6 != a1_6) = false := ne0_ c9; clear c9; obtain ⟨E, aj, H⟩ := bo_ H; (try dsimp only at H)
        refine ⟨?_⟩
        go_wp2_with (first | ((with_reducible refine gc_ 106 ?_); refine gw_ (some 44) Tryz.func106 ?_; (with_reducible refine (laws_eqIntS.calls ?_ ?_ ?_ ?_ aj.out).mono ?_); exact cu_ I.out HB.out; exact J.out; exact cu_ M.out HB.out; exact O.out; rintro e w' ⟨rfl, ⟨nd, rfl⟩⟩; refine ⟨_, rfl, ?_⟩; refine Aside0.out ?_))
        replace H := icb_ H; obtain ⟨rfl, H⟩ | ⟨rfl, H⟩ := H
        ·
         obtain ⟨G, ak, H⟩ := bo_ H; (try dsimp only at H); refine ⟨?_⟩
         go_wp2_with (first | ((with_reducible refine gc_ 106 ?_); refine gw_ (some 50) Tryz.func106 ?_; (with_reducible refine (laws_eqIntS.calls ?_ ?_ ?_ ?_ ak.out).mono ?_); exact cu_ K.out HB.out; exact L.out; exact cu_ P.out HB.out; exact T.out; rintro e w' ⟨rfl, ⟨nd, rfl⟩⟩; refine ⟨_, rfl, ?_⟩; refine Aside0.out ?_))
         replace H := icb_ H; obtain ⟨rfl, H⟩ | ⟨rfl, H⟩ := H
         ·
          obtain rfl := oi_ H; refine ⟨?_⟩
          try go_wp2
          go_ret
          exact rt_ HB.out
         ·
          obtain rfl := oi_ H; refine ⟨?_⟩
          try go_wp2
          go_ret
          exact rt_ HB.out
        ·
         obtain rfl := oi_ H; refine ⟨?_⟩
         try go_wp2
         go_ret
         exact rt_ HB.out
       ·
        have a8 : (a0_6 == a1_6) = false := eq0_ c9; have a9 : (a0_6 != a1_6) = true := ne1_ c9; obtain rfl := oi_ H
        refine ⟨?_⟩
        try go_wp2
        go_ret
        exact rt_ HB.out
      ·
       have a6 : (a0_5 == a1_5) = false := eq0_ c8; have a7 : (a0_5 != a1_5) = true := ne1_ c8; obtain rfl := oi_ H
       refine ⟨?_⟩
       try go_wp2
       go_ret
       exact rt_ HB.out
     ·
      have a4 : (a0_4 == a1_4) = false := eq0_ c7; have a5 : (a0_4 != a1_4) = true := ne1_ c7; obtain rfl := oi_ H
      refine ⟨?_⟩
      try go_wp2
      go_ret
      exact rt_ HB.out
    ·
     have a2 : (a0_3 == a1_3) = false := eq0_ c6; have a3 : (a0_3 != a1_3) = true := ne1_ c6; obtain rfl := oi_ H
     refine ⟨?_⟩
     try go_wp2
     go_ret
     exact rt_ HB.out
   ·
    have a0 : (a0_2 == a1_2) = false := eq0_ c5; have a1 : (a0_2 != a1_2) = true := ne1_ c5; obtain rfl := oi_ H
    refine ⟨?_⟩
    try go_wp2
    go_ret
    exact rt_ HB.out
  ·
   have Y : (a0_1 == a1_1) = false := eq0_ c4; have Z : (a0_1 != a1_1) = true := ne1_ c4; obtain rfl := oi_ H
   refine ⟨?_⟩
   try go_wp2
   go_ret
   exact rt_ HB.out
 ·
  have W : (a0_0 == a1_0) = false := eq0_ c3; have X : (a0_0 != a1_0) = true := ne1_ c3; obtain rfl := oi_ H
  refine ⟨?_⟩
  try go_wp2
  go_ret
  exact rt_ HB.out

def laws_eqLayerS.l0 : Nat → List (S55) → List (S55) → Int → Option (Bool)
 | 0, _, _, _ => none
 | k + 1, x0, x1, x5 => if x5 < (x0.length : Int) then (if 0 ≤ x5 then (if x5 < (x1.length : Int) then ((laws_eqLayer.f k ((rd_T55 x0 x5).f0) ((rd_T55 x0 x5).f1) ((rd_T55 x0 x5).f2) ((rd_T55 x0 x5).f3) ((rd_T55 x0 x5).f4) ((rd_T55 x0 x5).f5) ((rd_T55 x0 x5).f6) ((rd_T55 x0 x5).f7) ((rd_T55 x0 x5).f8) ((rd_T55 x1 x5).f0) ((rd_T55 x1 x5).f1) ((rd_T55 x1 x5).f2) ((rd_T55 x1 x5).f3) ((rd_T55 x1 x5).f4) ((rd_T55 x1 x5).f5) ((rd_T55 x1 x5).f6) ((rd_T55 x1 x5).f7) ((rd_T55 x1 x5).f8)).bind fun t111 => (if t111 = true then (laws_eqLayerS.l0 k x0 x1 (wrap64 (x5 + 1))) else (some false))) else (none)) else (none)) else (some true)
def laws_eqLayerS.f (k : Nat) (l0 : List (S55)) (l1 : List (S55)) : Option (Bool) := if (l0.length : Int) = (l1.length : Int) then (laws_eqLayerS.l0 k l0 l1 0) else (some false)
def laws_eqLayerS.T6 : Bool × List (List Nat × List Nat) := (true, [([], []), ([], []), ([0, 1], [0, 1]), ([2], [2]), ([], []), ([], []), ([4, 5], [4, 5]), ([6], [6]), ([3, 7], [3, 7]), ([8], [8])])
def laws_eqLayerS.B6 : List Nat := [0, 0, 3, 7, 0, 0, 48, 112, 255, 511]
theorem laws_eqLayerS.tab6 : rtab .any (opsOf Tryz.f34 6) = laws_eqLayerS.T6 := by kernel_rfl
theorem laws_eqLayerS.bits6 : waitsOk laws_eqLayerS.T6.2 laws_eqLayerS.B6 = true := by kernel_rfl
set_option maxHeartbeats 8000000 in
set_option maxRecDepth 100000 in
theorem laws_eqLayerS.calls {k : Nat} {A0 : Option Addr} {c0 : Nat} {l0 : List (S55)} {A1 : Option Addr} {c1 : Nat} {l1 : List (S55)} {r : Bool} {w : World} (hr0 : Kd.C k55 w A0 l0.length l0) (hc0 : l0.length ≤ c0) (hr1 : Kd.C k55 w A1 l1.length l1) (hc1 : l1.length ≤ c1) (h : laws_eqLayerS.f k l0 l1 = some r) :
  Calls Tryz.prog 34 #[.slice A0 l0.length c0, .slice A1 l1.length c1] w fun e w' => e = .returned (.bool r) ∧ Below w.heap.size w w' := by
 have hu55 := Tryz.underlying55; have aZ := Aside0.mk hr0; have b3 := Aside0.mk hc0; clear hr0 hc0; have aW := Aside0.mk hr1; have b4 := Aside0.mk hc1; clear hr1 hc1; have HB := Aside0.mk (Below.refl w.heap.size w); have H : (if (l0.length : Int) = (l1.length : Int) then (laws_eqLayerS.l0 k l0 l1 0) else (some false)) = some r := h; clear h
 replace H := ic_ H; obtain ⟨c3, H⟩ | ⟨c3, H⟩ := H
 ·
  have aS : ((l0.length : Int) == (l1.length : Int)) = true := eq1_ c3; have aT : ((l0.length : Int) != (l1.length : Int)) = false := ne0_ c3; have aU : (l0.length == l1.length) = true := by first | simpa using c3 | (simp at c3 ⊢; omega)
  clear c3; have H' := Aside0.mk H; clear H
  go_enter Tryz.func34, Tryz.ntmps34
  go_wp2
  go_loopg [5] k (fun kq v5 w' => ∃ (A : Int), v5 = .int .i64 A ∧ Aside0 (laws_eqLayerS.l0 kq l0 l1 A = some r) ∧ Aside0 (kq ≤ k) ∧ Aside0 (Below w.heap.size w w'))
  case atStart => exact ⟨(0), rl_, H', ⟨Nat.le_refl _⟩, ⟨be_ HB.out⟩⟩
  case round =>
   clear H'; (try clear c1); (try clear p2); (try clear c3); (try clear aS); (try clear aT); (try clear aU); obtain ⟨A, rfl, HA, aX, HB⟩ := hrel
   cases gk with
   | zero => exact absurd HA.out (by simp [laws_eqLayerS.l0])
   | succ k1 =>
    have H := HA.out; clear HA; simp only [laws_eqLayerS.l0] at H
    replace H := icd_ H; obtain ⟨aY, H⟩ | ⟨aY, H⟩ := H
    ·
     obtain ⟨b0, H⟩ := ipd_ H
     try go_wp2
     replace HB := Aside0.mk (below_drew1 HB.out)
     have aL : 0 ≤ (A : Int) := od_
     have aM : A < (l0.length : Int) := od_
     obtain ⟨D, aN, aO, aP, aQ, aV, U, W, X, Y, Z, a0, a1, a2, a3, al, am, an, ao⟩ := at_T55 aZ.out A aL aM; have ap := a3; have aq := a2; have ar := a1; have au := a0; have av := Z; have aw := Y; have ax := X; have ay := W; have az := U; refine Aside0.out ?_; obtain ⟨b1, H⟩ := ipd_ H; obtain ⟨b2, A7, H⟩ := bo_ H; (try dsimp only at H)
     replace H := icb_ H; obtain ⟨rfl, H⟩ | ⟨rfl, H⟩ := H
     ·
      have H' := Aside0.mk H; clear H
      refine ⟨?_⟩
      cases aV
      replace U := cw_ HB.out U; replace W := cw_ HB.out W; replace X := cw_ HB.out X; replace Y := cw_ HB.out Y; replace Z := cw_ HB.out Z; replace a0 := cw_ HB.out a0; replace a1 := cw_ HB.out a1; replace a2 := cw_ HB.out a2; replace a3 := cw_ HB.out a3; have a4 := Aside0.mk am; have aA := Aside0.mk al; clear am al; have a5 := Aside0.mk ao; have aC := Aside0.mk an; clear ao an; replace aL := eq_true aL; replace aM := eq_true aM; have aD : 0 ≤ (A : Int) := od_; have aE : A < (l1.length : Int) := od_; obtain ⟨B, aH, aI, aJ, aK, aR, E, G, I, J, L, M, O, P, T, a6, a7, a8, a9⟩ := at_T55 aW.out A aD aE; have aa := T; have ab := P; have ac := O; have ad := M; have ae := L; have af := J; have ag := I; have ah := G; have ai := E
      cases aR
      replace E := cw_ HB.out E; replace G := cw_ HB.out G; replace I := cw_ HB.out I; replace J := cw_ HB.out J; replace L := cw_ HB.out L; replace M := cw_ HB.out M; replace O := cw_ HB.out O; replace P := cw_ HB.out P; replace T := cw_ HB.out T; have aj := Aside0.mk a7; have aF := Aside0.mk a6; clear a7 a6; have ak := Aside0.mk a9; have aG := Aside0.mk a8; clear a9 a8; replace aD := eq_true aD; replace aE := eq_true aE; refine sta_ 10 (fun w' => w'.cell? (D.add ((A).toNat * 9)) = some (.int .i64 ((rd_T55 l0 A).f0)) ∧ CF_ w' (D.add ((A).toNat * 9)) 1 (.int .i64 ((rd_T55 l0 A).f1)) ∧ CF_ w' (D.add ((A).toNat * 9)) 2 (.int .i64 ((rd_T55 l0 A).f2)) ∧ CF_ w' (D.add ((A).toNat * 9)) 3 (.int .i64 ((rd_T55 l0 A).f3)) ∧ CF_ w' (D.add ((A).toNat * 9)) 4 (.int .i64 ((rd_T55 l0 A).f4)) ∧ CF_ w' (D.add ((A).toNat * 9)) 5 (.int .i64 ((rd_T55 l0 A).f5)) ∧ CF_ w' (D.add ((A).toNat * 9)) 6 (.int .i64 ((rd_T55 l0 A).f6)) ∧ CF_ w' (D.add ((A).toNat * 9)) 7 (.slice aN ((rd_T55 l0 A).f7).length aO) ∧ CF_ w' (D.add ((A).toNat * 9)) 8 (.slice aP ((rd_T55 l0 A).f8).length aQ) ∧ w'.cell? (B.add ((A).toNat * 9)) = some (.int .i64 ((rd_T55 l1 A).f0)) ∧ CF_ w' (B.add ((A).toNat * 9)) 1 (.int .i64 ((rd_T55 l1 A).f1)) ∧ CF_ w' (B.add ((A).toNat * 9)) 2 (.int .i64 ((rd_T55 l1 A).f2)) ∧ CF_ w' (B.add ((A).toNat * 9)) 3 (.int .i64 ((rd_T55 l1 A).f3)) ∧ CF_ w' (B.add ((A).toNat * 9)) 4 (.int .i64 ((rd_T55 l1 A).f4)) ∧ CF_ w' (B.add ((A).toNat * 9)) 5 (.int .i64 ((rd_T55 l1 A).f5)) ∧ CF_ w' (B.add ((A).toNat * 9)) 6 (.int .i64 ((rd_T55 l1 A).f6)) ∧ CF_ w' (B.add ((A).toNat * 9)) 7 (.slice aH ((rd_T55 l1 A).f7).length aI) ∧ CF_ w' (B.add ((A).toNat * 9)) 8 (.slice aJ ((rd_T55 l1 A).f8).length aK)) ⟨(cw_ HB.out az), (cw_ HB.out ay), (cw_ HB.out ax), (cw_ HB.out aw), (cw_ HB.out av), (cw_ HB.out au), (cw_ HB.out ar), (cw_ HB.out aq), (cw_ HB.out ap), (cw_ HB.out ai), (cw_ HB.out ah), (cw_ HB.out ag), (cw_ HB.out af), (cw_ HB.out ae), (cw_ HB.out ad), (cw_ HB.out ac), (cw_ HB.out ab), (cw_ HB.out aa)⟩ (fun hHeld => ?_); refine with_tabW laws_eqLayerS.tab6 laws_eqLayerS.bits6 (fun HT_ HW_ => ?_); generalize wr.drew = w9 at HB a4 a5 aj ak U W X Y Z a0 a1 a2 a3 E G I J L M O P T hHeld ⊢; refine pv_ 0 10 1 ?_; refine pv_ 1 10 3 ?_; refine pv_ 2 10 7 ?_; refine pv_ 4 10 23 ?_; refine pv_ 5 10 55 ?_; refine pv_ 6 10 119 ?_; refine tv_ 3 10 127 ?_; refine tv_ 7 10 255 ?_; refine one_ (i := 8) (N := some 25) (bl_ 10 511) rfl rfl (one_of HT_.out (by kernel_rfl)) (by decide) (fun K hK => ?_); refine gv_ Tryz.func75 ?_
      (with_reducible refine (laws_eqLayer.calls ?_ ?_ ?_ ?_ ?_ ?_ ?_ ?_ A7.out).mono ?_); exact cu_ a4.out HB.out; exact aA.out; exact cu_ a5.out HB.out; exact aC.out; exact cu_ aj.out HB.out; exact aF.out; exact cu_ ak.out HB.out; exact aG.out; rintro e b5 ⟨rfl, hb⟩; refine ⟨_, rfl, ?_⟩; replace HB := hb_ HB hb; (try clear hb); refine hK.out _ _ ⟨(cw_ HB.out az), (cw_ HB.out ay), (cw_ HB.out ax), (cw_ HB.out aw), (cw_ HB.out av), (cw_ HB.out au), (cw_ HB.out ar), (cw_ HB.out aq), (cw_ HB.out ap), (cw_ HB.out ai), (cw_ HB.out ah), (cw_ HB.out ag), (cw_ HB.out af), (cw_ HB.out ae), (cw_ HB.out ad), (cw_ HB.out ac), (cw_ HB.out ab), (cw_ HB.out aa)⟩ (fun hHeld => ?_); clear hK K; refine nm_ 25 (h := ?_); refine pv_ 9 10 1023 ?_; refine done_ (done_of HT_.out (by kernel_rfl)) ?_
      try go_wp2
      go_roundg k1
      case measure => have := aX.out; omega
      case rel => exact ⟨(wrap64 (A + 1)), rl_, H', ⟨by have := aX.out; omega⟩, ⟨be_ HB.out⟩⟩
     ·
      obtain rfl := oi_ H; refine ⟨?_⟩
      cases aV
      replace U := cw_ HB.out U; replace W := cw_ HB.out W; replace X := cw_ HB.out X; replace Y := cw_ HB.out Y; replace Z := cw_ HB.out Z; replace a0 := cw_ HB.out a0; replace a1 := cw_ HB.out a1; replace a2 := cw_ HB.out a2; replace a3 := cw_ HB.out a3; have a4 := Aside0.mk am; have aA := Aside0.mk al; clear am al; have a5 := Aside0.mk ao; have aC := Aside0.mk an; clear ao an; replace aL := eq_true aL; replace aM := eq_true aM; have aD : 0 ≤ (A : Int) := od_; have aE : A < (l1.length : Int) := od_; obtain ⟨B, aH, aI, aJ, aK, aR, E, G, I, J, L, M, O, P, T, a6, a7, a8, a9⟩ := at_T55 aW.out A aD aE; have aa := T; have ab := P; have ac := O; have ad := M; have ae := L; have af := J; have ag := I; have ah := G; have ai := E
      cases aR
      replace E := cw_ HB.out E; replace G := cw_ HB.out G; replace I := cw_ HB.out I; replace J := cw_ HB.out J; replace L := cw_ HB.out L; replace M := cw_ HB.out M; replace O := cw_ HB.out O; replace P := cw_ HB.out P; replace T := cw_ HB.out T; have aj := Aside0.mk a7; have aF := Aside0.mk a6; clear a7 a6; have ak := Aside0.mk a9; have aG := Aside0.mk a8; clear a9 a8; replace aD := eq_true aD; replace aE := eq_true aE; refine sta_ 10 (fun w' => w'.cell? (D.add ((A).toNat * 9)) = some (.int .i64 ((rd_T55 l0 A).f0)) ∧ CF_ w' (D.add ((A).toNat * 9)) 1 (.int .i64 ((rd_T55 l0 A).f1)) ∧ CF_ w' (D.add ((A).toNat * 9)) 2 (.int .i64 ((rd_T55 l0 A).f2)) ∧ CF_ w' (D.add ((A).toNat * 9)) 3 (.int .i64 ((rd_T55 l0 A).f3)) ∧ CF_ w' (D.add ((A).toNat * 9)) 4 (.int .i64 ((rd_T55 l0 A).f4)) ∧ CF_ w' (D.add ((A).toNat * 9)) 5 (.int .i64 ((rd_T55 l0 A).f5)) ∧ CF_ w' (D.add ((A).toNat * 9)) 6 (.int .i64 ((rd_T55 l0 A).f6)) ∧ CF_ w' (D.add ((A).toNat * 9)) 7 (.slice aN ((rd_T55 l0 A).f7).length aO) ∧ CF_ w' (D.add ((A).toNat * 9)) 8 (.slice aP ((rd_T55 l0 A).f8).length aQ) ∧ w'.cell? (B.add ((A).toNat * 9)) = some (.int .i64 ((rd_T55 l1 A).f0)) ∧ CF_ w' (B.add ((A).toNat * 9)) 1 (.int .i64 ((rd_T55 l1 A).f1)) ∧ CF_ w' (B.add ((A).toNat * 9)) 2 (.int .i64 ((rd_T55 l1 A).f2)) ∧ CF_ w' (B.add ((A).toNat * 9)) 3 (.int .i64 ((rd_T55 l1 A).f3)) ∧ CF_ w' (B.add ((A).toNat * 9)) 4 (.int .i64 ((rd_T55 l1 A).f4)) ∧ CF_ w' (B.add ((A).toNat * 9)) 5 (.int .i64 ((rd_T55 l1 A).f5)) ∧ CF_ w' (B.add ((A).toNat * 9)) 6 (.int .i64 ((rd_T55 l1 A).f6)) ∧ CF_ w' (B.add ((A).toNat * 9)) 7 (.slice aH ((rd_T55 l1 A).f7).length aI) ∧ CF_ w' (B.add ((A).toNat * 9)) 8 (.slice aJ ((rd_T55 l1 A).f8).length aK)) ⟨(cw_ HB.out az), (cw_ HB.out ay), (cw_ HB.out ax), (cw_ HB.out aw), (cw_ HB.out av), (cw_ HB.out au), (cw_ HB.out ar), (cw_ HB.out aq), (cw_ HB.out ap), (cw_ HB.out ai), (cw_ HB.out ah), (cw_ HB.out ag), (cw_ HB.out af), (cw_ HB.out ae), (cw_ HB.out ad), (cw_ HB.out ac), (cw_ HB.out ab), (cw_ HB.out aa)⟩ (fun hHeld => ?_); refine with_tabW laws_eqLayerS.tab6 laws_eqLayerS.bits6 (fun HT_ HW_ => ?_); generalize wr.drew = b6 at HB a4 a5 aj ak U W X Y Z a0 a1 a2 a3 E G I J L M O P T hHeld ⊢; refine pv_ 0 10 1 ?_; refine pv_ 1 10 3 ?_; refine pv_ 2 10 7 ?_; refine pv_ 4 10 23 ?_; refine pv_ 5 10 55 ?_; refine pv_ 6 10 119 ?_; refine tv_ 3 10 127 ?_; refine tv_ 7 10 255 ?_; refine one_ (i := 8) (N := some 25) (bl_ 10 511) rfl rfl (one_of HT_.out (by kernel_rfl)) (by decide) (fun K hK => ?_); refine gv_ Tryz.func75 ?_
      (with_reducible refine (laws_eqLayer.calls ?_ ?_ ?_ ?_ ?_ ?_ ?_ ?_ A7.out).mono ?_); exact cu_ a4.out HB.out; exact aA.out; exact cu_ a5.out HB.out; exact aC.out; exact cu_ aj.out HB.out; exact aF.out; exact cu_ ak.out HB.out; exact aG.out; rintro e b7 ⟨rfl, hb⟩; refine ⟨_, rfl, ?_⟩; replace HB := hb_ HB hb; (try clear hb); refine hK.out _ _ ⟨(cw_ HB.out az), (cw_ HB.out ay), (cw_ HB.out ax), (cw_ HB.out aw), (cw_ HB.out av), (cw_ HB.out au), (cw_ HB.out ar), (cw_ HB.out aq), (cw_ HB.out ap), (cw_ HB.out ai), (cw_ HB.out ah), (cw_ HB.out ag), (cw_ HB.out af), (cw_ HB.out ae), (cw_ HB.out ad), (cw_ HB.out ac), (cw_ HB.out ab), (cw_ HB.out aa)⟩ (fun hHeld => ?_); clear hK K; refine nm_ 25 (h := ?_); refine pv_ 9 10 1023 ?_; refine done_ (done_of HT_.out (by kernel_rfl)) ?_
      try go_wp2
      go_ret
      exact rt_ HB.out
    ·
     obtain rfl := oi_ H
     go_wp2
     go_ret
     exact rt_ HB.out
 ·
  have aS : ((l0.length : Int) == (l1.length : Int)) = false := eq0_ c3; have aT : ((l0.length : Int) != (l1.length : Int)) = true := ne1_ c3; have aU : (l0.length == l1.length) = false := by first | simpa using c3 | (simp at c3 ⊢; omega)
  obtain rfl := oi_ H
  go_enter Tryz.func34, Tryz.ntmps34
  go_wp2
  go_ret
  exact rt_ HB.out

def laws_eqModel.f (k : Nat) (a0_0 : Int) (a0_1 : Int) (a0_2 : Int) (l0_3 : List (S55)) (a1_0 : Int) (a1_1 : Int) (a1_2 : Int) (l1_3 : List (S55)) : Option (Bool) := (laws_eqShape.f a0_0 a0_1 a0_2 a1_0 a1_1 a1_2).bind fun t114 => (if t114 = true then ((laws_eqLayerS.f k l0_3 l1_3).bind fun t115 => (if t115 = true then (some true) else (some false))) else (some false))
set_option maxHeartbeats 8000000 in
set_option maxRecDepth 100000 in
theorem laws_eqModel.calls {k : Nat} {a0_0 : Int} {a0_1 : Int} {a0_2 : Int} {A0_3 : Option Addr} {c0_3 : Nat} {l0_3 : List (S55)} {a1_0 : Int} {a1_1 : Int} {a1_2 : Int} {A1_3 : Option Addr} {c1_3 : Nat} {l1_3 : List (S55)} {r : Bool} {w : World} (hr0_3 : Kd.C k55 w A0_3 l0_3.length l0_3) (hc0_3 : l0_3.length ≤ c0_3) (hr1_3 : Kd.C k55 w A1_3 l1_3.length l1_3) (hc1_3 : l1_3.length ≤ c1_3) (h : laws_eqModel.f k a0_0 a0_1 a0_2 l0_3 a1_0 a1_1 a1_2 l1_3 = some r) :
  Calls Tryz.prog 8 #[.agg #[.int .i64 a0_0, .int .i64 a0_1, .int .i64 a0_2, .slice A0_3 l0_3.length c0_3], .agg #[.int .i64 a1_0, .int .i64 a1_1, .int .i64 a1_2, .slice A1_3 l1_3.length c1_3]] w fun e w' => e = .returned (.bool r) ∧ Below w.heap.size w w' := by
 have hu26 := Tryz.underlying26; have hu23 := Tryz.underlying23; have J := Aside0.mk hr0_3; have K := Aside0.mk hc0_3; clear hr0_3 hc0_3; have L := Aside0.mk hr1_3; have M := Aside0.mk hc1_3; clear hr1_3 hc1_3; have HB := Aside0.mk (Below.refl w.heap.size w); have H : ((laws_eqShape.f a0_0 a0_1 a0_2 a1_0 a1_1 a1_2).bind fun G => (if G = true then ((laws_eqLayerS.f k l0_3 l1_3).bind fun I => (if I = true then (some true) else (some false))) else (some false))) = some r := h; clear h; obtain ⟨G, A3, H⟩ := bo_ H; (try dsimp only at H)
 go_enter Tryz.func8, Tryz.ntmps8
 go_wp2_with (first | ((with_reducible refine gate_dst (N := 2) rfl ?_); refine bz_ 2 ?_; intro O hg w7 hbox hb; obtain ⟨A, P, T, HB⟩ := nb_ hg hbox HB hb; clear hb hbox hg) | ((with_reducible refine gate_dst (N := 3) rfl ?_); refine bz_ 3 ?_; intro U hg w8 hbox hb; obtain ⟨B, W, X, HB⟩ := nb_ hg hbox HB hb; have D := nx_ hg A; have E := ny_ hg A; replace A := bb_ A hb; clear hb hbox hg; have a2 := nn_ D E; have Y := box4_ A.out; have Z := box4_ B.out; refine Aside0.out ?_))
 replace H := icb_ H; obtain ⟨rfl, H⟩ | ⟨rfl, H⟩ := H
 ·
  obtain ⟨I, A5, H⟩ := bo_ H; (try dsimp only at H); refine ⟨?_⟩
  go_wp2_with (first | ((with_reducible refine gc_ 33 ?_); refine gw_ (some 9) Tryz.func33 ?_; (with_reducible refine (laws_eqShape.calls A3.out).mono ?_); rintro e a3 ⟨rfl, hb⟩; refine ⟨_, rfl, ?_⟩; replace A := bb_ A hb; replace B := bb_ B hb; replace HB := hb_ HB hb; (try clear hb); have a0 := box4_ A.out; have a1 := box4_ B.out) | ((with_reducible refine gc_ 34 ?_); refine gw_ (some 15) Tryz.func34 ?_; (with_reducible refine (laws_eqLayerS.calls ?_ ?_ ?_ ?_ A5.out).mono ?_); exact cu_ J.out HB.out; exact K.out; exact cu_ L.out HB.out; exact M.out; rintro e a4 ⟨rfl, hb⟩; refine ⟨_, rfl, ?_⟩; replace A := bb_ A hb; replace B := bb_ B hb; replace HB := hb_ HB hb; (try clear hb); refine Aside0.out ?_))
  replace H := icb_ H; obtain ⟨rfl, H⟩ | ⟨rfl, H⟩ := H
  ·
   obtain rfl := oi_ H; refine ⟨?_⟩
   try go_wp2
   go_ret
   exact rt_ HB.out
  ·
   obtain rfl := oi_ H; refine ⟨?_⟩
   try go_wp2
   go_ret
   exact rt_ HB.out
 ·
  obtain rfl := oi_ H; refine ⟨?_⟩
  go_wp2_with (first | ((with_reducible refine gc_ 33 ?_); refine gw_ (some 9) Tryz.func33 ?_; (with_reducible refine (laws_eqShape.calls A3.out).mono ?_); rintro e a5 ⟨rfl, hb⟩; refine ⟨_, rfl, ?_⟩; replace A := bb_ A hb; replace B := bb_ B hb; replace HB := hb_ HB hb; (try clear hb)))
  go_ret
  exact rt_ HB.out

def laws_szIntS.f (l0 : List Int) (a1 : Int) : Option (Int) := if (wrap64 (a1 - (l0.length : Int))) < 0 then (some (-1)) else (some (wrap64 (a1 - (l0.length : Int))))
set_option maxHeartbeats 8000000 in
set_option maxRecDepth 100000 in
theorem laws_szIntS.calls {A0 : Option Addr} {c0 : Nat} {l0 : List Int} {a1 : Int} {r : Int} {w : World} (hr0 : Kd.C (Kd.int .i64) w A0 l0.length l0) (hc0 : l0.length ≤ c0) (h : laws_szIntS.f l0 a1 = some r) :
  Calls Tryz.prog 107 #[.slice A0 l0.length c0, .int .i64 a1] w fun e w' => e = .returned (.int .i64 r) ∧ Drawn0 w w' := by
 have B := Aside0.mk hr0; have D := Aside0.mk hc0; clear hr0 hc0; have H : (if (wrap64 (a1 - (l0.length : Int))) < 0 then (some (-1)) else (some (wrap64 (a1 - (l0.length : Int))))) = some r := h; clear h
 replace H := icd_ H; obtain ⟨A, H⟩ | ⟨A, H⟩ := H
 ·
  obtain rfl := oi_ H
  go_enter Tryz.func107, Tryz.ntmps107
  go_wp2
  go_ret
  exact ⟨by first | rfl | (simp; done) | (simp [*]; done), by repeat (first | exact Drawn0.refl _ | apply Drawn0.step)⟩
 ·
  obtain rfl := oi_ H
  go_enter Tryz.func107, Tryz.ntmps107
  go_wp2
  go_ret
  exact ⟨by first | rfl | (simp; done) | (simp [*]; done), by repeat (first | exact Drawn0.refl _ | apply Drawn0.step)⟩

def laws_szLayer.f (a0_0 : Int) (a0_1 : Int) (a0_2 : Int) (a0_3 : Int) (a0_4 : Int) (a0_5 : Int) (a0_6 : Int) (l0_7 : List Int) (l0_8 : List Int) (a1 : Int) : Option (Int) := (laws_szIntS.f l0_7 a1).bind fun t117 => (if t117 < 0 then (some (-1)) else ((laws_szIntS.f l0_8 t117).bind fun t118 => (if t118 < 0 then (some (-1)) else (some t118))))
set_option maxHeartbeats 8000000 in
set_option maxRecDepth 100000 in
theorem laws_szLayer.calls {a0_0 : Int} {a0_1 : Int} {a0_2 : Int} {a0_3 : Int} {a0_4 : Int} {a0_5 : Int} {a0_6 : Int} {A0_7 : Option Addr} {c0_7 : Nat} {l0_7 : List Int} {A0_8 : Option Addr} {c0_8 : Nat} {l0_8 : List Int} {a1 : Int} {r : Int} {w : World} (hr0_7 : Kd.C (Kd.int .i64) w A0_7 l0_7.length l0_7) (hc0_7 : l0_7.length ≤ c0_7) (hr0_8 : Kd.C (Kd.int .i64) w A0_8 l0_8.length l0_8) (hc0_8 : l0_8.length ≤ c0_8) (h : laws_szLayer.f a0_0 a0_1 a0_2 a0_3 a0_4 a0_5 a0_6 l0_7 l0_8 a1 = some r) :
  Calls Tryz.prog 78 #[.agg #[.int .i64 a0_0, .int .i64 a0_1, .int .i64 a0_2, .int .i64 a0_3, .int .i64 a0_4, .int .i64 a0_5, .int .i64 a0_6, .slice A0_7 l0_7.length c0_7, .slice A0_8 l0_8.length c0_8], .int .i64 a1] w fun e w' => e = .returned (.int .i64 r) ∧ Below w.heap.size w w' := by
 have hu120 := Tryz.underlying120; have D := Aside0.mk hr0_7; have E := Aside0.mk hc0_7; clear hr0_7 hc0_7; have G := Aside0.mk hr0_8; have I := Aside0.mk hc0_8; clear hr0_8 hc0_8; have HB := Aside0.mk (Below.refl w.heap.size w); have H : ((laws_szIntS.f l0_7 a1).bind fun A => (if A < 0 then (some (-1)) else ((laws_szIntS.f l0_8 A).bind fun B => (if B < 0 then (some (-1)) else (some B))))) = some r := h; clear h; obtain ⟨A, A3, H⟩ := bo_ H; (try dsimp only at H)
 go_enter Tryz.func78, Tryz.ntmps78
 go_wp2_with (first | ((with_reducible refine gate_dst (N := 2) rfl ?_); refine bz_ 2 ?_; intro M hg w5 hbox hb; obtain ⟨J, O, P, HB⟩ := nb_ hg hbox HB hb; clear hb hbox hg; have T := box9_ J.out) | ((with_reducible refine gc_ 107 ?_); refine gw_ (some 8) Tryz.func107 ?_; (with_reducible refine (laws_szIntS.calls ?_ ?_ A3.out).mono ?_); exact cu_ D.out HB.out; exact E.out; rintro e w' ⟨rfl, ⟨nd, rfl⟩⟩; refine ⟨_, rfl, ?_⟩; refine Aside0.out ?_))
 replace H := icd_ H; obtain ⟨K, H⟩ | ⟨K, H⟩ := H
 ·
  obtain rfl := oi_ H; refine ⟨?_⟩
  try go_wp2
  go_ret
  exact rt_ HB.out
 ·
  obtain ⟨B, A7, H⟩ := bo_ H; (try dsimp only at H); refine ⟨?_⟩
  go_wp2_with (first | ((with_reducible refine gc_ 107 ?_); refine gw_ (some 14) Tryz.func107 ?_; (with_reducible refine (laws_szIntS.calls ?_ ?_ A7.out).mono ?_); exact cu_ G.out HB.out; exact I.out; rintro e w' ⟨rfl, ⟨nd, rfl⟩⟩; refine ⟨_, rfl, ?_⟩; refine Aside0.out ?_))
  replace H := icd_ H; obtain ⟨L, H⟩ | ⟨L, H⟩ := H
  ·
   obtain rfl := oi_ H; refine ⟨?_⟩
   try go_wp2
   go_ret
   exact rt_ HB.out
  ·
   obtain rfl := oi_ H; refine ⟨?_⟩
   try go_wp2
   go_ret
   exact rt_ HB.out

def laws_szLayerS.l0 : Nat → List (S120) → Int → Int → Option (Int)
 | 0, _, _, _ => none
 | k + 1, x0, x1, x5 => if x5 < (x0.length : Int) then (if 0 ≤ x5 then ((laws_szLayer.f ((rd_T120 x0 x5).f0) ((rd_T120 x0 x5).f1) ((rd_T120 x0 x5).f2) ((rd_T120 x0 x5).f3) ((rd_T120 x0 x5).f4) ((rd_T120 x0 x5).f5) ((rd_T120 x0 x5).f6) ((rd_T120 x0 x5).f7) ((rd_T120 x0 x5).f8) x1).bind fun t120 => (if t120 < 0 then (some (-1)) else (laws_szLayerS.l0 k x0 t120 (wrap64 (x5 + 1))))) else (none)) else (some x1)
def laws_szLayerS.f (k : Nat) (l0 : List (S120)) (a1 : Int) : Option (Int) := if (wrap64 (a1 - (l0.length : Int))) < 0 then (some (-1)) else (laws_szLayerS.l0 k l0 (wrap64 (a1 - (l0.length : Int))) 0)
set_option maxHeartbeats 8000000 in
set_option maxRecDepth 100000 in
theorem laws_szLayerS.calls {k : Nat} {A0 : Option Addr} {c0 : Nat} {l0 : List (S120)} {a1 : Int} {r : Int} {w : World} (hr0 : Kd.C k120 w A0 l0.length l0) (hc0 : l0.length ≤ c0) (h : laws_szLayerS.f k l0 a1 = some r) :
  Calls Tryz.prog 37 #[.slice A0 l0.length c0, .int .i64 a1] w fun e w' => e = .returned (.int .i64 r) ∧ Below w.heap.size w w' := by
 have hu120 := Tryz.underlying120; have ae := Aside0.mk hr0; have ah := Aside0.mk hc0; clear hr0 hc0; have HB := Aside0.mk (Below.refl w.heap.size w); have H : (if (wrap64 (a1 - (l0.length : Int))) < 0 then (some (-1)) else (laws_szLayerS.l0 k l0 (wrap64 (a1 - (l0.length : Int))) 0)) = some r := h; clear h
 replace H := icd_ H; obtain ⟨a4, H⟩ | ⟨a4, H⟩ := H
 ·
  obtain rfl := oi_ H
  go_enter Tryz.func37, Tryz.ntmps37
  go_wp2
  go_ret
  exact rt_ HB.out
 ·
  have H' := Aside0.mk H; clear H
  go_enter Tryz.func37, Tryz.ntmps37
  go_wp2
  go_loopg [1, 5] k (fun kq v1 v5 w' => ∃ (a3 : Int) (U : Int), v1 = .int .i64 a3 ∧ v5 = .int .i64 U ∧ Aside0 (laws_szLayerS.l0 kq l0 a3 U = some r) ∧ Aside0 (kq ≤ k) ∧ Aside0 (Below w.heap.size w w'))
  case atStart => exact ⟨(wrap64 (a1 - (l0.length : Int))), (0), rl_, rl_, H', ⟨Nat.le_refl _⟩, ⟨be_ HB.out⟩⟩
  case round =>
   clear H'; (try clear p2); (try clear c3); (try clear a4); obtain ⟨a3, U, rfl, rfl, HA, a6, HB⟩ := hrel
   cases gk with
   | zero => exact absurd HA.out (by simp [laws_szLayerS.l0])
   | succ k1 =>
    have H := HA.out; clear HA; simp only [laws_szLayerS.l0] at H
    replace H := icd_ H; obtain ⟨a7, H⟩ | ⟨a7, H⟩ := H
    ·
     obtain ⟨ag, H⟩ := ipd_ H; obtain ⟨a8, A6, H⟩ := bo_ H; (try dsimp only at H)
     have a0 : 0 ≤ (U : Int) := od_
     have a2 : U < (l0.length : Int) := od_
     obtain ⟨af, aa, ab, ac, ad, a5, A, B, D, E, G, I, J, K, L, M, O, P, T⟩ := at_T120 ae.out U a0 a2; refine Aside0.out ?_
     replace H := icd_ H; obtain ⟨a9, H⟩ | ⟨a9, H⟩ := H
     ·
      obtain rfl := oi_ H; refine ⟨?_⟩
      cases a5
      replace A := cw_ HB.out A; replace B := cw_ HB.out B; replace D := cw_ HB.out D; replace E := cw_ HB.out E; replace G := cw_ HB.out G; replace I := cw_ HB.out I; replace J := cw_ HB.out J; replace K := cw_ HB.out K; replace L := cw_ HB.out L; have W := Aside0.mk O; have X := Aside0.mk M; clear O M; have Y := Aside0.mk T; have Z := Aside0.mk P; clear T P; replace a0 := eq_true a0; replace a2 := eq_true a2
      go_wp2_with (first | ((with_reducible refine gc_ 78 ?_); refine gw_ (some 23) Tryz.func78 ?_; (with_reducible refine (laws_szLayer.calls ?_ ?_ ?_ ?_ A6.out).mono ?_); exact cu_ W.out HB.out; exact X.out; exact cu_ Y.out HB.out; exact Z.out; rintro e w8 ⟨rfl, hb⟩; refine ⟨_, rfl, ?_⟩; replace HB := hb_ HB hb; (try clear hb)))
      go_ret
      exact rt_ HB.out
     ·
      have H' := Aside0.mk H; clear H; refine ⟨?_⟩
      cases a5
      replace A := cw_ HB.out A; replace B := cw_ HB.out B; replace D := cw_ HB.out D; replace E := cw_ HB.out E; replace G := cw_ HB.out G; replace I := cw_ HB.out I; replace J := cw_ HB.out J; replace K := cw_ HB.out K; replace L := cw_ HB.out L; have W := Aside0.mk O; have X := Aside0.mk M; clear O M; have Y := Aside0.mk T; have Z := Aside0.mk P; clear T P; replace a0 := eq_true a0; replace a2 := eq_true a2
      go_wp2_with (first | ((with_reducible refine gc_ 78 ?_); refine gw_ (some 23) Tryz.func78 ?_; (with_reducible refine (laws_szLayer.calls ?_ ?_ ?_ ?_ A6.out).mono ?_); exact cu_ W.out HB.out; exact X.out; exact cu_ Y.out HB.out; exact Z.out; rintro e w9 ⟨rfl, hb⟩; refine ⟨_, rfl, ?_⟩; replace HB := hb_ HB hb; (try clear hb)))
      go_roundg k1
      case measure => have := a6.out; omega
      case rel => exact ⟨(a8), (wrap64 (U + 1)), rl_, rl_, H', ⟨by have := a6.out; omega⟩, ⟨be_ HB.out⟩⟩
    ·
     obtain rfl := oi_ H
     go_wp2
     go_ret
     exact rt_ HB.out

def laws_szModel.f (k : Nat) (a0_0 : Int) (a0_1 : Int) (a0_2 : Int) (l0_3 : List (S120)) (a1 : Int) : Option (Int) := (laws_szLayerS.f k l0_3 a1).bind fun t122 => (if t122 < 0 then (some (-1)) else (some t122))
set_option maxHeartbeats 8000000 in
set_option maxRecDepth 100000 in
theorem laws_szModel.calls {k : Nat} {a0_0 : Int} {a0_1 : Int} {a0_2 : Int} {A0_3 : Option Addr} {c0_3 : Nat} {l0_3 : List (S120)} {a1 : Int} {r : Int} {w : World} (hr0_3 : Kd.C k120 w A0_3 l0_3.length l0_3) (hc0_3 : l0_3.length ≤ c0_3) (h : laws_szModel.f k a0_0 a0_1 a0_2 l0_3 a1 = some r) :
  Calls Tryz.prog 11 #[.agg #[.int .i64 a0_0, .int .i64 a0_1, .int .i64 a0_2, .slice A0_3 l0_3.length c0_3], .int .i64 a1] w fun e w' => e = .returned (.int .i64 r) ∧ Below w.heap.size w w' := by
 have hu35 := Tryz.underlying35; have D := Aside0.mk hr0_3; have E := Aside0.mk hc0_3; clear hr0_3 hc0_3; have HB := Aside0.mk (Below.refl w.heap.size w); have H : ((laws_szLayerS.f k l0_3 a1).bind fun B => (if B < 0 then (some (-1)) else (some B))) = some r := h; clear h; obtain ⟨B, A3, H⟩ := bo_ H; (try dsimp only at H)
 go_enter Tryz.func11, Tryz.ntmps11
 go_wp2_with (first | ((with_reducible refine gate_dst (N := 2) rfl ?_); refine bz_ 2 ?_; intro I hg w5 hbox hb; obtain ⟨A, J, K, HB⟩ := nb_ hg hbox HB hb; clear hb hbox hg; have L := box4_ A.out) | ((with_reducible refine gc_ 37 ?_); refine gw_ (some 8) Tryz.func37 ?_; (with_reducible refine (laws_szLayerS.calls ?_ ?_ A3.out).mono ?_); exact cu_ D.out HB.out; exact E.out; rintro e w7 ⟨rfl, hb⟩; refine ⟨_, rfl, ?_⟩; replace A := bb_ A hb; replace HB := hb_ HB hb; (try clear hb); refine Aside0.out ?_))
 replace H := icd_ H; obtain ⟨G, H⟩ | ⟨G, H⟩ := H
 ·
  obtain rfl := oi_ H; refine ⟨?_⟩
  try go_wp2
  go_ret
  exact rt_ HB.out
 ·
  obtain rfl := oi_ H; refine ⟨?_⟩
  try go_wp2
  go_ret
  exact rt_ HB.out

def spec_l01Num.l0 : Nat → Int → ByteArray → Bool → Option (ByteArray)
 | 0, _, _, _ => none
 | k + 1, x0, x3, x4 => if x0 = 0 then (if x4 = true then (if 1 + x3.size ≤ 9223372036854775807 then (some ((⟨#[45]⟩ : ByteArray) ++ x3)) else (none)) else (some x3)) else (if (Int.tmod x0 10) < 0 then ((some (([(wrap64 (48 + (wrap64 (-(Int.tmod x0 10))))) % 256] : List Int) : List Int)).bind fun y123 => (if (strOfNums y123).size + x3.size ≤ 9223372036854775807 then (spec_l01Num.l0 k (wrap64 (Int.tdiv x0 10)) ((strOfNums y123) ++ x3) x4) else (none))) else ((some (([(wrap64 (48 + (Int.tmod x0 10))) % 256] : List Int) : List Int)).bind fun y126 => (if (strOfNums y126).size + x3.size ≤ 9223372036854775807 then (spec_l01Num.l0 k (wrap64 (Int.tdiv x0 10)) ((strOfNums y126) ++ x3) x4) else (none))))
def spec_l01Num.f (k : Nat) (a0 : Int) : Option (ByteArray) := if a0 = 0 then (some (⟨#[48]⟩ : ByteArray)) else (spec_l01Num.l0 k a0 (⟨#[]⟩ : ByteArray) (decide (a0 < 0)))
set_option maxHeartbeats 8000000 in
set_option maxRecDepth 100000 in
theorem spec_l01Num.calls {k : Nat} {a0 : Int} {r : ByteArray} {w : World} (h : spec_l01Num.f k a0 = some r) :
  Calls Tryz.prog 38 #[.int .i64 a0] w fun e w' => e = .returned (.string r) ∧ Below w.heap.size w w' := by
 have HB := Aside0.mk (Below.refl w.heap.size w); have H : (if a0 = 0 then (some (⟨#[48]⟩ : ByteArray)) else (spec_l01Num.l0 k a0 (⟨#[]⟩ : ByteArray) (decide (a0 < 0)))) = some r := h; clear h
 replace H := ic_ H; obtain ⟨c2, H⟩ | ⟨c2, H⟩ := H
 ·
  have T : (a0 == 0) = true := eq1_ c2; have U : (a0 != 0) = false := ne0_ c2; clear c2; obtain rfl := oi_ H
  go_enter Tryz.func38, Tryz.ntmps38
  go_wp2
  go_ret
  exact rt_ HB.out
 ·
  have T : (a0 == 0) = false := eq0_ c2; have U : (a0 != 0) = true := ne1_ c2; have H' := Aside0.mk H; clear H
  go_enter Tryz.func38, Tryz.ntmps38
  go_wp2
  go_loopg [0, 3] k (fun kq v0 v3 w' => ∃ (A : Int) (B : ByteArray), v0 = .int .i64 A ∧ v3 = .string B ∧ Aside0 (spec_l01Num.l0 kq A B (decide (a0 < 0)) = some r) ∧ Aside0 (kq ≤ k) ∧ Aside0 (Below w.heap.size w w'))
  case atStart => exact ⟨(a0), ((⟨#[]⟩ : ByteArray)), rl_, rl_, H', ⟨Nat.le_refl _⟩, ⟨be_ HB.out⟩⟩
  case round =>
   clear H'; (try clear c2); (try clear T); (try clear U); (try clear p2); obtain ⟨A, B, rfl, rfl, HA, O, HB⟩ := hrel
   cases gk with
   | zero => exact absurd HA.out (by simp [spec_l01Num.l0])
   | succ k1 =>
    have H := HA.out; clear HA; simp only [spec_l01Num.l0] at H
    replace H := ic_ H; obtain ⟨c3, H⟩ | ⟨c3, H⟩ := H
    ·
     have Z : (A == 0) = true := eq1_ c3; have a1 : (A != 0) = false := ne0_ c3; clear c3
     replace H := ic_ H; obtain ⟨c4, H⟩ | ⟨c4, H⟩ := H
     ·
      have I : (decide (a0 < 0)) = true := c4; have a2 := of_decide_eq_true I; clear c4
      obtain ⟨c5, H⟩ := ip_ H; have a7 := eq_true c5; have a8 : decide (1 + B.size ≤ 9223372036854775807) = true := dt_ c5; (try have a9 : (9223372036854775807 < 1 + B.size) = False := eq_false (Nat.not_lt.2 c5)); obtain rfl := oi_ H
      go_wp2
      go_ret
      exact rt_ HB.out
     ·
      have I : (decide (a0 < 0)) = false := by simpa using c4
      have a2 := of_decide_eq_false I; clear c4; obtain rfl := oi_ H
      go_wp2
      go_ret
      exact rt_ HB.out
    ·
     have Z : (A == 0) = false := eq0_ c3; have a1 : (A != 0) = true := ne1_ c3
     replace H := icd_ H; obtain ⟨a3, H⟩ | ⟨a3, H⟩ := H
     ·
      obtain ⟨D, hy_⟩ : ∃ y_ : List Int, y_ = (([(wrap64 (48 + (wrap64 (-(Int.tmod A 10))))) % 256] : List Int)) := ⟨_, rfl⟩; replace H : (if (strOfNums D).size + B.size ≤ 9223372036854775807 then (spec_l01Num.l0 k1 (wrap64 (Int.tdiv A 10)) ((strOfNums D) ++ B) (decide (a0 < 0))) else (none)) = some r := yh_; have J := Aside0.mk hy_; clear hy_
      obtain ⟨c7, H⟩ := ip_ H; have aa := eq_true c7; have ab : decide ((strOfNums D).size + B.size ≤ 9223372036854775807) = true := dt_ c7; (try have ac : (9223372036854775807 < (strOfNums D).size + B.size) = False := eq_false (Nat.not_lt.2 c7)); have H' := Aside0.mk H; clear H
      go_wp2_with (first | ((with_reducible refine gate_dst (N := 21) rfl ?_); refine Kd.R_lit (Kd.int .u8) _ 5 ?hg (N := 21) ?hd (xs := ([(wrap64 (48 + (wrap64 (-(Int.tmod A 10))))) % 256] : List Int)) (inner := [.int .u8 ((wrap64 (48 + (wrap64 (-(Int.tmod A 10))))) % 256)]) (ok := fun _ => True) (okp := fun _ => True) ?hr ?hp (fun _ hk => hk) trivial (Below.refl _ _) (Nat.le_refl _) (by simp) ?_; (case hd => rfl); (case hg => rfl); (case hr => first | (go_simp; done) | (go_simp; rfl)); (case hp => exact (Reps.one (show Kd.M (Kd.int .u8) _ _ _ ((wrap64 (48 + (wrap64 (-(Int.tmod A 10))))) % 256) [.int .u8 ((wrap64 (48 + (wrap64 (-(Int.tmod A 10))))) % 256)] from rfl) (Reps.none _ _))); intro ad w8 K hb hg_ hnew_; clear hg_ hnew_; (first | rw [← J.out] at K | (simp only [Int.reduceToNat] at K; rw [← J.out] at K)); have W := Aside0.mk (Kd.R_lower K (below_size (be_ HB.out))); replace HB := hb_ HB hb; clear hb K; have hcv10 := own_string (P := Tryz.prog) Tryz.underlying41 Tryz.underlying5 Tryz.underlying9 (Kd.own_of_R W.out)))
      go_roundg k1
      case measure => have := O.out; omega
      case rel => exact ⟨(wrap64 (Int.tdiv A 10)), ((strOfNums D) ++ B), rl_, rl_, H', ⟨by have := O.out; omega⟩, ⟨be_ HB.out⟩⟩
     ·
      obtain ⟨E, hy_⟩ : ∃ y_ : List Int, y_ = (([(wrap64 (48 + (Int.tmod A 10))) % 256] : List Int)) := ⟨_, rfl⟩; replace H : (if (strOfNums E).size + B.size ≤ 9223372036854775807 then (spec_l01Num.l0 k1 (wrap64 (Int.tdiv A 10)) ((strOfNums E) ++ B) (decide (a0 < 0))) else (none)) = some r := yh_; have L := Aside0.mk hy_; clear hy_
      obtain ⟨X, H⟩ := ip_ H; have a4 := eq_true X; have a5 : decide ((strOfNums E).size + B.size ≤ 9223372036854775807) = true := dt_ X; (try have a6 : (9223372036854775807 < (strOfNums E).size + B.size) = False := eq_false (Nat.not_lt.2 X)); have H' := Aside0.mk H; clear H
      go_wp2_with (first | ((with_reducible refine gate_dst (N := 21) rfl ?_); refine Kd.R_lit (Kd.int .u8) _ 5 ?hg (N := 21) ?hd (xs := ([(wrap64 (48 + (Int.tmod A 10))) % 256] : List Int)) (inner := [.int .u8 ((wrap64 (48 + (Int.tmod A 10))) % 256)]) (ok := fun _ => True) (okp := fun _ => True) ?hr ?hp (fun _ hk => hk) trivial (Below.refl _ _) (Nat.le_refl _) (by simp) ?_; (case hd => rfl); (case hg => rfl); (case hr => first | (go_simp; done) | (go_simp; rfl)); (case hp => exact (Reps.one (show Kd.M (Kd.int .u8) _ _ _ ((wrap64 (48 + (Int.tmod A 10))) % 256) [.int .u8 ((wrap64 (48 + (Int.tmod A 10))) % 256)] from rfl) (Reps.none _ _))); intro ae af G hb hg_ hnew_; clear hg_ hnew_; (first | rw [← L.out] at G | (simp only [Int.reduceToNat] at G; rw [← L.out] at G)); have Y := Aside0.mk (Kd.R_lower G (below_size (be_ HB.out))); replace HB := hb_ HB hb; clear hb G; have hcv14 := own_string (P := Tryz.prog) Tryz.underlying41 Tryz.underlying5 Tryz.underlying9 (Kd.own_of_R Y.out)))
      go_roundg k1
      case measure => have := O.out; omega
      case rel => exact ⟨(wrap64 (Int.tdiv A 10)), ((strOfNums E) ++ B), rl_, rl_, H', ⟨by have := O.out; omega⟩, ⟨be_ HB.out⟩⟩

def spec_l01In.f (a0 : Int) (a1 : Int) (a2 : Int) : Option (Bool) := if a1 ≤ a0 then (some (decide (a0 ≤ a2))) else (some false)
set_option maxHeartbeats 8000000 in
set_option maxRecDepth 100000 in
theorem spec_l01In.calls {a0 : Int} {a1 : Int} {a2 : Int} {r : Bool} {w : World} (h : spec_l01In.f a0 a1 a2 = some r) :
  Calls Tryz.prog 57 #[.int .i64 a0, .int .i64 a1, .int .i64 a2] w fun e w' => e = .returned (.bool r) ∧ Drawn0 w w' := by
 have H : (if a1 ≤ a0 then (some (decide (a0 ≤ a2))) else (some false)) = some r := h; clear h
 replace H := icd_ H; obtain ⟨A, H⟩ | ⟨A, H⟩ := H
 ·
  obtain rfl := oi_ H
  go_enter Tryz.func57, Tryz.ntmps57
  go_wp2
  go_ret
  exact ⟨by first | rfl | (simp; done) | (simp [*]; done), by repeat (first | exact Drawn0.refl _ | apply Drawn0.step)⟩
 ·
  obtain rfl := oi_ H
  go_enter Tryz.func57, Tryz.ntmps57
  go_wp2
  go_ret
  exact ⟨by first | rfl | (simp; done) | (simp [*]; done), by repeat (first | exact Drawn0.refl _ | apply Drawn0.step)⟩

mutual
def spec_l02Read.j0 : Nat → ByteArray → ByteArray → Bool → Option (Int × Bool)
 | 0, _, _, _ => none
 | k + 1, x0, x4, x15 => if x15 = true then (if 1 ≤ (x0.size : Int) then (spec_l02Read.j1 k x0 (x0.extract 1 x0.size)) else (none)) else (spec_l02Read.j1 k x0 x4)
def spec_l02Read.j1 : Nat → ByteArray → ByteArray → Option (Int × Bool)
 | 0, _, _ => none
 | k + 1, x0, x4 => (spec_l01In.f (x4.size : Int) 1 9).bind fun t129 => (if t129 = true then (spec_l02Read.l0 k x0 x4 0 0) else (some (0, false)))
def spec_l02Read.l0 : Nat → ByteArray → ByteArray → Int → Int → Option (Int × Bool)
 | 0, _, _, _, _ => none
 | k + 1, x0, x4, x5, x6 => if x6 < (x4.size : Int) then (if 0 ≤ x6 then (if (bt x4 x6) < 48 then (some (0, false)) else (if (bt x4 x6) > 57 then (some (0, false)) else (spec_l02Read.l0 k x0 x4 (wrap64 ((wrap64 ((wrap64 (10 * x5)) + (wrap64 (bt x4 x6)))) - 48)) (wrap64 (x6 + 1))))) else (none)) else (if (x4.size : Int) < (x0.size : Int) then ((spec_l01Num.f k (wrap64 (-x5))).bind fun t130 => (some (wrap64 (-x5), (t130.toList == x0.toList)))) else ((spec_l01Num.f k x5).bind fun t131 => (some (x5, (t131.toList == x0.toList)))))
end
def spec_l02Read.f (k : Nat) (a0 : ByteArray) : Option (Int × Bool) := if (a0.size : Int) > 0 then (if 0 < (a0.size : Int) then (spec_l02Read.j0 k a0 a0 ((bt a0 0) == 45)) else (none)) else (spec_l02Read.j0 k a0 a0 false)
set_option maxHeartbeats 8000000 in
set_option maxRecDepth 100000 in
theorem spec_l02Read.calls {k : Nat} {a0 : ByteArray} {r1 : Int} {r2 : Bool} {w : World} (h : spec_l02Read.f k a0 = some (r1, r2)) :
  Calls Tryz.prog 58 #[.string a0] w fun e w' => e = .returned (.tuple #[.int .i64 r1, .bool r2]) ∧ Below w.heap.size w w' := by
 have HB := Aside0.mk (Below.refl w.heap.size w); have H : (if (a0.size : Int) > 0 then (if 0 < (a0.size : Int) then (spec_l02Read.j0 k a0 a0 ((bt a0 0) == 45)) else (none)) else (spec_l02Read.j0 k a0 a0 false)) = some (r1, r2) := h; clear h; have U := Aside0.mk H; clear H
 go_enter Tryz.func58, Tryz.ntmps58
 go_upto_region 2 with (fail)
 go_cut [15] (fun v15 wc => ∃ (kq : Nat) (E : Bool), v15 = .bool E ∧ Aside0 (spec_l02Read.j0 kq a0 a0 E = some (r1, r2)) ∧ Aside0 (kq ≤ k) ∧ Aside0 (Below w.heap.size w wc))
 case first =>
  have H := U.out; clear U
  replace H := ic_ H; obtain ⟨c3, H⟩ | ⟨c3, H⟩ := H
  ·
   have D : decide (0 < (a0.size : Int)) = true := dt_ c3; have I : decide (0 < a0.size) = true := decide_eq_true (by omega); clear c3; (first | rw [D] | (simp only [i64_w, i32_w]; rw [D]) | skip)
   obtain ⟨c4, H⟩ := ip_ H; have K : decide (0 < (a0.size : Int)) = true := dt_ c4; have L : decide (0 < a0.size) = true := decide_eq_true (by omega); clear c4; have H' := Aside0.mk H; clear H; have p5 : 0 ≤ (0 : Int) := (by omega); have q5 : 0 < a0.size := (by have : (0 : Int) < (a0.size : Int) := od_; omega); have W : ∀ h : 0 < a0.size, ((a0[0]'h).toNat : Int) = bt a0 0 := bt_at a0 0; clear p5; have X : (0 < (a0.size : Int)) = True := eq_true (od_); replace q5 := eq_true q5
   go_wp2
   go_meet
   case rel => exact ⟨_, (((bt a0 0) == 45)), rl_, H', ⟨ro_⟩, ⟨be_ HB.out⟩⟩
  ·
   have D : decide (0 < (a0.size : Int)) = false := df_ c3; have I : decide (0 < a0.size) = false := decide_eq_false (by omega); clear c3; (first | rw [D] | (simp only [i64_w, i32_w]; rw [D]) | skip); have H' := Aside0.mk H; clear H
   go_wp2
   go_meet
   case rel => exact ⟨_, (false), rl_, H', ⟨ro_⟩, ⟨be_ HB.out⟩⟩
 case rest =>
  clear U; (try clear p2); (try clear c3); (try clear D); (try clear I); (try clear c4); (try clear K); (try clear L); (try clear c5); (try clear p5); (try clear q5); (try clear W); (try clear X); (try clear p5); (try clear q5); obtain ⟨kq, E, rfl, HA, O, HB⟩ := hcut
  cases kq with
  | zero => exact absurd HA.out (by simp [spec_l02Read.j0])
  | succ kj1 =>
   have H := HA.out; clear HA; simp only [spec_l02Read.j0] at H; have Y := Aside0.mk H; clear H
   go_upto_if 15 with (fail)
   go_cut [4] (fun v4 wc => ∃ (kq : Nat) (A : ByteArray), v4 = .string A ∧ Aside0 (spec_l02Read.j1 kq a0 A = some (r1, r2)) ∧ Aside0 (kq ≤ kj1) ∧ Aside0 (Below w.heap.size w wc))
   case first =>
    have H := Y.out; clear Y
    by_cases c7 : E = true
    ·
     subst c7; rw [if_pos rfl] at H
     obtain ⟨c8, H⟩ := ip_ H; have P := eq_true c8; have T : decide (1 ≤ (a0.size : Int)) = true := dt_ c8; clear c8; have H' := Aside0.mk H; clear H
     go_wp2
     go_meet
     case rel => exact ⟨_, (a0.extract 1 a0.size), rl_, H', ⟨by have := O.out; first | omega | exact Nat.le_refl _⟩, ⟨be_ HB.out⟩⟩
    ·
     replace c7 := fb_ c7; subst c7; replace H := if0_ H
     have H' := Aside0.mk H; clear H
     go_wp2
     go_meet
     case rel => exact ⟨_, (a0), rl_, H', ⟨by have := O.out; first | omega | exact Nat.le_refl _⟩, ⟨be_ HB.out⟩⟩
   case rest =>
    clear Y; (try clear p2); (try clear c3); (try clear D); (try clear I); (try clear c4); (try clear K); (try clear L); (try clear c5); (try clear p5); (try clear q5); (try clear W); (try clear X); (try clear c7); (try clear c8); (try clear P); (try clear T); (try clear p2); (try clear p5); (try clear q5); obtain ⟨kq, A, rfl, HA, a5, HB⟩ := hcut
    cases kq with
    | zero => exact absurd HA.out (by simp [spec_l02Read.j1])
    | succ kj5 =>
     have H := HA.out; clear HA; simp only [spec_l02Read.j1] at H; obtain ⟨ag, A9, H⟩ := bo_ H; (try dsimp only at H)
     go_wp2_with (first | ((with_reducible refine gc_ 57 ?_); refine gw_ (some 20) Tryz.func57 ?_; (with_reducible refine (spec_l01In.calls A9.out).mono ?_); rintro e w' ⟨rfl, ⟨nd, rfl⟩⟩; refine ⟨_, rfl, ?_⟩; refine Aside0.out ?_))
     replace H := icb_ H; obtain ⟨rfl, H⟩ | ⟨rfl, H⟩ := H
     ·
      have H' := Aside0.mk H; clear H
      refine ⟨?_⟩
      try go_wp2
      (try simp only [Act.put, List.setIfInBounds_toArray, List.set_cons_zero, List.set_cons_succ])
      go_loopg [5, 6] kj5 (fun kq v5 v6 w' => ∃ (J : Int) (B : Int), v5 = .int .i64 J ∧ v6 = .int .i64 B ∧ Aside0 (spec_l02Read.l0 kq a0 A J B = some (r1, r2)) ∧ Aside0 (kq ≤ kj5) ∧ Aside0 (Below w.heap.size w w'))
      case atStart => exact ⟨(0), (0), rl_, rl_, H', ⟨Nat.le_refl _⟩, ⟨be_ HB.out⟩⟩
      case round =>
       clear H'; (try clear c1); (try clear p2); (try clear c3); (try clear D); (try clear I); (try clear c4); (try clear K); (try clear L); (try clear c5); (try clear p5); (try clear q5); (try clear W); (try clear X); (try clear c7); (try clear c8); (try clear P); (try clear T); (try clear c10); (try clear p2); (try clear p5); (try clear q5); obtain ⟨J, B, rfl, rfl, HA, a6, HB⟩ := hrel
       cases gk with
       | zero => exact absurd HA.out (by simp [spec_l02Read.l0])
       | succ k3 =>
        have H := HA.out; clear HA; simp only [spec_l02Read.l0] at H
        replace H := icd_ H; obtain ⟨Z, H⟩ | ⟨Z, H⟩ := H
        ·
         obtain ⟨ad, H⟩ := ipd_ H
         have a7 : 0 ≤ (B : Int) := od_
         have a8 : B < (A.size : Int) := od_
         have ah := bt_at A B; replace a7 := eq_true a7; replace a8 := eq_true a8; refine Aside0.out ?_
         replace H := icd_ H; obtain ⟨a1, H⟩ | ⟨a1, H⟩ := H
         ·
          simp only [Option.some.injEq, Prod.mk.injEq] at H; obtain ⟨rfl, rfl⟩ := H; refine ⟨?_⟩
          go_wp2
          go_ret2
          exact rt_ HB.out
         ·
          refine ⟨?_⟩
          have a9 : 0 ≤ (B : Int) := od_
          have aa : B < (A.size : Int) := od_
          have ai := bt_at A B; replace a9 := eq_true a9; replace aa := eq_true aa; refine Aside0.out ?_
          replace H := ic_ H; obtain ⟨M, H⟩ | ⟨M, H⟩ := H
          ·
           have a2 : decide (57 < (bt A B)) = true := dt_ M; clear M; simp only [Option.some.injEq, Prod.mk.injEq] at H; obtain ⟨rfl, rfl⟩ := H; refine ⟨?_⟩
           go_wp2
           go_ret2
           exact rt_ HB.out
          ·
           have a2 : decide (57 < (bt A B)) = false := df_ M; clear M; have H' := Aside0.mk H; clear H; refine ⟨?_⟩
           have ab : 0 ≤ (B : Int) := od_
           have ac : B < (A.size : Int) := od_
           have aj := bt_at A B; replace ab := eq_true ab; replace ac := eq_true ac
           go_wp2
           go_roundg k3
           case measure => have := O.out; have := a5.out; have := a6.out; omega
           case rel => exact ⟨(wrap64 ((wrap64 ((wrap64 (10 * J)) + (wrap64 (bt A B)))) - 48)), (wrap64 (B + 1)), rl_, rl_, H', ⟨by have := O.out; have := a5.out; have := a6.out; omega⟩, ⟨be_ HB.out⟩⟩
        ·
         replace H := ic_ H; obtain ⟨G, H⟩ | ⟨G, H⟩ := H
         ·
          have a3 : decide ((A.size : Int) < (a0.size : Int)) = true := dt_ G; have a4 : decide (A.size < a0.size) = true := decide_eq_true (Int.ofNat_lt.mp G); clear G; obtain ⟨ak, ae, H⟩ := bo_ H; (try dsimp only at H); simp only [Option.some.injEq, Prod.mk.injEq] at H; obtain ⟨rfl, rfl⟩ := H
          go_wp2_with (first | ((with_reducible refine gc_ 38 ?_); refine gw_ (some 55) Tryz.func38 ?_; (with_reducible refine (spec_l01Num.calls ae.out).mono ?_); rintro e am ⟨rfl, hb⟩; refine ⟨_, rfl, ?_⟩; replace HB := hb_ HB hb; (try clear hb)))
          go_ret2
          exact rt_ HB.out
         ·
          have a3 : decide ((A.size : Int) < (a0.size : Int)) = false := df_ G; have a4 : decide (A.size < a0.size) = false := decide_eq_false (fun h => G (Int.ofNat_lt.mpr h)); clear G; obtain ⟨al, af, H⟩ := bo_ H; (try dsimp only at H); simp only [Option.some.injEq, Prod.mk.injEq] at H; obtain ⟨rfl, rfl⟩ := H
          go_wp2_with (first | ((with_reducible refine gc_ 38 ?_); refine gw_ (some 55) Tryz.func38 ?_; (with_reducible refine (spec_l01Num.calls af.out).mono ?_); rintro e an ⟨rfl, hb⟩; refine ⟨_, rfl, ?_⟩; replace HB := hb_ HB hb; (try clear hb)))
          go_ret2
          exact rt_ HB.out
     ·
      simp only [Option.some.injEq, Prod.mk.injEq] at H; obtain ⟨rfl, rfl⟩ := H
      refine ⟨?_⟩
      try go_wp2
      go_ret2
      exact rt_ HB.out

def spec_l10Numbers.l0 : Nat → List ByteArray → List Int → Int → Option (List Int × Bool)
 | 0, _, _, _ => none
 | k + 1, x0, x4, x5 => if x5 < (x0.length : Int) then (if 0 ≤ x5 then ((spec_l02Read.f k (rdOf ByteArray.empty x0 x5)).bind fun bt136 => (if bt136.2 = true then (if x4.length < 17592186044416 then (spec_l10Numbers.l0 k x0 (x4 ++ [bt136.1]) (wrap64 (x5 + 1))) else (none)) else (some (([] : List Int), false)))) else (none)) else (some (x4, true))
def spec_l10Numbers.f (k : Nat) (l0 : List ByteArray) : Option (List Int × Bool) := spec_l10Numbers.l0 k l0 (([] : List Int)) 0
set_option maxHeartbeats 8000000 in
set_option maxRecDepth 100000 in
theorem spec_l10Numbers.calls {k : Nat} {A0 : Option Addr} {c0 : Nat} {l0 : List ByteArray} {r1 : List Int} {r2 : Bool} {w : World} (hr0 : Kd.C Kd.string w A0 l0.length l0) (hc0 : l0.length ≤ c0) (h : spec_l10Numbers.f k l0 = some (r1, r2)) :
  Calls Tryz.prog 23 #[.slice A0 l0.length c0] w fun e w' => ∃ v0_ : Value, e = .returned (.tuple #[v0_, .bool r2]) ∧ Kd.R (Kd.int .i64) 3 w' w.heap.size (fun _ => True) v0_ r1 ∧ Below w.heap.size w w' := by
 have a1 := Aside0.mk hr0; have a6 := Aside0.mk hc0; clear hr0 hc0; have HB := Aside0.mk (Below.refl w.heap.size w); have H : (spec_l10Numbers.l0 k l0 (([] : List Int)) 0) = some (r1, r2) := h; clear h; obtain ⟨M, hy_⟩ : ∃ y_ : List Int, y_ = (([] : List Int)) := ⟨_, rfl⟩; replace H : (spec_l10Numbers.l0 k l0 M 0) = some (r1, r2) := yh_
 have J := Aside0.mk hy_; clear hy_; have H' := Aside0.mk H; clear H
 go_enter Tryz.func23, Tryz.ntmps23
 go_wp2_with (first | ((with_reducible refine gate_dst (N := 8) rfl ?_); refine Kd.R_lit (Kd.int .i64) _ 3 ?hg (N := 8) ?hd (xs := ([] : List Int)) (inner := []) (ok := fun _ => True) (okp := fun _ => True) ?hr ?hp (fun _ hk => hk) trivial (Below.refl _ _) (Nat.le_refl _) (by simp) ?_; (case hd => rfl); (case hg => rfl); (case hr => first | (go_simp; done) | (go_simp; rfl)); (case hp => exact (Reps.none _ _)); intro a3 w2 K hb hg_ hnew_; clear hg_ hnew_; (first | rw [← J.out] at K | (simp only [Int.reduceToNat] at K; rw [← J.out] at K)); have T := Aside0.mk (Kd.R_lower K (below_size (be_ HB.out))); replace HB := hb_ HB hb; clear hb K))
 (try simp only [Act.put, List.setIfInBounds_toArray, List.set_cons_zero, List.set_cons_succ])
 go_loopg [4, 5] k (fun kq v4 v5 w' => ∃ (E : List Int) (B : Int), v5 = .int .i64 B ∧ Aside0 (spec_l10Numbers.l0 kq l0 E B = some (r1, r2)) ∧ Aside0 (kq ≤ k) ∧ Aside0 (Kd.R (Kd.int .i64) 3 w' w.heap.size (fun _ => True) v4 E) ∧ Aside0 (Below w.heap.size w w'))
 case atStart => exact ⟨(M), (0), rl_, H', ⟨Nat.le_refl _⟩, ⟨ra_ T.out⟩, ⟨be_ HB.out⟩⟩
 case round =>
  clear H'; (try clear c2); (try clear p2); obtain ⟨E, B, rfl, HA, X, D, HB⟩ := hrel
  cases gk with
  | zero => exact absurd HA.out (by simp [spec_l10Numbers.l0])
  | succ k1 =>
   have H := HA.out; clear HA; simp only [spec_l10Numbers.l0] at H
   replace H := icd_ H; obtain ⟨Y, H⟩ | ⟨Y, H⟩ := H
   ·
    obtain ⟨a4, H⟩ := ipd_ H; obtain ⟨⟨L, Z⟩, A6, H⟩ := bo_ H; (try dsimp only at H)
    have G : 0 ≤ (B : Int) := od_
    have I : B < (l0.length : Int) := od_
    obtain ⟨a2, O, A⟩ := Kd.at_string a1.out B G I; refine Aside0.out ?_
    by_cases c7 : Z = true
    ·
     subst c7; rw [if_pos rfl] at H; obtain ⟨c8, H⟩ := ip_ H; have a0 := Aside0.mk c8; clear c8; obtain ⟨P, hy_⟩ : ∃ y_ : List Int, y_ = (E ++ [L]) := ⟨_, rfl⟩; replace H : (spec_l10Numbers.l0 k1 l0 P (wrap64 (B + 1))) = some (r1, r2) := yh_
     have U := Aside0.mk hy_; clear hy_; have H' := Aside0.mk H; clear H; refine ⟨?_⟩
     cases O
     replace A := cw_ HB.out A; replace G := eq_true G; replace I := eq_true I
     go_wp2_with (first | ((with_reducible refine gc_ 58 ?_); refine gw_ (some 20) Tryz.func58 ?_; (with_reducible refine (spec_l02Read.calls A6.out).mono ?_); rintro e w9 ⟨rfl, hb⟩; refine ⟨_, rfl, ?_⟩; replace D := rb_ D hb; replace HB := hb_ HB hb; (try clear hb)) | ((with_reducible refine gate_builtin (b := .append) (xs := #[.tmp 25, .tmp 27]) rfl ?_); at_builtin; refine Kd.R_append (Kd.int .i64) (w0 := w) w.heap.size rfl (.tmp 25) (.tmp 27) 47 3 (.int .i64 0) 8 rfl Tryz.underlying47 info3 rfl (by decide) (by omega) u4 E L [.int .i64 L] (fun _ => True) (fun _ => False) rfl rfl ?aP (fun _ hk => hk.elim) ?aF ?aO ?aB ?aS ?aL ?_; (case aP => exact rfl); (case aB => exact (be_ HB.out)); (case aF => exact (fun _ _ => trivial)); (case aO => exact (ra_ D.out)); (case aS => exact (below_size (be_ HB.out))); (case aL => have := a0.out; omega); intro a5 a7 ho hb hg hat; rw [← U.out] at ho; replace HB := Aside0.mk (hb); have W := Aside0.mk (ho); clear D; clear ho hb hg hat))
     go_roundg k1
     case measure => have := X.out; omega
     case rel => exact ⟨(P), (wrap64 (B + 1)), rl_, H', ⟨by have := X.out; omega⟩, ⟨ra_ W.out⟩, ⟨be_ HB.out⟩⟩
    ·
     replace c7 := fb_ c7; subst c7; replace H := if0_ H
     simp only [Option.some.injEq, Prod.mk.injEq] at H; obtain ⟨rfl, rfl⟩ := H; refine ⟨?_⟩
     cases O
     replace A := cw_ HB.out A; replace G := eq_true G; replace I := eq_true I
     go_wp2_with (first | ((with_reducible refine gc_ 58 ?_); refine gw_ (some 20) Tryz.func58 ?_; (with_reducible refine (spec_l02Read.calls A6.out).mono ?_); rintro e a8 ⟨rfl, hb⟩; refine ⟨_, rfl, ?_⟩; replace D := rb_ D hb; replace HB := hb_ HB hb; (try clear hb)))
     go_ret2
     exact ⟨_, by first | rfl | (simp [errW_none, errW_some] <;> rfl) | (simp [*, errW_none, errW_some] <;> rfl), by first | exact Kd.R_nil _ _ _ _ _ | exact Kd.N_nil _ _ _ _ _ | exact Kd.V_nil _ _ _ _ _ | exact Kd.Q_nil _ _ _ _ _ | exact Kd.S_nil _ _ _ _ _, be_ HB.out⟩
   ·
    simp only [Option.some.injEq, Prod.mk.injEq] at H; obtain ⟨rfl, rfl⟩ := H
    go_wp2
    go_ret2
    exact ⟨_, by first | rfl | (simp [errW_none, errW_some] <;> rfl) | (simp [*, errW_none, errW_some] <;> rfl), by (with_reducible repeat (first | apply Kd.R_alloc | apply Kd.R_drewN | apply Kd.R_drew)); exact D.out, be_ HB.out⟩

def spec_l02Parts.l0 : Nat → ByteArray → Int → List ByteArray → Int → Int → Option (List ByteArray)
 | 0, _, _, _, _, _ => none
 | k + 1, x0, x1, x5, x6, x7 => if x7 ≤ (x0.size : Int) then (if x7 = (x0.size : Int) then (if 0 ≤ x6 then (if x6 ≤ x7 then (if x5.length < 8796093022208 then (spec_l02Parts.l0 k x0 x1 (x5 ++ [x0.extract (x6 : Int).toNat (x7 : Int).toNat]) (wrap64 (x7 + 1)) (wrap64 (x7 + 1))) else (none)) else (none)) else (none)) else (if 0 ≤ x7 then (if x7 < (x0.size : Int) then (if (bt x0 x7) = x1 then (if 0 ≤ x6 then (if x6 ≤ x7 then (if x5.length < 8796093022208 then (spec_l02Parts.l0 k x0 x1 (x5 ++ [x0.extract (x6 : Int).toNat (x7 : Int).toNat]) (wrap64 (x7 + 1)) (wrap64 (x7 + 1))) else (none)) else (none)) else (none)) else (spec_l02Parts.l0 k x0 x1 x5 x6 (wrap64 (x7 + 1)))) else (none)) else (none))) else (some x5)
def spec_l02Parts.f (k : Nat) (a0 : ByteArray) (a1 : Int) : Option (List ByteArray) := spec_l02Parts.l0 k a0 a1 (([] : List ByteArray)) 0 0
set_option maxHeartbeats 8000000 in
set_option maxRecDepth 100000 in
theorem spec_l02Parts.calls {k : Nat} {a0 : ByteArray} {a1 : Int} {r : List ByteArray} {w : World} (h : spec_l02Parts.f k a0 a1 = some r) :
  Calls Tryz.prog 24 #[.string a0, .int .u8 a1] w fun e w' => ∃ v0_ : Value, e = .returned (v0_) ∧ Kd.R Kd.string 9 w' w.heap.size (fun _ => True) v0_ r ∧ Below w.heap.size w w' := by
 have HB := Aside0.mk (Below.refl w.heap.size w); have H : (spec_l02Parts.l0 k a0 a1 (([] : List ByteArray)) 0 0) = some r := h; clear h; obtain ⟨L, hy_⟩ : ∃ y_ : List ByteArray, y_ = (([] : List ByteArray)) := ⟨_, rfl⟩; replace H : (spec_l02Parts.l0 k a0 a1 L 0 0) = some r := yh_
 have J := Aside0.mk hy_; clear hy_; have H' := Aside0.mk H; clear H
 go_enter Tryz.func24, Tryz.ntmps24
 go_wp2_with (first | ((with_reducible refine gate_dst (N := 8) rfl ?_); refine Kd.R_lit Kd.string _ 9 ?hg (N := 8) ?hd (xs := ([] : List ByteArray)) (inner := []) (ok := fun _ => True) (okp := fun _ => True) ?hr ?hp (fun _ hk => hk) trivial (Below.refl _ _) (Nat.le_refl _) (by simp) ?_; (case hd => rfl); (case hg => rfl); (case hr => first | (go_simp; done) | (go_simp; rfl)); (case hp => exact (Reps.none _ _)); intro aj w3 K hb hg_ hnew_; clear hg_ hnew_; (first | rw [← J.out] at K | (simp only [Int.reduceToNat] at K; rw [← J.out] at K)); have P := Aside0.mk (Kd.R_lower K (below_size (be_ HB.out))); replace HB := hb_ HB hb; clear hb K))
 (try simp only [Act.put, List.setIfInBounds_toArray, List.set_cons_zero, List.set_cons_succ])
 go_loopg [5, 6, 7] k (fun kq v5 v6 v7 w' => ∃ (D : List ByteArray) (B : Int) (A : Int), v6 = .int .i64 B ∧ v7 = .int .i64 A ∧ Aside0 (spec_l02Parts.l0 kq a0 a1 D B A = some r) ∧ Aside0 (kq ≤ k) ∧ Aside0 (Kd.R Kd.string 9 w' w.heap.size (fun _ => True) v5 D) ∧ Aside0 (Below w.heap.size w w'))
 case atStart => exact ⟨(L), (0), (0), rl_, rl_, H', ⟨Nat.le_refl _⟩, ⟨ra_ P.out⟩, ⟨be_ HB.out⟩⟩
 case round =>
  clear H'; (try clear c2); (try clear p2); obtain ⟨D, B, A, rfl, rfl, HA, G, E, HB⟩ := hrel
  cases gk with
  | zero => exact absurd HA.out (by simp [spec_l02Parts.l0])
  | succ k1 =>
   have H := HA.out; clear HA; simp only [spec_l02Parts.l0] at H
   replace H := icd_ H; obtain ⟨a6, H⟩ | ⟨a6, H⟩ := H
   ·
    replace H := ic_ H; obtain ⟨c6, H⟩ | ⟨c6, H⟩ := H
    ·
     have a7 : (A == (a0.size : Int)) = true := eq1_ c6; have a8 : (A != (a0.size : Int)) = false := ne0_ c6; clear c6
     obtain ⟨c7, H⟩ := ip_ H; have ak := eq_true c7; have al : decide (0 ≤ B) = true := dt_ c7; clear c7
     obtain ⟨c8, H⟩ := ip_ H; have am := eq_true c8; have an : decide (B ≤ A) = true := dt_ c8; clear c8; have ao := eq_true (od_ : A ≤ (a0.size : Int))
     obtain ⟨c10, H⟩ := ip_ H; have T := Aside0.mk c10; clear c10; obtain ⟨M, hy_⟩ : ∃ y_ : List ByteArray, y_ = (D ++ [a0.extract (B : Int).toNat (A : Int).toNat]) := ⟨_, rfl⟩; replace H : (spec_l02Parts.l0 k1 a0 a1 M (wrap64 (A + 1)) (wrap64 (A + 1))) = some r := yh_
     have U := Aside0.mk hy_; clear hy_; have H' := Aside0.mk H; clear H
     go_wp2_with (first | ((with_reducible refine gate_builtin (b := .append) (xs := #[.tmp 26, .tmp 31]) rfl ?_); at_builtin; refine Kd.R_append Kd.string (w0 := w) w.heap.size rfl (.tmp 26) (.tmp 31) 50 9 (.string ⟨#[]⟩) 16 rfl Tryz.underlying50 info9 rfl (by decide) (by omega) u5 D (a0.extract (B : Int).toNat (A : Int).toNat) [.string (a0.extract (B : Int).toNat (A : Int).toNat)] (fun _ => True) (fun _ => False) rfl rfl ?aP (fun _ hk => hk.elim) ?aF ?aO ?aB ?aS ?aL ?_; (case aP => exact rfl); (case aB => exact (be_ HB.out)); (case aF => exact (fun _ _ => trivial)); (case aO => exact (ra_ E.out)); (case aS => exact (below_size (be_ HB.out))); (case aL => have := T.out; omega); intro ap au ho hb hg hat; rw [← U.out] at ho; replace HB := Aside0.mk (hb); have W := Aside0.mk (ho); clear E; clear ho hb hg hat))
     go_roundg k1
     case measure => have := G.out; omega
     case rel => exact ⟨(M), (wrap64 (A + 1)), (wrap64 (A + 1)), rl_, rl_, H', ⟨by have := G.out; omega⟩, ⟨ra_ W.out⟩, ⟨be_ HB.out⟩⟩
    ·
     have a7 : (A == (a0.size : Int)) = false := eq0_ c6; have a8 : (A != (a0.size : Int)) = true := ne1_ c6
     obtain ⟨ac, H⟩ := ipd_ H; obtain ⟨ad, H⟩ := ipd_ H
     have a9 : 0 ≤ (A : Int) := od_
     have aa : A < (a0.size : Int) := od_
     have aq := bt_at a0 A; replace a9 := eq_true a9; replace aa := eq_true aa; refine Aside0.out ?_
     replace H := ic_ H; obtain ⟨I, H⟩ | ⟨I, H⟩ := H
     ·
      have X : ((bt a0 A) == a1) = true := eq1_ I; have Y : ((bt a0 A) != a1) = false := ne0_ I; clear I
      obtain ⟨Z, H⟩ := ip_ H; have ae := eq_true Z; have af : decide (0 ≤ B) = true := dt_ Z; clear Z
      obtain ⟨a2, H⟩ := ip_ H; have ag := eq_true a2; have ah : decide (B ≤ A) = true := dt_ a2; clear a2; have ai := eq_true (od_ : A ≤ (a0.size : Int))
      obtain ⟨ab, H⟩ := ip_ H; have a3 := Aside0.mk ab; clear ab; obtain ⟨O, hy_⟩ : ∃ y_ : List ByteArray, y_ = (D ++ [a0.extract (B : Int).toNat (A : Int).toNat]) := ⟨_, rfl⟩; replace H : (spec_l02Parts.l0 k1 a0 a1 O (wrap64 (A + 1)) (wrap64 (A + 1))) = some r := yh_
      have a4 := Aside0.mk hy_; clear hy_; have H' := Aside0.mk H; clear H; refine ⟨?_⟩
      go_wp2_with (first | ((with_reducible refine gate_builtin (b := .append) (xs := #[.tmp 26, .tmp 31]) rfl ?_); at_builtin; refine Kd.R_append Kd.string (w0 := w) w.heap.size rfl (.tmp 26) (.tmp 31) 50 9 (.string ⟨#[]⟩) 16 rfl Tryz.underlying50 info9 rfl (by decide) (by omega) u5 D (a0.extract (B : Int).toNat (A : Int).toNat) [.string (a0.extract (B : Int).toNat (A : Int).toNat)] (fun _ => True) (fun _ => False) rfl rfl ?aP (fun _ hk => hk.elim) ?aF ?aO ?aB ?aS ?aL ?_; (case aP => exact rfl); (case aB => exact (be_ HB.out)); (case aF => exact (fun _ _ => trivial)); (case aO => exact (ra_ E.out)); (case aS => exact (below_size (be_ HB.out))); (case aL => have := a3.out; omega); intro ar av ho hb hg hat; rw [← a4.out] at ho; replace HB := Aside0.mk (hb); have a5 := Aside0.mk (ho); clear E; clear ho hb hg hat))
      go_roundg k1
      case measure => have := G.out; omega
      case rel => exact ⟨(O), (wrap64 (A + 1)), (wrap64 (A + 1)), rl_, rl_, H', ⟨by have := G.out; omega⟩, ⟨ra_ a5.out⟩, ⟨be_ HB.out⟩⟩
     ·
      have X : ((bt a0 A) == a1) = false := eq0_ I; have Y : ((bt a0 A) != a1) = true := ne1_ I; have H' := Aside0.mk H; clear H; refine ⟨?_⟩
      go_wp2
      go_roundg k1
      case measure => have := G.out; omega
      case rel => exact ⟨(D), (B), (wrap64 (A + 1)), rl_, rl_, H', ⟨by have := G.out; omega⟩, ⟨ra_ E.out⟩, ⟨be_ HB.out⟩⟩
   ·
    obtain rfl := oi_ H
    go_wp2
    go_ret
    exact ⟨_, by first | rfl | (simp [errW_none, errW_some] <;> rfl) | (simp [*, errW_none, errW_some] <;> rfl), by (with_reducible repeat (first | apply Kd.R_alloc | apply Kd.R_drewN | apply Kd.R_drew)); exact E.out, be_ HB.out⟩

def spec_l10Same.l0 : Nat → Int → Int → List Int → Int → Option (List Int)
 | 0, _, _, _, _ => none
 | k + 1, x0, x1, x5, x6 => if x6 < x1 then (if x6 ≤ 600 then (if x5.length < 17592186044416 then (spec_l10Same.l0 k x0 x1 (x5 ++ [x0]) (wrap64 (x6 + 1))) else (none)) else (some x5)) else (some x5)
def spec_l10Same.f (k : Nat) (a0 : Int) (a1 : Int) : Option (List Int) := spec_l10Same.l0 k a0 a1 (([] : List Int)) 0
set_option maxHeartbeats 8000000 in
set_option maxRecDepth 100000 in
theorem spec_l10Same.calls {k : Nat} {a0 : Int} {a1 : Int} {r : List Int} {w : World} (h : spec_l10Same.f k a0 a1 = some r) :
  Calls Tryz.prog 59 #[.int .i64 a0, .int .i64 a1] w fun e w' => ∃ v0_ : Value, e = .returned (v0_) ∧ Kd.R (Kd.int .i64) 3 w' w.heap.size (fun _ => True) v0_ r ∧ Below w.heap.size w w' := by
 have HB := Aside0.mk (Below.refl w.heap.size w); have H : (spec_l10Same.l0 k a0 a1 (([] : List Int)) 0) = some r := h; clear h; obtain ⟨I, hy_⟩ : ∃ y_ : List Int, y_ = (([] : List Int)) := ⟨_, rfl⟩; replace H : (spec_l10Same.l0 k a0 a1 I 0) = some r := yh_
 have E := Aside0.mk hy_; clear hy_; have H' := Aside0.mk H; clear H
 go_enter Tryz.func59, Tryz.ntmps59
 go_wp2_with (first | ((with_reducible refine gate_dst (N := 7) rfl ?_); refine Kd.R_lit (Kd.int .i64) _ 3 ?hg (N := 7) ?hd (xs := ([] : List Int)) (inner := []) (ok := fun _ => True) (okp := fun _ => True) ?hr ?hp (fun _ hk => hk) trivial (Below.refl _ _) (Nat.le_refl _) (by simp) ?_; (case hd => rfl); (case hg => rfl); (case hr => first | (go_simp; done) | (go_simp; rfl)); (case hp => exact (Reps.none _ _)); intro W w3 G hb hg_ hnew_; clear hg_ hnew_; (first | rw [← E.out] at G | (simp only [Int.reduceToNat] at G; rw [← E.out] at G)); have K := Aside0.mk (Kd.R_lower G (below_size (be_ HB.out))); replace HB := hb_ HB hb; clear hb G))
 (try simp only [Act.put, List.setIfInBounds_toArray, List.set_cons_zero, List.set_cons_succ])
 go_loopg [5, 6] k (fun kq v5 v6 w' => ∃ (A : List Int) (B : Int), v6 = .int .i64 B ∧ Aside0 (spec_l10Same.l0 kq a0 a1 A B = some r) ∧ Aside0 (kq ≤ k) ∧ Aside0 (Kd.R (Kd.int .i64) 3 w' w.heap.size (fun _ => True) v5 A) ∧ Aside0 (Below w.heap.size w w'))
 case atStart => exact ⟨(I), (0), rl_, H', ⟨Nat.le_refl _⟩, ⟨ra_ K.out⟩, ⟨be_ HB.out⟩⟩
 case round =>
  clear H'; (try clear p2); obtain ⟨A, B, rfl, HA, O, D, HB⟩ := hrel
  cases gk with
  | zero => exact absurd HA.out (by simp [spec_l10Same.l0])
  | succ k1 =>
   have H := HA.out; clear HA; simp only [spec_l10Same.l0] at H
   replace H := icd_ H; obtain ⟨P, H⟩ | ⟨P, H⟩ := H
   ·
    replace H := icd_ H; obtain ⟨T, H⟩ | ⟨T, H⟩ := H
    ·
     obtain ⟨c7, H⟩ := ip_ H; have U := Aside0.mk c7; clear c7; obtain ⟨J, hy_⟩ : ∃ y_ : List Int, y_ = (A ++ [a0]) := ⟨_, rfl⟩; replace H : (spec_l10Same.l0 k1 a0 a1 J (wrap64 (B + 1))) = some r := yh_
     have L := Aside0.mk hy_; clear hy_; have H' := Aside0.mk H; clear H
     go_wp2_with (first | ((with_reducible refine gate_builtin (b := .append) (xs := #[.tmp 17, .tmp 19]) rfl ?_); at_builtin; refine Kd.R_append (Kd.int .i64) (w0 := w) w.heap.size rfl (.tmp 17) (.tmp 19) 47 3 (.int .i64 0) 8 rfl Tryz.underlying47 info3 rfl (by decide) (by omega) u5 A a0 [.int .i64 a0] (fun _ => True) (fun _ => False) rfl rfl ?aP (fun _ hk => hk.elim) ?aF ?aO ?aB ?aS ?aL ?_; (case aP => exact rfl); (case aB => exact (be_ HB.out)); (case aF => exact (fun _ _ => trivial)); (case aO => exact (ra_ D.out)); (case aS => exact (below_size (be_ HB.out))); (case aL => have := U.out; omega); intro X w8 ho hb hg hat; rw [← L.out] at ho; replace HB := Aside0.mk (hb); have M := Aside0.mk (ho); clear D; clear ho hb hg hat))
     go_roundg k1
     case measure => have := O.out; omega
     case rel => exact ⟨(J), (wrap64 (B + 1)), rl_, H', ⟨by have := O.out; omega⟩, ⟨ra_ M.out⟩, ⟨be_ HB.out⟩⟩
    ·
     obtain rfl := oi_ H
     go_wp2
     go_ret
     exact ⟨_, by first | rfl | (simp [errW_none, errW_some] <;> rfl) | (simp [*, errW_none, errW_some] <;> rfl), by (with_reducible repeat (first | apply Kd.R_alloc | apply Kd.R_drewN | apply Kd.R_drew)); exact D.out, be_ HB.out⟩
   ·
    obtain rfl := oi_ H
    go_wp2
    go_ret
    exact ⟨_, by first | rfl | (simp [errW_none, errW_some] <;> rfl) | (simp [*, errW_none, errW_some] <;> rfl), by (with_reducible repeat (first | apply Kd.R_alloc | apply Kd.R_drewN | apply Kd.R_drew)); exact D.out, be_ HB.out⟩

end Go.Proofs.YtgolleldpmkkoaaGreatDoor.QFnExactPlanText
