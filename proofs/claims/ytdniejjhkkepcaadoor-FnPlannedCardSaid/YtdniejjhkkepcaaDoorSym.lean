/- The walks of the library's stable sort over a row of places: each function of it, from a world of the sort's to a world of the sort's, does what its function in plain Lean says. No condition beyond each theorem's own. -/
import Derived.Test.YtdniejjhkkepcaaDoorProg
import Derived.Test.YtdniejjhkkepcaaDoorSrt
import Derived.Shelf.SlSortCmp.Kit1
import Derived.Sort.WalkB2
import Derived.Sort.WalkB12
import Derived.Deep.LoopGhost
import Derived.Deep.DeepCutAuto
import Derived.Deep.CutBlock
set_option linter.unusedVariables false
set_option linter.unusedSimpArgs false
namespace Go.Proofs.YtdniejjhkkepcaaDoorW.Srt
open Go.Shelf Go.RowKit Go.Lib Go.Sort Go.Proofs.YtdniejjhkkepcaaDoorW.Stab Go.Proofs
variable {N : Nat} [Inhabited (Fin N)]
theorem ways8 {a b m i e md : Nat} (h1 : a ≤ i) (he : e + i = md + m) (h2 : i ≤ m) (h3 : i ≤ md) (h4 : md + m ≤ b + i) (hd1 : 2 * md ≤ a + b) (hd2 : a + b ≤ 2 * md + 1) (hA : a + 1 < m) (hB : m + 1 < b) :
    ((i < m ∧ m < e) ∧ (a < i ∧ i < md) ∧ (md < e ∧ e < b)) ∨ ((i < m ∧ m < e) ∧ (a < i ∧ i < md) ∧ (md < e ∧ ¬ e < b)) ∨ ((i < m ∧ m < e) ∧ (¬ a < i) ∧ (md < e ∧ e < b)) ∨ ((i < m ∧ m < e) ∧ (¬ a < i) ∧ (md < e ∧ ¬ e < b)) ∨ ((¬ i < m) ∧ (a < i ∧ i < md) ∧ (¬ md < e)) ∨ ((¬ i < m) ∧ (a < i ∧ ¬ i < md) ∧ (¬ md < e)) ∨ ((i < m ∧ ¬ m < e) ∧ (a < i ∧ ¬ i < md) ∧ (md < e ∧ e < b)) ∨ ((i < m ∧ ¬ m < e) ∧ (a < i ∧ ¬ i < md) ∧ (¬ md < e)) := by
  omega
set_option maxHeartbeats 16000000 in
set_option maxRecDepth 1000000 in
theorem sym_walk (g : Nat) (cb : Array Value) (cf : Fin N → Fin N → Int) (eg : ∀ args w, (callFunc g args).run Tryd.prog w = .ok (.enter g args) w) (len blk off cap : Nat) (d0 : Array (Fin N)) (w0 : World) (R : Row1 encP w0 blk off d0) (hsz : len < 1000000) (hcmp : CmpLays1 Tryd.prog g cb encP cf blk off d0.size w0) : ∀ (f a m b : Nat) (d : Array (Fin N)) (w : World) (hs : d0.size = d.size) (hlen : d.size = len) (S : SW encP w0 blk off d w) (ham : a < m) (hmb : m < b) (hb : b ≤ len) (hf : b - a ≤ f),
    Calls Tryd.prog 69 #[.slice (some ⟨blk, off, none⟩) len cap, .int .i64 a, .int .i64 m, .int .i64 b, .func (.func g) #[] cb] w fun e w' => e = .returned (.tuple #[]) ∧ SW encP w0 blk off (symM (ltOf cf) f a m b d) w' := by
  have HC : Aside _ := hcmp
  clear hcmp
  have mixed : Tryd.prog.follows .mixedOrders = true := by kernel_rfl
  intro f
  induction f with
  | zero => intro a m b d w hs hlen S ham hmb hb hf; exfalso; omega
  | succ f ih =>
    intro a m b d w hs hlen S ham hmb hb hf
    have S0 : Aside (SW encP w0 blk off d w) := S
    clear S
    obtain ⟨i0, hi0⟩ : ∃ q, q + a = m := ⟨m - a, by omega⟩
    obtain ⟨j0, hj0⟩ : ∃ q, q + m = b := ⟨b - m, by omega⟩
    have r1 : IntKind.i64.wrap ((m : Int) - (a : Int)) = (i0 : Int) := by rw [IntKind.wrap_i64]; omega
    have r2 : IntKind.i64.wrap ((b : Int) - (m : Int)) = (j0 : Int) := by rw [IntKind.wrap_i64]; omega
    by_cases hA : m - a = 1
    · have hAz : (i0 : Int) = 1 := by omega
      have hAb : ((i0 : Int) == 1) = true := by rw [hAz]; rfl
      clear hAz
      go_enter Tryd.func69, Tryd.ntmps69
      go_wp2
      go_loopg [10, 11] (b - a) (fun kx s1 s2 wr => ∃ (f1 i j : Nat), s1 = .int .i64 i ∧ s2 = .int .i64 j ∧ m ≤ i ∧ i ≤ j ∧ j ≤ b ∧ j - i ≤ f1 ∧ f1 ≤ kx ∧ Aside (SW encP w0 blk off d wr) ∧ Hid (bs (fun h => (ltOf cf) d[h]! d[a]!) f1 i j = bs (fun h => (ltOf cf) d[h]! d[a]!) (b - a) m b))
      case atStart => exact ⟨b - a, m, b, rfl, rfl, Nat.le_refl _, by omega, Nat.le_refl _, by omega, Nat.le_refl _, S0, rfl⟩
      case round =>
        clear S0
        obtain ⟨f1, i, j, rfl, rfl, hi1, hij, hj1, hf1, hkx, S1, HO⟩ := hrel
        by_cases hlt : i < j
        · have hltz : (i : Int) < (j : Int) := by omega
          obtain ⟨f1, rfl⟩ : ∃ q, f1 = q + 1 := ⟨f1 - 1, by omega⟩
          obtain ⟨h, hh1, hh2⟩ : ∃ q, 2 * q ≤ i + j ∧ i + j ≤ 2 * q + 1 := ⟨(i + j) / 2, by omega, by omega⟩
          have zh : ((i : Int) + (j : Int)) / 2 = (h : Int) := by omega

          have step : Hid (bs (fun h => (ltOf cf) d[h]! d[a]!) (f1 + 1) i j = if (fun h => (ltOf cf) d[h]! d[a]!) h = true then bs (fun h => (ltOf cf) d[h]! d[a]!) f1 (h + 1) j else bs (fun h => (ltOf cf) d[h]! d[a]!) f1 i h) := by
            show _ = _
            rw [bs, if_pos hlt, show (i + j) / 2 = h by omega]
          cases hlv : (ltOf cf) d[h]! d[a]! with
          | true =>
            obtain ⟨iN6, hiN6⟩ : ∃ q, q = h := ⟨_, rfl⟩
            obtain ⟨jN6, hjN6⟩ : ∃ q, q = a := ⟨_, rfl⟩
            have ea6 : ((h : Int)).toNat = iN6 := by omega
            have pa6 : (0 : Int) ≤ (h : Int) := by omega
            have ba6 : (h : Int) < (len : Int) := by omega
            have ra6 : IntKind.i64.wrap ((h : Int)) = (h : Int) := by rw [IntKind.wrap_i64]; omega
            have ec6 : ((a : Int)).toNat = jN6 := by omega
            have pc6 : (0 : Int) ≤ (a : Int) := by omega
            have bc6 : (a : Int) < (len : Int) := by omega
            have rc6 : IntKind.i64.wrap ((a : Int)) = (a : Int) := by rw [IntKind.wrap_i64]; omega
            obtain ⟨x6, hx6⟩ : ∃ x, x = d[h]! := ⟨_, rfl⟩
            obtain ⟨y6, hy6⟩ : ∃ x, x = d[a]! := ⟨_, rfl⟩
            have l6a := S1.out.cl R (by omega) (h) (by omega)
            have l6b := S1.out.cl R (by omega) (a) (by omega)
            rw [← hx6, ← hiN6] at l6a
            rw [← hy6, ← hjN6] at l6b
            have hc6 := S1.out.cmp HC.out (by omega) x6 y6
            have hv6 : cf x6 y6 < 0 := by rw [hx6, hy6]; exact of_decide_eq_true hlv
            have hd6 : decide (cf x6 y6 < 0) = true := decide_eq_true hv6
            simp only [encP] at l6a l6b hc6
            clear hx6 hy6 hiN6 hjN6
            go_wp2_with fail
            go_quiet_grown (first | (go_at_fn g; refine Calls.grown_of (hc6 _ _)))
            have S2 : Aside (SW encP w0 blk off d (grow (wr.drewN nq) osq)) := S1.out.grown nq osq
            clear l6a l6b hc6 S1
            generalize grow (wr.drewN nq) osq = w2 at S2 ⊢
            clear nq osq
            clear ea6 ec6
            go_wp2
            go_roundg f1
            case measure => omega
            case rel => exact ⟨f1, h + 1, j, by first | rfl | go_num, rfl, by omega, by omega, by omega, by omega, Nat.le_refl _, S2, (show Hid _ from by rw [← HO.out, step.out, if_pos (by exact hlv)]; exact rfl)⟩
          | false =>
            obtain ⟨iN7, hiN7⟩ : ∃ q, q = h := ⟨_, rfl⟩
            obtain ⟨jN7, hjN7⟩ : ∃ q, q = a := ⟨_, rfl⟩
            have ea7 : ((h : Int)).toNat = iN7 := by omega
            have pa7 : (0 : Int) ≤ (h : Int) := by omega
            have ba7 : (h : Int) < (len : Int) := by omega
            have ra7 : IntKind.i64.wrap ((h : Int)) = (h : Int) := by rw [IntKind.wrap_i64]; omega
            have ec7 : ((a : Int)).toNat = jN7 := by omega
            have pc7 : (0 : Int) ≤ (a : Int) := by omega
            have bc7 : (a : Int) < (len : Int) := by omega
            have rc7 : IntKind.i64.wrap ((a : Int)) = (a : Int) := by rw [IntKind.wrap_i64]; omega
            obtain ⟨x7, hx7⟩ : ∃ x, x = d[h]! := ⟨_, rfl⟩
            obtain ⟨y7, hy7⟩ : ∃ x, x = d[a]! := ⟨_, rfl⟩
            have l7a := S1.out.cl R (by omega) (h) (by omega)
            have l7b := S1.out.cl R (by omega) (a) (by omega)
            rw [← hx7, ← hiN7] at l7a
            rw [← hy7, ← hjN7] at l7b
            have hc7 := S1.out.cmp HC.out (by omega) x7 y7
            have hv7 : ¬ cf x7 y7 < 0 := by rw [hx7, hy7]; exact of_decide_eq_false hlv
            have hd7 : decide (cf x7 y7 < 0) = false := decide_eq_false hv7
            simp only [encP] at l7a l7b hc7
            clear hx7 hy7 hiN7 hjN7
            go_wp2_with fail
            go_quiet_grown (first | (go_at_fn g; refine Calls.grown_of (hc7 _ _)))
            have S2 : Aside (SW encP w0 blk off d (grow (wr.drewN nq) osq)) := S1.out.grown nq osq
            clear l7a l7b hc7 S1
            generalize grow (wr.drewN nq) osq = w2 at S2 ⊢
            clear nq osq
            clear ea7 ec7
            go_wp2
            go_roundg f1
            case measure => omega
            case rel => exact ⟨f1, i, h, rfl, by first | rfl | go_num, by omega, by omega, by omega, by omega, Nat.le_refl _, S2, (show Hid _ from by rw [← HO.out, step.out, if_neg (by rw [hlv]; simp)]; exact rfl)⟩
        · have hltz : ¬ (i : Int) < (j : Int) := by omega
          have HI : Hid (i = bs (fun h => (ltOf cf) d[h]! d[a]!) (b - a) m b) := by
            show _ = _
            rw [← HO.out]
            cases f1 with
            | zero => rfl
            | succ f1 => rw [bs, if_neg hlt]
          clear HO
          obtain ⟨ip, hip⟩ : ∃ q, q + 1 = i := ⟨i - 1, by omega⟩
          have rip : IntKind.i64.wrap ((i : Int) - 1) = (ip : Int) := by rw [IntKind.wrap_i64]; omega
          go_wp2
          go_loopg [13] (b - a) (fun kx s1 wr2 => ∃ (k : Nat) (dk : Array (Fin N)), s1 = .int .i64 k ∧ a ≤ k ∧ k ≤ ip ∧ ip - k ≤ kx ∧ dk.size = len ∧ Aside (SW encP w0 blk off dk wr2) ∧ Hid (slideUp (ip - k) k dk = slideUp (ip - a) a d))
          case atStart => exact ⟨a, d, rfl, Nat.le_refl _, by omega, by omega, hlen, S1, rfl⟩
          case round =>
            clear S1
            obtain ⟨k, dk, rfl, hk1, hk2, hkx2, hds, S1, HO⟩ := hrel
            by_cases hlt2 : k < ip
            · have hltz2 : (k : Int) < (ip : Int) := by omega
              go_wp2_with fail
              obtain ⟨iN5, hiN5⟩ : ∃ q, q = k := ⟨_, rfl⟩
              obtain ⟨jN5, hjN5⟩ : ∃ q, q = k + 1 := ⟨_, rfl⟩
              have ea5 : ((k : Int)).toNat = iN5 := by omega
              have pa5 : (0 : Int) ≤ (k : Int) := by omega
              have ba5 : (k : Int) < (len : Int) := by omega
              have ra5 : IntKind.i64.wrap ((k : Int)) = (k : Int) := by rw [IntKind.wrap_i64]; omega
              have ec5 : ((k : Int) + 1).toNat = jN5 := by omega
              have pc5 : (0 : Int) ≤ (k : Int) + 1 := by omega
              have bc5 : (k : Int) + 1 < (len : Int) := by omega
              have rc5 : IntKind.i64.wrap ((k : Int) + 1) = (k : Int) + 1 := by rw [IntKind.wrap_i64]; omega
              obtain ⟨x5, hx5⟩ : ∃ x, x = dk[k]! := ⟨_, rfl⟩
              obtain ⟨y5, hy5⟩ : ∃ x, x = dk[k + 1]! := ⟨_, rfl⟩
              have S2 : Aside (SW encP w0 blk off (swp dk (k) (k + 1)) ((wr.setCell ⟨blk, off + iN5, none⟩ (encP y5)).setCell ⟨blk, off + jN5, none⟩ (encP x5)).drew) := by rw [hiN5, hjN5, hx5, hy5]; exact S1.out.swapped R (k) (k + 1) (by omega) (by omega)
              have c5a := S1.out.c1 R (by omega) (k) (by omega)
              have c5b := S1.out.c1 R (by omega) (k + 1) (by omega)
              have f5a := S1.out.f1 R (by omega) (k) (by omega)
              have f5b := S1.out.f1 R (by omega) (k + 1) (by omega)
              obtain ⟨u5, c5c⟩ := S1.out.c2 R (by omega) (k) (k + 1) (by omega) (by omega) (encP y5)
              rw [← hjN5, ← hiN5] at c5c
              rw [← hx5, ← hiN5] at c5a
              rw [← hy5, ← hjN5] at c5b
              rw [← hiN5] at f5a
              rw [← hjN5] at f5b
              simp only [encP] at c5a c5b c5c S2
              clear S1 hx5 hy5 hiN5 hjN5
              go_wp2_with fail
              go_big_region_o
              clear c5a c5b c5c f5a f5b
              generalize ((wr.setCell ⟨blk, off + iN5, none⟩ (.int .i64 y5.val)).setCell ⟨blk, off + jN5, none⟩ (.int .i64 x5.val)).drew = w2 at S2 ⊢
              clear ea5 ec5
              go_wp2
              go_roundg (ip - (k + 1))
              case measure => omega
              case rel => exact ⟨k + 1, swp dk k (k + 1), by first | rfl | go_num, by omega, by omega, by omega, by rw [size_swp]; exact hds, S2, (show Hid _ from by rw [← HO.out, show ip - k = (ip - (k + 1)) + 1 by omega, slideUp]; exact rfl)⟩
            · have hltz2 : ¬ (k : Int) < (ip : Int) := by omega
              go_wp2
              ((try simp only [Exit.inBlock, Exit.then]); first | refine bodyPost_end (results_none rfl _ _ _) rfl ?_ | refine bodyPost_ret (results_none rfl _ _ _) rfl ?_)
              refine ⟨rfl, ?_⟩
              rw [symM, if_pos (show m - a = 1 by omega), ← HI.out, show i - 1 - a = ip - a by omega, ← HO.out, show ip - k = 0 by omega]
              exact S1.out
    · have hAz : ¬ (i0 : Int) = 1 := by omega
      have hAb : ((i0 : Int) == 1) = false := by simpa using hAz
      clear hAz
      by_cases hB : b - m = 1
      · have hBz : (j0 : Int) = 1 := by omega
        have hBb : ((j0 : Int) == 1) = true := by rw [hBz]; rfl
        clear hBz
        go_enter Tryd.func69, Tryd.ntmps69
        go_wp2
        go_loopg [14, 15] (b - a) (fun kx s1 s2 wr => ∃ (f1 i j : Nat), s1 = .int .i64 i ∧ s2 = .int .i64 j ∧ a ≤ i ∧ i ≤ j ∧ j ≤ m ∧ j - i ≤ f1 ∧ f1 ≤ kx ∧ Aside (SW encP w0 blk off d wr) ∧ Hid (bs (fun h => !(ltOf cf) d[m]! d[h]!) f1 i j = bs (fun h => !(ltOf cf) d[m]! d[h]!) (b - a) a m))
        case atStart => exact ⟨b - a, a, m, rfl, rfl, Nat.le_refl _, by omega, Nat.le_refl _, by omega, Nat.le_refl _, S0, rfl⟩
        case round =>
          clear S0
          obtain ⟨f1, i, j, rfl, rfl, hi1, hij, hj1, hf1, hkx, S1, HO⟩ := hrel
          by_cases hlt : i < j
          · have hltz : (i : Int) < (j : Int) := by omega
            obtain ⟨f1, rfl⟩ : ∃ q, f1 = q + 1 := ⟨f1 - 1, by omega⟩
            obtain ⟨h, hh1, hh2⟩ : ∃ q, 2 * q ≤ i + j ∧ i + j ≤ 2 * q + 1 := ⟨(i + j) / 2, by omega, by omega⟩
            have zh : ((i : Int) + (j : Int)) / 2 = (h : Int) := by omega

            have step : Hid (bs (fun h => !(ltOf cf) d[m]! d[h]!) (f1 + 1) i j = if (fun h => !(ltOf cf) d[m]! d[h]!) h = true then bs (fun h => !(ltOf cf) d[m]! d[h]!) f1 (h + 1) j else bs (fun h => !(ltOf cf) d[m]! d[h]!) f1 i h) := by
              show _ = _
              rw [bs, if_pos hlt, show (i + j) / 2 = h by omega]
            cases hlv : (ltOf cf) d[m]! d[h]! with
            | false =>
              obtain ⟨iN9, hiN9⟩ : ∃ q, q = m := ⟨_, rfl⟩
              obtain ⟨jN9, hjN9⟩ : ∃ q, q = h := ⟨_, rfl⟩
              have ea9 : ((m : Int)).toNat = iN9 := by omega
              have pa9 : (0 : Int) ≤ (m : Int) := by omega
              have ba9 : (m : Int) < (len : Int) := by omega
              have ra9 : IntKind.i64.wrap ((m : Int)) = (m : Int) := by rw [IntKind.wrap_i64]; omega
              have ec9 : ((h : Int)).toNat = jN9 := by omega
              have pc9 : (0 : Int) ≤ (h : Int) := by omega
              have bc9 : (h : Int) < (len : Int) := by omega
              have rc9 : IntKind.i64.wrap ((h : Int)) = (h : Int) := by rw [IntKind.wrap_i64]; omega
              obtain ⟨x9, hx9⟩ : ∃ x, x = d[m]! := ⟨_, rfl⟩
              obtain ⟨y9, hy9⟩ : ∃ x, x = d[h]! := ⟨_, rfl⟩
              have l9a := S1.out.cl R (by omega) (m) (by omega)
              have l9b := S1.out.cl R (by omega) (h) (by omega)
              rw [← hx9, ← hiN9] at l9a
              rw [← hy9, ← hjN9] at l9b
              have hc9 := S1.out.cmp HC.out (by omega) x9 y9
              have hv9 : ¬ cf x9 y9 < 0 := by rw [hx9, hy9]; exact of_decide_eq_false hlv
              have hd9 : decide (cf x9 y9 < 0) = false := decide_eq_false hv9
              simp only [encP] at l9a l9b hc9
              clear hx9 hy9 hiN9 hjN9
              go_wp2_with fail
              go_quiet_grown (first | (go_at_fn g; refine Calls.grown_of (hc9 _ _)))
              have S2 : Aside (SW encP w0 blk off d (grow (wr.drewN nq) osq)) := S1.out.grown nq osq
              clear l9a l9b hc9 S1
              generalize grow (wr.drewN nq) osq = w2 at S2 ⊢
              clear nq osq
              clear ea9 ec9
              go_wp2
              go_roundg f1
              case measure => omega
              case rel => exact ⟨f1, h + 1, j, by first | rfl | go_num, rfl, by omega, by omega, by omega, by omega, Nat.le_refl _, S2, (show Hid _ from by rw [← HO.out, step.out, if_pos (by rw [hlv]; rfl)]; exact rfl)⟩
            | true =>
              obtain ⟨iN10, hiN10⟩ : ∃ q, q = m := ⟨_, rfl⟩
              obtain ⟨jN10, hjN10⟩ : ∃ q, q = h := ⟨_, rfl⟩
              have ea10 : ((m : Int)).toNat = iN10 := by omega
              have pa10 : (0 : Int) ≤ (m : Int) := by omega
              have ba10 : (m : Int) < (len : Int) := by omega
              have ra10 : IntKind.i64.wrap ((m : Int)) = (m : Int) := by rw [IntKind.wrap_i64]; omega
              have ec10 : ((h : Int)).toNat = jN10 := by omega
              have pc10 : (0 : Int) ≤ (h : Int) := by omega
              have bc10 : (h : Int) < (len : Int) := by omega
              have rc10 : IntKind.i64.wrap ((h : Int)) = (h : Int) := by rw [IntKind.wrap_i64]; omega
              obtain ⟨x10, hx10⟩ : ∃ x, x = d[m]! := ⟨_, rfl⟩
              obtain ⟨y10, hy10⟩ : ∃ x, x = d[h]! := ⟨_, rfl⟩
              have l10a := S1.out.cl R (by omega) (m) (by omega)
              have l10b := S1.out.cl R (by omega) (h) (by omega)
              rw [← hx10, ← hiN10] at l10a
              rw [← hy10, ← hjN10] at l10b
              have hc10 := S1.out.cmp HC.out (by omega) x10 y10
              have hv10 : cf x10 y10 < 0 := by rw [hx10, hy10]; exact of_decide_eq_true hlv
              have hd10 : decide (cf x10 y10 < 0) = true := decide_eq_true hv10
              simp only [encP] at l10a l10b hc10
              clear hx10 hy10 hiN10 hjN10
              go_wp2_with fail
              go_quiet_grown (first | (go_at_fn g; refine Calls.grown_of (hc10 _ _)))
              have S2 : Aside (SW encP w0 blk off d (grow (wr.drewN nq) osq)) := S1.out.grown nq osq
              clear l10a l10b hc10 S1
              generalize grow (wr.drewN nq) osq = w2 at S2 ⊢
              clear nq osq
              clear ea10 ec10
              go_wp2
              go_roundg f1
              case measure => omega
              case rel => exact ⟨f1, i, h, rfl, by first | rfl | go_num, by omega, by omega, by omega, by omega, Nat.le_refl _, S2, (show Hid _ from by rw [← HO.out, step.out, if_neg (by rw [hlv]; simp)]; exact rfl)⟩
          · have hltz : ¬ (i : Int) < (j : Int) := by omega
            have HI : Hid (i = bs (fun h => !(ltOf cf) d[m]! d[h]!) (b - a) a m) := by
              show _ = _
              rw [← HO.out]
              cases f1 with
              | zero => rfl
              | succ f1 => rw [bs, if_neg hlt]
            clear HO
            go_wp2
            go_loopg [17] (b - a) (fun kx s1 wr2 => ∃ (k : Nat) (dk : Array (Fin N)), s1 = .int .i64 k ∧ i ≤ k ∧ k ≤ m ∧ k - i ≤ kx ∧ dk.size = len ∧ Aside (SW encP w0 blk off dk wr2) ∧ Hid (slideDn (k - i) k dk = slideDn (m - i) m d))
            case atStart => exact ⟨m, d, rfl, by omega, Nat.le_refl _, by omega, hlen, S1, rfl⟩
            case round =>
              clear S1
              obtain ⟨k, dk, rfl, hk1, hk2, hkx2, hds, S1, HO⟩ := hrel
              by_cases hlt2 : i < k
              · have hltz2 : (i : Int) < (k : Int) := by omega
                obtain ⟨kp, hkp⟩ : ∃ q, q + 1 = k := ⟨k - 1, by omega⟩
                have zkp : (k : Int) = (kp : Int) + 1 := by omega
                have hltz3 : (i : Int) < (kp : Int) + 1 := by omega
                go_wp2_with fail
                obtain ⟨iN8, hiN8⟩ : ∃ q, q = k := ⟨_, rfl⟩
                obtain ⟨jN8, hjN8⟩ : ∃ q, q = k - 1 := ⟨_, rfl⟩
                have ea8 : ((kp : Int) + 1).toNat = iN8 := by omega
                have pa8 : (0 : Int) ≤ (kp : Int) + 1 := by omega
                have ba8 : (kp : Int) + 1 < (len : Int) := by omega
                have ra8 : IntKind.i64.wrap ((kp : Int) + 1) = (kp : Int) + 1 := by rw [IntKind.wrap_i64]; omega
                have ec8 : ((kp : Int)).toNat = jN8 := by omega
                have pc8 : (0 : Int) ≤ (kp : Int) := by omega
                have bc8 : (kp : Int) < (len : Int) := by omega
                have rc8 : IntKind.i64.wrap ((kp : Int)) = (kp : Int) := by rw [IntKind.wrap_i64]; omega
                obtain ⟨x8, hx8⟩ : ∃ x, x = dk[k]! := ⟨_, rfl⟩
                obtain ⟨y8, hy8⟩ : ∃ x, x = dk[k - 1]! := ⟨_, rfl⟩
                have S2 : Aside (SW encP w0 blk off (swp dk (k) (k - 1)) ((wr.setCell ⟨blk, off + iN8, none⟩ (encP y8)).setCell ⟨blk, off + jN8, none⟩ (encP x8)).drew) := by rw [hiN8, hjN8, hx8, hy8]; exact S1.out.swapped R (k) (k - 1) (by omega) (by omega)
                have c8a := S1.out.c1 R (by omega) (k) (by omega)
                have c8b := S1.out.c1 R (by omega) (k - 1) (by omega)
                have f8a := S1.out.f1 R (by omega) (k) (by omega)
                have f8b := S1.out.f1 R (by omega) (k - 1) (by omega)
                obtain ⟨u8, c8c⟩ := S1.out.c2 R (by omega) (k) (k - 1) (by omega) (by omega) (encP y8)
                rw [← hjN8, ← hiN8] at c8c
                rw [← hx8, ← hiN8] at c8a
                rw [← hy8, ← hjN8] at c8b
                rw [← hiN8] at f8a
                rw [← hjN8] at f8b
                simp only [encP] at c8a c8b c8c S2
                clear S1 hx8 hy8 hiN8 hjN8
                go_wp2_with fail
                go_big_region_o
                clear c8a c8b c8c f8a f8b
                generalize ((wr.setCell ⟨blk, off + iN8, none⟩ (.int .i64 y8.val)).setCell ⟨blk, off + jN8, none⟩ (.int .i64 x8.val)).drew = w2 at S2 ⊢
                clear ea8 ec8
                go_wp2
                go_roundg (k - 1 - i)
                case measure => omega
                case rel => exact ⟨k - 1, swp dk k (k - 1), by first | rfl | go_num | (congr 1; omega), by omega, by omega, Nat.le_refl _, by rw [size_swp]; exact hds, S2, (show Hid _ from by rw [← HO.out, show k - i = (k - 1 - i) + 1 by omega, slideDn]; exact rfl)⟩
              · have hltz2 : ¬ (i : Int) < (k : Int) := by omega
                go_wp2
                ((try simp only [Exit.inBlock, Exit.then]); first | refine bodyPost_end (results_none rfl _ _ _) rfl ?_ | refine bodyPost_ret (results_none rfl _ _ _) rfl ?_)
                refine ⟨rfl, ?_⟩
                rw [symM, if_neg hA, if_pos (show b - m = 1 by omega), ← HI.out, ← HO.out, show k - i = 0 by omega]
                exact S1.out
      · have hBz : ¬ (j0 : Int) = 1 := by omega
        have hBb : ((j0 : Int) == 1) = false := by simpa using hBz
        clear hBz
        go_enter Tryd.func69, Tryd.ntmps69
        obtain ⟨md, hmd1, hmd2⟩ : ∃ q, 2 * q ≤ a + b ∧ a + b ≤ 2 * q + 1 := ⟨(a + b) / 2, by omega, by omega⟩
        have zmd : ((a : Int) + (b : Int)) / 2 = (md : Int) := by omega
        obtain ⟨pN, hpN⟩ : ∃ q, q + 1 = md + m := ⟨md + m - 1, by omega⟩
        have rn : IntKind.i64.wrap ((md : Int) + (m : Int)) = (md : Int) + (m : Int) := by rw [IntKind.wrap_i64]; omega
        have rp : IntKind.i64.wrap ((md : Int) + (m : Int) - 1) = (pN : Int) := by rw [IntKind.wrap_i64]; omega
        have rab : IntKind.i64.wrap ((a : Int) + (b : Int)) = (a : Int) + (b : Int) := by rw [IntKind.wrap_i64]; omega
        go_upto_if 140 with fail
        go_cut [20, 21] (fun s20 s21 wc => ∃ s0 r0 : Nat, s20 = .int .i64 s0 ∧ s21 = .int .i64 r0 ∧ a ≤ s0 ∧ s0 ≤ r0 ∧ r0 ≤ m ∧ r0 ≤ md ∧ md + m ≤ b + s0 ∧ Aside (SW encP w0 blk off d wc) ∧ Hid (bs (fun c => !(ltOf cf) d[(a + b) / 2 + m - 1 - c]! d[c]!) (b - a) s0 r0 = cutAt (ltOf cf) d a m b))
        case first =>
          by_cases hc : md < m
          · have hcz : (md : Int) < (m : Int) := by omega
            obtain ⟨s0, hs0⟩ : ∃ q, q + b = md + m := ⟨md + m - b, by omega⟩
            have rs0 : IntKind.i64.wrap ((md : Int) + (m : Int) - (b : Int)) = (s0 : Int) := by rw [IntKind.wrap_i64]; omega
            go_wp2
            go_meet
            case rel => exact ⟨s0, md, by first | rfl | go_num, by first | rfl | go_num, by omega, by omega, by omega, by omega, by omega, S0, (show Hid _ from by unfold cutAt; rw [if_pos (by omega), show (a + b) / 2 + m - b = s0 by omega, show (a + b) / 2 = md by omega]; exact rfl)⟩
          · have hcz : ¬ (md : Int) < (m : Int) := by omega
            go_wp2
            go_meet
            case rel => exact ⟨a, m, by first | rfl | go_num, by first | rfl | go_num, by omega, by omega, by omega, by omega, by omega, S0, (show Hid _ from by unfold cutAt; rw [if_neg (by omega)]; exact rfl)⟩
        case rest =>
          clear S0
          obtain ⟨s0, r0, rfl, rfl, hs1, hs2, hs3, hs4, hs5, S0, HST⟩ := hcut
          go_wp2

          go_loopg [20, 21] (b - a) (fun kx s1 s2 wr => ∃ (f1 i j : Nat), s1 = .int .i64 i ∧ s2 = .int .i64 j ∧ s0 ≤ i ∧ i ≤ j ∧ j ≤ r0 ∧ j - i ≤ f1 ∧ f1 ≤ kx ∧ Aside (SW encP w0 blk off d wr) ∧ Hid (bs (fun c => !(ltOf cf) d[(a + b) / 2 + m - 1 - c]! d[c]!) f1 i j = cutAt (ltOf cf) d a m b))
          case atStart => exact ⟨b - a, s0, r0, rfl, rfl, Nat.le_refl _, by omega, Nat.le_refl _, by omega, Nat.le_refl _, S0, HST⟩
          case round =>
            clear S0
            obtain ⟨f1, i, j, rfl, rfl, hi1, hij, hj1, hf1, hkx, S1, HO⟩ := hrel
            by_cases hlt : i < j
            · have hltz : (i : Int) < (j : Int) := by omega
              obtain ⟨f1, rfl⟩ : ∃ q, f1 = q + 1 := ⟨f1 - 1, by omega⟩
              obtain ⟨h, hh1, hh2⟩ : ∃ q, 2 * q ≤ i + j ∧ i + j ≤ 2 * q + 1 := ⟨(i + j) / 2, by omega, by omega⟩
              have zh : ((i : Int) + (j : Int)) / 2 = (h : Int) := by omega
              have rc : IntKind.i64.wrap ((pN : Int) - (h : Int)) = ((pN - h : Nat) : Int) := by rw [IntKind.wrap_i64]; omega
              have step : Hid (bs (fun c => !(ltOf cf) d[(a + b) / 2 + m - 1 - c]! d[c]!) (f1 + 1) i j = if (fun c => !(ltOf cf) d[(a + b) / 2 + m - 1 - c]! d[c]!) h = true then bs (fun c => !(ltOf cf) d[(a + b) / 2 + m - 1 - c]! d[c]!) f1 (h + 1) j else bs (fun c => !(ltOf cf) d[(a + b) / 2 + m - 1 - c]! d[c]!) f1 i h) := by
                show _ = _
                rw [bs, if_pos hlt, show (i + j) / 2 = h by omega]
              cases hlv : (ltOf cf) d[(pN - h)]! d[h]! with
              | false =>
                obtain ⟨iN11, hiN11⟩ : ∃ q, q = (pN - h) := ⟨_, rfl⟩
                obtain ⟨jN11, hjN11⟩ : ∃ q, q = h := ⟨_, rfl⟩
                have ea11 : (((pN - h : Nat) : Int)).toNat = iN11 := by omega
                have pa11 : (0 : Int) ≤ ((pN - h : Nat) : Int) := by omega
                have ba11 : ((pN - h : Nat) : Int) < (len : Int) := by omega
                have ra11 : IntKind.i64.wrap (((pN - h : Nat) : Int)) = ((pN - h : Nat) : Int) := by rw [IntKind.wrap_i64]; omega
                have ec11 : ((h : Int)).toNat = jN11 := by omega
                have pc11 : (0 : Int) ≤ (h : Int) := by omega
                have bc11 : (h : Int) < (len : Int) := by omega
                have rc11 : IntKind.i64.wrap ((h : Int)) = (h : Int) := by rw [IntKind.wrap_i64]; omega
                obtain ⟨x11, hx11⟩ : ∃ x, x = d[(pN - h)]! := ⟨_, rfl⟩
                obtain ⟨y11, hy11⟩ : ∃ x, x = d[h]! := ⟨_, rfl⟩
                have l11a := S1.out.cl R (by omega) ((pN - h)) (by omega)
                have l11b := S1.out.cl R (by omega) (h) (by omega)
                rw [← hx11, ← hiN11] at l11a
                rw [← hy11, ← hjN11] at l11b
                have hc11 := S1.out.cmp HC.out (by omega) x11 y11
                have hv11 : ¬ cf x11 y11 < 0 := by rw [hx11, hy11]; exact of_decide_eq_false hlv
                have hd11 : decide (cf x11 y11 < 0) = false := decide_eq_false hv11
                simp only [encP] at l11a l11b hc11
                clear hx11 hy11 hiN11 hjN11
                go_wp2_with fail
                go_quiet_grown (first | (go_at_fn g; refine Calls.grown_of (hc11 _ _)))
                have S2 : Aside (SW encP w0 blk off d (grow (wr.drewN nq) osq)) := S1.out.grown nq osq
                clear l11a l11b hc11 S1
                generalize grow (wr.drewN nq) osq = w2 at S2 ⊢
                clear nq osq
                clear ea11 ec11
                go_wp2
                go_roundg f1
                case measure => omega
                case rel => exact ⟨f1, h + 1, j, by first | rfl | go_num, rfl, by omega, by omega, by omega, by omega, Nat.le_refl _, S2, (show Hid _ from by rw [← HO.out, step.out, if_pos (by rw [getCongr d (show (a + b) / 2 + m - 1 - h = pN - h by omega), hlv]; rfl)]; exact rfl)⟩
              | true =>
                obtain ⟨iN12, hiN12⟩ : ∃ q, q = (pN - h) := ⟨_, rfl⟩
                obtain ⟨jN12, hjN12⟩ : ∃ q, q = h := ⟨_, rfl⟩
                have ea12 : (((pN - h : Nat) : Int)).toNat = iN12 := by omega
                have pa12 : (0 : Int) ≤ ((pN - h : Nat) : Int) := by omega
                have ba12 : ((pN - h : Nat) : Int) < (len : Int) := by omega
                have ra12 : IntKind.i64.wrap (((pN - h : Nat) : Int)) = ((pN - h : Nat) : Int) := by rw [IntKind.wrap_i64]; omega
                have ec12 : ((h : Int)).toNat = jN12 := by omega
                have pc12 : (0 : Int) ≤ (h : Int) := by omega
                have bc12 : (h : Int) < (len : Int) := by omega
                have rc12 : IntKind.i64.wrap ((h : Int)) = (h : Int) := by rw [IntKind.wrap_i64]; omega
                obtain ⟨x12, hx12⟩ : ∃ x, x = d[(pN - h)]! := ⟨_, rfl⟩
                obtain ⟨y12, hy12⟩ : ∃ x, x = d[h]! := ⟨_, rfl⟩
                have l12a := S1.out.cl R (by omega) ((pN - h)) (by omega)
                have l12b := S1.out.cl R (by omega) (h) (by omega)
                rw [← hx12, ← hiN12] at l12a
                rw [← hy12, ← hjN12] at l12b
                have hc12 := S1.out.cmp HC.out (by omega) x12 y12
                have hv12 : cf x12 y12 < 0 := by rw [hx12, hy12]; exact of_decide_eq_true hlv
                have hd12 : decide (cf x12 y12 < 0) = true := decide_eq_true hv12
                simp only [encP] at l12a l12b hc12
                clear hx12 hy12 hiN12 hjN12
                go_wp2_with fail
                go_quiet_grown (first | (go_at_fn g; refine Calls.grown_of (hc12 _ _)))
                have S2 : Aside (SW encP w0 blk off d (grow (wr.drewN nq) osq)) := S1.out.grown nq osq
                clear l12a l12b hc12 S1
                generalize grow (wr.drewN nq) osq = w2 at S2 ⊢
                clear nq osq
                clear ea12 ec12
                go_wp2
                go_roundg f1
                case measure => omega
                case rel => exact ⟨f1, i, h, rfl, by first | rfl | go_num, by omega, by omega, by omega, by omega, Nat.le_refl _, S2, (show Hid _ from by rw [← HO.out, step.out, if_neg (by rw [getCongr d (show (a + b) / 2 + m - 1 - h = pN - h by omega), hlv]; simp)]; exact rfl)⟩
            · have hltz : ¬ (i : Int) < (j : Int) := by omega
              have HI : Hid (i = cutAt (ltOf cf) d a m b) := by
                show _ = _
                rw [← HO.out]
                cases f1 with
                | zero => rfl
                | succ f1 => rw [bs, if_neg hlt]
              clear HO
              obtain ⟨e, he⟩ : ∃ q, q + i = md + m := ⟨md + m - i, by omega⟩
              have re : IntKind.i64.wrap ((md : Int) + (m : Int) - (i : Int)) = (e : Int) := by rw [IntKind.wrap_i64]; omega
              rcases ways8 (a := a) (b := b) (m := m) (i := i) (e := e) (md := md) (by omega) he (by omega) (by omega) (by omega) hmd1 hmd2 (by omega) (by omega) with ⟨w1_, w2_, w3_⟩ | ⟨w1_, w2_, w3_⟩ | ⟨w1_, w2_, w3_⟩ | ⟨w1_, w2_, w3_⟩ | ⟨w1_, w2_, w3_⟩ | ⟨w1_, w2_, w3_⟩ | ⟨w1_, w2_, w3_⟩ | ⟨w1_, w2_, w3_⟩
              · have q0 : (i : Int) < (m : Int) := by omega
                have qd0 : decide ((i : Int) < (m : Int)) = true := decide_eq_true q0
                have q1 : (m : Int) < (e : Int) := by omega
                have qd1 : decide ((m : Int) < (e : Int)) = true := decide_eq_true q1
                have q2 : (a : Int) < (i : Int) := by omega
                have qd2 : decide ((a : Int) < (i : Int)) = true := decide_eq_true q2
                have q3 : (i : Int) < (md : Int) := by omega
                have qd3 : decide ((i : Int) < (md : Int)) = true := decide_eq_true q3
                have q4 : (md : Int) < (e : Int) := by omega
                have qd4 : decide ((md : Int) < (e : Int)) = true := decide_eq_true q4
                have q5 : (e : Int) < (b : Int) := by omega
                have qd5 : decide ((e : Int) < (b : Int)) = true := decide_eq_true q5
                go_wp2_with (go_at_call 76; refine (rot_walk _ i m e len blk off cap d0 d w0 _ R (by omega) hlen S1.out hsz (by omega) (by omega) (by omega)).mono ?_; rintro e_ w2 ⟨rfl, hS2⟩; refine Hid.out ?_)
                have D1 : Aside (SW encP w0 blk off (rot d i m e) w2) := hS2
                clear hS2 S1
                refine hid_ ?_
                go_wp2_with (go_at_call 69; refine (ih a i md (rot d i m e) _ (by rw [rot_size]; exact hs) (by rw [rot_size]; exact hlen) D1.out (by omega) (by omega) (by omega) (by omega)).mono ?_; rintro e_ w3 ⟨rfl, hS2⟩; refine Hid.out ?_)
                have D3 : Aside (SW encP w0 blk off (symM (ltOf cf) f a i md (rot d i m e)) w3) := hS2
                clear hS2 D1
                refine hid_ ?_
                go_wp2_with (go_at_call 69; refine (ih md e b (symM (ltOf cf) f a i md (rot d i m e)) _ (by rw [symM_size, rot_size]; exact hs) (by rw [symM_size, rot_size]; exact hlen) D3.out (by omega) (by omega) (by omega) (by omega)).mono ?_; rintro e_ w4 ⟨rfl, hS2⟩; refine Hid.out ?_)
                have D4 : Aside (SW encP w0 blk off (symM (ltOf cf) f md e b (symM (ltOf cf) f a i md (rot d i m e))) w4) := hS2
                clear hS2 D3
                refine hid_ ?_
                go_wp2
                first | go_end0 | go_ret
                refine ⟨rfl, ?_⟩
                rw [symM, if_neg hA, if_neg hB]
                dsimp only
                rw [← HI.out, show (a + b) / 2 = md by omega, show md + m - i = e by omega, if_pos (show i < m ∧ m < e from w1_), if_pos (show a < i ∧ i < md from w2_), if_pos (show md < e ∧ e < b from w3_)]
                exact D4.out
              · have q0 : (i : Int) < (m : Int) := by omega
                have qd0 : decide ((i : Int) < (m : Int)) = true := decide_eq_true q0
                have q1 : (m : Int) < (e : Int) := by omega
                have qd1 : decide ((m : Int) < (e : Int)) = true := decide_eq_true q1
                have q2 : (a : Int) < (i : Int) := by omega
                have qd2 : decide ((a : Int) < (i : Int)) = true := decide_eq_true q2
                have q3 : (i : Int) < (md : Int) := by omega
                have qd3 : decide ((i : Int) < (md : Int)) = true := decide_eq_true q3
                have q4 : (md : Int) < (e : Int) := by omega
                have qd4 : decide ((md : Int) < (e : Int)) = true := decide_eq_true q4
                have q5 : ¬ (e : Int) < (b : Int) := by omega
                have qd5 : decide ((e : Int) < (b : Int)) = false := decide_eq_false q5
                go_wp2_with (go_at_call 76; refine (rot_walk _ i m e len blk off cap d0 d w0 _ R (by omega) hlen S1.out hsz (by omega) (by omega) (by omega)).mono ?_; rintro e_ w2 ⟨rfl, hS2⟩; refine Hid.out ?_)
                have D1 : Aside (SW encP w0 blk off (rot d i m e) w2) := hS2
                clear hS2 S1
                refine hid_ ?_
                go_wp2_with (go_at_call 69; refine (ih a i md (rot d i m e) _ (by rw [rot_size]; exact hs) (by rw [rot_size]; exact hlen) D1.out (by omega) (by omega) (by omega) (by omega)).mono ?_; rintro e_ w3 ⟨rfl, hS2⟩; refine Hid.out ?_)
                have D3 : Aside (SW encP w0 blk off (symM (ltOf cf) f a i md (rot d i m e)) w3) := hS2
                clear hS2 D1
                refine hid_ ?_
                go_wp2
                first | go_end0 | go_ret
                refine ⟨rfl, ?_⟩
                rw [symM, if_neg hA, if_neg hB]
                dsimp only
                rw [← HI.out, show (a + b) / 2 = md by omega, show md + m - i = e by omega, if_pos (show i < m ∧ m < e from w1_), if_pos (show a < i ∧ i < md from w2_), if_neg (show ¬ (md < e ∧ e < b) by omega)]
                exact D3.out
              · have q0 : (i : Int) < (m : Int) := by omega
                have qd0 : decide ((i : Int) < (m : Int)) = true := decide_eq_true q0
                have q1 : (m : Int) < (e : Int) := by omega
                have qd1 : decide ((m : Int) < (e : Int)) = true := decide_eq_true q1
                have q2 : ¬ (a : Int) < (i : Int) := by omega
                have qd2 : decide ((a : Int) < (i : Int)) = false := decide_eq_false q2
                have q3 : (md : Int) < (e : Int) := by omega
                have qd3 : decide ((md : Int) < (e : Int)) = true := decide_eq_true q3
                have q4 : (e : Int) < (b : Int) := by omega
                have qd4 : decide ((e : Int) < (b : Int)) = true := decide_eq_true q4
                go_wp2_with (go_at_call 76; refine (rot_walk _ i m e len blk off cap d0 d w0 _ R (by omega) hlen S1.out hsz (by omega) (by omega) (by omega)).mono ?_; rintro e_ w2 ⟨rfl, hS2⟩; refine Hid.out ?_)
                have D1 : Aside (SW encP w0 blk off (rot d i m e) w2) := hS2
                clear hS2 S1
                refine hid_ ?_
                go_wp2_with (go_at_call 69; refine (ih md e b (rot d i m e) _ (by rw [rot_size]; exact hs) (by rw [rot_size]; exact hlen) D1.out (by omega) (by omega) (by omega) (by omega)).mono ?_; rintro e_ w4 ⟨rfl, hS2⟩; refine Hid.out ?_)
                have D4 : Aside (SW encP w0 blk off (symM (ltOf cf) f md e b (rot d i m e)) w4) := hS2
                clear hS2 D1
                refine hid_ ?_
                go_wp2
                first | go_end0 | go_ret
                refine ⟨rfl, ?_⟩
                rw [symM, if_neg hA, if_neg hB]
                dsimp only
                rw [← HI.out, show (a + b) / 2 = md by omega, show md + m - i = e by omega, if_pos (show i < m ∧ m < e from w1_), if_neg (show ¬ (a < i ∧ i < md) by omega), if_pos (show md < e ∧ e < b from w3_)]
                exact D4.out
              · have q0 : (i : Int) < (m : Int) := by omega
                have qd0 : decide ((i : Int) < (m : Int)) = true := decide_eq_true q0
                have q1 : (m : Int) < (e : Int) := by omega
                have qd1 : decide ((m : Int) < (e : Int)) = true := decide_eq_true q1
                have q2 : ¬ (a : Int) < (i : Int) := by omega
                have qd2 : decide ((a : Int) < (i : Int)) = false := decide_eq_false q2
                have q3 : (md : Int) < (e : Int) := by omega
                have qd3 : decide ((md : Int) < (e : Int)) = true := decide_eq_true q3
                have q4 : ¬ (e : Int) < (b : Int) := by omega
                have qd4 : decide ((e : Int) < (b : Int)) = false := decide_eq_false q4
                go_wp2_with (go_at_call 76; refine (rot_walk _ i m e len blk off cap d0 d w0 _ R (by omega) hlen S1.out hsz (by omega) (by omega) (by omega)).mono ?_; rintro e_ w2 ⟨rfl, hS2⟩; refine Hid.out ?_)
                have D1 : Aside (SW encP w0 blk off (rot d i m e) w2) := hS2
                clear hS2 S1
                refine hid_ ?_
                go_wp2
                first | go_end0 | go_ret
                refine ⟨rfl, ?_⟩
                rw [symM, if_neg hA, if_neg hB]
                dsimp only
                rw [← HI.out, show (a + b) / 2 = md by omega, show md + m - i = e by omega, if_pos (show i < m ∧ m < e from w1_), if_neg (show ¬ (a < i ∧ i < md) by omega), if_neg (show ¬ (md < e ∧ e < b) by omega)]
                exact D1.out
              · have q0 : ¬ (i : Int) < (m : Int) := by omega
                have qd0 : decide ((i : Int) < (m : Int)) = false := decide_eq_false q0
                have q1 : (a : Int) < (i : Int) := by omega
                have qd1 : decide ((a : Int) < (i : Int)) = true := decide_eq_true q1
                have q2 : (i : Int) < (md : Int) := by omega
                have qd2 : decide ((i : Int) < (md : Int)) = true := decide_eq_true q2
                have q3 : ¬ (md : Int) < (e : Int) := by omega
                have qd3 : decide ((md : Int) < (e : Int)) = false := decide_eq_false q3
                go_wp2_with (go_at_call 69; refine (ih a i md d _ (by exact hs) (by exact hlen) S1.out (by omega) (by omega) (by omega) (by omega)).mono ?_; rintro e_ w3 ⟨rfl, hS2⟩; refine Hid.out ?_)
                have D3 : Aside (SW encP w0 blk off (symM (ltOf cf) f a i md d) w3) := hS2
                clear hS2 S1
                refine hid_ ?_
                go_wp2
                first | go_end0 | go_ret
                refine ⟨rfl, ?_⟩
                rw [symM, if_neg hA, if_neg hB]
                dsimp only
                rw [← HI.out, show (a + b) / 2 = md by omega, show md + m - i = e by omega, if_neg (show ¬ (i < m ∧ m < e) by omega), if_pos (show a < i ∧ i < md from w2_), if_neg (show ¬ (md < e ∧ e < b) by omega)]
                exact D3.out
              · have q0 : ¬ (i : Int) < (m : Int) := by omega
                have qd0 : decide ((i : Int) < (m : Int)) = false := decide_eq_false q0
                have q1 : (a : Int) < (i : Int) := by omega
                have qd1 : decide ((a : Int) < (i : Int)) = true := decide_eq_true q1
                have q2 : ¬ (i : Int) < (md : Int) := by omega
                have qd2 : decide ((i : Int) < (md : Int)) = false := decide_eq_false q2
                have q3 : ¬ (md : Int) < (e : Int) := by omega
                have qd3 : decide ((md : Int) < (e : Int)) = false := decide_eq_false q3
                go_wp2
                first | go_end0 | go_ret
                refine ⟨rfl, ?_⟩
                rw [symM, if_neg hA, if_neg hB]
                dsimp only
                rw [← HI.out, show (a + b) / 2 = md by omega, show md + m - i = e by omega, if_neg (show ¬ (i < m ∧ m < e) by omega), if_neg (show ¬ (a < i ∧ i < md) by omega), if_neg (show ¬ (md < e ∧ e < b) by omega)]
                exact S1.out
              · have q0 : (i : Int) < (m : Int) := by omega
                have qd0 : decide ((i : Int) < (m : Int)) = true := decide_eq_true q0
                have q1 : ¬ (m : Int) < (e : Int) := by omega
                have qd1 : decide ((m : Int) < (e : Int)) = false := decide_eq_false q1
                have q2 : (a : Int) < (i : Int) := by omega
                have qd2 : decide ((a : Int) < (i : Int)) = true := decide_eq_true q2
                have q3 : ¬ (i : Int) < (md : Int) := by omega
                have qd3 : decide ((i : Int) < (md : Int)) = false := decide_eq_false q3
                have q4 : (md : Int) < (e : Int) := by omega
                have qd4 : decide ((md : Int) < (e : Int)) = true := decide_eq_true q4
                have q5 : (e : Int) < (b : Int) := by omega
                have qd5 : decide ((e : Int) < (b : Int)) = true := decide_eq_true q5
                go_wp2_with (go_at_call 69; refine (ih md e b d _ (by exact hs) (by exact hlen) S1.out (by omega) (by omega) (by omega) (by omega)).mono ?_; rintro e_ w4 ⟨rfl, hS2⟩; refine Hid.out ?_)
                have D4 : Aside (SW encP w0 blk off (symM (ltOf cf) f md e b d) w4) := hS2
                clear hS2 S1
                refine hid_ ?_
                go_wp2
                first | go_end0 | go_ret
                refine ⟨rfl, ?_⟩
                rw [symM, if_neg hA, if_neg hB]
                dsimp only
                rw [← HI.out, show (a + b) / 2 = md by omega, show md + m - i = e by omega, if_neg (show ¬ (i < m ∧ m < e) by omega), if_neg (show ¬ (a < i ∧ i < md) by omega), if_pos (show md < e ∧ e < b from w3_)]
                exact D4.out
              · have q0 : (i : Int) < (m : Int) := by omega
                have qd0 : decide ((i : Int) < (m : Int)) = true := decide_eq_true q0
                have q1 : ¬ (m : Int) < (e : Int) := by omega
                have qd1 : decide ((m : Int) < (e : Int)) = false := decide_eq_false q1
                have q2 : (a : Int) < (i : Int) := by omega
                have qd2 : decide ((a : Int) < (i : Int)) = true := decide_eq_true q2
                have q3 : ¬ (i : Int) < (md : Int) := by omega
                have qd3 : decide ((i : Int) < (md : Int)) = false := decide_eq_false q3
                have q4 : ¬ (md : Int) < (e : Int) := by omega
                have qd4 : decide ((md : Int) < (e : Int)) = false := decide_eq_false q4
                go_wp2
                first | go_end0 | go_ret
                refine ⟨rfl, ?_⟩
                rw [symM, if_neg hA, if_neg hB]
                dsimp only
                rw [← HI.out, show (a + b) / 2 = md by omega, show md + m - i = e by omega, if_neg (show ¬ (i < m ∧ m < e) by omega), if_neg (show ¬ (a < i ∧ i < md) by omega), if_neg (show ¬ (md < e ∧ e < b) by omega)]
                exact S1.out
end Go.Proofs.YtdniejjhkkepcaaDoorW.Srt
