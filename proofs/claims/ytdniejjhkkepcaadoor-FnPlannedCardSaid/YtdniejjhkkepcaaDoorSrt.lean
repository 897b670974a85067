/- The walks of the library's stable sort over a row of places: each function of it, from a world of the sort's to a world of the sort's, does what its function in plain Lean says. No condition beyond each theorem's own. -/
import Derived.Test.YtdniejjhkkepcaaDoorProg
import Derived.Test.YtdniejjhkkepcaaDoorStab
import Derived.Shelf.SlSortCmp.Kit1
import Derived.Sort.WalkB2
import Derived.Sort.WalkB12
import Derived.Deep.LoopGhost
import Derived.Deep.DeepCutAuto
import Derived.Deep.CutBlock
set_option linter.unusedVariables false
set_option linter.unusedSimpArgs false
namespace Go.Proofs.YtdniejjhkkepcaaDoorW.Srt
open Go.Shelf Go.RowKit Go.Lib Go.Sort Go.Proofs.YtdniejjhkkepcaaDoorW.Stab Go.Proofs
def encP {N : Nat} (x : Fin N) : Value := .int .i64 (x.val : Int)
theorem encP_one {N : Nat} : OneCell (encP (N := N)) := fun _ => rfl
theorem hid_ {p : Prop} (h : p) : Hid p := h
variable {N : Nat} [Inhabited (Fin N)]
set_option maxHeartbeats 16000000 in
set_option maxRecDepth 1000000 in
theorem swapR_walk (fv : Value) (a b n : Nat) (len blk off cap : Nat) (d0 d : Array (Fin N)) (w0 w : World) (R : Row1 encP w0 blk off d0) (hs : d0.size = d.size) (hlen : d.size = len) (S : SW encP w0 blk off d w) (hsz : len < 1000000) (hab : a + n ≤ b) (hb : b + n ≤ len) :
    Calls Tryd.prog 82 #[.slice (some ⟨blk, off, none⟩) len cap, .int .i64 a, .int .i64 b, .int .i64 n, fv] w fun e w' => e = .returned (.tuple #[]) ∧ SW encP w0 blk off (swapR a b n 0 d) w' := by
  have S0 : Aside (SW encP w0 blk off d w) := S
  clear S
  have mixed : Tryd.prog.follows .mixedOrders = true := by kernel_rfl
  go_enter Tryd.func82, Tryd.ntmps82
  go_wp2
  go_loopg [10] n (fun kx s10 wr => ∃ (i : Nat) (dk : Array (Fin N)), s10 = .int .i64 i ∧ i ≤ n ∧ n - i ≤ kx ∧ dk.size = len ∧ Aside (SW encP w0 blk off dk wr) ∧ Hid (swapR a b (n - i) i dk = swapR a b n 0 d))
  case atStart => exact ⟨0, d, rfl, by omega, by omega, hlen, S0, rfl⟩
  case round =>
    clear S0
    obtain ⟨i, dk, rfl, hi, hkx, hds, S1, HO⟩ := hrel
    by_cases hlt : i < n
    · have hltz : (i : Int) < (n : Int) := by omega
      go_wp2_with fail
      obtain ⟨iN1, hiN1⟩ : ∃ q, q = a + i := ⟨_, rfl⟩
      obtain ⟨jN1, hjN1⟩ : ∃ q, q = b + i := ⟨_, rfl⟩
      have ea1 : ((a : Int) + (i : Int)).toNat = iN1 := by omega
      have pa1 : (0 : Int) ≤ (a : Int) + (i : Int) := by omega
      have ba1 : (a : Int) + (i : Int) < (len : Int) := by omega
      have ra1 : IntKind.i64.wrap ((a : Int) + (i : Int)) = (a : Int) + (i : Int) := by rw [IntKind.wrap_i64]; omega
      have ec1 : ((b : Int) + (i : Int)).toNat = jN1 := by omega
      have pc1 : (0 : Int) ≤ (b : Int) + (i : Int) := by omega
      have bc1 : (b : Int) + (i : Int) < (len : Int) := by omega
      have rc1 : IntKind.i64.wrap ((b : Int) + (i : Int)) = (b : Int) + (i : Int) := by rw [IntKind.wrap_i64]; omega
      obtain ⟨x1, hx1⟩ : ∃ x, x = dk[a + i]! := ⟨_, rfl⟩
      obtain ⟨y1, hy1⟩ : ∃ x, x = dk[b + i]! := ⟨_, rfl⟩
      have S2 : Aside (SW encP w0 blk off (swp dk (a + i) (b + i)) ((wr.setCell ⟨blk, off + iN1, none⟩ (encP y1)).setCell ⟨blk, off + jN1, none⟩ (encP x1)).drew) := by rw [hiN1, hjN1, hx1, hy1]; exact S1.out.swapped R (a + i) (b + i) (by omega) (by omega)
      have c1a := S1.out.c1 R (by omega) (a + i) (by omega)
      have c1b := S1.out.c1 R (by omega) (b + i) (by omega)
      have f1a := S1.out.f1 R (by omega) (a + i) (by omega)
      have f1b := S1.out.f1 R (by omega) (b + i) (by omega)
      obtain ⟨u1, c1c⟩ := S1.out.c2 R (by omega) (a + i) (b + i) (by omega) (by omega) (encP y1)
      rw [← hjN1, ← hiN1] at c1c
      rw [← hx1, ← hiN1] at c1a
      rw [← hy1, ← hjN1] at c1b
      rw [← hiN1] at f1a
      rw [← hjN1] at f1b
      simp only [encP] at c1a c1b c1c S2
      clear S1 hx1 hy1 hiN1 hjN1
      go_wp2_with fail
      go_big_region_o
      clear c1a c1b c1c f1a f1b
      generalize ((wr.setCell ⟨blk, off + iN1, none⟩ (.int .i64 y1.val)).setCell ⟨blk, off + jN1, none⟩ (.int .i64 x1.val)).drew = w2 at S2 ⊢
      clear ea1 ec1
      go_wp2
      go_roundg (n - (i + 1))
      case measure => omega
      case rel => exact ⟨i + 1, swp dk (a + i) (b + i), by go_num, by omega, by omega, by rw [size_swp]; exact hds, S2, (show Hid _ from by rw [← HO.out, show n - i = (n - (i + 1)) + 1 by omega]; exact rfl)⟩
    · have hltz : ¬ (i : Int) < (n : Int) := by omega
      go_wp2
      go_end0
      refine ⟨rfl, ?_⟩
      have HO2 := HO.out
      rw [show n - i = 0 by omega] at HO2
      rw [← HO2]
      exact S1.out

set_option maxHeartbeats 16000000 in
set_option maxRecDepth 1000000 in
theorem rot_walk (fv : Value) (a m b : Nat) (len blk off cap : Nat) (d0 d : Array (Fin N)) (w0 w : World) (R : Row1 encP w0 blk off d0) (hs : d0.size = d.size) (hlen : d.size = len) (S : SW encP w0 blk off d w) (hsz : len < 1000000) (ham : a < m) (hmb : m < b) (hb : b ≤ len) :
    Calls Tryd.prog 76 #[.slice (some ⟨blk, off, none⟩) len cap, .int .i64 a, .int .i64 m, .int .i64 b, fv] w fun e w' => e = .returned (.tuple #[]) ∧ SW encP w0 blk off (rot d a m b) w' := by
  have S0 : Aside (SW encP w0 blk off d w) := S
  clear S
  have mixed : Tryd.prog.follows .mixedOrders = true := by kernel_rfl
  obtain ⟨i0, hi0⟩ : ∃ q, q + a = m := ⟨m - a, by omega⟩
  obtain ⟨j0, hj0⟩ : ∃ q, q + m = b := ⟨b - m, by omega⟩
  have r1 : IntKind.i64.wrap ((m : Int) - (a : Int)) = (i0 : Int) := by rw [IntKind.wrap_i64]; omega
  have r2 : IntKind.i64.wrap ((b : Int) - (m : Int)) = (j0 : Int) := by rw [IntKind.wrap_i64]; omega
  go_enter Tryd.func76, Tryd.ntmps76
  go_wp2
  go_loopg [10, 11] (b - a) (fun kx s10 s11 wr => ∃ (f i j : Nat) (dk : Array (Fin N)), s10 = .int .i64 i ∧ s11 = .int .i64 j ∧ 1 ≤ i ∧ 1 ≤ j ∧ i + j ≤ f + 1 ∧ i ≤ m ∧ m + j ≤ len ∧ f ≤ kx ∧ dk.size = len ∧ Aside (SW encP w0 blk off dk wr) ∧ Hid (rotL m f i j dk = rot d a m b))
  case atStart => exact ⟨b - a, i0, j0, d, rfl, rfl, by omega, by omega, by omega, by omega, by omega, Nat.le_refl _, hlen, S0, (show Hid _ from by unfold rot; rw [show m - a = i0 by omega, show b - m = j0 by omega]; exact rfl)⟩
  case round =>
    clear S0 r1 r2
    obtain ⟨f, i, j, dk, rfl, rfl, hi, hj, hf, him, hjm, hkx, hds, S1, HO⟩ := hrel
    obtain ⟨f, rfl⟩ : ∃ q, f = q + 1 := ⟨f - 1, by omega⟩
    obtain ⟨p, hp⟩ : ∃ q, q + i = m := ⟨m - i, by omega⟩
    have r1 : IntKind.i64.wrap ((m : Int) - (i : Int)) = (p : Int) := by rw [IntKind.wrap_i64]; omega
    by_cases hne : i = j
    · subst hne
      have hq : decide ((i : Int) = (i : Int)) = true := by simp
      go_wp2_with (go_at_call 82; refine (swapR_walk _ p m i len blk off cap d0 dk w0 _ R (by omega) (by omega) S1.out hsz (by omega) (by omega)).mono ?_; rintro e w2 ⟨rfl, hS2⟩; have S2 : Aside (SW encP w0 blk off (swapR p m i 0 dk) w2) := hS2; clear hS2 S1)
      go_end0
      refine ⟨rfl, ?_⟩
      rw [← HO.out, rotL, if_pos rfl, show m - i = p by omega]
      exact S2.out
    · have hnz : ¬ (i : Int) = (j : Int) := by omega
      by_cases hlt : j < i
      · have hltz : (j : Int) < (i : Int) := by omega
        obtain ⟨i2, hi2⟩ : ∃ q, q + j = i := ⟨i - j, by omega⟩
        have r2 : IntKind.i64.wrap ((i : Int) - (j : Int)) = (i2 : Int) := by rw [IntKind.wrap_i64]; omega
        go_wp2_with (go_at_call 82; refine (swapR_walk _ p m j len blk off cap d0 dk w0 _ R (by omega) (by omega) S1.out hsz (by omega) (by omega)).mono ?_; rintro e w2 ⟨rfl, hS2⟩; have S2 : Aside (SW encP w0 blk off (swapR p m j 0 dk) w2) := hS2; clear hS2 S1)
        go_roundg f
        case measure => omega
        case rel => exact ⟨f, i2, j, swapR p m j 0 dk, by first | rfl | go_num, rfl, by omega, hj, by omega, by omega, hjm, Nat.le_refl _, by rw [swapR_size]; exact hds, S2, (show Hid _ from by rw [← HO.out, rotL, if_neg hne, if_pos hlt, show m - i = p by omega, show i - j = i2 by omega]; exact rfl)⟩
      · have hltz : ¬ (j : Int) < (i : Int) := by omega
        obtain ⟨j2, hj2⟩ : ∃ q, q + i = j := ⟨j - i, by omega⟩
        obtain ⟨q2, hq2⟩ : ∃ q, q + i = m + j := ⟨m + j - i, by omega⟩
        have r2 : IntKind.i64.wrap ((j : Int) - (i : Int)) = (j2 : Int) := by rw [IntKind.wrap_i64]; omega
        have r3 : IntKind.i64.wrap ((m : Int) + (j : Int)) = (m : Int) + (j : Int) := by rw [IntKind.wrap_i64]; omega
        have r4 : IntKind.i64.wrap ((m : Int) + (j : Int) - (i : Int)) = (q2 : Int) := by rw [IntKind.wrap_i64]; omega
        go_wp2_with (go_at_call 82; refine (swapR_walk _ p q2 i len blk off cap d0 dk w0 _ R (by omega) (by omega) S1.out hsz (by omega) (by omega)).mono ?_; rintro e w2 ⟨rfl, hS2⟩; have S2 : Aside (SW encP w0 blk off (swapR p q2 i 0 dk) w2) := hS2; clear hS2 S1)
        go_roundg f
        case measure => omega
        case rel => exact ⟨f, i, j2, swapR p q2 i 0 dk, rfl, by first | rfl | go_num, hi, by omega, by omega, him, by omega, Nat.le_refl _, by rw [swapR_size]; exact hds, S2, (show Hid _ from by rw [← HO.out, rotL, if_neg hne, if_neg hlt, show m - i = p by omega, show m + j - i = q2 by omega, show j - i = j2 by omega]; exact rfl)⟩

set_option maxHeartbeats 16000000 in
set_option maxRecDepth 1000000 in
theorem ins_walk (len blk off cap : Nat) (d0 d : Array (Fin N)) (w0 w : World) (R : Row1 encP w0 blk off d0) (hs : d0.size = d.size) (hlen : d.size = len) (S : SW encP w0 blk off d w) (hsz : len < 1000000) (g : Nat) (cb : Array Value) (cf : Fin N → Fin N → Int) (eg : ∀ args w, (callFunc g args).run Tryd.prog w = .ok (.enter g args) w) (hcmp : CmpLays1 Tryd.prog g cb encP cf blk off d0.size w0) (a b : Nat) (hab : a ≤ b) (hb : b ≤ len) :
    Calls Tryd.prog 68 #[.slice (some ⟨blk, off, none⟩) len cap, .int .i64 a, .int .i64 b, .func (.func g) #[] cb] w fun e w' => e = .returned (.tuple #[]) ∧ SW encP w0 blk off (Sort.insertionSort (ltOf cf) d a b) w' := by
  have S0 : Aside (SW encP w0 blk off d w) := S
  have HC : Aside _ := hcmp
  clear S hcmp
  have mixed : Tryd.prog.follows .mixedOrders = true := by kernel_rfl
  go_enter Tryd.func68, Tryd.ntmps68
  go_wp2
  go_loopg [8] (b - a) (fun g1 vi wr => ∃ (i : Nat) (dk : Array (Fin N)), vi = .int .i64 i ∧ a < i ∧ i ≤ b + 1 ∧ b + 1 - i ≤ g1 + 1 ∧ dk.size = len ∧ Aside (SW encP w0 blk off dk wr) ∧ Hid (insOuter (ltOf cf) a b i dk = insOuter (ltOf cf) a b (a + 1) d))
  case atStart => exact ⟨a + 1, d, by go_num, by omega, by omega, by omega, hlen, S0, rfl⟩
  case round =>
    clear S0
    obtain ⟨i, dk, rfl, hai, hib, hg1, hsk, S1, HO⟩ := hrel
    by_cases hlt : i < b
    · have hltz : (i : Int) < (b : Int) := by omega
      go_wp2
      go_loopg [9] i (fun g2 vj wr2 => ∃ (j : Nat) (dj : Array (Fin N)), vj = .int .i64 j ∧ a ≤ j ∧ j ≤ i ∧ j ≤ g2 ∧ dj.size = len ∧ Aside (SW encP w0 blk off dj wr2) ∧ Hid (insInner (ltOf cf) a j dj = insInner (ltOf cf) a i dk))
      case atStart => exact ⟨i, dk, rfl, by omega, Nat.le_refl _, Nat.le_refl _, hsk, S1, rfl⟩
      case round =>
        clear S1
        obtain ⟨j, dj, rfl, haj, hji, hg2, hsj, SJ, HI⟩ := hrel
        have out : (j ≤ a ∨ (ltOf cf) dj[j]! dj[j - 1]! = false) → Hid (insOuter (ltOf cf) a b (i + 1) dj = insOuter (ltOf cf) a b (a + 1) d) := fun hs => by
          show _ = _
          rw [← HO.out, insOuter_go _ _ _ _ _ hlt, ← HI.out, insInner_stop _ _ _ _ hs]
        have OUT : Aside _ := out
        clear out
        by_cases hja : a < j
        · have hjaz : (a : Int) < (j : Int) := by omega
          obtain ⟨jp, hjp⟩ : ∃ q, q + 1 = j := ⟨j - 1, by omega⟩
          have zjp : (j : Int) = (jp : Int) + 1 := by omega
          have hjad : decide ((jp : Int) + 1 > (a : Int)) = true := decide_eq_true (by omega)
          have hjaz' : (a : Int) < (jp : Int) + 1 := by omega
          cases hlv : (ltOf cf) dj[j]! dj[j - 1]! with
          | true =>
            obtain ⟨iN2, hiN2⟩ : ∃ q, q = j := ⟨_, rfl⟩
            obtain ⟨jN2, hjN2⟩ : ∃ q, q = j - 1 := ⟨_, rfl⟩
            have ea2 : ((jp : Int) + 1).toNat = iN2 := by omega
            have pa2 : (0 : Int) ≤ (jp : Int) + 1 := by omega
            have ba2 : (jp : Int) + 1 < (len : Int) := by omega
            have ra2 : IntKind.i64.wrap ((jp : Int) + 1) = (jp : Int) + 1 := by rw [IntKind.wrap_i64]; omega
            have ec2 : ((jp : Int)).toNat = jN2 := by omega
            have pc2 : (0 : Int) ≤ (jp : Int) := by omega
            have bc2 : (jp : Int) < (len : Int) := by omega
            have rc2 : IntKind.i64.wrap ((jp : Int)) = (jp : Int) := by rw [IntKind.wrap_i64]; omega
            obtain ⟨x2, hx2⟩ : ∃ x, x = dj[j]! := ⟨_, rfl⟩
            obtain ⟨y2, hy2⟩ : ∃ x, x = dj[j - 1]! := ⟨_, rfl⟩
            have l2a := SJ.out.cl R (by omega) (j) (by omega)
            have l2b := SJ.out.cl R (by omega) (j - 1) (by omega)
            rw [← hx2, ← hiN2] at l2a
            rw [← hy2, ← hjN2] at l2b
            have hc2 := SJ.out.cmp HC.out (by omega) x2 y2
            have hv2 : cf x2 y2 < 0 := by rw [hx2, hy2]; exact of_decide_eq_true hlv
            have hd2 : decide (cf x2 y2 < 0) = true := decide_eq_true hv2
            simp only [encP] at l2a l2b hc2
            clear hx2 hy2 hiN2 hjN2
            go_wp2_with fail
            go_quiet_grown (first | (go_at_fn g; refine Calls.grown_of (hc2 _ _)))
            have S2 : Aside (SW encP w0 blk off dj (grow (wr.drewN nq) osq)) := SJ.out.grown nq osq
            clear l2a l2b hc2 SJ
            generalize grow (wr.drewN nq) osq = w2 at S2 ⊢
            clear nq osq
            clear ea2 ec2
            go_wp2_with fail
            obtain ⟨iN3, hiN3⟩ : ∃ q, q = j := ⟨_, rfl⟩
            obtain ⟨jN3, hjN3⟩ : ∃ q, q = j - 1 := ⟨_, rfl⟩
            have ea3 : ((jp : Int) + 1).toNat = iN3 := by omega
            have pa3 : (0 : Int) ≤ (jp : Int) + 1 := by omega
            have ba3 : (jp : Int) + 1 < (len : Int) := by omega
            have ra3 : IntKind.i64.wrap ((jp : Int) + 1) = (jp : Int) + 1 := by rw [IntKind.wrap_i64]; omega
            have ec3 : ((jp : Int)).toNat = jN3 := by omega
            have pc3 : (0 : Int) ≤ (jp : Int) := by omega
            have bc3 : (jp : Int) < (len : Int) := by omega
            have rc3 : IntKind.i64.wrap ((jp : Int)) = (jp : Int) := by rw [IntKind.wrap_i64]; omega
            obtain ⟨x3, hx3⟩ : ∃ x, x = dj[j]! := ⟨_, rfl⟩
            obtain ⟨y3, hy3⟩ : ∃ x, x = dj[j - 1]! := ⟨_, rfl⟩
            have S3 : Aside (SW encP w0 blk off (swp dj (j) (j - 1)) ((w2.setCell ⟨blk, off + iN3, none⟩ (encP y3)).setCell ⟨blk, off + jN3, none⟩ (encP x3)).drew) := by rw [hiN3, hjN3, hx3, hy3]; exact S2.out.swapped R (j) (j - 1) (by omega) (by omega)
            have c3a := S2.out.c1 R (by omega) (j) (by omega)
            have c3b := S2.out.c1 R (by omega) (j - 1) (by omega)
            have f3a := S2.out.f1 R (by omega) (j) (by omega)
            have f3b := S2.out.f1 R (by omega) (j - 1) (by omega)
            obtain ⟨u3, c3c⟩ := S2.out.c2 R (by omega) (j) (j - 1) (by omega) (by omega) (encP y3)
            rw [← hjN3, ← hiN3] at c3c
            rw [← hx3, ← hiN3] at c3a
            rw [← hy3, ← hjN3] at c3b
            rw [← hiN3] at f3a
            rw [← hjN3] at f3b
            simp only [encP] at c3a c3b c3c S3
            clear S2 hx3 hy3 hiN3 hjN3
            go_wp2_with fail
            go_big_region_o
            clear c3a c3b c3c f3a f3b
            generalize ((w2.setCell ⟨blk, off + iN3, none⟩ (.int .i64 y3.val)).setCell ⟨blk, off + jN3, none⟩ (.int .i64 x3.val)).drew = w3 at S3 ⊢
            clear ea3 ec3
            go_wp2
            go_roundg (j - 1)
            case measure => omega
            case rel => exact ⟨j - 1, swp dj j (j - 1), by first | rfl | go_num | (congr 1; omega), by omega, by omega, Nat.le_refl _, by rw [size_swp]; exact hsj, S3, (show Hid _ from by rw [← HI.out, insInner_go (ltOf cf) a j dj hja hlv]; exact rfl)⟩
          | false =>
            obtain ⟨iN4, hiN4⟩ : ∃ q, q = j := ⟨_, rfl⟩
            obtain ⟨jN4, hjN4⟩ : ∃ q, q = j - 1 := ⟨_, rfl⟩
            have ea4 : ((jp : Int) + 1).toNat = iN4 := by omega
            have pa4 : (0 : Int) ≤ (jp : Int) + 1 := by omega
            have ba4 : (jp : Int) + 1 < (len : Int) := by omega
            have ra4 : IntKind.i64.wrap ((jp : Int) + 1) = (jp : Int) + 1 := by rw [IntKind.wrap_i64]; omega
            have ec4 : ((jp : Int)).toNat = jN4 := by omega
            have pc4 : (0 : Int) ≤ (jp : Int) := by omega
            have bc4 : (jp : Int) < (len : Int) := by omega
            have rc4 : IntKind.i64.wrap ((jp : Int)) = (jp : Int) := by rw [IntKind.wrap_i64]; omega
            obtain ⟨x4, hx4⟩ : ∃ x, x = dj[j]! := ⟨_, rfl⟩
            obtain ⟨y4, hy4⟩ : ∃ x, x = dj[j - 1]! := ⟨_, rfl⟩
            have l4a := SJ.out.cl R (by omega) (j) (by omega)
            have l4b := SJ.out.cl R (by omega) (j - 1) (by omega)
            rw [← hx4, ← hiN4] at l4a
            rw [← hy4, ← hjN4] at l4b
            have hc4 := SJ.out.cmp HC.out (by omega) x4 y4
            have hv4 : ¬ cf x4 y4 < 0 := by rw [hx4, hy4]; exact of_decide_eq_false hlv
            have hd4 : decide (cf x4 y4 < 0) = false := decide_eq_false hv4
            simp only [encP] at l4a l4b hc4
            clear hx4 hy4 hiN4 hjN4
            go_wp2_with fail
            go_quiet_grown (first | (go_at_fn g; refine Calls.grown_of (hc4 _ _)))
            have S2 : Aside (SW encP w0 blk off dj (grow (wr.drewN nq) osq)) := SJ.out.grown nq osq
            clear l4a l4b hc4 SJ
            generalize grow (wr.drewN nq) osq = w2 at S2 ⊢
            clear nq osq
            clear ea4 ec4
            go_wp2
            go_roundg (b - (i + 1))
            case measure => omega
            case rel => exact ⟨i + 1, dj, by go_num, by omega, by omega, by omega, hsj, S2, OUT.out (Or.inr hlv)⟩
        · have hjaz : decide ((j : Int) > (a : Int)) = false := decide_eq_false (by omega)
          have hjaz' : ¬ (a : Int) < (j : Int) := by omega
          go_wp2_with fail
          go_big_region_o
          have S2 : Aside (SW encP w0 blk off dj wr.drew) := SJ.out.drew
          clear SJ
          generalize wr.drew = w2 at S2 ⊢
          go_wp2
          go_roundg (b - (i + 1))
          case measure => omega
          case rel => exact ⟨i + 1, dj, by go_num, by omega, by omega, by omega, hsj, S2, OUT.out (Or.inl (by omega))⟩
    · have hltz : ¬ (i : Int) < (b : Int) := by omega
      go_wp2
      go_end0
      exact ⟨rfl, by unfold Sort.insertionSort; rw [← HO.out, insOuter_stop _ _ _ _ _ hlt]; exact S1.out⟩
end Go.Proofs.YtdniejjhkkepcaaDoorW.Srt
