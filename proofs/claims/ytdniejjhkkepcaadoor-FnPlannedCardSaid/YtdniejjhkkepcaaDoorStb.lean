/- The walks of the library's stable sort over a row of places: each function of it, from a world of the sort's to a world of the sort's, does what its function in plain Lean says. No condition beyond each theorem's own. -/
import Derived.Test.YtdniejjhkkepcaaDoorProg
import Derived.Test.YtdniejjhkkepcaaDoorSym
import Derived.Shelf.SlSortCmp.Kit1
import Derived.Sort.WalkB2
import Derived.Sort.WalkB12
import Derived.Deep.LoopGhost
import Derived.Deep.DeepCutAuto
import Derived.Deep.CutBlock
set_option linter.unusedVariables false
set_option linter.unusedSimpArgs false
namespace Go.Proofs.YtdniejjhkkepcaaDoorW.Srt
open Go.Shelf Go.RowKit Go.Lib Go.Sort Go.Proofs.YtdniejjhkkepcaaDoorW.Stab Go.Proofs
variable {N : Nat} [Inhabited (Fin N)]
set_option maxHeartbeats 16000000 in
set_option maxRecDepth 1000000 in
theorem stable_walk (len blk off cap : Nat) (d0 d : Array (Fin N)) (w0 w : World) (R : Row1 encP w0 blk off d0) (hs : d0.size = d.size) (hlen : d.size = len) (S : SW encP w0 blk off d w) (hsz : len < 1000000) (g : Nat) (cb : Array Value) (cf : Fin N → Fin N → Int) (eg : ∀ args w, (callFunc g args).run Tryd.prog w = .ok (.enter g args) w) (hcmp : CmpLays1 Tryd.prog g cb encP cf blk off d0.size w0) (h40 : len ≤ 40) :
    Calls Tryd.prog 63 #[.slice (some ⟨blk, off, none⟩) len cap, .int .i64 len, .func (.func g) #[] cb] w fun e w' => e = .returned (.tuple #[]) ∧ SW encP w0 blk off (stab (ltOf cf) d) w' := by
  have S0 : Aside (SW encP w0 blk off d w) := S
  have HC : Aside _ := hcmp
  clear S hcmp
  have mixed : Tryd.prog.follows .mixedOrders = true := by kernel_rfl
  go_enter Tryd.func63, Tryd.ntmps63
  go_wp2
  go_loopg [7, 8] 3 (fun kx s7 s8 wr => ∃ (k a b : Nat), s7 = .int .i64 a ∧ s8 = .int .i64 b ∧ 20 * k ≤ a ∧ a ≤ 20 * k ∧ 20 * k + 20 ≤ b ∧ b ≤ 20 * k + 20 ∧ a ≤ len ∧ 3 - k ≤ kx ∧ Aside (SW encP w0 blk off (insB (ltOf cf) d k) wr))
  case atStart => exact ⟨0, 0, 20, rfl, rfl, by omega, by omega, by omega, by omega, by omega, by omega, S0⟩
  case round =>
    clear S0
    obtain ⟨k, a, b, rfl, rfl, ha1, ha2, hb1, hb2, hk, hkx, S1⟩ := hrel
    by_cases hle : b ≤ len
    · have hlez : (b : Int) ≤ (len : Int) := by omega
      have rb : IntKind.i64.wrap ((b : Int) + 20) = (b : Int) + 20 := by rw [IntKind.wrap_i64]; omega
      have hab : a ≤ b := by omega
      go_wp2_with (go_at_call 68; refine (ins_walk len blk off cap d0 (insB (ltOf cf) d k) w0 _ R (by rw [insB_size]; exact hs) (by rw [insB_size]; exact hlen) S1.out hsz g cb cf eg HC.out a b hab (by omega)).mono ?_; rintro e w2 ⟨rfl, hS2⟩; have S2 : Aside (SW encP w0 blk off (insertionSort (ltOf cf) (insB (ltOf cf) d k) a b) w2) := hS2; clear hS2 S1)
      go_roundg (3 - (k + 1))
      case measure => omega
      case rel =>
        refine ⟨k + 1, b, b + 20, rfl, by first | rfl | go_num, by omega, by omega, by omega, by omega, by omega, Nat.le_refl _, ?_⟩
        rw [show insB (ltOf cf) d (k + 1) = insertionSort (ltOf cf) (insB (ltOf cf) d k) a b by rw [insB, show 20 * k = a by omega, show a + 20 = b by omega]]
        exact S2
    · have hlez : ¬ (b : Int) ≤ (len : Int) := by omega
      have hE : Hid (insertionSort (ltOf cf) (insB (ltOf cf) d k) a len = preD (ltOf cf) d) := by
        show _ = _
        rw [show a = 20 * k by omega, ← hlen]
        exact preD_of _ _ _ (by omega) (by omega) (by omega)
      have hal : a ≤ len := by omega
      go_wp2_with (go_at_call 68; refine (ins_walk len blk off cap d0 (insB (ltOf cf) d k) w0 _ R (by rw [insB_size]; exact hs) (by rw [insB_size]; exact hlen) S1.out hsz g cb cf eg HC.out a len hal (Nat.le_refl _)).mono ?_; rintro e w2 ⟨rfl, hS2⟩; refine Hid.out ?_)
      have S2 : Aside (SW encP w0 blk off (preD (ltOf cf) d) w2) := by rw [← hE.out]; exact hS2
      clear hS2 S1 hE
      refine hid_ ?_
      have FIN : Hid (stab (ltOf cf) d = if len ≤ 20 then preD (ltOf cf) d else symM (ltOf cf) len 0 20 len (preD (ltOf cf) d)) := by
        show _ = _
        rw [stab_pre, hlen]
      go_wp2
      go_loopg [6] 2 (fun kx s6 wr => (s6 = .int .i64 20 ∧ 1 ≤ kx ∧ Aside (SW encP w0 blk off (preD (ltOf cf) d) wr)) ∨ (s6 = .int .i64 40 ∧ 20 < len ∧ Aside (SW encP w0 blk off (symM (ltOf cf) len 0 20 len (preD (ltOf cf) d)) wr)))
      case atStart => exact .inl ⟨rfl, by omega, S2⟩
      case round =>
        clear S2
        rcases hrel with ⟨rfl, hkx2, S2⟩ | ⟨rfl, hl, S2⟩
        · by_cases hl : 20 < len
          · have hlz : (20 : Int) < (len : Int) := by omega
            go_wp2
            go_loopg [7, 8] 2 (fun kx s7 s8 wr => (s7 = .int .i64 0 ∧ s8 = .int .i64 40 ∧ 1 ≤ kx ∧ Aside (SW encP w0 blk off (preD (ltOf cf) d) wr)) ∨ (s7 = .int .i64 40 ∧ s8 = .int .i64 80 ∧ Aside (SW encP w0 blk off (symM (ltOf cf) len 0 20 len (preD (ltOf cf) d)) wr)))
            case atStart => exact .inl ⟨rfl, rfl, by omega, S2⟩
            case round =>
              clear S2
              rcases hrel with ⟨rfl, rfl, hkx3, S2⟩ | ⟨rfl, rfl, S2⟩
              · by_cases hl2 : 40 ≤ len
                · have hl2z : (40 : Int) ≤ (len : Int) := by omega
                  have ST := sym_walk g cb cf eg len blk off cap d0 w0 R hsz HC.out len 0 20 40 (preD (ltOf cf) d)
                  go_wp2_with (go_at_call 69; refine (ST _ (by rw [preD_size]; exact hs) (by rw [preD_size]; exact hlen) S2.out (by omega) (by omega) (by omega) (by omega)).mono ?_; rintro e w3 ⟨rfl, hS3⟩; have S3 : Aside (SW encP w0 blk off (symM (ltOf cf) len 0 20 40 (preD (ltOf cf) d)) w3) := hS3; clear hS3 S2 ST)
                  go_roundg 0
                  case measure => omega
                  case rel =>
                    have e40 : len = 40 := by omega
                    exact .inr ⟨rfl, rfl, by rw [show symM (ltOf cf) len 0 20 len (preD (ltOf cf) d) = symM (ltOf cf) len 0 20 40 (preD (ltOf cf) d) by rw [e40]]; exact S3⟩
                · have hl2z : ¬ (40 : Int) ≤ (len : Int) := by omega
                  have ST := sym_walk g cb cf eg len blk off cap d0 w0 R hsz HC.out len 0 20 len (preD (ltOf cf) d)
                  go_wp2_with (go_at_call 69; refine (ST _ (by rw [preD_size]; exact hs) (by rw [preD_size]; exact hlen) S2.out (by omega) (by omega) (by omega) (by omega)).mono ?_; rintro e w3 ⟨rfl, hS3⟩; have S3 : Aside (SW encP w0 blk off (symM (ltOf cf) len 0 20 len (preD (ltOf cf) d)) w3) := hS3; clear hS3 S2 ST)
                  go_roundg 0
                  case measure => omega
                  case rel => exact .inr ⟨rfl, hl, S3⟩
              · have hl2z : ¬ (80 : Int) ≤ (len : Int) := by omega
                have hl3z : ¬ (60 : Int) < (len : Int) := by omega
                go_wp2
                go_roundg 0
                case measure => omega
                case rel => exact .inr ⟨rfl, hl, S2⟩
          · have hlz : ¬ (20 : Int) < (len : Int) := by omega
            go_wp2
            ((try simp only [Exit.inBlock, Exit.then]); first | refine bodyPost_end (results_none rfl _ _ _) rfl ?_ | refine bodyPost_ret (results_none rfl _ _ _) rfl ?_)
            refine ⟨rfl, ?_⟩
            rw [FIN.out, if_pos (by omega)]
            exact S2.out
        · have hlz : ¬ (40 : Int) < (len : Int) := by omega
          go_wp2
          ((try simp only [Exit.inBlock, Exit.then]); first | refine bodyPost_end (results_none rfl _ _ _) rfl ?_ | refine bodyPost_ret (results_none rfl _ _ _) rfl ?_)
          refine ⟨rfl, ?_⟩
          rw [FIN.out, if_neg (by omega)]
          exact S2.out
set_option maxHeartbeats 16000000 in
set_option maxRecDepth 1000000 in
theorem sort_walk (len blk off cap : Nat) (d0 d : Array (Fin N)) (w0 w : World) (R : Row1 encP w0 blk off d0) (hs : d0.size = d.size) (hlen : d.size = len) (S : SW encP w0 blk off d w) (hsz : len < 1000000) (g : Nat) (cb : Array Value) (cf : Fin N → Fin N → Int) (eg : ∀ args w, (callFunc g args).run Tryd.prog w = .ok (.enter g args) w) (hcmp : CmpLays1 Tryd.prog g cb encP cf blk off d0.size w0) (h40 : len ≤ 40) :
    Calls Tryd.prog 50 #[.slice (some ⟨blk, off, none⟩) len cap, .func (.func g) #[] cb] w fun e w' => e = .returned (.tuple #[]) ∧ SW encP w0 blk off (stab (ltOf cf) d) w' := by
  have ST := hid_ (stable_walk len blk off cap d0 d w0 w R hs hlen S hsz g cb cf eg hcmp h40)
  clear S hcmp
  go_enter Tryd.func50, Tryd.ntmps50
  go_wp2_with (go_at_call 63; refine ST.out.mono ?_; rintro e w2 ⟨rfl, hS2⟩)
  ((try simp only [Exit.inBlock, Exit.then]); first | refine bodyPost_end (results_none rfl _ _ _) rfl ?_ | refine bodyPost_ret (results_none rfl _ _ _) rfl ?_)
  exact ⟨rfl, hS2⟩
end Go.Proofs.YtdniejjhkkepcaaDoorW.Srt
