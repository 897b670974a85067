/- The places of numbers by a key, stably: the walk of placesBy over the walked sort, at its two keys. No condition beyond each theorem's own. -/
import Derived.Test.YtdniejjhkkepcaaDoorStb
import Derived.Test.YtdniejjhkkepcaaDoorOwn
import Derived.Sort.OwnSortedInts
import Derived.OwnWalk
import Derived.Deep.AppendLies
import Derived.Deep.QuietTactic
import Derived.Tactics
set_option linter.unusedVariables false
set_option linter.unusedSimpArgs false
namespace Go.Proofs.YtdniejjhkkepcaaDoorW.Plc
open Go.Shelf Go.RowKit Go.Lib Go.Sort Go.Proofs.YtdniejjhkkepcaaDoorW.Stab Go.Proofs.YtdniejjhkkepcaaDoorW.Srt Go.Proofs Go.Proofs.YtdniejjhkkepcaaDoorW.PrintWords Go.Proofs.YtdniejjhkkepcaaDoorW.PrintLast
theorem cmpInt_walk (x y : Int) (W : World) : Calls Tryd.prog 38 #[.int .i64 x, .int .i64 y] W fun e w' => e = .returned (.int .i64 (Lib.compareInt x y)) ∧ w' = W := by
  by_cases h1 : x < y
  · rw [show Lib.compareInt x y = -1 by unfold Lib.compareInt; rw [if_pos h1]]
    go_enter Tryd.func38, Tryd.ntmps38
    go_wp2
    all_goals (go_ret; exact ⟨rfl, rfl⟩)
  · by_cases h2 : y < x
    · rw [show Lib.compareInt x y = 1 by unfold Lib.compareInt; rw [if_neg h1, if_pos h2]]
      go_enter Tryd.func38, Tryd.ntmps38
      go_wp2
      all_goals (go_ret; exact ⟨rfl, rfl⟩)
    · rw [show Lib.compareInt x y = 0 by unfold Lib.compareInt; rw [if_neg h1, if_neg h2]]
      go_enter Tryd.func38, Tryd.ntmps38
      go_wp2
      all_goals (go_ret; exact ⟨rfl, rfl⟩)
def key67 (_ : Int) : Int := 0
def key68 (x : Int) : Int := wrap64 (-x)
theorem key67_walk (x : Int) (W : World) : Calls Tryd.prog 29 #[.int .i64 x] W fun e w' => e = .returned (.int .i64 (key67 x)) ∧ w' = W := by
  unfold key67
  go_enter Tryd.func29, Tryd.ntmps29
  go_wp2
  go_ret
  exact ⟨rfl, rfl⟩
theorem key68_walk (x : Int) (W : World) : Calls Tryd.prog 30 #[.int .i64 x] W fun e w' => e = .returned (.int .i64 (key68 x)) ∧ w' = W := by
  unfold key68
  go_enter Tryd.func30, Tryd.ntmps30
  go_wp2
  go_ret
  exact ⟨by first | rfl | (simp only [i64_w]), rfl⟩
/-- The comparison, in whatever world in which the two captured variables and the list stand. -/
theorem cmp81_walk (X : Nat) (kf : Int → Int) (hX : ∀ (x : Int) (W : World), Calls Tryd.prog X #[.int .i64 x] W fun e w' => e = .returned (.int .i64 (kf x)) ∧ w' = W)
    (eX : ∀ args w, (callFunc X args).run Tryd.prog w = .ok (.enter X args) w) (gb gl : Nat) (ad : Addr) (cap : Nat) (l : List Int) (x y : Nat) (hx : x < l.length) (hy : y < l.length) (W : World)
    (hcb : W.cell? ⟨gb, 0, none⟩ = some (.func (.func X) #[] #[])) (hcl : W.cell? ⟨gl, 0, none⟩ = some (.slice (some ad) l.length cap)) (hrow : ∀ i, i < l.length → W.cell? (ad.add i) = some (.int .i64 (l.getD i 0))) :
    Calls Tryd.prog 51 #[.int .i64 x, .int .i64 y, .pointer (some ⟨gb, 0, none⟩), .pointer (some ⟨gl, 0, none⟩)] W fun e w' => e = .returned (.int .i64 (Lib.compareInt (kf (l.getD x 0)) (kf (l.getD y 0)))) ∧ ∃ q, w' = W.drewN q := by
  have cx := hrow x hx
  have cy := hrow y hy
  have hxz : (x : Int) < (l.length : Int) := by omega
  have hyz : (y : Int) < (l.length : Int) := by omega
  have h1 := hX (l.getD x 0)
  have h2 := hX (l.getD y 0)
  have h3 := cmpInt_walk (kf (l.getD x 0)) (kf (l.getD y 0))
  generalize Lib.compareInt (kf (l.getD x 0)) (kf (l.getD y 0)) = r at h3 ⊢
  generalize l.getD x 0 = u at *
  generalize l.getD y 0 = v at *
  generalize kf u = ku at *
  generalize kf v = kv at *
  have C1 := Aside0.mk h1
  have C2 := Aside0.mk h2
  have C3 := Aside0.mk h3
  clear h1 h2 h3 hrow hX
  generalize hxx : x = xx at *
  go_enter Tryd.func51, Tryd.ntmps51
  go_wp2_with fail
  go_quiet (first
    | (go_at_call 38; refine Calls.quiet_of_same (C3.out _))
    | (go_at_fn X; first | (with_reducible refine Calls.quiet_of_same (C1.out _)) | (with_reducible refine Calls.quiet_of_same (C2.out _))))
  go_wp2
  go_ret
  exact ⟨rfl, _, rfl⟩

/-! ### the sort of nothing -/
theorem ins0_walk (A0 : Option Addr) (c : Nat) (fv : Value) (w : World) : Calls Tryd.prog 68 #[.slice A0 0 c, .int .i64 0, .int .i64 0, fv] w fun e w' => e = .returned (.tuple #[]) ∧ w' = w := by
  go_enter Tryd.func68, Tryd.ntmps68
  go_wp2
  go_loopg [8] 0 (fun _ s8 wr => s8 = .int .i64 1 ∧ wr = w)
  case atStart => exact ⟨rfl, rfl⟩
  case round =>
    obtain ⟨rfl, rfl⟩ := hrel
    go_wp2
    ((try simp only [Exit.inBlock, Exit.then]); first | refine bodyPost_end (results_none rfl _ _ _) rfl ?_ | refine bodyPost_ret (results_none rfl _ _ _) rfl ?_)
    exact ⟨rfl, rfl⟩
theorem stable0_walk (A0 : Option Addr) (c : Nat) (fv : Value) (w : World) : Calls Tryd.prog 63 #[.slice A0 0 c, .int .i64 0, fv] w fun e w' => e = .returned (.tuple #[]) ∧ w' = w := by
  go_enter Tryd.func63, Tryd.ntmps63
  go_wp2
  go_loopg [7, 8] 0 (fun _ s7 s8 wr => s7 = .int .i64 0 ∧ s8 = .int .i64 20 ∧ wr = w)
  case atStart => exact ⟨rfl, rfl, rfl⟩
  case round =>
    obtain ⟨rfl, rfl, rfl⟩ := hrel
    go_wp2_with (go_at_call 68; refine (ins0_walk _ _ _ _).mono ?_; rintro e w2 ⟨rfl, rfl⟩)
    go_loopg [6] 0 (fun _ s6 wr' => s6 = .int .i64 20 ∧ wr' = w2)
    case atStart => exact ⟨rfl, rfl⟩
    case round =>
      obtain ⟨rfl, rfl⟩ := hrel
      go_wp2
      ((try simp only [Exit.inBlock, Exit.then]); first | refine bodyPost_end (results_none rfl _ _ _) rfl ?_ | refine bodyPost_ret (results_none rfl _ _ _) rfl ?_)
      exact ⟨rfl, rfl⟩
theorem sort0_walk (A0 : Option Addr) (c : Nat) (fv : Value) (w : World) : Calls Tryd.prog 50 #[.slice A0 0 c, fv] w fun e w' => e = .returned (.tuple #[]) ∧ w' = w := by
  go_enter Tryd.func50, Tryd.ntmps50
  go_wp2_with (go_at_call 63; refine (stable0_walk _ _ _ _).mono ?_; rintro e w2 ⟨rfl, rfl⟩)
  ((try simp only [Exit.inBlock, Exit.then]); first | refine bodyPost_end (results_none rfl _ _ _) rfl ?_ | refine bodyPost_ret (results_none rfl _ _ _) rfl ?_)
  exact ⟨rfl, rfl⟩
/-! ### places -/
theorem stab_size {α : Type} [Inhabited α] (lt : α → α → Bool) (d : Array α) : (stab lt d).size = d.size := by
  unfold stab
  split
  · rw [ins_size]
  · rw [symM_size, ins_size, ins_size]
def upL (n : Nat) : List Int := (List.range n).map (fun (j : Nat) => (j : Int))
theorem upL_succ (n : Nat) : upL (n + 1) = upL n ++ [(n : Int)] := by simp [upL, List.range_succ]
theorem upL_len (n : Nat) : (upL n).length = n := by simp [upL]
def D0 (n : Nat) : Array (Fin n) := Array.ofFn (fun i => i)
theorem D0_size (n : Nat) : (D0 n).size = n := by simp [D0]
def cfP {N : Nat} (kf : Int → Int) (l : List Int) (x y : Fin N) : Int := Lib.compareInt (kf (l.getD x.val 0)) (kf (l.getD y.val 0))
/-- The places of the list, by key, of those alike the first first. -/
def placesL (kf : Int → Int) (l : List Int) : List Int :=
  if h : 0 < l.length then (@stab (Fin l.length) ⟨⟨0, h⟩⟩ (ltOf (cfP kf l)) (D0 l.length)).toList.map (fun x => (x.val : Int)) else []
theorem reps_map {ps : List Int} {cs : List Value} (h : Reps (fun (x : Int) (c : List Value) => c = [Value.int .i64 x]) 1 ps cs) : cs = ps.map (Value.int .i64) := by
  obtain ⟨h1, h2⟩ := h
  apply List.ext_getElem? 
  intro j
  rcases Nat.lt_or_ge j ps.length with hj | hj
  · have g : (cs.drop (j * 1)).take 1 = [Value.int .i64 ps[j]] := h2 j _ (List.getElem?_eq_getElem hj)
    rw [Nat.mul_one] at g
    have hjc : j < cs.length := by omega
    have g2 := congrArg List.head? g
    rw [List.drop_eq_getElem_cons hjc] at g2
    simp only [List.take_succ_cons, List.head?_cons, Option.some.injEq] at g2
    simp [hj, hjc, g2]
  · rw [List.getElem?_eq_none (by omega), List.getElem?_eq_none (by simp; omega)]
theorem reps_of_map (ps : List Int) : Reps (fun (x : Int) (c : List Value) => c = [Value.int .i64 x]) 1 ps (ps.map (Value.int .i64)) := by
  refine ⟨by simp, fun j p hj => ?_⟩
  have hjl := (List.getElem?_eq_some_iff.1 hj).1
  rw [Nat.mul_one, List.drop_eq_getElem_cons (by simpa using hjl)]
  have := (List.getElem?_eq_some_iff.1 hj).2
  simp [this]
section
variable {n : Nat} [Inhabited (Fin n)]
theorem D0_get (j : Nat) (hj : j < n) : ((D0 n)[j]!).val = j := by
  unfold D0
  rw [getElem!_pos _ _ (by simpa using hj)]
  simp
theorem holdsP {w : World} {g : Nat} (h : Holds (Value.int .i64) w g 0 (upL n).toArray) : Holds encP w g 0 (D0 n) := by
  intro j hj
  rw [D0_size] at hj
  have := h j (by simpa [upL] using hj)
  refine ⟨this.1.trans ?_, this.2⟩
  unfold encP
  rw [D0_get j hj]
  have e : (upL n).toArray[j]! = (j : Int) := by
    rw [getElem!_pos _ _ (by simpa [upL] using hj)]
    simp [upL]
  rw [e]
theorem putRow_P (w : World) (g : Nat) (d : Array (Fin n)) : putRow encP w g 0 d = putRow (Value.int .i64) w g 0 (d.toList.map (fun x => (x.val : Int))).toArray := by
  unfold putRow
  congr 1
  funext c
  unfold putCells
  congr 1
  funext k x
  have hs : ((d.toList.map (fun x => (x.val : Int))).toArray).size = d.size := by simp
  rw [hs]
  by_cases hk : 0 ≤ k ∧ k < 0 + d.size
  · rw [if_pos hk, if_pos hk]
    unfold encP
    rw [getElem!_pos d (k - 0) (by omega), getElem!_pos _ (k - 0) (by rw [hs]; omega)]
    simp
  · rw [if_neg hk, if_neg hk]
theorem sw_cell {w : World} {g m : Nat} {dk : Array (Fin n)} {os : Array Obj} {a : Addr} (h : a.block < w.heap.size) (hne : a.block ≠ g) : (sortWorld encP w g 0 m dk os).cell? a = w.cell? a := by
  unfold sortWorld
  rw [cell?_grow _ _ _ (by simpa [putRow, mapBlock] using h), cell?_putRow_other _ _ _ _ _ _ (Or.inl hne)]
  rfl
end
theorem info3_ : (Tryd.prog.info? 3).map (fun i => (i.zero, i.size, i.bytes)) = some (some (.int .i64 0), 1, 8) := by kernel_rfl
set_option maxHeartbeats 8000000 in
set_option maxRecDepth 100000 in
theorem places_walk (X : Nat) (kf : Int → Int) (hX : ∀ (x : Int) (W : World), Calls Tryd.prog X #[.int .i64 x] W fun e w' => e = .returned (.int .i64 (kf x)) ∧ w' = W)
    (eX : ∀ args w, (callFunc X args).run Tryd.prog w = .ok (.enter X args) w) (A0 : Option Addr) (c0 : Nat) (l0 : List Int) (w : World) (hr0 : Kd.C (Kd.int .i64) w A0 l0.length l0) (hc0 : l0.length ≤ c0) (h40 : l0.length ≤ 40) :
    Calls Tryd.prog 28 #[.slice A0 l0.length c0, .func (.func X) #[] #[]] w fun e w' => ∃ v0_ : Value, e = .returned v0_ ∧ Kd.R (Kd.int .i64) 3 w' w.heap.size (fun _ => True) v0_ (placesL kf l0) ∧ Below w.heap.size w w' := by
  have e81 : ∀ args w, (callFunc 51 args).run Tryd.prog w = .ok (.enter 51 args) w := enters_of Tryd.func51 (by kernel_rfl) rfl
  have KX := Aside0.mk hX
  have HR := Aside0.mk hr0
  clear hX hr0
  go_enter Tryd.func28, Tryd.ntmps28
  go_wp2_with (first
    | ((with_reducible refine gate_dst (N := 2) rfl ?_); refine box_event ?hg (N := 2) ?hd (cs := #[.slice A0 l0.length c0]) (t := 24) ?hr ?_; (case hd => rfl); (case hg => rfl); (case hr => first | (go_simp; done) | (go_simp; rfl)); intro g2 hg2 w1 hbox hb; have HB1 : Aside0 (Below w.heap.size w w1) := ⟨hb⟩; have BX2 := Aside0.mk hbox; clear hg2 hb hbox)
    | ((with_reducible refine gate_dst (N := 3) rfl ?_); refine box_event ?hg (N := 3) ?hd (cs := #[.func (.func X) #[] #[]]) (t := 46) ?hr ?_; (case hd => rfl); (case hg => rfl); (case hr => first | (go_simp; done) | (go_simp; rfl)); intro g3 hg3 w2 hbox hb; have HB2 : Aside0 (Below w.heap.size w w2) := ⟨below_step HB1.out hb⟩; have BY2 : Aside0 (w2.heap[g2]? = some (.cells #[.slice A0 l0.length c0] 24 (0, 0))) := ⟨blk_below BX2.out hb⟩; have BY3 := Aside0.mk hbox; clear hg3 hb hbox HB1 BX2)
    | ((with_reducible refine gate_dst (N := 7) rfl ?_); refine Kd.R_lit (Kd.int .i64) _ 3 ?hg (N := 7) ?hd (xs := ([] : List Int)) (inner := []) (ok := fun _ => True) (okp := fun _ => True) ?hr ?hp (fun _ hk => hk) trivial (Below.refl _ _) (Nat.le_refl _) (by simp) ?_; (case hd => rfl); (case hg => rfl); (case hr => first | (go_simp; done) | (go_simp; rfl)); (case hp => exact (Reps.none _ _)); intro v7 w3 ho3 hb hg_ hnew_; have HO3 := Aside0.mk ho3; have HB3 := Aside0.mk hb; have hc2 : w3.cell? ⟨g2, 0, none⟩ = some (.slice A0 l0.length c0) := (blk_cell (blk_below BY2.out hb) 0).trans rfl; clear hg_ hnew_ ho3 hb))
  go_loopg [10, 5] l0.length (fun kq v10 v5 w' => ∃ (i : Nat), v10 = .int .i64 i ∧ i ≤ l0.length ∧ l0.length - i ≤ kq ∧ Aside0 (Kd.R (Kd.int .i64) 3 w' w2.heap.size (fun _ => True) v5 (upL i)) ∧ Aside0 (Below w2.heap.size w2 w'))
  case atStart => exact ⟨0, rfl, by omega, by omega, HO3, HB3⟩
  case round =>
    clear HO3 HB3 hc2
    obtain ⟨i, rfl, hi, hkq, HO, HB⟩ := hrel
    by_cases hlt : i < l0.length
    · have hltz : (i : Int) < (l0.length : Int) := by omega
      go_wp2_with (first | ((with_reducible refine gate_builtin (b := .append) (xs := #[.tmp 13, .tmp 15]) rfl ?_); at_builtin; refine Kd.R_append (Kd.int .i64) (w0 := w2) w2.heap.size rfl (.tmp 13) (.tmp 15) 24 3 (.int .i64 0) 8 rfl Tryd.underlying24 info3_ rfl (by decide) (by omega) u5 (upL i) (i : Int) [.int .i64 (i : Int)] (fun _ => True) (fun _ => False) rfl rfl ?aP (fun _ hk => hk.elim) ?aF ?aO ?aB ?aS ?aL ?_; (case aP => exact rfl); (case aB => exact HB.out); (case aF => exact (fun _ _ => trivial)); (case aO => exact HO.out); (case aS => exact HB.out.size); (case aL => rw [upL_len]; omega); intro v16 w4 ho hb hg hat; rw [← upL_succ] at ho; have HO4 := Aside0.mk ho; have HB4 := Aside0.mk hb; clear HB HO ho hb hg hat))
      go_roundg (l0.length - (i + 1))
      case measure => omega
      case rel => exact ⟨i + 1, by first | rfl | go_num, by omega, by omega, HO4, HB4⟩
    · have hltz : ¬ (i : Int) < (l0.length : Int) := by omega
      have hin : i = l0.length := by omega
      subst hin
      have hbig : Below w.heap.size w wr := below_step HB2.out HB.out
      have hb2 : w.heap.size ≤ w2.heap.size := HB2.out.size
      by_cases hn : 0 < l0.length
      · obtain ⟨I, hI⟩ : ∃ I : Inhabited (Fin l0.length), Aside0 (I = ⟨⟨0, hn⟩⟩) := ⟨_, ⟨rfl⟩⟩
        obtain ⟨_, inner, ho, hr⟩ := HO.out
        have hin := reps_map hr
        subst hin
        obtain ⟨ho1, ho2⟩ := ho
        rw [upL_len] at ho2
        rcases ho2 with ⟨_, h0⟩ | ⟨g, cap, cur, rfl, hg, hcur, hcap, hmax, hsz, htk⟩
        · omega
        have hsz' : cur.size = cap * 1 := hsz
        have htk' : cur.toList.take (upL l0.length).length = (upL l0.length).map (Value.int .i64) := by rw [upL_len, ← htk]; show _ = cur.toList.take (l0.length * 1); rw [Nat.mul_one]
        have hH := holdsP (holds_of_blockI hcur htk')
        have hgl : g < wr.heap.size := blk_lt hcur
        have hcap2 : l0.length ≤ cap := hcap
        obtain ⟨ad, hA, hcells⟩ := HR.out.2.2 hn
        subst hA
        have hcell : ∀ i, i < l0.length → w.cell? (ad.add i) = some (.int .i64 (l0.getD i 0)) := by
          intro i hi
          obtain ⟨c, hc1, hc2, hc3⟩ := hcells i _ (List.getElem?_eq_getElem hi)
          have hc2' : c = [Value.int .i64 l0[i]] := hc2
          have := hc3 0 (.int .i64 l0[i]) (by rw [hc2']; rfl)
          rw [show i * (Kd.int .i64).sz + 0 = i from by show i * 1 + 0 = i; omega] at this
          rw [this]
          simp [hi]
        have SRT := sort_walk l0.length g 0 cap (D0 l0.length) (D0 l0.length) wr wr ⟨encP_one, hH, hgl⟩ rfl (D0_size _) (SW.start hH) (by omega) 51 #[.pointer (some ⟨g3, 0, none⟩), .pointer (some ⟨g2, 0, none⟩)] (cfP kf l0) e81
          (fun m os dk hs x y => by
            have k2 : g2 < w2.heap.size := blk_lt BY2.out
            have k3 : g3 < w2.heap.size := blk_lt BY3.out
            have hw2 := HB.out.size
            refine (cmp81_walk X kf KX.out eX g3 g2 ad c0 l0 x.val y.val x.2 y.2 _ ?_ ?_ ?_).mono ?_
            · rw [sw_cell (by show g3 < _; omega) (by show g3 ≠ g; omega), HB.out.cell (p := ⟨g3, 0, none⟩) k3]
              exact (blk_cell BY3.out 0).trans rfl
            · rw [sw_cell (by show g2 < _; omega) (by show g2 ≠ g; omega), HB.out.cell (p := ⟨g2, 0, none⟩) k2]
              exact (blk_cell BY2.out 0).trans rfl
            · intro i hi
              have hc := hcell i hi
              have hlt2 := World.block_lt_of_cell? w _ hc
              rw [sw_cell (by omega) (by omega), HB.out.cell (p := ad.add i) (by omega), HB2.out.cell (p := ad.add i) hlt2]
              exact hc
            · rintro e w' ⟨rfl, q, rfl⟩
              exact ⟨rfl, q, #[], by rw [grow_empty]⟩) h40
        have SR := Aside0.mk SRT
        have HG := Aside0.mk hg
        have HCUR := Aside0.mk hcur
        have HSZ := Aside0.mk hsz'
        have HBIG := Aside0.mk hbig
        have hc2 : wr.cell? ⟨g2, 0, none⟩ = some (.slice (some ad) l0.length c0) := (blk_cell (blk_below BY2.out HB.out) 0).trans rfl
        clear SRT hg hcur hsz' htk' htk hH hcell hcells hr ho1 hbig hsz
        go_wp2_with (go_at_call 50; refine SR.out.mono ?_; rintro e w5 ⟨rfl, hS⟩; have HS := Aside0.mk hS; clear hS)
        go_ret
        obtain ⟨m, os, rfl⟩ := HS.out
        have epl : placesL kf l0 = (stab (ltOf (cfP kf l0)) (D0 l0.length)).toList.map (fun x => (x.val : Int)) := by unfold placesL; rw [dif_pos hn, ← hI.out]
        have hts : ((stab (ltOf (cfP kf l0)) (D0 l0.length)).toList.map (fun x => (x.val : Int))).length = (upL l0.length).length := by
          rw [List.length_map, Array.length_toList, upL_len, stab_size, D0_size]
        generalize stab (ltOf (cfP kf l0)) (D0 l0.length) = D at *
        have ew : sortWorld encP wr g 0 m D os = grow (putRow (Value.int .i64) (Sort.ahead wr m) g 0 (D.toList.map (fun x => (x.val : Int))).toArray) os := by unfold sortWorld; rw [putRow_P]
        rw [ew, epl]
        have own := ownsRow_sortedI (n := m) (os := os) (base := w.heap.size) hts (by have := HG.out; omega) HCUR.out (by rw [upL_len]; exact hcap2) hmax HSZ.out
        rw [upL_len] at own hts
        refine ⟨_, rfl, ⟨fun _ _ => trivial, _, ?_, reps_of_map _⟩, ?_⟩
        · rw [hts]; exact own
        · exact HBIG.out.grown (grownBy_sortedI (n := m) (os := os) _) (by have := HBIG.out.size; omega) (fun j hj => by cases hj; have := HG.out; omega)
      · have hn0 : l0.length = 0 := by omega
        obtain ⟨A5, c5, ev⟩ := Kd.R_slice HO.out
        rw [upL_len] at ev
        subst ev
        have HO2 := Aside0.mk HO.out
        have HBIG := Aside0.mk hbig
        clear hbig HO
        have hl : l0 = [] := List.eq_nil_of_length_eq_zero hn0
        subst hl
        have hc2 : wr.cell? ⟨g2, 0, none⟩ = some (.slice A0 0 c0) := (blk_cell (blk_below BY2.out HB.out) 0).trans rfl
        go_wp2_with (go_at_call 50; refine (sort0_walk _ _ _ _).mono ?_; rintro e w5 ⟨rfl, rfl⟩)
        go_ret
        refine ⟨_, rfl, ?_, HBIG.out⟩
        have e0 : placesL kf [] = [] := rfl
        rw [e0]
        exact Kd.R_lower HO2.out hb2
def impl_placesBy_at_29.f (l0 : List Int) : Option (List Int) := if l0.length ≤ 40 then some (placesL key67 l0) else none
def impl_placesBy_at_30.f (l0 : List Int) : Option (List Int) := if l0.length ≤ 40 then some (placesL key68 l0) else none
theorem impl_placesBy_at_29.calls (A0 : Option Addr) (c0 : Nat) (l0 : List Int) (r : List Int) (w : World) (hr0 : Kd.C (Kd.int .i64) w A0 l0.length l0) (hc0 : l0.length ≤ c0) (h : impl_placesBy_at_29.f l0 = some r) :
    Calls Tryd.prog 28 #[.slice A0 l0.length c0, .func (.func 29) #[] #[]] w fun e w' => ∃ v0_ : Value, e = .returned (v0_) ∧ Kd.R (Kd.int .i64) 3 w' w.heap.size (fun _ => True) v0_ r ∧ Below w.heap.size w w' := by
  unfold impl_placesBy_at_29.f at h
  by_cases c : l0.length ≤ 40
  · rw [if_pos c] at h
    obtain rfl := Option.some.inj h
    exact places_walk 29 key67 key67_walk (enters_of Tryd.func29 (by kernel_rfl) rfl) A0 c0 l0 w hr0 hc0 c
  · rw [if_neg c] at h; exact absurd h (by simp)
theorem impl_placesBy_at_30.calls (A0 : Option Addr) (c0 : Nat) (l0 : List Int) (r : List Int) (w : World) (hr0 : Kd.C (Kd.int .i64) w A0 l0.length l0) (hc0 : l0.length ≤ c0) (h : impl_placesBy_at_30.f l0 = some r) :
    Calls Tryd.prog 28 #[.slice A0 l0.length c0, .func (.func 30) #[] #[]] w fun e w' => ∃ v0_ : Value, e = .returned (v0_) ∧ Kd.R (Kd.int .i64) 3 w' w.heap.size (fun _ => True) v0_ r ∧ Below w.heap.size w w' := by
  unfold impl_placesBy_at_30.f at h
  by_cases c : l0.length ≤ 40
  · rw [if_pos c] at h
    obtain rfl := Option.some.inj h
    exact places_walk 30 key68 key68_walk (enters_of Tryd.func30 (by kernel_rfl) rfl) A0 c0 l0 w hr0 hc0 c
  · rw [if_neg c] at h; exact absurd h (by simp)
end Go.Proofs.YtdniejjhkkepcaaDoorW.Plc
