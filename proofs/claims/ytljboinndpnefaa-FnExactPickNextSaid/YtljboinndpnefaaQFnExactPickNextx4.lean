/- The Go functions that the statement FnExactPickNext reaches, as Lean functions, each with a proof that the call does what its function says; laid by a program of this session. No condition. -/
import Derived.Test.YtljboinndpnefaaQFnExactPickNextx0
import Derived.Test.YtljboinndpnefaaQFnExactPickNextx1
import Derived.Test.YtljboinndpnefaaQFnExactPickNextx2
import Derived.Test.YtljboinndpnefaaQFnExactPickNextx3
namespace Go.Proofs.Ytljboinndpnefaa.QFnExactPickNext
open Go.RowKit Go.Proofs.YtljboinndpnefaaW.PrintWords Go.Proofs.YtljboinndpnefaaW.PrintLast Go.Proofs.YtljboinndpnefaaW.PrintMore
attribute [local go_sem] max2_int min2_int max_two min_two max_three min_three max_four min_four   -- for this text's walks alone
set_option linter.unusedVariables false
set_option linter.unusedSimpArgs false

/-! ### impl_Sched_pick: function 73, by hand -/
/-! ### by hand: slices.Clone at tasks (a shallow copy), slices.DeleteFunc, MinFunc, first, pick -/
theorem fix27 {wb W : World} (hb : Below wb.heap.size wb W) {A : Option Addr} {n : Nat} {l : List S27} (h : (Kd.fixed k27 wb).C W A n l) : k27.C W A n l := Kd.C_read (d := k27) (dm := Kd.fixed k27 wb) rfl (fun x cs hk => k27.K_below hb hk) h
theorem eqnil0_ {P : Program} (d : Nat) (w : World) (t e : TypeId) (a : Option Addr) (n c n' c' : Nat) (h : P.underlying t = some (.slice e)) : (Op.equalIn (d + 1) t (.slice a n c) (.slice none n' c')).run P w = .ok a.isNone w := by cases a <;> simp [Op.equalIn, run_underlying h]
theorem eqnil_ {P : Program} (w : World) (t e : TypeId) (a : Option Addr) (n c n' c' : Nat) (h : P.underlying t = some (.slice e)) : (binOp .eql t (.slice a n c) (.slice none n' c')).run P w = .ok (.bool a.isNone) w := by
  simp only [binOp]
  simp [Op.equal, Op.maxDepth, eqnil0_ 9999 w t e a n c n' c' h]
set_option maxHeartbeats 8000000 in
set_option maxRecDepth 100000 in
theorem clone96 (A : Option Addr) (c : Nat) (l : List S27) (w : World) (hr : Kd.C k27 w A l.length l) (hc : l.length ≤ c) (hm : l.length ≤ 1000000) :
    Calls Try.prog 96 #[.slice A l.length c] w fun e w' => ∃ v, e = .returned v ∧ Kd.R (Kd.fixed k27 w) 27 w' w.heap.size (fun _ => True) v l ∧ Below w.heap.size w w' := by
  have q36 : ∀ (w : World) (a : Option Addr) (n c n' c' : Nat), (binOp .eql 36 (.slice a n c) (.slice none n' c')).run Try.prog w = .ok (.bool a.isNone) w := fun w a n c n' c' => eqnil_ w 36 27 a n c n' c' Try.underlying36
  have HR := Aside0.mk hr
  clear hr
  rcases A with _ | ad
  · have hl : l = [] := by
      rcases l with _ | ⟨x, r⟩
      · rfl
      · obtain ⟨ad, h, _⟩ := HR.out.2.2 (by simp)
        cases h
    subst hl
    go_enter Try.func96, Try.ntmps96
    go_wp2
    go_ret
    exact ⟨_, rfl, Kd.R_nil _ _ _ _ _, Below.refl _ _⟩
  · go_enter Try.func96, Try.ntmps96
    go_wp2_with (first | ((with_reducible refine gate_builtin (b := .append) (xs := #[.tmp 5, .tmp 6]) rfl ?_); go_loud (at_builtin; refine Kd.R_append_rows (Kd.fixed k27 w) (Rr := k27.K w) (w0 := w) w.heap.size rfl (.tmp 5) (.tmp 6) 36 27 (.agg #[(.int .i64 0), (.slice none 0 0), (.int .i64 0), (.int .i64 0), (.int .i64 0)]) 56 rfl Try.underlying36 info27 rfl (show (0 : Nat) < 5 by omega) (by omega) _ [] l (some ad) _ _ (fun _ => True) (fun _ => False) rfl rfl ?aO ?aR (fun _ _ h => h) (fun _ h => h.elim) (fun _ _ => trivial) ?aB ?aS ?aL ?_)))
    case aO => exact ⟨fun _ _ => trivial, [], World.ownsRow_made w #[] 0 (Nat.le_refl _) (Nat.zero_le _) (by simp), Reps.none _ _⟩
    case aR => exact HR.out.imp_ (below_alloc (Below.refl _ _) _) (fun _ _ h => h)
    case aB => exact below_alloc (Below.refl _ _) _
    case aS => exact below_size (below_alloc (Below.refl _ _) _)
    case aL => exact (show (0 + l.length) * 56 ≤ 140737488355328 by omega)
    intro v1 w1 ho hb hg hat
    go_wp2
    go_ret
    exact ⟨_, rfl, ho, hb⟩
theorem place_cases (p : S27 → Bool) (l : List S27) (i : Nat) : (place p l i = -1 ∧ ∀ x ∈ l, p x = false) ∨ ∃ k, k < l.length ∧ place p l i = ((i + k : Nat) : Int) ∧ p (l.getD k z27) = true ∧ ∀ j, j < k → p (l.getD j z27) = false := by
  induction l generalizing i with
  | nil => exact .inl ⟨rfl, fun x h => by simp at h⟩
  | cons y r ih =>
    by_cases hy : p y = true
    · exact .inr ⟨0, by simp, by simp [place, hy], by simpa using hy, fun j hj => absurd hj (Nat.not_lt_zero _)⟩
    · have hy' : p y = false := by simpa using hy
      rcases ih (i + 1) with ⟨e, ha⟩ | ⟨k, hk, e, ht, ha⟩
      · exact .inl ⟨by simp [place, hy', e], fun x hx => by rcases List.mem_cons.1 hx with rfl | hx; exact hy'; exact ha x hx⟩
      · refine .inr ⟨k + 1, by simpa using hk, by simp only [place, hy', Bool.false_eq_true, if_false, e]; congr 1; omega, by simpa using ht, fun j hj => ?_⟩
        cases j with
        | zero => simpa using hy'
        | succ j => simpa using ha j (by omega)
theorem filter_all {p : S27 → Bool} : ∀ {l : List S27}, (∀ x ∈ l, p x = false) → (l.filter fun x => !p x) = l
  | [], _ => rfl
  | x :: r, h => by rw [List.filter_cons_of_pos (by simp [h x (by simp)]), filter_all (fun y hy => h y (by simp [hy]))]
theorem take_snoc_ {α : Type} (l : List α) (j : Nat) (d : α) (h : j < l.length) : l.take (j + 1) = l.take j ++ [l.getD j d] := by
  rw [List.take_add_one, List.getElem?_eq_getElem h]
  simp [List.getD_eq_getElem?_getD, List.getElem?_eq_getElem h]
structure DInv (p : S27 → Bool) (l : List S27) (i j : Nat) (dk : List S27) : Prop where
  len : dk.length = l.length
  lt : i < j
  kept : dk.take i = (l.take j).filter fun x => !p x
  high : ∀ t, j ≤ t → dk.getD t z27 = l.getD t z27
theorem take_all_ {p : S27 → Bool} {l : List S27} {k : Nat} (hk : k < l.length) (hall : ∀ j, j < k → p (l.getD j z27) = false) : ((l.take k).filter fun x => !p x) = l.take k := by
  refine filter_all (fun x hx => ?_)
  obtain ⟨j, hj, rfl⟩ := List.getElem_of_mem hx
  rw [List.length_take] at hj
  have h := hall j (by omega)
  rw [List.getD_eq_getElem?_getD, List.getElem?_eq_getElem (by omega)] at h
  simpa using h
theorem DInv.start {p : S27 → Bool} {l : List S27} {k : Nat} (hk : k < l.length) (ht : p (l.getD k z27) = true) (hall : ∀ j, j < k → p (l.getD j z27) = false) : DInv p l k (k + 1) l :=
  ⟨rfl, by omega, by rw [take_snoc_ l k z27 hk, List.filter_append, take_all_ hk hall, List.filter_cons_of_neg (by rw [ht]; simp)]; simp, fun _ _ => rfl⟩
theorem DInv.skip {p : S27 → Bool} {l dk : List S27} {i j : Nat} (h : DInv p l i j dk) (hj : j < l.length) (hp : p (l.getD j z27) = true) : DInv p l i (j + 1) dk :=
  ⟨h.len, by have := h.lt; omega, by rw [h.kept, take_snoc_ l j z27 hj, List.filter_append, List.filter_cons_of_neg (by rw [hp]; simp)]; simp, fun t ht => h.high t (by omega)⟩
theorem DInv.keep {p : S27 → Bool} {l dk : List S27} {i j : Nat} (h : DInv p l i j dk) (hj : j < l.length) (hp : p (l.getD j z27) = false) : DInv p l (i + 1) (j + 1) (dk.set i (l.getD j z27)) := by
  have hl := h.lt
  have hn := h.len
  refine ⟨by simpa using h.len, by omega, ?_, fun t ht => ?_⟩
  · rw [take_snoc_ (dk.set i _) i z27 (by simp; omega), List.take_set_of_le (Nat.le_refl i), h.kept, take_snoc_ l j z27 hj, List.filter_append, List.filter_cons_of_pos (by rw [hp]; rfl)]
    simp [show i < dk.length by omega]
  · rw [← h.high t (by omega)]
    simp [List.getD_eq_getElem?_getD, List.getElem?_set_ne (show i ≠ t by omega)]
theorem below_cells {wb W : World} (hb : Below wb.heap.size wb W) {g : Nat} (hg : wb.heap.size ≤ g) (vs : List Value) (o : Nat) : Below wb.heap.size wb (W.setCells g o vs) := by
  obtain ⟨s1, s2, s3, s4⟩ := setCells_same g vs o W
  exact hb.trans ⟨s1, s2, s3, by rw [s4]; exact Nat.le_refl _, fun k hk => setCells_far vs o k (by omega)⟩
theorem R_clear {wb W : World} {g n cap i : Nat} {dk : List S27} {base : Nat} {ok : Nat → Prop} (HO : (Kd.fixed k27 wb).R 27 W base ok (.slice (some ⟨g, 0, none⟩) n cap) dk) (hi : i ≤ n) (zs : List Value) (hz : i * 5 + zs.length ≤ n * 5) : (Kd.fixed k27 wb).R 27 (W.setCells g (i * 5) zs) base ok (.slice (some ⟨g, 0, none⟩) i cap) (dk.take i) := by
  have hn := (Kd.R_reads' HO).1
  have hnc := (Kd.R_reads' HO).2.1
  obtain ⟨h0, inner, hown, hr⟩ := Kd.R_take HO (m := i) (by omega)
  refine ⟨h0, inner, ⟨hown.1, ?_⟩, hr⟩
  rcases hown.2 with ⟨e, _⟩ | ⟨g', cap', cur, e, hb, hh, hic, hcm, hcs, htk⟩
  · cases e
  · injection e with e1 _ e3
    injection e1 with e1
    injection e1 with e1
    subst e1; subst e3
    have hsz : (Kd.fixed k27 wb).sz = 5 := rfl
    rw [hsz] at hcs htk ⊢
    have h5 : n * 5 ≤ cap * 5 := Nat.mul_le_mul_right _ hnc
    obtain ⟨cur', h3, h4, h6⟩ := setCells_row zs (i * 5) W cur hh (by omega)
    have hl : (dk.take i).length = i := by rw [List.length_take]; omega
    refine .inr ⟨g, cap, cur', by rw [hl], hb, h3, hic, hcm, by rw [h4, hcs], ?_⟩
    rw [hl] at htk ⊢
    rw [h6, List.take_append_of_le_length (by simp; omega), List.take_append_of_le_length (by simp; omega), List.take_take, Nat.min_self, htk]
theorem clear5 {P : Program} {W : World} {g o n c : Nat} {cur : Array Value} {t e : TypeId} {z : Value} (hu : P.underlying t = some (.slice e)) (hz : ∀ w, (zeroValue e).run P w = .ok z w) (hz5 : z.cells.size = 5) (h1 : ∀ u ∈ z.cells.toList, u.oneCell' = true) (ty : TypeId) (hn : 0 < n) (hh : W.heap[g]? = some (.cells cur e (0, 0))) (hf : o + n * 5 ≤ cur.size) :
    ∃ zs : List Value, zs.length = n * 5 ∧ (Builtin.clear_ #[t] ty #[.slice (some ⟨g, o, none⟩) n c]).run P W = .ok (.tuple #[]) (W.setCells g o zs) := by
  refine ⟨(Builtin.zeroCells z.cells n).toList, by simp [Builtin.zeroCells, hz5], ?_⟩
  have hzl : (Builtin.zeroCells z.cells n).toList.length = n * 5 := by simp [Builtin.zeroCells, hz5]
  have hone : ∀ v ∈ (Builtin.zeroCells z.cells n).toList, v.oneCell' = true := by
    intro v hv
    simp [Builtin.zeroCells] at hv
    obtain ⟨i, hi, rfl⟩ := hv
    refine h1 _ ?_
    have hlt : i % z.cells.size < z.cells.size := Nat.mod_lt _ (by omega)
    rw [getElem!_pos z.cells (i % z.cells.size) hlt]
    simp
  have hst := run_storeCells_cells (P := P) g o (Builtin.zeroCells z.cells n).toList 0 W (fun j hj => by rw [cell_of_row W g _ cur e (0, 0) hh]; simp; omega) (fun j _ => blk_frozen hh _) hone
  simp only [Nat.add_zero] at hst
  obtain ⟨m, rfl⟩ : ∃ m, n = m + 1 := ⟨n - 1, by omega⟩
  simp [Builtin.clear_, run_underlying hu, hz, hst]
theorem zero27_ (w : World) : (zeroValue 27).run Try.prog w = .ok (.agg #[(.int .i64 0), (.slice none 0 0), (.int .i64 0), (.int .i64 0), (.int .i64 0)]) w := by
  obtain ⟨i, h1, h2⟩ := Option.map_eq_some_iff.1 info27
  simp only [Prod.mk.injEq] at h2
  simp [zeroValue, typeInfo, h1, h2.1]
theorem sz27_ : (Try.prog.info? 27).map (·.size) = some 5 := by
  obtain ⟨i, h1, h2⟩ := Option.map_eq_some_iff.1 info27
  rw [h1]
  simp only [Prod.mk.injEq] at h2
  rw [Option.map_some, h2.2.1]
set_option maxHeartbeats 8000000 in
set_option maxRecDepth 100000 in
theorem del95 (g : Nat) (lb : Array Value) (p : S27 → Bool) (wb w : World) (v : Value) (l : List S27)
    (HB0 : Below wb.heap.size wb w) (HO0 : (Kd.fixed k27 wb).R 27 w wb.heap.size (fun _ => True) v l) (hm : l.length ≤ 1000000)
    (eg : ∀ args w, (callFunc g args).run Try.prog w = .ok (.enter g args) w)
    (hp : ∀ (W : World) (y : S27) (A1 : Option Addr) (c1 : Nat), Below wb.heap.size wb W → y.f1.length ≤ c1 → (Kd.int .i64).C W A1 y.f1.length y.f1 →
      Calls Try.prog g (#[.agg #[.int .i64 y.f0, .slice A1 y.f1.length c1, .int .i64 y.f2, .int .i64 y.f3, .int .i64 y.f4]] ++ lb) W fun e w' => e = .returned (.bool (p y)) ∧ Below W.heap.size W w') :
    Calls Try.prog 95 #[v, .func (.func g) #[] lb] w fun e w' => ∃ v', e = .returned v' ∧ (Kd.fixed k27 wb).R 27 w' wb.heap.size (fun _ => True) v' (l.filter fun x => !p x) ∧ Below wb.heap.size wb w' := by
  obtain ⟨A, cap, rfl⟩ := Kd.R_slice HO0
  have hIF := index84 g lb p A cap l w (fix27 HB0 (Kd.R_reads' HO0).2.2) (by omega) eg (fun W i A1 c1 hi hb hl hc => (hp W _ A1 c1 (below_step HB0 hb) hl (Kd.C_below hc hb)).mono fun e w' h => ⟨h.1, below_step hb h.2⟩)
  have HB := Aside0.mk HB0
  have HO := Aside0.mk HO0
  have HP := Aside0.mk hp
  rcases place_cases p l 0 with ⟨e1, hall⟩ | ⟨k0, hk0, e1, ht, hall⟩
  · rw [e1] at hIF
    rw [filter_all hall]
    clear hall e1 hp HO0 HB0
    go_enter Try.func95, Try.ntmps95
    go_wp2_with (go_at_call 84; refine hIF.mono ?_; rintro e w' ⟨rfl, hb'⟩)
    go_ret
    exact ⟨_, rfl, Kd.R_below HO.out hb', below_step HB.out hb'⟩
  · rw [e1, Nat.zero_add] at hIF
    have hne1 : ((k0 : Int) == -1) = false := beq_eq_false_iff_ne.2 (by omega)
    obtain ⟨g0, cap2, e2, hbase, _, _⟩ := Kd.R_form HO0 (by omega)
    injection e2 with e3 _ e4
    subst e3; clear e4
    have hcap := (Kd.R_reads' HO0).2.1
    have I0 := Aside0.mk (DInv.start hk0 ht hall)
    have hb0 := Aside0.mk hbase
    clear hall ht e1 hp HO0 HB0 hbase
    go_enter Try.func95, Try.ntmps95
    go_wp2_with (go_at_call 84; refine hIF.mono ?_; rintro e w' ⟨rfl, hb'⟩)
    go_loopg [5, 6, 7] l.length (fun gg s5 s6 _ wr => ∃ (i j : Nat) (dk : List S27), s5 = .int .i64 i ∧ s6 = .int .i64 j ∧ j ≤ l.length ∧ l.length - j ≤ gg ∧ Aside0 (Below wb.heap.size wb wr) ∧ Aside0 ((Kd.fixed k27 wb).R 27 wr wb.heap.size (fun _ => True) (.slice (some ⟨g0, 0, none⟩) l.length cap) dk) ∧ Aside0 (DInv p l i j dk))
    case atStart => exact ⟨k0, k0 + 1, l, rfl, by go_num, by omega, by omega, ⟨below_step HB.out hb'⟩, ⟨Kd.R_below HO.out hb'⟩, I0⟩
    case round =>
      clear HB HO I0 hIF
      obtain ⟨i, j, dk, rfl, rfl, hjn, hgg, HB, HO, HI⟩ := hrel
      have hij := HI.out.lt
      have hdl := HI.out.len
      by_cases hlt : j < l.length
      · have hltz : (j : Int) < (l.length : Int) := by omega
        obtain ⟨c, hc5, hK, hcell, hfz⟩ := Kd.R_elem HO.out z27 (j : Int) (by omega) (by omega)
        rw [show ((j : Int).toNat) = j by omega] at hK hcell hfz
        rw [HI.out.high j (Nat.le_refl j)] at hK
        obtain ⟨A1, c1, rfl, hl1, hC1⟩ := k27_open hK
        have HK : Aside0 (k27.K wb (l.getD j z27) _) := Aside0.mk hK
        have h0 : wr.cell? ⟨g0, j * 5, none⟩ = _ := hcell 0 _ rfl
        have h1 : wr.cell? ⟨g0, j * 5 + 1, none⟩ = _ := hcell 1 _ rfl
        have h2 : wr.cell? ⟨g0, j * 5 + 2, none⟩ = _ := hcell 2 _ rfl
        have h3 : wr.cell? ⟨g0, j * 5 + 3, none⟩ = _ := hcell 3 _ rfl
        have h4 : wr.cell? ⟨g0, j * 5 + 4, none⟩ = _ := hcell 4 _ rfl
        have IK := fun hpf => Aside0.mk (HI.out.keep hlt hpf)
        have IS := fun hpt => Aside0.mk (HI.out.skip hlt hpt)
        clear hcell hfz hK hc5
        generalize l.getD j z27 = y at HK h0 h1 h2 h3 h4 IK IS hl1 hC1
        obtain ⟨y0, y1, y2, y3, y4⟩ := y
        simp only at h0 h1 h2 h3 h4 HK hl1 hC1
        have hcall := fun W hW => HP.out W ⟨y0, y1, y2, y3, y4⟩ A1 c1 hW hl1 (Kd.C_below hC1 hW)
        have hiz : (i : Int) < (l.length : Int) := by omega
        cases hq : p ⟨y0, y1, y2, y3, y4⟩ with
        | false =>
          have I1 := IK hq
          rw [hq] at hcall
          have HC := Aside0.mk hcall
          clear hcall IK IS hq
          go_wp2_with (first
            | ((with_reducible refine gate_dst (N := 7) rfl ?_); refine bz_ 7 ?_; intro gv hgv w1 hbox hb; have BKv := Aside0.mk hbox; have HR1 := Aside0.mk hb; have HG := Aside0.mk hgv; clear hbox hb hgv; have hcz1 := box5_ BKv.out)
            | ((with_reducible refine gate_store (t := 27) (p := 7) rfl ?_); refine store_event (t := 27) (p := 7) (v := ?vo) (w1 := (((((w1.setCell ⟨gv, 0, none⟩ (.int .i64 y0)).setCell ⟨gv, 1, none⟩ (.slice A1 y1.length c1)).setCell ⟨gv, 2, none⟩ (.int .i64 y2)).setCell ⟨gv, 3, none⟩ (.int .i64 y3)).setCell ⟨gv, 4, none⟩ (.int .i64 y4))) ?hg ?ho ?hn ?hr ?_; (case ho => rfl); (case hg => rfl); (case hn => rfl); (case hr => first | (go_simp; done) | (go_simp; rfl)); intro w2 hw; have BK2 : Aside0 (w2.heap[gv]? = some (.cells #[.int .i64 y0, .slice A1 y1.length c1, .int .i64 y2, .int .i64 y3, .int .i64 y4] 27 (0, 0))) := ⟨by rw [hw]; exact bq_ BKv.out⟩; have hbr : Below wr.heap.size wr w2 := (by rw [hw]; have hgv := Nat.le_of_eq HG.out.symm; exact below_set (below_set (below_set (below_set (below_set HR1.out hgv) hgv) hgv) hgv) hgv); have HB2 := Aside0.mk (below_step HB.out hbr); have HO2 := Aside0.mk (Kd.R_below HO.out hbr); clear hbr hw hcz1 h0 h1 h2 h3 h4; have hcz2 := box5_ BK2.out)
            | (go_at_fn g; refine (HC.out w2 HB2.out).mono ?_; rintro e w3 ⟨rfl, hb3⟩; have BK3 := Aside0.mk (blk_below BK2.out hb3); have HB3 := Aside0.mk (below_step HB2.out hb3); have HO3 := Aside0.mk (Kd.R_below HO2.out hb3); clear hb3 hcz2; have hcz3 := box5_ BK3.out)
            | ((with_reducible refine gate_store (t := 27) (p := 33) rfl ?_); (obtain ⟨co, hco, _, hcco, _⟩ := Kd.R_elem HO3.out z27 (i : Int) (by omega) (by omega); refine Kd.R_store (Kd.fixed k27 wb) (w0 := wb) wb.heap.size rfl rfl 27 (.tmp 33) (.tmp 32) rfl 27 (i : Int) 0 dk ⟨y0, y1, y2, y3, y4⟩ (.agg #[.int .i64 y0, .slice A1 y1.length c1, .int .i64 y2, .int .i64 y3, .int .i64 y4]) [.int .i64 y0, .slice A1 y1.length c1, .int .i64 y2, .int .i64 y3, .int .i64 y4] co (fun _ => True) (fun _ => False) rfl ?qo rfl rfl sz27_ (by simp [Value.oneCell']) HO3.out (by omega) (by omega) hco hcco (Nat.le_refl 5) ?qM (fun _ h => h.elim) HB3.out ?_; (case qo => show _ = ((i : Int).toNat) * 5 + 0; omega); (case qM => show k27.K wb _ (_ ++ List.drop (0 + 5) co); rw [List.drop_of_length_le (by have h5 : co.length = 5 := hco; omega), List.append_nil]; exact HK.out); intro w4 ho4 hb4 hg4; have HO4 := Aside0.mk ho4; have HB4 := Aside0.mk hb4; clear ho4 hb4 hg4 hcz3 hco hcco)))
          go_roundg (l.length - (j + 1))
          case measure => omega
          case rel => exact ⟨i + 1, j + 1, _, by go_num, by go_num, by omega, by omega, HB4, HO4, I1⟩
        | true =>
          have I1 := IS hq
          rw [hq] at hcall
          have HC := Aside0.mk hcall
          clear hcall IK IS hq
          go_wp2_with (first
            | ((with_reducible refine gate_dst (N := 7) rfl ?_); refine bz_ 7 ?_; intro gv hgv w1 hbox hb; have BKv := Aside0.mk hbox; have HR1 := Aside0.mk hb; have HG := Aside0.mk hgv; clear hbox hb hgv; have hcz1 := box5_ BKv.out)
            | ((with_reducible refine gate_store (t := 27) (p := 7) rfl ?_); refine store_event (t := 27) (p := 7) (v := ?vo) (w1 := (((((w1.setCell ⟨gv, 0, none⟩ (.int .i64 y0)).setCell ⟨gv, 1, none⟩ (.slice A1 y1.length c1)).setCell ⟨gv, 2, none⟩ (.int .i64 y2)).setCell ⟨gv, 3, none⟩ (.int .i64 y3)).setCell ⟨gv, 4, none⟩ (.int .i64 y4))) ?hg ?ho ?hn ?hr ?_; (case ho => rfl); (case hg => rfl); (case hn => rfl); (case hr => first | (go_simp; done) | (go_simp; rfl)); intro w2 hw; have BK2 : Aside0 (w2.heap[gv]? = some (.cells #[.int .i64 y0, .slice A1 y1.length c1, .int .i64 y2, .int .i64 y3, .int .i64 y4] 27 (0, 0))) := ⟨by rw [hw]; exact bq_ BKv.out⟩; have hbr : Below wr.heap.size wr w2 := (by rw [hw]; have hgv := Nat.le_of_eq HG.out.symm; exact below_set (below_set (below_set (below_set (below_set HR1.out hgv) hgv) hgv) hgv) hgv); have HB2 := Aside0.mk (below_step HB.out hbr); have HO2 := Aside0.mk (Kd.R_below HO.out hbr); clear hbr hw hcz1 h0 h1 h2 h3 h4; have hcz2 := box5_ BK2.out)
            | (go_at_fn g; refine (HC.out w2 HB2.out).mono ?_; rintro e w3 ⟨rfl, hb3⟩; have HB3 := Aside0.mk (below_step HB2.out hb3); have HO3 := Aside0.mk (Kd.R_below HO2.out hb3); clear hb3 hcz2))
          go_roundg (l.length - (j + 1))
          case measure => omega
          case rel => exact ⟨i, j + 1, _, rfl, by go_num, by omega, by omega, HB3, HO3, I1⟩
      · have hltz : ¬ (j : Int) < (l.length : Int) := by omega
        obtain rfl : j = l.length := by omega
        obtain ⟨cur, hcur, hcs⟩ : ∃ cur : Array Value, wr.heap[g0]? = some (.cells cur 27 (0, 0)) ∧ cur.size = cap * 5 := by
          obtain ⟨_, inner, hown, _⟩ := HO.out
          rcases hown.2 with ⟨e, _⟩ | ⟨g', cap', cur, e, hb, hh, hic, hcm, hcs, htk⟩
          · cases e
          · injection e with e1 _ e3
            injection e1 with e1
            injection e1 with e1
            subst e1; subst e3
            exact ⟨cur, hh, hcs⟩
        have hcn : cap ≠ i := by omega
        obtain ⟨zs, hzl, hcl⟩ := clear5 (P := Try.prog) (W := wr) (g := g0) (o := i * 5) (n := l.length - i) (c := cap - i) Try.underlying36 (z := .agg #[(.int .i64 0), (.slice none 0 0), (.int .i64 0), (.int .i64 0), (.int .i64 0)]) (fun w => zero27_ w) rfl (by simp [Value.cells, Value.oneCell']) 0 (by omega) hcur (by rw [hcs]; omega)
        have HZ := Aside0.mk (R_clear HO.out (i := i) (by omega) zs (by omega))
        have HBZ := Aside0.mk (below_cells HB.out hb0.out zs (i * 5))
        have hkl := HI.out.kept
        rw [List.take_length] at hkl
        have hl2 : (l.filter fun x => !p x).length = i := by rw [← hkl, List.length_take]; omega
        have HKL := Aside0.mk hkl
        have HL2 := Aside0.mk hl2
        clear hcur hcs hkl hl2 hzl
        go_wp2
        go_ret
        refine ⟨_, rfl, ?_, HBZ.out⟩
        rw [← HKL.out]
        exact HZ.out
set_option maxHeartbeats 8000000 in
set_option maxRecDepth 100000 in
theorem pred97 (hg : Nat) (bnd hlb : Array Value) (h : S27 → Bool) (eh : ∀ args w, (callFunc hg args).run Try.prog w = .ok (.enter hg args) w) (gh : Nat) (wb W : World) (hcell : wb.cell? ⟨gh, 0, none⟩ = some (.func (.func hg) bnd hlb)) (hb : Below wb.heap.size wb W)
    (y : S27) (A1 : Option Addr) (c1 : Nat) (hh : ∀ W', Below wb.heap.size wb W' → Below W.heap.size W W' → Calls Try.prog hg (bnd ++ #[.agg #[.int .i64 y.f0, .slice A1 y.f1.length c1, .int .i64 y.f2, .int .i64 y.f3, .int .i64 y.f4]] ++ hlb) W' fun e w' => e = .returned (.bool (h y)) ∧ Below W'.heap.size W' w') :
    Calls Try.prog 97 (#[.agg #[.int .i64 y.f0, .slice A1 y.f1.length c1, .int .i64 y.f2, .int .i64 y.f3, .int .i64 y.f4]] ++ #[.pointer (some ⟨gh, 0, none⟩)]) W fun e w' => e = .returned (.bool (!h y)) ∧ Below W.heap.size W w' := by
  obtain ⟨y0, y1, y2, y3, y4⟩ := y
  show Calls Try.prog 97 #[.agg #[.int .i64 y0, .slice A1 y1.length c1, .int .i64 y2, .int .i64 y3, .int .i64 y4], .pointer (some ⟨gh, 0, none⟩)] W _
  have hc : W.cell? ⟨gh, 0, none⟩ = some (.func (.func hg) bnd hlb) := (hb.cell (p := ⟨gh, 0, none⟩) (World.block_lt_of_cell? _ _ hcell)).trans hcell
  have HB := Aside0.mk hb
  have HH := Aside0.mk hh
  have HC := Aside0.mk hc
  clear hb hh hcell hc
  go_enter Try.func97, Try.ntmps97
  go_wp2_with (first
    | ((with_reducible refine gate_dst (N := 2) rfl ?_); refine bz_ 2 ?_; intro gv hgv w1 hbox hb; have BKv := Aside0.mk hbox; have HR1 := Aside0.mk hb; have hc1 := (hb.cell (p := ⟨gh, 0, none⟩) (World.block_lt_of_cell? _ _ HC.out)).trans HC.out; clear hbox hb hgv; have hcz1 := box5_ BKv.out)
    | (go_at_fn hg; refine (HH.out w1 (below_step HB.out HR1.out) HR1.out).mono ?_; rintro e w3 ⟨rfl, hb3⟩; have HB3 := Aside0.mk (below_step HR1.out hb3); clear hb3))
  go_ret
  exact ⟨rfl, HB3.out⟩
/-- The first of the least. -/
def minV (cf : S27 → S27 → Int) : S27 → List S27 → S27
  | m, [] => m
  | m, x :: r => minV cf (if cf x m < 0 then x else m) r
theorem minV_step (cf : S27 → S27 → Int) (l : List S27) (i : Nat) (m : S27) (h : i < l.length) : minV cf m (l.drop i) = minV cf (if cf (l.getD i z27) m < 0 then l.getD i z27 else m) (l.drop (i + 1)) := by
  rw [List.drop_eq_getElem_cons h]
  simp [minV, List.getD_eq_getElem?_getD, List.getElem?_eq_getElem h]
theorem add0_ (a : Addr) : a.add 0 = a := by
  obtain ⟨b, o, x⟩ := a
  cases x <;> simp [Addr.add]
/-- What slices.MinFunc leaves. -/
def MinPost (cf : S27 → S27 → Int) (l : List S27) (w : World) (e : Ending) (w' : World) : Prop := ∃ (y : S27) (A1 : Option Addr) (c1 : Nat), e = .returned (.agg #[.int .i64 y.f0, .slice A1 y.f1.length c1, .int .i64 y.f2, .int .i64 y.f3, .int .i64 y.f4]) ∧ y = minV cf (l.getD 0 z27) (l.drop 1) ∧ Below w.heap.size w w'
def min98.T7 : Bool × List (List Nat × List Nat) := (true, [([], []), ([], []), ([], []), ([1, 2], [1, 2]), ([3], [3]), ([], []), ([0, 4, 5], [0, 4, 5]), ([6], [6])])
def min98.B7 : List Nat := [0, 0, 0, 6, 14, 0, 63, 127]
theorem min98.tab7 : rtab .any (opsOf Try.f98 7) = min98.T7 := by kernel_rfl
theorem min98.bits7 : waitsOk min98.T7.2 min98.B7 = true := by kernel_rfl
set_option maxHeartbeats 8000000 in
set_option maxRecDepth 100000 in
theorem min98 (g : Nat) (fn : Func) (lb : Array Value) (cf : S27 → S27 → Int) (w : World) (A : Option Addr) (cap : Nat) (l : List S27)
    (hr : Kd.C k27 w A l.length l) (h1 : 0 < l.length) (hm : l.length ≤ 1000000)
    (hf : Try.prog.funcs[g]? = some fn) (hname : (fn.name == "runtime.NumGoroutine") = false) (hbd : fn.body.isSome = true)
    (hc : ∀ (W : World) (a b : S27) (A1 A2 : Option Addr) (c1 c2 : Nat), Below w.heap.size w W → a.f1.length ≤ c1 → b.f1.length ≤ c2 → (Kd.int .i64).C W A1 a.f1.length a.f1 → (Kd.int .i64).C W A2 b.f1.length b.f1 →
      Calls Try.prog g (#[.agg #[.int .i64 a.f0, .slice A1 a.f1.length c1, .int .i64 a.f2, .int .i64 a.f3, .int .i64 a.f4], .agg #[.int .i64 b.f0, .slice A2 b.f1.length c2, .int .i64 b.f2, .int .i64 b.f3, .int .i64 b.f4]] ++ lb) W fun e w' => e = .returned (.int .i64 (cf a b)) ∧ Below W.heap.size W w') :
    Calls Try.prog 98 #[.slice A l.length cap, .func (.func g) #[] lb] w fun e w' => MinPost cf l w e w' := by
  have hat : ∀ (W : World), Below w.heap.size w W → ∀ i : Nat, i < l.length → ∃ ad A1 c1, A = some ad ∧ W.cell? (ad.add (i * 5)) = some (.int .i64 (l.getD i z27).f0) ∧ W.cell? ⟨(ad.add (i * 5)).block, (ad.add (i * 5)).off + 1, none⟩ = some (.slice A1 (l.getD i z27).f1.length c1) ∧ W.cell? ⟨(ad.add (i * 5)).block, (ad.add (i * 5)).off + 2, none⟩ = some (.int .i64 (l.getD i z27).f2) ∧ W.cell? ⟨(ad.add (i * 5)).block, (ad.add (i * 5)).off + 3, none⟩ = some (.int .i64 (l.getD i z27).f3) ∧ W.cell? ⟨(ad.add (i * 5)).block, (ad.add (i * 5)).off + 4, none⟩ = some (.int .i64 (l.getD i z27).f4) ∧ (l.getD i z27).f1.length ≤ c1 ∧ (Kd.int .i64).C w A1 (l.getD i z27).f1.length (l.getD i z27).f1 := by
    intro W hW i hi
    obtain ⟨ad, A1, c1, e, h0, h1, h2, h3, h4, h5, h6⟩ := at_T27 hr (i : Int) (by omega) (by omega)
    exact ⟨ad, A1, c1, e, (hW.cell (World.block_lt_of_cell? w _ h0)).trans h0, (hW.cell (World.block_lt_of_cell? w _ h1)).trans h1, (hW.cell (World.block_lt_of_cell? w _ h2)).trans h2, (hW.cell (World.block_lt_of_cell? w _ h3)).trans h3, (hW.cell (World.block_lt_of_cell? w _ h4)).trans h4, h5, h6⟩
  have HAT := Aside0.mk hat
  have HC := Aside0.mk hc
  obtain ⟨ad, A1, c1, rfl, x0, x1, x2, x3, x4, hl1, hC1⟩ := hat w (Below.refl _ _) 0 h1
  have HV : Aside0 (∃ y0, y0 = l.getD 0 z27) := ⟨⟨_, rfl⟩⟩
  obtain ⟨⟨y0, y1, y2, y3, y4⟩, hy⟩ := HV.out
  rw [← hy] at x0 x1 x2 x3 x4 hl1 hC1
  simp only [Nat.zero_mul, add0_] at x0 x1 x2 x3 x4 hl1 hC1
  have HY := Aside0.mk hy
  have HL1 := Aside0.mk hl1
  have HC1 := Aside0.mk hC1
  clear hr hat hc hy hl1 hC1 HV
  have hlt1 : ¬ (l.length : Int) < 1 := by omega
  have hlt0 : (0 : Int) < (l.length : Int) := by omega
  go_enter Try.func98, Try.ntmps98
  go_wp2_with (first
    | ((with_reducible refine gate_dst (N := 4) rfl ?_); refine bz_ 4 ?_; intro g4 hg4 w1 hbox hb; have BK4 := Aside0.mk hbox; have HR1 := Aside0.mk hb; have HG4 := Aside0.mk hg4; have d0 := (hb.cell (World.block_lt_of_cell? w _ x0)).trans x0; have d1 := (hb.cell (World.block_lt_of_cell? w _ x1)).trans x1; have d2 := (hb.cell (World.block_lt_of_cell? w _ x2)).trans x2; have d3 := (hb.cell (World.block_lt_of_cell? w _ x3)).trans x3; have d4 := (hb.cell (World.block_lt_of_cell? w _ x4)).trans x4; clear hbox hb hg4 x0 x1 x2 x3 x4)
    | ((with_reducible refine gate_dst (N := 5) rfl ?_); refine bz_ 5 ?_; intro g5 hg5 w2 hbox hb; have BK5 := Aside0.mk hbox; have HR2 := Aside0.mk hb; have NE := Aside0.mk (nl_ hg5 BK4.out); have HG5 := Aside0.mk hg5; have BK4' := Aside0.mk (blk_below BK4.out hb); clear hbox hb hg5 d0 d1 d2 d3 d4; have hcz1 := box5_ BK5.out)
    | ((with_reducible refine gate_store (t := 27) (p := 5) rfl ?_); go_loud (refine store_event (t := 27) (p := 5) (v := ?vo0) (w1 := (((((w2.setCell ⟨g5, 0, none⟩ (.int .i64 y0)).setCell ⟨g5, 1, none⟩ (.slice A1 y1.length c1)).setCell ⟨g5, 2, none⟩ (.int .i64 y2)).setCell ⟨g5, 3, none⟩ (.int .i64 y3)).setCell ⟨g5, 4, none⟩ (.int .i64 y4))) ?hg ?ho ?hn ?hr ?_; (case ho => rfl); (case hg => rfl); (case hn => rfl); (case hr => first | (go_simp; done) | (go_simp; rfl)); intro w3 hw; have BK5b : Aside0 (w3.heap[g5]? = some (.cells #[.int .i64 y0, .slice A1 y1.length c1, .int .i64 y2, .int .i64 y3, .int .i64 y4] 27 (0, 0))) := ⟨by rw [hw]; exact bq_ BK5.out⟩; have BK4b := Aside0.mk (show w3.heap[g4]? = some (.cells #[.int .i64 0, .slice none 0 0, .int .i64 0, .int .i64 0, .int .i64 0] 27 (0, 0)) by rw [hw]; exact blk_far (blk_far (blk_far (blk_far (blk_far BK4'.out (p := ⟨g5, 0, none⟩) NE.out _) (p := ⟨g5, 1, none⟩) NE.out _) (p := ⟨g5, 2, none⟩) NE.out _) (p := ⟨g5, 3, none⟩) NE.out _) (p := ⟨g5, 4, none⟩) NE.out _); have GE4 := Aside0.mk (Nat.le_of_eq HG4.out.symm); have GE5 := Aside0.mk (show w.heap.size ≤ g5 by rw [HG5.out]; exact HR1.out.size); have HW := Aside0.mk (show Below w.heap.size w w3 by rw [hw]; exact below_set (below_set (below_set (below_set (below_set (below_step HR1.out HR2.out) GE5.out) GE5.out) GE5.out) GE5.out) GE5.out); clear hw hcz1)))
  clear BK4 BK4' BK5 HR1 HR2 HG4 HG5
  go_loopg [6] l.length (fun gg s6 wr => ∃ (i : Nat) (y : S27) (A1 : Option Addr) (c1 : Nat), s6 = .int .i64 i ∧ i ≤ l.length ∧ l.length - i ≤ gg ∧ Aside0 (Below w.heap.size w wr) ∧ Aside0 (wr.heap[g5]? = some (.cells #[.int .i64 y.f0, .slice A1 y.f1.length c1, .int .i64 y.f2, .int .i64 y.f3, .int .i64 y.f4] 27 (0, 0))) ∧ Aside0 (wr.heap[g4]? = some (.cells #[.int .i64 0, .slice none 0 0, .int .i64 0, .int .i64 0, .int .i64 0] 27 (0, 0))) ∧ Aside0 (y.f1.length ≤ c1) ∧ Aside0 ((Kd.int .i64).C w A1 y.f1.length y.f1) ∧ Aside0 (minV cf y (l.drop i) = minV cf (l.getD 0 z27) (l.drop 1)))
  case atStart => exact ⟨1, ⟨y0, y1, y2, y3, y4⟩, A1, c1, rfl, by omega, by omega, HW, BK5b, BK4b, HL1, HC1, ⟨by rw [HY.out]⟩⟩
  case round =>
    clear BK5b BK4b HL1 HC1 HY HW
    obtain ⟨i, ⟨y0, y1, y2, y3, y4⟩, A1, c1, rfl, hin, hgg, HW, BK5, BK4, HL1, HC1, HM⟩ := hrel
    simp only at BK5 HL1 HC1
    by_cases hlt : i < l.length
    · have hltz : (i : Int) < (l.length : Int) := by omega
      obtain ⟨ad', A2, c2, e, x0, x1, x2, x3, x4, hl2, hC2⟩ := HAT.out wr HW.out i hlt
      injection e with e
      subst e
      have HM2 := Aside0.mk ((minV_step cf l i ⟨y0, y1, y2, y3, y4⟩ hlt).symm.trans HM.out)
      clear HM
      generalize l.getD i z27 = v at x0 x1 x2 x3 x4 hl2 hC2 HM2
      obtain ⟨v0, v1, v2, v3, v4⟩ := v
      simp only at x0 x1 x2 x3 x4 hl2 hC2
      have hcall := fun W hW => HC.out W ⟨v0, v1, v2, v3, v4⟩ ⟨y0, y1, y2, y3, y4⟩ A2 A1 c2 c1 hW hl2 HL1.out (Kd.C_below hC2 hW) (Kd.C_below HC1.out hW)
      generalize cf ⟨v0, v1, v2, v3, v4⟩ ⟨y0, y1, y2, y3, y4⟩ = z at hcall HM2
      have HCC := Aside0.mk hcall
      have HL2 := Aside0.mk hl2
      have HC2 := Aside0.mk hC2
      clear hcall hl2 hC2
      have X0 := Aside0.mk x0
      have X1 := Aside0.mk x1
      have X2 := Aside0.mk x2
      have X3 := Aside0.mk x3
      have X4 := Aside0.mk x4
      clear x0 x1 x2 x3 x4
      cases hq : decide (z < 0) with
      | false =>
        go_wp2_with fail
        refine sta_ 8 (fun w' => w'.cell? (ad.add (i * 5)) = some (.int .i64 v0) ∧ w'.cell? ⟨(ad.add (i * 5)).block, (ad.add (i * 5)).off + 1, none⟩ = some (.slice A2 v1.length c2) ∧ w'.cell? ⟨(ad.add (i * 5)).block, (ad.add (i * 5)).off + 2, none⟩ = some (.int .i64 v2) ∧ w'.cell? ⟨(ad.add (i * 5)).block, (ad.add (i * 5)).off + 3, none⟩ = some (.int .i64 v3) ∧ w'.cell? ⟨(ad.add (i * 5)).block, (ad.add (i * 5)).off + 4, none⟩ = some (.int .i64 v4) ∧ w'.cell? ⟨g5, 0, none⟩ = some (.int .i64 y0) ∧ w'.cell? ⟨g5, 1, none⟩ = some (.slice A1 y1.length c1) ∧ w'.cell? ⟨g5, 2, none⟩ = some (.int .i64 y2) ∧ w'.cell? ⟨g5, 3, none⟩ = some (.int .i64 y3) ∧ w'.cell? ⟨g5, 4, none⟩ = some (.int .i64 y4)) ⟨X0.out, X1.out, X2.out, X3.out, X4.out, (blk_cell BK5.out 0).trans rfl, (blk_cell BK5.out 1).trans rfl, (blk_cell BK5.out 2).trans rfl, (blk_cell BK5.out 3).trans rfl, (blk_cell BK5.out 4).trans rfl⟩ (fun hHeld => ?_)
        have BK5d := Aside0.mk (blk_drew BK5.out)
        have BK4d := Aside0.mk (blk_drew BK4.out)
        have HWd := Aside0.mk (below_drew1 HW.out)
        clear X0 X1 X2 X3 X4 BK5 BK4 HW
        generalize wr.drew = wd at BK5d BK4d HWd hHeld ⊢
        refine with_tabW min98.tab7 min98.bits7 (fun HT_ HW_ => ?_)
        refine pl_ 0 (some 20) 8 1 HT_.out ?_
        refine pl_ 1 (some 21) 8 3 HT_.out ?_
        refine pl_ 2 (some 22) 8 7 HT_.out ?_
        refine pl_ 3 (some 23) 8 15 HT_.out ?_
        refine tk_ 4 (some 24) 8 31 HT_.out HW_.out hHeld (hy := by rintro w' ⟨s0, s1, s2, s3, s4, s5, s6, s7, s8, s9⟩; go_simp; with_reducible rfl) (h := ?_)
        refine tk_ 5 (some 25) 8 63 HT_.out HW_.out hHeld (hy := by rintro w' ⟨s0, s1, s2, s3, s4, s5, s6, s7, s8, s9⟩; go_simp; with_reducible rfl) (h := ?_)
        refine one_ (i := 6) (N := some 26) (bl_ 8 127) rfl rfl (one_of HT_.out (by kernel_rfl)) (by decide) (fun K hK => ?_)
        refine goesVs_ 20 hf hname hbd (#[.agg #[.int .i64 v0, .slice A2 v1.length c2, .int .i64 v2, .int .i64 v3, .int .i64 v4], .agg #[.int .i64 y0, .slice A1 y1.length c1, .int .i64 y2, .int .i64 y3, .int .i64 y4]] ++ lb) (by rfl) rfl rfl rfl (by (try simp only [List.map_toArray, List.map_cons, List.map_nil]); first | done | rfl) ?_
        refine (HCC.out wd HWd.out).mono ?_
        rintro e w3 ⟨rfl, hb⟩
        refine ⟨_, rfl, ?_⟩
        have BK5 := Aside0.mk (blk_below BK5d.out hb)
        have BK4 := Aside0.mk (blk_below BK4d.out hb)
        have HW := Aside0.mk (below_step HWd.out hb)
        obtain ⟨s0, s1, s2, s3, s4, s5, s6, s7, s8, s9⟩ := hHeld
        refine hK.out _ _ ⟨cw_ hb s0, cw_ hb s1, cw_ hb s2, cw_ hb s3, cw_ hb s4, cw_ hb s5, cw_ hb s6, cw_ hb s7, cw_ hb s8, cw_ hb s9⟩ (fun hHeld => ?_)
        clear hK K hb s0 s1 s2 s3 s4 s5 s6 s7 s8 s9 BK5d BK4d HWd
        refine nm_ 26 (h := ?_)
        refine pl_ 7 (some 27) 8 255 HT_.out ?_
        refine done_ (done_of HT_.out (by kernel_rfl)) ?_
        clear HT_ HW_
        clear hHeld
        (try rw [hq])
        go_wp2
        go_roundg (l.length - (i + 1))
        case measure => omega
        case rel => exact ⟨i + 1, ⟨y0, y1, y2, y3, y4⟩, A1, c1, by go_num, by omega, by omega, HW, BK5, BK4, HL1, HC1, ⟨by have h := HM2.out; rwa [if_neg (of_decide_eq_false hq)] at h⟩⟩
      | true =>
        go_wp2_with fail
        refine sta_ 8 (fun w' => w'.cell? (ad.add (i * 5)) = some (.int .i64 v0) ∧ w'.cell? ⟨(ad.add (i * 5)).block, (ad.add (i * 5)).off + 1, none⟩ = some (.slice A2 v1.length c2) ∧ w'.cell? ⟨(ad.add (i * 5)).block, (ad.add (i * 5)).off + 2, none⟩ = some (.int .i64 v2) ∧ w'.cell? ⟨(ad.add (i * 5)).block, (ad.add (i * 5)).off + 3, none⟩ = some (.int .i64 v3) ∧ w'.cell? ⟨(ad.add (i * 5)).block, (ad.add (i * 5)).off + 4, none⟩ = some (.int .i64 v4) ∧ w'.cell? ⟨g5, 0, none⟩ = some (.int .i64 y0) ∧ w'.cell? ⟨g5, 1, none⟩ = some (.slice A1 y1.length c1) ∧ w'.cell? ⟨g5, 2, none⟩ = some (.int .i64 y2) ∧ w'.cell? ⟨g5, 3, none⟩ = some (.int .i64 y3) ∧ w'.cell? ⟨g5, 4, none⟩ = some (.int .i64 y4)) ⟨X0.out, X1.out, X2.out, X3.out, X4.out, (blk_cell BK5.out 0).trans rfl, (blk_cell BK5.out 1).trans rfl, (blk_cell BK5.out 2).trans rfl, (blk_cell BK5.out 3).trans rfl, (blk_cell BK5.out 4).trans rfl⟩ (fun hHeld => ?_)
        have BK5d := Aside0.mk (blk_drew BK5.out)
        have BK4d := Aside0.mk (blk_drew BK4.out)
        have HWd := Aside0.mk (below_drew1 HW.out)
        clear X0 X1 X2 X3 X4 BK5 BK4 HW
        generalize wr.drew = wd at BK5d BK4d HWd hHeld ⊢
        refine with_tabW min98.tab7 min98.bits7 (fun HT_ HW_ => ?_)
        refine pl_ 0 (some 20) 8 1 HT_.out ?_
        refine pl_ 1 (some 21) 8 3 HT_.out ?_
        refine pl_ 2 (some 22) 8 7 HT_.out ?_
        refine pl_ 3 (some 23) 8 15 HT_.out ?_
        refine tk_ 4 (some 24) 8 31 HT_.out HW_.out hHeld (hy := by rintro w' ⟨s0, s1, s2, s3, s4, s5, s6, s7, s8, s9⟩; go_simp; with_reducible rfl) (h := ?_)
        refine tk_ 5 (some 25) 8 63 HT_.out HW_.out hHeld (hy := by rintro w' ⟨s0, s1, s2, s3, s4, s5, s6, s7, s8, s9⟩; go_simp; with_reducible rfl) (h := ?_)
        refine one_ (i := 6) (N := some 26) (bl_ 8 127) rfl rfl (one_of HT_.out (by kernel_rfl)) (by decide) (fun K hK => ?_)
        refine goesVs_ 20 hf hname hbd (#[.agg #[.int .i64 v0, .slice A2 v1.length c2, .int .i64 v2, .int .i64 v3, .int .i64 v4], .agg #[.int .i64 y0, .slice A1 y1.length c1, .int .i64 y2, .int .i64 y3, .int .i64 y4]] ++ lb) (by rfl) rfl rfl rfl (by (try simp only [List.map_toArray, List.map_cons, List.map_nil]); first | done | rfl) ?_
        refine (HCC.out wd HWd.out).mono ?_
        rintro e w3 ⟨rfl, hb⟩
        refine ⟨_, rfl, ?_⟩
        have BK5 := Aside0.mk (blk_below BK5d.out hb)
        have BK4 := Aside0.mk (blk_below BK4d.out hb)
        have HW := Aside0.mk (below_step HWd.out hb)
        obtain ⟨s0, s1, s2, s3, s4, s5, s6, s7, s8, s9⟩ := hHeld
        refine hK.out _ _ ⟨cw_ hb s0, cw_ hb s1, cw_ hb s2, cw_ hb s3, cw_ hb s4, cw_ hb s5, cw_ hb s6, cw_ hb s7, cw_ hb s8, cw_ hb s9⟩ (fun hHeld => ?_)
        clear hK K hb s0 s1 s2 s3 s4 s5 s6 s7 s8 s9 BK5d BK4d HWd
        refine nm_ 26 (h := ?_)
        refine pl_ 7 (some 27) 8 255 HT_.out ?_
        refine done_ (done_of HT_.out (by kernel_rfl)) ?_
        clear HT_ HW_
        obtain ⟨s0, s1, s2, s3, s4, s5, s6, s7, s8, s9⟩ := hHeld
        clear s5 s6 s7 s8 s9
        have hcz2 := box5_ BK5.out
        (try rw [hq])
        go_wp2_with ((with_reducible refine gate_store (t := 27) (p := 5) rfl ?_); go_loud (refine store_event (t := 27) (p := 5) (v := ?vo1) (w1 := (((((w3.setCell ⟨g5, 0, none⟩ (.int .i64 v0)).setCell ⟨g5, 1, none⟩ (.slice A2 v1.length c2)).setCell ⟨g5, 2, none⟩ (.int .i64 v2)).setCell ⟨g5, 3, none⟩ (.int .i64 v3)).setCell ⟨g5, 4, none⟩ (.int .i64 v4))) ?hg ?ho ?hn ?hr ?_; (case ho => rfl); (case hg => rfl); (case hn => rfl); (case hr => first | (go_simp; done) | (go_simp; rfl)); intro w4 hw; have BK5b : Aside0 (w4.heap[g5]? = some (.cells #[.int .i64 v0, .slice A2 v1.length c2, .int .i64 v2, .int .i64 v3, .int .i64 v4] 27 (0, 0))) := ⟨by rw [hw]; exact bq_ BK5.out⟩; have BK4b := Aside0.mk (show w4.heap[g4]? = some (.cells #[.int .i64 0, .slice none 0 0, .int .i64 0, .int .i64 0, .int .i64 0] 27 (0, 0)) by rw [hw]; exact blk_far (blk_far (blk_far (blk_far (blk_far BK4.out (p := ⟨g5, 0, none⟩) NE.out _) (p := ⟨g5, 1, none⟩) NE.out _) (p := ⟨g5, 2, none⟩) NE.out _) (p := ⟨g5, 3, none⟩) NE.out _) (p := ⟨g5, 4, none⟩) NE.out _); have HW4 := Aside0.mk (show Below w.heap.size w w4 by rw [hw]; exact below_set (below_set (below_set (below_set (below_set HW.out GE5.out) GE5.out) GE5.out) GE5.out) GE5.out); clear hw hcz2))
        go_roundg (l.length - (i + 1))
        case measure => omega
        case rel => exact ⟨i + 1, ⟨v0, v1, v2, v3, v4⟩, A2, c2, by go_num, by omega, by omega, HW4, BK5b, BK4b, HL2, HC2, ⟨by have h := HM2.out; rwa [if_pos (of_decide_eq_true hq)] at h⟩⟩
    · have hltz : ¬ (i : Int) < (l.length : Int) := by omega
      have hM := HM.out
      rw [List.drop_of_length_le (by omega)] at hM
      have HM3 := Aside0.mk hM
      clear hM HM
      have hcz2 := box5_ BK5.out
      have hcz4 := box5_ BK4.out
      have hnb := NE.out
      go_wp2_with ((with_reducible refine gate_store (t := 27) (p := 4) rfl ?_); go_loud (refine store_event (t := 27) (p := 4) (v := ?vo2) (w1 := (((((wr.setCell ⟨g4, 0, none⟩ (.int .i64 y0)).setCell ⟨g4, 1, none⟩ (.slice A1 y1.length c1)).setCell ⟨g4, 2, none⟩ (.int .i64 y2)).setCell ⟨g4, 3, none⟩ (.int .i64 y3)).setCell ⟨g4, 4, none⟩ (.int .i64 y4))) ?hg ?ho ?hn ?hr ?_; (case ho => rfl); (case hg => rfl); (case hn => rfl); (case hr => first | (go_simp; done) | (go_simp; rfl)); intro w4 hw; have BK4b : Aside0 (w4.heap[g4]? = some (.cells #[.int .i64 y0, .slice A1 y1.length c1, .int .i64 y2, .int .i64 y3, .int .i64 y4] 27 (0, 0))) := ⟨by rw [hw]; exact bq_ BK4.out⟩; have HW4 := Aside0.mk (show Below w.heap.size w w4 by rw [hw]; exact below_set (below_set (below_set (below_set (below_set HW.out GE4.out) GE4.out) GE4.out) GE4.out) GE4.out); clear hw hcz2 hcz4))
      refine bodyPost_ret (results_cell_row rfl _ _ g4 27 #[.int .i64 y0, .slice A1 y1.length c1, .int .i64 y2, .int .i64 y3, .int .i64 y4] (0, 0) _ rfl BK4b.out Try.underlying27 rfl (by kernel_rfl)) rfl ?_
      exact ⟨⟨y0, y1, y2, y3, y4⟩, A1, c1, rfl, HM3.out, HW4.out⟩
def cmpI (a b : Int) : Int := if a < b then -1 else if a > b then 1 else 0
def cmpT (key : S27 → Int) (a b : S27) : Int := if cmpI (key a) (key b) = 0 then cmpI a.f0 b.f0 else cmpI (key a) (key b)
def headV (key : S27 → Int) : List S27 → Int
  | [] => 0
  | x :: r => (minV (cmpT key) x r).f0
/-- The Id of the first task by key of those for which h holds. -/
def firstV (h : S27 → Bool) (key : S27 → Int) (l : List S27) : Int := headV key (l.filter (fun x => !(!h x)))
set_option maxHeartbeats 8000000 in
set_option maxRecDepth 100000 in
theorem first87 (hg : Nat) (bnd hlb : Array Value) (h : S27 → Bool) (eh : ∀ args w, (callFunc hg args).run Try.prog w = .ok (.enter hg args) w) (kg : Nat) (key : S27 → Int) (s0 s1 s2 : Int) (A : Option Addr) (c : Nat) (l : List S27) (s4 s5 s6 s7 : Int) (w : World)
    (hr : Kd.C k27 w A l.length l) (hc : l.length ≤ c) (hm : l.length ≤ 1000000)
    (hh : ∀ (W : World) (y : S27) (A1 : Option Addr) (c1 : Nat), Below w.heap.size w W → y.f1.length ≤ c1 → (Kd.int .i64).C W A1 y.f1.length y.f1 → Calls Try.prog hg (bnd ++ #[.agg #[.int .i64 y.f0, .slice A1 y.f1.length c1, .int .i64 y.f2, .int .i64 y.f3, .int .i64 y.f4]] ++ hlb) W fun e w' => e = .returned (.bool (h y)) ∧ Below W.heap.size W w')
    (hcmp : ∀ (W : World) (gc : Nat) (a b : S27) (A1 A2 : Option Addr) (c1 c2 : Nat), W.cell? ⟨gc, 0, none⟩ = some (.func (.func kg) #[] #[]) → a.f1.length ≤ c1 → b.f1.length ≤ c2 → (Kd.int .i64).C W A1 a.f1.length a.f1 → (Kd.int .i64).C W A2 b.f1.length b.f1 →
      Calls Try.prog 99 #[.agg #[.int .i64 a.f0, .slice A1 a.f1.length c1, .int .i64 a.f2, .int .i64 a.f3, .int .i64 a.f4], .agg #[.int .i64 b.f0, .slice A2 b.f1.length c2, .int .i64 b.f2, .int .i64 b.f3, .int .i64 b.f4], .pointer (some ⟨gc, 0, none⟩)] W fun e w' => e = .returned (.int .i64 (cmpT key a b)) ∧ Below W.heap.size W w') :
    Calls Try.prog 87 #[.agg #[.int .i64 s0, .int .i64 s1, .int .i64 s2, .slice A l.length c, .int .i64 s4, .int .i64 s5, .int .i64 s6, .int .i64 s7], .func (.func hg) bnd hlb, .func (.func kg) #[] #[]] w fun e w' => e = .returned (.int .i64 (firstV h key l)) ∧ Below w.heap.size w w' := by
  have HR := Aside0.mk hr
  have HH := Aside0.mk hh
  have HCM := Aside0.mk hcmp
  have e97 : ∀ args w, (callFunc 97 args).run Try.prog w = .ok (.enter 97 args) w := enters_of Try.func97 (by kernel_rfl) rfl
  have E97 := Aside0.mk e97
  obtain ⟨F, hF⟩ : ∃ F, F = l.filter (fun x => !(!h x)) := ⟨_, rfl⟩
  have HV : Aside0 (firstV h key l = headV key F) := ⟨by rw [hF]; rfl⟩
  have HF := Aside0.mk hF
  have hfm : F.length ≤ 1000000 := by rw [hF]; exact Nat.le_trans (List.length_filter_le _ _) hm
  generalize firstV h key l = fv at HV ⊢
  have hfl : ∀ (z0 : Int) (zA : Option Addr) (zn zc : Nat) (z2 z3 z4 : Int) (W_ : World), (Instr.field 27 (.agg #[.int .i64 z0, .slice zA zn zc, .int .i64 z2, .int .i64 z3, .int .i64 z4]) 0).run Try.prog W_ = .ok (.int .i64 z0) W_ := by intros; rfl
  clear hr hh hcmp e97 hF
  have hu38 := Try.underlying38
  cases F with
  | nil =>
    have hfv := HV.out
    simp only [headV] at hfv
    subst hfv
    go_enter Try.func87, Try.ntmps87
    go_wp2_with (first
      | ((with_reducible refine gate_dst (N := 3) rfl ?_); refine bz_ 3 ?_; intro g3 hg3 w1 hbox hb; have BK3 := Aside0.mk hbox; have HB1 := Aside0.mk hb; clear hbox hb hg3)
      | ((with_reducible refine gate_dst (N := 4) rfl ?_); refine bz_ 4 ?_; intro g4 hg4 w2 hbox hb; have BK4 := Aside0.mk hbox; have BK3b := Aside0.mk (blk_below BK3.out hb); have HB2 := Aside0.mk (below_step HB1.out hb); clear hbox hb hg4 BK3)
      | ((with_reducible refine gate_dst (N := 5) rfl ?_); refine bz_ 5 ?_; intro g5 hg5 w3 hbox hb; have BK5 := Aside0.mk hbox; have BK3c := Aside0.mk (blk_below BK3b.out hb); have BK4b := Aside0.mk (blk_below BK4.out hb); have HB3 := Aside0.mk (below_step HB2.out hb); clear hbox hb hg5 BK3b BK4; have hcz1 := box8_ BK3c.out)
      | (go_at_call 96; refine (clone96 A c l w3 (Kd.C_below HR.out HB3.out) hc hm).mono ?_; rintro e w4 ⟨v, rfl, ho, hb⟩; have HO4 := Aside0.mk ho; have HB4 := Aside0.mk hb; clear ho hb)
      | (go_at_call 95; refine (del95 97 #[.pointer (some ⟨g4, 0, none⟩)] (fun y => !h y) w3 w4 v l HB4.out HO4.out hm E97.out (fun W y A1 c1 hW hl1 hC1 => pred97 hg bnd hlb h eh g4 w3 W ((blk_cell BK4b.out 0).trans rfl) hW y A1 c1 (fun W' _ hW' => HH.out W' y A1 c1 (below_step (below_step HB3.out hW) hW') hl1 (Kd.C_below hC1 hW')))).mono ?_; rintro e w5 ⟨v5, rfl, ho, hb⟩; have HO5 := Aside0.mk ho; have HB5 := Aside0.mk (below_step HB3.out hb); clear ho hb; rw [← HF.out] at HO5; obtain ⟨A5, c5, rfl⟩ := Kd.R_slice HO5.out))
    go_ret
    exact ⟨rfl, HB5.out⟩
  | cons x r =>
    have hnz : (((x :: r).length : Nat) : Int) ≠ 0 := by simp; omega
    have hfv := HV.out
    simp only [headV] at hfv
    have HV2 := Aside0.mk hfv
    clear hfv HV
    have hlen : 0 < (x :: r).length := by simp
    go_enter Try.func87, Try.ntmps87
    go_wp2_with (first
      | ((with_reducible refine gate_dst (N := 3) rfl ?_); refine bz_ 3 ?_; intro g3 hg3 w1 hbox hb; have BK3 := Aside0.mk hbox; have HB1 := Aside0.mk hb; clear hbox hb hg3)
      | ((with_reducible refine gate_dst (N := 4) rfl ?_); refine bz_ 4 ?_; intro g4 hg4 w2 hbox hb; have BK4 := Aside0.mk hbox; have BK3b := Aside0.mk (blk_below BK3.out hb); have HB2 := Aside0.mk (below_step HB1.out hb); clear hbox hb hg4 BK3)
      | ((with_reducible refine gate_dst (N := 5) rfl ?_); refine bz_ 5 ?_; intro g5 hg5 w3 hbox hb; have BK5 := Aside0.mk hbox; have BK3c := Aside0.mk (blk_below BK3b.out hb); have BK4b := Aside0.mk (blk_below BK4.out hb); have HB3 := Aside0.mk (below_step HB2.out hb); clear hbox hb hg5 BK3b BK4; have hcz1 := box8_ BK3c.out)
      | (go_at_call 96; refine (clone96 A c l w3 (Kd.C_below HR.out HB3.out) hc hm).mono ?_; rintro e w4 ⟨v, rfl, ho, hb⟩; have HO4 := Aside0.mk ho; have HB4 := Aside0.mk hb; clear ho hb)
      | (go_at_call 95; refine (del95 97 #[.pointer (some ⟨g4, 0, none⟩)] (fun y => !h y) w3 w4 v l HB4.out HO4.out hm E97.out (fun W y A1 c1 hW hl1 hC1 => pred97 hg bnd hlb h eh g4 w3 W ((blk_cell BK4b.out 0).trans rfl) hW y A1 c1 (fun W' _ hW' => HH.out W' y A1 c1 (below_step (below_step HB3.out hW) hW') hl1 (Kd.C_below hC1 hW')))).mono ?_; rintro e w5 ⟨v5, rfl, ho, hb⟩; have HO5 := Aside0.mk ho; have HB5 := Aside0.mk (below_step HB3.out hb); have HB35 := Aside0.mk hb; clear ho hb; rw [← HF.out] at HO5; obtain ⟨A5, c5, rfl⟩ := Kd.R_slice HO5.out)
      | (go_at_call 98; go_loud (refine (min98 99 _ #[.pointer (some ⟨g5, 0, none⟩)] (cmpT key) w5 A5 c5 (x :: r) (fix27 HB35.out (Kd.R_reads' HO5.out).2.2) hlen hfm Try.func99 (by kernel_rfl) rfl (fun W a b A1 A2 c1 c2 hW l1 l2 C1 C2 => HCM.out W g5 a b A1 A2 c1 c2 ((blk_cell (blk_below (blk_below BK5.out HB35.out) hW) 0).trans rfl) l1 l2 C1 C2)).mono ?_; rintro e w6 ⟨y, A1, c1, rfl, hyv, hb⟩; have HB6 := Aside0.mk (below_step HB5.out hb); have HYV := Aside0.mk hyv; clear hb hyv)))
    go_ret
    exact ⟨by rw [HV2.out, HYV.out]; rfl, HB6.out⟩
theorem cmpI_f (a b : Int) : cmp_Compare_int.f a b = some (cmpI a b) := by
  have h1 : (a != a) = false := by simp
  have h2 : (b != b) = false := by simp
  simp only [cmp_Compare_int.f, cmp_isNaN_int.f, h1, h2, Option.bind_some, Bool.false_eq_true, if_false, cmpI]
  by_cases h : a < b
  · rw [if_pos h, if_pos h]
  · rw [if_neg h, if_neg h]
    by_cases h' : a > b
    · rw [if_pos h', if_pos h']
    · rw [if_neg h', if_neg h']
theorem cmpOr_f (x y : Int) : cmp_Or_int.f 3 [x, y] = some (if x = 0 then y else x) := by
  have e0 : rd [x, y] 0 = x := rfl
  have e1 : rd [x, y] 1 = y := rfl
  have l2 : (([x, y] : List Int).length : Int) = 2 := rfl
  have w1 : wrap64 (0 + 1) = 1 := by kernel_rfl
  have w2 : wrap64 (1 + 1) = 2 := by kernel_rfl
  unfold cmp_Or_int.f
  rw [cmp_Or_int.l0, l2, if_pos (by decide), if_pos (by decide), if_pos (by decide), e0]
  by_cases h : x = 0
  · rw [if_pos h, if_pos h, cmp_Or_int.l0, l2, w1, if_pos (by decide), if_pos (by decide), if_pos (by decide)]
    rw [e1]
    by_cases h' : y = 0
    · rw [if_pos h', cmp_Or_int.l0, w2, if_neg (by decide), h']
    · rw [if_neg h']
  · rw [if_neg h, if_neg h]
theorem cmp88 (a b : S27) : impl_Sched_first_2_at_88.f 3 a.f0 a.f1 a.f2 a.f3 a.f4 b.f0 b.f1 b.f2 b.f3 b.f4 = some (cmpT (fun t => t.f4) a b) := by
  simp only [impl_Sched_first_2_at_88.f, impl_Sched_pick_1.f, cmpI_f, cmpOr_f, Option.bind_some, cmpT]
theorem cmp90 (a b : S27) : impl_Sched_first_2_at_90.f 3 a.f0 a.f1 a.f2 a.f3 a.f4 b.f0 b.f1 b.f2 b.f3 b.f4 = some (cmpT (fun t => t.f3) a b) := by
  simp only [impl_Sched_first_2_at_90.f, impl_Sched_pick_3.f, cmpI_f, cmpOr_f, Option.bind_some, cmpT]
/-- The task whose layer comes next. -/
def pickV (now age turns : Int) (l : List S27) : Int :=
  if ((age > 0 ∧ Int.tmod turns age = 0) ∧ firstV (fun t => decide (t.f3 ≤ now)) (fun t => t.f4) l ≠ 0) ∨ firstV (fun t => !decide (t.f3 ≤ now)) (fun t => t.f3) l = 0 then firstV (fun t => decide (t.f3 ≤ now)) (fun t => t.f4) l else firstV (fun t => !decide (t.f3 ≤ now)) (fun t => t.f3) l
def impl_Sched_pick.f (a0_0 : Int) (a0_1 : Int) (a0_2 : Int) (l0_3 : List (S27)) (a0_4 : Int) (a0_5 : Int) (a0_6 : Int) (a0_7 : Int) : Option (Int) := if l0_3.length ≤ 1000000 then some (pickV a0_0 a0_2 a0_6 l0_3) else none
set_option maxHeartbeats 8000000 in
set_option maxRecDepth 100000 in
theorem impl_Sched_pick.calls (a0_0 : Int) (a0_1 : Int) (a0_2 : Int) (A0_3 : Option Addr) (c0_3 : Nat) (l0_3 : List (S27)) (a0_4 : Int) (a0_5 : Int) (a0_6 : Int) (a0_7 : Int) (r : Int) (w : World) (hr0_3 : Kd.C k27 w A0_3 l0_3.length l0_3) (hc0_3 : l0_3.length ≤ c0_3) (h : impl_Sched_pick.f a0_0 a0_1 a0_2 l0_3 a0_4 a0_5 a0_6 a0_7 = some r) :
    Calls Try.prog 73 #[.agg #[.int .i64 a0_0, .int .i64 a0_1, .int .i64 a0_2, .slice A0_3 l0_3.length c0_3, .int .i64 a0_4, .int .i64 a0_5, .int .i64 a0_6, .int .i64 a0_7]] w fun e w' => e = .returned (.int .i64 r) ∧ Below w.heap.size w w' := by
  have hm : l0_3.length ≤ 1000000 := by
    by_cases c : l0_3.length ≤ 1000000
    · exact c
    · unfold impl_Sched_pick.f at h
      rw [if_neg c] at h
      exact absurd h (by simp)
  have hv : pickV a0_0 a0_2 a0_6 l0_3 = r := by
    unfold impl_Sched_pick.f at h
    rw [if_pos hm] at h
    exact Option.some.inj h
  clear h
  have e70 : ∀ args w, (callFunc 70 args).run Try.prog w = .ok (.enter 70 args) w := enters_of Try.func70 (by kernel_rfl) rfl
  have e89 : ∀ args w, (callFunc 89 args).run Try.prog w = .ok (.enter 89 args) w := enters_of Try.func89 (by kernel_rfl) rfl
  have hlate : ∀ V, Below w.heap.size w V → Calls Try.prog 87 #[.agg #[.int .i64 a0_0, .int .i64 a0_1, .int .i64 a0_2, .slice A0_3 l0_3.length c0_3, .int .i64 a0_4, .int .i64 a0_5, .int .i64 a0_6, .int .i64 a0_7], .func (.func 70) #[.agg #[.int .i64 a0_0, .int .i64 a0_1, .int .i64 a0_2, .slice A0_3 l0_3.length c0_3, .int .i64 a0_4, .int .i64 a0_5, .int .i64 a0_6, .int .i64 a0_7]] #[], .func (.func 88) #[] #[]] V fun e w' => e = .returned (.int .i64 (firstV (fun t => decide (t.f3 ≤ a0_0)) (fun t => t.f4) l0_3)) ∧ Below V.heap.size V w' := by
    intro V hV
    refine first87 70 _ #[] (fun t => decide (t.f3 ≤ a0_0)) e70 88 (fun t => t.f4) _ _ _ A0_3 c0_3 l0_3 _ _ _ _ V (Kd.C_below hr0_3 hV) hc0_3 hm (fun W y A1 c1 hW hl1 hC1 => ?_) (fun W gc a b A1 A2 c1 c2 hcell l1 l2 C1 C2 => impl_Sched_first_2_at_88.calls 3 _ A1 c1 _ _ _ _ _ A2 c2 _ _ _ _ _ W C1 l1 C2 l2 gc hcell (cmp88 a b))
    exact impl_Sched_isLate.calls (Kd.C_below (Kd.C_below hr0_3 hV) hW) hc0_3 hC1 hl1 rfl
  have hearly : ∀ V g, Below w.heap.size w V → V.heap[g]? = some (.cells #[.int .i64 a0_0, .int .i64 a0_1, .int .i64 a0_2, .slice A0_3 l0_3.length c0_3, .int .i64 a0_4, .int .i64 a0_5, .int .i64 a0_6, .int .i64 a0_7] 38 (0, 0)) → Calls Try.prog 87 #[.agg #[.int .i64 a0_0, .int .i64 a0_1, .int .i64 a0_2, .slice A0_3 l0_3.length c0_3, .int .i64 a0_4, .int .i64 a0_5, .int .i64 a0_6, .int .i64 a0_7], .func (.func 89) #[] #[.pointer (some ⟨g, 0, none⟩)], .func (.func 90) #[] #[]] V fun e w' => e = .returned (.int .i64 (firstV (fun t => !decide (t.f3 ≤ a0_0)) (fun t => t.f3) l0_3)) ∧ Below V.heap.size V w' := by
    intro V g hV hbox
    refine first87 89 #[] _ (fun t => !decide (t.f3 ≤ a0_0)) e89 90 (fun t => t.f3) _ _ _ A0_3 c0_3 l0_3 _ _ _ _ V (Kd.C_below hr0_3 hV) hc0_3 hm (fun W y A1 c1 hW hl1 hC1 => ?_) (fun W gc a b A1 A2 c1 c2 hcell l1 l2 C1 C2 => impl_Sched_first_2_at_90.calls 3 _ A1 c1 _ _ _ _ _ A2 c2 _ _ _ _ _ W C1 l1 C2 l2 gc hcell (cmp90 a b))
    exact impl_Sched_pick_2.calls _ A1 c1 _ _ _ _ _ _ _ A0_3 c0_3 l0_3 _ _ _ _ _ W hC1 hl1 (Kd.C_below (Kd.C_below hr0_3 hV) hW) hc0_3 g ((hW.block g (blk_lt hbox)).trans hbox) rfl
  have HL := Aside0.mk hlate
  have HE := Aside0.mk hearly
  have HV := Aside0.mk hv
  clear hlate hearly hr0_3 hv e70 e89
  have hV := HV.out
  unfold pickV at hV
  generalize firstV (fun t => decide (t.f3 ≤ a0_0)) (fun t => t.f4) l0_3 = late at HL hV
  generalize firstV (fun t => !decide (t.f3 ≤ a0_0)) (fun t => t.f3) l0_3 = early at HE hV
  have HV2 := Aside0.mk hV
  clear HV hV
  have hu38 := Try.underlying38
  go_enter Try.func73, Try.ntmps73
  go_wp2_with (first
    | ((with_reducible refine gate_dst (N := 1) rfl ?_); refine bz_ 1 ?_; intro g hg w1 hbox hb; have BK1 := Aside0.mk hbox; have HB1 := Aside0.mk hb; clear hbox hb hg; have hcz1 := box8_ BK1.out)
    | (go_at_call 87; first | ((with_reducible refine (HL.out w1 HB1.out).mono ?_); rintro e w2 ⟨rfl, hb⟩; have BK2 := Aside0.mk (blk_below BK1.out hb); have HB2 := Aside0.mk (below_step HB1.out hb); clear hb hcz1; have hcz2 := box8_ BK2.out) | ((with_reducible refine (HE.out w2 g HB2.out BK2.out).mono ?_); rintro e w3 ⟨rfl, hb⟩; have BK3 := Aside0.mk (blk_below BK2.out hb); have HB3 := Aside0.mk (below_step HB2.out hb); clear hb hcz2; have hcz3 := box8_ BK3.out)))
  all_goals
    go_ret
    refine ⟨?_, HB3.out⟩
    have hV := HV2.out
    clear HV2 HL HE hcz3 hu38
    simp only [beq_iff_eq, beq_eq_false_iff_ne, ne_eq] at *
    generalize Int.tmod a0_6 a0_2 = md at *
    rw [← hV]
    split <;> first | rfl | (exfalso; omega) | (congr 2; omega) | (show Ending.returned (.int .i64 0) = Ending.returned (.int .i64 late); congr 2; omega)


/-! ### impl_PickNext: function 44 -/
def impl_PickNext.f (k : Nat) (a0_0 : Int) (a0_1 : Int) (a0_2 : Int) (l0_3 : List (S27)) (a0_4 : Int) (a0_5 : Int) (a0_6 : Int) (a0_7 : Int) : Option (Int) := (impl_SchedOk.f k a0_0 a0_1 a0_2 l0_3 a0_4 a0_5 a0_6 a0_7).bind fun t241 => (if t241 = true then ((impl_Sched_pick.f a0_0 a0_1 a0_2 l0_3 a0_4 a0_5 a0_6 a0_7).bind fun t242 => (some t242)) else (some 0))
set_option maxHeartbeats 8000000 in
set_option maxRecDepth 100000 in
theorem impl_PickNext.calls {k : Nat} {a0_0 : Int} {a0_1 : Int} {a0_2 : Int} {A0_3 : Option Addr} {c0_3 : Nat} {l0_3 : List (S27)} {a0_4 : Int} {a0_5 : Int} {a0_6 : Int} {a0_7 : Int} {r : Int} {w : World} (hr0_3 : Kd.C k27 w A0_3 l0_3.length l0_3) (hc0_3 : l0_3.length ≤ c0_3) (h : impl_PickNext.f k a0_0 a0_1 a0_2 l0_3 a0_4 a0_5 a0_6 a0_7 = some r) :
  Calls Try.prog 44 #[.agg #[.int .i64 a0_0, .int .i64 a0_1, .int .i64 a0_2, .slice A0_3 l0_3.length c0_3, .int .i64 a0_4, .int .i64 a0_5, .int .i64 a0_6, .int .i64 a0_7]] w fun e w' => e = .returned (.int .i64 r) ∧ Below w.heap.size w w' := by
 have hu38 := Try.underlying38; have HR0_3 := Aside0.mk hr0_3; have HC0_3 := Aside0.mk hc0_3; clear hr0_3 hc0_3; have HB := Aside0.mk (Below.refl w.heap.size w); have H : ((impl_SchedOk.f k a0_0 a0_1 a0_2 l0_3 a0_4 a0_5 a0_6 a0_7).bind fun t241 => (if t241 = true then ((impl_Sched_pick.f a0_0 a0_1 a0_2 l0_3 a0_4 a0_5 a0_6 a0_7).bind fun t242 => (some t242)) else (some 0))) = some r := h; clear h; obtain ⟨t241, A2, H⟩ := bo_ H; (try dsimp only at H)
 by_cases c3 : t241 = true
 ·
  subst c3; rw [if_pos rfl] at H; obtain ⟨t242, A4, H⟩ := bo_ H; (try dsimp only at H); obtain rfl := Option.some.inj H
  go_enter Try.func44, Try.ntmps44
  go_wp2_with (first | ((with_reducible refine gate_dst (N := 1) rfl ?_); refine bz_ 1 ?_; intro gb240 hg w5 hbox hb; obtain ⟨BK240, GW240, GE240, HB⟩ := nb_ hg hbox HB hb; clear hb hbox hg; have hcz6 := box8_ BK240.out) | ((with_reducible refine gc_ 22 ?_); refine gl_ (some 4) Try.func22 #[.agg #[.int .i64 a0_0, .int .i64 a0_1, .int .i64 a0_2, .slice A0_3 l0_3.length c0_3, .int .i64 a0_4, .int .i64 a0_5, .int .i64 a0_6, .int .i64 a0_7]] ?_; (with_reducible refine (impl_SchedOk.calls ?_ ?_ A2.out).mono ?_); exact cu_ HR0_3.out HB.out; exact HC0_3.out; rintro e w7 ⟨rfl, hb⟩; refine ⟨_, rfl, ?_⟩; replace BK240 := bb_ BK240 hb; replace HB := hb_ HB hb; (try clear hb); have hcz8 := box8_ BK240.out) | ((with_reducible refine gc_ 73 ?_); refine gl_ (some 7) Try.func73 #[.agg #[.int .i64 a0_0, .int .i64 a0_1, .int .i64 a0_2, .slice A0_3 l0_3.length c0_3, .int .i64 a0_4, .int .i64 a0_5, .int .i64 a0_6, .int .i64 a0_7]] ?_; (with_reducible refine (impl_Sched_pick.calls a0_0 a0_1 a0_2 _ _ l0_3 a0_4 a0_5 a0_6 a0_7 t242 _ ?_ ?_ A4.out).mono ?_); exact cu_ HR0_3.out HB.out; exact HC0_3.out; rintro e w9 ⟨rfl, hb⟩; refine ⟨_, rfl, ?_⟩; replace BK240 := bb_ BK240 hb; replace HB := hb_ HB hb; (try clear hb)))
  go_ret
  exact rt_ HB.out
 ·
  replace c3 := Bool.eq_false_iff.mpr c3; subst c3; have H1 : (some 0) = some r := by rw [if_neg (show ¬ (false = true) by decide)] at H; exact H
  clear H; have H := H1; clear H1; obtain rfl := Option.some.inj H
  go_enter Try.func44, Try.ntmps44
  go_wp2_with (first | ((with_reducible refine gate_dst (N := 1) rfl ?_); refine bz_ 1 ?_; intro gb240 hg w10 hbox hb; obtain ⟨BK240, GW240, GE240, HB⟩ := nb_ hg hbox HB hb; clear hb hbox hg; have hcz11 := box8_ BK240.out) | ((with_reducible refine gc_ 22 ?_); refine gl_ (some 4) Try.func22 #[.agg #[.int .i64 a0_0, .int .i64 a0_1, .int .i64 a0_2, .slice A0_3 l0_3.length c0_3, .int .i64 a0_4, .int .i64 a0_5, .int .i64 a0_6, .int .i64 a0_7]] ?_; (with_reducible refine (impl_SchedOk.calls ?_ ?_ A2.out).mono ?_); exact cu_ HR0_3.out HB.out; exact HC0_3.out; rintro e w12 ⟨rfl, hb⟩; refine ⟨_, rfl, ?_⟩; replace BK240 := bb_ BK240 hb; replace HB := hb_ HB hb; (try clear hb)))
  go_ret
  exact rt_ HB.out

/-! ### laws_FnExactPickNext: function 12 -/
def laws_FnExactPickNext.f (k : Nat) (a0_0 : Int) (a0_1 : Int) (a0_2 : Int) (l0_3 : List (S24)) (a0_4 : Int) (a0_5 : Int) (a0_6 : Int) (a0_7 : Int) : Option (Bool) := (laws_szSched.f k a0_0 a0_1 a0_2 l0_3 a0_4 a0_5 a0_6 a0_7 1048576).bind fun t244 => (if t244 < 0 then (some true) else ((laws_toSched.f k a0_0 a0_1 a0_2 l0_3 a0_4 a0_5 a0_6 a0_7).bind fun bt245 => ((spec_PickNext.f k bt245.1 bt245.2.1 bt245.2.2.1 bt245.2.2.2.1 bt245.2.2.2.2.1 bt245.2.2.2.2.2.1 bt245.2.2.2.2.2.2.1 bt245.2.2.2.2.2.2.2).bind fun t255 => ((laws_toSched.f k a0_0 a0_1 a0_2 l0_3 a0_4 a0_5 a0_6 a0_7).bind fun bt256 => ((impl_PickNext.f k bt256.1 bt256.2.1 bt256.2.2.1 bt256.2.2.2.1 bt256.2.2.2.2.1 bt256.2.2.2.2.2.1 bt256.2.2.2.2.2.2.1 bt256.2.2.2.2.2.2.2).bind fun t267 => (if t267 = t255 then ((laws_toSched.f k a0_0 a0_1 a0_2 l0_3 a0_4 a0_5 a0_6 a0_7).bind fun bt268 => ((laws_eqSched.f k bt256.1 bt256.2.1 bt256.2.2.1 bt256.2.2.2.1 bt256.2.2.2.2.1 bt256.2.2.2.2.2.1 bt256.2.2.2.2.2.2.1 bt256.2.2.2.2.2.2.2 bt268.1 bt268.2.1 bt268.2.2.1 bt268.2.2.2.1 bt268.2.2.2.2.1 bt268.2.2.2.2.2.1 bt268.2.2.2.2.2.2.1 bt268.2.2.2.2.2.2.2).bind fun t278 => (if t278 = true then (some true) else (some false)))) else (some false)))))))
set_option maxHeartbeats 8000000 in
set_option maxRecDepth 100000 in
theorem laws_FnExactPickNext.calls (k : Nat) (a0_0 : Int) (a0_1 : Int) (a0_2 : Int) (A0_3 : Option Addr) (c0_3 : Nat) (l0_3 : List (S24)) (a0_4 : Int) (a0_5 : Int) (a0_6 : Int) (a0_7 : Int) (r : Bool) (w : World) (hr_ : Aside0 (r = true)) (hr0_3 : Kd.C k24 w A0_3 l0_3.length l0_3) (hc0_3 : l0_3.length ≤ c0_3) (h : laws_FnExactPickNext.f k a0_0 a0_1 a0_2 l0_3 a0_4 a0_5 a0_6 a0_7 = some r) :
  Calls Try.prog 12 #[.agg #[.int .i64 a0_0, .int .i64 a0_1, .int .i64 a0_2, .slice A0_3 l0_3.length c0_3, .int .i64 a0_4, .int .i64 a0_5, .int .i64 a0_6, .int .i64 a0_7]] w fun e w' => e = .returned (.bool r) ∧ Below w.heap.size w w' := by
 have hu33 := Try.underlying33; have hu38 := Try.underlying38; have HR0_3 := Aside0.mk hr0_3; have HC0_3 := Aside0.mk hc0_3; clear hr0_3 hc0_3; have HB := Aside0.mk (Below.refl w.heap.size w); have H : ((laws_szSched.f k a0_0 a0_1 a0_2 l0_3 a0_4 a0_5 a0_6 a0_7 1048576).bind fun t244 => (if t244 < 0 then (some true) else ((laws_toSched.f k a0_0 a0_1 a0_2 l0_3 a0_4 a0_5 a0_6 a0_7).bind fun bt245 => ((spec_PickNext.f k bt245.1 bt245.2.1 bt245.2.2.1 bt245.2.2.2.1 bt245.2.2.2.2.1 bt245.2.2.2.2.2.1 bt245.2.2.2.2.2.2.1 bt245.2.2.2.2.2.2.2).bind fun t255 => ((laws_toSched.f k a0_0 a0_1 a0_2 l0_3 a0_4 a0_5 a0_6 a0_7).bind fun bt256 => ((impl_PickNext.f k bt256.1 bt256.2.1 bt256.2.2.1 bt256.2.2.2.1 bt256.2.2.2.2.1 bt256.2.2.2.2.2.1 bt256.2.2.2.2.2.2.1 bt256.2.2.2.2.2.2.2).bind fun t267 => (if t267 = t255 then ((laws_toSched.f k a0_0 a0_1 a0_2 l0_3 a0_4 a0_5 a0_6 a0_7).bind fun bt268 => ((laws_eqSched.f k bt256.1 bt256.2.1 bt256.2.2.1 bt256.2.2.2.1 bt256.2.2.2.2.1 bt256.2.2.2.2.2.1 bt256.2.2.2.2.2.2.1 bt256.2.2.2.2.2.2.2 bt268.1 bt268.2.1 bt268.2.2.1 bt268.2.2.2.1 bt268.2.2.2.2.1 bt268.2.2.2.2.2.1 bt268.2.2.2.2.2.2.1 bt268.2.2.2.2.2.2.2).bind fun t278 => (if t278 = true then (some true) else (some false)))) else (some false)))))))) = some r := h; clear h; obtain ⟨t244, A2, H⟩ := bo_ H; (try dsimp only at H)
 by_cases c3 : t244 < 0
 ·
  rw [if_pos c3] at H; have c3b0 : decide (t244 < 0) = true := decide_eq_true c3; clear c3; obtain rfl := Option.some.inj H
  go_enter Try.func12, Try.ntmps12
  go_wp2_with (first | ((with_reducible refine gate_dst (N := 1) rfl ?_); refine bz_ 1 ?_; intro gb243 hg w4 hbox hb; obtain ⟨BK243, GW243, GE243, HB⟩ := nb_ hg hbox HB hb; clear hb hbox hg; have hcz5 := box8_ BK243.out) | ((with_reducible refine gc_ 19 ?_); refine gl_ (some 9) Try.func19 #[.agg #[.int .i64 a0_0, .int .i64 a0_1, .int .i64 a0_2, .slice A0_3 l0_3.length c0_3, .int .i64 a0_4, .int .i64 a0_5, .int .i64 a0_6, .int .i64 a0_7], .int .i64 1048576] ?_; (with_reducible refine (laws_szSched.calls ?_ ?_ A2.out).mono ?_); exact cu_ HR0_3.out HB.out; exact HC0_3.out; rintro e w6 ⟨rfl, hb⟩; refine ⟨_, rfl, ?_⟩; replace BK243 := bb_ BK243 hb; replace HB := hb_ HB hb; (try clear hb)))
  go_ret
  exact rt_ HB.out
 ·
  rw [if_neg c3] at H; have c3b0 : decide (t244 < 0) = false := decide_eq_false c3; clear c3; obtain ⟨⟨t245, t246, t247, t248, t251, t252, t253, t254⟩, A7, H⟩ := bo_ H; (try dsimp only at H); obtain ⟨t255, A8, H⟩ := bo_ H; (try dsimp only at H); obtain ⟨⟨t256, t257, t258, t259, t262, t263, t264, t265⟩, A9, H⟩ := bo_ H; (try dsimp only at H); obtain ⟨t267, A10, H⟩ := bo_ H; (try dsimp only at H)
  by_cases c11 : t267 = t255
  ·
   rw [if_pos c11] at H; have c11b0 : (t267 == t255) = true := beq_iff_eq.mpr c11; have c11b1 : (t267 != t255) = false := bne_eq_false_iff_eq.mpr c11; clear c11; obtain ⟨⟨t268, t269, t270, t271, t274, t275, t276, t277⟩, A12, H⟩ := bo_ H; (try dsimp only at H); obtain ⟨t278, A13, H⟩ := bo_ H; (try dsimp only at H)
   by_cases c14 : t278 = true
   ·
    subst c14; rw [if_pos rfl] at H; obtain rfl := Option.some.inj H
    go_enter Try.func12, Try.ntmps12
    try go_wp2_with (first | ((with_reducible refine gate_dst (N := 1) rfl ?_); refine bz_ 1 ?_; intro gb243 hg w15 hbox hb; obtain ⟨BK243, GW243, GE243, HB⟩ := nb_ hg hbox HB hb; clear hb hbox hg; have hcz16 := box8_ BK243.out) | ((with_reducible refine gc_ 19 ?_); refine gl_ (some 9) Try.func19 #[.agg #[.int .i64 a0_0, .int .i64 a0_1, .int .i64 a0_2, .slice A0_3 l0_3.length c0_3, .int .i64 a0_4, .int .i64 a0_5, .int .i64 a0_6, .int .i64 a0_7], .int .i64 1048576] ?_; (with_reducible refine (laws_szSched.calls ?_ ?_ A2.out).mono ?_); exact cu_ HR0_3.out HB.out; exact HC0_3.out; rintro e w17 ⟨rfl, hb⟩; refine ⟨_, rfl, ?_⟩; replace BK243 := bb_ BK243 hb; replace HB := hb_ HB hb; (try clear hb); have hcz18 := box8_ BK243.out) | ((with_reducible refine gc_ 21 ?_); refine gl_ (some 13) Try.func21 #[.agg #[.int .i64 a0_0, .int .i64 a0_1, .int .i64 a0_2, .slice A0_3 l0_3.length c0_3, .int .i64 a0_4, .int .i64 a0_5, .int .i64 a0_6, .int .i64 a0_7]] ?_; (with_reducible refine (laws_toSched.calls ?_ ?_ A7.out).mono ?_); exact cu_ HR0_3.out HB.out; exact HC0_3.out; rintro e w19 ⟨v249, rfl, ho0, hb⟩; refine ⟨_, rfl, ?_⟩; have HO250 := Aside0.mk (Kd.S_lower ho0 (below_size (be_ HB.out))); replace BK243 := bb_ BK243 hb; replace HB := hb_ HB hb; (try clear hb ho0); obtain ⟨Ao20, co20, eo20⟩ := Kd.S_slice HO250.out; subst eo20) | ((with_reducible refine gc_ 43 ?_); refine gl_ (some 14) Try.func43 #[.agg #[.int .i64 t245, .int .i64 t246, .int .i64 t247, .slice Ao20 t248.length co20, .int .i64 t251, .int .i64 t252, .int .i64 t253, .int .i64 t254]] ?_; (with_reducible refine (spec_PickNext.calls ?side1 ?side2 A8.out).mono ?_); (case side1 => repeat (first | exact (Kd.S_reads' HO250.out).2.2 | (with_reducible refine Kd.C_alloc ?_ _) | (with_reducible refine Kd.C_drewN ?_ _) | (with_reducible refine Kd.C_drew ?_))); (case side2 => exact (Kd.S_reads' HO250.out).2.1); rintro e w21 ⟨rfl, hb⟩; refine ⟨_, rfl, ?_⟩; replace HO250 := Aside0.mk (Kd.S_below (by (with_reducible repeat (first | apply Kd.S_alloc | apply Kd.S_drewN | apply Kd.S_drew)); exact HO250.out) hb); replace BK243 := bb_ BK243 hb; replace HB := hb_ HB hb; (try clear hb); have hcz22 := box8_ BK243.out) | ((with_reducible refine gc_ 21 ?_); refine gl_ (some 16) Try.func21 #[.agg #[.int .i64 a0_0, .int .i64 a0_1, .int .i64 a0_2, .slice A0_3 l0_3.length c0_3, .int .i64 a0_4, .int .i64 a0_5, .int .i64 a0_6, .int .i64 a0_7]] ?_; (with_reducible refine (laws_toSched.calls ?_ ?_ A9.out).mono ?_); exact cu_ HR0_3.out HB.out; exact HC0_3.out; rintro e w23 ⟨v260, rfl, ho0, hb⟩; refine ⟨_, rfl, ?_⟩; have HO261 := Aside0.mk (Kd.S_lower (Kd.S_new' ho0 (Kd.S_lt (by (with_reducible repeat (first | apply Kd.S_alloc | apply Kd.S_drewN | apply Kd.S_drew)); exact HO250.out))) (below_size (be_ HB.out))); replace HO250 := Aside0.mk (Kd.S_elder' (by (with_reducible repeat (first | apply Kd.S_alloc | apply Kd.S_drewN | apply Kd.S_drew)); exact HO250.out) (Kd.S_base ho0) hb); replace BK243 := bb_ BK243 hb; replace HB := hb_ HB hb; (try clear hb ho0)) | ((with_reducible refine gate_dst (N := 5) rfl ?_); refine bz_ 5 ?_; intro gb266 hg w24 hbox hb; replace HO250 := Aside0.mk (Kd.S_below (by (with_reducible repeat (first | apply Kd.S_alloc | apply Kd.S_drewN | apply Kd.S_drew)); exact HO250.out) hb); replace HO261 := Aside0.mk (Kd.S_below (by (with_reducible repeat (first | apply Kd.S_alloc | apply Kd.S_drewN | apply Kd.S_drew)); exact HO261.out) hb); obtain ⟨BK266, GW266, GE266, HB⟩ := nb_ hg hbox HB hb; have NB243_266 := nx_ hg BK243; have NB266_243 := ny_ hg BK243; replace BK243 := bb_ BK243 hb; clear hb hbox hg; have hnb25 := NB266_243.out; have hnc25 := NB243_266.out; have hcz26 := box8_ BK266.out; obtain ⟨Ao27, co27, eo27⟩ := Kd.S_slice HO261.out; subst eo27) | ((with_reducible refine gc_ 44 ?_); refine gl_ (some 18) Try.func44 #[.agg #[.int .i64 t256, .int .i64 t257, .int .i64 t258, .slice Ao27 t259.length co27, .int .i64 t262, .int .i64 t263, .int .i64 t264, .int .i64 t265]] ?_; (with_reducible refine (impl_PickNext.calls ?side1 ?side2 A10.out).mono ?_); (case side1 => refine (Kd.S_reads' (e := 27) (base := w.heap.size) (ok := fun k_ => (True ∧ some k_ ≠ (.slice Ao20 t248.length co20 : Value).ownBlock)) (n := t259.length) (c := co27) ?_).2.2; exact (by (with_reducible repeat (first | apply Kd.S_alloc | apply Kd.S_drewN | apply Kd.S_drew)); exact (Kd.S_mono (Kd.S_far (p := ⟨gb266, 7, none⟩) (Kd.S_far (p := ⟨gb266, 6, none⟩) (Kd.S_far (p := ⟨gb266, 5, none⟩) (Kd.S_far (p := ⟨gb266, 4, none⟩) (Kd.S_far (p := ⟨gb266, 3, none⟩) (Kd.S_far (p := ⟨gb266, 2, none⟩) (Kd.S_far (p := ⟨gb266, 1, none⟩) (Kd.S_far (p := ⟨gb266, 0, none⟩) (Kd.S_types HO261.out BK266.out (by decide)) (fun _ hk => hk.2) (.int .i64 t256)) (fun _ hk => hk.2) (.int .i64 t257)) (fun _ hk => hk.2) (.int .i64 t258)) (fun _ hk => hk.2) (.slice Ao27 t259.length co27)) (fun _ hk => hk.2) (.int .i64 t262)) (fun _ hk => hk.2) (.int .i64 t263)) (fun _ hk => hk.2) (.int .i64 t264)) (fun _ hk => hk.2) (.int .i64 t265)) (fun _ h_ => h_.1)))); (case side2 => exact (Kd.S_reads' HO261.out).2.1); rintro e w28 ⟨rfl, hb⟩; refine ⟨_, rfl, ?_⟩; replace HO250 := Aside0.mk (Kd.S_below (by (with_reducible repeat (first | apply Kd.S_alloc | apply Kd.S_drewN | apply Kd.S_drew)); exact (Kd.S_mono (Kd.S_far (p := ⟨gb266, 7, none⟩) (Kd.S_far (p := ⟨gb266, 6, none⟩) (Kd.S_far (p := ⟨gb266, 5, none⟩) (Kd.S_far (p := ⟨gb266, 4, none⟩) (Kd.S_far (p := ⟨gb266, 3, none⟩) (Kd.S_far (p := ⟨gb266, 2, none⟩) (Kd.S_far (p := ⟨gb266, 1, none⟩) (Kd.S_far (p := ⟨gb266, 0, none⟩) (Kd.S_types HO250.out BK266.out (by decide)) (fun _ hk => hk.2) (.int .i64 t256)) (fun _ hk => hk.2) (.int .i64 t257)) (fun _ hk => hk.2) (.int .i64 t258)) (fun _ hk => hk.2) (.slice Ao27 t259.length co27)) (fun _ hk => hk.2) (.int .i64 t262)) (fun _ hk => hk.2) (.int .i64 t263)) (fun _ hk => hk.2) (.int .i64 t264)) (fun _ hk => hk.2) (.int .i64 t265)) (fun _ h_ => h_.1))) hb); replace HO261 := Aside0.mk (Kd.S_below (by (with_reducible repeat (first | apply Kd.S_alloc | apply Kd.S_drewN | apply Kd.S_drew)); exact (Kd.S_mono (Kd.S_far (p := ⟨gb266, 7, none⟩) (Kd.S_far (p := ⟨gb266, 6, none⟩) (Kd.S_far (p := ⟨gb266, 5, none⟩) (Kd.S_far (p := ⟨gb266, 4, none⟩) (Kd.S_far (p := ⟨gb266, 3, none⟩) (Kd.S_far (p := ⟨gb266, 2, none⟩) (Kd.S_far (p := ⟨gb266, 1, none⟩) (Kd.S_far (p := ⟨gb266, 0, none⟩) (Kd.S_types HO261.out BK266.out (by decide)) (fun _ hk => hk.2) (.int .i64 t256)) (fun _ hk => hk.2) (.int .i64 t257)) (fun _ hk => hk.2) (.int .i64 t258)) (fun _ hk => hk.2) (.slice Ao27 t259.length co27)) (fun _ hk => hk.2) (.int .i64 t262)) (fun _ hk => hk.2) (.int .i64 t263)) (fun _ hk => hk.2) (.int .i64 t264)) (fun _ hk => hk.2) (.int .i64 t265)) (fun _ h_ => h_.1))) hb); replace BK243 := bc_ BK243 hb; replace BK266 := bp_ (#[.int .i64 t256, .int .i64 t257, .int .i64 t258, .slice Ao27 t259.length co27, .int .i64 t262, .int .i64 t263, .int .i64 t264, .int .i64 t265]) BK266 hb; replace HB := hb_ HB hb; (try clear hb)))
    replace HO250 := Aside0.mk (Kd.S_drew HO250.out); replace HO261 := Aside0.mk (Kd.S_drew HO261.out); replace BK243 := Aside0.mk (blk_drew BK243.out); replace BK266 := Aside0.mk (blk_drew BK266.out); replace HB := Aside0.mk (below_drew1 HB.out); refine sta_ 5 (fun w' => CE_ w' gb266 0 (.int .i64 t256) ∧ CE_ w' gb266 1 (.int .i64 t257) ∧ CE_ w' gb266 2 (.int .i64 t258) ∧ CE_ w' gb266 3 (.slice Ao27 t259.length co27) ∧ CE_ w' gb266 4 (.int .i64 t262) ∧ CE_ w' gb266 5 (.int .i64 t263) ∧ CE_ w' gb266 6 (.int .i64 t264) ∧ CE_ w' gb266 7 (.int .i64 t265) ∧ CE_ w' gb243 0 (.int .i64 a0_0) ∧ CE_ w' gb243 1 (.int .i64 a0_1) ∧ CE_ w' gb243 2 (.int .i64 a0_2) ∧ CE_ w' gb243 3 (.slice A0_3 l0_3.length c0_3) ∧ CE_ w' gb243 4 (.int .i64 a0_4) ∧ CE_ w' gb243 5 (.int .i64 a0_5) ∧ CE_ w' gb243 6 (.int .i64 a0_6) ∧ CE_ w' gb243 7 (.int .i64 a0_7)) ⟨bk_ BK266 0, bk_ BK266 1, bk_ BK266 2, bk_ BK266 3, bk_ BK266 4, bk_ BK266 5, bk_ BK266 6, bk_ BK266 7, bk_ BK243 0, bk_ BK243 1, bk_ BK243 2, bk_ BK243 3, bk_ BK243 4, bk_ BK243 5, bk_ BK243 6, bk_ BK243 7⟩ (fun hHeld => ?_); generalize w28.drew = w29 at HO250 HO261 BK243 BK266 HB hHeld ⊢; refine take_ (i := 0) (N := some 22) (v := ?_) (a' := ?_) #[true, false, false, false, false] rfl rfl (by kernel_rfl) (fun _ _ _ h => h) (Or.inl ⟨by rfl, ?_⟩) hHeld ?_ ?_; rotate_left; (· rintro w' ⟨s0, s1, s2, s3, s4, s5, s6, s7, s8, s9, s10, s11, s12, s13, s14, s15⟩; go_simp; with_reducible rfl); rotate_left; (· simp only [Act.put, List.setIfInBounds_toArray, List.set_cons_zero, List.set_cons_succ, i64_w, i32_w]; rfl); refine take_ (i := 1) (N := some 23) (v := ?_) (a' := ?_) #[true, true, false, false, false] rfl rfl (by kernel_rfl) (fun _ _ _ h => h) (Or.inl ⟨by rfl, ?_⟩) hHeld ?_ ?_; rotate_left; (· rintro w' ⟨s0, s1, s2, s3, s4, s5, s6, s7, s8, s9, s10, s11, s12, s13, s14, s15⟩; go_simp; with_reducible rfl); rotate_left; (· simp only [Act.put, List.setIfInBounds_toArray, List.set_cons_zero, List.set_cons_succ, i64_w, i32_w]; rfl); refine one_ (i := 2) (N := some 24) #[true, true, true, false, false] rfl rfl (by kernel_rfl) (by decide) (fun K hK => ?_); refine ge_ Try.func21 #[.agg #[.int .i64 a0_0, .int .i64 a0_1, .int .i64 a0_2, .slice A0_3 l0_3.length c0_3, .int .i64 a0_4, .int .i64 a0_5, .int .i64 a0_6, .int .i64 a0_7]] ?_
    (with_reducible refine (laws_toSched.calls ?_ ?_ A12.out).mono ?_); exact cu_ HR0_3.out HB.out; exact HC0_3.out; rintro e w30 ⟨v272, rfl, ho0, hb⟩; refine ⟨_, rfl, ?_⟩; have HO273 := Aside0.mk (Kd.S_lower (Kd.S_new' (Kd.S_new' ho0 (Kd.S_lt (by (with_reducible repeat (first | apply Kd.S_alloc | apply Kd.S_drewN | apply Kd.S_drew)); exact HO250.out))) (Kd.S_lt (by (with_reducible repeat (first | apply Kd.S_alloc | apply Kd.S_drewN | apply Kd.S_drew)); exact HO261.out))) (below_size (be_ HB.out))); replace HO250 := Aside0.mk (Kd.S_elder' (by (with_reducible repeat (first | apply Kd.S_alloc | apply Kd.S_drewN | apply Kd.S_drew)); exact HO250.out) (Kd.S_base ho0) hb); replace HO261 := Aside0.mk (Kd.S_elder' (by (with_reducible repeat (first | apply Kd.S_alloc | apply Kd.S_drewN | apply Kd.S_drew)); exact HO261.out) (Kd.S_base ho0) hb); replace BK243 := bb_ BK243 hb; replace BK266 := bb_ BK266 hb; replace HB := hb_ HB hb; (try clear hb ho0); obtain ⟨Ao31, co31, eo31⟩ := Kd.S_slice HO273.out; (first | subst eo31 | (injection eo31 with f1_ f2_ f3_; have f4_ := f1_.symm; have f5_ := f3_.symm; clear f1_ f2_ f3_; subst f4_; subst f5_)); refine hK.out _ _ ⟨bk_ BK266 0, bk_ BK266 1, bk_ BK266 2, bk_ BK266 3, bk_ BK266 4, bk_ BK266 5, bk_ BK266 6, bk_ BK266 7, bk_ BK243 0, bk_ BK243 1, bk_ BK243 2, bk_ BK243 3, bk_ BK243 4, bk_ BK243 5, bk_ BK243 6, bk_ BK243 7⟩ (fun hHeld => ?_); clear hK K; refine nm_ 24 (h := ?_); refine one_ (i := 3) (N := some 25) #[true, true, true, true, false] rfl rfl (by kernel_rfl) (by decide) (fun K hK => ?_); refine ge_ Try.func23 #[.agg #[.int .i64 t256, .int .i64 t257, .int .i64 t258, .slice Ao27 t259.length co27, .int .i64 t262, .int .i64 t263, .int .i64 t264, .int .i64 t265], .agg #[.int .i64 t268, .int .i64 t269, .int .i64 t270, .slice Ao31 t271.length co31, .int .i64 t274, .int .i64 t275, .int .i64 t276, .int .i64 t277]] ?_
    (with_reducible refine (laws_eqSched.calls ?side1 ?side2 ?side3 ?side4 A13.out).mono ?_)
    (case side1 => repeat (first | exact (Kd.S_reads' HO261.out).2.2 | (with_reducible refine Kd.C_alloc ?_ _) | (with_reducible refine Kd.C_drewN ?_ _) | (with_reducible refine Kd.C_drew ?_))); (case side2 => exact (Kd.S_reads' HO261.out).2.1); (case side3 => repeat (first | exact (Kd.S_reads' HO273.out).2.2 | (with_reducible refine Kd.C_alloc ?_ _) | (with_reducible refine Kd.C_drewN ?_ _) | (with_reducible refine Kd.C_drew ?_))); (case side4 => exact (Kd.S_reads' HO273.out).2.1); rintro e w32 ⟨rfl, hb⟩; refine ⟨_, rfl, ?_⟩; replace HO250 := Aside0.mk (Kd.S_below (by (with_reducible repeat (first | apply Kd.S_alloc | apply Kd.S_drewN | apply Kd.S_drew)); exact HO250.out) hb); replace HO261 := Aside0.mk (Kd.S_below (by (with_reducible repeat (first | apply Kd.S_alloc | apply Kd.S_drewN | apply Kd.S_drew)); exact HO261.out) hb); replace HO273 := Aside0.mk (Kd.S_below (by (with_reducible repeat (first | apply Kd.S_alloc | apply Kd.S_drewN | apply Kd.S_drew)); exact HO273.out) hb); replace BK243 := bb_ BK243 hb; replace BK266 := bb_ BK266 hb; replace HB := hb_ HB hb; (try clear hb); refine hK.out _ _ ⟨bk_ BK266 0, bk_ BK266 1, bk_ BK266 2, bk_ BK266 3, bk_ BK266 4, bk_ BK266 5, bk_ BK266 6, bk_ BK266 7, bk_ BK243 0, bk_ BK243 1, bk_ BK243 2, bk_ BK243 3, bk_ BK243 4, bk_ BK243 5, bk_ BK243 6, bk_ BK243 7⟩ (fun hHeld => ?_); clear hK K; refine nm_ 25 (h := ?_); refine pure_ (i := 4) (N := some 26) (v := ?_) (a' := ?_) #[true, true, true, true, true] rfl rfl (by kernel_rfl) (fun _ _ _ h => h) (Or.inl ⟨by rfl, ?_⟩) ?_ ?_; rotate_left; (· intro w'; go_simp; with_reducible rfl); rotate_left; (· simp only [Act.put, List.setIfInBounds_toArray, List.set_cons_zero, List.set_cons_succ, i64_w, i32_w]; rfl); refine done_ (by kernel_rfl) ?_
    try go_wp2
    go_ret
    exact rt_ HB.out
   ·
    replace c14 := Bool.eq_false_iff.mpr c14; subst c14; have H1 : (some false) = some r := by rw [if_neg (show ¬ (false = true) by decide)] at H; exact H
    clear H; have H := H1; clear H1; exact absurd ((Option.some.inj H).trans hr_.out) (by decide)
  ·
   rw [if_neg c11] at H; have c11b0 : (t267 == t255) = false := beq_eq_false_iff_ne.mpr c11; have c11b1 : (t267 != t255) = true := bne_iff_ne.mpr c11; exact absurd ((Option.some.inj H).trans hr_.out) (by decide)

/-- THE ONE PURE STATEMENT of laws_FnExactPickNext. -/
def Wt24 (x : S24) : Prop := (WI .i64) x.f0 ∧ (WL (WI .i64)) x.f1 ∧ (WI .i64) x.f2 ∧ (WI .i64) x.f3 ∧ (WI .i64) x.f4
theorem opens24 (W : World) : Opens Try.prog W 24 k24 Wt24 := fun enc base spare held fuel cs x h => by
 obtain ⟨hl, n, hf⟩ := struct_parts Try.underlying24 h; have hl2 : cs.length = 5 := hl.trans (by kernel_rfl); obtain ⟨y0, q0⟩ := hf 0 _ rfl; have g0 : DataW.trod enc Try.prog W base spare held n 3 ((cs.drop 0).take (Try.prog.cellsOf 3)) = some y0 := q0; rw [show Try.prog.cellsOf 3 = 1 from by kernel_rfl] at g0; obtain ⟨v0, K0, w0⟩ := (opens_int Try.underlying3) enc base spare held n _ _ g0; obtain ⟨y1, q1⟩ := hf 1 _ rfl; have g1 : DataW.trod enc Try.prog W base spare held n 22 ((cs.drop 1).take (Try.prog.cellsOf 22)) = some y1 := q1; rw [show Try.prog.cellsOf 22 = 1 from by kernel_rfl] at g1; obtain ⟨v1, K1, w1⟩ := (opens_slice Try.underlying22 (by kernel_rfl) (opens_int Try.underlying3)) enc base spare held n _ _ g1; obtain ⟨y2, q2⟩ := hf 2 _ rfl; have g2 : DataW.trod enc Try.prog W base spare held n 3 ((cs.drop 2).take (Try.prog.cellsOf 3)) = some y2 := q2; rw [show Try.prog.cellsOf 3 = 1 from by kernel_rfl] at g2; obtain ⟨v2, K2, w2⟩ := (opens_int Try.underlying3) enc base spare held n _ _ g2; obtain ⟨y3, q3⟩ := hf 3 _ rfl; have g3 : DataW.trod enc Try.prog W base spare held n 3 ((cs.drop 3).take (Try.prog.cellsOf 3)) = some y3 := q3; rw [show Try.prog.cellsOf 3 = 1 from by kernel_rfl] at g3; obtain ⟨v3, K3, w3⟩ := (opens_int Try.underlying3) enc base spare held n _ _ g3; obtain ⟨y4, q4⟩ := hf 4 _ rfl; have g4 : DataW.trod enc Try.prog W base spare held n 3 ((cs.drop 4).take (Try.prog.cellsOf 3)) = some y4 := q4; rw [show Try.prog.cellsOf 3 = 1 from by kernel_rfl] at g4; obtain ⟨v4, K4, w4⟩ := (opens_int Try.underlying3) enc base spare held n _ _ g4; have e4 : (cs.drop 4).take 1 = cs.drop 4 := List.take_of_length_le (by rw [List.length_drop]; omega); have e3 : cs.drop 3 = (cs.drop 3).take 1 ++ cs.drop 4 := list_split cs 3 1; have e2 : cs.drop 2 = (cs.drop 2).take 1 ++ cs.drop 3 := list_split cs 2 1; have e1 : cs.drop 1 = (cs.drop 1).take 1 ++ cs.drop 2 := list_split cs 1 1; have e0 : cs.drop 0 = (cs.drop 0).take 1 ++ cs.drop 1 := list_split cs 0 1; rw [e4] at K4; refine ⟨⟨v0, v1, v2, v3, v4⟩, ?_, w0, w1, w2, w3, w4⟩; exact ⟨_, _, (List.drop_zero (l := cs)).symm.trans e0, K0, _, _, e1, K1, _, _, e2, K2, _, _, e3, K3, K4⟩
def Wt33 (x : S33) : Prop := (WI .i64) x.f0 ∧ (WI .i64) x.f1 ∧ (WI .i64) x.f2 ∧ (WL Wt24) x.f3 ∧ (WI .i64) x.f4 ∧ (WI .i64) x.f5 ∧ (WI .i64) x.f6 ∧ (WI .i64) x.f7
theorem opens33 (W : World) : Opens Try.prog W 33 k33 Wt33 := fun enc base spare held fuel cs x h => by
 obtain ⟨hl, n, hf⟩ := struct_parts Try.underlying33 h; have hl2 : cs.length = 8 := hl.trans (by kernel_rfl); obtain ⟨y0, q0⟩ := hf 0 _ rfl; have g0 : DataW.trod enc Try.prog W base spare held n 3 ((cs.drop 0).take (Try.prog.cellsOf 3)) = some y0 := q0; rw [show Try.prog.cellsOf 3 = 1 from by kernel_rfl] at g0; obtain ⟨v0, K0, w0⟩ := (opens_int Try.underlying3) enc base spare held n _ _ g0; obtain ⟨y1, q1⟩ := hf 1 _ rfl; have g1 : DataW.trod enc Try.prog W base spare held n 3 ((cs.drop 1).take (Try.prog.cellsOf 3)) = some y1 := q1; rw [show Try.prog.cellsOf 3 = 1 from by kernel_rfl] at g1; obtain ⟨v1, K1, w1⟩ := (opens_int Try.underlying3) enc base spare held n _ _ g1; obtain ⟨y2, q2⟩ := hf 2 _ rfl; have g2 : DataW.trod enc Try.prog W base spare held n 3 ((cs.drop 2).take (Try.prog.cellsOf 3)) = some y2 := q2; rw [show Try.prog.cellsOf 3 = 1 from by kernel_rfl] at g2; obtain ⟨v2, K2, w2⟩ := (opens_int Try.underlying3) enc base spare held n _ _ g2; obtain ⟨y3, q3⟩ := hf 3 _ rfl; have g3 : DataW.trod enc Try.prog W base spare held n 31 ((cs.drop 3).take (Try.prog.cellsOf 31)) = some y3 := q3; rw [show Try.prog.cellsOf 31 = 1 from by kernel_rfl] at g3; obtain ⟨v3, K3, w3⟩ := (opens_slice Try.underlying31 (by kernel_rfl) (opens24 W)) enc base spare held n _ _ g3; obtain ⟨y4, q4⟩ := hf 4 _ rfl; have g4 : DataW.trod enc Try.prog W base spare held n 3 ((cs.drop 4).take (Try.prog.cellsOf 3)) = some y4 := q4; rw [show Try.prog.cellsOf 3 = 1 from by kernel_rfl] at g4; obtain ⟨v4, K4, w4⟩ := (opens_int Try.underlying3) enc base spare held n _ _ g4; obtain ⟨y5, q5⟩ := hf 5 _ rfl; have g5 : DataW.trod enc Try.prog W base spare held n 3 ((cs.drop 5).take (Try.prog.cellsOf 3)) = some y5 := q5; rw [show Try.prog.cellsOf 3 = 1 from by kernel_rfl] at g5; obtain ⟨v5, K5, w5⟩ := (opens_int Try.underlying3) enc base spare held n _ _ g5; obtain ⟨y6, q6⟩ := hf 6 _ rfl; have g6 : DataW.trod enc Try.prog W base spare held n 3 ((cs.drop 6).take (Try.prog.cellsOf 3)) = some y6 := q6; rw [show Try.prog.cellsOf 3 = 1 from by kernel_rfl] at g6; obtain ⟨v6, K6, w6⟩ := (opens_int Try.underlying3) enc base spare held n _ _ g6; obtain ⟨y7, q7⟩ := hf 7 _ rfl; have g7 : DataW.trod enc Try.prog W base spare held n 3 ((cs.drop 7).take (Try.prog.cellsOf 3)) = some y7 := q7; rw [show Try.prog.cellsOf 3 = 1 from by kernel_rfl] at g7; obtain ⟨v7, K7, w7⟩ := (opens_int Try.underlying3) enc base spare held n _ _ g7; have e7 : (cs.drop 7).take 1 = cs.drop 7 := List.take_of_length_le (by rw [List.length_drop]; omega); have e6 : cs.drop 6 = (cs.drop 6).take 1 ++ cs.drop 7 := list_split cs 6 1; have e5 : cs.drop 5 = (cs.drop 5).take 1 ++ cs.drop 6 := list_split cs 5 1; have e4 : cs.drop 4 = (cs.drop 4).take 1 ++ cs.drop 5 := list_split cs 4 1; have e3 : cs.drop 3 = (cs.drop 3).take 1 ++ cs.drop 4 := list_split cs 3 1; have e2 : cs.drop 2 = (cs.drop 2).take 1 ++ cs.drop 3 := list_split cs 2 1; have e1 : cs.drop 1 = (cs.drop 1).take 1 ++ cs.drop 2 := list_split cs 1 1; have e0 : cs.drop 0 = (cs.drop 0).take 1 ++ cs.drop 1 := list_split cs 0 1; rw [e7] at K7; refine ⟨⟨v0, v1, v2, v3, v4, v5, v6, v7⟩, ?_, w0, w1, w2, w3, w4, w5, w6, w7⟩; exact ⟨_, _, (List.drop_zero (l := cs)).symm.trans e0, K0, _, _, e1, K1, _, _, e2, K2, _, _, e3, K3, _, _, e4, K4, _, _, e5, K5, _, _, e6, K6, K7⟩
def laws_FnExactPickNext.Pure : Prop := ∀ (a0_0 : Int) (a0_1 : Int) (a0_2 : Int) (l0_3 : List (S24)) (a0_4 : Int) (a0_5 : Int) (a0_6 : Int) (a0_7 : Int), (WI .i64) a0_0 → (WI .i64) a0_1 → (WI .i64) a0_2 → (WL Wt24) l0_3 → (WI .i64) a0_4 → (WI .i64) a0_5 → (WI .i64) a0_6 → (WI .i64) a0_7 → ∃ k, laws_FnExactPickNext.f k a0_0 a0_1 a0_2 l0_3 a0_4 a0_5 a0_6 a0_7 = some true
theorem laws_FnExactPickNext.walk : True := trivial

end Go.Proofs.Ytljboinndpnefaa.QFnExactPickNext
