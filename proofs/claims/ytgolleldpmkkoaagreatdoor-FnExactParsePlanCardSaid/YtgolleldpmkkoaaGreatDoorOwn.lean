/- Words of this session's own for the printed functions: a call through a function value that is known by sight; reading an argument out of its datum, kind by kind. No condition. -/
import Derived.Test.YtgolleldpmkkoaaGreatDoorWWords
import Derived.Test.YtgolleldpmkkoaaGreatDoorWLast
import Derived.Test.YtgolleldpmkkoaaGreatDoorWMore
import Derived.Test.YtgolleldpmkkoaaGreatDoorWTab
import Derived.ChangeArms
import Derived.Shelf.Abstract
import Derived.DataReads
import Derived.DataElems
import Derived.WideShapes
set_option linter.unusedVariables false
set_option linter.unusedSimpArgs false
namespace Go.Proofs.YtgolleldpmkkoaaGreatDoorW.PrintLast
open Go.RowKit Go.Proofs.YtgolleldpmkkoaaGreatDoorW.PrintWords
section
variable {P : Program} {ops : Array Oper} {Q : Exit → Act → World → Prop}
theorem goesV_ {rest : List Oper} {oi : Oper} {a : Act} {w : World} (t : Tmp) (N : Option Tmp) (hd : oi.dst = N) (hg : oi.guard = none) {f : FuncId} {fn : Func} {lb : Array Value} {as_ : Array Operand} {ts : Array TypeId} (hf : P.funcs[f]? = some fn) (hname : (fn.name == "runtime.NumGoroutine") = false) (hb : fn.body.isSome = true) (args : Array Value)
    (hop : oi.op = .call { callee := .value (.tmp t), args := as_, argTypes := ts }) (hv : a.eval (.tmp t) = .func (.func f) #[] lb) (hargs : as_.map a.eval ++ lb = args)
    (h : Calls P f args w fun e w' => ∃ v, e = .returned v ∧ wpList P ops Q rest (a.put N v) w') : wpList P ops Q (oi :: rest) a w := by
  refine wpList_plain hg fun K hK => ?_
  have he := enters_ hf hname hb args w
  have hrun : (execOp a.eval oi).run P w = .ok (.enter f args) w := by
    unfold execOp
    simp [hop, resolve, Deferred.ofValue, invoke, hv, hargs, he]
  unfold Oper.wp
  rw [hrun, Oper.upon_enter]
  refine h.mono fun e w'' hh => ?_
  obtain ⟨v, rfl, hk⟩ := hh
  subst hd
  exact hK _ _ hk
end

def WI (k : IntKind) (x : Int) : Prop := (Lit.int k x).wf = true
def WB (_ : Bool) : Prop := True
def WS (s : ByteArray) : Prop := s.size ≤ maxLen
def WL {α : Type} (W : α → Prop) (l : List α) : Prop := l.length ≤ maxLen ∧ ∀ x ∈ l, W x
theorem WI.i64 {x : Int} (h : WI .i64 x) : -9223372036854775808 ≤ x ∧ x ≤ 9223372036854775807 := by
  simp only [WI, Lit.wf, Bool.and_eq_true, decide_eq_true_eq] at h
  exact h
theorem WI.u8 {x : Int} (h : WI .u8 x) : 0 ≤ x ∧ x ≤ 255 := by
  simp only [WI, Lit.wf, Bool.and_eq_true, decide_eq_true_eq] at h
  exact h
def Opens {α : Type} (P : Program) (W : World) (t : TypeId) (d : Kd α) (wf : α → Prop) : Prop :=
  ∀ {H : Type} (enc : TypeId × Value → H) (base : Nat) (spare : Nat → Bool) (held : Bool) (fuel : Nat) (cs : List Value) (x : DataW H × List MemPlace),
    DataW.trod enc P W base spare held fuel t cs = some x → ∃ v : α, d.K W v cs ∧ wf v
section
variable {P : Program} {W : World}
end
def place {α : Type} (p : α → Bool) : List α → Nat → Int
  | [], _ => -1
  | y :: r, i => if p y = true then (i : Int) else place p r (i + 1)
def MShape (w W : World) : Prop := ∀ (k : Nat) (c : Array Value) (q : TypeId), w.heap[k]? = some (.cells c q (0, 0)) → ∃ c', W.heap[k]? = some (.cells c' q (0, 0)) ∧ c'.size = c.size
theorem MShape.refl (w : World) : MShape w w := fun _ c _ h => ⟨c, h, rfl⟩
theorem MShape.trans {a b c : World} (h : MShape a b) (k : MShape b c) : MShape a c := fun i x q hx => by
  obtain ⟨y, hy, e⟩ := h i x q hx
  obtain ⟨z, hz, e2⟩ := k i y q hy
  exact ⟨z, hz, e2.trans e⟩
theorem MShape.setCell {w W : World} (h : MShape w W) (g o : Nat) (u : Value) : MShape w (W.setCell ⟨g, o, none⟩ u) := fun i x q hx => by
  obtain ⟨y, hy, e⟩ := h i x q hx
  by_cases c : i = g
  · subst c
    exact ⟨_, blk_set hy o u, by simpa using e⟩
  · exact ⟨y, blk_far hy (p := ⟨g, o, none⟩) c u, e⟩
theorem MShape.at_ {w W : World} (h : MShape w W) {g o : Nat} {c : Array Value} {q : TypeId} (hh : w.heap[g]? = some (.cells c q (0, 0))) (ho : o < c.size) : ∃ x, W.cell? ⟨g, o, none⟩ = some x ∧ W.frozen? ⟨g, o, none⟩ = false := by
  obtain ⟨c', h', e⟩ := h g c q hh
  exact ⟨c'[o]'(by omega), by rw [blk_cell h', Array.getElem?_eq_getElem (by omega)], blk_frozen h' o⟩
theorem cell_set_ne {W : World} {g o p : Nat} (h : o ≠ p) (u : Value) : (W.setCell ⟨g, o, none⟩ u).cell? ⟨g, p, none⟩ = W.cell? ⟨g, p, none⟩ := by
  rcases hh : W.heap[g]? with _ | x
  · simp [World.cell?, World.setCell, Array.getElem?_modify, hh]
  · cases x <;> simp [World.cell?, World.setCell, Array.getElem?_modify, hh, Array.getElem?_setIfInBounds, h]
structure MInv (w0 w : World) (g : Nat) (P F : Nat → Prop) (W : World) : Prop where
  B : Below w0.heap.size w0 W
  S : MShape w W
  K : Kept w W P
  same : ∀ o, F o → W.cell? ⟨g, o, none⟩ = w.cell? ⟨g, o, none⟩
section
variable {w0 w W W2 : World} {g : Nat} {P F S : Nat → Prop}
theorem MInv.refl (hB : Below w0.heap.size w0 w) : MInv w0 w g P F w := ⟨hB, MShape.refl w, Kept.refl w P, fun _ _ => rfl⟩
theorem MInv.set (h : MInv w0 w g P F W) (hg : P g) (hb : w0.heap.size ≤ g) (o : Nat) (ho : ¬ F o) (u : Value) : MInv w0 w g P F (W.setCell ⟨g, o, none⟩ u) :=
  ⟨below_set h.B hb, h.S.setCell g o u, h.K.setCell (.inl hg) u, fun p hp => (cell_set_ne (fun e => ho (by rw [e]; exact hp)) u).trans (h.same p hp)⟩
theorem MInv.call (h : MInv w0 w g P F W) (hg : g < W.heap.size) (hB : Below w0.heap.size w0 W2) (hS : MShape W W2) (hK : Kept W W2 S) (hs : ∀ k, S k → P k ∧ k ≠ g) : MInv w0 w g P F W2 :=
  ⟨hB, h.S.trans hS, h.K.then_ hK (fun k hk => .inl (hs k hk).1), fun o ho => (World.cell?_of_block (hK.2 g hg (fun hk => (hs g hk).2 rfl))).trans (h.same o ho)⟩
end
def mkI : Nat → Int → Int
  | 0, a => a
  | n + 1, a => mkI n (wrap64 (a + 1))
def Leads (w0 w : World) (S : Nat → Prop) (e : TypeId) (v : Value) (n : Nat) : Prop := ∃ A c, v = .slice A n c ∧ n ≤ 9223372036854775807 ∧ (n = 0 ∨ ∃ g cells, A = some ⟨g, 0, none⟩ ∧ S g ∧ w0.heap.size ≤ g ∧ w.heap[g]? = some (.cells cells e (0, 0)) ∧ n ≤ cells.size)
theorem Leads.later {e : TypeId} {w0 w W : World} {S : Nat → Prop} {v : Value} {n : Nat} (h : Leads w0 w S e v n) (hS : MShape w W) : Leads w0 W S e v n := by
  obtain ⟨A, c, rfl, hn, h⟩ := h
  refine ⟨A, c, rfl, hn, ?_⟩
  rcases h with h | ⟨g, cells, rfl, hs, hg, hh, hl⟩
  · exact .inl h
  · obtain ⟨c', h', e'⟩ := hS _ _ _ hh
    exact .inr ⟨g, c', rfl, hs, hg, h', by omega⟩
def bl_ (n m : Nat) : Array Bool := ((List.range n).map (fun i => m.testBit i)).toArray
theorem box3_ {w : World} {g : Nat} {t : TypeId} {v0 v1 v2 : Value} (h : w.heap[g]? = some (.cells #[v0, v1, v2] t (0, 0))) : w.cell? ⟨g, 0, none⟩ = some v0 ∧ w.cell? ⟨g, 1, none⟩ = some v1 ∧ w.cell? ⟨g, 2, none⟩ = some v2 ∧ w.frozen? ⟨g, 0, none⟩ = false ∧ w.frozen? ⟨g, 1, none⟩ = false ∧ w.frozen? ⟨g, 2, none⟩ = false := ⟨(blk_cell h 0).trans rfl, (blk_cell h 1).trans rfl, (blk_cell h 2).trans rfl, blk_frozen h 0, blk_frozen h 1, blk_frozen h 2⟩
theorem cel4_ {w : World} {g : Nat} {t : TypeId} {v0 v1 v2 v3 : Value} (h : w.heap[g]? = some (.cells #[v0, v1, v2, v3] t (0, 0))) : w.cell? ⟨g, 0, none⟩ = some v0 ∧ w.cell? ⟨g, 1, none⟩ = some v1 ∧ w.cell? ⟨g, 2, none⟩ = some v2 ∧ w.cell? ⟨g, 3, none⟩ = some v3 := ⟨(blk_cell h 0).trans rfl, (blk_cell h 1).trans rfl, (blk_cell h 2).trans rfl, (blk_cell h 3).trans rfl⟩
theorem box4_ {w : World} {g : Nat} {t : TypeId} {v0 v1 v2 v3 : Value} (h : w.heap[g]? = some (.cells #[v0, v1, v2, v3] t (0, 0))) : w.cell? ⟨g, 0, none⟩ = some v0 ∧ w.cell? ⟨g, 1, none⟩ = some v1 ∧ w.cell? ⟨g, 2, none⟩ = some v2 ∧ w.cell? ⟨g, 3, none⟩ = some v3 ∧ w.frozen? ⟨g, 0, none⟩ = false ∧ w.frozen? ⟨g, 1, none⟩ = false ∧ w.frozen? ⟨g, 2, none⟩ = false ∧ w.frozen? ⟨g, 3, none⟩ = false := ⟨(blk_cell h 0).trans rfl, (blk_cell h 1).trans rfl, (blk_cell h 2).trans rfl, (blk_cell h 3).trans rfl, blk_frozen h 0, blk_frozen h 1, blk_frozen h 2, blk_frozen h 3⟩
theorem box9_ {w : World} {g : Nat} {t : TypeId} {v0 v1 v2 v3 v4 v5 v6 v7 v8 : Value} (h : w.heap[g]? = some (.cells #[v0, v1, v2, v3, v4, v5, v6, v7, v8] t (0, 0))) : w.cell? ⟨g, 0, none⟩ = some v0 ∧ w.cell? ⟨g, 1, none⟩ = some v1 ∧ w.cell? ⟨g, 2, none⟩ = some v2 ∧ w.cell? ⟨g, 3, none⟩ = some v3 ∧ w.cell? ⟨g, 4, none⟩ = some v4 ∧ w.cell? ⟨g, 5, none⟩ = some v5 ∧ w.cell? ⟨g, 6, none⟩ = some v6 ∧ w.cell? ⟨g, 7, none⟩ = some v7 ∧ w.cell? ⟨g, 8, none⟩ = some v8 ∧ w.frozen? ⟨g, 0, none⟩ = false ∧ w.frozen? ⟨g, 1, none⟩ = false ∧ w.frozen? ⟨g, 2, none⟩ = false ∧ w.frozen? ⟨g, 3, none⟩ = false ∧ w.frozen? ⟨g, 4, none⟩ = false ∧ w.frozen? ⟨g, 5, none⟩ = false ∧ w.frozen? ⟨g, 6, none⟩ = false ∧ w.frozen? ⟨g, 7, none⟩ = false ∧ w.frozen? ⟨g, 8, none⟩ = false := ⟨(blk_cell h 0).trans rfl, (blk_cell h 1).trans rfl, (blk_cell h 2).trans rfl, (blk_cell h 3).trans rfl, (blk_cell h 4).trans rfl, (blk_cell h 5).trans rfl, (blk_cell h 6).trans rfl, (blk_cell h 7).trans rfl, (blk_cell h 8).trans rfl, blk_frozen h 0, blk_frozen h 1, blk_frozen h 2, blk_frozen h 3, blk_frozen h 4, blk_frozen h 5, blk_frozen h 6, blk_frozen h 7, blk_frozen h 8⟩
theorem bu_ {w W : World} {g : Nat} {o : Obj} (h0 : w.heap[g]? = some o) (h : w.heap[g]? = some o → W.heap[g]? = some o := by intro h; (with_reducible repeat (first | refine blk_drewN ?_ _ | refine blk_drew ?_ | refine blk_alloc ?_ _)); exact h) : W.heap[g]? = some o := h h0
theorem be_ {w W V : World} (h0 : Below w.heap.size w W) (h : Below w.heap.size w W → Below w.heap.size w V := by intro h; repeat (first | (with_reducible first | exact h | apply below_alloc | apply pw_below_drewN | apply below_drew1 | refine below_set ?_ (by apply Aside0.out; with_reducible assumption)) | exact h)) : Below w.heap.size w V := h h0
theorem cu_ {α : Type} {d : Kd α} {w W V : World} {A : Option Addr} {n : Nat} {xs : List α} (h0 : d.C w A n xs) (hb : Below w.heap.size w W) (h : d.C W A n xs → d.C V A n xs := by intro h; repeat (first | exact h | (with_reducible refine Kd.C_alloc ?_ _) | (with_reducible refine Kd.C_drewN ?_ _) | (with_reducible refine Kd.C_drew ?_))) : d.C V A n xs := h (Kd.C_below h0 hb)
theorem ar_ {a b : Array Value} (h : a = b := by (try simp only [List.map_toArray, List.map_cons, List.map_nil]); first | done | rfl | (simp only [List.length_drop, List.length_take]; rfl)) : a = b := h
theorem cfn_ {W : World} {g b i j : Nat} {u : Value} {v : Option Value} (h : b ≠ g) (h0 : W.cell? ⟨b, i, none⟩ = v) : (W.setCell ⟨g, j, none⟩ u).cell? ⟨b, i, none⟩ = v := (cell_far (p := ⟨g, j, none⟩) h u).trans h0
theorem nl_ {W : World} {g b : Nat} {o : Obj} (hg : b = W.heap.size) (h : W.heap[g]? = some o) : g ≠ b := by rw [hg]; exact Nat.ne_of_lt (blk_lt h)
theorem ng_ {W : World} {g b : Nat} {o : Obj} (hg : b = W.heap.size) (h : W.heap[g]? = some o) : b ≠ g := by rw [hg]; exact Nat.ne_of_gt (blk_lt h)
theorem nw_ {w : World} {p : Addr} {u : Value} {b g : Nat} (hc : w.cell? p = some u) (hg : w.heap.size ≤ g) (e : p.block = b := by first | rfl | (simp only [add_block]; done) | (simp [add_block])) : b ≠ g := by
  rw [← e]
  exact Nat.ne_of_lt (Nat.lt_of_lt_of_le (World.block_lt_of_cell? _ _ hc) hg)
theorem cfa_ {W : World} {a : Addr} {g j : Nat} {u : Value} {v : Option Value} (h : a.block ≠ g) (h0 : W.cell? a = v) : (W.setCell ⟨g, j, none⟩ u).cell? a = v := (cell_far (p := ⟨g, j, none⟩) h u).trans h0
theorem cw_ {w W V : World} {p : Addr} {v : Value} (hb : Below w.heap.size w W) (h : w.cell? p = some v) (e : V.cell? p = W.cell? p := by rfl) : V.cell? p = some v := e.trans ((hb.cell (World.block_lt_of_cell? w _ h)).trans h)
theorem bf_ {w W : World} {g : Nat} {t : TypeId} {cs : Array Value} (h0 : w.heap[g]? = some (.cells cs t (0, 0))) (h : w.heap[g]? = some (.cells cs t (0, 0)) → W.heap[g]? = some (.cells cs t (0, 0)) := by intro h; (with_reducible repeat (first | exact h | refine blk_drewN ?_ _ | refine blk_drew ?_ | refine blk_alloc ?_ _ | refine blk_far ?_ (by apply Aside0.out; with_reducible assumption) _))) : W.heap[g]? = some (.cells cs t (0, 0)) := h h0
theorem nm_ {P : Program} {ops : Array Oper} {Q : Exit → Act → World → Prop} {md : Region.Mode} {S : World → Prop} {ds : List Nat} {fuel : Nat} {l : Array Bool} {a0 a a' : Act} (N : Tmp) {v : Value} {w : World} (he : a0 = a.put (some N) v := by rfl)
    (ha : a.put (some N) v = a' := by simp only [Act.put, List.setIfInBounds_toArray, List.set_cons_zero, List.set_cons_succ, i64_w, i32_w]; rfl) (h : wpAnyLast P md ops Q S ds fuel l a' w) : wpAnyLast P md ops Q S ds fuel l a0 w := norm_ (he.trans ha) h
def TB_ (w : World) (g : Nat) (t : TypeId) : Prop := ∃ cs, w.heap[g]? = some (.cells cs t (0, 0))
theorem TB_.of {w : World} {g : Nat} {t : TypeId} {cs : Array Value} (h : Aside0 (w.heap[g]? = some (.cells cs t (0, 0)))) : TB_ w g t := ⟨cs, h.out⟩
theorem TB_.alloc {w : World} {g : Nat} {t : TypeId} (h : TB_ w g t) (o : Obj) : TB_ (w.alloc o) g t := h.elim fun cs h => ⟨cs, blk_alloc h o⟩
theorem TB_.drewN {w : World} {g : Nat} {t : TypeId} (h : TB_ w g t) (n : Nat) : TB_ (w.drewN n) g t := h.elim fun cs h => ⟨cs, blk_drewN h n⟩
theorem TB_.drew {w : World} {g : Nat} {t : TypeId} (h : TB_ w g t) : TB_ w.drew g t := h.elim fun cs h => ⟨cs, blk_drew h⟩
theorem TB_.set {w : World} {g : Nat} {t : TypeId} (h : TB_ w g t) (a : Addr) (u : Value) : TB_ (w.setCell a u) g t := by
  obtain ⟨cs, h⟩ := h
  by_cases e : g = a.block
  · obtain ⟨b, i, c⟩ := a
    obtain rfl : g = b := e
    cases c with
    | none => exact ⟨_, blk_set h i u⟩
    | some c => exact ⟨cs, by simp [World.setCell, Array.getElem?_modify, h]⟩
  · exact ⟨cs, blk_far h e u⟩
theorem rfar_ {α : Type} {d : Kd α} {e : TypeId} {w : World} {base : Nat} {ok : Nat → Prop} {v : Value} {xs : List α} (h : d.R e w base ok v xs) {g i : Nat} {u : Value} {t : TypeId} (hb : TB_ w g t) (ht : ∀ q, q ∈ e :: d.E → q ≠ t) : d.R e (w.setCell ⟨g, i, none⟩ u) base ok v xs := by
  obtain ⟨cs, hb⟩ := hb
  exact Kd.R_mono (Kd.R_far (p := ⟨g, i, none⟩) (Kd.R_types h hb ht) (fun _ hk => hk.2) u) (fun _ hk => hk.1)
theorem ra_ {α : Type} {d : Kd α} {e : TypeId} {w W : World} {base : Nat} {ok : Nat → Prop} {v : Value} {xs : List α} (h0 : d.R e w base ok v xs) (h : d.R e w base ok v xs → d.R e W base ok v xs := by intro h; (with_reducible repeat (first | apply Kd.R_alloc | apply Kd.R_drewN | apply Kd.R_drew)); exact h) : d.R e W base ok v xs := h h0
theorem rf_ {α : Type} {d : Kd α} {e : TypeId} {w W : World} {base : Nat} {ok : Nat → Prop} {v : Value} {xs : List α} (h0 : d.R e w base ok v xs) (h : d.R e w base ok v xs → d.R e W base ok v xs := by intro h; repeat (first | (with_reducible exact h) | (with_reducible apply Kd.R_alloc) | (with_reducible apply Kd.R_drewN) | (with_reducible apply Kd.R_drew) | with_reducible refine rfar_ ?_ (by (repeat (first | (apply TB_.of; with_reducible assumption) | (with_reducible apply TB_.set) | (with_reducible apply TB_.alloc) | (with_reducible apply TB_.drewN) | (with_reducible apply TB_.drew)))) (by decide))) : d.R e W base ok v xs := h h0
theorem rb_ {α : Type} {d : Kd α} {e : TypeId} {w W w1 : World} {base : Nat} {ok : Nat → Prop} {v : Value} {xs : List α} (h0 : Aside0 (d.R e w base ok v xs)) (hb : Below W.heap.size W w1) (h : d.R e w base ok v xs → d.R e W base ok v xs := by intro h; (with_reducible repeat (first | apply Kd.R_alloc | apply Kd.R_drewN | apply Kd.R_drew)); exact h) : Aside0 (d.R e w1 base ok v xs) := ⟨Kd.R_below (h h0.out) hb⟩
theorem rg_ {α : Type} {d : Kd α} {e : TypeId} {w W w1 : World} {base : Nat} {ok : Nat → Prop} {v : Value} {xs : List α} (h0 : Aside0 (d.R e w base ok v xs)) (hb : Below W.heap.size W w1) (h : d.R e w base ok v xs → d.R e W base ok v xs := by intro h; repeat (first | (with_reducible exact h) | (with_reducible apply Kd.R_alloc) | (with_reducible apply Kd.R_drewN) | (with_reducible apply Kd.R_drew) | with_reducible refine rfar_ ?_ (by (repeat (first | (apply TB_.of; with_reducible assumption) | (with_reducible apply TB_.set) | (with_reducible apply TB_.alloc) | (with_reducible apply TB_.drewN) | (with_reducible apply TB_.drew)))) (by decide))) : Aside0 (d.R e w1 base ok v xs) := ⟨Kd.R_below (h h0.out) hb⟩
theorem bb_ {w W w1 : World} {g : Nat} {o : Obj} (h0 : Aside0 (w.heap[g]? = some o)) (hb : Below W.heap.size W w1) (h : w.heap[g]? = some o → W.heap[g]? = some o := by intro h; (with_reducible repeat (first | refine blk_drewN ?_ _ | refine blk_drew ?_ | refine blk_alloc ?_ _)); exact h) : Aside0 (w1.heap[g]? = some o) := ⟨blk_below (h h0.out) hb⟩
theorem bc_ {w W w1 : World} {g : Nat} {t : TypeId} {cs : Array Value} (h0 : Aside0 (w.heap[g]? = some (.cells cs t (0, 0)))) (hb : Below W.heap.size W w1) (h : w.heap[g]? = some (.cells cs t (0, 0)) → W.heap[g]? = some (.cells cs t (0, 0)) := by intro h; (with_reducible repeat (first | exact h | refine blk_drewN ?_ _ | refine blk_drew ?_ | refine blk_alloc ?_ _ | refine blk_far ?_ (by apply Aside0.out; with_reducible assumption) _))) : Aside0 (w1.heap[g]? = some (.cells cs t (0, 0))) := ⟨blk_below (h h0.out) hb⟩
theorem bput_ {w : World} {g : Nat} {t : TypeId} {cs : Array Value} (h : w.heap[g]? = some (.cells cs t (0, 0))) {i : Nat} {u : Value} : (w.setCell ⟨g, i, none⟩ u).heap[g]? = some (.cells (cs.setIfInBounds i u) t (0, 0)) := blk_set h i u
theorem bp_ {w W w1 : World} {g : Nat} {t : TypeId} {cs cs1 : Array Value} (cs2 : Array Value) (h0 : Aside0 (w.heap[g]? = some (.cells cs t (0, 0)))) (hb : Below W.heap.size W w1) (h : w.heap[g]? = some (.cells cs t (0, 0)) → W.heap[g]? = some (.cells cs1 t (0, 0)) := by intro h; (with_reducible repeat (first | exact h | apply bput_ | apply blk_drewN | apply blk_drew | apply blk_alloc | (apply blk_far; rotate_left; apply Aside0.out; with_reducible assumption)))) (e : cs1 = cs2 := by first | (simp only [List.setIfInBounds_toArray, List.set_cons_zero, List.set_cons_succ]; done) | (simp only [List.setIfInBounds_toArray, List.set_cons_zero, List.set_cons_succ]; rfl) | rfl) : Aside0 (w1.heap[g]? = some (.cells cs2 t (0, 0))) := ⟨e ▸ blk_below (h h0.out) hb⟩
theorem hb_ {w W V w1 : World} (h0 : Aside0 (Below w.heap.size w W)) (hb : Below V.heap.size V w1) (h : Below w.heap.size w W → Below w.heap.size w V := by intro h; repeat (first | (with_reducible first | exact h | apply below_alloc | apply pw_below_drewN | apply below_drew1 | refine below_set ?_ (by apply Aside0.out; with_reducible assumption)) | exact h)) : Aside0 (Below w.heap.size w w1) := ⟨below_step (h h0.out) hb⟩
theorem nx_ {w W : World} {g b : Nat} {o : Obj} (hg : b = W.heap.size) (h0 : Aside0 (w.heap[g]? = some o)) (h : w.heap[g]? = some o → W.heap[g]? = some o := by intro h; (with_reducible repeat (first | refine blk_drewN ?_ _ | refine blk_drew ?_ | refine blk_alloc ?_ _)); exact h) : Aside0 (g ≠ b) := ⟨nl_ hg (h h0.out)⟩
theorem ny_ {w W : World} {g b : Nat} {o : Obj} (hg : b = W.heap.size) (h0 : Aside0 (w.heap[g]? = some o)) (h : w.heap[g]? = some o → W.heap[g]? = some o := by intro h; (with_reducible repeat (first | refine blk_drewN ?_ _ | refine blk_drew ?_ | refine blk_alloc ?_ _)); exact h) : Aside0 (b ≠ g) := ⟨ng_ hg (h h0.out)⟩
theorem nf_ {P : Program} {ops : Array Oper} {Q : Exit → Act → World → Prop} {md : Region.Mode} {S : World → Prop} {ds : List Nat} {fuel : Nat} {l : Array Bool} {a a' : Act} {w : World} (h : wpAnyLast P md ops Q S ds fuel l a' w) (ha : a = a' := by first | (simp only [putAll, Act.put, List.setIfInBounds_toArray, List.set_cons_zero, List.set_cons_succ]; done) | (simp only [putAll, Act.put, List.setIfInBounds_toArray, List.set_cons_zero, List.set_cons_succ]; rfl)) : wpAnyLast P md ops Q S ds fuel l a w := norm_ ha h
theorem bs_ {P : Program} {ops : Array Oper} {o : Oper} {a : Act} {Kc : Act → World → Prop} {Q : Exit → Act → World → Prop} {W : World} (N : Tmp) (cs : Array Value) (t : TypeId)
    (h : ∀ g, g = W.heap.size → ∀ w1, w1.heap[g]? = some (.cells cs t (0, 0)) → Below W.heap.size W w1 → Kc (a.put o.dst (.pointer (some ⟨g, 0, none⟩))) w1)
    (hw : Region.wanted o (yielded ops a.tmps) = true := by rfl) (hd : o.dst = some N := by rfl) (hr : (execOp a.eval o).run P W = .ok (.value (.pointer (some ⟨W.heap.size, 0, none⟩))) (W.alloc (.cells cs t (0, 0))) := by first | (go_simp; done) | (go_simp; rfl)) :
    if Region.wanted o (yielded ops a.tmps) = true then Oper.wp P o a W Kc Q else Kc (a.put o.dst undef) W := box_step hw hd hr h
theorem gc_ {P : Program} {ops : Array Oper} {Q : Exit → Act → World → Prop} {rest : List Oper} {o : Oper} {a : Act} {W : World} (f : FuncId) {az : Array Operand} {ts : Array TypeId} (h : wpList P ops Q (o :: rest) a W) (_ho : o.op = .call { callee := .value (.func f), args := az, argTypes := ts } := by rfl) : wpList P ops Q (o :: rest) a W := h
theorem gl_ {P : Program} {ops : Array Oper} {Q : Exit → Act → World → Prop} {rest : List Oper} {oi : Oper} {a : Act} {w : World} (N : Option Tmp) {f : FuncId} {fn : Func} {az : Array Operand} {ts : Array TypeId} (hf : P.funcs[f]? = some fn) (args : Array Value)
    (h : Calls P f args w fun e w' => ∃ v, e = .returned v ∧ wpList P ops Q rest (a.put N v) w') (hd : oi.dst = N := by rfl) (hg : oi.guard = none := by rfl) (hname : (fn.name == "runtime.NumGoroutine") = false := by kernel_rfl) (hb : fn.body.isSome = true := by rfl)
    (hop : oi.op = .call { callee := .value (.func f), args := az, argTypes := ts } := by rfl) (hargs : az.map a.eval = args := by (try simp only [List.map_toArray, List.map_cons, List.map_nil]); first | done | rfl | (simp only [List.length_drop, List.length_take]; rfl)) : wpList P ops Q (oi :: rest) a w := goesL_ N hd hg hf hname hb args hop hargs h
theorem rc_ {α : Type} {d : Kd α} {e : TypeId} {w W : World} {base n c : Nat} {A : Option Addr} {ok : Nat → Prop} {xs : List α} (h0 : d.R e w base ok (.slice A n c) xs) (h : d.C w A xs.length xs → d.C W A xs.length xs := by intro h; repeat (first | (with_reducible exact h) | (with_reducible refine Kd.C_alloc ?_ _) | (with_reducible refine Kd.C_drewN ?_ _) | (with_reducible refine Kd.C_drew ?_))) : d.C W A xs.length xs := h (Kd.R_reads' h0).2.2
theorem rt_ {p : Prop} {w W V : World} (h0 : Below w.heap.size w W) (hp : p := by first | rfl | (simp [errW_none, errW_some] <;> rfl) | (simp [*, errW_none, errW_some] <;> rfl)) (h : Below w.heap.size w W → Below w.heap.size w V := by intro h; repeat (first | (with_reducible first | exact h | apply below_alloc | apply pw_below_drewN | apply below_drew1 | refine below_set ?_ (by apply Aside0.out; with_reducible assumption)) | exact h)) : p ∧ Below w.heap.size w V := ⟨hp, h h0⟩
theorem bq_ {w W : World} {g : Nat} {t : TypeId} {cs cs1 cs2 : Array Value} (h0 : w.heap[g]? = some (.cells cs t (0, 0))) (h : w.heap[g]? = some (.cells cs t (0, 0)) → W.heap[g]? = some (.cells cs1 t (0, 0)) := by intro h; (with_reducible repeat (first | exact h | apply bput_ | apply blk_drewN | apply blk_drew | apply blk_alloc | (apply blk_far; rotate_left; apply Aside0.out; with_reducible assumption)))) (e : cs1 = cs2 := by first | (simp only [List.setIfInBounds_toArray, List.set_cons_zero, List.set_cons_succ]; done) | (simp only [List.setIfInBounds_toArray, List.set_cons_zero, List.set_cons_succ]; rfl) | rfl) : W.heap[g]? = some (.cells cs2 t (0, 0)) := e ▸ h h0
theorem bo_ {α β : Type} {x : Option α} {f : α → Option β} {b : β} (h : x.bind f = some b) : ∃ a, Aside0 (x = some a) ∧ f a = some b := (Option.bind_eq_some_iff.mp h).elim fun a h => ⟨a, ⟨h.1⟩, h.2⟩
theorem nb_ {w W V w1 : World} {g : Nat} {o : Obj} (hg : g = V.heap.size) (hbox : w1.heap[g]? = some o) (h0 : Aside0 (Below w.heap.size w W)) (hb : Below V.heap.size V w1) (h : Below w.heap.size w W → Below w.heap.size w V := by intro h; repeat (first | (with_reducible first | exact h | apply below_alloc | apply pw_below_drewN | apply below_drew1 | refine below_set ?_ (by apply Aside0.out; with_reducible assumption)) | exact h)) : Aside0 (w1.heap[g]? = some o) ∧ Aside0 (w.heap.size ≤ g) ∧ Aside0 (w.heap.size ≤ g) ∧ Aside0 (Below w.heap.size w w1) :=
  have a : w.heap.size ≤ g := by rw [hg]; exact below_size (h h0.out)
  ⟨⟨hbox⟩, ⟨a⟩, ⟨a⟩, ⟨below_step (h h0.out) hb⟩⟩
theorem sta_ {P : Program} {ops : Array Oper} {Q : Exit → Act → World → Prop} {id : Nat} {a : Act} {w : World} (n : Nat) (S : World → Prop) (hS : S w.drew) (h : S w.drew → wpAnyLast P .any ops Q S [] n (bl_ n 0) a w.drew) (hm : P.follows .mixedOrders = true := by kernel_rfl) (hn : ops.size = n := by rfl) (hl : Array.replicate n false = bl_ n 0 := by kernel_rfl) : (Code.region id ops true).wp P Q a w := start_ (S := S) (ds := []) (bl_ n 0) hm hn hl hS h
theorem bk_ {w W : World} {g : Nat} {t : TypeId} {cs : Array Value} {v : Value} (h0 : Aside0 (w.heap[g]? = some (.cells cs t (0, 0)))) (i : Nat) (h : w.heap[g]? = some (.cells cs t (0, 0)) → W.heap[g]? = some (.cells cs t (0, 0)) := by intro h; (with_reducible repeat (first | refine blk_drewN ?_ _ | refine blk_drew ?_ | refine blk_alloc ?_ _)); exact h) (e : cs[i]? = some v := by rfl) : W.cell? ⟨g, i, none⟩ = some v := (blk_cell (h h0.out) i).trans e
theorem bz_ {P : Program} {ops : Array Oper} {rest : List Oper} {o : Oper} {a : Act} {Q : Exit → Act → World → Prop} {W : World} (N : Tmp) {cs : Array Value} {t : TypeId}
    (h : ∀ g, g = W.heap.size → ∀ w1, w1.heap[g]? = some (.cells cs t (0, 0)) → Below W.heap.size W w1 → wpList P ops Q rest (a.put o.dst (.pointer (some ⟨g, 0, none⟩))) w1)
    (hgd : o.guard = none := by rfl) (hd : o.dst = some N := by rfl) (hr : (execOp a.eval o).run P W = .ok (.value (.pointer (some ⟨W.heap.size, 0, none⟩))) (W.alloc (.cells cs t (0, 0))) := by first | (go_simp; done) | (go_simp; rfl)) : wpList P ops Q (o :: rest) a W := box_event hgd hd hr h
theorem gw_ {P : Program} {ops : Array Oper} {Q : Exit → Act → World → Prop} {rest : List Oper} {oi : Oper} {a : Act} {w : World} (N : Option Tmp) {f : FuncId} {fn : Func} {az : Array Operand} {ts : Array TypeId} (hf : P.funcs[f]? = some fn) {args : Array Value} (h : Calls P f args w fun e w' => ∃ v, e = .returned v ∧ wpList P ops Q rest (a.put N v) w') (hd : oi.dst = N := by rfl) (hg : oi.guard = none := by rfl) (hname : (fn.name == "runtime.NumGoroutine") = false := by kernel_rfl) (hb : fn.body.isSome = true := by rfl) (hop : oi.op = .call { callee := .value (.func f), args := az, argTypes := ts } := by rfl) (hargs : az.map a.eval = args := by go_simp; first | done | rfl) : wpList P ops Q (oi :: rest) a w := goesL_ N hd hg hf hname hb args hop hargs h
theorem gv_ {P : Program} {Q : Exit → Act → World → Prop} {ops : Array Oper} {oi : Oper} {N : Option Tmp} {a : Act} {w : World} {K : Act → World → Prop} {f : FuncId} {fn : Func} {az : Array Operand} {ts : Array TypeId} (hf : P.funcs[f]? = some fn) {args : Array Value} (h : Calls P f args w fun e w' => ∃ v, e = .returned v ∧ K (a.put N v) w') (hname : (fn.name == "runtime.NumGoroutine") = false := by kernel_rfl) (hb : fn.body.isSome = true := by rfl) (hw : Region.wanted oi (yielded ops a.tmps) = true := by rfl) (hN : oi.dst = N := by rfl) (hop : oi.op = .call { callee := .value (.func f), args := az, argTypes := ts } := by rfl) (hargs : az.map a.eval = args := by go_simp; first | done | rfl) : if Region.wanted oi (yielded ops a.tmps) = true then Oper.wp P oi a w K Q else K (a.put N undef) w := goes_ hf hname hb args hw hN hop hargs h
theorem cfs_ {W : World} {p ad : Addr} {v : Value} {g : Nat} (j : Nat) (u : Value) (hn : ad.block ≠ g) (h : W.cell? p = some v) (e : p.block = ad.block := by first | rfl | exact add_block _ _ | (show (Addr.add _ _).block = _; exact add_block _ _) | simp [add_block]) : (W.setCell ⟨g, j, none⟩ u).cell? p = some v := (cell_far (p := ⟨g, j, none⟩) (by rw [e]; exact hn) u).trans h
theorem cff_ {W : World} {p : Addr} {g j b : Nat} {u : Value} {v : Option Value} (hn : b ≠ g) (h : W.cell? p = v) (e : p.block = b := by first | rfl | exact add_block _ _ | (show (Addr.add _ _).block = _; exact add_block _ _) | (dsimp only; exact add_block _ _)) : (W.setCell ⟨g, j, none⟩ u).cell? p = v := (cell_far (p := ⟨g, j, none⟩) (by rw [e]; exact hn) u).trans h
theorem oi_ {α : Type} {a b : α} (h : some a = some b) : a = b := Option.some.inj h
theorem fb_ {b : Bool} (h : ¬ b = true) : b = false := Bool.eq_false_iff.mpr h
theorem dt_ {p : Prop} [Decidable p] (h : p) : decide p = true := decide_eq_true h
theorem df_ {p : Prop} [Decidable p] (h : ¬ p) : decide p = false := decide_eq_false h
theorem eq1_ {a b : Int} (h : a = b) : (a == b) = true := beq_iff_eq.mpr h
theorem eq0_ {a b : Int} (h : ¬ a = b) : (a == b) = false := beq_eq_false_iff_ne.mpr h
theorem ne0_ {a b : Int} (h : a = b) : (a != b) = false := bne_eq_false_iff_eq.mpr h
theorem ne1_ {a b : Int} (h : ¬ a = b) : (a != b) = true := bne_iff_ne.mpr h
theorem nn_ {a b : Nat} (h : Aside0 (a ≠ b)) (k : Aside0 (b ≠ a)) : a ≠ b ∧ b ≠ a := ⟨h.out, k.out⟩
theorem sb_ {w W V : World} {g : Nat} {t : TypeId} {cs cs1 cs2 : Array Value} (hq : W = V) (h0 : Aside0 (w.heap[g]? = some (.cells cs t (0, 0)))) (h : w.heap[g]? = some (.cells cs t (0, 0)) → W.heap[g]? = some (.cells cs1 t (0, 0)) := by intro h; (with_reducible repeat (first | exact h | apply bput_ | apply blk_drewN | apply blk_drew | apply blk_alloc | (apply blk_far; rotate_left; apply Aside0.out; with_reducible assumption)))) (e : cs1 = cs2 := by first | (simp only [List.setIfInBounds_toArray, List.set_cons_zero, List.set_cons_succ]; done) | (simp only [List.setIfInBounds_toArray, List.set_cons_zero, List.set_cons_succ]; rfl) | rfl) : Aside0 (V.heap[g]? = some (.cells cs2 t (0, 0))) := ⟨hq ▸ e ▸ h h0.out⟩
theorem sh_ {w U W V : World} (hq : W = V) (h0 : Aside0 (Below w.heap.size w U)) (h : Below w.heap.size w U → Below w.heap.size w W := by intro h; repeat (first | (with_reducible first | exact h | apply below_alloc | apply pw_below_drewN | apply below_drew1 | refine below_set ?_ (by apply Aside0.out; with_reducible assumption)) | exact h)) : Aside0 (Below w.heap.size w V) := ⟨hq ▸ h h0.out⟩
def CWl_ (w : World) (g : Nat) : List Value → Nat → Prop
  | [], _ => True
  | v :: r, k => w.cell? ⟨g, k, none⟩ = some v ∧ CWl_ w g r (k + 1)
def CW_ (w : World) (g : Nat) (cs : Array Value) : Prop := CWl_ w g cs.toList 0
theorem cwl_ {w : World} {g : Nat} : ∀ (l : List Value) (k : Nat), (∀ i, w.cell? ⟨g, k + i, none⟩ = l[i]?) → CWl_ w g l k
  | [], _, _ => trivial
  | v :: r, k, h => ⟨h 0, cwl_ r (k + 1) (fun i => by have := h (i + 1); rw [show k + (i + 1) = k + 1 + i by omega] at this; simpa using this)⟩
theorem cb_ {w W : World} {g : Nat} {t : TypeId} {cs : Array Value} (h0 : Aside0 (w.heap[g]? = some (.cells cs t (0, 0)))) (h : w.heap[g]? = some (.cells cs t (0, 0)) → W.heap[g]? = some (.cells cs t (0, 0)) := by intro h; (with_reducible repeat (first | refine blk_drewN ?_ _ | refine blk_drew ?_ | refine blk_alloc ?_ _)); exact h) : CW_ W g cs := cwl_ _ 0 (fun i => by rw [Nat.zero_add]; simpa using blk_cell (h h0.out) i)
theorem sta1_ {P : Program} {ops : Array Oper} {Q : Exit → Act → World → Prop} {id : Nat} {a : Act} {w : World} (n : Nat) {g : Nat} {cs : Array Value} (b : CW_ w.drew g cs) (h : CW_ w.drew g cs → wpAnyLast P .any ops Q (fun w' => CW_ w' g cs) [] n (bl_ n 0) a w.drew) (hm : P.follows .mixedOrders = true := by kernel_rfl) (hn : ops.size = n := by rfl) (hl : Array.replicate n false = bl_ n 0 := by kernel_rfl) : (Code.region id ops true).wp P Q a w := sta_ n (fun w' => CW_ w' g cs) b h hm hn hl
theorem sta2_ {P : Program} {ops : Array Oper} {Q : Exit → Act → World → Prop} {id : Nat} {a : Act} {w : World} (n : Nat) {g1 g2 : Nat} {c1 c2 : Array Value} (b1 : CW_ w.drew g1 c1) (b2 : CW_ w.drew g2 c2) (h : CW_ w.drew g1 c1 ∧ CW_ w.drew g2 c2 → wpAnyLast P .any ops Q (fun w' => CW_ w' g1 c1 ∧ CW_ w' g2 c2) [] n (bl_ n 0) a w.drew) (hm : P.follows .mixedOrders = true := by kernel_rfl) (hn : ops.size = n := by rfl) (hl : Array.replicate n false = bl_ n 0 := by kernel_rfl) : (Code.region id ops true).wp P Q a w := sta_ n (fun w' => CW_ w' g1 c1 ∧ CW_ w' g2 c2) ⟨b1, b2⟩ h hm hn hl
abbrev CE_ (w : World) (g i : Nat) (v : Value) : Prop := w.cell? ⟨g, i, none⟩ = some v
abbrev CF_ (w : World) (a : Addr) (i : Nat) (v : Value) : Prop := w.cell? ⟨a.block, a.off + i, none⟩ = some v
theorem od_ {p : Prop} [Decidable p] (h : decide p = true := by first | (with_reducible assumption) | assumption) : p := of_decide_eq_true h
theorem pv_ {P : Program} {ops : Array Oper} {Q : Exit → Act → World → Prop} {md : Region.Mode} {S : World → Prop} {ds : List Nat} {T : Bool × List (List Nat × List Nat)} {oi : Oper} {N : Option Tmp} {v : Value} {fuel : Nat} {l : Array Bool} {a : Act} {w : World} (i n m : Nat) {a' : Act}
    (h : wpAnyLast P md ops Q S ds fuel (bl_ n m) a' w) (hT : rtab md ops = T := by exact HT_.out) (hi : ops[i]? = some oi := by rfl) (hN : oi.dst = N := by (conv => lhs; whnf); try rfl) (hc : anyT T l.toList (bl_ n m).toList i = true := by kernel_rfl) (hQ : ∀ c a w, Q (.panic c) (a.put oi.dst v) w → Q (.panic c) a w := by exact fun _ _ _ h => h)
    (hw : Region.wanted oi (yielded ops a.tmps) = true := by rfl) (hy : ∀ w', (execOp a.eval oi).run P w' = .ok (.value v) w' := by intro w'; go_simp; with_reducible rfl) (ha : a.put N v = a' := by simp only [Act.put, List.setIfInBounds_toArray, List.set_cons_zero, List.set_cons_succ, i64_w, i32_w]; rfl) :
    wpAnyLast P md ops Q S ds (fuel + 1) l a w := pure_ (i := i) (N := N) (bl_ n m) hi hN (any_of hT hc) hQ (Or.inl ⟨hw, hy⟩) ha h
theorem pw_ {P : Program} {ops : Array Oper} {Q : Exit → Act → World → Prop} {md : Region.Mode} {S : World → Prop} {ds : List Nat} {T : Bool × List (List Nat × List Nat)} {oi : Oper} {N : Option Tmp} {fuel : Nat} {l : Array Bool} {a : Act} {w : World} (i n m : Nat) {a' : Act}
    (h : wpAnyLast P md ops Q S ds fuel (bl_ n m) a' w) (hT : rtab md ops = T := by exact HT_.out) (hi : ops[i]? = some oi := by rfl) (hN : oi.dst = N := by (conv => lhs; whnf); try rfl) (hc : anyT T l.toList (bl_ n m).toList i = true := by kernel_rfl) (hQ : ∀ c a w, Q (.panic c) (a.put oi.dst undef) w → Q (.panic c) a w := by exact fun _ _ _ h => h)
    (hw : Region.wanted oi (yielded ops a.tmps) = false := by rfl) (ha : a.put N undef = a' := by simp only [Act.put, List.setIfInBounds_toArray, List.set_cons_zero, List.set_cons_succ, i64_w, i32_w]; rfl) :
    wpAnyLast P md ops Q S ds (fuel + 1) l a w := pure_ (i := i) (N := N) (v := undef) (bl_ n m) hi hN (any_of hT hc) hQ (Or.inr ⟨hw, rfl⟩) ha h
theorem tv_ {P : Program} {ops : Array Oper} {Q : Exit → Act → World → Prop} {md : Region.Mode} {S : World → Prop} {ds : List Nat} {T : Bool × List (List Nat × List Nat)} {B : List Nat} {oi : Oper} {N : Option Tmp} {v : Value} {fuel : Nat} {l : Array Bool} {a : Act} {w : World} (i n m : Nat) {a' : Act} (h : wpAnyLast P md ops Q S ds fuel (bl_ n m) a' w)
    (hT : rtab md ops = T := by exact HT_.out) (hB : waitsOk T.2 B = true := by exact HW_.out) (hS : S w := by exact hHeld) (hi : ops[i]? = some oi := by rfl) (hN : oi.dst = N := by (conv => lhs; whnf); try rfl) (hc : takeW T B ds l.toList (bl_ n m).toList i = true := by kernel_rfl) (hQ : ∀ c a w, Q (.panic c) (a.put oi.dst v) w → Q (.panic c) a w := by exact fun _ _ _ h => h)
    (hw : Region.wanted oi (yielded ops a.tmps) = true := by rfl) (hy : ∀ w', S w' → (execOp a.eval oi).run P w' = .ok (.value v) w' := by intro w' s_; (try simp only [CW_, CWl_, CE_, CF_, List.toList_toArray, Nat.reduceAdd, and_true] at s_); go_simp; with_reducible rfl) (ha : a.put N v = a' := by simp only [Act.put, List.setIfInBounds_toArray, List.set_cons_zero, List.set_cons_succ, i64_w, i32_w]; rfl) :
    wpAnyLast P md ops Q S ds (fuel + 1) l a w := take_ (i := i) (N := N) (bl_ n m) hi hN (take_ofW hT hB hc) hQ (Or.inl ⟨hw, hy⟩) hS ha h
theorem yh_ {p : Prop} (h : p := by first | (rw [hy_]; with_reducible exact H) | (have H2_ := (Option.bind_some _ _).symm.trans H; rw [hy_]; with_reducible exact H2_) | (have H2_ := (Option.bind_some _ _).symm.trans H; with_reducible exact H2_) | with_reducible exact H | (rw [hy_]; exact H) | exact H) : p := h
theorem if0_ {α : Type} [Decidable (false = true)] {a b r : α} (h : (if false = true then a else b) = r) : b = r := by
  rw [if_neg (fun e => Bool.noConfusion e)] at h
  exact h
theorem rl_ {p : Prop} (h : p := by first | rfl | (simp; done) | (simp [*]; done)) : p := h
theorem ro_ {a b : Nat} (h : a ≤ b := by first | omega | exact Nat.le_refl _) : a ≤ b := h
theorem c3_ {W : World} {g b i j1 j2 j3 : Nat} {u1 u2 u3 : Value} {v : Option Value} (h : b ≠ g) (h0 : W.cell? ⟨b, i, none⟩ = v) : (((W.setCell ⟨g, j1, none⟩ u1).setCell ⟨g, j2, none⟩ u2).setCell ⟨g, j3, none⟩ u3).cell? ⟨b, i, none⟩ = v := cfn_ h (cfn_ h (cfn_ h h0))
theorem sa_ {α : Type} {d : Kd α} {e : TypeId} {w W : World} {base : Nat} {ok : Nat → Prop} {v : Value} {xs : List α} (h0 : Kd.S d e w base ok v xs) (h : Kd.S d e w base ok v xs → Kd.S d e W base ok v xs := by intro h; (with_reducible repeat (first | apply Kd.S_alloc | apply Kd.S_drewN | apply Kd.S_drew)); exact h) : Kd.S d e W base ok v xs := h h0
end Go.Proofs.YtgolleldpmkkoaaGreatDoorW.PrintLast
