/- Words of this session's own for the printed functions: a call through a function value that is known by sight; reading an argument out of its datum, kind by kind. No condition. -/
import Derived.Test.YtdniejjhkkepcaaWWords
import Derived.Test.YtdniejjhkkepcaaWLast
import Derived.Test.YtdniejjhkkepcaaWMore
import Derived.ChangeArms
import Derived.Shelf.Abstract
import Derived.DataReads
import Derived.DataElems
import Derived.WideShapes
set_option linter.unusedVariables false
set_option linter.unusedSimpArgs false
namespace Go.Proofs.YtdniejjhkkepcaaW.PrintLast
open Go.RowKit Go.Proofs.YtdniejjhkkepcaaW.PrintWords
section
variable {P : Program} {ops : Array Oper} {Q : Exit → Act → World → Prop}
theorem goesV_ {rest : List Oper} {oi : Oper} {a : Act} {w : World} (t : Tmp) (N : Option Tmp) (hd : oi.dst = N) (hg : oi.guard = none) {f : FuncId} {fn : Func} {lb : Array Value} {as_ : Array Operand} {ts : Array TypeId} (hf : P.funcs[f]? = some fn) (hname : (fn.name == "runtime.NumGoroutine") = false) (hb : fn.body.isSome = true) (args : Array Value)
    (hop : oi.op = .call { callee := .value (.tmp t), args := as_, argTypes := ts }) (hv : a.eval (.tmp t) = .func (.func f) #[] lb) (hargs : as_.map a.eval ++ lb = args)
    (h : Calls P f args w fun e w' => ∃ v, e = .returned v ∧ wpList P ops Q rest (a.put N v) w') : wpList P ops Q (oi :: rest) a w := by
  refine wpList_plain hg fun K hK => ?_
  have he := enters_ hf hname hb args w
  have hrun : (execOp a.eval oi).run P w = .ok (.enter f args) w := by
    unfold execOp
    simp [hop, resolve, Deferred.ofValue, invoke, hv, hargs, he]
  unfold Oper.wp
  rw [hrun, Oper.upon_enter]
  refine h.mono fun e w'' hh => ?_
  obtain ⟨v, rfl, hk⟩ := hh
  subst hd
  exact hK _ _ hk
end

def WI (k : IntKind) (x : Int) : Prop := (Lit.int k x).wf = true
def WB (_ : Bool) : Prop := True
def WS (s : ByteArray) : Prop := s.size ≤ maxLen
def WL {α : Type} (W : α → Prop) (l : List α) : Prop := l.length ≤ maxLen ∧ ∀ x ∈ l, W x
theorem WI.i64 {x : Int} (h : WI .i64 x) : -9223372036854775808 ≤ x ∧ x ≤ 9223372036854775807 := by
  simp only [WI, Lit.wf, Bool.and_eq_true, decide_eq_true_eq] at h
  exact h
theorem WI.u8 {x : Int} (h : WI .u8 x) : 0 ≤ x ∧ x ≤ 255 := by
  simp only [WI, Lit.wf, Bool.and_eq_true, decide_eq_true_eq] at h
  exact h
def Opens {α : Type} (P : Program) (W : World) (t : TypeId) (d : Kd α) (wf : α → Prop) : Prop :=
  ∀ {H : Type} (enc : TypeId × Value → H) (base : Nat) (spare : Nat → Bool) (held : Bool) (fuel : Nat) (cs : List Value) (x : DataW H × List MemPlace),
    DataW.trod enc P W base spare held fuel t cs = some x → ∃ v : α, d.K W v cs ∧ wf v
section
variable {P : Program} {W : World}
theorem opens_int {t : TypeId} {k : IntKind} (ht : P.underlying t = some (.int k)) : Opens P W t (Kd.int k) (WI k) := fun enc base spare held fuel cs x h => by
  obtain ⟨n, rfl, _, hw⟩ := DataW.trod_int ht h
  exact ⟨n, rfl, hw⟩
theorem choose_list {α : Type} (Q : Nat → α → Prop) : ∀ n : Nat, (∀ i, i < n → ∃ x, Q i x) → ∃ xs : List α, xs.length = n ∧ ∀ (i : Nat) (x : α), xs[i]? = some x → Q i x
  | 0, _ => ⟨[], rfl, fun i x h => by simp at h⟩
  | n + 1, h => by
    obtain ⟨xs, hl, hq⟩ := choose_list Q n (fun i hi => h i (by omega))
    obtain ⟨y, hy⟩ := h n (by omega)
    refine ⟨xs ++ [y], by simp [hl], fun i x hx => ?_⟩
    rcases Nat.lt_or_ge i xs.length with hi | hi
    · rw [List.getElem?_append_left hi] at hx
      exact hq i x hx
    · have hi' : i = xs.length := by
        have := (List.getElem?_eq_some_iff.1 hx).1
        simp at this
        omega
      subst hi'
      have : y = x := by simpa using hx
      subst this
      rw [hl]
      exact hy
theorem opens_slice {α : Type} {t e : TypeId} {d : Kd α} {wf : α → Prop} (ht : P.underlying t = some (.slice e)) (hs : P.cellsOf e = d.sz) (hd : Opens P W e d wf) : Opens P W t (Kd.slice e d) (WL wf) := fun enc base spare held fuel cs x h => by
  rcases DataW.trod_slice ht h with ⟨rfl, _⟩ | ⟨a, len, cap, elems, rest, n, _, rfl, _, _, hlc, hcm, hlen, hel, _, _⟩
  · exact ⟨[], ⟨none, 0, rfl, Nat.le_refl _, rfl, by simp, fun h => absurd h (by simp)⟩, by simp [maxLen], fun x hx => by simp at hx⟩
  · have hx : ∀ i, i < len → ∃ x : α, (∃ c, c.length = d.sz ∧ d.K W x c ∧ ∀ j u, c[j]? = some u → W.cell? (a.add (i * d.sz + j)) = some u) ∧ wf x := by
      intro i hi
      have h1 := hel i hi
      rw [List.getElem?_eq_getElem (by omega)] at h1
      obtain ⟨c, hc, ho⟩ := Option.bind_eq_some_iff.1 h1
      obtain ⟨v, hK, hw⟩ := hd enc base spare held n c _ ho
      obtain ⟨_, hcl, hcell⟩ := World.cells?_some hc
      refine ⟨v, ⟨c, by rw [hcl, hs], hK, fun j u hu => ?_⟩, hw⟩
      have hj := (List.getElem?_eq_some_iff.1 hu).1
      have := hcell j (by omega)
      rw [Go.Proofs.YtdniejjhkkepcaaW.PrintWords.add_add, hs] at this
      rw [this, hu]
    obtain ⟨xs, hl, hq⟩ := choose_list (fun i (x : α) => (∃ c, c.length = d.sz ∧ d.K W x c ∧ ∀ j u, c[j]? = some u → W.cell? (a.add (i * d.sz + j)) = some u) ∧ wf x) len hx
    have hm : len ≤ maxLen := Nat.le_trans hlc hcm
    refine ⟨xs, ⟨some a, cap, by rw [hl], by omega, rfl, by rw [hl]; exact hm, fun _ => ⟨a, rfl, fun j p hj => ?_⟩⟩, by rw [hl]; exact hm, fun x hx => ?_⟩
    · exact (hq j p hj).1
    · obtain ⟨i, hi⟩ := List.getElem?_of_mem hx
      exact (hq i x hi).2
theorem open_slice_arg {α : Type} {H : Type} {enc : TypeId × Value → H} {base : Nat} {spare : Nat → Bool} {held : Bool} {t e : TypeId} {d : Kd α} {wf : α → Prop} {v : Value} {x : DataW H} {ps : List MemPlace} (ht : P.underlying t = some (.slice e)) (hd : Opens P W t (Kd.slice e d) (WL wf)) (h : DataW.Trod enc P W base spare held t v x ps) :
    ∃ (A : Option Addr) (c : Nat) (l : List α), v.cells.toList = [.slice A l.length c] ∧ l.length ≤ c ∧ Kd.C d W A l.length l ∧ WL wf l := by
  obtain ⟨fuel, hf⟩ := h
  obtain ⟨l, ⟨A, c, he, hl, hC⟩, hw⟩ := hd enc base spare held fuel _ _ hf
  exact ⟨A, c, l, he, hl, hC, hw⟩
end
def place {α : Type} (p : α → Bool) : List α → Nat → Int
  | [], _ => -1
  | y :: r, i => if p y = true then (i : Int) else place p r (i + 1)
def MShape (w W : World) : Prop := ∀ (k : Nat) (c : Array Value) (q : TypeId), w.heap[k]? = some (.cells c q (0, 0)) → ∃ c', W.heap[k]? = some (.cells c' q (0, 0)) ∧ c'.size = c.size
theorem MShape.refl (w : World) : MShape w w := fun _ c _ h => ⟨c, h, rfl⟩
theorem MShape.trans {a b c : World} (h : MShape a b) (k : MShape b c) : MShape a c := fun i x q hx => by
  obtain ⟨y, hy, e⟩ := h i x q hx
  obtain ⟨z, hz, e2⟩ := k i y q hy
  exact ⟨z, hz, e2.trans e⟩
theorem MShape.setCell {w W : World} (h : MShape w W) (g o : Nat) (u : Value) : MShape w (W.setCell ⟨g, o, none⟩ u) := fun i x q hx => by
  obtain ⟨y, hy, e⟩ := h i x q hx
  by_cases c : i = g
  · subst c
    exact ⟨_, blk_set hy o u, by simpa using e⟩
  · exact ⟨y, blk_far hy (p := ⟨g, o, none⟩) c u, e⟩
theorem MShape.at_ {w W : World} (h : MShape w W) {g o : Nat} {c : Array Value} {q : TypeId} (hh : w.heap[g]? = some (.cells c q (0, 0))) (ho : o < c.size) : ∃ x, W.cell? ⟨g, o, none⟩ = some x ∧ W.frozen? ⟨g, o, none⟩ = false := by
  obtain ⟨c', h', e⟩ := h g c q hh
  exact ⟨c'[o]'(by omega), by rw [blk_cell h', Array.getElem?_eq_getElem (by omega)], blk_frozen h' o⟩
theorem cell_set_ne {W : World} {g o p : Nat} (h : o ≠ p) (u : Value) : (W.setCell ⟨g, o, none⟩ u).cell? ⟨g, p, none⟩ = W.cell? ⟨g, p, none⟩ := by
  rcases hh : W.heap[g]? with _ | x
  · simp [World.cell?, World.setCell, Array.getElem?_modify, hh]
  · cases x <;> simp [World.cell?, World.setCell, Array.getElem?_modify, hh, Array.getElem?_setIfInBounds, h]
structure MInv (w0 w : World) (g : Nat) (P F : Nat → Prop) (W : World) : Prop where
  B : Below w0.heap.size w0 W
  S : MShape w W
  K : Kept w W P
  same : ∀ o, F o → W.cell? ⟨g, o, none⟩ = w.cell? ⟨g, o, none⟩
section
variable {w0 w W W2 : World} {g : Nat} {P F S : Nat → Prop}
theorem MInv.refl (hB : Below w0.heap.size w0 w) : MInv w0 w g P F w := ⟨hB, MShape.refl w, Kept.refl w P, fun _ _ => rfl⟩
theorem MInv.set (h : MInv w0 w g P F W) (hg : P g) (hb : w0.heap.size ≤ g) (o : Nat) (ho : ¬ F o) (u : Value) : MInv w0 w g P F (W.setCell ⟨g, o, none⟩ u) :=
  ⟨below_set h.B hb, h.S.setCell g o u, h.K.setCell (.inl hg) u, fun p hp => (cell_set_ne (fun e => ho (by rw [e]; exact hp)) u).trans (h.same p hp)⟩
theorem MInv.call (h : MInv w0 w g P F W) (hg : g < W.heap.size) (hB : Below w0.heap.size w0 W2) (hS : MShape W W2) (hK : Kept W W2 S) (hs : ∀ k, S k → P k ∧ k ≠ g) : MInv w0 w g P F W2 :=
  ⟨hB, h.S.trans hS, h.K.then_ hK (fun k hk => .inl (hs k hk).1), fun o ho => (World.cell?_of_block (hK.2 g hg (fun hk => (hs g hk).2 rfl))).trans (h.same o ho)⟩
end
def mkI : Nat → Int → Int
  | 0, a => a
  | n + 1, a => mkI n (wrap64 (a + 1))
def Leads (w0 w : World) (S : Nat → Prop) (e : TypeId) (v : Value) (n : Nat) : Prop := ∃ A c, v = .slice A n c ∧ n ≤ 9223372036854775807 ∧ (n = 0 ∨ ∃ g cells, A = some ⟨g, 0, none⟩ ∧ S g ∧ w0.heap.size ≤ g ∧ w.heap[g]? = some (.cells cells e (0, 0)) ∧ n ≤ cells.size)
def bl_ (n m : Nat) : Array Bool := ((List.range n).map (fun i => m.testBit i)).toArray
theorem box2_ {w : World} {g : Nat} {t : TypeId} {v0 v1 : Value} (h : w.heap[g]? = some (.cells #[v0, v1] t (0, 0))) : w.cell? ⟨g, 0, none⟩ = some v0 ∧ w.cell? ⟨g, 1, none⟩ = some v1 ∧ w.frozen? ⟨g, 0, none⟩ = false ∧ w.frozen? ⟨g, 1, none⟩ = false := ⟨(blk_cell h 0).trans rfl, (blk_cell h 1).trans rfl, blk_frozen h 0, blk_frozen h 1⟩
theorem box3_ {w : World} {g : Nat} {t : TypeId} {v0 v1 v2 : Value} (h : w.heap[g]? = some (.cells #[v0, v1, v2] t (0, 0))) : w.cell? ⟨g, 0, none⟩ = some v0 ∧ w.cell? ⟨g, 1, none⟩ = some v1 ∧ w.cell? ⟨g, 2, none⟩ = some v2 ∧ w.frozen? ⟨g, 0, none⟩ = false ∧ w.frozen? ⟨g, 1, none⟩ = false ∧ w.frozen? ⟨g, 2, none⟩ = false := ⟨(blk_cell h 0).trans rfl, (blk_cell h 1).trans rfl, (blk_cell h 2).trans rfl, blk_frozen h 0, blk_frozen h 1, blk_frozen h 2⟩
theorem box4_ {w : World} {g : Nat} {t : TypeId} {v0 v1 v2 v3 : Value} (h : w.heap[g]? = some (.cells #[v0, v1, v2, v3] t (0, 0))) : w.cell? ⟨g, 0, none⟩ = some v0 ∧ w.cell? ⟨g, 1, none⟩ = some v1 ∧ w.cell? ⟨g, 2, none⟩ = some v2 ∧ w.cell? ⟨g, 3, none⟩ = some v3 ∧ w.frozen? ⟨g, 0, none⟩ = false ∧ w.frozen? ⟨g, 1, none⟩ = false ∧ w.frozen? ⟨g, 2, none⟩ = false ∧ w.frozen? ⟨g, 3, none⟩ = false := ⟨(blk_cell h 0).trans rfl, (blk_cell h 1).trans rfl, (blk_cell h 2).trans rfl, (blk_cell h 3).trans rfl, blk_frozen h 0, blk_frozen h 1, blk_frozen h 2, blk_frozen h 3⟩
end Go.Proofs.YtdniejjhkkepcaaW.PrintLast
