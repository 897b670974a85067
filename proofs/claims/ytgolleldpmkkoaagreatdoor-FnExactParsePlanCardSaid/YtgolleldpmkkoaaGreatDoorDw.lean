/- Words for statements that list package variables: the table of powers of ten, which the library's Itoa reads, stands in every later world; Itoa's contract in the printer's form. No condition beyond each theorem's own. -/
import Derived.Test.YtgolleldpmkkoaaGreatDoorOwn
import Derived.Test.YtgolleldpmkkoaaGreatDoorShelf
import Derived.Lib.LaidTab
import Derived.Lib.SmallJoins
import Derived.Lib.ItoaLen
set_option linter.unusedVariables false
set_option linter.unusedSimpArgs false
namespace Go.Proofs.YtgolleldpmkkoaaGreatDoorW.PrintLast
open Go.RowKit Go.Proofs.YtgolleldpmkkoaaGreatDoorW.PrintWords
/-- A variable of type error. -/
def ErrAt (w : World) (g : Nat) : Prop := ∃ ev, w.cell? ⟨g, 0, none⟩ = some ev ∧ (ev = .nilIface ∨ ∃ te pe, ev = .iface te pe)
/-- The table of powers of ten stands in the world; internal/bytealg.MaxLen holds an int, strconv.ErrSyntax and ErrRange errors. -/
def Tab (w : World) : Prop := Go.Lib.TabIs Tryz.prog w "internal/strconv.uint64pow10" .u64 Go.Lib.pow10Tab ∧ (∃ m : Int, w.cell? ⟨0, 0, none⟩ = some (.int .i64 m)) ∧ ErrAt w 3 ∧ ErrAt w 4
theorem ErrAt.on {w W : World} {g : Nat} (h : ErrAt w g) (hb : Below w.heap.size w W) : ErrAt W g := by
  obtain ⟨ev, h1, h2⟩ := h
  exact ⟨ev, (hb.cell (World.block_lt_of_cell? _ _ h1)).trans h1, h2⟩
theorem gTab : Tryz.prog.globalNamed "internal/strconv.uint64pow10" = some 5 := by kernel_rfl
theorem gTabT : (Tryz.prog.globals[5]?).map (·.type) = some 250 := by kernel_rfl
theorem tabA : Tryz.prog.underlying 250 = some (.array 20 209) := by kernel_rfl
theorem tabE : Tryz.prog.underlying 209 = some (.int .u64) := by kernel_rfl
theorem Tab.on {w W : World} (h : Tab w) (hb : Below w.heap.size w W) : Tab W := by
  obtain ⟨h1, ⟨m, h2⟩, h3, h4⟩ := h
  exact ⟨Go.Joins.tab_stays gTab h1 hb (Nat.le_refl _), ⟨m, (hb.cell (World.block_lt_of_cell? _ _ h2)).trans h2⟩, h3.on hb, h4.on hb⟩
theorem Tab.pow {w : World} (h : Tab w) : Go.Lib.TabIs Tryz.prog w "internal/strconv.uint64pow10" .u64 Go.Lib.pow10Tab := h.1
theorem below_grow_ (w : World) (k : Nat) (os : Array Obj) : Below w.heap.size w (Go.Sort.grow (w.drewN k) os) :=
  ⟨rfl, rfl, rfl, by show w.heap.size ≤ (w.heap ++ os).size; simp, fun i hi => Go.Sort.heap_grow_old _ _ hi⟩
theorem below_cell_ {w W : World} {g j : Nat} {v : Value} (h : Below w.heap.size w W) (hg : w.heap.size ≤ g) : Below w.heap.size w (W.setCell ⟨g, j, none⟩ v) := h.setCell (p := ⟨g, j, none⟩) hg _
/-- A number's decimal text. -/
def itoaS (n : Int) : ByteArray := ⟨(Go.Lib.itoa n).toArray⟩
theorem itoa_walk (n : Int) (h0 : -9223372036854775808 ≤ n) (h1 : n ≤ 9223372036854775807) (w : World) (ht : Tab w) :
    Calls Tryz.prog 81 #[.int .i64 n] w fun e w' => e = .returned (.string (itoaS n)) ∧ Below w.heap.size w w' :=
  (Tryz.strconv_Itoa n h0 h1 w ht.pow).mono fun _ _ ⟨he, k, os, hw⟩ => ⟨he, by rw [hw]; exact below_grow_ w k os⟩
/-- The pieces in a row, with the separator between. -/
def joinS (l : List ByteArray) (sep : ByteArray) : ByteArray := ⟨(Go.Lib.join (l.map (·.data.toList)) sep.data.toList).toArray⟩
theorem joinS_size (l : List ByteArray) (sep : ByteArray) : (joinS l sep).size = (Go.Lib.join (l.map (·.data.toList)) sep.data.toList).length := by
  show (Go.Lib.join (l.map (·.data.toList)) sep.data.toList).toArray.size = _
  simp
theorem join_walk (l : List ByteArray) (sep : ByteArray) (A0 : Option Addr) (c : Nat) (w : World) (h0 : l.length ≤ 140737488355328) (h1 : (joinS l sep).size ≤ 140737488355328) (hr : Kd.C Kd.string w A0 l.length l) (hc : l.length ≤ c) :
    Calls Tryz.prog 46 #[.slice A0 l.length c, .string sep] w fun e w' => e = .returned (.string (joinS l sep)) ∧ Below w.heap.size w w' := by
  rw [joinS_size] at h1
  cases l with
  | nil => exact (Tryz.strings_Join_none A0 c sep w).mono fun e w' ⟨he, hw⟩ => ⟨by rw [he]; rfl, hw ▸ Below.refl _ _⟩
  | cons x r =>
    obtain ⟨ad, e, hat⟩ := hr.2.2 (by simp)
    have hcell : ∀ (j : Nat) y, (x :: r)[j]? = some y → w.cell? (ad.add j) = some (.string y) := by
      intro j y hj
      obtain ⟨cs, hl, hK, hcc⟩ := hat j y hj
      obtain rfl : cs = [.string y] := hK
      have h := hcc 0 _ rfl
      rw [show Kd.string.sz = 1 from rfl, Nat.mul_one, Nat.add_zero] at h
      exact h
    obtain ⟨b, o, s⟩ := ad
    have h00 := hcell 0 x rfl
    cases s with
    | some s =>
      simp only [Addr.add, if_true, World.cell?, Option.isSome_some] at h00
      split at h00 <;> exact absurd h00 (by simp)
    | none =>
      subst e
      refine Tryz.strings_Join b o c (x :: r) sep w (fun j y hj => ?_) (World.block_lt_of_cell? w _ h00) h0 hc h1
      have h := hcell j y hj
      unfold Addr.add at h
      split at h
      · rename_i hz; subst hz; exact h
      · exact h
/-- The pieces of a text between its separators. -/
def splitS (s sep : ByteArray) : List ByteArray := Go.Lib.splitB sep 0 (Go.Lib.countB s sep) s
theorem splitS_len (s sep : ByteArray) (h1 : 1 ≤ sep.size) : (splitS s sep).length = Go.Lib.countB s sep + 1 := Go.Lib.splitB_all sep h1 0 _ s rfl
theorem split_walk (s sep : ByteArray) (w : World) (ht : Tab w) (hs : s.size < 4294967281) (h1 : 1 ≤ sep.size) :
    Calls Tryz.prog 28 #[.string s, .string sep] w fun e w' => ∃ v, e = .returned v ∧ Kd.R Kd.string 9 w' w.heap.size (fun _ => True) v (splitS s sep) ∧ Below w.heap.size w w' := by
  obtain ⟨_, ⟨m, hm⟩, _, _⟩ := ht
  have hc := Go.Lib.countB_le sep h1 s.size s (Nat.le_refl _)
  have hl := splitS_len s sep h1
  refine (Tryz.strings_Split s sep m w hs hm h1).mono ?_
  rintro e w' ⟨rfl, rfl⟩
  refine ⟨_, rfl, Kd.R_of_own ⟨by simp [encs], .inr ⟨w.heap.size, _, _, by rw [hl], Nat.le_refl _, (show (w.heap.push _)[w.heap.size]? = _ from Array.getElem?_push_size ..), by rw [hl]; exact Nat.le_refl _, by unfold maxLen; omega, ?_, ?_⟩⟩ (fun _ _ => trivial), below_alloc (Below.refl _ _) _⟩
  · simp only [List.size_toArray, List.length_map, Nat.mul_one]
    exact hl
  · simp only [Nat.mul_one]
    exact List.take_of_length_le (by simp [splitS])
/-- A numeral; the number that Atoi hands back. -/
def atoiOk (s : ByteArray) : Bool := match Go.Lib.atoiAll s.data.toList with
  | .ok _ => true
  | _ => false
def atoiX (s : ByteArray) : Int := match Go.Lib.atoiAll s.data.toList with
  | .ok v => v
  | .range => Go.Lib.atoiSat s.data.toList
  | _ => 0
theorem atoi_walk (s : ByteArray) (w : World) (ht : Tab w) (hs : s.size ≤ 281474976710656) :
    Calls Tryz.prog 101 #[.string s] w fun e w' => ∃ ev, e = .returned (.tuple #[.int .i64 (atoiX s), ev]) ∧ ((atoiOk s = true ∧ ev = .nilIface) ∨ (atoiOk s = false ∧ ∃ te pe, ev = .iface te pe)) ∧ Below w.heap.size w w' := by
  obtain ⟨_, _, ⟨e1, h1, h1'⟩, ⟨e2, h2, h2'⟩⟩ := ht
  rcases h : Go.Lib.atoiAll s.data.toList with v | _ | _
  ·
    refine (Tryz.strconv_Atoi_ok s (by omega) v h w).mono ?_
    rintro e w' ⟨rfl, hw⟩
    refine ⟨_, by simp only [atoiX, h] <;> rfl, .inl ⟨by simp only [atoiOk, h], rfl⟩, ?_⟩
    rcases hw with rfl | ⟨t, rfl⟩
    · exact Below.refl _ _
    · exact bytes_below (Below.refl _ _) (Nat.le_refl _) _ _
  ·
    refine (Tryz.strconv_Atoi_syntax s hs h e1 w h1 h1').mono ?_
    rintro e w' ⟨N, rfl, _, _, hb⟩
    exact ⟨_, by simp only [atoiX, h] <;> rfl, .inr ⟨by simp only [atoiOk, h], _, _, rfl⟩, hb⟩
  ·
    refine (Tryz.strconv_Atoi_range s hs h e2 w h2 h2').mono ?_
    rintro e w' ⟨N, rfl, _, _, hb⟩
    exact ⟨_, by simp only [atoiX, h] <;> rfl, .inr ⟨by simp only [atoiOk, h], _, _, rfl⟩, hb⟩
end Go.Proofs.YtgolleldpmkkoaaGreatDoorW.PrintLast
