/- Words for statements that list package variables: the table of powers of ten, which the library's Itoa reads, stands in every later world; Itoa's contract in the printer's form. No condition beyond each theorem's own. -/
import Derived.Test.YtemnodpabflkoaaGreatDoorOwn
import Derived.Test.YtemnodpabflkoaaGreatDoorShelf
import Derived.Lib.LaidTab
import Derived.Lib.SmallJoins
import Derived.Lib.ItoaLen
set_option linter.unusedVariables false
set_option linter.unusedSimpArgs false
namespace Go.Proofs.YtemnodpabflkoaaGreatDoorW.PrintLast
open Go.RowKit Go.Proofs.YtemnodpabflkoaaGreatDoorW.PrintWords
/-- The table of powers of ten stands in the world. -/
def Tab (w : World) : Prop := Go.Lib.TabIs Tryz.prog w "internal/strconv.uint64pow10" .u64 Go.Lib.pow10Tab
theorem gTab : Tryz.prog.globalNamed "internal/strconv.uint64pow10" = some 0 := by kernel_rfl
theorem gTabT : (Tryz.prog.globals[0]?).map (·.type) = some 157 := by kernel_rfl
theorem tabA : Tryz.prog.underlying 157 = some (.array 20 141) := by kernel_rfl
theorem tabE : Tryz.prog.underlying 141 = some (.int .u64) := by kernel_rfl
theorem Tab.on {w W : World} (h : Tab w) (hb : Below w.heap.size w W) : Tab W := Go.Joins.tab_stays gTab h hb (Nat.le_refl _)
theorem below_grow_ (w : World) (k : Nat) (os : Array Obj) : Below w.heap.size w (Go.Sort.grow (w.drewN k) os) :=
  ⟨rfl, rfl, rfl, by show w.heap.size ≤ (w.heap ++ os).size; simp, fun i hi => Go.Sort.heap_grow_old _ _ hi⟩
theorem below_cell_ {w W : World} {g j : Nat} {v : Value} (h : Below w.heap.size w W) (hg : w.heap.size ≤ g) : Below w.heap.size w (W.setCell ⟨g, j, none⟩ v) := h.setCell (p := ⟨g, j, none⟩) hg _
/-- A number's decimal text. -/
def itoaS (n : Int) : ByteArray := ⟨(Go.Lib.itoa n).toArray⟩
theorem itoa_walk (n : Int) (h0 : -9223372036854775808 ≤ n) (h1 : n ≤ 9223372036854775807) (w : World) (ht : Tab w) :
    Calls Tryz.prog 19 #[.int .i64 n] w fun e w' => e = .returned (.string (itoaS n)) ∧ Below w.heap.size w w' :=
  (Tryz.strconv_Itoa n h0 h1 w ht).mono fun _ _ ⟨he, k, os, hw⟩ => ⟨he, by rw [hw]; exact below_grow_ w k os⟩
/-- The pieces in a row, with the separator between. -/
def joinS (l : List ByteArray) (sep : ByteArray) : ByteArray := ⟨(Go.Lib.join (l.map (·.data.toList)) sep.data.toList).toArray⟩
theorem joinS_size (l : List ByteArray) (sep : ByteArray) : (joinS l sep).size = (Go.Lib.join (l.map (·.data.toList)) sep.data.toList).length := by
  show (Go.Lib.join (l.map (·.data.toList)) sep.data.toList).toArray.size = _
  simp
theorem join_walk (l : List ByteArray) (sep : ByteArray) (A0 : Option Addr) (c : Nat) (w : World) (h0 : l.length ≤ 140737488355328) (h1 : (joinS l sep).size ≤ 140737488355328) (hr : Kd.C Kd.string w A0 l.length l) (hc : l.length ≤ c) :
    Calls Tryz.prog 21 #[.slice A0 l.length c, .string sep] w fun e w' => e = .returned (.string (joinS l sep)) ∧ Below w.heap.size w w' := by
  rw [joinS_size] at h1
  cases l with
  | nil => exact (Tryz.strings_Join_none A0 c sep w).mono fun e w' ⟨he, hw⟩ => ⟨by rw [he]; rfl, hw ▸ Below.refl _ _⟩
  | cons x r =>
    obtain ⟨ad, e, hat⟩ := hr.2.2 (by simp)
    have hcell : ∀ (j : Nat) y, (x :: r)[j]? = some y → w.cell? (ad.add j) = some (.string y) := by
      intro j y hj
      obtain ⟨cs, hl, hK, hcc⟩ := hat j y hj
      obtain rfl : cs = [.string y] := hK
      have h := hcc 0 _ rfl
      rw [show Kd.string.sz = 1 from rfl, Nat.mul_one, Nat.add_zero] at h
      exact h
    obtain ⟨b, o, s⟩ := ad
    have h00 := hcell 0 x rfl
    cases s with
    | some s =>
      simp only [Addr.add, if_true, World.cell?, Option.isSome_some] at h00
      split at h00 <;> exact absurd h00 (by simp)
    | none =>
      subst e
      refine Tryz.strings_Join b o c (x :: r) sep w (fun j y hj => ?_) (World.block_lt_of_cell? w _ h00) h0 hc h1
      have h := hcell j y hj
      unfold Addr.add at h
      split at h
      · rename_i hz; subst hz; exact h
      · exact h
end Go.Proofs.YtemnodpabflkoaaGreatDoorW.PrintLast
