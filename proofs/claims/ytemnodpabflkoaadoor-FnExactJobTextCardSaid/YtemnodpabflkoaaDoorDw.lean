/- Words for statements that list package variables: the table of powers of ten, which the library's Itoa reads, stands in every later world; Itoa's contract in the printer's form. No condition beyond each theorem's own. -/
import Derived.Test.YtemnodpabflkoaaDoorOwn
import Derived.Test.YtemnodpabflkoaaDoorShelf
import Derived.Lib.LaidTab
import Derived.Lib.SmallJoins
import Derived.Lib.ItoaLen
set_option linter.unusedVariables false
set_option linter.unusedSimpArgs false
namespace Go.Proofs.YtemnodpabflkoaaDoorW.PrintLast
open Go.RowKit Go.Proofs.YtemnodpabflkoaaDoorW.PrintWords
/-- The table of powers of ten stands in the world. -/
def Tab (w : World) : Prop := Go.Lib.TabIs Tryd.prog w "internal/strconv.uint64pow10" .u64 Go.Lib.pow10Tab
theorem gTab : Tryd.prog.globalNamed "internal/strconv.uint64pow10" = some 0 := by kernel_rfl
theorem gTabT : (Tryd.prog.globals[0]?).map (·.type) = some 122 := by kernel_rfl
theorem tabA : Tryd.prog.underlying 122 = some (.array 20 112) := by kernel_rfl
theorem tabE : Tryd.prog.underlying 112 = some (.int .u64) := by kernel_rfl
theorem Tab.on {w W : World} (h : Tab w) (hb : Below w.heap.size w W) : Tab W := Go.Joins.tab_stays gTab h hb (Nat.le_refl _)
theorem below_grow_ (w : World) (k : Nat) (os : Array Obj) : Below w.heap.size w (Go.Sort.grow (w.drewN k) os) :=
  ⟨rfl, rfl, rfl, by show w.heap.size ≤ (w.heap ++ os).size; simp, fun i hi => Go.Sort.heap_grow_old _ _ hi⟩
theorem below_cell_ {w W : World} {g j : Nat} {v : Value} (h : Below w.heap.size w W) (hg : w.heap.size ≤ g) : Below w.heap.size w (W.setCell ⟨g, j, none⟩ v) := h.setCell (p := ⟨g, j, none⟩) hg _
/-- A number's decimal text. -/
def itoaS (n : Int) : ByteArray := ⟨(Go.Lib.itoa n).toArray⟩
theorem itoa_walk (n : Int) (h0 : -9223372036854775808 ≤ n) (h1 : n ≤ 9223372036854775807) (w : World) (ht : Tab w) :
    Calls Tryd.prog 25 #[.int .i64 n] w fun e w' => e = .returned (.string (itoaS n)) ∧ Below w.heap.size w w' :=
  (Tryd.strconv_Itoa n h0 h1 w ht).mono fun _ _ ⟨he, k, os, hw⟩ => ⟨he, by rw [hw]; exact below_grow_ w k os⟩
end Go.Proofs.YtemnodpabflkoaaDoorW.PrintLast
