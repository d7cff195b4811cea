/- What the ten rows of this seat share: the listed variables, a world that lays them. -/
import Derived.Test.YtakbkbmjeanboaaGreatDoorCards
import Derived.Test.YtakbkbmjeanboaaGreatDoorTie
import Derived.WalkKit
import Derived.ProofKit
import Derived.OpenShut
import Derived.LaidMore
import Derived.Deep.DeepHandedRow
import Derived.Deep.DeepWitnessRowRef
import Derived.Lib.LaidTab
import Derived.Lib.ItoaMem
import Derived.Stop.LaidErr
import Derived.Below
namespace Go.Proofs.YtakbkbmjeanboaaGreatDoor
open Go.ChangeShapes Go.WideShapes Go.ChangeAt Go.RowKit Go
set_option linter.unusedVariables false

theorem own : ownKnob Tryz.prog.godebug = none := by kernel_rfl
theorem gTab : Tryz.prog.globalNamed "internal/strconv.uint64pow10" = some 2 := by kernel_rfl
theorem gTabType : (Tryz.prog.globals[2]?).map (·.type) = some 149 := by kernel_rfl
theorem cells20 : Tryz.prog.cellsOf 149 = 20 := by kernel_rfl
theorem cells64 : Tryz.prog.cellsOf 90 = 1 := by kernel_rfl
/-- what the rows list -/
def laid7 : List (String × DataW Unit) := Rows.natDividesRow.laid
/-- WHAT THE ROW's LIST GIVES: the table of the powers of ten. -/
theorem table {W : World} (h : laidMetH Tryz.prog laid7 W) : Lib.TabIs Tryz.prog W "internal/strconv.uint64pow10" .u64 Lib.pow10Tab := by
  have h' : laidMet Tryz.prog laid7 W := h
  have h2 := laidMet.tail (laidMet.tail h')
  exact Lib.tabIs_of_head gTab gTabType Tryz.underlying149 Tryz.underlying90 cells64 cells20 h2
/-- A WORLD FOR THE WITNESS: the door's own, and the table unicode/utf8.first laid. -/
noncomputable def laidWorld (os : Os) : World :=
  { World.doorLaid Tryz.prog 400 os with heap := (World.doorLaid Tryz.prog 400 os).heap.modify 4 fun
      | .cells _ t frozen => .cells (Go.Pinned.utf8FirstZ.map fun z : Nat => Value.int .u8 (z : Int)).toArray t frozen
      | o => o }
set_option maxRecDepth 100000 in
theorem laid_met (os : Os) (args : Array Value) : laidMet Tryz.prog laid7 ((laidWorld os).forCall (fun _ _ => 0) ⟨#[], args, []⟩).memory :=
  laidMet_of_run' 8 (by kernel_rfl) (by kernel_rfl)
end Go.Proofs.YtakbkbmjeanboaaGreatDoor
