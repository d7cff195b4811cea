/- Contracts that the proofs of this seat share. Each theorem names its conditions. -/
import Derived.Test.YtabfjecegpaoaaaGreatDoorCards
import Derived.Test.YtabfjecegpaoaaaGreatDoorTie
import Derived.WalkKit
import Derived.ProofKit
import Derived.OpenShut
import Derived.LaidMore
import Derived.Deep.DeepHandedRow
import Derived.Deep.DeepWitnessRowRef
import Derived.Lib.LaidTab
import Derived.Lib.ItoaMem
import Derived.Stop.LaidErr
import Derived.Below
import Derived.Test.YtabfjecegpaoaaaGreatDoorRows
import Derived.ChangeSame
import Derived.Test.YtabfjecegpaoaaaGreatDoorZc2
set_option maxHeartbeats 16000000
set_option linter.unusedVariables false
namespace Go.Proofs.YtabfjecegpaoaaaGreatDoor
open Go.ChangeShapes Go.WideShapes Go.ChangeAt Go.RowKit Go
theorem own:ownKnob Tryz.prog.godebug=none:=by kernel_rfl
theorem gTab:Tryz.prog.globalNamed "internal/strconv.uint64pow10" =some 2:=by kernel_rfl
theorem gTabType:(Tryz.prog.globals[2]?).map (·.type)=some 185:=by kernel_rfl
theorem cells20:Tryz.prog.cellsOf 185=20:=by kernel_rfl
theorem cells64:Tryz.prog.cellsOf 126=1:=by kernel_rfl
def laid7:List (String × DataW Unit):=Rows.moneyRoundsRow.laid
theorem table {W:World} (h:laidMetH Tryz.prog laid7 W):Lib.TabIs Tryz.prog W "internal/strconv.uint64pow10" .u64 Lib.pow10Tab:=by
 have h' :laidMet Tryz.prog laid7 W:=h;have h2:=laidMet.tail (laidMet.tail h');exact Lib.tabIs_of_head gTab gTabType Tryz.underlying185 Tryz.underlying126 cells64 cells20 h2
noncomputable def laidWorld (os:Os):World :=
 { World.doorLaid Tryz.prog 400 os with heap:=(World.doorLaid Tryz.prog 400 os).heap.modify 4 fun
   | .cells _ t frozen=>.cells (Go.Pinned.utf8FirstZ.map fun z:Nat=>Value.int .u8 (z:Int)).toArray t frozen
   | o=>o }
set_option maxRecDepth 100000 in
theorem laid_met (os:Os) (args:Array Value):laidMet Tryz.prog laid7 ((laidWorld os).forCall (fun _ _=>0) ⟨#[],args,[]⟩).memory :=
 laidMet_of_run' 8 (by kernel_rfl) (by kernel_rfl)
theorem wf_rng {z:Int} (h:(Lit.int .i64 z).wf=true):inJ z:=bounds_i64 h
end Go.Proofs.YtabfjecegpaoaaaGreatDoor
