/- Contracts that the proofs of this seat share. Each theorem names its conditions. -/
import Derived.Test.YtblgfmjlajhipaaGreatDoorCards
import Derived.Test.YtblgfmjlajhipaaGreatDoorTie
import Derived.WalkKit
import Derived.ProofKit
import Derived.OpenShut
import Derived.LaidMore
import Derived.Deep.DeepHandedRow
import Derived.Deep.DeepWitnessRowRef
import Derived.Stop.LaidErr
import Derived.Below
import Derived.Test.YtblgfmjlajhipaaGreatDoorRows
import Derived.ChangeSame
import Derived.Test.YtblgfmjlajhipaaGreatDoorZb5
set_option maxHeartbeats 16000000
set_option linter.unusedVariables false
namespace Go.Proofs.YtblgfmjlajhipaaGreatDoor
open Go.ChangeShapes Go.WideShapes Go.ChangeAt Go.RowKit Go
theorem own:ownKnob Tryz.prog.godebug=none:=by kernel_rfl
def laid7:List (String × DataW Unit):=Rows.rateChecksRow.laid
noncomputable def laidWorld (os:Os):World :=
 { World.doorLaid Tryz.prog 400 os with heap:=(World.doorLaid Tryz.prog 400 os).heap.modify 0 fun
   | .cells _ t frozen=>.cells (Go.Pinned.utf8FirstZ.map fun z:Nat=>Value.int .u8 (z:Int)).toArray t frozen
   | o=>o }
set_option maxRecDepth 100000 in
theorem laid_met (os:Os) (args:Array Value):laidMet Tryz.prog laid7 ((laidWorld os).forCall (fun _ _=>0) ⟨#[],args,[]⟩).memory :=
 laidMet_of_run' 8 (by kernel_rfl) (by kernel_rfl)
theorem wf_rng {z:Int} (h:(Lit.int .i64 z).wf=true):inJ z:=bounds_i64 h
set_option maxRecDepth 100000 in
theorem open_rat {W:World} {base:Nat} {v:Value} (hval:Value.okWide Tryz.prog W .any base 29 v) :
  ∃neg n d,v=.agg #[.bool neg,.string n,.string d]∧(n.size:Int)≤9223372036854775807∧(d.size:Int)≤9223372036854775807:=by
 unfold Value.okWide at hval;rw [Tryz.underlying29] at hval;obtain ⟨cs,rfl,hs,ts,hts,-,hc⟩:=hval;have e1:Tryz.prog.cellTypes Tryz.prog.depth 29=some [4,27,27]:=by kernel_rfl
 have e2:Tryz.prog.cellsOf 29=3:=by kernel_rfl
 rw [e1] at hts;obtain rfl:=Option.some.inj hts;rw [e2] at hs;obtain ⟨x,y,z,rfl⟩:∃x y z,cs=#[x,y,z]:=by
  obtain ⟨l⟩:=cs
  match l,hs with
  | [x,y,z],_=>exact ⟨x,y,z,rfl⟩
 obtain ⟨u0,h0,k0⟩:=hc 0 x rfl;obtain ⟨u1,h1,k1⟩:=hc 1 y rfl;obtain ⟨u2,h2,k2⟩:=hc 2 z rfl;obtain rfl:4=u0:=Option.some.inj h0;obtain rfl:27=u1:=Option.some.inj h1;obtain rfl:27=u2:=Option.some.inj h2;unfold Cell.okWide at k0 k1 k2;rw [Tryz.underlying4] at k0;rw [Tryz.underlying27] at k1 k2;cases x<;>simp [Cell.ok,Tryz.underlying4] at k0
 cases y<;>simp [Cell.ok,Tryz.underlying27] at k1
 cases z<;>simp [Cell.ok,Tryz.underlying27] at k2
 exact ⟨_,_,_,rfl,by simpa [IntKind.max] using k1,by simpa [IntKind.max] using k2⟩
end Go.Proofs.YtblgfmjlajhipaaGreatDoor
