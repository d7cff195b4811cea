/- RatePieces: contracts and the law's walk. Each theorem names its conditions. -/

import Derived.Test.YtblgfmjlajhipaaGreatDoorKpa2
import Derived.Test.YtblgfmjlajhipaaGreatDoorKpa3
set_option maxHeartbeats 16000000
set_option linter.unusedVariables false
namespace Go.Proofs.YtblgfmjlajhipaaGreatDoor
open Go.ChangeShapes Go.WideShapes Go.ChangeAt Go.RowKit Go.Deep Go.Shelf
section
variable {H:Type} {enc:TypeId × Value→H} {W:World}
set_option maxRecDepth 100000 in
theorem trod_trip {n:Nat} {cs:List Value} {d:DataW H} {q:List MemPlace} (h:DataW.trod enc Tryz.prog W 0 (fun _=>true) true n 34 cs=some (d,q)) :
  ∃p:T3,cs=[.int .i64 p.1,.int .i64 p.2.1,.int .i64 p.2.2]∧I64 p.1∧I64 p.2.1∧I64 p.2.2:=by
 obtain ⟨xs,m,-,-,hl,hxl,k⟩:=DataW.trod_array Tryz.underlying34 h;have c0:Tryz.prog.cellsOf 3=1:=by kernel_rfl
 have c2:Tryz.prog.cellsOf 34=3:=by kernel_rfl
 rw [c2] at hl;have key:∀i,i<3→∃z:Int,I64 z∧cs[i]? =some (.int .i64 z):=by
  intro i hi;have e:=k i hi;rw [c0,Nat.mul_one] at e;cases hy:xs[i]? with
  | none=>simp [hxl,hi] at hy
  | some y =>
   rw [hy] at e;obtain ⟨z,hz,-,hw⟩:=DataW.trod_int Tryz.underlying3 e;exact ⟨z,wf_rng hw,take_val hz⟩
 obtain ⟨x,x1,x2⟩:=key 0 (by decide);obtain ⟨y,y1,y2⟩:=key 1 (by decide);obtain ⟨z,z1,z2⟩:=key 2 (by decide);exact ⟨(x,y,z),three_vals hl x2 y2 z2,x1,y1,z1⟩
set_option maxRecDepth 100000 in
theorem arg_trips {base:Nat} {v:Value} {d:DataW H} {p:List MemPlace} (hval:Value.okWide Tryz.prog W .any base 33 v) (h:DataW.Trod enc Tryz.prog W 0 (fun _=>true) true 33 v d p) :
  ∃pp n cap,∃l:List T3,v=.slice pp n cap∧Cut3 W v n l∧I3 l :=
 arg_rows (c:=3) (m:=8) (fun q:T3=>[.int .i64 q.1,.int .i64 q.2.1,.int .i64 q.2.2]) (fun b _=>I64 b.1∧I64 b.2.1∧I64 b.2.2) (fun _ _ _ h _=>h) (fun _=>rfl) (by decide) Tryz.underlying33 (by kernel_rfl) (fun _ _ _ _ h=>trod_trip h) hval h
end
end Go.Proofs.YtblgfmjlajhipaaGreatDoor
