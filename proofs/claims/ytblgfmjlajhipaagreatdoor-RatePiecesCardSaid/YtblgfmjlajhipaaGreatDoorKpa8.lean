/- RatePieces: contracts and the law's walk. Each theorem names its conditions. -/
import Derived.Test.YtblgfmjlajhipaaGreatDoorCards
import Derived.Test.YtblgfmjlajhipaaGreatDoorTie
import Derived.WalkKit
import Derived.ProofKit
import Derived.OpenShut
import Derived.LaidMore
import Derived.Deep.DeepHandedRow
import Derived.Deep.DeepWitnessRowRef
import Derived.Stop.LaidErr
import Derived.Below
import Derived.Test.YtblgfmjlajhipaaGreatDoorZd4
import Derived.Test.YtblgfmjlajhipaaGreatDoorZb5
import Derived.Test.YtblgfmjlajhipaaGreatDoorZb4
import Derived.Test.YtblgfmjlajhipaaGreatDoorKpa2
import Derived.Test.YtblgfmjlajhipaaGreatDoorKpa4
import Derived.Test.YtblgfmjlajhipaaGreatDoorKpa7
set_option maxHeartbeats 16000000
set_option linter.unusedVariables false
namespace Go.Proofs.YtblgfmjlajhipaaGreatDoor.ratePieces
open Go.ChangeShapes Go.WideShapes Go.ChangeAt Go.RowKit Go
theorem cel1:Tryz.prog.cellsOf 3=1:=by kernel_rfl
theorem arr1:Tryz.prog.cellsOf 34=3:=by kernel_rfl
theorem cel2:Tryz.prog.cellsOf 3=1:=by kernel_rfl
theorem arr2:Tryz.prog.cellsOf 34=3:=by kernel_rfl
set_option maxRecDepth 100000 in
theorem contract (H:Type) (enc:TypeId × Value→H) (W:World) (base:Nat) (args:Array Value) (ds gs:List (DataW H)) (before:List MemPlace)
  (hval:∀(j:Nat) t v,Tryz.f5.params[j]? =some t→args[j]? =some v→Value.okWide Tryz.prog W .any base t v)
  (hW:DataW.Whole enc Tryz.prog Tryz.f5.params.toList Rows.ratePiecesSpec.vars false W args.toList ds gs before) :
  Calls Tryz.prog 5 args W fun e W' =>∃v,e=.returned v∧Rows.ratePiecesSpec.post enc Tryz.prog Tryz.f5 false true false false W args v W' :=by
 have hW' :=hW;obtain ⟨p,q,hA0,hV,rfl,hfz,hnd⟩:=hW;have hA:DataW.TrodAll enc Tryz.prog W 0 (fun _=>true) true Tryz.f5.params.toList args.toList ds p:=hA0;rw [Tryz.params5] at hA hval;obtain ⟨v0,vs0,d0,ds0,p0,q0,hargs,rfl,rfl,h0,r0⟩:=trodAll_cons hA;obtain ⟨v1,vs1,d1,ds1,p1,q1,rfl,rfl,rfl,h1,r1⟩:=trodAll_cons r0;obtain ⟨v2,vs2,d2,ds2,p2,q2,rfl,rfl,rfl,h2,r2⟩:=trodAll_cons r1;obtain ⟨rfl,rfl,rfl⟩:=trodAll_nil r2;obtain rfl:args=#[v0,v1,v2]:=by cases args;simp_all
 obtain ⟨rfl,rfl⟩:=trodVars_none hV;have lt0:∀x ∈ p0,x.block<W.heap.size:=fun x hx=>hW'.lt x (by simp [hx])
 obtain ⟨pp0,n0,cap0,l0,rfl,hC0,hI0⟩:=arg_trips (hval 0 33 v0 rfl rfl) h0;obtain ⟨xs1,hl1,rfl,rfl,rfl,w1⟩:=open_ints Tryz.underlying34 Tryz.underlying3 cel1 arr1 (hval 1 34 v1 rfl rfl) h1;obtain ⟨x1_0,x1_1,x1_2,rfl⟩:=list3 xs1 hl1;obtain ⟨xs2,hl2,rfl,rfl,rfl,w2⟩:=open_ints Tryz.underlying34 Tryz.underlying3 cel2 arr2 (hval 2 34 v2 rfl rfl) h2;obtain ⟨x2_0,x2_1,x2_2,rfl⟩:=list3 xs2 hl2;clear hA0;simp only [List.append_nil] at hW';refine (pieces_law pp0 n0 cap0 l0 x1_0 x1_1 x1_2 x2_0 x2_1 x2_2 hI0 ⟨wf_rng (w1 _ (by simp)),wf_rng (w1 _ (by simp)),wf_rng (w1 _ (by simp))⟩ ⟨wf_rng (w2 _ (by simp)),wf_rng (w2 _ (by simp)),wf_rng (w2 _ (by simp))⟩ W hC0).mono fun e W' ⟨he,hb⟩=> ?_
 subst he;exact ⟨_,rfl,post_of_below (pv:=[]) hW' (fun _ _ _=>(trodAll_cons_mk (shut_bool Tryz.underlying4 _) trodAll_mk0)) (fun sp hsp=>(trodAll_cons_mk (WideElems.Trod_stays (by kernel_rfl) (by kernel_rfl) (of_decide_eq_true (by kernel_rfl)) h0 (fun x hx=>hb.same (lt0 x hx)) (fun x hx=>hsp x (by simp [hx]))) (trodAll_cons_mk (shut_ints Tryz.underlying34 Tryz.underlying3 cel1 arr1 hl1 w1) (trodAll_cons_mk (shut_ints Tryz.underlying34 Tryz.underlying3 cel2 arr2 hl2 w2) trodAll_mk0)))) (fun _ _=>rfl) (by simp)
  hb (ok_one (by kernel_rfl) rfl (okWide_bool_mk Tryz.underlying4 _))⟩
theorem reads (os:Os) {H:Type} (enc:TypeId × Value→H):∃places,DataW.whole enc Tryz.prog ((laidWorld os).forCall (fun _ _=>0) ⟨#[],#[.slice none 0 0,.agg #[.int .i64 0,.int .i64 0,.int .i64 0],.agg #[.int .i64 0,.int .i64 0,.int .i64 0]],[]⟩).memory Tryz.f5.params.toList Rows.ratePiecesSpec.vars false (#[Value.slice none 0 0,Value.agg #[.int .i64 0,.int .i64 0,.int .i64 0],Value.agg #[.int .i64 0,.int .i64 0,.int .i64 0]]:Array Value).toList 8=some ([.nil,.agg [.lit (.int .i64 0),.lit (.int .i64 0),.lit (.int .i64 0)],.agg [.lit (.int .i64 0),.lit (.int .i64 0),.lit (.int .i64 0)]],[],places) :=
 ⟨[],by kernel_rfl⟩
set_option maxRecDepth 100000 in
theorem lifted (os:Os) (started:os.Started) (H:Type) (enc:TypeId × Value→H) (F:Stop.Interp) :
  ReturnsInHanded {} Tryz.checked os 5 .any ((OpenSpec.ofChange Rows.ratePiecesSpec).preRow enc Tryz.prog Tryz.f5 Rows.ratePiecesRow.domain false Rows.ratePiecesRow.laid) (((OpenSpec.ofChange Rows.ratePiecesSpec).at F).post enc Tryz.prog Tryz.f5 false true false false):=by
 obtain ⟨places,hx⟩:=reads os enc;refine returnsInHanded_of_row (C:=Tryz.checked) (s:=(OpenSpec.ofChange Rows.ratePiecesSpec)) own started (by kernel_rfl) Tryz.func5
  (witness_row_atRef (enc:=enc) (C:=Tryz.checked) false (laidWorld os) #[.slice none 0 0,.agg #[.int .i64 0,.int .i64 0,.int .i64 0],.agg #[.int .i64 0,.int .i64 0,.int .i64 0]] rfl (by kernel_rfl) (by kernel_rfl) (by kernel_rfl)
   (OpenSpec.preRow_of_cond 8 hx (by kernel_rfl) (fun k hk=>by cases hk) (by kernel_rfl) (laid_met os _))) ?_
 intro W base args ds gs before hval hW _ _ _ hL hsh _;exact contract H enc W base args ds gs before hval hW
theorem said:Rows.RatePiecesSaid :=
 OpenClaim.holds_of_cond 5 Tryz.f5 rfl rfl rfl rfl rfl rfl rfl ⟨rfl,rfl,rfl,rfl,rfl⟩ rfl rfl rfl rfl rfl (by kernel_rfl) Tryz.func5 (by kernel_rfl)
  (of_decide_eq_true (by kernel_rfl)) (by unfold Func.isWrapper;first|(rw [if_pos (by decide+kernel)];kernel_rfl)|(rw [if_neg (by decide+kernel)];exact ⟨rfl,rfl⟩))
  (fun os started H enc _ F=>by rw [OpenClaim.pre_eq_preRow];exact lifted os started H enc F)
theorem plain (f:FuncId) (fn:Func) (hf:Tryz.pinned.checked.prog.funcNamed "tithing/tithinglaw06.RatePieces" =some f) (hfn:Tryz.pinned.checked.prog.funcs[f]? =some fn) :
  false=Tryz.pinned.checked.prog.looks []∧∀(j:Nat) t,fn.params[j]? =some t→Tryz.pinned.checked.prog.wantsStandIn t=false:=by
 obtain rfl:f=5:=Option.some.inj ((show Tryz.prog.funcNamed "tithing/tithinglaw06.RatePieces" =some 5 by kernel_rfl).symm.trans hf) |>.symm
 obtain rfl:fn=Tryz.f5:=(Option.some.inj (Tryz.func5.symm.trans hfn)).symm;refine ⟨by kernel_rfl,fun j t ht=> ?_⟩;rw [Tryz.params5] at ht;have hm:t ∈ [33,34,34]:=by simpa using Array.mem_of_getElem? ht
 have hall:([33,34,34].all fun u=> !Tryz.prog.wantsStandIn u)=true:=by kernel_rfl
 exact (show Tryz.prog.wantsStandIn t=false by simpa using List.all_eq_true.1 hall t hm)
theorem proved:Rows.RatePiecesCardSaid :=
 Claim7.holds_tied_plain_at .later [] _ _ _ _ said (fun _ h=>by cases h) (by kernel_rfl) (fun _ h=>by cases h) ratePieces_row_tie rfl ⟨rfl,rfl⟩ (by kernel_rfl) rfl plain (by kernel_rfl)
#print axioms proved
end Go.Proofs.YtblgfmjlajhipaaGreatDoor.ratePieces
