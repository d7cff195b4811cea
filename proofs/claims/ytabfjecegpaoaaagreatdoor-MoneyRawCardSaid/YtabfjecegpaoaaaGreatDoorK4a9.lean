/- MoneyRaw: for every input the law returns true, and each argument reads afterwards as it read before; the listed tables read as the program lays them (the tied card). -/
import Derived.WalkKit
import Derived.Deep.LoopGhost
import Derived.Deep.QuietTactic
import Derived.BigQuiet
import Derived.Test.YtabfjecegpaoaaaGreatDoorProg
import Derived.WalkSpells
import Derived.WalkLawsBesides
import Derived.IntWalk
import Derived.Lib.Hide
import Derived.Laws.BitsAllLaws
import Derived.StillTailTactics
import Derived.Deep.OwnRows
import Derived.Lib.ConvBytes
import Derived.Below
import Derived.RangeFuncNested
import Derived.RangeFuncCalls
import Derived.RangeFuncLeaves
import Derived.Shelf.Abstract
import Derived.Lib.LaidIn
import Derived.RegionTactic
import Derived.KernelRfl
import Derived.OrdersIn
import Derived.Shelf.Strings.Builder1
import Derived.Shelf.Strings.Builder2
import Derived.Shelf.Strings.Trim
import Derived.Shelf.Small.Utf8
import Derived.Shelf.Small.Bits
import Derived.Shelf.Small.Strs
import Derived.Shelf.Strings.BuilderF
import Derived.Shelf.Strings.BuilderK
import Derived.Shelf.Strings.Builder2Cap
import Derived.Shelf.Strconv.Atoi
import Derived.Shelf.Strconv.Itoa0
import Derived.Shelf.Strconv.Itoa1
import Derived.Shelf.LaysM
import Derived.Shelf.Strconv.Itoa2
import Derived.Shelf.Strconv.Itoa3
import Derived.Shelf.Strconv.AtoiErrFast
import Derived.Shelf.Strconv.ParseIntEmpty
import Derived.Shelf.Strconv.AtoiFail
import Derived.Shelf.Strconv.Clone
import Derived.Shelf.Strconv.SyntaxError
import Derived.Shelf.LaysC
import Derived.Shelf.Strconv.ToError
import Derived.Shelf.Strconv.Lower
import Derived.Shelf.Strconv.ParseUint10
import Derived.Shelf.Strconv.ParseUint10Empty
import Derived.Shelf.Strconv.ParseUint10Any
import Derived.Shelf.Strconv.ParseInt10
import Derived.Shelf.Strconv.AtoiLong
import Derived.Shelf.Strconv.AtoiInnerAll
import Derived.Shelf.Strconv.RangeError
import Derived.Shelf.Strconv.ToErrorRange
import Derived.Shelf.Strconv.AtoiAll
import Derived.Shelf.Strconv.ErrVarAll
import Derived.Shelf.Strconv.ParseUintEmpty
import Derived.Shelf.Strconv.ParseUint10b64
import Derived.Shelf.Strconv.ParseUint10b32
import Derived.Shelf.Strconv.ParseUint10b16
import Derived.Shelf.Strconv.ParseUint10b8
import Derived.Shelf.Strconv.ParseUint10At
import Derived.Shelf.Strconv.ParseInt10At64
import Derived.Shelf.Strconv.ParseInt10At32
import Derived.Shelf.Strconv.ParseInt10At16
import Derived.Shelf.Strconv.ParseInt10At8
import Derived.Shelf.Strconv.ParseInt10All
import Derived.Shelf.Strings.Search1
import Derived.Shelf.GgClosure.StringsIndexFunc
import Derived.Ground.GgwProg
import Derived.Shelf.GgClosure.StringsIndexFuncTop
import Derived.Shelf.GgClosure.StringsRunes
import Derived.Shelf.Strings.Prefix
import Derived.Shelf.Unicode.Decode
import Derived.Shelf.Strings.Runes
import Derived.Shelf.Strings.AsciiSet
import Derived.Shelf.Bits.Mul64
import Derived.Shelf.Strings.Repeat
import Derived.Shelf.Unicode.DecodeSlow
import Derived.Shelf.Unicode.DecodeAny
import Derived.Shelf.Strings.FuncGrows
import Derived.Shelf.Strings.BuilderCap
import Derived.OwnWalkIn
import Derived.TacticsInMore
import Derived.LoopNIn
import Derived.LoopIn
import Derived.Deep.Strs
import Derived.Test.YtabfjecegpaoaaaGreatDoorK4a7
import Derived.Test.YtabfjecegpaoaaaGreatDoorK4a6
import Derived.Test.YtabfjecegpaoaaaGreatDoorZc2
import Derived.Test.YtabfjecegpaoaaaGreatDoorK4a2
import Derived.Test.YtabfjecegpaoaaaGreatDoorZb6
import Derived.Test.YtabfjecegpaoaaaGreatDoorZb2
import Derived.Test.YtabfjecegpaoaaaGreatDoorZb1
import Derived.Test.YtabfjecegpaoaaaGreatDoorZa6
import Derived.Test.YtabfjecegpaoaaaGreatDoorZa5
import Derived.Test.YtabfjecegpaoaaaGreatDoorZa4
import Derived.Test.YtabfjecegpaoaaaGreatDoorZa3
import Derived.Test.YtabfjecegpaoaaaGreatDoorZa0
import Derived.Test.YtabfjecegpaoaaaGreatDoorZa1
import Derived.Test.YtabfjecegpaoaaaGreatDoorZa2
import Derived.Test.YtabfjecegpaoaaaGreatDoorZc4
import Derived.Test.YtabfjecegpaoaaaGreatDoorZb4
import Derived.Test.YtabfjecegpaoaaaGreatDoorZb3
import Derived.Test.YtabfjecegpaoaaaGreatDoorZb5
import Derived.Test.YtabfjecegpaoaaaGreatDoorZb8
import Derived.Test.YtabfjecegpaoaaaGreatDoorZb7
import Derived.Test.YtabfjecegpaoaaaGreatDoorZc1
import Derived.Test.YtabfjecegpaoaaaGreatDoorK4a8
import Derived.Test.YtabfjecegpaoaaaGreatDoorZc6
import Derived.Test.YtabfjecegpaoaaaGreatDoorZc8
set_option maxHeartbeats 16000000
set_option linter.unusedVariables false
namespace Go.Proofs.YtabfjecegpaoaaaGreatDoor
open Go.RowKit Go.Shelf
open Dgt
set_option maxRecDepth 100000 in
theorem rSplit_no {na:Bool} {sa da:ByteArray} {c:Int} {okc:Bool} {ls:List Rw} (hc:∀w,Gv 49 #[.agg #[.bool na,.string sa,.string da]] w (.tuple #[.int .i64 c,.bool okc])) (hz:SzL ls 1000) (hn:ls.length≤20) (hno:okc=true→sharesB ls=false) (v:Value) (wq:World) (hl:LstR wq v ls) :
  Gv 21 #[.agg #[.bool na,.string sa,.string da],v] wq (.tuple #[.slice none 0 0,.bool false]):=by
 unfold Gv;have c2:∀w,Below wq.heap.size wq w→_:=fun w h=>shares_any ls v w (hl.up h) hn hz
 obtain ⟨sb,hsb⟩:∃b,sharesB ls=b:=⟨_,rfl⟩;rw [hsb] at c2 hno;have HNO:=hD hno;have C1:Hid (∀w,Gv 49 #[.agg #[.bool na,.string sa,.string da]] w (.tuple #[.int .i64 c,.bool okc])):=hD hc;have C2:Hid (∀w,Below wq.heap.size wq w→Gv 67 #[v] w (.bool sb)):=hD c2;clear c2 hc hz hl hn hno hsb;have HB:=hD (Below.refl wq.heap.size wq);obtain ⟨n0,hn0⟩:∃n,n=wq.heap.size:=⟨_,rfl⟩;rw [←hn0];have HN0:=hD hn0;clear hn0;go_enter Tryz.func21,Tryz.ntmps21;obtain ⟨W1,bk2,hW1,hbk2,HX2_1,HB,HG2_1,hup⟩:=boxS HB HN0 na sa da;clear hup;obtain ⟨k2a,k2b,k2c⟩:=c3 HX2_1;go_wp2_with fail;clear hW1 hbk2 k2a k2b k2c;refine (C1.out _).mono ?_;rintro e w2 ⟨rfl,hb⟩;have HX2_1:=uH hb HX2_1;have HB:=mH HB hb;clear hb;go_wp2_with fail;refine (C2.out _ HB.out).mono ?_;rintro e w3 ⟨rfl,hb⟩;have HX2_1:=uH hb HX2_1;have HB:=mH HB hb;clear hb;cases okc
 case false =>
  go_wp2_with fail;go_ret2;exact ⟨rfl,by rw [HN0.out];exact HB.out⟩
 case true =>
  obtain rfl:sb=false:=HNO.out rfl;go_wp2_with fail;go_ret2;exact ⟨rfl,by rw [HN0.out];exact HB.out⟩
end Go.Proofs.YtabfjecegpaoaaaGreatDoor
namespace Go.Proofs.YtabfjecegpaoaaaGreatDoor
open Go.RowKit Go.Shelf Go
open Dgt
section
variable {c:Int} {l:List Rt}
theorem lst_nil (W:World):LstR W (.slice none 0 0) (([]:List Rt).map rawR):=.inl ⟨rfl,rfl⟩
theorem shares_raw (ho:∀a ∈ l,a.Ok) (hn:∀a ∈ l,a.neg=false) (h:¬0<sgnR (sumT l)):sharesB (l.map rawR)=false:=by
 unfold sharesB;rw [sumT_raw ho,decide_eq_false h];simp
end
theorem rows_of:∀{ls:List Rw},SzL ls 1000→ls.any Rw.bad=false→∃l:List Rt,ls=l.map rawR∧(∀a ∈ l,a.Ok)∧(∀a ∈ l,a.neg=false)∧∀a ∈ l,Rz a 1000
 | [],_,_=>⟨[],rfl,by simp,by simp,by simp⟩
 | r::t,hz,h=>by
  rw [List.any_cons,Bool.or_eq_false_iff] at h;obtain ⟨l,e,o,n,z⟩:=rows_of (fun x hx=>hz x (List.mem_cons_of_mem _ hx)) h.2;have hr:=hz r List.mem_cons_self;have h1:r.right=true∧r.neg=false:=by have:=h.1;unfold Rw.bad at this;simpa using this
  obtain ⟨a,oa,ka,e1,e2,e3,-⟩:=right_row h1.1 hr.1 hr.2;have er:r=rawR a:=by
   obtain ⟨x,y,w⟩:=r;unfold rawR;rw [show x=a.neg from e1,show y=encS a.num from e2,show w=encS a.den from e3]
  refine ⟨a::l,by rw [List.map_cons, ←e, ←er],fun b hb=> ?_,fun b hb=> ?_,fun b hb=> ?_⟩
  ·rcases List.mem_cons.1 hb with rfl|hb
   ·exact oa
   ·exact o b hb
  ·rcases List.mem_cons.1 hb with rfl|hb
   ·rw [←e1];exact h1.2
   ·exact n b hb
  ·rcases List.mem_cons.1 hb with rfl|hb
   ·exact ka
   ·exact z b hb
def Both (na:Bool) (sa da:ByteArray) (ls:List Rw) (ok:Bool) (G:List Rt→Prop):Prop :=
 (∀v w,LstR w v ls→Calls Tryz.prog 19 #[.agg #[.bool na,.string sa,.string da],v] w fun e w' =>∃vp P,e=.returned (.tuple #[vp,.bool ok])∧LstR w' vp (P.map rawR)∧G P∧Below w.heap.size w w') ∧
 ∀P,G P→∀v w,LstR w v ls→Calls Tryz.prog 21 #[.agg #[.bool na,.string sa,.string da],v] w fun e w' =>∃vp,e=.returned (.tuple #[vp,.bool ok])∧LstR w' vp (P.map rawR)∧Below w.heap.size w w'
theorem both_no {na:Bool} {sa da:ByteArray} {ls:List Rw} {c:Int} {okc:Bool} (hz:SzL ls 1000) (hn:ls.length≤8)
  (hm:∀w,Gv 29 #[.agg #[.bool na,.string sa,.string da]] w (.tuple #[.int .i64 c,.bool okc]))
  (hr:∀w,Gv 49 #[.agg #[.bool na,.string sa,.string da]] w (.tuple #[.int .i64 c,.bool okc]))
  (h1:okc=true→0<sgnR (sumL ls zeroR)→ls.any Rw.bad=true) (h2:okc=true→sharesB ls=false):Both na sa da ls false (· =[]):=by
 refine ⟨fun v w hl=>(MoSplit_no hm hz (by omega) h1 v w hl).mono fun e w' ⟨he,hb⟩=>⟨_,[],he,lst_nil w',rfl,hb⟩,fun P hP v w hl=> ?_⟩;subst hP;exact (rSplit_no hr hz (by omega) h2 v w hl).mono fun e w' ⟨he,hb⟩=>⟨_,he,lst_nil w',hb⟩
theorem Split_both (na:Bool) (sa da:ByteArray) (ls:List Rw) (za:sa.size≤90000) (zda:da.size≤90000) (hz:SzL ls 1000) (h8:ls.length≤8):∃ok G,Both na sa da ls ok G:=by
 by_cases hr:rightR na sa da=true
 ·obtain ⟨a,oa,ka,rfl,rfl,rfl,-⟩:=right_row hr za zda;have c1:=fun w=>MoCents_r oa ka w;have c2:=fun w=>rCents_r oa ka w
  unfold centsV at c1 c2
  by_cases hk:centsOk a=true
  ·by_cases hb:ls.any Rw.bad=false
   ·obtain ⟨l,rfl,ho,hn,hz'⟩:=rows_of hz hb;rw [List.length_map] at h8
    by_cases hp:0<sgnR (sumT l)
    ·obtain ⟨hw,hn1⟩:=wts_of ho hn hp;refine ⟨true,fun P=>∃s,OrdS (centsI a) l s∧P=partsT (centsI a) l s,fun v w hl=> ?_,fun P hP v w hl=> ?_⟩
     ·refine (MoSplit_r oa ka hk hw hz' hn1 h8 v w hl).mono fun e w' ⟨g,s,hs,he,hg,hc,hb⟩=> ?_
      refine ⟨.slice (some ⟨g,0,none⟩) l.length l.length,partsT (centsI a) l s,he,?_,⟨s,hs,rfl⟩,hb⟩;have h2:=lit_lstR (l:=(partsT (centsI a) l s).map rawR) (cap:=l.length) (by rw [←cel_cells3];exact hc) (by rw [List.length_map,parts_len];omega) (by rw [List.length_map,parts_len]);rw [List.length_map,parts_len] at h2;exact h2
     ·obtain ⟨s,hs,rfl⟩:=hP;exact rSplit_c oa ka hk hw hz' hn1 h8 hs v w hl
    ·have hsr:sumL (l.map rawR) zeroR=sumT l:=sumT_raw ho;exact ⟨false,_,both_no (by exact hz) (by rw [List.length_map];exact h8) c1 c2 (fun _ h=>by rw [hsr] at h;exact absurd h hp) (fun _=>shares_raw ho hn hp)⟩
   ·have hb:ls.any Rw.bad=true:=by simpa using hb
    exact ⟨false,_,both_no hz h8 c1 c2 (fun _ _=>hb) (fun _=>by unfold sharesB;rw [hb];simp)⟩
  ·rw [show centsOk a=false by simpa using hk] at c1 c2;exact ⟨false,_,both_no hz h8 c1 c2 (fun h=>by cases h) (fun h=>by cases h)⟩
 ·have h:rightR na sa da=false:=by simpa using hr
  exact ⟨false,_,both_no hz h8 (fun w=>MoCents_no na sa da (by omega) (by omega) h w) (fun w=>rCents_no na sa da (by omega) (by omega) h w) (fun h=>by cases h) (fun h=>by cases h)⟩
def ArgR (W:World) (v:Value):Prop:=∃p len cap,v=.slice p len cap∧len≤9223372036854775807 ∧
 ∀i,i<len→∃g off x y z,p=some ⟨g,off,none⟩∧g<W.heap.size∧y.size≤9223372036854775807∧z.size≤9223372036854775807∧W.cell? ⟨g,off+i*3,none⟩=some (.bool x)∧W.cell? ⟨g,off+i*3+1,none⟩=some (.string y)∧W.cell? ⟨g,off+i*3+2,none⟩=some (.string z)
theorem ArgR.up {A W:World} {v:Value} (h:ArgR A v) (hb:Below A.heap.size A W):ArgR W v:=by
 obtain ⟨p,len,cap,h1,h2,h3⟩:=h;refine ⟨p,len,cap,h1,h2,fun i hi=> ?_⟩;obtain ⟨g,off,x,y,z,k1,k2,k3,k4,k5,k6,k7⟩:=h3 i hi;exact ⟨g,off,x,y,z,k1,Nat.lt_of_lt_of_le k2 hb.size,k3,k4,by rw [clU hb k2];exact k5,by rw [clU hb k2];exact k6,by rw [clU hb k2];exact k7⟩
end Go.Proofs.YtabfjecegpaoaaaGreatDoor
namespace Go.Proofs.YtabfjecegpaoaaaGreatDoor
open Go.ChangeShapes Go.WideShapes Go.ChangeAt Go.RowKit Go.Deep Go.Shelf
section
variable {H:Type} {enc:TypeId × Value→H} {W:World}
set_option maxRecDepth 100000 in
theorem arg_rats {fuel:Nat} {v:Value} {x:DataW H × List MemPlace} (h:DataW.trod enc Tryz.prog W 0 (fun _=>true) true fuel 32 [v]=some x):ArgR W v:=by
 have hcu:Tryz.prog.cellsOf 4=1:=by kernel_rfl
 have hcn:Tryz.prog.cellsOf 24=1:=by kernel_rfl
 have hce:Tryz.prog.cellsOf 26=3:=by kernel_rfl
 rcases open_slice Tryz.underlying32 h with ⟨hc,hx⟩|⟨a,len,cap,m,n,D,Pl,hc,hb,hl,hm,hmm,hx,hel⟩
 ·simp at hc;subst hc;exact ⟨none,0,0,rfl,by omega,fun i h=>absurd h (by omega)⟩
 ·simp at hc;subst hc;simp only [if_true] at hmm;subst hmm;have hcc:∀i,i<len→∃x y z,y.size≤maxLen∧z.size≤maxLen∧W.cell? (a.add (i*3))=some (.bool x)∧W.cell? (a.add (i*3+1))=some (.string y)∧W.cell? (a.add (i*3+2))=some (.string z):=by
   intro i hi;obtain ⟨cs,h1,h2⟩:=hel i (by omega);rw [hce] at h1;obtain ⟨_,hlen,hcell⟩:=World.cells?_some h1;obtain ⟨y0,y1,y2,k,-,-,e0,e1,e2⟩:=trod_struct3 Tryz.underlying26 h2
   match cs,hlen with
   | [c0,c1,c2],_ =>
    simp only [hcu,hcn,List.drop_zero,List.drop_succ_cons,List.take_succ_cons,List.take_zero] at e0 e1 e2;obtain ⟨b,hb',-⟩:=DataW.trod_bool Tryz.underlying4 e0;obtain ⟨s,hs,-,zs⟩:=DataW.trod_string Tryz.underlying24 e1;obtain ⟨t,ht,-,zt⟩:=DataW.trod_string Tryz.underlying24 e2;simp at hb' hs ht;subst hb' hs ht;have q0:=hcell 0 (by omega);have q1:=hcell 1 (by omega);have q2:=hcell 2 (by omega);rw [add_add3] at q0 q1 q2;exact ⟨b,s,t,zs,zt,by simpa using q0,by simpa using q1,by simpa using q2⟩
  refine ⟨some a,_,_,rfl,by unfold maxLen at hm;omega,fun i hi=> ?_⟩;obtain ⟨x,y,z,h1,h2,h3,h4,h5⟩:=hcc i hi;obtain ⟨_,_,_,_,_,h0,_⟩:=hcc 0 (by omega);obtain ⟨g,off,spot⟩:=a;have hspot:spot=none:=by
   have:=World.cell?_spot h0;simpa [Addr.add] using this
  subst hspot;rw [add_plain3] at h3 h4 h5;exact ⟨g,off,x,y,z,rfl,block_lt3 h3,by unfold maxLen at h1;omega,by unfold maxLen at h2;omega,h3,by rw [Nat.add_assoc];exact h4,by rw [Nat.add_assoc];exact h5⟩
set_option maxRecDepth 100000 in
theorem arg_rest {base:Nat} {v:Value} {d:DataW H} {p:List MemPlace} (hval:Value.okWide Tryz.prog W .any base 34 v) (h:DataW.Trod enc Tryz.prog W 0 (fun _=>true) true 34 v d p):∃c u,v=.agg #[.int .i64 c,u]∧inJ c∧ArgR W u:=by
 have hcu:Tryz.prog.cellsOf 3=1:=by kernel_rfl
 have hcn:Tryz.prog.cellsOf 32=1:=by kernel_rfl
 have hce:Tryz.prog.cellsOf 34=2:=by kernel_rfl
 unfold Value.okWide at hval;rw [Tryz.underlying34] at hval;obtain ⟨cs,rfl,hs,-⟩:=hval;rw [hce] at hs;obtain ⟨x,y,rfl⟩:∃x y,cs=#[x,y]:=by
  obtain ⟨l⟩:=cs
  match l,hs with
  | [x,y],_=>exact ⟨x,y,rfl⟩
 obtain ⟨fuel,hf⟩:=h;obtain ⟨y0,y1,k,-,-,e0,e1⟩:=trod_struct2 Tryz.underlying34 hf;simp only [Value.cells,hcu,hcn,List.drop_zero,List.drop_succ_cons,List.take_succ_cons,List.take_zero] at e0 e1;obtain ⟨z,hz,-,hw⟩:=DataW.trod_int Tryz.underlying3 e0;simp at hz;subst hz;exact ⟨z,y,rfl,wf_rng hw,arg_rats e1⟩
end
end Go.Proofs.YtabfjecegpaoaaaGreatDoor
