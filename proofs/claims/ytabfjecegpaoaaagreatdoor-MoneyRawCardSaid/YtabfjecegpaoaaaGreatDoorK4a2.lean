/- MoneyRaw: for every input the law returns true, and each argument reads afterwards as it read before; the listed tables read as the program lays them (the tied card). -/
import Derived.Test.YtabfjecegpaoaaaGreatDoorRows
import Derived.WalkKit
import Derived.ProofKit
import Derived.OpenShut
import Derived.Below
import Derived.ChangeSame
import Derived.Test.YtabfjecegpaoaaaGreatDoorCards
import Derived.Test.YtabfjecegpaoaaaGreatDoorTie
import Derived.LaidMore
import Derived.Deep.DeepHandedRow
import Derived.Deep.DeepWitnessRowRef
import Derived.Lib.LaidTab
import Derived.Lib.ItoaMem
import Derived.Stop.LaidErr
import Derived.Deep.SlicePairs
import Derived.Carry
import Derived.Deep.LoopGhost
import Derived.Deep.QuietTactic
import Derived.BigQuiet
import Derived.Test.YtabfjecegpaoaaaGreatDoorProg
import Derived.WalkSpells
import Derived.WalkLawsBesides
import Derived.IntWalk
import Derived.Lib.Hide
import Derived.Laws.BitsAllLaws
import Derived.StillTailTactics
import Derived.Deep.OwnRows
import Derived.Lib.ConvBytes
import Derived.RangeFuncNested
import Derived.RangeFuncCalls
import Derived.RangeFuncLeaves
import Derived.Shelf.Abstract
import Derived.Lib.LaidIn
import Derived.RegionTactic
import Derived.KernelRfl
import Derived.OrdersIn
import Derived.Shelf.Strings.Builder1
import Derived.Shelf.Strings.Builder2
import Derived.Shelf.Strings.Trim
import Derived.Shelf.Small.Utf8
import Derived.Shelf.Small.Bits
import Derived.Shelf.Small.Strs
import Derived.Shelf.Strings.BuilderF
import Derived.Shelf.Strings.BuilderK
import Derived.Shelf.Strings.Builder2Cap
import Derived.Shelf.Strconv.Atoi
import Derived.Shelf.Strconv.Itoa0
import Derived.Shelf.Strconv.Itoa1
import Derived.Shelf.LaysM
import Derived.Shelf.Strconv.Itoa2
import Derived.Shelf.Strconv.Itoa3
import Derived.Shelf.Strconv.AtoiErrFast
import Derived.Shelf.Strconv.ParseIntEmpty
import Derived.Shelf.Strconv.AtoiFail
import Derived.Shelf.Strconv.Clone
import Derived.Shelf.Strconv.SyntaxError
import Derived.Shelf.LaysC
import Derived.Shelf.Strconv.ToError
import Derived.Shelf.Strconv.Lower
import Derived.Shelf.Strconv.ParseUint10
import Derived.Shelf.Strconv.ParseUint10Empty
import Derived.Shelf.Strconv.ParseUint10Any
import Derived.Shelf.Strconv.ParseInt10
import Derived.Shelf.Strconv.AtoiLong
import Derived.Shelf.Strconv.AtoiInnerAll
import Derived.Shelf.Strconv.RangeError
import Derived.Shelf.Strconv.ToErrorRange
import Derived.Shelf.Strconv.AtoiAll
import Derived.Shelf.Strconv.ErrVarAll
import Derived.Shelf.Strconv.ParseUintEmpty
import Derived.Shelf.Strconv.ParseUint10b64
import Derived.Shelf.Strconv.ParseUint10b32
import Derived.Shelf.Strconv.ParseUint10b16
import Derived.Shelf.Strconv.ParseUint10b8
import Derived.Shelf.Strconv.ParseUint10At
import Derived.Shelf.Strconv.ParseInt10At64
import Derived.Shelf.Strconv.ParseInt10At32
import Derived.Shelf.Strconv.ParseInt10At16
import Derived.Shelf.Strconv.ParseInt10At8
import Derived.Shelf.Strconv.ParseInt10All
import Derived.Shelf.Strings.Search1
import Derived.Shelf.GgClosure.StringsIndexFunc
import Derived.Ground.GgwProg
import Derived.Shelf.GgClosure.StringsIndexFuncTop
import Derived.Shelf.GgClosure.StringsRunes
import Derived.Shelf.Strings.Prefix
import Derived.Shelf.Unicode.Decode
import Derived.Shelf.Strings.Runes
import Derived.Shelf.Strings.AsciiSet
import Derived.Shelf.Bits.Mul64
import Derived.Shelf.Strings.Repeat
import Derived.Shelf.Unicode.DecodeSlow
import Derived.Shelf.Unicode.DecodeAny
import Derived.Shelf.Strings.FuncGrows
import Derived.Shelf.Strings.BuilderCap
import Derived.Lib.AtoiAll
import Derived.Lib.UnsafeStr
import Derived.Lib.AppendIntMem
import Derived.Lib.ItoaNum
import Derived.Lib.Itoa
import Derived.Laws.AppendOwnNone
import Derived.Lib.ItoaLen
import Derived.Test.YtabfjecegpaoaaaGreatDoorZb5
import Derived.Test.YtabfjecegpaoaaaGreatDoorK4a1
import Derived.Test.YtabfjecegpaoaaaGreatDoorZc2
import Derived.Test.YtabfjecegpaoaaaGreatDoorZc8
import Derived.Test.YtabfjecegpaoaaaGreatDoorZa6
import Derived.Test.YtabfjecegpaoaaaGreatDoorZa5
import Derived.Test.YtabfjecegpaoaaaGreatDoorZa4
import Derived.Test.YtabfjecegpaoaaaGreatDoorZa3
import Derived.Test.YtabfjecegpaoaaaGreatDoorZa0
import Derived.Test.YtabfjecegpaoaaaGreatDoorZa1
import Derived.Test.YtabfjecegpaoaaaGreatDoorZa2
import Derived.Test.YtabfjecegpaoaaaGreatDoorZa9
import Derived.Test.YtabfjecegpaoaaaGreatDoorZa8
import Derived.Test.YtabfjecegpaoaaaGreatDoorK4a0
import Derived.Test.YtabfjecegpaoaaaGreatDoorZb0
import Derived.Test.YtabfjecegpaoaaaGreatDoorZb1
import Derived.Test.YtabfjecegpaoaaaGreatDoorZb2
import Derived.Test.YtabfjecegpaoaaaGreatDoorZb9
import Derived.Test.YtabfjecegpaoaaaGreatDoorZb8
import Derived.Test.YtabfjecegpaoaaaGreatDoorZb4
import Derived.Test.YtabfjecegpaoaaaGreatDoorZb3
import Derived.Test.YtabfjecegpaoaaaGreatDoorZb6
import Derived.Test.YtabfjecegpaoaaaGreatDoorZc0
import Derived.Test.YtabfjecegpaoaaaGreatDoorZc1
set_option maxHeartbeats 16000000
set_option linter.unusedVariables false
namespace Go.Proofs.YtabfjecegpaoaaaGreatDoor
open Go.RowKit Go.Shelf
open Dgt
def ERS (b3 g off n ca k:Nat) (B C:Rt) (en:Bool) (es ed:ByteArray):Nat→Value
 | 0=>.agg #[.bool B.neg,.string (encS B.num),.string (encS B.den)]
 | 1=>.slice (some ⟨g,off,none⟩) n ca
 | 2=>.int .i64 (k:Int)
 | 3=>.pointer (some ⟨g,off+k*3,none⟩)
 | 4=>.agg #[.bool en,.string es,.string ed]
 | 5=>.agg #[.bool C.neg,.string (encS C.num),.string (encS C.den)]
 | _=>undef
set_option maxRecDepth 100000 in
theorem rSum_any (l:List Rw) (v:Value) (wq:World) (hl:LstR wq v l) (hn:l.length≤20) (hs:SzL l 1000) :
  Gv 36 #[v] wq (rtV (sumL l zeroR)):=by
 unfold Gv;obtain ⟨p,ca,rfl,hla,hca⟩:=hl.open;have HC:=hD hca;have HO:=hD (fun w=>rRatOf_any 0 w (by decide) (by decide));rw [ofR_zero] at HO;have HF:Hid (∀k (h:k<l.length) w,Gv 32 #[rtV (sumL (l.take k) zeroR),.agg #[.bool l[k].neg,.string l[k].n,.string l[k].d]] w (rtV (sumL (l.take (k+1)) zeroR))):=hD fun k h w=>by
  rw [sumL_take h];have hh:=sumR_step hn hs zeroR_ok (zeroR_sz.mono (by decide)) h;exact rRatAdd_r hh.1 hh.2 (by decide) (by decide) w
 obtain ⟨A,hA⟩:∃A,zeroR=A:=⟨_,rfl⟩;rw [hA] at HO HF ⊢;clear hca hl hs hA;have HX0:=hD (zeroR_row wq);have HB0:=hD (below_zrow wq rB);go_enter Tryz.func36,Tryz.ntmps36;go_wp2_with fail;refine (HO.out _).mono ?_;rintro e w1 ⟨rfl,hb⟩;unfold rtV;have HX1:=uH hb HX0;have HB1:=hD (HB0.out.trans (hb.mono HB0.out.size));clear hb;obtain ⟨b2,hb2⟩:∃b,wq.heap.size=b:=⟨_,rfl⟩;rw [hb2] at HX1 ⊢;have HX2:=hD (hpU ((Below.refl _ w1).alloc (Nat.le_refl _) (.cells #[.bool A.neg,.string (encS A.num),.string (encS A.den)] 26)) HX1.out);have HX3:=hD (heap_alloc_new w1 (.cells #[.bool A.neg,.string (encS A.num),.string (encS A.den)] 26));have HB2:=hD (HB1.out.alloc HB1.out.size (.cells #[.bool A.neg,.string (encS A.num),.string (encS A.den)] 26));go_wp2_with fail;obtain ⟨W2,hW2⟩:∃W2,w1.alloc (.cells #[.bool A.neg,.string (encS A.num),.string (encS A.den)] 26)=W2:=⟨_,rfl⟩
 obtain ⟨b3,hb3⟩:∃b,w1.heap.size=b:=⟨_,rfl⟩;rw [hW2] at HX2 HX3 HB2 ⊢;rw [hb3] at HX3 ⊢;have HNE:Hid (b2≠b3):=hD (by have:=(Array.getElem?_eq_some_iff.1 HX1.out).1;omega);have HLE:Hid (wq.heap.size≤b3):=hD (by have:=HB1.out.size;omega);clear hW2
 go_loopw [4] (fun i wr=>∃(k:Nat) (B:Rt),k≤l.length∧i=.int .i64 (k:Int)∧Hid (B=sumL (l.take k) A)∧Hid (wr.heap[b3]? =some (.cells #[.bool B.neg,.string (encS B.num),.string (encS B.den)] 26 (0,0)))∧Hid (wr.heap[b2]? =some (.cells #[.bool false,.string ⟨#[]⟩,.string ⟨#[]⟩] 26 (0,0)))∧Hid (Below wq.heap.size wq wr)) (fun i _=>l.length-(intOf i).toNat)
 case atStart=>exact ⟨0,A,by omega,rfl,hD rfl,HX3,HX2,HB2⟩
 case round =>
  obtain ⟨k,B,hk,rfl,HBE,HX3,HX2,HBW⟩:=hrel
  by_cases hlt:k<l.length
  ·have hlt' :(k:Int)<(l.length:Int):=by omega
   obtain ⟨g,off,rfl,hg,c1,c2,c3⟩:=HC.out k hlt;have hgr:=Nat.lt_of_lt_of_le hg HBW.out.size;have d1:wr.cell? ⟨g,off+k*3,none⟩=some (.bool l[k].neg):=by rw [clU HBW.out hg];exact c1
   have d2:wr.cell? ⟨g,off+k*3+1,none⟩=some (.string l[k].n):=by rw [clU HBW.out hg];exact c2
   have d3:wr.cell? ⟨g,off+k*3+2,none⟩=some (.string l[k].d):=by rw [clU HBW.out hg];exact c3
   clear c1 c2 c3;obtain ⟨wo,hwo⟩:∃wo,wo=wr:=⟨_,rfl⟩;subst hwo;have HFK:=hD (HF.out k hlt);rw [←HBE.out] at HFK;obtain ⟨C,hC⟩:∃C,sumL (l.take (k+1)) A=C:=⟨_,rfl⟩;rw [hC] at HFK;have HCE:=hD hC.symm;clear hC;unfold rtV at HFK;obtain ⟨en,hen⟩:∃x,l[k].neg=x:=⟨_,rfl⟩;obtain ⟨es,hes⟩:∃x,l[k].n=x:=⟨_,rfl⟩;obtain ⟨ed,hed⟩:∃x,l[k].d=x:=⟨_,rfl⟩;rw [hen,hes,hed] at HFK;rw [hen] at d1;rw [hes] at d2;rw [hed] at d3;clear hen hes hed;obtain ⟨n,hnl⟩:∃n,l.length=n:=⟨_,rfl⟩;rw [hnl] at hlt hlt' hn hk ⊢;have HNL:=hD hnl;clear hnl;go_wp2_with fail;refine wpTl (w:=wo) (by kernel_rfl) (fun ix v _=>v=ERS b3 g off n ca k B C en es ed ix) 6 (fun t=>(decide (12≤t)&&decide (t<18))) (by decide) (by kernel_rfl) (by kernel_rfl) (by kernel_rfl) (by kernel_rfl) (by kernel_rfl) (fun _ _ _ _ _ h=>h) ?_ ?_
   ·intro i hi o listed a w hR K hK;have ho:=hR.at_;have hi:i<6:=hi;have hii:i=0∨i=1∨i=2∨i=3∨i=4∨i=5:=by omega
    rcases hii with rfl|rfl|rfl|rfl|rfl|rfl
    ·simp at ho;subst ho;have b3:a.tmps.getD 3 undef=.pointer (some ⟨b3,0,none⟩):=hR.b 3;obtain ⟨⟨cx0,cx1,cx2⟩,-⟩:=rwC (hpU hR.below HX3.out);refine pSq ?_;go_simp;exact hK _ _ rfl rB
    ·simp at ho;subst ho;have b0:a.tmps.getD 0 undef=.slice (some ⟨g,off,none⟩) n ca:=hR.b 0;refine pSq ?_;go_simp;exact hK _ _ rfl rB
    ·simp at ho;subst ho;have b4:a.tmps.getD 4 undef=.int .i64 (k:Int):=hR.b 4;refine pSq ?_;go_simp;exact hK _ _ rfl rB
    ·simp at ho;subst ho;have e1:a.tmps.getD 13 undef=.slice (some ⟨g,off,none⟩) n ca:=hR.t 1;have e2:a.tmps.getD 14 undef=.int .i64 (k:Int):=hR.t 2;refine pSq ?_;go_simp;exact hK _ _ rfl rB
    ·simp at ho;subst ho;have e3:a.tmps.getD 15 undef=.pointer (some ⟨g,off+k*3,none⟩):=hR.t 3;have x1:=(clU hR.below hgr).trans d1;have x2:=(clU hR.below hgr).trans d2;have x3:=(clU hR.below hgr).trans d3;refine pSq ?_;go_simp;exact hK _ _ rfl rB
    ·simp at ho;subst ho;have e0:a.tmps.getD 12 undef=.agg #[.bool B.neg,.string (encS B.num),.string (encS B.den)]:=hR.t 0;have e4:a.tmps.getD 16 undef=.agg #[.bool en,.string es,.string ed]:=hR.t 4;refine pSq ?_;go_simp;refine (HFK.out w).mono ?_;rintro e w' ⟨rfl,hb⟩;exact hK _ _ (rfl) hb
   ·intro s w hS hb;have e5:s 17=.agg #[.bool C.neg,.string (encS C.num),.string (encS C.den)]:=hS 5 (by decide);simp only [over,ovL,Nat.reduceAdd,Nat.reduceLeDiff,Nat.reduceLT];obtain ⟨⟨cz0,cz1,cz2⟩,hfz⟩:=rwC (hpU hb HX3.out);have fz0:=hfz 0;have fz1:=hfz 1;have fz2:=hfz 2;refine tail_step (n:=0) rfl rfl ?_;go_simp;simp only [wpTail];have HROW:=hD (row_set (hpU hb HX3.out) (.bool C.neg) (.string (encS C.num)) (.string (encS C.den)));have HBN:=hD (below_row (HBW.out.trans (hb.mono HBW.out.size)) (b:=b3) (by have:=HLE.out;omega) (.bool C.neg) (.string (encS C.num)) (.string (encS C.den)))
    have HZ2:Hid ((((w.setCell ⟨b3,0,none⟩ (.bool C.neg)).setCell ⟨b3,1,none⟩ (.string (encS C.num))).setCell ⟨b3,2,none⟩ (.string (encS C.den))).heap[b2]? =some (.cells #[.bool false,.string ⟨#[]⟩,.string ⟨#[]⟩] 26 (0,0))):=hD (by simpa [World.setCell,Array.getElem?_modify,Ne.symm HNE.out] using hpU hb HX2.out);clear hS hb cz0 cz1 cz2 hfz fz0 fz1 fz2;go_wp2_with fail
    go_roundw
    case rel=>exact ⟨k+1,C,by omega,by go_num,HCE,HROW,HZ2,HBN⟩
    case measure=>simp [intOf];omega
  ·have hge:(l.length:Int)≤(k:Int):=by omega
   have HT:Hid (sumL l A=B):=hD (by rw [HBE.out,List.take_of_length_le (by omega)]);obtain ⟨⟨ca0,ca1,ca2⟩,-⟩:=rwC HX3.out;obtain ⟨⟨cz0,cz1,cz2⟩,hfz⟩:=rwC HX2.out;have fz0:=hfz 0;have fz1:=hfz 1;have fz2:=hfz 2;have HROW:=hD (row_set HX2.out (.bool B.neg) (.string (encS B.num)) (.string (encS B.den)));have HBN:=hD (below_row HBW.out (b:=b2) (by omega) (.bool B.neg) (.string (encS B.num)) (.string (encS B.den)));clear hfz;go_wp2_with fail;refine bodyPost_ret (rC1 HROW.out) rfl ?_;exact ⟨by rw [HT.out];rfl,HBN.out⟩
theorem cells3_one (l:List Rw):∀u ∈ cells3 l,u.oneCell' =true:=by
 intro u hu;simp only [cells3,List.mem_flatMap] at hu;obtain ⟨s,-,hu⟩:=hu;simp at hu;rcases hu with rfl|rfl|rfl<;>rfl
theorem cell_fresh3 (w:World) (x y z:Value) (t:TypeId):∀(j:Nat) (u:Value),[x,y,z][j]? =some u→(w.alloc (.cells #[x,y,z] t)).cell? ((⟨w.heap.size,0,none⟩:Addr).add j)=some u:=by
 intro j u hj;have hr:=heap_alloc_new w (.cells #[x,y,z] t);have hadd:((⟨w.heap.size,0,none⟩:Addr).add j)=⟨w.heap.size,0+j,none⟩:=by unfold Addr.add;split<;>simp_all
 rw [hadd,Nat.zero_add,Lib.cell_of_heap hr]
 match j,hj with
 | 0,hj=>simpa using hj
 | 1,hj=>simpa using hj
 | 2,hj=>simpa using hj
end Go.Proofs.YtabfjecegpaoaaaGreatDoor
namespace Go.Proofs.YtabfjecegpaoaaaGreatDoor
open Go.ChangeShapes Go.WideShapes Go.ChangeAt Go.RowKit
section
variable {H:Type} {enc:TypeId × Value→H} {P:Program}
theorem post_of_below {f:Func} {s:ChangeSpec} {apart fresh handsOn again:Bool} {W W' :World} {args:Array Value} {v:Value} {ds gs:List (DataW H)} {before pa pv:List MemPlace}
  (hW:DataW.Whole enc P f.params.toList s.vars apart W args.toList ds gs before)
  (hres:∀(b:Nat) (sp:Nat→Bool) (hd:Bool),DataW.TrodAll enc P W' b sp hd f.resultTypes.toList (v.resultList f.resultTypes.size) (s.fn H (ds++gs)).results [])
  (hargs:∀sp:Nat→Bool,(∀p ∈ before,sp p.block=true)→DataW.TrodAll enc P W' 0 sp true f.params.toList args.toList (s.fn H (ds++gs)).args pa)
  (hvars:∀sp:Nat→Bool,(∀p ∈ before,sp p.block=true)→DataW.TrodVars enc P W' sp s.vars (s.fn H (ds++gs)).vars pv)
  (hps:before=pa++pv) (hb:Below W.heap.size W W')
  (hok:∀(j:Nat) (t:TypeId) (r:Value),f.resultTypes[j]? =some t→(v.resultList f.resultTypes.size)[j]? =some r→Value.okWide P W' .any 0 t r) :
  s.post enc P f apart fresh handsOn again W args v W' :=by
 have hlt:∀p ∈ before,p.block<W.heap.size:=fun p hp=>hW.lt p hp
 have hold:∀p ∈ before,(fun b=>decide (b<W.heap.size)) p.block=true:=fun p hp=>by simpa using hlt p hp
 refine ⟨ds,gs,before,[],pa,pv,hW,hres _ _ _,hargs _ hold,hvars _ hold,World.keptBut_mono (fun p hp=>⟨hp,?_⟩) (hb.frame (· ∈ before)),fun _=> ?_⟩
 ·rw [hps,List.mem_append] at hp
  exact Or.inr hp
 ·obtain ⟨_,_,_,_,_,hz,hn⟩:=hW
  refine ⟨hok,_,_,([]++pa)++pv,⟨[]++pa,pv,trodAll_append (hargs _ (fun _ _=>rfl)) (hres _ _ _),hvars _ (fun _ _=>rfl),rfl,?_,?_⟩,?_⟩
  ·intro b off hp
   have hin:MemPlace.cell b off ∈ before:=by rw [hps];simpa using hp
   rw [hb.frozen (hlt _ hin)]
   exact hz b off hin
  ·intro ha
   have:=hn ha
   rw [hps] at this
   simpa using this
  ·intro p hp _
   rw [hps]
   simpa using hp
end
end Go.Proofs.YtabfjecegpaoaaaGreatDoor
namespace Go.Proofs.YtabfjecegpaoaaaGreatDoor
open Go.ChangeShapes Go.WideShapes Go.ChangeAt Go.RowKit Go
set_option maxRecDepth 100000 in
theorem open_rat {W:World} {base:Nat} {v:Value} (hval:Value.okWide Tryz.prog W .any base 26 v) :
  ∃neg n d,v=.agg #[.bool neg,.string n,.string d]∧(n.size:Int)≤9223372036854775807∧(d.size:Int)≤9223372036854775807:=by
 unfold Value.okWide at hval;rw [Tryz.underlying26] at hval;obtain ⟨cs,rfl,hs,ts,hts,-,hc⟩:=hval;have e1:Tryz.prog.cellTypes Tryz.prog.depth 26=some [4,24,24]:=by kernel_rfl
 have e2:Tryz.prog.cellsOf 26=3:=by kernel_rfl
 rw [e1] at hts;obtain rfl:=Option.some.inj hts;rw [e2] at hs;obtain ⟨x,y,z,rfl⟩:∃x y z,cs=#[x,y,z]:=by
  obtain ⟨l⟩:=cs
  match l,hs with
  | [x,y,z],_=>exact ⟨x,y,z,rfl⟩
 obtain ⟨u0,h0,k0⟩:=hc 0 x rfl;obtain ⟨u1,h1,k1⟩:=hc 1 y rfl;obtain ⟨u2,h2,k2⟩:=hc 2 z rfl;obtain rfl:4=u0:=Option.some.inj h0;obtain rfl:24=u1:=Option.some.inj h1;obtain rfl:24=u2:=Option.some.inj h2;unfold Cell.okWide at k0 k1 k2;rw [Tryz.underlying4] at k0;rw [Tryz.underlying24] at k1 k2;cases x<;>simp [Cell.ok,Tryz.underlying4] at k0
 cases y<;>simp [Cell.ok,Tryz.underlying24] at k1
 cases z<;>simp [Cell.ok,Tryz.underlying24] at k2
 exact ⟨_,_,_,rfl,by simpa [IntKind.max] using k1,by simpa [IntKind.max] using k2⟩
end Go.Proofs.YtabfjecegpaoaaaGreatDoor
namespace Go.Proofs.YtabfjecegpaoaaaGreatDoor
open Go.ChangeShapes Go.WideShapes Go.ChangeAt Go.RowKit Go.Deep Go.Shelf
section
variable {H:Type} {enc:TypeId × Value→H} {W:World}
theorem add_plain3 (g off j:Nat):(⟨g,off,none⟩:Addr).add j=⟨g,off+j,none⟩:=Addr.add_lit ..
theorem add_add3 (a:Addr) (i j:Nat):(a.add i).add j=a.add (i+j):=by
 obtain ⟨g,off,spot⟩:=a;cases i<;>cases j<;>simp [Addr.add]<;>omega
theorem block_lt3 {g off:Nat} {v:Value} (h:W.cell? ⟨g,off,none⟩=some v):g<W.heap.size:=by
 rcases Nat.lt_or_ge g W.heap.size with hl|hl
 ·exact hl
 ·simp [World.cell?,Array.getElem?_eq_none hl] at h
end
end Go.Proofs.YtabfjecegpaoaaaGreatDoor
namespace Go.Proofs.YtabfjecegpaoaaaGreatDoor
open Go.RowKit Go.Shelf
open Dgt
theorem sgQ_gt0 {x:Rat}:0<sgQ x↔0<x:=by
 rcases tri x with h|h|h
 ·subst h;exact ⟨fun e=>(by cases e),fun e=>by grind⟩
 ·rw [sgQ_pos h];exact ⟨fun _=>h,fun _=>by omega⟩
 ·rw [sgQ_neg h];exact ⟨fun e=>(by omega),fun e=>by grind⟩
theorem sgQ_ge0 {x:Rat}:0≤sgQ x↔0≤x:=by
 have h:=sgQ_lt0 (x:=x)
 constructor
 ·intro h1;have:¬x<0:=fun e=>by have:=h.2 e;omega
  grind
 ·intro h1;have:¬sgQ x<0:=fun e=>by have:=h.1 e;grind
  omega
theorem q_fl (a:Rt):(flR a).q=(a.q.floor:Rat):=q_of _
theorem floor_unique {x:Rat} {n:Int} (h1:(n:Rat)≤x) (h2:x<(n:Rat)+1):x.floor=n:=by
 have a1:=Rat.le_floor_iff.2 h1;have a2:x.floor<n+1:=Rat.floor_lt_iff.2 (by rw [Rat.intCast_add];exact h2);omega
theorem q_down {a s:Rt} (ha:a.Ok) (hs:s.Ok) (h:s.num≠0):(downR a s).q=((a.q/s.q).floor:Rat)*s.q:=by
 unfold downR;rw [q_mul (flR_ok _) hs,q_fl,q_quo ha hs h]
theorem neg_floor_neg (x:Rat): -((-x).floor)=if (x.floor:Rat)=x then x.floor else x.floor+1:=by
 split
 ·rename_i h
  have:(-x).floor= -x.floor:=floor_unique (by rw [Rat.intCast_neg];grind) (by rw [Rat.intCast_neg];grind);omega
 ·rename_i h
  have h1:=Rat.floor_le x;have h2:=Rat.lt_floor_add_one x;rw [Rat.intCast_add] at h2;have:(-x).floor= -x.floor-1:=floor_unique (by rw [Rat.intCast_sub,Rat.intCast_neg];grind) (by rw [Rat.intCast_sub,Rat.intCast_neg];grind);omega
theorem floor_half (x:Rat):(x+1/2).floor=if 1≤(x-(x.floor:Rat))+(x-(x.floor:Rat)) then x.floor+1 else x.floor:=by
 have h1:=Rat.floor_le x;have h2:=Rat.lt_floor_add_one x;rw [Rat.intCast_add] at h2
 split
 ·exact floor_unique (by rw [Rat.intCast_add];grind) (by rw [Rat.intCast_add];grind)
 ·exact floor_unique (by grind) (by grind)
variable {ov:Nat→Rat} {n:Nat} {s:List Nat}
theorem Ordd.not_take (h:Ordd ov n s) {j:Nat} (hj:j<s.length):s[j] ∉ s.take j:=fun hc=>by
 have hd:=h.nodup;rw [←List.take_append_drop j s,List.nodup_append] at hd;exact hd.2.2 _ hc _ (by rw [List.drop_eq_getElem_cons hj];exact List.mem_cons_self) rfl
section
variable {a b s:Rt}
theorem upR_ok (hs:s.Ok):(upR a s).Ok:=by unfold upR;split;exact downR_ok hs;exact addR_ok (downR_ok hs) hs
theorem nearR_ok (hs:s.Ok):(nearR a s).Ok:=by unfold nearR;split;exact addR_ok (downR_ok hs) hs;exact downR_ok hs
theorem q_downp (ha:a.Ok) (hs:s.Ok) (h:0<s.q):(downR a s).q=((a.q/s.q).floor:Rat)*s.q:=q_down ha hs (num_ne hs h)
theorem mul_divc {x y:Rat} (h:0<y):x*y/y=x:=Rat.mul_div_cancel (by grind)
theorem q_up (ha:a.Ok) (hs:s.Ok) (h:0<s.q):(upR a s).q=(-((-(a.q/s.q)).floor):Int)*s.q:=by
 have hd:=q_downp ha hs h;have hx:=div_mulc (x:=a.q) h;rw [neg_floor_neg];unfold upR
 by_cases he:downR a s=a
 ·rw [if_pos he];have h1:(((a.q/s.q).floor:Int):Rat)=a.q/s.q:=by
   rw [he] at hd;rw [←mul_divc (x:=(((a.q/s.q).floor:Int):Rat)) h, ←hd]
  rw [if_pos h1,hd]
 ·rw [if_neg he];have h1:¬(((a.q/s.q).floor:Int):Rat)=a.q/s.q:=fun e=>he (q_inj (downR_ok hs) ha (by rw [hd,e,hx]))
  rw [if_neg h1,q_add (downR_ok hs) hs,hd,Rat.intCast_add]
  grind
theorem q_over (ha:a.Ok) (hs:s.Ok) (h:0<s.q):(overR a s).q=a.q-((a.q/s.q).floor:Rat)*s.q:=by
 unfold overR;rw [q_sub ha (downR_ok hs),q_downp ha hs h]
theorem near_test (ha:a.Ok) (hs:s.Ok) (h:0<s.q):0≤cmpR (addR (overR a s) (overR a s)) s↔1≤(a.q/s.q-((a.q/s.q).floor:Rat))+(a.q/s.q-((a.q/s.q).floor:Rat)):=by
 rw [cmpR_q (addR_ok (overR_ok ha hs) (overR_ok ha hs)) hs,sgQ_ge0,q_add (overR_ok ha hs) (overR_ok ha hs),q_over ha hs h];have hx:=div_mulc (x:=a.q) h
 generalize a.q/s.q=x at hx ⊢
 rw [←hx]
 generalize ((x.floor:Int):Rat)=f
 have e:x*s.q-f*s.q+(x*s.q-f*s.q)-s.q=((x-f)+(x-f)-1)*s.q:=by grind
 rw [e]
 constructor
 ·intro h1
  by_cases h2:1≤x-f+(x-f)
  ·exact h2
  ·have:=Rat.mul_pos (show 0< -((x-f)+(x-f)-1) by grind) h
   grind
 ·intro h1;exact Rat.mul_nonneg (by grind) (by grind)
theorem q_near (ha:a.Ok) (hs:s.Ok) (h:0<s.q):(nearR a s).q=((a.q/s.q+1/2).floor:Rat)*s.q:=by
 have hd:=q_downp ha hs h;rw [floor_half];unfold nearR
 by_cases ht:0≤cmpR (addR (overR a s) (overR a s)) s
 ·rw [if_pos ht,if_pos ((near_test ha hs h).1 ht),q_add (downR_ok hs) hs,hd,Rat.intCast_add]
  grind
 ·rw [if_neg ht,if_neg (fun e=>ht ((near_test ha hs h).2 e)),hd]
theorem up_ref (ha:a.Ok) (hs:s.Ok) (h:0<s.q):negR (downR (negR a) s)=upR a s:=by
 refine q_inj (negR_ok (downR_ok hs)) (upR_ok hs) ?_;rw [q_neg,q_downp (negR_ok ha) hs h,q_neg,q_up ha hs h,show-a.q/s.q= -(a.q/s.q) by grind,Rat.intCast_neg]
 grind
theorem q_two:(ofR 2).q=2:=by rw [q_of];rfl
theorem near_ref (ha:a.Ok) (hs:s.Ok) (h:0<s.q):downR (addR a (quoR s (ofR 2))) s=nearR a s:=by
 have h2:(quoR s (ofR 2)).Ok:=quoR_ok hs (by decide);refine q_inj (downR_ok hs) (nearR_ok hs) ?_;rw [q_downp (addR_ok ha h2) hs h,q_near ha hs h,q_add ha h2,q_quo hs (ofR_ok 2) (by decide),q_two];have hx:=div_mulc (x:=a.q) h;have e:(a.q+s.q/2)/s.q=a.q/s.q+1/2:=by
  have:(a.q+s.q/2)=(a.q/s.q+1/2)*s.q:=by rw [Rat.add_mul,hx];grind
  rw [this,mul_divc h]
 rw [e]
end
end Go.Proofs.YtabfjecegpaoaaaGreatDoor
namespace Go.Proofs.YtabfjecegpaoaaaGreatDoor
open Go Go.Lib
end Go.Proofs.YtabfjecegpaoaaaGreatDoor
namespace Go.Proofs.YtabfjecegpaoaaaGreatDoor
open Go.RowKit Go.Shelf
open Dgt
end Go.Proofs.YtabfjecegpaoaaaGreatDoor
namespace Go.Proofs.YtabfjecegpaoaaaGreatDoor
open Go Go.Lib
end Go.Proofs.YtabfjecegpaoaaaGreatDoor
namespace Go.Proofs.YtabfjecegpaoaaaGreatDoor
open Go.RowKit Go.Shelf
open Dgt
theorem dec_ten {n:Nat} (h:¬n<10):Lib.decDigits n=Lib.decDigits (n/10)++[UInt8.ofNat (48+n%10)]:=by rw [Lib.decDigits,dif_neg h]
theorem dec_one {n:Nat} (h:n<10):Lib.decDigits n=[UInt8.ofNat (48+n)]:=by rw [Lib.decDigits,dif_pos h]
set_option maxRecDepth 100000 in
theorem rText_any (a:ByteArray) (w:World) (ha:a.size≤1000000) :
  Gv 91 #[.string a] w (.string ⟨(Lib.decDigits (numS a)).toArray⟩):=by
 unfold Gv;have CA:=Lib.hid (Canon_any a · (by omega));have hL:=dec_size a;have HAS:Hid ((encS (numS a)).size≤1000000):=Lib.hid (Nat.le_trans (encS_len_le a) ha);obtain ⟨A,hA⟩:∃A,numS a=A:=⟨_,rfl⟩;rw [hA] at CA HAS hL ⊢;have HL:Hid ((Lib.decDigits A).length≤3000001):=Lib.hid (by omega);have HOT:=Lib.hid (fun w=>rOf_any 10 w (by decide));rw [show ((10:Int)).toNat=10 from rfl] at HOT;clear ha hA hL;rcases Nat.eq_zero_or_pos A with hA0|hA0
 ·subst hA0;rw [encS_zero] at CA;have hE:Hid (Lib.decDigits 0=[48]):=Lib.hid (by rw [dec_one (by decide)];rfl);go_enter Tryz.func91,Tryz.ntmps91;go_wp2_with fail;refine (CA.out _).mono ?_;rintro e w1 ⟨rfl,rfl⟩;go_wp2_with fail;go_ret;exact ⟨by rw [hE.out];rfl,Below.refl _ _⟩
 have hpos:∀n:Nat,0<n→0<((encS n).size:Int):=fun n hn=>by
  have:(encS n).size≠0:=fun h=>by
   rw [encS_size] at h;have:=List.eq_nil_of_length_eq_zero h;rw [digs_eq_nil (by decide)] at this;omega
  omega
 have HPOS:=Lib.hid hpos;obtain ⟨s0,hs0⟩:∃s0,(encS A).size=s0:=⟨_,rfl⟩;have hz0:(((encS A).size:Int)==0)=false:=by rw [beq_eq_false_iff_ne];have:=hpos A hA0;omega
 have HA0:=Lib.hid hA0;clear hpos hA0 hs0;go_enter Tryz.func91,Tryz.ntmps91;go_wp2_with fail;refine (CA.out _).mono ?_;rintro e w1 ⟨rfl,rfl⟩;go_wp2_with fail;clear hz0
 go_loopw [0,3] (fun x y wr=>∃(n:Nat) (o:List UInt8),x=.string (encS n)∧y=.string ⟨o.toArray⟩∧Hid ((n=0→o=Lib.decDigits A)∧(0<n→Lib.decDigits A=Lib.decDigits n++o))∧Hid ((encS n).size≤1000000)∧Hid (Below w.heap.size w wr)) (fun x _ _=>strSz x)
 case atStart=>exact ⟨A,[],rfl,rfl,Lib.hid ⟨fun h=>by have:=HA0.out;omega,fun _=>by simp⟩,HAS,Lib.hid rB⟩
 case round =>
  obtain ⟨n,o,rfl,rfl,HD,HNS,HBW⟩:=hrel;rcases Nat.eq_zero_or_pos n with hn|hn
  ·subst hn;have HF:=Lib.hid (HD.out.1 rfl);have hz:¬0<((encS 0).size:Int):=by rw [encS_zero];decide
   go_wp2_with fail;go_ret;exact ⟨by rw [←HF.out];rfl,HBW.out⟩
  ·have hp:=HPOS.out n hn;have hD:=HD.out.2 hn;have hol:(o.length:Int)≤3000001:=by
    have h1:=congrArg List.length hD;rw [List.length_append] at h1;have:=HL.out;omega
   have HQ:=Lib.hid (fun w=>rQuo_any (encS n) (encS 10) w HNS.out (by rw [show encS 10=⟨#[10]⟩ from by simp [encS,encL,digs_pos,digs_zero]];decide));rw [numS_encS,numS_encS,show remS n 10=n%10 from rfl] at HQ;obtain ⟨d,hd⟩:∃d,n%10=d:=⟨_,rfl⟩;rw [hd] at HQ;have hd9:d<10:=by omega
   have HI:=Lib.hid (fun w=>rInt_any (encS d) w ((Sz.enc (k:=1) (show d<256^1 by omega) (by decide))));obtain ⟨hiy,hiv⟩:=int_yes (m:=d) (by omega);rw [numS_encS,hiv,hiy] at HI;obtain ⟨x,hx⟩:∃x,48+d=x:=⟨_,rfl⟩;have f1:48+(d:Int)=(x:Int):=by omega
   have hx9:(x:Int)<58:=by omega
   have f2:(x:Int)%256=(x:Int):=by omega
   have HN' :Hid ((n/10=0→UInt8.ofNat x::o=Lib.decDigits A)∧(0<n/10→Lib.decDigits A=Lib.decDigits (n/10)++(UInt8.ofNat x::o))):=Lib.hid (by
    refine ⟨fun h=> ?_,fun h=> ?_⟩
    ·rw [hD,dec_one (by omega), ←hx, ←hd,Nat.mod_eq_of_lt (by omega)];rfl
    ·rw [hD,dec_ten (by omega), ←hx, ←hd,List.append_assoc];rfl)
   have hcv:∀W:World,(convert 85 9 (.slice (some ⟨W.heap.size,0,none⟩) 1 1)).run Tryz.prog (W.alloc (.cells #[.int .u8 (x:Int)] 5))=.ok (.string ⟨#[UInt8.ofNat x]⟩) (W.alloc (.cells #[.int .u8 (x:Int)] 5)):=fun W =>
    conv_own (l:=[x]) Tryz.underlying9 (own_one W (.int .u8 (x:Int)) 5 rfl) (fun y hy=>by simp at hy;subst hy;omega)
   have HLT:Hid (n/10<n):=Lib.hid (by omega);clear hn hD hd hd9 hiy hiv hx hp;have hp:=HPOS.out n (by have:=HLT.out;omega);go_wp2_with fail;refine (HOT.out _).mono ?_;rintro e w2 ⟨rfl,hb⟩;have HB2:=Lib.hid (HBW.out.trans (hb.mono HBW.out.size));clear hb;go_wp2_with fail;refine (HQ.out _).mono ?_;rintro e w3 ⟨rfl,hb⟩;have HB3:=Lib.hid (HB2.out.trans (hb.mono HB2.out.size));clear hb;go_wp2_with fail;refine (HI.out _).mono ?_;rintro e w4 ⟨rfl,rfl⟩;go_wp2_with fail
   go_roundw
   case rel=>exact ⟨n/10,UInt8.ofNat x::o,rfl,by rw [show (⟨#[UInt8.ofNat x]⟩:ByteArray)=⟨[UInt8.ofNat x].toArray⟩ from rfl,str_append];rfl,HN',Lib.hid (Nat.le_trans (by rw [encS_size,encS_size];exact digs_len_mono (by decide) (Nat.div_le_self _ _)) HNS.out),Lib.hid (HB3.out.alloc HB3.out.size _)⟩
   case measure=>simp [strSz,numS_encS];exact HLT.out
end Go.Proofs.YtabfjecegpaoaaaGreatDoor
namespace Go.Proofs.YtabfjecegpaoaaaGreatDoor
open Go.RowKit Go.Shelf
open Dgt
end Go.Proofs.YtabfjecegpaoaaaGreatDoor
namespace Go.Proofs.YtabfjecegpaoaaaGreatDoor
open Go.RowKit Go.Shelf
open Dgt
theorem neg_of (a:Int):negR (ofR a)=ofR (-a):=q_inj (negR_ok (ofR_ok a)) (ofR_ok _) (by rw [q_neg,q_of,q_of,Rat.intCast_neg])
section
variable (c:Int) (ws:List Rt)
end
section
variable {c:Int} {ws:List Rt}
variable {s:List Nat}
theorem parts_len:(partsT c ws s).length=ws.length:=by simp [partsT]
end
section
variable {ov:Nat→Rat} {n i j p:Nat} {s:List Nat}
end
theorem cel_len (l:List Rt):(cel l).length=l.length*3:=by
 induction l with
 | nil=>rfl
 | cons a l ih=>rw [cel_cons,List.length_append,ih,List.length_cons];simp;omega
theorem right_row {n:Bool} {s d:ByteArray} {k:Nat} (h:rightR n s d=true) (h1:s.size≤k) (h2:d.size≤k):∃a:Rt,a.Ok∧Rz a k∧n=a.neg∧s=encS a.num∧d=encS a.den∧a=valQ n s d:=by
 have e:=ratV_right h;unfold ratV rtV at e;simp only [Value.agg.injEq,Array.mk.injEq,List.cons.injEq,Value.bool.injEq,Value.string.injEq,and_true] at e;refine ⟨valQ n s d,valQ_ok _ _ _,?_,e.1,e.2.1,e.2.2,rfl⟩;have hr:=(rightR_iff.1 h);unfold valQ;rw [if_pos h];exact ⟨(Sz.num s).mono h1,(Sz.num d).mono h2⟩
set_option maxRecDepth 100000 in
theorem MoUp_no (na:Bool) (sa da:ByteArray) (nb:Bool) (sb db:ByteArray) (za:sa.size≤10000) (zda:da.size≤10000) (zb:sb.size≤10000) (zdb:db.size≤10000) (h:stepsB na sa da nb sb db=false) (wq:World) :
  Gv 24 #[.agg #[.bool na,.string sa,.string da],.agg #[.bool nb,.string sb,.string db]] wq (.tuple #[.agg #[.bool false,.string ⟨#[]⟩,.string ⟨#[]⟩],.bool false]):=by
 unfold Gv;have c1:=fun w=>MoDown_no na sa da nb sb db za zda zb zdb h w
 have C1:Hid (∀w,Gv 23 #[.agg #[.bool na,.string sa,.string da],.agg #[.bool nb,.string sb,.string db]] w (.tuple #[.agg #[.bool false,.string ⟨#[]⟩,.string ⟨#[]⟩],.bool false])):=hD c1;clear c1 h za zda zb zdb;have HB:=hD (Below.refl wq.heap.size wq);obtain ⟨n0,hn0⟩:∃n,n=wq.heap.size:=⟨_,rfl⟩;rw [←hn0];have HN0:=hD hn0;clear hn0;go_enter Tryz.func24,Tryz.ntmps24;obtain ⟨W1,bk2,hW1,hbk2,HX2_1,HB,HG2_1,hup⟩:=boxS HB HN0 na sa da;clear hup;obtain ⟨W2,bk3,hW2,hbk3,HX3_2,HB,HG3_2,hup⟩:=boxS HB HN0 nb sb db;have HL3_2:=(hup _ _ HX2_1).2;have HX2_1:=(hup _ _ HX2_1).1;clear hup;obtain ⟨W3,bk4,hW3,hbk4,HX4_3,HB,HG4_3,hup⟩:=boxZ HB HN0;have HL4_3:=(hup _ _ HX3_2).2;have HX2_1:=(hup _ _ HX2_1).1;have HX3_2:=(hup _ _ HX3_2).1;clear hup;obtain ⟨k4a,k4b,k4c⟩:=c3 HX2_1;obtain ⟨k5a,k5b,k5c⟩:=c3 HX3_2;go_wp2_with fail;clear hW1 hbk2 hW2 hbk3 hW3 hbk4 k4a k4b k4c k5a k5b k5c;refine (C1.out _).mono ?_
 rintro e w4 ⟨rfl,hb⟩;have HX2_1:=uH hb HX2_1;have HX3_2:=uH hb HX3_2;have HX4_3:=uH hb HX4_3;have HB:=mH HB hb;clear hb;obtain ⟨W5,bk6,hW5,hbk6,HX6_6,HB,HG6_6,hup⟩:=boxZ HB HN0;have HL6_6:=(hup _ _ HX4_3).2;have HX2_1:=(hup _ _ HX2_1).1;have HX3_2:=(hup _ _ HX3_2).1;have HX4_3:=(hup _ _ HX4_3).1;clear hup;obtain ⟨W6,hW6,HX6_6,HB,ho,f7a,f7b,f7c,k7a,k7b,k7c⟩:=putZ HX6_6 HB HN0 HG6_6;have HX2_1:=ho _ _ (en3 HL3_2 HL4_3 HL6_6) HX2_1;have HX3_2:=ho _ _ (en2 HL4_3 HL6_6) HX3_2;have HX4_3:=ho _ _ (en1 HL6_6) HX4_3;clear ho;obtain ⟨k8a,k8b,k8c⟩:=c3 HX6_6;obtain ⟨W7,hW7,HX4_3,HB,ho,f9a,f9b,f9c,k9a,k9b,k9c⟩:=putZ HX4_3 HB HN0 HG4_3;have HX2_1:=ho _ _ (en2 HL3_2 HL4_3) HX2_1;have HX3_2:=ho _ _ (en1 HL4_3) HX3_2;have HX6_6:=ho _ _ (ne1 HL6_6) HX6_6;clear ho;go_wp2_with fail;clear hW5 hbk6 f7a f7b f7c k7a k7b k7c hW6 k8a k8b k8c f9a f9b f9c k9a k9b k9c hW7;refine bodyPost_ret (rC2 HX4_3.out) rfl ?_
 exact ⟨rfl,by rw [HN0.out];exact HB.out⟩
set_option maxRecDepth 100000 in
theorem MoNear_no (na:Bool) (sa da:ByteArray) (nb:Bool) (sb db:ByteArray) (za:sa.size≤10000) (zda:da.size≤10000) (zb:sb.size≤10000) (zdb:db.size≤10000) (h:stepsB na sa da nb sb db=false) (wq:World) :
  Gv 25 #[.agg #[.bool na,.string sa,.string da],.agg #[.bool nb,.string sb,.string db]] wq (.tuple #[.agg #[.bool false,.string ⟨#[]⟩,.string ⟨#[]⟩],.bool false]):=by
 unfold Gv;have c1:=fun w=>MoDown_no na sa da nb sb db za zda zb zdb h w
 have C1:Hid (∀w,Gv 23 #[.agg #[.bool na,.string sa,.string da],.agg #[.bool nb,.string sb,.string db]] w (.tuple #[.agg #[.bool false,.string ⟨#[]⟩,.string ⟨#[]⟩],.bool false])):=hD c1;clear c1 h za zda zb zdb;have HB:=hD (Below.refl wq.heap.size wq);obtain ⟨n0,hn0⟩:∃n,n=wq.heap.size:=⟨_,rfl⟩;rw [←hn0];have HN0:=hD hn0;clear hn0;go_enter Tryz.func25,Tryz.ntmps25;obtain ⟨W1,bk2,hW1,hbk2,HX2_1,HB,HG2_1,hup⟩:=boxS HB HN0 na sa da;clear hup;obtain ⟨W2,bk3,hW2,hbk3,HX3_2,HB,HG3_2,hup⟩:=boxS HB HN0 nb sb db;have HL3_2:=(hup _ _ HX2_1).2;have HX2_1:=(hup _ _ HX2_1).1;clear hup;obtain ⟨W3,bk4,hW3,hbk4,HX4_3,HB,HG4_3,hup⟩:=boxZ HB HN0;have HL4_3:=(hup _ _ HX3_2).2;have HX2_1:=(hup _ _ HX2_1).1;have HX3_2:=(hup _ _ HX3_2).1;clear hup;obtain ⟨k4a,k4b,k4c⟩:=c3 HX2_1;obtain ⟨k5a,k5b,k5c⟩:=c3 HX3_2;go_wp2_with fail;clear hW1 hbk2 hW2 hbk3 hW3 hbk4 k4a k4b k4c k5a k5b k5c;refine (C1.out _).mono ?_
 rintro e w4 ⟨rfl,hb⟩;have HX2_1:=uH hb HX2_1;have HX3_2:=uH hb HX3_2;have HX4_3:=uH hb HX4_3;have HB:=mH HB hb;clear hb;obtain ⟨W5,bk6,hW5,hbk6,HX6_6,HB,HG6_6,hup⟩:=boxZ HB HN0;have HL6_6:=(hup _ _ HX4_3).2;have HX2_1:=(hup _ _ HX2_1).1;have HX3_2:=(hup _ _ HX3_2).1;have HX4_3:=(hup _ _ HX4_3).1;clear hup;obtain ⟨W6,hW6,HX6_6,HB,ho,f7a,f7b,f7c,k7a,k7b,k7c⟩:=putZ HX6_6 HB HN0 HG6_6;have HX2_1:=ho _ _ (en3 HL3_2 HL4_3 HL6_6) HX2_1;have HX3_2:=ho _ _ (en2 HL4_3 HL6_6) HX3_2;have HX4_3:=ho _ _ (en1 HL6_6) HX4_3;clear ho;obtain ⟨W7,hW7,HX4_3,HB,ho,f8a,f8b,f8c,k8a,k8b,k8c⟩:=putZ HX4_3 HB HN0 HG4_3;have HX2_1:=ho _ _ (en2 HL3_2 HL4_3) HX2_1;have HX3_2:=ho _ _ (en1 HL4_3) HX3_2;have HX6_6:=ho _ _ (ne1 HL6_6) HX6_6;clear ho;go_wp2_with fail;clear hW5 hbk6 f7a f7b f7c k7a k7b k7c hW6 f8a f8b f8c k8a k8b k8c hW7;refine bodyPost_ret (rC2 HX4_3.out) rfl ?_;exact ⟨rfl,by rw [HN0.out];exact HB.out⟩
set_option maxRecDepth 100000 in
theorem MoCents_no (na:Bool) (sa da:ByteArray) (za:sa.size≤100000) (zda:da.size≤100000) (h:rightR na sa da=false) (wq:World) :
  Gv 29 #[.agg #[.bool na,.string sa,.string da]] wq (.tuple #[.int .i64 0,.bool false]):=by
 unfold Gv;have c1:=fun w=>RatRight_any na sa da w (by omega) (by omega);rw [h] at c1
 have C1:Hid (∀w,Gv 58 #[.agg #[.bool na,.string sa,.string da]] w (.bool false)):=hD c1;clear c1 h za zda;have HB:=hD (Below.refl wq.heap.size wq);obtain ⟨n0,hn0⟩:∃n,n=wq.heap.size:=⟨_,rfl⟩;rw [←hn0];have HN0:=hD hn0;clear hn0;go_enter Tryz.func29,Tryz.ntmps29;obtain ⟨W1,bk1,hW1,hbk1,HX1_1,HB,HG1_1,hup⟩:=boxS HB HN0 na sa da;clear hup;obtain ⟨k2a,k2b,k2c⟩:=c3 HX1_1;go_wp2_with fail;clear hW1 hbk1 k2a k2b k2c;refine (C1.out _).mono ?_;rintro e w2 ⟨rfl,hb⟩;have HX1_1:=uH hb HX1_1;have HB:=mH HB hb;clear hb;go_wp2_with fail;go_ret2;exact ⟨rfl,by rw [HN0.out];exact HB.out⟩
theorem lsf_congr {f g:Nat→Rt} {n:Nat} (h:∀i,i<n→f i=g i):lsf f n=lsf g n:=by
 unfold lsf;exact List.map_congr_left fun i hi=>h i (List.mem_range.1 hi)
end Go.Proofs.YtabfjecegpaoaaaGreatDoor
