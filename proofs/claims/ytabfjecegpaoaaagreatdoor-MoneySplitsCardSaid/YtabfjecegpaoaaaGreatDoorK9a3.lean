/- MoneySplits: for every input the law returns true, and each argument reads afterwards as it read before; the listed tables read as the program lays them (the tied card). -/
import Derived.Test.YtabfjecegpaoaaaGreatDoorRows
import Derived.WalkKit
import Derived.ProofKit
import Derived.OpenShut
import Derived.Below
import Derived.ChangeSame
import Derived.Deep.SlicePairs
import Derived.Carry
import Derived.Test.YtabfjecegpaoaaaGreatDoorCards
import Derived.Test.YtabfjecegpaoaaaGreatDoorTie
import Derived.LaidMore
import Derived.Deep.DeepHandedRow
import Derived.Deep.DeepWitnessRowRef
import Derived.Lib.LaidTab
import Derived.Lib.ItoaMem
import Derived.Stop.LaidErr
import Derived.Deep.LoopGhost
import Derived.Deep.QuietTactic
import Derived.BigQuiet
import Derived.Test.YtabfjecegpaoaaaGreatDoorProg
import Derived.WalkSpells
import Derived.WalkLawsBesides
import Derived.IntWalk
import Derived.Lib.Hide
import Derived.Laws.BitsAllLaws
import Derived.StillTailTactics
import Derived.Deep.OwnRows
import Derived.Lib.ConvBytes
import Derived.RangeFuncNested
import Derived.RangeFuncCalls
import Derived.RangeFuncLeaves
import Derived.Shelf.Abstract
import Derived.Lib.LaidIn
import Derived.RegionTactic
import Derived.KernelRfl
import Derived.OrdersIn
import Derived.Shelf.Strings.Builder1
import Derived.Shelf.Strings.Builder2
import Derived.Shelf.Strings.Trim
import Derived.Shelf.Small.Utf8
import Derived.Shelf.Small.Bits
import Derived.Shelf.Small.Strs
import Derived.Shelf.Strings.BuilderF
import Derived.Shelf.Strings.BuilderK
import Derived.Shelf.Strings.Builder2Cap
import Derived.Shelf.Strconv.Atoi
import Derived.Shelf.Strconv.Itoa0
import Derived.Shelf.Strconv.Itoa1
import Derived.Shelf.LaysM
import Derived.Shelf.Strconv.Itoa2
import Derived.Shelf.Strconv.Itoa3
import Derived.Shelf.Strconv.AtoiErrFast
import Derived.Shelf.Strconv.ParseIntEmpty
import Derived.Shelf.Strconv.AtoiFail
import Derived.Shelf.Strconv.Clone
import Derived.Shelf.Strconv.SyntaxError
import Derived.Shelf.LaysC
import Derived.Shelf.Strconv.ToError
import Derived.Shelf.Strconv.Lower
import Derived.Shelf.Strconv.ParseUint10
import Derived.Shelf.Strconv.ParseUint10Empty
import Derived.Shelf.Strconv.ParseUint10Any
import Derived.Shelf.Strconv.ParseInt10
import Derived.Shelf.Strconv.AtoiLong
import Derived.Shelf.Strconv.AtoiInnerAll
import Derived.Shelf.Strconv.RangeError
import Derived.Shelf.Strconv.ToErrorRange
import Derived.Shelf.Strconv.AtoiAll
import Derived.Shelf.Strconv.ErrVarAll
import Derived.Shelf.Strconv.ParseUintEmpty
import Derived.Shelf.Strconv.ParseUint10b64
import Derived.Shelf.Strconv.ParseUint10b32
import Derived.Shelf.Strconv.ParseUint10b16
import Derived.Shelf.Strconv.ParseUint10b8
import Derived.Shelf.Strconv.ParseUint10At
import Derived.Shelf.Strconv.ParseInt10At64
import Derived.Shelf.Strconv.ParseInt10At32
import Derived.Shelf.Strconv.ParseInt10At16
import Derived.Shelf.Strconv.ParseInt10At8
import Derived.Shelf.Strconv.ParseInt10All
import Derived.Shelf.Strings.Search1
import Derived.Shelf.GgClosure.StringsIndexFunc
import Derived.Ground.GgwProg
import Derived.Shelf.GgClosure.StringsIndexFuncTop
import Derived.Shelf.GgClosure.StringsRunes
import Derived.Shelf.Strings.Prefix
import Derived.Shelf.Strings.Runes
import Derived.Shelf.Strings.AsciiSet
import Derived.Shelf.Bits.Mul64
import Derived.Shelf.Strings.Repeat
import Derived.Shelf.Unicode.DecodeSlow
import Derived.Shelf.Unicode.DecodeAny
import Derived.Shelf.Strings.FuncGrows
import Derived.Shelf.Strings.BuilderCap
import Derived.Lib.ItoaLen
import Derived.Lib.AtoiAll
import Derived.Lib.UnsafeStr
import Derived.Lib.AppendIntMem
import Derived.Lib.ItoaNum
import Derived.Lib.Itoa
import Derived.Laws.AppendOwnNone
import Derived.Test.YtabfjecegpaoaaaGreatDoorZb5
import Derived.Test.YtabfjecegpaoaaaGreatDoorK9a2
import Derived.Test.YtabfjecegpaoaaaGreatDoorZc2
import Derived.Test.YtabfjecegpaoaaaGreatDoorZc8
import Derived.Test.YtabfjecegpaoaaaGreatDoorZa6
import Derived.Test.YtabfjecegpaoaaaGreatDoorZa5
import Derived.Test.YtabfjecegpaoaaaGreatDoorZa4
import Derived.Test.YtabfjecegpaoaaaGreatDoorZa3
import Derived.Test.YtabfjecegpaoaaaGreatDoorZa0
import Derived.Test.YtabfjecegpaoaaaGreatDoorZa1
import Derived.Test.YtabfjecegpaoaaaGreatDoorZa2
import Derived.Test.YtabfjecegpaoaaaGreatDoorZb0
import Derived.Test.YtabfjecegpaoaaaGreatDoorZa9
import Derived.Test.YtabfjecegpaoaaaGreatDoorZa8
import Derived.Test.YtabfjecegpaoaaaGreatDoorK9a0
import Derived.Test.YtabfjecegpaoaaaGreatDoorZb1
import Derived.Test.YtabfjecegpaoaaaGreatDoorZb2
set_option maxHeartbeats 16000000
set_option linter.unusedVariables false
namespace Go.Proofs.YtabfjecegpaoaaaGreatDoor
open Go.RowKit Go.Shelf
open Dgt
def ERS (b3 g off n ca k:Nat) (B C:Rt) (en:Bool) (es ed:ByteArray):Nat→Value
 | 0=>.agg #[.bool B.neg,.string (encS B.num),.string (encS B.den)]
 | 1=>.slice (some ⟨g,off,none⟩) n ca
 | 2=>.int .i64 (k:Int)
 | 3=>.pointer (some ⟨g,off+k*3,none⟩)
 | 4=>.agg #[.bool en,.string es,.string ed]
 | 5=>.agg #[.bool C.neg,.string (encS C.num),.string (encS C.den)]
 | _=>undef
set_option maxRecDepth 100000 in
theorem rSum_any (l:List Rw) (v:Value) (wq:World) (hl:LstR wq v l) (hn:l.length≤20) (hs:SzL l 1000) :
  Gv 36 #[v] wq (rtV (sumL l zeroR)):=by
 unfold Gv;obtain ⟨p,ca,rfl,hla,hca⟩:=hl.open;have HC:=hD hca;have HO:=hD (fun w=>rRatOf_any 0 w (by decide) (by decide));rw [ofR_zero] at HO;have HF:Hid (∀k (h:k<l.length) w,Gv 32 #[rtV (sumL (l.take k) zeroR),.agg #[.bool l[k].neg,.string l[k].n,.string l[k].d]] w (rtV (sumL (l.take (k+1)) zeroR))):=hD fun k h w=>by
  rw [sumL_take h];have hh:=sumR_step hn hs zeroR_ok (zeroR_sz.mono (by decide)) h;exact rRatAdd_r hh.1 hh.2 (by decide) (by decide) w
 obtain ⟨A,hA⟩:∃A,zeroR=A:=⟨_,rfl⟩;rw [hA] at HO HF ⊢;clear hca hl hs hA;have HX0:=hD (zeroR_row wq);have HB0:=hD (below_zrow wq rB);go_enter Tryz.func36,Tryz.ntmps36;go_wp2_with fail;refine (HO.out _).mono ?_;rintro e w1 ⟨rfl,hb⟩;unfold rtV;have HX1:=uH hb HX0;have HB1:=hD (HB0.out.trans (hb.mono HB0.out.size));clear hb;obtain ⟨b2,hb2⟩:∃b,wq.heap.size=b:=⟨_,rfl⟩;rw [hb2] at HX1 ⊢;have HX2:=hD (hpU ((Below.refl _ w1).alloc (Nat.le_refl _) (.cells #[.bool A.neg,.string (encS A.num),.string (encS A.den)] 26)) HX1.out);have HX3:=hD (heap_alloc_new w1 (.cells #[.bool A.neg,.string (encS A.num),.string (encS A.den)] 26));have HB2:=hD (HB1.out.alloc HB1.out.size (.cells #[.bool A.neg,.string (encS A.num),.string (encS A.den)] 26));go_wp2_with fail;obtain ⟨W2,hW2⟩:∃W2,w1.alloc (.cells #[.bool A.neg,.string (encS A.num),.string (encS A.den)] 26)=W2:=⟨_,rfl⟩
 obtain ⟨b3,hb3⟩:∃b,w1.heap.size=b:=⟨_,rfl⟩;rw [hW2] at HX2 HX3 HB2 ⊢;rw [hb3] at HX3 ⊢;have HNE:Hid (b2≠b3):=hD (by have:=(Array.getElem?_eq_some_iff.1 HX1.out).1;omega);have HLE:Hid (wq.heap.size≤b3):=hD (by have:=HB1.out.size;omega);clear hW2
 go_loopw [4] (fun i wr=>∃(k:Nat) (B:Rt),k≤l.length∧i=.int .i64 (k:Int)∧Hid (B=sumL (l.take k) A)∧Hid (wr.heap[b3]? =some (.cells #[.bool B.neg,.string (encS B.num),.string (encS B.den)] 26 (0,0)))∧Hid (wr.heap[b2]? =some (.cells #[.bool false,.string ⟨#[]⟩,.string ⟨#[]⟩] 26 (0,0)))∧Hid (Below wq.heap.size wq wr)) (fun i _=>l.length-(intOf i).toNat)
 case atStart=>exact ⟨0,A,by omega,rfl,hD rfl,HX3,HX2,HB2⟩
 case round =>
  obtain ⟨k,B,hk,rfl,HBE,HX3,HX2,HBW⟩:=hrel
  by_cases hlt:k<l.length
  ·have hlt' :(k:Int)<(l.length:Int):=by omega
   obtain ⟨g,off,rfl,hg,c1,c2,c3⟩:=HC.out k hlt;have hgr:=Nat.lt_of_lt_of_le hg HBW.out.size;have d1:wr.cell? ⟨g,off+k*3,none⟩=some (.bool l[k].neg):=by rw [clU HBW.out hg];exact c1
   have d2:wr.cell? ⟨g,off+k*3+1,none⟩=some (.string l[k].n):=by rw [clU HBW.out hg];exact c2
   have d3:wr.cell? ⟨g,off+k*3+2,none⟩=some (.string l[k].d):=by rw [clU HBW.out hg];exact c3
   clear c1 c2 c3;obtain ⟨wo,hwo⟩:∃wo,wo=wr:=⟨_,rfl⟩;subst hwo;have HFK:=hD (HF.out k hlt);rw [←HBE.out] at HFK;obtain ⟨C,hC⟩:∃C,sumL (l.take (k+1)) A=C:=⟨_,rfl⟩;rw [hC] at HFK;have HCE:=hD hC.symm;clear hC;unfold rtV at HFK;obtain ⟨en,hen⟩:∃x,l[k].neg=x:=⟨_,rfl⟩;obtain ⟨es,hes⟩:∃x,l[k].n=x:=⟨_,rfl⟩;obtain ⟨ed,hed⟩:∃x,l[k].d=x:=⟨_,rfl⟩;rw [hen,hes,hed] at HFK;rw [hen] at d1;rw [hes] at d2;rw [hed] at d3;clear hen hes hed;obtain ⟨n,hnl⟩:∃n,l.length=n:=⟨_,rfl⟩;rw [hnl] at hlt hlt' hn hk ⊢;have HNL:=hD hnl;clear hnl;go_wp2_with fail;refine wpTl (w:=wo) (by kernel_rfl) (fun ix v _=>v=ERS b3 g off n ca k B C en es ed ix) 6 (fun t=>(decide (12≤t)&&decide (t<18))) (by decide) (by kernel_rfl) (by kernel_rfl) (by kernel_rfl) (by kernel_rfl) (by kernel_rfl) (fun _ _ _ _ _ h=>h) ?_ ?_
   ·intro i hi o listed a w hR K hK;have ho:=hR.at_;have hi:i<6:=hi;have hii:i=0∨i=1∨i=2∨i=3∨i=4∨i=5:=by omega
    rcases hii with rfl|rfl|rfl|rfl|rfl|rfl
    ·simp at ho;subst ho;have b3:a.tmps.getD 3 undef=.pointer (some ⟨b3,0,none⟩):=hR.b 3;obtain ⟨⟨cx0,cx1,cx2⟩,-⟩:=rwC (hpU hR.below HX3.out);refine pSq ?_;go_simp;exact hK _ _ rfl rB
    ·simp at ho;subst ho;have b0:a.tmps.getD 0 undef=.slice (some ⟨g,off,none⟩) n ca:=hR.b 0;refine pSq ?_;go_simp;exact hK _ _ rfl rB
    ·simp at ho;subst ho;have b4:a.tmps.getD 4 undef=.int .i64 (k:Int):=hR.b 4;refine pSq ?_;go_simp;exact hK _ _ rfl rB
    ·simp at ho;subst ho;have e1:a.tmps.getD 13 undef=.slice (some ⟨g,off,none⟩) n ca:=hR.t 1;have e2:a.tmps.getD 14 undef=.int .i64 (k:Int):=hR.t 2;refine pSq ?_;go_simp;exact hK _ _ rfl rB
    ·simp at ho;subst ho;have e3:a.tmps.getD 15 undef=.pointer (some ⟨g,off+k*3,none⟩):=hR.t 3;have x1:=(clU hR.below hgr).trans d1;have x2:=(clU hR.below hgr).trans d2;have x3:=(clU hR.below hgr).trans d3;refine pSq ?_;go_simp;exact hK _ _ rfl rB
    ·simp at ho;subst ho;have e0:a.tmps.getD 12 undef=.agg #[.bool B.neg,.string (encS B.num),.string (encS B.den)]:=hR.t 0;have e4:a.tmps.getD 16 undef=.agg #[.bool en,.string es,.string ed]:=hR.t 4;refine pSq ?_;go_simp;refine (HFK.out w).mono ?_;rintro e w' ⟨rfl,hb⟩;exact hK _ _ (rfl) hb
   ·intro s w hS hb;have e5:s 17=.agg #[.bool C.neg,.string (encS C.num),.string (encS C.den)]:=hS 5 (by decide);simp only [over,ovL,Nat.reduceAdd,Nat.reduceLeDiff,Nat.reduceLT];obtain ⟨⟨cz0,cz1,cz2⟩,hfz⟩:=rwC (hpU hb HX3.out);have fz0:=hfz 0;have fz1:=hfz 1;have fz2:=hfz 2;refine tail_step (n:=0) rfl rfl ?_;go_simp;simp only [wpTail];have HROW:=hD (row_set (hpU hb HX3.out) (.bool C.neg) (.string (encS C.num)) (.string (encS C.den)));have HBN:=hD (below_row (HBW.out.trans (hb.mono HBW.out.size)) (b:=b3) (by have:=HLE.out;omega) (.bool C.neg) (.string (encS C.num)) (.string (encS C.den)))
    have HZ2:Hid ((((w.setCell ⟨b3,0,none⟩ (.bool C.neg)).setCell ⟨b3,1,none⟩ (.string (encS C.num))).setCell ⟨b3,2,none⟩ (.string (encS C.den))).heap[b2]? =some (.cells #[.bool false,.string ⟨#[]⟩,.string ⟨#[]⟩] 26 (0,0))):=hD (by simpa [World.setCell,Array.getElem?_modify,Ne.symm HNE.out] using hpU hb HX2.out);clear hS hb cz0 cz1 cz2 hfz fz0 fz1 fz2;go_wp2_with fail
    go_roundw
    case rel=>exact ⟨k+1,C,by omega,by go_num,HCE,HROW,HZ2,HBN⟩
    case measure=>simp [intOf];omega
  ·have hge:(l.length:Int)≤(k:Int):=by omega
   have HT:Hid (sumL l A=B):=hD (by rw [HBE.out,List.take_of_length_le (by omega)]);obtain ⟨⟨ca0,ca1,ca2⟩,-⟩:=rwC HX3.out;obtain ⟨⟨cz0,cz1,cz2⟩,hfz⟩:=rwC HX2.out;have fz0:=hfz 0;have fz1:=hfz 1;have fz2:=hfz 2;have HROW:=hD (row_set HX2.out (.bool B.neg) (.string (encS B.num)) (.string (encS B.den)));have HBN:=hD (below_row HBW.out (b:=b2) (by omega) (.bool B.neg) (.string (encS B.num)) (.string (encS B.den)));clear hfz;go_wp2_with fail;refine bodyPost_ret (rC1 HROW.out) rfl ?_;exact ⟨by rw [HT.out];rfl,HBN.out⟩
theorem cells3_one (l:List Rw):∀u ∈ cells3 l,u.oneCell' =true:=by
 intro u hu;simp only [cells3,List.mem_flatMap] at hu;obtain ⟨s,-,hu⟩:=hu;simp at hu;rcases hu with rfl|rfl|rfl<;>rfl
theorem cell_fresh3 (w:World) (x y z:Value) (t:TypeId):∀(j:Nat) (u:Value),[x,y,z][j]? =some u→(w.alloc (.cells #[x,y,z] t)).cell? ((⟨w.heap.size,0,none⟩:Addr).add j)=some u:=by
 intro j u hj;have hr:=heap_alloc_new w (.cells #[x,y,z] t);have hadd:((⟨w.heap.size,0,none⟩:Addr).add j)=⟨w.heap.size,0+j,none⟩:=by unfold Addr.add;split<;>simp_all
 rw [hadd,Nat.zero_add,Lib.cell_of_heap hr]
 match j,hj with
 | 0,hj=>simpa using hj
 | 1,hj=>simpa using hj
 | 2,hj=>simpa using hj
end Go.Proofs.YtabfjecegpaoaaaGreatDoor
namespace Go.Proofs.YtabfjecegpaoaaaGreatDoor
open Go.ChangeShapes Go.WideShapes Go.ChangeAt Go.RowKit
section
variable {H:Type} {enc:TypeId × Value→H} {P:Program}
theorem post_of_below {f:Func} {s:ChangeSpec} {apart fresh handsOn again:Bool} {W W' :World} {args:Array Value} {v:Value} {ds gs:List (DataW H)} {before pa pv:List MemPlace}
  (hW:DataW.Whole enc P f.params.toList s.vars apart W args.toList ds gs before)
  (hres:∀(b:Nat) (sp:Nat→Bool) (hd:Bool),DataW.TrodAll enc P W' b sp hd f.resultTypes.toList (v.resultList f.resultTypes.size) (s.fn H (ds++gs)).results [])
  (hargs:∀sp:Nat→Bool,(∀p ∈ before,sp p.block=true)→DataW.TrodAll enc P W' 0 sp true f.params.toList args.toList (s.fn H (ds++gs)).args pa)
  (hvars:∀sp:Nat→Bool,(∀p ∈ before,sp p.block=true)→DataW.TrodVars enc P W' sp s.vars (s.fn H (ds++gs)).vars pv)
  (hps:before=pa++pv) (hb:Below W.heap.size W W')
  (hok:∀(j:Nat) (t:TypeId) (r:Value),f.resultTypes[j]? =some t→(v.resultList f.resultTypes.size)[j]? =some r→Value.okWide P W' .any 0 t r) :
  s.post enc P f apart fresh handsOn again W args v W' :=by
 have hlt:∀p ∈ before,p.block<W.heap.size:=fun p hp=>hW.lt p hp
 have hold:∀p ∈ before,(fun b=>decide (b<W.heap.size)) p.block=true:=fun p hp=>by simpa using hlt p hp
 refine ⟨ds,gs,before,[],pa,pv,hW,hres _ _ _,hargs _ hold,hvars _ hold,World.keptBut_mono (fun p hp=>⟨hp,?_⟩) (hb.frame (· ∈ before)),fun _=> ?_⟩
 ·rw [hps,List.mem_append] at hp
  exact Or.inr hp
 ·obtain ⟨_,_,_,_,_,hz,hn⟩:=hW
  refine ⟨hok,_,_,([]++pa)++pv,⟨[]++pa,pv,trodAll_append (hargs _ (fun _ _=>rfl)) (hres _ _ _),hvars _ (fun _ _=>rfl),rfl,?_,?_⟩,?_⟩
  ·intro b off hp
   have hin:MemPlace.cell b off ∈ before:=by rw [hps];simpa using hp
   rw [hb.frozen (hlt _ hin)]
   exact hz b off hin
  ·intro ha
   have:=hn ha
   rw [hps] at this
   simpa using this
  ·intro p hp _
   rw [hps]
   simpa using hp
end
end Go.Proofs.YtabfjecegpaoaaaGreatDoor
namespace Go.Proofs.YtabfjecegpaoaaaGreatDoor
open Go.ChangeShapes Go.WideShapes Go.ChangeAt Go.RowKit Go.Deep Go.Shelf
section
variable {H:Type} {enc:TypeId × Value→H} {W:World}
theorem one_cell {cs:List Value} {i:Nat} (h:i<cs.length):(cs.drop i).take 1=[cs[i]]:=by
 rw [List.drop_eq_getElem_cons h];rfl
theorem add_plain3 (g off j:Nat):(⟨g,off,none⟩:Addr).add j=⟨g,off+j,none⟩:=Addr.add_lit ..
theorem add_add3 (a:Addr) (i j:Nat):(a.add i).add j=a.add (i+j):=by
 obtain ⟨g,off,spot⟩:=a;cases i<;>cases j<;>simp [Addr.add]<;>omega
theorem block_lt3 {g off:Nat} {v:Value} (h:W.cell? ⟨g,off,none⟩=some v):g<W.heap.size:=by
 rcases Nat.lt_or_ge g W.heap.size with hl|hl
 ·exact hl
 ·simp [World.cell?,Array.getElem?_eq_none hl] at h
set_option maxRecDepth 100000 in
theorem arg_triples {base:Nat} {v:Value} {d:DataW H} {p:List MemPlace} (hval:Value.okWide Tryz.prog W .any base 52 v) (h:DataW.Trod enc Tryz.prog W 0 (fun _=>true) true 52 v d p) (hlt:∀x ∈ p,x.block<W.heap.size):∃u:Unit,ArgT W v:=by
 refine ⟨(),?_⟩;have hcu:Tryz.prog.cellsOf 3=1:=by kernel_rfl
 have hce:Tryz.prog.cellsOf 22=3:=by kernel_rfl
 obtain ⟨a0,len0,cap0,rfl⟩:=okWide_slice Tryz.underlying52 hval;obtain ⟨fuel,hf⟩:=h;rcases open_slice Tryz.underlying52 hf with ⟨hc,hx⟩|⟨a,len,cap,m,n,D,Pl,hc,hb,hl,hm,hmm,hx,hel⟩
 ·simp [Value.cells] at hc;obtain ⟨rfl,rfl,rfl⟩:=hc;exact ⟨none,0,0,rfl,by omega,fun i h=>absurd h (by omega)⟩
 ·simp [Value.cells] at hc;obtain ⟨rfl,rfl,rfl⟩:=hc;simp only [if_true] at hmm;subst hmm;have hcc:∀i,i<len0→∃x y z:Int,inJ x∧inJ y∧inJ z∧W.cell? (a.add (i*3))=some (.int .i64 x)∧W.cell? (a.add (i*3+1))=some (.int .i64 y)∧W.cell? (a.add (i*3+2))=some (.int .i64 z):=by
   intro i hi;obtain ⟨cs,h1,h2⟩:=hel i (by omega);rw [hce] at h1;obtain ⟨_,hlen,hcell⟩:=World.cells?_some h1;obtain ⟨ys,k,-,-,-,hyl,hall⟩:=DataW.trod_array Tryz.underlying22 h2;have key:∀j,j<3→∃z:Int,inJ z∧W.cell? ((a.add (i*3)).add j)=some (.int .i64 z):=by
    intro j hj;have hjl:j<cs.length:=by omega
    have e1:=hall j hj;rw [hcu,Nat.mul_one,one_cell hjl] at e1;cases hy:ys[j]? with
    | none=>simp [hyl,hj] at hy
    | some y =>
     rw [hy] at e1;obtain ⟨z,hz,-,hw⟩:=DataW.trod_int Tryz.underlying3 e1;refine ⟨z,wf_rng hw,?_⟩;rw [hcell j (by omega),List.getElem?_eq_getElem hjl];simp only [List.cons.injEq,and_true] at hz;rw [hz]
   obtain ⟨x,x1,x2⟩:=key 0 (by omega);obtain ⟨y,y1,y2⟩:=key 1 (by omega);obtain ⟨z,z1,z2⟩:=key 2 (by omega);rw [add_add3] at x2 y2 z2;exact ⟨x,y,z,x1,y1,z1,x2,y2,z2⟩
  refine ⟨some a,_,_,rfl,by unfold maxLen at hm;omega,fun i hi=> ?_⟩;obtain ⟨x,y,z,h1,h2,h3,h4,h5,h6⟩:=hcc i hi;obtain ⟨x0,_,_,_,_,_,h0,_⟩:=hcc 0 (by omega);obtain ⟨g,off,spot⟩:=a;have hspot:spot=none:=by
   have:=World.cell?_spot h0;simpa [Addr.add] using this
  subst hspot;rw [add_plain3] at h4 h5 h6;exact ⟨g,off,x,y,z,rfl,block_lt3 h4,h1,h2,h3,h4,by rw [Nat.add_assoc];exact h5,by rw [Nat.add_assoc];exact h6⟩
end
end Go.Proofs.YtabfjecegpaoaaaGreatDoor
namespace Go.Proofs.YtabfjecegpaoaaaGreatDoor
open Go.RowKit Go.Shelf
open Dgt
theorem sgQ_gt0 {x:Rat}:0<sgQ x↔0<x:=by
 rcases tri x with h|h|h
 ·subst h;exact ⟨fun e=>(by cases e),fun e=>by grind⟩
 ·rw [sgQ_pos h];exact ⟨fun _=>h,fun _=>by omega⟩
 ·rw [sgQ_neg h];exact ⟨fun e=>(by omega),fun e=>by grind⟩
variable {ov:Nat→Rat} {n:Nat} {s:List Nat}
theorem Ordd.not_take (h:Ordd ov n s) {j:Nat} (hj:j<s.length):s[j] ∉ s.take j:=fun hc=>by
 have hd:=h.nodup;rw [←List.take_append_drop j s,List.nodup_append] at hd;exact hd.2.2 _ hc _ (by rw [List.drop_eq_getElem_cons hj];exact List.mem_cons_self) rfl
end Go.Proofs.YtabfjecegpaoaaaGreatDoor
namespace Go.Proofs.YtabfjecegpaoaaaGreatDoor
open Go.RowKit Go.Shelf Go.Lib
open Dgt
theorem centN_ofC (c:Int):centN (ofC c)=ofR c:=q_inj (centN_ok (ofC_ok c)) (ofR_ok c) (by rw [q_centN (ofC_ok c),q_ofC,q_of];grind)
theorem cents_of {c:Int} (h1: -9223372036854775808≤c) (h2:c≤9223372036854775807):centsOk (ofC c)=true∧centsI (ofC c)=c:=by
 have h:centsOk (ofC c)=true:=by
  unfold centsOk;rw [centN_ofC];unfold ofR
  by_cases hc:c<0
  ·simp [hc];omega
  ·simp [hc];omega
 refine ⟨h,?_⟩;unfold centsI;rw [if_pos h,centN_ofC];unfold ofR iv
 by_cases hc:c<0
 ·simp [hc];omega
 ·simp [hc];omega
section
variable {a:Rt}
end
end Go.Proofs.YtabfjecegpaoaaaGreatDoor
namespace Go.Proofs.YtabfjecegpaoaaaGreatDoor
open Go.RowKit Go.Shelf
open Dgt
theorem neg_of (a:Int):negR (ofR a)=ofR (-a):=q_inj (negR_ok (ofR_ok a)) (ofR_ok _) (by rw [q_neg,q_of,q_of,Rat.intCast_neg])
section
variable (c:Int) (ws:List Rt)
end
section
variable {c:Int} {ws:List Rt}
variable {s:List Nat}
theorem parts_len:(partsT c ws s).length=ws.length:=by simp [partsT]
end
section
variable {ov:Nat→Rat} {n i j p:Nat} {s:List Nat}
end
theorem cel_len (l:List Rt):(cel l).length=l.length*3:=by
 induction l with
 | nil=>rfl
 | cons a l ih=>rw [cel_cons,List.length_append,ih,List.length_cons];simp;omega
theorem lsf_congr {f g:Nat→Rt} {n:Nat} (h:∀i,i<n→f i=g i):lsf f n=lsf g n:=by
 unfold lsf;exact List.map_congr_left fun i hi=>h i (List.mem_range.1 hi)
end Go.Proofs.YtabfjecegpaoaaaGreatDoor
