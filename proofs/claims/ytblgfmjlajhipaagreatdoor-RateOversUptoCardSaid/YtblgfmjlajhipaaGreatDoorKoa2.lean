/- RateOvers: contracts and the law's walk. Each theorem names its conditions. -/
import Derived.Shelf.SortM.Plain
import Derived.Shelf.SortM.SortNone
import Derived.Ground.GgzProg
import Derived.Ground.SlgmProg
import Derived.Maps.Own
import Derived.Maps.OwnOps
import Derived.Maps.OwnSet
import Derived.Maps.Views
import Derived.Shelf.SlIterI.Nil
import Derived.WalkKit
import Derived.Deep.LoopGhost
import Derived.Deep.QuietTactic
import Derived.BigQuiet
import Derived.Test.YtblgfmjlajhipaaGreatDoorProg
import Derived.WalkSpells
import Derived.WalkLawsBesides
import Derived.IntWalk
import Derived.Lib.Hide
import Derived.Laws.BitsAllLaws
import Derived.StillTailTactics
import Derived.Deep.OwnRows
import Derived.Lib.ConvBytes
import Derived.Below
import Derived.RangeFuncNested
import Derived.RangeFuncCalls
import Derived.RangeFuncLeaves
import Derived.Shelf.Abstract
import Derived.Lib.LaidIn
import Derived.RegionTactic
import Derived.KernelRfl
import Derived.OrdersIn
import Derived.Shelf.Strings.Trim
import Derived.Shelf.Small.Utf8
import Derived.Shelf.Small.Bits
import Derived.Shelf.Small.Strs
import Derived.Shelf.Strconv.Itoa0
import Derived.Shelf.Strings.Search1
import Derived.Shelf.Strings.Runes
import Derived.Shelf.Strings.AsciiSet
import Derived.Shelf.Unicode.DecodeSlow
import Derived.Shelf.Unicode.DecodeAny
import Derived.Laws.AppendOwn
import Derived.Deep.DeepAppendWide
import Derived.Test.YtblgfmjlajhipaaGreatDoorZb7
import Derived.Test.YtblgfmjlajhipaaGreatDoorKoa1
import Derived.Test.YtblgfmjlajhipaaGreatDoorZc5
import Derived.Test.YtblgfmjlajhipaaGreatDoorZb5
import Derived.Test.YtblgfmjlajhipaaGreatDoorKoa0
import Derived.Test.YtblgfmjlajhipaaGreatDoorZa7
import Derived.Test.YtblgfmjlajhipaaGreatDoorZa6
import Derived.Test.YtblgfmjlajhipaaGreatDoorZa5
import Derived.Test.YtblgfmjlajhipaaGreatDoorZa4
import Derived.Test.YtblgfmjlajhipaaGreatDoorZa3
import Derived.Test.YtblgfmjlajhipaaGreatDoorZa0
import Derived.Test.YtblgfmjlajhipaaGreatDoorZa1
import Derived.Test.YtblgfmjlajhipaaGreatDoorZa2
import Derived.Test.YtblgfmjlajhipaaGreatDoorZb6
import Derived.Test.YtblgfmjlajhipaaGreatDoorZc4
import Derived.Test.YtblgfmjlajhipaaGreatDoorZb9
set_option maxHeartbeats 16000000
set_option linter.unusedVariables false
namespace Go.Proofs.YtblgfmjlajhipaaGreatDoor
open Go.RowKit Go.Shelf Go.Maps
open Dgt
def ErNorm_own_13_1 (ps:Option Addr) (ca:Nat) (l:List Dk) (nx:Int) (np:Int) (b:Rt) (b2:Rt) (E:Bool):Nat→Value
 | 0=>.agg #[.bool b.neg,.string (encS b.num),.string (encS b.den)]
 | 1=>.slice ps l.length ca
 | 2=>.int .i64 nx
 | 3=>.int .i64 np
 | 4=>.agg #[.bool b2.neg,.string (encS b2.num),.string (encS b2.den)]
 | 5=>.bool (!E)
 | _=>undef
set_option maxRecDepth 100000 in
theorem rNorm_own (v:Value) (l:List Dk) (hz:SzD l 1100000) (wq:World) (hl:LstD wq v l) :
  Calls Tryz.prog 35 #[v] wq fun e w' =>∃v',e=.returned v' ∧w'.ownsRow wq.heap.size 64 4 v' (normG (drs l)).length (cells4 ((normG (drs l)).map rawD))∧Below wq.heap.size wq w' :=by
 obtain ⟨ps,ca,rfl,-,hla,hca⟩:=hl.open;have HAT:=hD hca;have HLA:=hD hla;have HZ:=hD hz;have HL:=hD hl;obtain ⟨g0,hg0⟩:∃g,drs l=g:=⟨_,rfl⟩;have hgr:Gr g0:=by rw [←hg0];exact drs_gr l
 have HLE:Hid (g0.length≤l.length):=hD (by rw [←hg0];exact drs_le l);have HLD:=hD (days_le g0);have HND:=hD (fun k hk=>next_days hgr (k:=k) hk);have HNN:=hD (fun k hk=>norm_next hgr (k:=k) hk);have HIN:=hD (fun k hk=>days_in hgr (k:=k) hk);have HLT1:=hD (fun k hk=>last_lt hgr (k:=k) hk);have HNF:=hD (normF_all g0);have HG0:=hD hg0;obtain ⟨ds,hds⟩:∃ds,daysOf g0=ds:=⟨_,rfl⟩;rw [hds] at HLD HND HNN HIN HNF HLT1;clear hca hla hl hz hg0 hgr hds;have HB:=hD (Below.refl wq.heap.size wq);obtain ⟨n0,hn0⟩:∃n,n=wq.heap.size:=⟨_,rfl⟩;rw [←hn0];have HN0:=hD hn0;clear hn0;go_enter Tryz.func35,Tryz.ntmps35;have HO3:Hid (wq.ownsRow n0 64 4 (.slice none 0 0) ([]:List DR).length (cells4 (([]:List DR).map rawD))):=hD own_new_row;go_wp2_with fail
 go_loopw [3,4] (fun u3 u4 wr=>∃(q:Nat) (n:List DR) (la:Int),q≤ds.length∧u4=.int .i64 la∧Hid (la=lastD ds q∧(normF g0 (ds.take q)).1=n∧n.length≤q)∧Hid (wr.ownsRow n0 64 4 u3 n.length (cells4 (n.map rawD)))∧Hid (Below wq.heap.size wq wr)) (fun _ u4 _=>(3652059-intOf u4).toNat)
 case atStart=>exact ⟨0,[],(-1),by omega,by first|rfl|go_num,hD ⟨rfl,rfl,Nat.le_refl _⟩,HO3,HB⟩
 case round =>
  obtain ⟨q,n,la,hk,rfl,HS,HO3,HB⟩:=hrel;have HQ:=hD hk;clear hk;go_wp2_with fail
  go_loopw [5,6] (fun u5 u6 wr=>∃(k:Nat) (nx:Int),k≤l.length∧u5=.int .i64 nx∧u6=.int .i64 (k:Int)∧Hid (nextF (drs (l.take k)) la=nx)∧Hid (wr.ownsRow n0 64 4 u3 n.length (cells4 (n.map rawD)))∧Hid (Below wq.heap.size wq wr)) (fun _ u6 _=>l.length-(intOf u6).toNat)
  case atStart=>exact ⟨0,3652059,by omega,by first|rfl|go_num,by first|rfl|go_num,hD rfl,HO3,HB⟩
  case round =>
   obtain ⟨k,nx,hk,rfl,rfl,HNX,HO3,HB⟩:=hrel
   by_cases hlt:k<l.length
   ·have hlt' :(k:Int)<(l.length:Int):=by omega
    obtain ⟨gl,off,rfl,hat⟩:=HAT.out k hlt;have HE:=hD hat;have c1:=fun w=>rRight2_any l[k] (HZ.out _ (List.getElem_mem hlt)) w
    have HST:=hD (drs_take hlt);obtain ⟨d,hd⟩:∃d,l[k]=d:=⟨_,rfl⟩;rw [hd] at HE c1 HST;obtain ⟨Q,hQ⟩:∃b,goodD d=b:=⟨_,rfl⟩;rw [hQ] at c1 HST;have HLT:=hD hlt;have C1:Hid (∀w,Gv 77 #[.agg #[.int .i64 d.day,.bool d.rt.neg,.string d.rt.n,.string d.rt.d]] w (.bool Q)):=hD c1;clear c1 hat hd hQ hlt hk;have HWI:Hid (IntKind.i64.wrap ((k:Int)+1)=((k+1:Nat):Int)):=hD (by rw [IntWalk.i64_in _ (by have:=HLT.out;have:=HLA.out;omega)];omega);obtain ⟨k1e0,k1e1,k1e2,k1e3⟩:=HE.out _ HB.out;go_wp2_with fail;clear hlt' k1e0 k1e1 k1e2 k1e3;refine (C1.out _).mono ?_;rintro e w1 ⟨rfl,hb⟩;have HO3:=hD (own_up HO3.out hb);have HB:=mH HB hb;clear hb;cases Q
    case false =>
     have HN2:=hD (show nextF (drs (l.take (k+1))) la=nx by rw [HST.out];exact HNX.out);have hwi:=HWI.out;go_wp2_with fail;clear hwi
     go_roundw
     case rel=>exact ⟨k+1,nx,by have:=HLT.out;omega,by first|rfl|go_num,by first|rfl|go_num,HN2,HO3,HB⟩
     case measure=>have:=HLT.out;simp [intOf];omega
    case true =>
     have HSN:=hD (show nextF (drs (l.take (k+1))) la=if la<d.day∧d.day<nx then d.day else nx by rw [HST.out];simp only [if_true];rw [nextF_snoc,HNX.out]);clear HST;obtain ⟨t1,ht1⟩:∃xq,decide (la<d.day)=xq:=⟨_,rfl⟩;have Ht1:=hD ht1;clear ht1;obtain ⟨t2,ht2⟩:∃xq,decide (d.day<nx)=xq:=⟨_,rfl⟩;have Ht2:=hD ht2;clear ht2;cases t1
     case false =>
      cases t2
      case false =>
       have q2:=Ht1.out;have q3:=Ht2.out;have hk3:(k:Int)<(l.length:Int):=by have:=HLT.out;omega
       obtain ⟨k4e0,k4e1,k4e2,k4e3⟩:=HE.out _ HB.out;have HN2:=hD (show nextF (drs (l.take (k+1))) la=nx by rw [HSN.out,if_neg (fun h=>by have:=Ht1.out;have h1:=h.1;rw [decide_eq_true h1] at this;cases this)]);have hwi:=HWI.out;go_wp2_with fail;clear q2 q3 hk3 k4e0 k4e1 k4e2 k4e3 hwi
       go_roundw
       case rel=>exact ⟨k+1,nx,by have:=HLT.out;omega,by first|rfl|go_num,by first|rfl|go_num,HN2,HO3,HB⟩
       case measure=>have:=HLT.out;simp [intOf];omega
      case true =>
       have q5:=Ht1.out;have q6:=Ht2.out;have hk3:(k:Int)<(l.length:Int):=by have:=HLT.out;omega
       obtain ⟨k7e0,k7e1,k7e2,k7e3⟩:=HE.out _ HB.out;have HN2:=hD (show nextF (drs (l.take (k+1))) la=nx by rw [HSN.out,if_neg (fun h=>by have:=Ht1.out;have h1:=h.1;rw [decide_eq_true h1] at this;cases this)]);have hwi:=HWI.out;go_wp2_with fail;clear q5 q6 hk3 k7e0 k7e1 k7e2 k7e3 hwi
       go_roundw
       case rel=>exact ⟨k+1,nx,by have:=HLT.out;omega,by first|rfl|go_num,by first|rfl|go_num,HN2,HO3,HB⟩
       case measure=>have:=HLT.out;simp [intOf];omega
     case true =>
      cases t2
      case false =>
       have q8:=Ht1.out;have q9:=Ht2.out;have hk3:(k:Int)<(l.length:Int):=by have:=HLT.out;omega
       obtain ⟨k10e0,k10e1,k10e2,k10e3⟩:=HE.out _ HB.out;have HN2:=hD (show nextF (drs (l.take (k+1))) la=nx by rw [HSN.out,if_neg (fun h=>by have:=Ht2.out;have h1:=h.2;rw [decide_eq_true h1] at this;cases this)]);have hwi:=HWI.out;go_wp2_with fail;clear q8 q9 hk3 k10e0 k10e1 k10e2 k10e3 hwi
       go_roundw
       case rel=>exact ⟨k+1,nx,by have:=HLT.out;omega,by first|rfl|go_num,by first|rfl|go_num,HN2,HO3,HB⟩
       case measure=>have:=HLT.out;simp [intOf];omega
      case true =>
       have q11:=Ht1.out;have q12:=Ht2.out;have hk3:(k:Int)<(l.length:Int):=by have:=HLT.out;omega
       obtain ⟨k13e0,k13e1,k13e2,k13e3⟩:=HE.out _ HB.out;have HN2:=hD (show nextF (drs (l.take (k+1))) la=d.day by rw [HSN.out,if_pos ⟨by have:=Ht1.out;simpa using this,by have:=Ht2.out;simpa using this⟩]);have hwi:=HWI.out;go_wp2_with fail;clear q11 q12 hk3 k13e0 k13e1 k13e2 k13e3 hwi
       go_roundw
       case rel=>exact ⟨k+1,d.day,by have:=HLT.out;omega,by first|rfl|go_num,by first|rfl|go_num,HN2,HO3,HB⟩
       case measure=>have:=HLT.out;simp [intOf];omega
   ·have hge:¬(k:Int)<(l.length:Int):=by omega
    have HX:=hD (show nextF g0 la=nx by have:=HNX.out;rwa [List.take_of_length_le (by omega),HG0.out] at this);have HNQ:=HND.out q HQ.out;rw [←HS.out.1,HX.out] at HNQ;clear HNX HX
    by_cases hq:q<ds.length
    ·rw [dif_pos hq] at HNQ;obtain ⟨-,hd0,hd1⟩:=HIN.out q hq;have HLT:Hid (la<nx∧nx≤3652058∧q<ds.length∧0≤nx):=hD ⟨by rw [HS.out.1,HNQ];exact HLT1.out q hq,by omega,hq,by omega⟩;have HNS:=hD (HNN.out q hq);have HLS:=hD (lastD_s hq);rw [←HNQ] at HNS HLS;obtain ⟨np,hnp⟩:∃a,nx-1=a:=⟨_,rfl⟩;rw [hnp] at HNS;have HNP:Hid (IntKind.i64.wrap (nx-1)=np):=hD (by rw [IntWalk.i64_in _ (by have:=HLT.out;omega)];exact hnp);have c1:=fun w h=>rOn_any _ l nx HZ.out w (HL.out.up h)
     have c2:=fun w h=>rOn_any _ l np HZ.out w (HL.out.up h)
     rw [HG0.out] at c1 c2;rw [HS.out.2.1] at HNS;obtain ⟨b,hb⟩:∃b,onT g0 nx=b:=⟨_,rfl⟩;rw [hb] at c1 HNS;obtain ⟨b2,hb2⟩:∃b,onT g0 np=b:=⟨_,rfl⟩;rw [hb2] at c2 HNS;obtain ⟨E,hE⟩:∃x,eqR b b2=x:=⟨_,rfl⟩;have HE:=hD hE;have C1:Hid (∀w,Below wq.heap.size wq w→Gv 37 #[.slice ps l.length ca,.int .i64 nx] w (.agg #[.bool b.neg,.string (encS b.num),.string (encS b.den)])):=hD fun w hp0=>c1 w hp0
     have C2:Hid (∀w,Below wq.heap.size wq w→Gv 37 #[.slice ps l.length ca,.int .i64 np] w (.agg #[.bool b2.neg,.string (encS b2.num),.string (encS b2.den)])):=hD fun w hp0=>c2 w hp0
     clear c1 c2 hb hb2 hE hnp HNQ hd0 hd1 hq;have ht:decide (3652058<nx)=false:=by have:=HLT.out;simp;omega
     go_wp2_with fail;clear hge ht;refine (C1.out _ HB.out).mono ?_;rintro e w2 ⟨rfl,hb⟩;have HO3:=hD (own_up HO3.out hb);have HB:=mH HB hb;clear hb;have hN:=heap_alloc_new w2 (.cells #[.bool false,.string ⟨#[]⟩,.string ⟨#[]⟩] 29);have hB:=HB.out.alloc HB.out.size (.cells #[.bool false,.string ⟨#[]⟩,.string ⟨#[]⟩] 29);have HG8_14:Hid (n0≤w2.heap.size):=hD (by rw [HN0.out];exact HB.out.size);have hr3:=own_new HO3.out;have HO3:=hD (HO3.out.alloc (.cells #[.bool false,.string ⟨#[]⟩,.string ⟨#[]⟩] 29));obtain ⟨W3,hW3⟩:∃W,w2.alloc (.cells #[.bool false,.string ⟨#[]⟩,.string ⟨#[]⟩] 29)=W:=⟨_,rfl⟩;obtain ⟨bk8,hbk8⟩:∃b,w2.heap.size=b:=⟨_,rfl⟩;rw [hW3] at hN hB  HO3;rw [hbk8] at hr3;have HR3_bk8:=hD hr3;clear hr3;rw [hbk8] at hN HG8_14;have HX8_14:=hD hN;have HB:=hD hB;clear hN hB;have f15:W3.frozen? ⟨bk8,0,none⟩=false:=frz0 HX8_14.out 0;have f16:W3.frozen? ⟨bk8,1,none⟩=false:=frz0 HX8_14.out 1
     have f17:W3.frozen? ⟨bk8,2,none⟩=false:=frz0 HX8_14.out 2;obtain ⟨k18a,k18b,k18c⟩:=c3 HX8_14;have hB:=(((HB.out.setCell (p:=⟨bk8,0,none⟩) (by rw [←HN0.out];exact HG8_14.out) (.bool b.neg)).setCell (p:=⟨bk8,1,none⟩) (by rw [←HN0.out];exact HG8_14.out) (.string (encS b.num))).setCell (p:=⟨bk8,2,none⟩) (by rw [←HN0.out];exact HG8_14.out) (.string (encS b.den)));have hN:(((W3.setCell ⟨bk8,0,none⟩ (.bool b.neg)).setCell ⟨bk8,1,none⟩ (.string (encS b.num))).setCell ⟨bk8,2,none⟩ (.string (encS b.den))).heap[bk8]? =some (.cells #[.bool b.neg,.string (encS b.num),.string (encS b.den)] 29 (0,0)):=by simp [World.setCell,Array.getElem?_modify,HX8_14.out]
     have ho3:(((W3.setCell ⟨bk8,0,none⟩ (.bool b.neg)).setCell ⟨bk8,1,none⟩ (.string (encS b.num))).setCell ⟨bk8,2,none⟩ (.string (encS b.den))).ownsRow n0 64 4 u3 n.length (cells4 (n.map rawD)):=(own_cell (own_cell (own_cell HO3.out HR3_bk8.out) HR3_bk8.out) HR3_bk8.out);have HO3:=hD ho3;clear ho3;obtain ⟨W4,hW4⟩:∃W,(((W3.setCell ⟨bk8,0,none⟩ (.bool b.neg)).setCell ⟨bk8,1,none⟩ (.string (encS b.num))).setCell ⟨bk8,2,none⟩ (.string (encS b.den)))=W:=⟨_,rfl⟩;rw [hW4] at hN hB  HO3;have HX8_14:=hD hN;have HB:=hD hB;clear hN hB;go_wp2_with fail;clear hW3 hbk8 f15 f16 f17 k18a k18b k18c hW4;refine wpVl (w:=W4) (by kernel_rfl) (fun ix v _=>v=ErNorm_own_13_1 ps ca l nx np b b2 E ix) (fun t=>(decide (50≤t)&&decide (t<56))) (by kernel_rfl) (by kernel_rfl) (by kernel_rfl) (fun _ _ _ _ _ h=>h) ?_ ?_
     ·intro i hi ov_ listed av_ w hR K hK;have ho:=hR.at_;have hi:i<6:=hi;have hii:i=0∨i=1∨i=2∨i=3∨i=4∨i=5:=by omega
      rcases hii with rfl|rfl|rfl|rfl|rfl|rfl<;>(simp at ho;subst ho)
      ·have b8:av_.tmps.getD 8 undef=.pointer (some ⟨bk8,0,none⟩):=hR.b 8;obtain ⟨cx0,cx1,cx2⟩:=c3 (uH hR.below HX8_14);refine pSq ?_;go_simp;exact hK _ _ rfl rB
      ·have b0:av_.tmps.getD 0 undef=.slice ps l.length ca:=hR.b 0;refine pSq ?_;go_simp;exact hK _ _ rfl rB
      ·have b5:av_.tmps.getD 5 undef=.int .i64 nx:=hR.b 5;refine pSq ?_;go_simp;exact hK _ _ rfl rB
      ·have e2:av_.tmps.getD 52 undef=.int .i64 nx:=hR.d 2;have hp:=HNP.out;refine pSq ?_;go_simp;exact hK _ _ rfl rB
      ·have e1:av_.tmps.getD 51 undef=.slice ps l.length ca:=hR.d 1;have e3:av_.tmps.getD 53 undef=.int .i64 np:=hR.d 3;refine pSq ?_;go_simp;refine (C2.out w (HB.out.trans (hR.below.mono HB.out.size))).mono ?_;rintro e w' ⟨rfl,hb⟩;exact hK _ _ (rfl) hb
      ·have e0:av_.tmps.getD 50 undef=.agg #[.bool b.neg,.string (encS b.num),.string (encS b.den)]:=hR.d 0;have e4:av_.tmps.getD 54 undef=.agg #[.bool b2.neg,.string (encS b2.num),.string (encS b2.den)]:=hR.d 4;have hq:=fun w=>run_neqR HE.out w
       refine pSq ?_;go_simp;exact hK _ _ rfl rB
     ·intro sv_ w hS hb;have e5:sv_ 55=.bool (!E):=hS 5 (by decide);simp only [over,ovL,Nat.reduceAdd,Nat.reduceLeDiff,Nat.reduceLT];have HB:=mH HB hb;have HX8_14:=uH hb HX8_14;have HO3:=hD (own_up HO3.out hb);obtain ⟨w5,hw⟩:∃w8,w8=w:=⟨_,rfl⟩;subst hw;rw [e5];clear hS hb e5;cases E
      case false =>
       obtain ⟨k19a,k19b,k19c⟩:=c3 HX8_14;have hN:=heap_alloc_new w5 (.cells #[.int .i64 nx,.bool b.neg,.string (encS b.num),.string (encS b.den)] 64);have hB:=HB.out.alloc HB.out.size (.cells #[.int .i64 nx,.bool b.neg,.string (encS b.num),.string (encS b.den)] 64);have HG60_20:Hid (n0≤w5.heap.size):=hD (by rw [HN0.out];exact HB.out.size);have HL60_20:=hD (Array.getElem?_eq_some_iff.1 HX8_14.out).1;have HX8_14:=hD (hpU ((Below.refl _ w5).alloc (Nat.le_refl _) (.cells #[.int .i64 nx,.bool b.neg,.string (encS b.num),.string (encS b.den)] 64)) HX8_14.out);have hr3:=own_new HO3.out;have HO3:=hD (HO3.out.alloc (.cells #[.int .i64 nx,.bool b.neg,.string (encS b.num),.string (encS b.den)] 64));obtain ⟨W6,hW6⟩:∃W,w5.alloc (.cells #[.int .i64 nx,.bool b.neg,.string (encS b.num),.string (encS b.den)] 64)=W:=⟨_,rfl⟩;obtain ⟨bk60,hbk60⟩:∃b,w5.heap.size=b:=⟨_,rfl⟩;rw [hW6] at hN hB HX8_14 HO3
       rw [hbk60] at hr3;have HR3_bk60:=hD hr3;clear hr3;rw [hbk60] at hN HG60_20 HL60_20;have HX60_20:=hD hN;have HB:=hD hB;clear hN hB;obtain ⟨v21,w7,hrun21,hO,hkp,hbl⟩:=app_dr HO3.out HX60_20.out (one4 _ _ _ _) (.inl (by rw [HN0.out];exact HB.out.size)) (by have:=HS.out.2.2;have:=HLT.out;have:=HLD.out;have:=HLE.out;have:=HLA.out;omega);have HB:=hbl _ _ (by have:=HN0.out;omega) HB;have HO3:=hD hO;clear hO hkp hbl;have HS2:Hid (nx=lastD ds (q+1)∧(normF g0 (ds.take (q+1))).1=n++[(nx,b)]∧(n++[(nx,b)]).length≤q+1):=hD ⟨HLS.out.symm,by rw [HNS.out,if_neg (eqR_false.1 HE.out)],by have:=HS.out.2.2;simp;omega⟩;have HO4:Hid (w7.ownsRow n0 64 4 v21 (n++[(nx,b)]).length (cells4 ((n++[(nx,b)]).map rawD))):=hD (by rw [List.length_append,List.length_singleton,List.map_append,List.map_singleton,cells4_snoc];exact HO3.out)
       go_wp2_with (first|(at_builtin;refine wpList_append_run rfl (.tmp 56) (.tmp 60) 56 rfl _ _ _ _ rfl rfl hrun21 ?_)|fail);clear k19a k19b k19c hW6 hbk60 hrun21
       go_roundw
       case rel=>exact ⟨q+1,n++[(nx,b)],nx,by have:=HLT.out;omega,by first|rfl|go_num,HS2,HO4,HB⟩
       case measure=>have:=HLT.out;simp [intOf];omega
      case true =>
       have HS2:Hid (nx=lastD ds (q+1)∧(normF g0 (ds.take (q+1))).1=n∧n.length≤q+1):=hD ⟨HLS.out.symm,by rw [HNS.out,if_pos (eqR_iff.1 HE.out)],Nat.le_succ_of_le HS.out.2.2⟩;go_wp2_with fail
       go_roundw
       case rel=>exact ⟨q+1,n,nx,by have:=HLT.out;omega,by first|rfl|go_num,HS2,HO3,HB⟩
       case measure=>have:=HLT.out;simp [intOf];omega
    ·rw [dif_neg hq] at HNQ;have HNG:Hid (normG g0=n):=hD (by rw [←HNF.out, ←HS.out.2.1,List.take_of_length_le (by omega)]);have HLR:=HO3;subst HNQ;clear hq;go_wp2_with fail;clear hge;go_ret;exact ⟨_,rfl,by rw [HG0.out,HNG.out];exact HLR.out,by rw [HN0.out];exact HB.out⟩
end Go.Proofs.YtblgfmjlajhipaaGreatDoor
