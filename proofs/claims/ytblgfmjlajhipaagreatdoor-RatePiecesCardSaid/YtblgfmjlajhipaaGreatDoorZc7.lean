/- Contracts that the proofs of this seat share. Each theorem names its conditions. -/

import Derived.Test.YtblgfmjlajhipaaGreatDoorZc6
import Derived.Test.YtblgfmjlajhipaaGreatDoorZb9
import Derived.Test.YtblgfmjlajhipaaGreatDoorZb5
set_option maxHeartbeats 16000000
set_option linter.unusedVariables false
namespace Go.Proofs.YtblgfmjlajhipaaGreatDoor
open Go.RowKit Go.Shelf Go.Maps
open Dgt
theorem Fn.enters78:∀args w,(callFunc 78 args).run Tryz.prog w=.ok (.enter 78 args) w:=enters_of Tryz.func78 (by kernel_rfl) rfl
def Eonc_any_1_1 (n:Nat) (k:Nat) (g:Nat) (off:Nat) (ca:Nat) (day:Int) (dx:Int) (tz:Bool):Nat→Value
 | 0=>.slice (some ⟨g,off,none⟩) n ca
 | 1=>.int .i64 (k:Int)
 | 2=>.pointer (some ⟨g,off+k*4,none⟩)
 | 3=>.pointer (some ⟨g,off+k*4,none⟩)
 | 4=>.int .i64 dx
 | 5=>.int .i64 day
 | 6=>.bool tz
 | 7=>.bool tz
 | _=>undef
set_option maxRecDepth 100000 in
theorem onc_any (n k g off ca bs bd:Nat) (day:Int) (x:DR) (hk:k<n) (wq:World) (hat:AtD wq g (off+k*4) (rawD x)) (hs:wq.heap[bs]? =some (.cells #[.slice (some ⟨g,off,none⟩) n ca] 56 (0,0))) (hd:wq.heap[bd]? =some (.cells #[.int .i64 day] 3 (0,0))) :
  Gv 78 #[.int .i64 (k:Int),.pointer (some ⟨bs,0,none⟩),.pointer (some ⟨bd,0,none⟩)] wq (.bool (decide (day<x.1))):=by
 unfold Gv;obtain ⟨dx,u⟩:=x;have HE:=hD (show AtE wq g (off+k*4) dx u from hat);have HXs:=hD hs;have HXd:=hD hd;have HKN:=hD hk;show Calls Tryz.prog 78 _ wq fun e w' =>e=.returned (.bool (decide (day<dx)))∧_
 obtain ⟨tz,htz⟩:∃xq,decide (day<dx)=xq:=⟨_,rfl⟩;have Htz:=hD htz;clear htz;rw [Htz.out];clear hat hs hd hk;have HB:=hD (Below.refl wq.heap.size wq);obtain ⟨n0,hn0⟩:∃n,n=wq.heap.size:=⟨_,rfl⟩;rw [←hn0];have HN0:=hD hn0;clear hn0;go_enter Tryz.func78,Tryz.ntmps78;go_wp2_with fail;refine wpVl (w:=wq) (by kernel_rfl) (fun ix v _=>v=Eonc_any_1_1 n k g off ca day dx tz ix) (fun t=>(decide (4≤t)&&decide (t<12))) (by kernel_rfl) (by kernel_rfl) (by kernel_rfl) (fun _ _ _ _ _ h=>h) ?_ ?_
 ·intro i hi ov_ listed av_ w hR K hK;have ho:=hR.at_;have hi:i<8:=hi;have hii:i=0∨i=1∨i=2∨i=3∨i=4∨i=5∨i=6∨i=7:=by omega
  rcases hii with rfl|rfl|rfl|rfl|rfl|rfl|rfl|rfl<;>(simp at ho;subst ho)
  ·have b1:av_.tmps.getD 1 undef=.pointer (some ⟨bs,0,none⟩):=hR.b 1;have cx0:w.cell? ⟨bs,0,none⟩=some (.slice (some ⟨g,off,none⟩) n ca):=by rw [Lib.cell_of_heap (hpU hR.below HXs.out)];rfl
   refine pSq ?_;go_simp;exact hK _ _ rfl rB
  ·have b0:av_.tmps.getD 0 undef=.int .i64 (k:Int):=hR.b 0;refine pSq ?_;go_simp;exact hK _ _ rfl rB
  ·have e0:av_.tmps.getD 5 undef=.slice (some ⟨g,off,none⟩) n ca:=hR.d 0;have e1:av_.tmps.getD 6 undef=.int .i64 (k:Int):=hR.d 1;have hk3:(k:Int)<(n:Int):=by have:=HKN.out;omega
   refine pSq ?_;go_simp;exact hK _ _ rfl rB
  ·have e2:av_.tmps.getD 7 undef=.pointer (some ⟨g,off+k*4,none⟩):=hR.d 2;refine pSq ?_;go_simp;exact hK _ _ rfl rB
  ·have e3:av_.tmps.getD 8 undef=.pointer (some ⟨g,off+k*4,none⟩):=hR.d 3;obtain ⟨cx0,cx1,cx2,cx3⟩:=HE.out _ (HB.out.trans (hR.below.mono HB.out.size));refine pSq ?_;go_simp;exact hK _ _ rfl rB
  ·have b2:av_.tmps.getD 2 undef=.pointer (some ⟨bd,0,none⟩):=hR.b 2;have cx0:w.cell? ⟨bd,0,none⟩=some (.int .i64 day):=by rw [Lib.cell_of_heap (hpU hR.below HXd.out)];rfl
   refine pSq ?_;go_simp;exact hK _ _ rfl rB
  ·have e4:av_.tmps.getD 9 undef=.int .i64 dx:=hR.d 4;have e5:av_.tmps.getD 10 undef=.int .i64 day:=hR.d 5;have htz:=Htz.out;refine pSq ?_;go_simp;exact hK _ _ rfl rB
  ·have e6:av_.tmps.getD 11 undef=.bool tz:=hR.d 6;refine pSq ?_;go_simp;exact hK _ _ rfl rB
 ·intro sv_ w hS hb;have e7:sv_ 4=.bool tz:=hS 7 (by decide);simp only [over,ovL,Nat.reduceAdd,Nat.reduceLeDiff,Nat.reduceLT];have HB:=mH HB hb;have HXs:=uH hb HXs;have HXd:=uH hb HXd;obtain ⟨w1,hw⟩:∃w8,w8=w:=⟨_,rfl⟩;subst hw;rw [e7];clear hS hb e7;go_wp2_with fail;go_ret;exact ⟨rfl,by rw [HN0.out];exact HB.out⟩
set_option maxRecDepth 100000 in
theorem On_any (v:Value) (l:List Dk) (day:Int) (hz:SzD l 1100000) (wq:World) (hl:LstD wq v l) :
  Gv 36 #[v,.int .i64 day] wq (.agg #[.bool (onT (drs l) day).neg,.string (encS (onT (drs l) day).num),.string (encS (onT (drs l) day).den)]):=by
 unfold Gv;have HL:=hD hl;have HZ:=hD hz;have hgr:=drs_gr l;have hle:=normG_le l;have HLN:Hid ((normG (drs l)).length≤1000):=hD (by obtain ⟨_,_,_,-,h,-⟩:=hl.open;omega);obtain ⟨g0,hg0⟩:∃g,drs l=g:=⟨_,rfl⟩;have HG0:=hD hg0;rw [hg0] at hgr HLN;have HON:=hD (onT_cnt hgr day);have HMO:=hD (cnt_mono hgr day);have HCL:=hD (@cntB_le (fun k=>decide (day<dayN (normG g0) k)) (normG g0).length);have c1:=fun w=>RatOf_any 0 w (by decide) (by decide)
 obtain ⟨z0,hz0⟩:∃a,ofR 0=a:=⟨_,rfl⟩;rw [hz0] at c1 HON;obtain ⟨V,hV⟩:∃a,onT (drs l) day=a:=⟨_,rfl⟩;have HV:Hid (onT g0 day=V):=hD (by rw [←hg0];exact hV);rw [hV];obtain ⟨n,hn⟩:∃n,normG g0=n:=⟨_,rfl⟩;have HN:=hD hn;rw [hn] at HMO HLN;clear hl hz hgr hle hg0 hz0 hV hn;have C1:Hid (∀w,Gv 58 #[.int .i64 0] w (.agg #[.bool z0.neg,.string (encS z0.num),.string (encS z0.den)])):=hD c1;clear c1;have HB:=hD (Below.refl wq.heap.size wq);obtain ⟨n0,hn0⟩:∃n,n=wq.heap.size:=⟨_,rfl⟩;rw [←hn0];have HN0:=hD hn0;clear hn0;go_enter Tryz.func36,Tryz.ntmps36;obtain ⟨W1,bk3,hW1,hbk3,HX3_1,HB,HG3_1,hup⟩:=boxn HB HN0 (.cells #[.int .i64 day] 3);clear hup;obtain ⟨W2,bk4,hW2,hbk4,HX4_2,HB,HG4_2,hup⟩:=boxZ HB HN0;have HL4_2:=(hup _ _ HX3_1).2;have HX3_1:=(hup _ _ HX3_1).1;clear hup;go_wp2_with fail;clear hW1 hbk3 hW2 hbk4;refine (Norm_own v l HZ.out _ (HL.out.up HB.out)).mono ?_;rintro e w3 ⟨v',rfl,hln,hb⟩
 have HGN:Hid (n0≤W2.heap.size∧bk4<W2.heap.size):=hD ⟨by rw [HN0.out];exact HB.out.size,(Array.getElem?_eq_some_iff.1 HX4_2.out).1⟩;have HX3_1:=uH hb HX3_1;have HX4_2:=uH hb HX4_2;have HB:=mH HB hb;clear hb;rw [HG0.out,HN.out] at hln;rcases hln.2 with ⟨rfl,h0⟩|⟨g9,cap,cur,rfl,hg9,hgh,hc1,hc2,hc3,hc4⟩
 ·have hx0:=h0;clear hx0 hln;have HL0:Hid (n=[]):=hD (List.eq_nil_of_length_eq_zero h0);obtain ⟨W4,bk5,hW4,hbk5,HX5_3,HB,HG5_3,hup⟩:=boxn HB HN0 (.cells #[.slice none 0 0] 56);have HL5_3:=(hup _ _ HX4_2).2;have HX3_1:=(hup _ _ HX3_1).1;have HX4_2:=(hup _ _ HX4_2).1;clear hup;have f4:W4.frozen? ⟨bk5,0,none⟩=false:=frz0 HX5_3.out 0;have k5:W4.cell? ⟨bk5,0,none⟩=some (.slice none 0 0):=by rw [Lib.cell_of_heap HX5_3.out];rfl
  have hB:=(HB.out.setCell (p:=⟨bk5,0,none⟩) (by rw [←HN0.out];exact HG5_3.out) (.slice none 0 0));have hN:(W4.setCell ⟨bk5,0,none⟩ (.slice none 0 0)).heap[bk5]? =some (.cells #[.slice none 0 0] 56 (0,0)):=by simp [World.setCell,Array.getElem?_modify,HX5_3.out]
  have hx3_1:(W4.setCell ⟨bk5,0,none⟩ (.slice none 0 0)).heap[bk3]? =_:=(row_else HX3_1.out (en2 HL4_2 HL5_3) _);have HX3_1:=hD hx3_1;clear hx3_1;have hx4_2:(W4.setCell ⟨bk5,0,none⟩ (.slice none 0 0)).heap[bk4]? =_:=(row_else HX4_2.out (en1 HL5_3) _);have HX4_2:=hD hx4_2;clear hx4_2;obtain ⟨W5,hW5⟩:∃W,(W4.setCell ⟨bk5,0,none⟩ (.slice none 0 0))=W:=⟨_,rfl⟩;rw [hW5] at hN hB HX3_1 HX4_2;have HX5_3:=hD hN;have HB:=hD hB;clear hN hB;have HS:=hD (fun w (h1:w.heap[bk5]? =some (.cells #[.slice none 0 0] 56 (0,0))) (h2:w.heap[bk3]? =some (.cells #[.int .i64 day] 3 (0,0)))=>search_any _ #[.pointer (some ⟨bk5,0,none⟩),.pointer (some ⟨bk3,0,none⟩)] 0 (fun k=>decide (day<dayN n k)) w Fn.enters78 (by decide) (fun k hk w' hb=>absurd hk (by omega)) (fun a b h1 h2=>absurd h2 (by omega)));have HC0:Hid (cntB (fun k=>decide (day<dayN n k)) 0=0):=hD rfl;simp only [HC0.out] at HS
  have k6:W5.cell? ⟨bk5,0,none⟩=some (.slice none 0 0):=by rw [Lib.cell_of_heap HX5_3.out];rfl
  go_wp2_with fail;clear hW4 hbk5 f4 k5 hW5 k6;refine (HS.out _ HX5_3.out HX3_1.out).mono ?_;rintro e w6 ⟨rfl,hb⟩;have HX3_1:=uH hb HX3_1;have HX4_2:=uH hb HX4_2;have HX5_3:=uH hb HX5_3;have HB:=mH HB hb;clear hb;have hV:V=z0:=by have h:=HON.out;rw [HV.out] at h;rw [h];split;rfl;rw [dif_neg (by rw [HN.out,HL0.out];exact Nat.lt_irrefl 0)]
  subst hV;go_wp2_with fail;refine (C1.out _).mono ?_;rintro e w7 ⟨rfl,hb⟩;have HX3_1:=uH hb HX3_1;have HX4_2:=uH hb HX4_2;have HX5_3:=uH hb HX5_3;have HB:=mH HB hb;clear hb;obtain ⟨W8,hW8,HX4_2,HB,ho,f7a,f7b,f7c,k7a,k7b,k7c⟩:=putR HX4_2 HB HN0 HG4_2 V;have HX3_1:=ho _ _ (en1 HL4_2) HX3_1;have HX5_3:=ho _ _ (ne1 HL5_3) HX5_3;clear ho;go_wp2_with fail;clear f7a f7b f7c k7a k7b k7c hW8;refine bodyPost_ret (rC1 HX4_2.out) rfl ?_;exact ⟨rfl,by rw [HN0.out];exact HB.out⟩
 ·have hx0:=hg9;clear hx0;have HG9:Hid (n0≤g9):=hD (by have:=HGN.out;omega);have HL9:Hid (bk4<g9):=hD (by have:=HGN.out;omega);have HX9:=hD hgh;have HOC:Hid (∀W:World,W.heap[g9]? =some (.cells cur 64 (0,0))→LstD W (.slice (some ⟨g9,0,none⟩) n.length cap) (n.map rawD)):=hD (fun W h=>own_lstD (base:=0) (by rw [List.length_map];exact ⟨hln.1,.inr ⟨g9,cap,cur,rfl,Nat.zero_le _,h,hc1,hc2,hc3,hc4⟩⟩) (by rw [List.length_map];exact HLN.out));have HCN:=hD hc1;clear hg9 hgh hc1 hc2 hc3 hc4 hln;obtain ⟨W9,bk5,hW9,hbk5,HX5_8,HB,HG5_8,hup⟩:=boxn HB HN0 (.cells #[.slice none 0 0] 56);have HL5_8:=(hup _ _ HX9).2;have HX3_1:=(hup _ _ HX3_1).1;have HX4_2:=(hup _ _ HX4_2).1;have HX9:=(hup _ _ HX9).1;clear hup;have f9:W9.frozen? ⟨bk5,0,none⟩=false:=frz0 HX5_8.out 0;have k10:W9.cell? ⟨bk5,0,none⟩=some (.slice none 0 0):=by rw [Lib.cell_of_heap HX5_8.out];rfl
  have hB:=(HB.out.setCell (p:=⟨bk5,0,none⟩) (by rw [←HN0.out];exact HG5_8.out) (.slice (some ⟨g9,0,none⟩) n.length cap));have hN:(W9.setCell ⟨bk5,0,none⟩ (.slice (some ⟨g9,0,none⟩) n.length cap)).heap[bk5]? =some (.cells #[.slice (some ⟨g9,0,none⟩) n.length cap] 56 (0,0)):=by simp [World.setCell,Array.getElem?_modify,HX5_8.out]
  have hx3_1:(W9.setCell ⟨bk5,0,none⟩ (.slice (some ⟨g9,0,none⟩) n.length cap)).heap[bk3]? =_:=(row_else HX3_1.out (en3 HL4_2 HL9 HL5_8) _);have HX3_1:=hD hx3_1;clear hx3_1;have hx4_2:(W9.setCell ⟨bk5,0,none⟩ (.slice (some ⟨g9,0,none⟩) n.length cap)).heap[bk4]? =_:=(row_else HX4_2.out (en2 HL9 HL5_8) _);have HX4_2:=hD hx4_2;clear hx4_2;have hx9:(W9.setCell ⟨bk5,0,none⟩ (.slice (some ⟨g9,0,none⟩) n.length cap)).heap[g9]? =_:=(row_else HX9.out (en1 HL5_8) _);have HX9:=hD hx9;clear hx9;obtain ⟨W10,hW10⟩:∃W,(W9.setCell ⟨bk5,0,none⟩ (.slice (some ⟨g9,0,none⟩) n.length cap))=W:=⟨_,rfl⟩;rw [hW10] at hN hB HX3_1 HX4_2 HX9;have HX5_8:=hD hN;have HB:=hD hB;clear hN hB;obtain ⟨c,hc⟩:∃c,cntB (fun k=>decide (day<dayN n k)) n.length=c:=⟨_,rfl⟩
  have HS:=hD (fun w (h0:w.heap[g9]? =some (.cells cur 64 (0,0))) (h1:w.heap[bk5]? =some (.cells #[.slice (some ⟨g9,0,none⟩) n.length cap] 56 (0,0))) (h2:w.heap[bk3]? =some (.cells #[.int .i64 day] 3 (0,0)))=>search_any _ #[.pointer (some ⟨bk5,0,none⟩),.pointer (some ⟨bk3,0,none⟩)] n.length (fun k=>decide (day<dayN n k)) w Fn.enters78 HLN.out (fun k hk w' hb=>by
   obtain ⟨pn,cn,e1,-,-,hat⟩:=(HOC.out w h0).open;rw [Value.slice.injEq] at e1;obtain ⟨g,off,e3,h4⟩:=hat k (by rw [List.length_map];exact hk);rw [←e1.1] at e3;simp only [Option.some.injEq,Addr.mk.injEq,and_true] at e3;rw [List.getElem_map, ←e3.1, ←e3.2] at h4;have:=onc_any n.length k g9 0 cap bk5 bk3 day n[k] hk w' (h4.up hb) (hpU hb h1) (hpU hb h2);rw [dayN_at hk];exact this) HMO.out)
  simp only [hc] at HS;have HCC:=hD hc;clear hc;have HVC:Hid ((3652058<day→V=z0)∧(¬3652058<day→(c=0→V=z0)∧(∀h:0<c∧c-1<n.length,V=(n[c-1]'h.2).2))∧c≤n.length):=hD (by
   have h:=HON.out;have h2:=HN.out;have h3:=HCC.out;have h4:=HV.out;have h5:=HCL.out;subst h2;subst h3;rw [h4] at h;refine ⟨fun h6=>by rw [h,if_pos h6],fun h6=>⟨fun h7=> ?_,fun h7=> ?_⟩,h5⟩
   ·rw [h,if_neg h6,dif_neg (by omega)]
   ·rw [h,if_neg h6,dif_pos h7.1])
  have k11:W10.cell? ⟨bk5,0,none⟩=some (.slice (some ⟨g9,0,none⟩) n.length cap):=by rw [Lib.cell_of_heap HX5_8.out];rfl
  go_wp2_with fail;clear hW9 hbk5 f9 k10 hW10 k11;refine (HS.out _ HX9.out HX5_8.out HX3_1.out).mono ?_;rintro e w11 ⟨rfl,hb⟩;have HX3_1:=uH hb HX3_1;have HX4_2:=uH hb HX4_2;have HX9:=uH hb HX9;have HX5_8:=uH hb HX5_8;have HB:=mH HB hb;clear hb
  by_cases hc0:c=0
  ·subst hc0;have hV:V=z0:=by by_cases h:3652058<day;exact HVC.out.1 h;exact (HVC.out.2.1 (by omega)).1 rfl
   subst hV;go_wp2_with fail;refine (C1.out _).mono ?_;rintro e w12 ⟨rfl,hb⟩;have HX3_1:=uH hb HX3_1;have HX4_2:=uH hb HX4_2;have HX9:=uH hb HX9;have HX5_8:=uH hb HX5_8;have HB:=mH HB hb;clear hb;obtain ⟨W13,hW13,HX4_2,HB,ho,f12a,f12b,f12c,k12a,k12b,k12c⟩:=putR HX4_2 HB HN0 HG4_2 V;have HX3_1:=ho _ _ (en1 HL4_2) HX3_1;have HX9:=ho _ _ (ne1 HL9) HX9;have HX5_8:=ho _ _ (ne2 HL9 HL5_8) HX5_8;clear ho;go_wp2_with fail;clear f12a f12b f12c k12a k12b k12c hW13;refine bodyPost_ret (rC1 HX4_2.out) rfl ?_;exact ⟨rfl,by rw [HN0.out];exact HB.out⟩
  ·obtain ⟨j,hj0⟩:∃j,c-1=j:=⟨_,rfl⟩;have h1:((c:Int)==0)=false:=by simp;omega
   have HJ0:Hid (j+1=c):=hD (by omega);clear hc0 hj0;obtain ⟨tl,htl⟩:∃xq,decide (3652058<day)=xq:=⟨_,rfl⟩;have Htl:=hD htl;clear htl;cases tl
   case false =>
    have q13:=Htl.out;have k14:w11.cell? ⟨bk3,0,none⟩=some (.int .i64 day):=by rw [Lib.cell_of_heap HX3_1.out];rfl
    have hj:j<n.length:=by have:=HVC.out.2.2;have:=HJ0.out;omega
    have hV:V=(n[j]'hj).2:=by
     have h:=(HVC.out.2.1 (by have:=Htl.out;simp at this;omega)).2 ⟨by have:=HJ0.out;omega,by have:=HJ0.out;omega⟩;have e:=HJ0.out;subst e;exact h
    obtain ⟨dx,hdx⟩:∃x,n[j]=x:=⟨_,rfl⟩;have HE:Hid (AtE w11 g9 (j*4) dx.1 V):=hD (by
     obtain ⟨pn,cn,e1,-,-,hat⟩:=(HOC.out _ HX9.out).open;rw [Value.slice.injEq] at e1;obtain ⟨g,off,e3,h4⟩:=hat j (by rw [List.length_map];exact hj);rw [←e1.1] at e3;simp only [Option.some.injEq,Addr.mk.injEq,and_true] at e3;rw [List.getElem_map, ←e3.1, ←e3.2] at h4;rw [hV, ←hdx, ←Nat.zero_add (j*4)];exact h4)
    have hj2:(j:Int)<(n.length:Int):=by omega
    have hj3:IntKind.i64.wrap ((c:Int)-1)=(j:Int):=by rw [IntWalk.i64_in _ (by have:=HLN.out;have:=HJ0.out;omega)];have:=HJ0.out;omega
    have HHJ:=hD (And.intro hj2 hj3);clear hV hj hdx hj2 hj3;have k15:w11.cell? ⟨bk3,0,none⟩=some (.int .i64 day):=by rw [Lib.cell_of_heap HX3_1.out];rfl
    obtain ⟨hj2,hj3⟩:=HHJ.out;have k16:w11.cell? ⟨bk5,0,none⟩=some (.slice (some ⟨g9,0,none⟩) n.length cap):=by rw [Lib.cell_of_heap HX5_8.out];rfl
    obtain ⟨k17e0,k17e1,k17e2,k17e3⟩:=HE.out _ rB;obtain ⟨W14,hW14,HX4_2,HB,ho,f18a,f18b,f18c,k18a,k18b,k18c⟩:=putR HX4_2 HB HN0 HG4_2 V;have HX3_1:=ho _ _ (en1 HL4_2) HX3_1;have HX9:=ho _ _ (ne1 HL9) HX9;have HX5_8:=ho _ _ (ne2 HL9 HL5_8) HX5_8;clear ho;go_wp2_with fail;clear h1 q13 k14 k15 hj2 hj3 k16 k17e0 k17e1 k17e2 k17e3 f18a f18b f18c k18a k18b k18c hW14;refine bodyPost_ret (rC1 HX4_2.out) rfl ?_;exact ⟨rfl,by rw [HN0.out];exact HB.out⟩
   case true =>
    have q19:=Htl.out;have hV:V=z0:=HVC.out.1 (by have:=Htl.out;simpa using this);subst hV;have k20:w11.cell? ⟨bk3,0,none⟩=some (.int .i64 day):=by rw [Lib.cell_of_heap HX3_1.out];rfl
    have k21:w11.cell? ⟨bk3,0,none⟩=some (.int .i64 day):=by rw [Lib.cell_of_heap HX3_1.out];rfl
    go_wp2_with fail;clear h1 q19 k20 k21;refine (C1.out _).mono ?_;rintro e w15 ⟨rfl,hb⟩;have HX3_1:=uH hb HX3_1;have HX4_2:=uH hb HX4_2;have HX9:=uH hb HX9;have HX5_8:=uH hb HX5_8;have HB:=mH HB hb;clear hb;obtain ⟨W16,hW16,HX4_2,HB,ho,f22a,f22b,f22c,k22a,k22b,k22c⟩:=putR HX4_2 HB HN0 HG4_2 V;have HX3_1:=ho _ _ (en1 HL4_2) HX3_1;have HX9:=ho _ _ (ne1 HL9) HX9;have HX5_8:=ho _ _ (ne2 HL9 HL5_8) HX5_8;clear ho;go_wp2_with fail;clear f22a f22b f22c k22a k22b k22c hW16;refine bodyPost_ret (rC1 HX4_2.out) rfl ?_;exact ⟨rfl,by rw [HN0.out];exact HB.out⟩
end Go.Proofs.YtblgfmjlajhipaaGreatDoor
